-- printed by wip/tools/xp.py of this project (not trusted: Lean checks it)
import Derived.Test.YtmekcfmhaflghaaPTenSx0
import Derived.Test.YtmekcfmhaflghaaPTenSx3
import Derived.Test.YtmekcfmhaflghaaPTenSx4
import Derived.Test.YtmekcfmhaflghaaPTenSx5
namespace Go.Proofs.Ytmekcfmhaflghaa.PTenS
open Go.RowKit Go.Proofs.YtmekcfmhaflghaaW.PrintWords Go.Proofs.YtmekcfmhaflghaaW.PrintLast Go.Proofs.YtmekcfmhaflghaaW.PrintMore Go.Proofs.Ytmekcfmhaflghaa.XW
attribute [local go_sem] max2_int min2_int max_two min_two max_three min_three max_four min_four max_five min_five   -- for this text's walks alone
set_option linter.unusedVariables false
set_option linter.unusedSimpArgs false

/-! ### fix_Dot: function 47 -/
def fix_Dot.l0 : Nat → List Int → List Int → Int → Int → Int → Option (Int)
 | 0, _, _, _, _, _ => none
 | k + 1, x0, x1, x5, x11, x12 => if x12 < x11 then (if 0 ≤ x12 then (if x12 < (x0.length : Int) then (if x12 < (x1.length : Int) then ((fix_F_Mul.f k (rd x0 x12) (rd x1 x12)).bind fun t299 => ((fix_F_Add.f k x5 t299).bind fun t300 => (fix_Dot.l0 k x0 x1 t300 x11 (wrap64 (x12 + 1))))) else (none)) else (none)) else (none)) else (some x5)
def fix_Dot.f (k : Nat) (l0 : List Int) (l1 : List Int) : Option (Int) := fix_Dot.l0 k l0 l1 0 (mn (l0.length : Int) (l1.length : Int)) 0
theorem fix_Dot.mono_l : ∀ k, (∀ y0 y1 y2 y3 y4, LeO (fix_Dot.l0 k y0 y1 y2 y3 y4) (fix_Dot.l0 (k + 1) y0 y1 y2 y3 y4))
 | 0 => fun _ _ _ _ _ r h => by simp [fix_Dot.l0] at h
 | k + 1 => by
  have ih0 := fix_Dot.mono_l k
  ·intro y0 y1 y2 y3 y4
   unfold fix_Dot.l0
   repeat' first
   | (with_reducible exact ih0 _ _ _ _ _)
   | (with_reducible exact fix_F_Add.mono _ _ _)
   | (with_reducible exact fix_F_Mul.mono _ _ _)
   | (with_reducible exact LeO.refl _)
   | (with_reducible exact LeO.none _)
   | (with_reducible refine LeO.ite ?_ ?_)
   | (with_reducible refine LeO.bind ?_ (fun _ => ?_))
   | exact ih0 _ _ _ _ _
   | exact fix_F_Add.mono _ _ _
   | exact fix_F_Mul.mono _ _ _
   | exact LeO.none _
   | refine LeO.ite ?_ ?_
   | refine LeO.bind ?_ (fun _ => ?_)
theorem fix_Dot.mono : ∀ a0 a1 k, LeO (fix_Dot.f k a0 a1) (fix_Dot.f (k + 1) a0 a1) := by
 intro a0 a1 k
 have ih0 := fix_Dot.mono_l k
 unfold fix_Dot.f
 repeat' first
   | (with_reducible exact ih0 _ _ _ _ _)
   | (with_reducible exact fix_F_Add.mono _ _ _)
   | (with_reducible exact fix_F_Mul.mono _ _ _)
   | (with_reducible exact LeO.refl _)
   | (with_reducible exact LeO.none _)
   | (with_reducible refine LeO.ite ?_ ?_)
   | (with_reducible refine LeO.bind ?_ (fun _ => ?_))
   | exact ih0 _ _ _ _ _
   | exact fix_F_Add.mono _ _ _
   | exact fix_F_Mul.mono _ _ _
   | exact LeO.none _
   | refine LeO.ite ?_ ?_
   | refine LeO.bind ?_ (fun _ => ?_)
set_option maxHeartbeats 8000000 in
set_option maxRecDepth 100000 in
theorem fix_Dot.calls (k : Nat) (A0 : Option Addr) (c0 : Nat) (l0 : List Int) (A1 : Option Addr) (c1 : Nat) (l1 : List Int) (r : Int) (w : World) (hr0 : Kd.C (Kd.int .i64) w A0 l0.length l0) (hc0 : l0.length ≤ c0) (hr1 : Kd.C (Kd.int .i64) w A1 l1.length l1) (hc1 : l1.length ≤ c1) (h : fix_Dot.f k l0 l1 = some r) :
  Calls Try.prog 47 #[.slice A0 l0.length c0, .slice A1 l1.length c1] w fun e w' => e = .returned (.int .i64 r) ∧ Below w.heap.size w w' := by
 have HR0 := Aside0.mk hr0
 have HC0 := Aside0.mk hc0
 clear hr0 hc0
 have HR1 := Aside0.mk hr1
 have HC1 := Aside0.mk hc1
 clear hr1 hc1
 have HB := aM (Below.refl w.heap.size w)
 have H : (fix_Dot.l0 k l0 l1 0 (mn (l0.length : Int) (l1.length : Int)) 0) = some r := h
 clear h
 obtain ⟨ji3, hji3⟩ : ∃ j_ : Int, (mn (l0.length : Int) (l1.length : Int)) = j_ := ⟨_, rfl⟩
 replace H : (fix_Dot.l0 k l0 l1 0 ji3 0) = some r := by first | (rw [hji3] at H; exact H) | (simp only [hji3] at H ⊢; exact H)
 (try (have hji3l : 0 ≤ ji3 := by (rw [← hji3]; unfold mn; (repeat' split) <;> omega)))
 (try (have hji3m : 0 ≤ ji3 := by omega))
 have hji3n : (if l1.length < l0.length then (l1.length : Int) else (l0.length : Int)) = ji3 := by have h_ := hji3; unfold mn at h_; simpa using h_
 have hji3_ : (if (l1.length : Int) < (l0.length : Int) then (l1.length : Int) else (l0.length : Int)) = ji3 := hji3
 have H' := Aside0.mk H
 clear H
 go_enter Try.func47, Try.ntmps47
 go_wp2
 repeat (go_quiet (fail); try go_wp2)
 go_loopg [5, 12] k (fun kq v5 v12 w' => ∃ (x5_1 : Int) (x12_1 : Int), v5 = .int .i64 x5_1 ∧ v12 = .int .i64 x12_1 ∧ Aside0 (fix_Dot.l0 kq l0 l1 x5_1 ji3 x12_1 = some r) ∧ Aside0 (kq ≤ k) ∧ Aside0 (Below w.heap.size w w'))
 case atStart => exact ⟨(0), (0), (by first | rfl | (simp; done) | (simp [*]; done)), (by first | rfl | (simp; done) | (simp [*]; done)), H', ⟨Nat.le_refl _⟩, ⟨by repeat (first | (with_reducible first|exact HB.out|apply bA|apply bN|apply bD)|exact HB.out)⟩⟩
 case round =>
  clear H'
  (try clear c1)
  obtain ⟨x5_1, x12_1, rfl, rfl, HA, HK1, HB⟩ := hrel
  cases gk with
  | zero => exact absurd HA.out (by simp [fix_Dot.l0])
  | succ k1 =>
   have H := HA.out
   clear HA
   simp only [fix_Dot.l0] at H
   by_cases c4 : x12_1 < ji3
   ·rw [if_pos c4] at H
    have c4b0 : decide (x12_1 < ji3) = true := decide_eq_true c4
    clear c4
    by_cases c5 : 0 ≤ x12_1
    ·rw [if_pos c5] at H
     have c5b0 : decide (0 ≤ x12_1) = true := decide_eq_true c5
     clear c5
     by_cases c6 : x12_1 < (l0.length : Int)
     ·rw [if_pos c6] at H
      have c6b0 : decide (x12_1 < (l0.length : Int)) = true := decide_eq_true c6
      clear c6
      by_cases c7 : x12_1 < (l1.length : Int)
      ·rw [if_pos c7] at H
       have c7b0 : decide (x12_1 < (l1.length : Int)) = true := decide_eq_true c7
       clear c7
       replace H := Option.bind_eq_some_iff.mp H
       obtain ⟨t299, A80, H⟩ := H
       replace H : ((fix_F_Add.f k1 x5_1 t299).bind fun t300 => (fix_Dot.l0 k1 l0 l1 t300 ji3 (wrap64 (x12_1 + 1)))) = some r := H
       have A8 := Aside0.mk A80
       clear A80
       replace H := Option.bind_eq_some_iff.mp H
       obtain ⟨t300, A90, H⟩ := H
       replace H : (fix_Dot.l0 k1 l0 l1 t300 ji3 (wrap64 (x12_1 + 1))) = some r := H
       have A9 := Aside0.mk A90
       clear A90
       as_aux_lemma =>
        have H' := Aside0.mk H
        clear H
        have p297 : 0 ≤ (x12_1 : Int) := of_decide_eq_true (by first | (with_reducible assumption) | assumption)
        have q297 : x12_1 < (l0.length : Int) := of_decide_eq_true (by first | (with_reducible assumption) | assumption)
        obtain ⟨ad297, e297, hx297_0⟩ := Kd.at_int HR0.out x12_1 p297 q297
        cases e297
        replace hx297_0 := (HB.out.cell (World.block_lt_of_cell? w _ hx297_0)).trans hx297_0
        replace p297 := eq_true p297
        replace q297 := eq_true q297
        have p298 : 0 ≤ (x12_1 : Int) := of_decide_eq_true (by first | (with_reducible assumption) | assumption)
        have q298 : x12_1 < (l1.length : Int) := of_decide_eq_true (by first | (with_reducible assumption) | assumption)
        obtain ⟨ad298, e298, hx298_0⟩ := Kd.at_int HR1.out x12_1 p298 q298
        cases e298
        replace hx298_0 := (HB.out.cell (World.block_lt_of_cell? w _ hx298_0)).trans hx298_0
        replace p298 := eq_true p298
        replace q298 := eq_true q298
        go_wp2_with (first | (go_at_call 46; (with_reducible refine (fix_F_Mul.calls k1 (rd l0 x12_1) (rd l1 x12_1) t299 _ A8.out).mono ?_); rintro e w' ⟨rfl, ⟨nd, rfl⟩⟩; (try first|exact ⟨rfl, _, World.drewN_drewN _ _ _⟩|exact ⟨rfl, _, Eq.trans (World.drewN_drewN _ _ _) (congrArg (World.drewN _) (Nat.add_assoc _ _ _))⟩)) | (go_at_call 45; (with_reducible refine (fix_F_Add.calls k1 x5_1 t299 t300 _ A9.out).mono ?_); rintro e w' ⟨rfl, ⟨nd, rfl⟩⟩; (try first|exact ⟨rfl, _, World.drewN_drewN _ _ _⟩|exact ⟨rfl, _, Eq.trans (World.drewN_drewN _ _ _) (congrArg (World.drewN _) (Nat.add_assoc _ _ _))⟩)))
        repeat (go_quiet (first | (go_at_call 46; (with_reducible refine (fix_F_Mul.calls k1 (rd l0 x12_1) (rd l1 x12_1) t299 _ A8.out).mono ?_); rintro e w' ⟨rfl, ⟨nd, rfl⟩⟩; (try first|exact ⟨rfl, _, World.drewN_drewN _ _ _⟩|exact ⟨rfl, _, Eq.trans (World.drewN_drewN _ _ _) (congrArg (World.drewN _) (Nat.add_assoc _ _ _))⟩)) | (go_at_call 45; (with_reducible refine (fix_F_Add.calls k1 x5_1 t299 t300 _ A9.out).mono ?_); rintro e w' ⟨rfl, ⟨nd, rfl⟩⟩; (try first|exact ⟨rfl, _, World.drewN_drewN _ _ _⟩|exact ⟨rfl, _, Eq.trans (World.drewN_drewN _ _ _) (congrArg (World.drewN _) (Nat.add_assoc _ _ _))⟩))); try go_wp2_with (first | (go_at_call 46; (with_reducible refine (fix_F_Mul.calls k1 (rd l0 x12_1) (rd l1 x12_1) t299 _ A8.out).mono ?_); rintro e w' ⟨rfl, ⟨nd, rfl⟩⟩; (try first|exact ⟨rfl, _, World.drewN_drewN _ _ _⟩|exact ⟨rfl, _, Eq.trans (World.drewN_drewN _ _ _) (congrArg (World.drewN _) (Nat.add_assoc _ _ _))⟩)) | (go_at_call 45; (with_reducible refine (fix_F_Add.calls k1 x5_1 t299 t300 _ A9.out).mono ?_); rintro e w' ⟨rfl, ⟨nd, rfl⟩⟩; (try first|exact ⟨rfl, _, World.drewN_drewN _ _ _⟩|exact ⟨rfl, _, Eq.trans (World.drewN_drewN _ _ _) (congrArg (World.drewN _) (Nat.add_assoc _ _ _))⟩))))
        go_roundg k1
        case measure => have := HK1.out; omega
        case rel => exact ⟨(t300), (wrap64 (x12_1 + 1)), (by first | rfl | (simp; done) | (simp [*]; done)), (by first | rfl | (simp; done) | (simp [*]; done)), H', ⟨by have := HK1.out; omega⟩, ⟨by repeat (first | (with_reducible first|exact HB.out|apply bA|apply bN|apply bD)|exact HB.out)⟩⟩
      ·rw [if_neg c7] at H
       exact absurd H (by simp)
     ·rw [if_neg c6] at H
      exact absurd H (by simp)
    ·rw [if_neg c5] at H
     exact absurd H (by simp)
   ·rw [if_neg c4] at H
    have c4b0 : decide (x12_1 < ji3) = false := decide_eq_false c4
    clear c4
    as_aux_lemma =>
     obtain rfl := Option.some.inj H
     go_wp2
     repeat (go_quiet (fail); try go_wp2)
     go_ret
     exact ⟨by first | rfl | (simp [errW_none, errW_some] <;> rfl) | (simp only [← hji3]; first | rfl | (simp [errW_none, errW_some] <;> rfl)) | (simp [*, errW_none, errW_some] <;> rfl), by repeat (first | (with_reducible first|exact HB.out|apply bA|apply bN|apply bD)|exact HB.out)⟩

/-! ### tensor_Dot: function 24 -/
def tensor_Dot.f (k : Nat) (l0_0 : List Int) (l0_1 : List Int) (l1_0 : List Int) (l1_1 : List Int) : Option (Int × Int) := (tensor_alike.f k l0_0 l0_1 l1_0 l1_1).bind fun t303 => (if t303 = true then ((fix_Dot.f k l0_1 l1_1).bind fun t304 => (some (t304, 0))) else (some (0, 20)))
theorem tensor_Dot.mono : ∀ a0 a1 a2 a3 k, LeO (tensor_Dot.f k a0 a1 a2 a3) (tensor_Dot.f (k + 1) a0 a1 a2 a3) := by
 intro a0 a1 a2 a3 k
 unfold tensor_Dot.f
 repeat' first
   | (with_reducible exact fix_Dot.mono _ _ _)
   | (with_reducible exact tensor_alike.mono _ _ _ _ _)
   | (with_reducible exact LeO.refl _)
   | (with_reducible exact LeO.none _)
   | (with_reducible refine LeO.ite ?_ ?_)
   | (with_reducible refine LeO.bind ?_ (fun _ => ?_))
   | exact fix_Dot.mono _ _ _
   | exact tensor_alike.mono _ _ _ _ _
   | exact LeO.none _
   | refine LeO.ite ?_ ?_
   | refine LeO.bind ?_ (fun _ => ?_)
set_option maxHeartbeats 8000000 in
set_option maxRecDepth 100000 in
theorem tensor_Dot.calls (k : Nat) (A0_0 : Option Addr) (c0_0 : Nat) (l0_0 : List Int) (A0_1 : Option Addr) (c0_1 : Nat) (l0_1 : List Int) (A1_0 : Option Addr) (c1_0 : Nat) (l1_0 : List Int) (A1_1 : Option Addr) (c1_1 : Nat) (l1_1 : List Int) (r1 : Int) (r2 : Int) (w : World) (hr0_0 : Kd.C (Kd.int .i64) w A0_0 l0_0.length l0_0) (hc0_0 : l0_0.length ≤ c0_0) (hr0_1 : Kd.C (Kd.int .i64) w A0_1 l0_1.length l0_1) (hc0_1 : l0_1.length ≤ c0_1) (hr1_0 : Kd.C (Kd.int .i64) w A1_0 l1_0.length l1_0) (hc1_0 : l1_0.length ≤ c1_0) (hr1_1 : Kd.C (Kd.int .i64) w A1_1 l1_1.length l1_1) (hc1_1 : l1_1.length ≤ c1_1) (h : tensor_Dot.f k l0_0 l0_1 l1_0 l1_1 = some (r1, r2)) :
  Calls Try.prog 24 #[.agg #[.slice A0_0 l0_0.length c0_0, .slice A0_1 l0_1.length c0_1], .agg #[.slice A1_0 l1_0.length c1_0, .slice A1_1 l1_1.length c1_1]] w fun e w' => e = .returned (.tuple #[.int .i64 r1, .int .i64 r2]) ∧ Below w.heap.size w w' := by
 have hu26 := Try.underlying26
 have HR0_0 := Aside0.mk hr0_0
 have HC0_0 := Aside0.mk hc0_0
 clear hr0_0 hc0_0
 have HR0_1 := Aside0.mk hr0_1
 have HC0_1 := Aside0.mk hc0_1
 clear hr0_1 hc0_1
 have HR1_0 := Aside0.mk hr1_0
 have HC1_0 := Aside0.mk hc1_0
 clear hr1_0 hc1_0
 have HR1_1 := Aside0.mk hr1_1
 have HC1_1 := Aside0.mk hc1_1
 clear hr1_1 hc1_1
 have HB := aM (Below.refl w.heap.size w)
 have H : ((tensor_alike.f k l0_0 l0_1 l1_0 l1_1).bind fun t303 => (if t303 = true then ((fix_Dot.f k l0_1 l1_1).bind fun t304 => (some (t304, 0))) else (some (0, 20)))) = some (r1, r2) := h
 clear h
 replace H := Option.bind_eq_some_iff.mp H
 obtain ⟨t303, A30, H⟩ := H
 replace H : (if t303 = true then ((fix_Dot.f k l0_1 l1_1).bind fun t304 => (some (t304, 0))) else (some (0, 20))) = some (r1, r2) := H
 have A3 := Aside0.mk A30
 clear A30
 by_cases c4 : t303 = true
 ·subst c4
  have H1 : ((fix_Dot.f k l0_1 l1_1).bind fun t304 => (some (t304, 0))) = some (r1, r2) := by rw [if_pos rfl] at H; exact H
  clear H
  have H := H1
  clear H1
  replace H := Option.bind_eq_some_iff.mp H
  obtain ⟨t304, A50, H⟩ := H
  replace H : (some (t304, 0)) = some (r1, r2) := H
  have A5 := Aside0.mk A50
  clear A50
  as_aux_lemma =>
   simp only [Option.some.injEq, Prod.mk.injEq] at H
   obtain ⟨rfl, rfl⟩ := H
   go_enter Try.func24, Try.ntmps24
   go_wp2_with (first | ((with_reducible refine gate_dst (N := 2) rfl ?_); refine box_event ?hg (N := 2) ?hd (cs := #[.slice A0_0 l0_0.length c0_0, .slice A0_1 l0_1.length c0_1]) (t := 26) ?hr ?_; (case hd => rfl); (case hg => rfl); (case hr => first | (go_simp; done) | (go_simp; rfl)); intro gb301 hg w6 hbox hb; have n0_ := aM (below_step (by repeat (first | (with_reducible first|exact HB.out|apply bA|apply bN|apply bD)|exact HB.out)) hb); have n1_ := aM (hbox); have n2_ := aM ((by rw [hg]; exact (below_size (by repeat (first | (with_reducible first|exact HB.out|apply bA|apply bN|apply bD)|exact HB.out))) : w.heap.size ≤ gb301)); have n3_ := aM ((by rw [hg]; exact (below_size (by repeat (first | (with_reducible first|exact HB.out|apply bA|apply bN|apply bD)|exact HB.out))) : w.heap.size ≤ gb301)); clear HB; have HB := n0_; have BK301 := n1_; have GW301 := n2_; have GE301 := n3_; clear n0_ n1_ n2_ n3_; clear hb hbox hg) | ((with_reducible refine gate_dst (N := 3) rfl ?_); refine box_event ?hg (N := 3) ?hd (cs := #[.slice A1_0 l1_0.length c1_0, .slice A1_1 l1_1.length c1_1]) (t := 26) ?hr ?_; (case hd => rfl); (case hg => rfl); (case hr => first | (go_simp; done) | (go_simp; rfl)); intro gb302 hg w7 hbox hb; have n0_ := aM (blk_below (g := gb301) (o := .cells #[.slice A0_0 l0_0.length c0_0, .slice A0_1 l0_1.length c0_1] 26 (0, 0)) (by (with_reducible repeat (first|apply kN|apply kD|apply kA)); exact BK301.out) hb); have n1_ := aM (below_step (by repeat (first | (with_reducible first|exact HB.out|apply bA|apply bN|apply bD|refine bS ?_ GE301.out)|exact HB.out)) hb); have n2_ := aM (hbox); have n3_ := aM ((by rw [hg]; exact (below_size (by repeat (first | (with_reducible first|exact HB.out|apply bA|apply bN|apply bD|refine bS ?_ GE301.out)|exact HB.out))) : w.heap.size ≤ gb302)); have n4_ := aM ((by rw [hg]; exact (below_size (by repeat (first | (with_reducible first|exact HB.out|apply bA|apply bN|apply bD|refine bS ?_ GE301.out)|exact HB.out))) : w.heap.size ≤ gb302)); have n5_ := aM ((by rw [hg]; exact Nat.ne_of_lt (blk_lt (g := gb301) (o := .cells #[.slice A0_0 l0_0.length c0_0, .slice A0_1 l0_1.length c0_1] 26 (0, 0)) (by (with_reducible repeat (first|apply kN|apply kD|apply kA)); exact BK301.out)) : gb301 ≠ gb302)); have n6_ := aM ((by rw [hg]; exact Nat.ne_of_gt (blk_lt (g := gb301) (o := .cells #[.slice A0_0 l0_0.length c0_0, .slice A0_1 l0_1.length c0_1] 26 (0, 0)) (by (with_reducible repeat (first|apply kN|apply kD|apply kA)); exact BK301.out)) : gb302 ≠ gb301)); clear BK301; clear HB; have BK301 := n0_; have HB := n1_; have BK302 := n2_; have GW302 := n3_; have GE302 := n4_; have NB301_302 := n5_; have NB302_301 := n6_; clear n0_ n1_ n2_ n3_ n4_ n5_ n6_; clear hb hbox hg; have hnb8 := NB301_302.out; have hnc8 := NB302_301.out; have hcz9_0 : w7.cell? ⟨gb301, 0, none⟩ = some (.slice A0_0 l0_0.length c0_0) := (blk_cell BK301.out 0).trans rfl; have hcz9_1 : w7.cell? ⟨gb301, 1, none⟩ = some (.slice A0_1 l0_1.length c0_1) := (blk_cell BK301.out 1).trans rfl; have hfz9_0 := blk_frozen BK301.out 0; have hfz9_1 := blk_frozen BK301.out 1; have hcz10_0 : w7.cell? ⟨gb302, 0, none⟩ = some (.slice A1_0 l1_0.length c1_0) := (blk_cell BK302.out 0).trans rfl; have hcz10_1 : w7.cell? ⟨gb302, 1, none⟩ = some (.slice A1_1 l1_1.length c1_1) := (blk_cell BK302.out 1).trans rfl; have hfz10_0 := blk_frozen BK302.out 0; have hfz10_1 := blk_frozen BK302.out 1) | ((with_reducible refine gate_callee (f := 44) rfl ?_); refine goesL_ (some 8) rfl rfl Try.func44 (by kernel_rfl) rfl #[.agg #[.slice A0_0 l0_0.length c0_0, .slice A0_1 l0_1.length c0_1], .agg #[.slice A1_0 l1_0.length c1_0, .slice A1_1 l1_1.length c1_1]] rfl (by (try simp only [List.map_toArray, List.map_cons, List.map_nil]); first | done | rfl | (simp only [List.length_drop, List.length_take]; rfl)) ?_; (with_reducible refine (tensor_alike.calls k _ _ l0_0 _ _ l0_1 _ _ l1_0 _ _ l1_1 true _ ?side1 ?side2 ?side3 ?side4 ?side5 ?side6 ?side7 ?side8 A3.out).mono ?_); (case side1 => repeat (first|exact (Kd.C_below HR0_0.out HB.out) | with_reducible first|apply cA|apply cN|apply cD)); (case side2 => exact HC0_0.out); (case side3 => repeat (first|exact (Kd.C_below HR0_1.out HB.out) | with_reducible first|apply cA|apply cN|apply cD)); (case side4 => exact HC0_1.out); (case side5 => repeat (first|exact (Kd.C_below HR1_0.out HB.out) | with_reducible first|apply cA|apply cN|apply cD)); (case side6 => exact HC1_0.out); (case side7 => repeat (first|exact (Kd.C_below HR1_1.out HB.out) | with_reducible first|apply cA|apply cN|apply cD)); (case side8 => exact HC1_1.out); rintro e w11 ⟨rfl, hb⟩; refine ⟨_, rfl, ?_⟩; have n0_ := aM (blk_below (g := gb301) (o := .cells #[.slice A0_0 l0_0.length c0_0, .slice A0_1 l0_1.length c0_1] 26 (0, 0)) (by (with_reducible repeat (first|apply kN|apply kD|apply kA)); exact BK301.out) hb); have n1_ := aM (blk_below (g := gb302) (o := .cells #[.slice A1_0 l1_0.length c1_0, .slice A1_1 l1_1.length c1_1] 26 (0, 0)) (by (with_reducible repeat (first|apply kN|apply kD|apply kA)); exact BK302.out) hb); have n2_ := aM (below_step (by repeat (first | (with_reducible first|exact HB.out|apply bA|apply bN|apply bD|refine bS ?_ GE301.out|refine bS ?_ GE302.out)|exact HB.out)) hb); clear BK301; clear BK302; clear HB; have BK301 := n0_; have BK302 := n1_; have HB := n2_; clear n0_ n1_ n2_; (try clear hb); have hcz12_0 : w11.cell? ⟨gb301, 0, none⟩ = some (.slice A0_0 l0_0.length c0_0) := (blk_cell BK301.out 0).trans rfl; have hcz12_1 : w11.cell? ⟨gb301, 1, none⟩ = some (.slice A0_1 l0_1.length c0_1) := (blk_cell BK301.out 1).trans rfl; have hfz12_0 := blk_frozen BK301.out 0; have hfz12_1 := blk_frozen BK301.out 1; have hcz13_0 : w11.cell? ⟨gb302, 0, none⟩ = some (.slice A1_0 l1_0.length c1_0) := (blk_cell BK302.out 0).trans rfl; have hcz13_1 : w11.cell? ⟨gb302, 1, none⟩ = some (.slice A1_1 l1_1.length c1_1) := (blk_cell BK302.out 1).trans rfl; have hfz13_0 := blk_frozen BK302.out 0; have hfz13_1 := blk_frozen BK302.out 1) | ((with_reducible refine gate_callee (f := 47) rfl ?_); refine goesL_ (some 14) rfl rfl Try.func47 (by kernel_rfl) rfl #[.slice A0_1 l0_1.length c0_1, .slice A1_1 l1_1.length c1_1] rfl (by (try simp only [List.map_toArray, List.map_cons, List.map_nil]); first | done | rfl | (simp only [List.length_drop, List.length_take]; rfl)) ?_; (with_reducible refine (fix_Dot.calls k _ _ l0_1 _ _ l1_1 t304 _ ?side1 ?side2 ?side3 ?side4 A5.out).mono ?_); (case side1 => repeat (first|exact (Kd.C_below HR0_1.out HB.out) | with_reducible first|apply cA|apply cN|apply cD)); (case side2 => exact HC0_1.out); (case side3 => repeat (first|exact (Kd.C_below HR1_1.out HB.out) | with_reducible first|apply cA|apply cN|apply cD)); (case side4 => exact HC1_1.out); rintro e w14 ⟨rfl, hb⟩; refine ⟨_, rfl, ?_⟩; have n0_ := aM (blk_below (g := gb301) (o := .cells #[.slice A0_0 l0_0.length c0_0, .slice A0_1 l0_1.length c0_1] 26 (0, 0)) (by (with_reducible repeat (first|apply kN|apply kD|apply kA)); exact BK301.out) hb); have n1_ := aM (blk_below (g := gb302) (o := .cells #[.slice A1_0 l1_0.length c1_0, .slice A1_1 l1_1.length c1_1] 26 (0, 0)) (by (with_reducible repeat (first|apply kN|apply kD|apply kA)); exact BK302.out) hb); have n2_ := aM (below_step (by repeat (first | (with_reducible first|exact HB.out|apply bA|apply bN|apply bD|refine bS ?_ GE301.out|refine bS ?_ GE302.out)|exact HB.out)) hb); clear BK301; clear BK302; clear HB; have BK301 := n0_; have BK302 := n1_; have HB := n2_; clear n0_ n1_ n2_; (try clear hb)))
   go_ret2
   exact ⟨by first | rfl | (simp [errW_none, errW_some] <;> rfl) | (simp [*, errW_none, errW_some] <;> rfl), by repeat (first | (with_reducible first|exact HB.out|apply bA|apply bN|apply bD|refine bS ?_ GE301.out|refine bS ?_ GE302.out)|exact HB.out)⟩
 ·replace c4 := Bool.eq_false_iff.mpr c4
  subst c4
  have H1 : (some (0, 20)) = some (r1, r2) := by rw [if_neg (show ¬ (false = true) by decide)] at H; exact H
  clear H
  have H := H1
  clear H1
  as_aux_lemma =>
   simp only [Option.some.injEq, Prod.mk.injEq] at H
   obtain ⟨rfl, rfl⟩ := H
   go_enter Try.func24, Try.ntmps24
   go_wp2_with (first | ((with_reducible refine gate_dst (N := 2) rfl ?_); refine box_event ?hg (N := 2) ?hd (cs := #[.slice A0_0 l0_0.length c0_0, .slice A0_1 l0_1.length c0_1]) (t := 26) ?hr ?_; (case hd => rfl); (case hg => rfl); (case hr => first | (go_simp; done) | (go_simp; rfl)); intro gb301 hg w15 hbox hb; have n0_ := aM (below_step (by repeat (first | (with_reducible first|exact HB.out|apply bA|apply bN|apply bD)|exact HB.out)) hb); have n1_ := aM (hbox); have n2_ := aM ((by rw [hg]; exact (below_size (by repeat (first | (with_reducible first|exact HB.out|apply bA|apply bN|apply bD)|exact HB.out))) : w.heap.size ≤ gb301)); have n3_ := aM ((by rw [hg]; exact (below_size (by repeat (first | (with_reducible first|exact HB.out|apply bA|apply bN|apply bD)|exact HB.out))) : w.heap.size ≤ gb301)); clear HB; have HB := n0_; have BK301 := n1_; have GW301 := n2_; have GE301 := n3_; clear n0_ n1_ n2_ n3_; clear hb hbox hg) | ((with_reducible refine gate_dst (N := 3) rfl ?_); refine box_event ?hg (N := 3) ?hd (cs := #[.slice A1_0 l1_0.length c1_0, .slice A1_1 l1_1.length c1_1]) (t := 26) ?hr ?_; (case hd => rfl); (case hg => rfl); (case hr => first | (go_simp; done) | (go_simp; rfl)); intro gb302 hg w16 hbox hb; have n0_ := aM (blk_below (g := gb301) (o := .cells #[.slice A0_0 l0_0.length c0_0, .slice A0_1 l0_1.length c0_1] 26 (0, 0)) (by (with_reducible repeat (first|apply kN|apply kD|apply kA)); exact BK301.out) hb); have n1_ := aM (below_step (by repeat (first | (with_reducible first|exact HB.out|apply bA|apply bN|apply bD|refine bS ?_ GE301.out)|exact HB.out)) hb); have n2_ := aM (hbox); have n3_ := aM ((by rw [hg]; exact (below_size (by repeat (first | (with_reducible first|exact HB.out|apply bA|apply bN|apply bD|refine bS ?_ GE301.out)|exact HB.out))) : w.heap.size ≤ gb302)); have n4_ := aM ((by rw [hg]; exact (below_size (by repeat (first | (with_reducible first|exact HB.out|apply bA|apply bN|apply bD|refine bS ?_ GE301.out)|exact HB.out))) : w.heap.size ≤ gb302)); have n5_ := aM ((by rw [hg]; exact Nat.ne_of_lt (blk_lt (g := gb301) (o := .cells #[.slice A0_0 l0_0.length c0_0, .slice A0_1 l0_1.length c0_1] 26 (0, 0)) (by (with_reducible repeat (first|apply kN|apply kD|apply kA)); exact BK301.out)) : gb301 ≠ gb302)); have n6_ := aM ((by rw [hg]; exact Nat.ne_of_gt (blk_lt (g := gb301) (o := .cells #[.slice A0_0 l0_0.length c0_0, .slice A0_1 l0_1.length c0_1] 26 (0, 0)) (by (with_reducible repeat (first|apply kN|apply kD|apply kA)); exact BK301.out)) : gb302 ≠ gb301)); clear BK301; clear HB; have BK301 := n0_; have HB := n1_; have BK302 := n2_; have GW302 := n3_; have GE302 := n4_; have NB301_302 := n5_; have NB302_301 := n6_; clear n0_ n1_ n2_ n3_ n4_ n5_ n6_; clear hb hbox hg; have hnb17 := NB301_302.out; have hnc17 := NB302_301.out; have hcz18_0 : w16.cell? ⟨gb301, 0, none⟩ = some (.slice A0_0 l0_0.length c0_0) := (blk_cell BK301.out 0).trans rfl; have hcz18_1 : w16.cell? ⟨gb301, 1, none⟩ = some (.slice A0_1 l0_1.length c0_1) := (blk_cell BK301.out 1).trans rfl; have hfz18_0 := blk_frozen BK301.out 0; have hfz18_1 := blk_frozen BK301.out 1; have hcz19_0 : w16.cell? ⟨gb302, 0, none⟩ = some (.slice A1_0 l1_0.length c1_0) := (blk_cell BK302.out 0).trans rfl; have hcz19_1 : w16.cell? ⟨gb302, 1, none⟩ = some (.slice A1_1 l1_1.length c1_1) := (blk_cell BK302.out 1).trans rfl; have hfz19_0 := blk_frozen BK302.out 0; have hfz19_1 := blk_frozen BK302.out 1) | ((with_reducible refine gate_callee (f := 44) rfl ?_); refine goesL_ (some 8) rfl rfl Try.func44 (by kernel_rfl) rfl #[.agg #[.slice A0_0 l0_0.length c0_0, .slice A0_1 l0_1.length c0_1], .agg #[.slice A1_0 l1_0.length c1_0, .slice A1_1 l1_1.length c1_1]] rfl (by (try simp only [List.map_toArray, List.map_cons, List.map_nil]); first | done | rfl | (simp only [List.length_drop, List.length_take]; rfl)) ?_; (with_reducible refine (tensor_alike.calls k _ _ l0_0 _ _ l0_1 _ _ l1_0 _ _ l1_1 false _ ?side1 ?side2 ?side3 ?side4 ?side5 ?side6 ?side7 ?side8 A3.out).mono ?_); (case side1 => repeat (first|exact (Kd.C_below HR0_0.out HB.out) | with_reducible first|apply cA|apply cN|apply cD)); (case side2 => exact HC0_0.out); (case side3 => repeat (first|exact (Kd.C_below HR0_1.out HB.out) | with_reducible first|apply cA|apply cN|apply cD)); (case side4 => exact HC0_1.out); (case side5 => repeat (first|exact (Kd.C_below HR1_0.out HB.out) | with_reducible first|apply cA|apply cN|apply cD)); (case side6 => exact HC1_0.out); (case side7 => repeat (first|exact (Kd.C_below HR1_1.out HB.out) | with_reducible first|apply cA|apply cN|apply cD)); (case side8 => exact HC1_1.out); rintro e w20 ⟨rfl, hb⟩; refine ⟨_, rfl, ?_⟩; have n0_ := aM (blk_below (g := gb301) (o := .cells #[.slice A0_0 l0_0.length c0_0, .slice A0_1 l0_1.length c0_1] 26 (0, 0)) (by (with_reducible repeat (first|apply kN|apply kD|apply kA)); exact BK301.out) hb); have n1_ := aM (blk_below (g := gb302) (o := .cells #[.slice A1_0 l1_0.length c1_0, .slice A1_1 l1_1.length c1_1] 26 (0, 0)) (by (with_reducible repeat (first|apply kN|apply kD|apply kA)); exact BK302.out) hb); have n2_ := aM (below_step (by repeat (first | (with_reducible first|exact HB.out|apply bA|apply bN|apply bD|refine bS ?_ GE301.out|refine bS ?_ GE302.out)|exact HB.out)) hb); clear BK301; clear BK302; clear HB; have BK301 := n0_; have BK302 := n1_; have HB := n2_; clear n0_ n1_ n2_; (try clear hb)))
   go_ret2
   exact ⟨by first | rfl | (simp [errW_none, errW_some] <;> rfl) | (simp [*, errW_none, errW_some] <;> rfl), by repeat (first | (with_reducible first|exact HB.out|apply bA|apply bN|apply bD|refine bS ?_ GE301.out|refine bS ?_ GE302.out)|exact HB.out)⟩

/-! ### athanorref01_double: function 64 -/
def athanorref01_double.f (a0_0 : Int) (a0_1 : Int) : Option (Int × Int) := some (Go.bits .or .u64 (IntKind.u64.wrap (a0_0 * 2)) (a0_1 / 9223372036854775808), IntKind.u64.wrap (a0_1 * 2))
set_option maxHeartbeats 8000000 in
set_option maxRecDepth 100000 in
theorem athanorref01_double.calls (a0_0 : Int) (a0_1 : Int) (r1 : Int) (r2 : Int) (w : World) (h : athanorref01_double.f a0_0 a0_1 = some (r1, r2)) :
  Calls Try.prog 64 #[.agg #[.int .u64 a0_0, .int .u64 a0_1]] w fun e w' => e = .returned (.agg #[.int .u64 r1, .int .u64 r2]) ∧ Below w.heap.size w w' := by
 have hu76 := Try.underlying76
 have HB := aM (Below.refl w.heap.size w)
 have H : (some (Go.bits .or .u64 (IntKind.u64.wrap (a0_0 * 2)) (a0_1 / 9223372036854775808), IntKind.u64.wrap (a0_1 * 2))) = some (r1, r2) := h
 clear h
 as_aux_lemma =>
  simp only [Option.some.injEq, Prod.mk.injEq] at H
  obtain ⟨rfl, rfl⟩ := H
  go_enter Try.func64, Try.ntmps64
  go_wp2_with (first | ((with_reducible refine gate_dst (N := 1) rfl ?_); refine box_event ?hg (N := 1) ?hd (cs := #[.int .u64 a0_0, .int .u64 a0_1]) (t := 76) ?hr ?_; (case hd => rfl); (case hg => rfl); (case hr => first | (go_simp; done) | (go_simp; rfl)); intro gb305 hg w2 hbox hb; have n0_ := aM (below_step (by repeat (first | (with_reducible first|exact HB.out|apply bA|apply bN|apply bD)|exact HB.out)) hb); have n1_ := aM (hbox); have n2_ := aM ((by rw [hg]; exact (below_size (by repeat (first | (with_reducible first|exact HB.out|apply bA|apply bN|apply bD)|exact HB.out))) : w.heap.size ≤ gb305)); have n3_ := aM ((by rw [hg]; exact (below_size (by repeat (first | (with_reducible first|exact HB.out|apply bA|apply bN|apply bD)|exact HB.out))) : w.heap.size ≤ gb305)); clear HB; have HB := n0_; have BK305 := n1_; have GW305 := n2_; have GE305 := n3_; clear n0_ n1_ n2_ n3_; clear hb hbox hg) | ((with_reducible refine gate_dst (N := 2) rfl ?_); refine box_event ?hg (N := 2) ?hd (cs := #[.int .u64 0, .int .u64 0]) (t := 76) ?hr ?_; (case hd => rfl); (case hg => rfl); (case hr => first | (go_simp; done) | (go_simp; rfl)); intro gb306 hg w3 hbox hb; have n0_ := aM (blk_below (g := gb305) (o := .cells #[.int .u64 a0_0, .int .u64 a0_1] 76 (0, 0)) (by (with_reducible repeat (first|apply kN|apply kD|apply kA)); exact BK305.out) hb); have n1_ := aM (below_step (by repeat (first | (with_reducible first|exact HB.out|apply bA|apply bN|apply bD|refine bS ?_ GE305.out)|exact HB.out)) hb); have n2_ := aM (hbox); have n3_ := aM ((by rw [hg]; exact (below_size (by repeat (first | (with_reducible first|exact HB.out|apply bA|apply bN|apply bD|refine bS ?_ GE305.out)|exact HB.out))) : w.heap.size ≤ gb306)); have n4_ := aM ((by rw [hg]; exact (below_size (by repeat (first | (with_reducible first|exact HB.out|apply bA|apply bN|apply bD|refine bS ?_ GE305.out)|exact HB.out))) : w.heap.size ≤ gb306)); have n5_ := aM ((by rw [hg]; exact Nat.ne_of_lt (blk_lt (g := gb305) (o := .cells #[.int .u64 a0_0, .int .u64 a0_1] 76 (0, 0)) (by (with_reducible repeat (first|apply kN|apply kD|apply kA)); exact BK305.out)) : gb305 ≠ gb306)); have n6_ := aM ((by rw [hg]; exact Nat.ne_of_gt (blk_lt (g := gb305) (o := .cells #[.int .u64 a0_0, .int .u64 a0_1] 76 (0, 0)) (by (with_reducible repeat (first|apply kN|apply kD|apply kA)); exact BK305.out)) : gb306 ≠ gb305)); clear BK305; clear HB; have BK305 := n0_; have HB := n1_; have BK306 := n2_; have GW306 := n3_; have GE306 := n4_; have NB305_306 := n5_; have NB306_305 := n6_; clear n0_ n1_ n2_ n3_ n4_ n5_ n6_; clear hb hbox hg; have hnb4 := NB305_306.out; have hnc4 := NB306_305.out; have hcz5_0 : w3.cell? ⟨gb305, 0, none⟩ = some (.int .u64 a0_0) := (blk_cell BK305.out 0).trans rfl; have hcz5_1 : w3.cell? ⟨gb305, 1, none⟩ = some (.int .u64 a0_1) := (blk_cell BK305.out 1).trans rfl; have hfz5_0 := blk_frozen BK305.out 0; have hfz5_1 := blk_frozen BK305.out 1; have hcz6_0 : w3.cell? ⟨gb306, 0, none⟩ = some (.int .u64 0) := (blk_cell BK306.out 0).trans rfl; have hcz6_1 : w3.cell? ⟨gb306, 1, none⟩ = some (.int .u64 0) := (blk_cell BK306.out 1).trans rfl; have hfz6_0 := blk_frozen BK306.out 0; have hfz6_1 := blk_frozen BK306.out 1))
  refine bodyPost_ret (results_cell_row rfl _ _ gb306 76 #[.int .u64 (Go.bits .or .u64 (IntKind.u64.wrap (a0_0 * 2)) (a0_1 / 9223372036854775808)), .int .u64 (IntKind.u64.wrap (a0_1 * 2))] (0, 0) _ rfl (by (with_reducible repeat (first|apply kN|apply kD|apply kA)); refine blk_put (cs := #[.int .u64 (Go.bits .or .u64 (IntKind.u64.wrap (a0_0 * 2)) (a0_1 / 9223372036854775808)), .int .u64 0]) ?_ 1 _ rfl; (with_reducible repeat (first|apply kN|apply kD|apply kA)); refine blk_put (cs := #[.int .u64 0, .int .u64 0]) ?_ 0 _ rfl; (with_reducible repeat (first|apply kN|apply kD|apply kA)); exact BK306.out) Try.underlying76 rfl (by kernel_rfl)) rfl ?_
  exact ⟨by first | rfl | (simp [errW_none, errW_some] <;> rfl) | (simp [*, errW_none, errW_some] <;> rfl), by repeat (first | (with_reducible first|exact HB.out|apply bA|apply bN|apply bD|refine bS ?_ GE305.out|refine bS ?_ GE306.out)|exact HB.out)⟩

/-! ### athanorref01_plus: function 65 -/
def athanorref01_plus.f (a0_0 : Int) (a0_1 : Int) (a1_0 : Int) (a1_1 : Int) : Option (Int × Int) := if (IntKind.u64.wrap (a0_1 + a1_1)) < a0_1 then (some (IntKind.u64.wrap ((IntKind.u64.wrap (a0_0 + a1_0)) + 1), IntKind.u64.wrap (a0_1 + a1_1))) else (some (IntKind.u64.wrap (a0_0 + a1_0), IntKind.u64.wrap (a0_1 + a1_1)))
set_option maxHeartbeats 8000000 in
set_option maxRecDepth 100000 in
theorem athanorref01_plus.calls (a0_0 : Int) (a0_1 : Int) (a1_0 : Int) (a1_1 : Int) (r1 : Int) (r2 : Int) (w : World) (h : athanorref01_plus.f a0_0 a0_1 a1_0 a1_1 = some (r1, r2)) :
  Calls Try.prog 65 #[.agg #[.int .u64 a0_0, .int .u64 a0_1], .agg #[.int .u64 a1_0, .int .u64 a1_1]] w fun e w' => e = .returned (.agg #[.int .u64 r1, .int .u64 r2]) ∧ Below w.heap.size w w' := by
 have hu76 := Try.underlying76
 have HB := aM (Below.refl w.heap.size w)
 have H : (if (IntKind.u64.wrap (a0_1 + a1_1)) < a0_1 then (some (IntKind.u64.wrap ((IntKind.u64.wrap (a0_0 + a1_0)) + 1), IntKind.u64.wrap (a0_1 + a1_1))) else (some (IntKind.u64.wrap (a0_0 + a1_0), IntKind.u64.wrap (a0_1 + a1_1)))) = some (r1, r2) := h
 clear h
 by_cases c3 : (IntKind.u64.wrap (a0_1 + a1_1)) < a0_1
 ·rw [if_pos c3] at H
  have c3b0 : decide ((IntKind.u64.wrap (a0_1 + a1_1)) < a0_1) = true := decide_eq_true c3
  clear c3
  as_aux_lemma =>
   simp only [Option.some.injEq, Prod.mk.injEq] at H
   obtain ⟨rfl, rfl⟩ := H
   go_enter Try.func65, Try.ntmps65
   go_wp2_with (first | ((with_reducible refine gate_dst (N := 2) rfl ?_); refine box_event ?hg (N := 2) ?hd (cs := #[.int .u64 a0_0, .int .u64 a0_1]) (t := 76) ?hr ?_; (case hd => rfl); (case hg => rfl); (case hr => first | (go_simp; done) | (go_simp; rfl)); intro gb307 hg w4 hbox hb; have n0_ := aM (below_step (by repeat (first | (with_reducible first|exact HB.out|apply bA|apply bN|apply bD)|exact HB.out)) hb); have n1_ := aM (hbox); have n2_ := aM ((by rw [hg]; exact (below_size (by repeat (first | (with_reducible first|exact HB.out|apply bA|apply bN|apply bD)|exact HB.out))) : w.heap.size ≤ gb307)); have n3_ := aM ((by rw [hg]; exact (below_size (by repeat (first | (with_reducible first|exact HB.out|apply bA|apply bN|apply bD)|exact HB.out))) : w.heap.size ≤ gb307)); clear HB; have HB := n0_; have BK307 := n1_; have GW307 := n2_; have GE307 := n3_; clear n0_ n1_ n2_ n3_; clear hb hbox hg) | ((with_reducible refine gate_dst (N := 3) rfl ?_); refine box_event ?hg (N := 3) ?hd (cs := #[.int .u64 a1_0, .int .u64 a1_1]) (t := 76) ?hr ?_; (case hd => rfl); (case hg => rfl); (case hr => first | (go_simp; done) | (go_simp; rfl)); intro gb308 hg w5 hbox hb; have n0_ := aM (blk_below (g := gb307) (o := .cells #[.int .u64 a0_0, .int .u64 a0_1] 76 (0, 0)) (by (with_reducible repeat (first|apply kN|apply kD|apply kA)); exact BK307.out) hb); have n1_ := aM (below_step (by repeat (first | (with_reducible first|exact HB.out|apply bA|apply bN|apply bD|refine bS ?_ GE307.out)|exact HB.out)) hb); have n2_ := aM (hbox); have n3_ := aM ((by rw [hg]; exact (below_size (by repeat (first | (with_reducible first|exact HB.out|apply bA|apply bN|apply bD|refine bS ?_ GE307.out)|exact HB.out))) : w.heap.size ≤ gb308)); have n4_ := aM ((by rw [hg]; exact (below_size (by repeat (first | (with_reducible first|exact HB.out|apply bA|apply bN|apply bD|refine bS ?_ GE307.out)|exact HB.out))) : w.heap.size ≤ gb308)); have n5_ := aM ((by rw [hg]; exact Nat.ne_of_lt (blk_lt (g := gb307) (o := .cells #[.int .u64 a0_0, .int .u64 a0_1] 76 (0, 0)) (by (with_reducible repeat (first|apply kN|apply kD|apply kA)); exact BK307.out)) : gb307 ≠ gb308)); have n6_ := aM ((by rw [hg]; exact Nat.ne_of_gt (blk_lt (g := gb307) (o := .cells #[.int .u64 a0_0, .int .u64 a0_1] 76 (0, 0)) (by (with_reducible repeat (first|apply kN|apply kD|apply kA)); exact BK307.out)) : gb308 ≠ gb307)); clear BK307; clear HB; have BK307 := n0_; have HB := n1_; have BK308 := n2_; have GW308 := n3_; have GE308 := n4_; have NB307_308 := n5_; have NB308_307 := n6_; clear n0_ n1_ n2_ n3_ n4_ n5_ n6_; clear hb hbox hg) | ((with_reducible refine gate_dst (N := 4) rfl ?_); refine box_event ?hg (N := 4) ?hd (cs := #[.int .u64 0, .int .u64 0]) (t := 76) ?hr ?_; (case hd => rfl); (case hg => rfl); (case hr => first | (go_simp; done) | (go_simp; rfl)); intro gb309 hg w6 hbox hb; have n0_ := aM (blk_below (g := gb307) (o := .cells #[.int .u64 a0_0, .int .u64 a0_1] 76 (0, 0)) (by (with_reducible repeat (first|apply kN|apply kD|apply kA)); exact BK307.out) hb); have n1_ := aM (blk_below (g := gb308) (o := .cells #[.int .u64 a1_0, .int .u64 a1_1] 76 (0, 0)) (by (with_reducible repeat (first|apply kN|apply kD|apply kA)); exact BK308.out) hb); have n2_ := aM (below_step (by repeat (first | (with_reducible first|exact HB.out|apply bA|apply bN|apply bD|refine bS ?_ GE307.out|refine bS ?_ GE308.out)|exact HB.out)) hb); have n3_ := aM (hbox); have n4_ := aM ((by rw [hg]; exact (below_size (by repeat (first | (with_reducible first|exact HB.out|apply bA|apply bN|apply bD|refine bS ?_ GE307.out|refine bS ?_ GE308.out)|exact HB.out))) : w.heap.size ≤ gb309)); have n5_ := aM ((by rw [hg]; exact (below_size (by repeat (first | (with_reducible first|exact HB.out|apply bA|apply bN|apply bD|refine bS ?_ GE307.out|refine bS ?_ GE308.out)|exact HB.out))) : w.heap.size ≤ gb309)); have n6_ := aM ((by rw [hg]; exact Nat.ne_of_lt (blk_lt (g := gb307) (o := .cells #[.int .u64 a0_0, .int .u64 a0_1] 76 (0, 0)) (by (with_reducible repeat (first|apply kN|apply kD|apply kA)); exact BK307.out)) : gb307 ≠ gb309)); have n7_ := aM ((by rw [hg]; exact Nat.ne_of_gt (blk_lt (g := gb307) (o := .cells #[.int .u64 a0_0, .int .u64 a0_1] 76 (0, 0)) (by (with_reducible repeat (first|apply kN|apply kD|apply kA)); exact BK307.out)) : gb309 ≠ gb307)); have n8_ := aM ((by rw [hg]; exact Nat.ne_of_lt (blk_lt (g := gb308) (o := .cells #[.int .u64 a1_0, .int .u64 a1_1] 76 (0, 0)) (by (with_reducible repeat (first|apply kN|apply kD|apply kA)); exact BK308.out)) : gb308 ≠ gb309)); have n9_ := aM ((by rw [hg]; exact Nat.ne_of_gt (blk_lt (g := gb308) (o := .cells #[.int .u64 a1_0, .int .u64 a1_1] 76 (0, 0)) (by (with_reducible repeat (first|apply kN|apply kD|apply kA)); exact BK308.out)) : gb309 ≠ gb308)); clear BK307; clear BK308; clear HB; have BK307 := n0_; have BK308 := n1_; have HB := n2_; have BK309 := n3_; have GW309 := n4_; have GE309 := n5_; have NB307_309 := n6_; have NB309_307 := n7_; have NB308_309 := n8_; have NB309_308 := n9_; clear n0_ n1_ n2_ n3_ n4_ n5_ n6_ n7_ n8_ n9_; clear hb hbox hg; have hnb7 := NB307_308.out; have hnc7 := NB308_307.out; have hnb8 := NB307_309.out; have hnc8 := NB309_307.out; have hcz9_0 : w6.cell? ⟨gb307, 0, none⟩ = some (.int .u64 a0_0) := (blk_cell BK307.out 0).trans rfl; have hcz9_1 : w6.cell? ⟨gb307, 1, none⟩ = some (.int .u64 a0_1) := (blk_cell BK307.out 1).trans rfl; have hfz9_0 := blk_frozen BK307.out 0; have hfz9_1 := blk_frozen BK307.out 1; have hnb10 := NB308_309.out; have hnc10 := NB309_308.out; have hcz11_0 : w6.cell? ⟨gb308, 0, none⟩ = some (.int .u64 a1_0) := (blk_cell BK308.out 0).trans rfl; have hcz11_1 : w6.cell? ⟨gb308, 1, none⟩ = some (.int .u64 a1_1) := (blk_cell BK308.out 1).trans rfl; have hfz11_0 := blk_frozen BK308.out 0; have hfz11_1 := blk_frozen BK308.out 1) | ((with_reducible refine gate_dst (N := 5) rfl ?_); refine box_event ?hg (N := 5) ?hd (cs := #[.int .u64 0, .int .u64 0]) (t := 76) ?hr ?_; (case hd => rfl); (case hg => rfl); (case hr => first | (go_simp; done) | (go_simp; rfl)); intro gb310 hg w12 hbox hb; have n0_ := aM (blk_below (g := gb307) (o := .cells #[.int .u64 a0_0, .int .u64 a0_1] 76 (0, 0)) (by (with_reducible repeat (first|apply kN|apply kD|apply kA)); exact BK307.out) hb); have n1_ := aM (blk_below (g := gb308) (o := .cells #[.int .u64 a1_0, .int .u64 a1_1] 76 (0, 0)) (by (with_reducible repeat (first|apply kN|apply kD|apply kA)); exact BK308.out) hb); have n2_ := aM (blk_below (g := gb309) (o := .cells #[.int .u64 0, .int .u64 0] 76 (0, 0)) (by (with_reducible repeat (first|apply kN|apply kD|apply kA)); exact BK309.out) hb); have n3_ := aM (below_step (by repeat (first | (with_reducible first|exact HB.out|apply bA|apply bN|apply bD|refine bS ?_ GE307.out|refine bS ?_ GE308.out|refine bS ?_ GE309.out)|exact HB.out)) hb); have n4_ := aM (hbox); have n5_ := aM ((by rw [hg]; exact (below_size (by repeat (first | (with_reducible first|exact HB.out|apply bA|apply bN|apply bD|refine bS ?_ GE307.out|refine bS ?_ GE308.out|refine bS ?_ GE309.out)|exact HB.out))) : w.heap.size ≤ gb310)); have n6_ := aM ((by rw [hg]; exact (below_size (by repeat (first | (with_reducible first|exact HB.out|apply bA|apply bN|apply bD|refine bS ?_ GE307.out|refine bS ?_ GE308.out|refine bS ?_ GE309.out)|exact HB.out))) : w.heap.size ≤ gb310)); have n7_ := aM ((by rw [hg]; exact Nat.ne_of_lt (blk_lt (g := gb307) (o := .cells #[.int .u64 a0_0, .int .u64 a0_1] 76 (0, 0)) (by (with_reducible repeat (first|apply kN|apply kD|apply kA)); exact BK307.out)) : gb307 ≠ gb310)); have n8_ := aM ((by rw [hg]; exact Nat.ne_of_gt (blk_lt (g := gb307) (o := .cells #[.int .u64 a0_0, .int .u64 a0_1] 76 (0, 0)) (by (with_reducible repeat (first|apply kN|apply kD|apply kA)); exact BK307.out)) : gb310 ≠ gb307)); have n9_ := aM ((by rw [hg]; exact Nat.ne_of_lt (blk_lt (g := gb308) (o := .cells #[.int .u64 a1_0, .int .u64 a1_1] 76 (0, 0)) (by (with_reducible repeat (first|apply kN|apply kD|apply kA)); exact BK308.out)) : gb308 ≠ gb310)); have n10_ := aM ((by rw [hg]; exact Nat.ne_of_gt (blk_lt (g := gb308) (o := .cells #[.int .u64 a1_0, .int .u64 a1_1] 76 (0, 0)) (by (with_reducible repeat (first|apply kN|apply kD|apply kA)); exact BK308.out)) : gb310 ≠ gb308)); have n11_ := aM ((by rw [hg]; exact Nat.ne_of_lt (blk_lt (g := gb309) (o := .cells #[.int .u64 0, .int .u64 0] 76 (0, 0)) (by (with_reducible repeat (first|apply kN|apply kD|apply kA)); exact BK309.out)) : gb309 ≠ gb310)); have n12_ := aM ((by rw [hg]; exact Nat.ne_of_gt (blk_lt (g := gb309) (o := .cells #[.int .u64 0, .int .u64 0] 76 (0, 0)) (by (with_reducible repeat (first|apply kN|apply kD|apply kA)); exact BK309.out)) : gb310 ≠ gb309)); clear BK307; clear BK308; clear BK309; clear HB; have BK307 := n0_; have BK308 := n1_; have BK309 := n2_; have HB := n3_; have BK310 := n4_; have GW310 := n5_; have GE310 := n6_; have NB307_310 := n7_; have NB310_307 := n8_; have NB308_310 := n9_; have NB310_308 := n10_; have NB309_310 := n11_; have NB310_309 := n12_; clear n0_ n1_ n2_ n3_ n4_ n5_ n6_ n7_ n8_ n9_ n10_ n11_ n12_; clear hb hbox hg; have hnb13 := NB310_307.out; have hnc13 := NB307_310.out; have hnb14 := NB310_308.out; have hnc14 := NB308_310.out; have hnb15 := NB310_309.out; have hnc15 := NB309_310.out; have hcz16_0 : w12.cell? ⟨gb310, 0, none⟩ = some (.int .u64 0) := (blk_cell BK310.out 0).trans rfl; have hcz16_1 : w12.cell? ⟨gb310, 1, none⟩ = some (.int .u64 0) := (blk_cell BK310.out 1).trans rfl; have hfz16_0 := blk_frozen BK310.out 0; have hfz16_1 := blk_frozen BK310.out 1; have hcz17_0 : w12.cell? ⟨gb307, 0, none⟩ = some (.int .u64 a0_0) := (blk_cell BK307.out 0).trans rfl; have hcz17_1 : w12.cell? ⟨gb307, 1, none⟩ = some (.int .u64 a0_1) := (blk_cell BK307.out 1).trans rfl; have hfz17_0 := blk_frozen BK307.out 0; have hfz17_1 := blk_frozen BK307.out 1; have hcz18_0 : w12.cell? ⟨gb309, 0, none⟩ = some (.int .u64 0) := (blk_cell BK309.out 0).trans rfl; have hcz18_1 : w12.cell? ⟨gb309, 1, none⟩ = some (.int .u64 0) := (blk_cell BK309.out 1).trans rfl; have hfz18_0 := blk_frozen BK309.out 0; have hfz18_1 := blk_frozen BK309.out 1))
   refine bodyPost_ret (results_cell_row rfl _ _ gb309 76 #[.int .u64 (IntKind.u64.wrap ((IntKind.u64.wrap (a0_0 + a1_0)) + 1)), .int .u64 (IntKind.u64.wrap (a0_1 + a1_1))] (0, 0) _ rfl (by (with_reducible repeat (first|apply kN|apply kD|apply kA)); refine blk_put (cs := #[.int .u64 (IntKind.u64.wrap ((IntKind.u64.wrap (a0_0 + a1_0)) + 1)), .int .u64 0]) ?_ 1 _ rfl; (with_reducible repeat (first|apply kN|apply kD|apply kA)); refine blk_put (cs := #[.int .u64 0, .int .u64 0]) ?_ 0 _ rfl; (with_reducible repeat (first|apply kN|apply kD|apply kA)); refine blk_far ?_ NB309_310.out _; (with_reducible repeat (first|apply kN|apply kD|apply kA)); refine blk_far ?_ NB309_310.out _; (with_reducible repeat (first|apply kN|apply kD|apply kA)); refine blk_far ?_ NB309_310.out _; (with_reducible repeat (first|apply kN|apply kD|apply kA)); exact BK309.out) Try.underlying76 rfl (by kernel_rfl)) rfl ?_
   exact ⟨by first | rfl | (simp [errW_none, errW_some] <;> rfl) | (simp [*, errW_none, errW_some] <;> rfl), by repeat (first | (with_reducible first|exact HB.out|apply bA|apply bN|apply bD|refine bS ?_ GE307.out|refine bS ?_ GE308.out|refine bS ?_ GE309.out|refine bS ?_ GE310.out)|exact HB.out)⟩
 ·rw [if_neg c3] at H
  have c3b0 : decide ((IntKind.u64.wrap (a0_1 + a1_1)) < a0_1) = false := decide_eq_false c3
  clear c3
  as_aux_lemma =>
   simp only [Option.some.injEq, Prod.mk.injEq] at H
   obtain ⟨rfl, rfl⟩ := H
   go_enter Try.func65, Try.ntmps65
   go_wp2_with (first | ((with_reducible refine gate_dst (N := 2) rfl ?_); refine box_event ?hg (N := 2) ?hd (cs := #[.int .u64 a0_0, .int .u64 a0_1]) (t := 76) ?hr ?_; (case hd => rfl); (case hg => rfl); (case hr => first | (go_simp; done) | (go_simp; rfl)); intro gb307 hg w19 hbox hb; have n0_ := aM (below_step (by repeat (first | (with_reducible first|exact HB.out|apply bA|apply bN|apply bD)|exact HB.out)) hb); have n1_ := aM (hbox); have n2_ := aM ((by rw [hg]; exact (below_size (by repeat (first | (with_reducible first|exact HB.out|apply bA|apply bN|apply bD)|exact HB.out))) : w.heap.size ≤ gb307)); have n3_ := aM ((by rw [hg]; exact (below_size (by repeat (first | (with_reducible first|exact HB.out|apply bA|apply bN|apply bD)|exact HB.out))) : w.heap.size ≤ gb307)); clear HB; have HB := n0_; have BK307 := n1_; have GW307 := n2_; have GE307 := n3_; clear n0_ n1_ n2_ n3_; clear hb hbox hg) | ((with_reducible refine gate_dst (N := 3) rfl ?_); refine box_event ?hg (N := 3) ?hd (cs := #[.int .u64 a1_0, .int .u64 a1_1]) (t := 76) ?hr ?_; (case hd => rfl); (case hg => rfl); (case hr => first | (go_simp; done) | (go_simp; rfl)); intro gb308 hg w20 hbox hb; have n0_ := aM (blk_below (g := gb307) (o := .cells #[.int .u64 a0_0, .int .u64 a0_1] 76 (0, 0)) (by (with_reducible repeat (first|apply kN|apply kD|apply kA)); exact BK307.out) hb); have n1_ := aM (below_step (by repeat (first | (with_reducible first|exact HB.out|apply bA|apply bN|apply bD|refine bS ?_ GE307.out)|exact HB.out)) hb); have n2_ := aM (hbox); have n3_ := aM ((by rw [hg]; exact (below_size (by repeat (first | (with_reducible first|exact HB.out|apply bA|apply bN|apply bD|refine bS ?_ GE307.out)|exact HB.out))) : w.heap.size ≤ gb308)); have n4_ := aM ((by rw [hg]; exact (below_size (by repeat (first | (with_reducible first|exact HB.out|apply bA|apply bN|apply bD|refine bS ?_ GE307.out)|exact HB.out))) : w.heap.size ≤ gb308)); have n5_ := aM ((by rw [hg]; exact Nat.ne_of_lt (blk_lt (g := gb307) (o := .cells #[.int .u64 a0_0, .int .u64 a0_1] 76 (0, 0)) (by (with_reducible repeat (first|apply kN|apply kD|apply kA)); exact BK307.out)) : gb307 ≠ gb308)); have n6_ := aM ((by rw [hg]; exact Nat.ne_of_gt (blk_lt (g := gb307) (o := .cells #[.int .u64 a0_0, .int .u64 a0_1] 76 (0, 0)) (by (with_reducible repeat (first|apply kN|apply kD|apply kA)); exact BK307.out)) : gb308 ≠ gb307)); clear BK307; clear HB; have BK307 := n0_; have HB := n1_; have BK308 := n2_; have GW308 := n3_; have GE308 := n4_; have NB307_308 := n5_; have NB308_307 := n6_; clear n0_ n1_ n2_ n3_ n4_ n5_ n6_; clear hb hbox hg) | ((with_reducible refine gate_dst (N := 4) rfl ?_); refine box_event ?hg (N := 4) ?hd (cs := #[.int .u64 0, .int .u64 0]) (t := 76) ?hr ?_; (case hd => rfl); (case hg => rfl); (case hr => first | (go_simp; done) | (go_simp; rfl)); intro gb309 hg w21 hbox hb; have n0_ := aM (blk_below (g := gb307) (o := .cells #[.int .u64 a0_0, .int .u64 a0_1] 76 (0, 0)) (by (with_reducible repeat (first|apply kN|apply kD|apply kA)); exact BK307.out) hb); have n1_ := aM (blk_below (g := gb308) (o := .cells #[.int .u64 a1_0, .int .u64 a1_1] 76 (0, 0)) (by (with_reducible repeat (first|apply kN|apply kD|apply kA)); exact BK308.out) hb); have n2_ := aM (below_step (by repeat (first | (with_reducible first|exact HB.out|apply bA|apply bN|apply bD|refine bS ?_ GE307.out|refine bS ?_ GE308.out)|exact HB.out)) hb); have n3_ := aM (hbox); have n4_ := aM ((by rw [hg]; exact (below_size (by repeat (first | (with_reducible first|exact HB.out|apply bA|apply bN|apply bD|refine bS ?_ GE307.out|refine bS ?_ GE308.out)|exact HB.out))) : w.heap.size ≤ gb309)); have n5_ := aM ((by rw [hg]; exact (below_size (by repeat (first | (with_reducible first|exact HB.out|apply bA|apply bN|apply bD|refine bS ?_ GE307.out|refine bS ?_ GE308.out)|exact HB.out))) : w.heap.size ≤ gb309)); have n6_ := aM ((by rw [hg]; exact Nat.ne_of_lt (blk_lt (g := gb307) (o := .cells #[.int .u64 a0_0, .int .u64 a0_1] 76 (0, 0)) (by (with_reducible repeat (first|apply kN|apply kD|apply kA)); exact BK307.out)) : gb307 ≠ gb309)); have n7_ := aM ((by rw [hg]; exact Nat.ne_of_gt (blk_lt (g := gb307) (o := .cells #[.int .u64 a0_0, .int .u64 a0_1] 76 (0, 0)) (by (with_reducible repeat (first|apply kN|apply kD|apply kA)); exact BK307.out)) : gb309 ≠ gb307)); have n8_ := aM ((by rw [hg]; exact Nat.ne_of_lt (blk_lt (g := gb308) (o := .cells #[.int .u64 a1_0, .int .u64 a1_1] 76 (0, 0)) (by (with_reducible repeat (first|apply kN|apply kD|apply kA)); exact BK308.out)) : gb308 ≠ gb309)); have n9_ := aM ((by rw [hg]; exact Nat.ne_of_gt (blk_lt (g := gb308) (o := .cells #[.int .u64 a1_0, .int .u64 a1_1] 76 (0, 0)) (by (with_reducible repeat (first|apply kN|apply kD|apply kA)); exact BK308.out)) : gb309 ≠ gb308)); clear BK307; clear BK308; clear HB; have BK307 := n0_; have BK308 := n1_; have HB := n2_; have BK309 := n3_; have GW309 := n4_; have GE309 := n5_; have NB307_309 := n6_; have NB309_307 := n7_; have NB308_309 := n8_; have NB309_308 := n9_; clear n0_ n1_ n2_ n3_ n4_ n5_ n6_ n7_ n8_ n9_; clear hb hbox hg; have hnb22 := NB307_308.out; have hnc22 := NB308_307.out; have hnb23 := NB307_309.out; have hnc23 := NB309_307.out; have hcz24_0 : w21.cell? ⟨gb307, 0, none⟩ = some (.int .u64 a0_0) := (blk_cell BK307.out 0).trans rfl; have hcz24_1 : w21.cell? ⟨gb307, 1, none⟩ = some (.int .u64 a0_1) := (blk_cell BK307.out 1).trans rfl; have hfz24_0 := blk_frozen BK307.out 0; have hfz24_1 := blk_frozen BK307.out 1; have hnb25 := NB308_309.out; have hnc25 := NB309_308.out; have hcz26_0 : w21.cell? ⟨gb308, 0, none⟩ = some (.int .u64 a1_0) := (blk_cell BK308.out 0).trans rfl; have hcz26_1 : w21.cell? ⟨gb308, 1, none⟩ = some (.int .u64 a1_1) := (blk_cell BK308.out 1).trans rfl; have hfz26_0 := blk_frozen BK308.out 0; have hfz26_1 := blk_frozen BK308.out 1) | ((with_reducible refine gate_dst (N := 5) rfl ?_); refine box_event ?hg (N := 5) ?hd (cs := #[.int .u64 0, .int .u64 0]) (t := 76) ?hr ?_; (case hd => rfl); (case hg => rfl); (case hr => first | (go_simp; done) | (go_simp; rfl)); intro gb310 hg w27 hbox hb; have n0_ := aM (blk_below (g := gb307) (o := .cells #[.int .u64 a0_0, .int .u64 a0_1] 76 (0, 0)) (by (with_reducible repeat (first|apply kN|apply kD|apply kA)); exact BK307.out) hb); have n1_ := aM (blk_below (g := gb308) (o := .cells #[.int .u64 a1_0, .int .u64 a1_1] 76 (0, 0)) (by (with_reducible repeat (first|apply kN|apply kD|apply kA)); exact BK308.out) hb); have n2_ := aM (blk_below (g := gb309) (o := .cells #[.int .u64 0, .int .u64 0] 76 (0, 0)) (by (with_reducible repeat (first|apply kN|apply kD|apply kA)); exact BK309.out) hb); have n3_ := aM (below_step (by repeat (first | (with_reducible first|exact HB.out|apply bA|apply bN|apply bD|refine bS ?_ GE307.out|refine bS ?_ GE308.out|refine bS ?_ GE309.out)|exact HB.out)) hb); have n4_ := aM (hbox); have n5_ := aM ((by rw [hg]; exact (below_size (by repeat (first | (with_reducible first|exact HB.out|apply bA|apply bN|apply bD|refine bS ?_ GE307.out|refine bS ?_ GE308.out|refine bS ?_ GE309.out)|exact HB.out))) : w.heap.size ≤ gb310)); have n6_ := aM ((by rw [hg]; exact (below_size (by repeat (first | (with_reducible first|exact HB.out|apply bA|apply bN|apply bD|refine bS ?_ GE307.out|refine bS ?_ GE308.out|refine bS ?_ GE309.out)|exact HB.out))) : w.heap.size ≤ gb310)); have n7_ := aM ((by rw [hg]; exact Nat.ne_of_lt (blk_lt (g := gb307) (o := .cells #[.int .u64 a0_0, .int .u64 a0_1] 76 (0, 0)) (by (with_reducible repeat (first|apply kN|apply kD|apply kA)); exact BK307.out)) : gb307 ≠ gb310)); have n8_ := aM ((by rw [hg]; exact Nat.ne_of_gt (blk_lt (g := gb307) (o := .cells #[.int .u64 a0_0, .int .u64 a0_1] 76 (0, 0)) (by (with_reducible repeat (first|apply kN|apply kD|apply kA)); exact BK307.out)) : gb310 ≠ gb307)); have n9_ := aM ((by rw [hg]; exact Nat.ne_of_lt (blk_lt (g := gb308) (o := .cells #[.int .u64 a1_0, .int .u64 a1_1] 76 (0, 0)) (by (with_reducible repeat (first|apply kN|apply kD|apply kA)); exact BK308.out)) : gb308 ≠ gb310)); have n10_ := aM ((by rw [hg]; exact Nat.ne_of_gt (blk_lt (g := gb308) (o := .cells #[.int .u64 a1_0, .int .u64 a1_1] 76 (0, 0)) (by (with_reducible repeat (first|apply kN|apply kD|apply kA)); exact BK308.out)) : gb310 ≠ gb308)); have n11_ := aM ((by rw [hg]; exact Nat.ne_of_lt (blk_lt (g := gb309) (o := .cells #[.int .u64 0, .int .u64 0] 76 (0, 0)) (by (with_reducible repeat (first|apply kN|apply kD|apply kA)); exact BK309.out)) : gb309 ≠ gb310)); have n12_ := aM ((by rw [hg]; exact Nat.ne_of_gt (blk_lt (g := gb309) (o := .cells #[.int .u64 0, .int .u64 0] 76 (0, 0)) (by (with_reducible repeat (first|apply kN|apply kD|apply kA)); exact BK309.out)) : gb310 ≠ gb309)); clear BK307; clear BK308; clear BK309; clear HB; have BK307 := n0_; have BK308 := n1_; have BK309 := n2_; have HB := n3_; have BK310 := n4_; have GW310 := n5_; have GE310 := n6_; have NB307_310 := n7_; have NB310_307 := n8_; have NB308_310 := n9_; have NB310_308 := n10_; have NB309_310 := n11_; have NB310_309 := n12_; clear n0_ n1_ n2_ n3_ n4_ n5_ n6_ n7_ n8_ n9_ n10_ n11_ n12_; clear hb hbox hg; have hnb28 := NB310_307.out; have hnc28 := NB307_310.out; have hnb29 := NB310_308.out; have hnc29 := NB308_310.out; have hnb30 := NB310_309.out; have hnc30 := NB309_310.out; have hcz31_0 : w27.cell? ⟨gb310, 0, none⟩ = some (.int .u64 0) := (blk_cell BK310.out 0).trans rfl; have hcz31_1 : w27.cell? ⟨gb310, 1, none⟩ = some (.int .u64 0) := (blk_cell BK310.out 1).trans rfl; have hfz31_0 := blk_frozen BK310.out 0; have hfz31_1 := blk_frozen BK310.out 1; have hcz32_0 : w27.cell? ⟨gb307, 0, none⟩ = some (.int .u64 a0_0) := (blk_cell BK307.out 0).trans rfl; have hcz32_1 : w27.cell? ⟨gb307, 1, none⟩ = some (.int .u64 a0_1) := (blk_cell BK307.out 1).trans rfl; have hfz32_0 := blk_frozen BK307.out 0; have hfz32_1 := blk_frozen BK307.out 1; have hcz33_0 : w27.cell? ⟨gb309, 0, none⟩ = some (.int .u64 0) := (blk_cell BK309.out 0).trans rfl; have hcz33_1 : w27.cell? ⟨gb309, 1, none⟩ = some (.int .u64 0) := (blk_cell BK309.out 1).trans rfl; have hfz33_0 := blk_frozen BK309.out 0; have hfz33_1 := blk_frozen BK309.out 1))
   refine bodyPost_ret (results_cell_row rfl _ _ gb309 76 #[.int .u64 (IntKind.u64.wrap (a0_0 + a1_0)), .int .u64 (IntKind.u64.wrap (a0_1 + a1_1))] (0, 0) _ rfl (by (with_reducible repeat (first|apply kN|apply kD|apply kA)); refine blk_put (cs := #[.int .u64 (IntKind.u64.wrap (a0_0 + a1_0)), .int .u64 0]) ?_ 1 _ rfl; (with_reducible repeat (first|apply kN|apply kD|apply kA)); refine blk_put (cs := #[.int .u64 0, .int .u64 0]) ?_ 0 _ rfl; (with_reducible repeat (first|apply kN|apply kD|apply kA)); refine blk_far ?_ NB309_310.out _; (with_reducible repeat (first|apply kN|apply kD|apply kA)); refine blk_far ?_ NB309_310.out _; (with_reducible repeat (first|apply kN|apply kD|apply kA)); exact BK309.out) Try.underlying76 rfl (by kernel_rfl)) rfl ?_
   exact ⟨by first | rfl | (simp [errW_none, errW_some] <;> rfl) | (simp [*, errW_none, errW_some] <;> rfl), by repeat (first | (with_reducible first|exact HB.out|apply bA|apply bN|apply bD|refine bS ?_ GE307.out|refine bS ?_ GE308.out|refine bS ?_ GE309.out|refine bS ?_ GE310.out)|exact HB.out)⟩

/-! ### athanorref01_Product: function 48 -/
def athanorref01_Product.l0 : Nat → Int → Int → Int → Int → Int → Option (Int × Int)
 | 0, _, _, _, _, _ => none
 | k + 1, x0, x1, x6, x313000, x313001 => if x6 ≥ 0 then ((athanorref01_double.f x313000 x313001).bind fun bt313 => (if 0 ≤ (IntKind.u64.wrap (x6)) then (if (Go.bits .and .u64 (shr .u64 x1 (IntKind.u64.wrap (x6))) 1) = 1 then ((athanorref01_plus.f bt313.1 bt313.2 0 x0).bind fun bt315 => (athanorref01_Product.l0 k x0 x1 (wrap64 (x6 - 1)) bt315.1 bt315.2)) else (athanorref01_Product.l0 k x0 x1 (wrap64 (x6 - 1)) bt313.1 bt313.2)) else (none))) else (some (x313000, x313001))
def athanorref01_Product.f (k : Nat) (a0 : Int) (a1 : Int) : Option (Int × Int) := athanorref01_Product.l0 k a0 a1 63 0 0
theorem athanorref01_Product.mono_l : ∀ k, (∀ y0 y1 y2 y3 y4, LeO (athanorref01_Product.l0 k y0 y1 y2 y3 y4) (athanorref01_Product.l0 (k + 1) y0 y1 y2 y3 y4))
 | 0 => fun _ _ _ _ _ r h => by simp [athanorref01_Product.l0] at h
 | k + 1 => by
  have ih0 := athanorref01_Product.mono_l k
  ·intro y0 y1 y2 y3 y4
   unfold athanorref01_Product.l0
   repeat' first
   | (with_reducible exact ih0 _ _ _ _ _)
   | (with_reducible exact LeO.refl _)
   | (with_reducible exact LeO.none _)
   | (with_reducible refine LeO.ite ?_ ?_)
   | (with_reducible refine LeO.bind ?_ (fun _ => ?_))
   | exact ih0 _ _ _ _ _
   | exact LeO.none _
   | refine LeO.ite ?_ ?_
   | refine LeO.bind ?_ (fun _ => ?_)
theorem athanorref01_Product.mono : ∀ a0 a1 k, LeO (athanorref01_Product.f k a0 a1) (athanorref01_Product.f (k + 1) a0 a1) := by
 intro a0 a1 k
 have ih0 := athanorref01_Product.mono_l k
 unfold athanorref01_Product.f
 repeat' first
   | (with_reducible exact ih0 _ _ _ _ _)
   | (with_reducible exact LeO.refl _)
   | (with_reducible exact LeO.none _)
   | (with_reducible refine LeO.ite ?_ ?_)
   | (with_reducible refine LeO.bind ?_ (fun _ => ?_))
   | exact ih0 _ _ _ _ _
   | exact LeO.none _
   | refine LeO.ite ?_ ?_
   | refine LeO.bind ?_ (fun _ => ?_)
set_option maxHeartbeats 8000000 in
set_option maxRecDepth 100000 in
theorem athanorref01_Product.calls (k : Nat) (a0 : Int) (a1 : Int) (r1 : Int) (r2 : Int) (w : World) (h : athanorref01_Product.f k a0 a1 = some (r1, r2)) :
  Calls Try.prog 48 #[.int .u64 a0, .int .u64 a1] w fun e w' => e = .returned (.agg #[.int .u64 r1, .int .u64 r2]) ∧ Below w.heap.size w w' := by
 have hu76 := Try.underlying76
 have HB := aM (Below.refl w.heap.size w)
 have H : (athanorref01_Product.l0 k a0 a1 63 0 0) = some (r1, r2) := h
 clear h
 have H' := Aside0.mk H
 clear H
 go_enter Try.func48, Try.ntmps48
 go_wp2_with (first | ((with_reducible refine gate_dst (N := 4) rfl ?_); refine box_event ?hg (N := 4) ?hd (cs := #[.int .u64 0, .int .u64 0]) (t := 76) ?hr ?_; (case hd => rfl); (case hg => rfl); (case hr => first | (go_simp; done) | (go_simp; rfl)); intro gb311 hg w3 hbox hb; have n0_ := aM (below_step (by repeat (first | (with_reducible first|exact HB.out|apply bA|apply bN|apply bD)|exact HB.out)) hb); have n1_ := aM (hbox); have n2_ := aM ((by rw [hg]; exact (below_size (by repeat (first | (with_reducible first|exact HB.out|apply bA|apply bN|apply bD)|exact HB.out))) : w.heap.size ≤ gb311)); have n3_ := aM ((by rw [hg]; exact (below_size (by repeat (first | (with_reducible first|exact HB.out|apply bA|apply bN|apply bD)|exact HB.out))) : w.heap.size ≤ gb311)); clear HB; have HB := n0_; have BK311 := n1_; have GW311 := n2_; have GE311 := n3_; clear n0_ n1_ n2_ n3_; clear hb hbox hg) | ((with_reducible refine gate_dst (N := 5) rfl ?_); refine box_event ?hg (N := 5) ?hd (cs := #[.int .u64 0, .int .u64 0]) (t := 76) ?hr ?_; (case hd => rfl); (case hg => rfl); (case hr => first | (go_simp; done) | (go_simp; rfl)); intro gb312 hg w4 hbox hb; have n0_ := aM (blk_below (g := gb311) (o := .cells #[.int .u64 0, .int .u64 0] 76 (0, 0)) (by (with_reducible repeat (first|apply kN|apply kD|apply kA)); exact BK311.out) hb); have n1_ := aM (below_step (by repeat (first | (with_reducible first|exact HB.out|apply bA|apply bN|apply bD|refine bS ?_ GE311.out)|exact HB.out)) hb); have n2_ := aM (hbox); have n3_ := aM ((by rw [hg]; exact (below_size (by repeat (first | (with_reducible first|exact HB.out|apply bA|apply bN|apply bD|refine bS ?_ GE311.out)|exact HB.out))) : w.heap.size ≤ gb312)); have n4_ := aM ((by rw [hg]; exact (below_size (by repeat (first | (with_reducible first|exact HB.out|apply bA|apply bN|apply bD|refine bS ?_ GE311.out)|exact HB.out))) : w.heap.size ≤ gb312)); have n5_ := aM ((by rw [hg]; exact Nat.ne_of_lt (blk_lt (g := gb311) (o := .cells #[.int .u64 0, .int .u64 0] 76 (0, 0)) (by (with_reducible repeat (first|apply kN|apply kD|apply kA)); exact BK311.out)) : gb311 ≠ gb312)); have n6_ := aM ((by rw [hg]; exact Nat.ne_of_gt (blk_lt (g := gb311) (o := .cells #[.int .u64 0, .int .u64 0] 76 (0, 0)) (by (with_reducible repeat (first|apply kN|apply kD|apply kA)); exact BK311.out)) : gb312 ≠ gb311)); clear BK311; clear HB; have BK311 := n0_; have HB := n1_; have BK312 := n2_; have GW312 := n3_; have GE312 := n4_; have NB311_312 := n5_; have NB312_311 := n6_; clear n0_ n1_ n2_ n3_ n4_ n5_ n6_; clear hb hbox hg))
 go_loopg [6] k (fun kq v6 w' => ∃ (x6_1 : Int) (x313000_1 : Int) (x313001_1 : Int), v6 = .int .i64 x6_1 ∧ Aside0 (athanorref01_Product.l0 kq a0 a1 x6_1 x313000_1 x313001_1 = some (r1, r2)) ∧ Aside0 (kq ≤ k) ∧ Aside0 (w'.heap[gb311]? = some (.cells #[.int .u64 0, .int .u64 0] 76 (0, 0))) ∧ Aside0 (w'.heap[gb312]? = some (.cells #[.int .u64 x313000_1, .int .u64 x313001_1] 76 (0, 0))) ∧ Aside0 (Below w.heap.size w w'))
 case atStart => exact ⟨(63), (0), (0), (by first | rfl | (simp; done) | (simp [*]; done)), H', ⟨Nat.le_refl _⟩, ⟨by (with_reducible repeat (first|apply kN|apply kD|apply kA)); exact BK311.out⟩, ⟨by (with_reducible repeat (first|apply kN|apply kD|apply kA)); exact BK312.out⟩, ⟨by repeat (first | (with_reducible first|exact HB.out|apply bA|apply bN|apply bD|refine bS ?_ GE311.out|refine bS ?_ GE312.out)|exact HB.out)⟩⟩
 case round =>
  clear H'
  skip
  obtain ⟨x6_1, x313000_1, x313001_1, rfl, HA, HK1, BK311, BK312, HB⟩ := hrel
  cases gk with
  | zero => exact absurd HA.out (by simp [athanorref01_Product.l0])
  | succ k1 =>
   have H := HA.out
   clear HA
   simp only [athanorref01_Product.l0] at H
   by_cases c5 : x6_1 ≥ 0
   ·rw [if_pos c5] at H
    have c5b0 : decide (0 ≤ x6_1) = true := decide_eq_true c5
    clear c5
    replace H := Option.bind_eq_some_iff.mp H
    obtain ⟨⟨t313, t314⟩, A60, H⟩ := H
    replace H : (if 0 ≤ (IntKind.u64.wrap (x6_1)) then (if (Go.bits .and .u64 (shr .u64 a1 (IntKind.u64.wrap (x6_1))) 1) = 1 then ((athanorref01_plus.f t313 t314 0 a0).bind fun bt315 => (athanorref01_Product.l0 k1 a0 a1 (wrap64 (x6_1 - 1)) bt315.1 bt315.2)) else (athanorref01_Product.l0 k1 a0 a1 (wrap64 (x6_1 - 1)) t313 t314)) else (none)) = some (r1, r2) := H
    have A6 := Aside0.mk A60
    clear A60
    obtain ⟨ji7, hji7⟩ : ∃ j_ : Int, (IntKind.u64.wrap (x6_1)) = j_ := ⟨_, rfl⟩
    replace H : (if 0 ≤ (ji7) then (if (Go.bits .and .u64 (shr .u64 a1 (ji7)) 1) = 1 then ((athanorref01_plus.f t313 t314 0 a0).bind fun bt315 => (athanorref01_Product.l0 k1 a0 a1 (wrap64 (x6_1 - 1)) bt315.1 bt315.2)) else (athanorref01_Product.l0 k1 a0 a1 (wrap64 (x6_1 - 1)) t313 t314)) else (none)) = some (r1, r2) := by first | (rw [hji7] at H; exact H) | (simp only [hji7] at H ⊢; exact H)
    (try rw [hji7] at A6)
    by_cases c8 : 0 ≤ (ji7)
    ·rw [if_pos c8] at H
     have c8b0 := eq_true c8
     have c8b1 : decide (0 ≤ (ji7)) = true := decide_eq_true c8
     clear c8
     obtain ⟨ji9, hji9⟩ : ∃ j_ : Int, (shr .u64 a1 (ji7)) = j_ := ⟨_, rfl⟩
     replace H : (if (Go.bits .and .u64 (ji9) 1) = 1 then ((athanorref01_plus.f t313 t314 0 a0).bind fun bt315 => (athanorref01_Product.l0 k1 a0 a1 (wrap64 (x6_1 - 1)) bt315.1 bt315.2)) else (athanorref01_Product.l0 k1 a0 a1 (wrap64 (x6_1 - 1)) t313 t314)) = some (r1, r2) := by first | (rw [hji9] at H; exact H) | (simp only [hji9] at H ⊢; exact H)
     (try rw [hji9] at A6)
     have hji9_ : (a1 / 2 ^ min (ji7).toNat 64) = ji9 := hji9
     have hji9z : (ji7) ≤ 64 → (a1 / 2 ^ (ji7).toNat) = ji9 := shr_small hji9
     by_cases c10 : (Go.bits .and .u64 (ji9) 1) = 1
     ·rw [if_pos c10] at H
      have c10b0 : ((Go.bits .and .u64 (ji9) 1) == 1) = true := beq_iff_eq.mpr c10
      have c10b1 : ((Go.bits .and .u64 (ji9) 1) != 1) = false := bne_eq_false_iff_eq.mpr c10
      clear c10
      replace H := Option.bind_eq_some_iff.mp H
      obtain ⟨⟨t315, t316⟩, A110, H⟩ := H
      replace H : (athanorref01_Product.l0 k1 a0 a1 (wrap64 (x6_1 - 1)) t315 t316) = some (r1, r2) := H
      have A11 := Aside0.mk A110
      clear A110
      as_aux_lemma =>
       have H' := Aside0.mk H
       clear H
       have hnb12 := NB312_311.out
       have hnc12 := NB311_312.out
       have hcz13_0 : wr.cell? ⟨gb312, 0, none⟩ = some (.int .u64 x313000_1) := (blk_cell BK312.out 0).trans rfl
       have hcz13_1 : wr.cell? ⟨gb312, 1, none⟩ = some (.int .u64 x313001_1) := (blk_cell BK312.out 1).trans rfl
       have hfz13_0 := blk_frozen BK312.out 0
       have hfz13_1 := blk_frozen BK312.out 1
       go_wp2_with (first | ((with_reducible refine gate_callee (f := 64) rfl ?_); refine goesL_ (some 12) rfl rfl Try.func64 (by kernel_rfl) rfl #[.agg #[.int .u64 x313000_1, .int .u64 x313001_1]] rfl (by (try simp only [List.map_toArray, List.map_cons, List.map_nil]); first | done | rfl | (simp only [List.length_drop, List.length_take]; rfl)) ?_; (with_reducible refine (athanorref01_double.calls x313000_1 x313001_1 t313 t314 _ A6.out).mono ?_); rintro e w14 ⟨rfl, hb⟩; refine ⟨_, rfl, ?_⟩; have n0_ := aM (blk_below (g := gb311) (o := .cells #[.int .u64 0, .int .u64 0] 76 (0, 0)) (by (with_reducible repeat (first|apply kN|apply kD|apply kA)); exact BK311.out) hb); have n1_ := aM (blk_below (g := gb312) (o := .cells #[.int .u64 x313000_1, .int .u64 x313001_1] 76 (0, 0)) (by (with_reducible repeat (first|apply kN|apply kD|apply kA)); exact BK312.out) hb); have n2_ := aM (below_step (by repeat (first | (with_reducible first|exact HB.out|apply bA|apply bN|apply bD|refine bS ?_ GE311.out|refine bS ?_ GE312.out)|exact HB.out)) hb); clear BK311; clear BK312; clear HB; have BK311 := n0_; have BK312 := n1_; have HB := n2_; clear n0_ n1_ n2_; (try clear hb); have hcz15_0 : w14.cell? ⟨gb312, 0, none⟩ = some (.int .u64 x313000_1) := (blk_cell BK312.out 0).trans rfl; have hcz15_1 : w14.cell? ⟨gb312, 1, none⟩ = some (.int .u64 x313001_1) := (blk_cell BK312.out 1).trans rfl; have hfz15_0 := blk_frozen BK312.out 0; have hfz15_1 := blk_frozen BK312.out 1) | ((with_reducible refine gate_callee (f := 65) rfl ?_); refine goesL_ (some 22) rfl rfl Try.func65 (by kernel_rfl) rfl #[.agg #[.int .u64 t313, .int .u64 t314], .agg #[.int .u64 0, .int .u64 a0]] rfl (by (try simp only [List.map_toArray, List.map_cons, List.map_nil]); first | done | rfl | (simp only [List.length_drop, List.length_take]; rfl)) ?_; (with_reducible refine (athanorref01_plus.calls t313 t314 0 a0 t315 t316 _ A11.out).mono ?_); rintro e w16 ⟨rfl, hb⟩; refine ⟨_, rfl, ?_⟩; have n0_ := aM (blk_below (g := gb311) (o := .cells #[.int .u64 0, .int .u64 0] 76 (0, 0)) (by (with_reducible repeat (first|apply kN|apply kD|apply kA)); refine blk_far ?_ NB311_312.out _; (with_reducible repeat (first|apply kN|apply kD|apply kA)); refine blk_far ?_ NB311_312.out _; (with_reducible repeat (first|apply kN|apply kD|apply kA)); exact BK311.out) hb); have n1_ := aM (blk_below (g := gb312) (o := .cells #[.int .u64 t313, .int .u64 t314] 76 (0, 0)) (by (with_reducible repeat (first|apply kN|apply kD|apply kA)); refine blk_put (cs := #[.int .u64 t313, .int .u64 x313001_1]) ?_ 1 _ rfl; (with_reducible repeat (first|apply kN|apply kD|apply kA)); refine blk_put (cs := #[.int .u64 x313000_1, .int .u64 x313001_1]) ?_ 0 _ rfl; (with_reducible repeat (first|apply kN|apply kD|apply kA)); exact BK312.out) hb); have n2_ := aM (below_step (by repeat (first | (with_reducible first|exact HB.out|apply bA|apply bN|apply bD|refine bS ?_ GE311.out|refine bS ?_ GE312.out)|exact HB.out)) hb); clear BK311; clear BK312; clear HB; have BK311 := n0_; have BK312 := n1_; have HB := n2_; clear n0_ n1_ n2_; (try clear hb); have hcz17_0 : w16.cell? ⟨gb312, 0, none⟩ = some (.int .u64 t313) := (blk_cell BK312.out 0).trans rfl; have hcz17_1 : w16.cell? ⟨gb312, 1, none⟩ = some (.int .u64 t314) := (blk_cell BK312.out 1).trans rfl; have hfz17_0 := blk_frozen BK312.out 0; have hfz17_1 := blk_frozen BK312.out 1))
       go_roundg k1
       case measure => have := HK1.out; omega
       case rel => exact ⟨(wrap64 (x6_1 - 1)), (t315), (t316), (by first | rfl | (simp; done) | (simp [*]; done)), H', ⟨by have := HK1.out; omega⟩, ⟨by (with_reducible repeat (first|apply kN|apply kD|apply kA)); refine blk_far ?_ NB311_312.out _; (with_reducible repeat (first|apply kN|apply kD|apply kA)); refine blk_far ?_ NB311_312.out _; (with_reducible repeat (first|apply kN|apply kD|apply kA)); exact BK311.out⟩, ⟨by (with_reducible repeat (first|apply kN|apply kD|apply kA)); refine blk_put (cs := #[.int .u64 t315, .int .u64 t314]) ?_ 1 _ rfl; (with_reducible repeat (first|apply kN|apply kD|apply kA)); refine blk_put (cs := #[.int .u64 t313, .int .u64 t314]) ?_ 0 _ rfl; (with_reducible repeat (first|apply kN|apply kD|apply kA)); exact BK312.out⟩, ⟨by repeat (first | (with_reducible first|exact HB.out|apply bA|apply bN|apply bD|refine bS ?_ GE311.out|refine bS ?_ GE312.out)|exact HB.out)⟩⟩
     ·rw [if_neg c10] at H
      have c10b0 : ((Go.bits .and .u64 (ji9) 1) == 1) = false := beq_eq_false_iff_ne.mpr c10
      have c10b1 : ((Go.bits .and .u64 (ji9) 1) != 1) = true := bne_iff_ne.mpr c10
      as_aux_lemma =>
       have H' := Aside0.mk H
       clear H
       have hnb18 := NB312_311.out
       have hnc18 := NB311_312.out
       have hcz19_0 : wr.cell? ⟨gb312, 0, none⟩ = some (.int .u64 x313000_1) := (blk_cell BK312.out 0).trans rfl
       have hcz19_1 : wr.cell? ⟨gb312, 1, none⟩ = some (.int .u64 x313001_1) := (blk_cell BK312.out 1).trans rfl
       have hfz19_0 := blk_frozen BK312.out 0
       have hfz19_1 := blk_frozen BK312.out 1
       go_wp2_with (first | ((with_reducible refine gate_callee (f := 64) rfl ?_); refine goesL_ (some 12) rfl rfl Try.func64 (by kernel_rfl) rfl #[.agg #[.int .u64 x313000_1, .int .u64 x313001_1]] rfl (by (try simp only [List.map_toArray, List.map_cons, List.map_nil]); first | done | rfl | (simp only [List.length_drop, List.length_take]; rfl)) ?_; (with_reducible refine (athanorref01_double.calls x313000_1 x313001_1 t313 t314 _ A6.out).mono ?_); rintro e w20 ⟨rfl, hb⟩; refine ⟨_, rfl, ?_⟩; have n0_ := aM (blk_below (g := gb311) (o := .cells #[.int .u64 0, .int .u64 0] 76 (0, 0)) (by (with_reducible repeat (first|apply kN|apply kD|apply kA)); exact BK311.out) hb); have n1_ := aM (blk_below (g := gb312) (o := .cells #[.int .u64 x313000_1, .int .u64 x313001_1] 76 (0, 0)) (by (with_reducible repeat (first|apply kN|apply kD|apply kA)); exact BK312.out) hb); have n2_ := aM (below_step (by repeat (first | (with_reducible first|exact HB.out|apply bA|apply bN|apply bD|refine bS ?_ GE311.out|refine bS ?_ GE312.out)|exact HB.out)) hb); clear BK311; clear BK312; clear HB; have BK311 := n0_; have BK312 := n1_; have HB := n2_; clear n0_ n1_ n2_; (try clear hb); have hcz21_0 : w20.cell? ⟨gb312, 0, none⟩ = some (.int .u64 x313000_1) := (blk_cell BK312.out 0).trans rfl; have hcz21_1 : w20.cell? ⟨gb312, 1, none⟩ = some (.int .u64 x313001_1) := (blk_cell BK312.out 1).trans rfl; have hfz21_0 := blk_frozen BK312.out 0; have hfz21_1 := blk_frozen BK312.out 1))
       go_roundg k1
       case measure => have := HK1.out; omega
       case rel => exact ⟨(wrap64 (x6_1 - 1)), (t313), (t314), (by first | rfl | (simp; done) | (simp [*]; done)), H', ⟨by have := HK1.out; omega⟩, ⟨by (with_reducible repeat (first|apply kN|apply kD|apply kA)); refine blk_far ?_ NB311_312.out _; (with_reducible repeat (first|apply kN|apply kD|apply kA)); refine blk_far ?_ NB311_312.out _; (with_reducible repeat (first|apply kN|apply kD|apply kA)); exact BK311.out⟩, ⟨by (with_reducible repeat (first|apply kN|apply kD|apply kA)); refine blk_put (cs := #[.int .u64 t313, .int .u64 x313001_1]) ?_ 1 _ rfl; (with_reducible repeat (first|apply kN|apply kD|apply kA)); refine blk_put (cs := #[.int .u64 x313000_1, .int .u64 x313001_1]) ?_ 0 _ rfl; (with_reducible repeat (first|apply kN|apply kD|apply kA)); exact BK312.out⟩, ⟨by repeat (first | (with_reducible first|exact HB.out|apply bA|apply bN|apply bD|refine bS ?_ GE311.out|refine bS ?_ GE312.out)|exact HB.out)⟩⟩
    ·rw [if_neg c8] at H
     exact absurd H (by simp)
   ·rw [if_neg c5] at H
    have c5b0 : decide (0 ≤ x6_1) = false := decide_eq_false c5
    clear c5
    as_aux_lemma =>
     simp only [Option.some.injEq, Prod.mk.injEq] at H
     obtain ⟨rfl, rfl⟩ := H
     have hnb22 := NB312_311.out
     have hnc22 := NB311_312.out
     have hcz23_0 : wr.cell? ⟨gb312, 0, none⟩ = some (.int .u64 x313000_1) := (blk_cell BK312.out 0).trans rfl
     have hcz23_1 : wr.cell? ⟨gb312, 1, none⟩ = some (.int .u64 x313001_1) := (blk_cell BK312.out 1).trans rfl
     have hfz23_0 := blk_frozen BK312.out 0
     have hfz23_1 := blk_frozen BK312.out 1
     have hcz24_0 : wr.cell? ⟨gb311, 0, none⟩ = some (.int .u64 0) := (blk_cell BK311.out 0).trans rfl
     have hcz24_1 : wr.cell? ⟨gb311, 1, none⟩ = some (.int .u64 0) := (blk_cell BK311.out 1).trans rfl
     have hfz24_0 := blk_frozen BK311.out 0
     have hfz24_1 := blk_frozen BK311.out 1
     go_wp2
     refine bodyPost_ret (results_cell_row rfl _ _ gb311 76 #[.int .u64 x313000_1, .int .u64 x313001_1] (0, 0) _ rfl (by (with_reducible repeat (first|apply kN|apply kD|apply kA)); refine blk_put (cs := #[.int .u64 x313000_1, .int .u64 0]) ?_ 1 _ rfl; (with_reducible repeat (first|apply kN|apply kD|apply kA)); refine blk_put (cs := #[.int .u64 0, .int .u64 0]) ?_ 0 _ rfl; (with_reducible repeat (first|apply kN|apply kD|apply kA)); exact BK311.out) Try.underlying76 rfl (by kernel_rfl)) rfl ?_
     exact ⟨by first | rfl | (simp [errW_none, errW_some] <;> rfl) | (simp [*, errW_none, errW_some] <;> rfl), by repeat (first | (with_reducible first|exact HB.out|apply bA|apply bN|apply bD|refine bS ?_ GE311.out|refine bS ?_ GE312.out)|exact HB.out)⟩

/-! ### athanorref01_Size: function 49 -/
def athanorref01_Size.f (a0 : Int) : Option (Int) := if a0 < 0 then (some (IntKind.u64.wrap ((IntKind.u64.wrap (wrap64 (-(wrap64 (a0 + 1))))) + 1))) else (some (IntKind.u64.wrap (a0)))
set_option maxHeartbeats 8000000 in
set_option maxRecDepth 100000 in
theorem athanorref01_Size.calls (a0 : Int) (r : Int) (w : World) (h : athanorref01_Size.f a0 = some r) :
  Calls Try.prog 49 #[.int .i64 a0] w fun e w' => e = .returned (.int .u64 r) ∧ Drawn0 w w' := by
 have H : (if a0 < 0 then (some (IntKind.u64.wrap ((IntKind.u64.wrap (wrap64 (-(wrap64 (a0 + 1))))) + 1))) else (some (IntKind.u64.wrap (a0)))) = some r := h
 clear h
 by_cases c2 : a0 < 0
 ·rw [if_pos c2] at H
  have c2b0 : decide (a0 < 0) = true := decide_eq_true c2
  clear c2
  as_aux_lemma =>
   obtain rfl := Option.some.inj H
   go_enter Try.func49, Try.ntmps49
   go_wp2
   go_ret
   exact ⟨by first | rfl | (simp; done) | (simp [*]; done), by repeat (first|exact Drawn0.refl _|apply Drawn0.step)⟩
 ·rw [if_neg c2] at H
  have c2b0 : decide (a0 < 0) = false := decide_eq_false c2
  clear c2
  as_aux_lemma =>
   obtain rfl := Option.some.inj H
   go_enter Try.func49, Try.ntmps49
   go_wp2
   go_ret
   exact ⟨by first | rfl | (simp; done) | (simp [*]; done), by repeat (first|exact Drawn0.refl _|apply Drawn0.step)⟩

/-! ### athanorref01_Held: function 50 -/
def athanorref01_Held.j0 : Nat → Int → Bool → Option (Int)
 | 0, _, _ => none
 | k + 1, x0, x12 => if x12 = true then (some (-9223372036854775808)) else (if x0 = 9223372036854775808 then (some (-9223372036854775808)) else (some (wrap64 (-(wrap64 (x0))))))
def athanorref01_Held.f (k : Nat) (a0 : Int) (a1 : Bool) (a2 : Bool) : Option (Int) := if a2 = true then (if a1 = true then (athanorref01_Held.j0 k a0 true) else (athanorref01_Held.j0 k a0 (decide (a0 > 9223372036854775808)))) else (if a1 = true then (some 9223372036854775807) else (if a0 ≥ 9223372036854775808 then (some 9223372036854775807) else (some (wrap64 (a0)))))
theorem athanorref01_Held.mono_l : ∀ k, (∀ y0 y1, LeO (athanorref01_Held.j0 k y0 y1) (athanorref01_Held.j0 (k + 1) y0 y1))
 | 0 => fun _ _ r h => by simp [athanorref01_Held.j0] at h
 | k + 1 => by
  have ih0 := athanorref01_Held.mono_l k
  ·intro y0 y1
   unfold athanorref01_Held.j0
   repeat' first
   | (with_reducible exact ih0 _ _)
   | (with_reducible exact LeO.refl _)
   | (with_reducible exact LeO.none _)
   | (with_reducible refine LeO.ite ?_ ?_)
   | (with_reducible refine LeO.bind ?_ (fun _ => ?_))
   | exact ih0 _ _
   | exact LeO.none _
   | refine LeO.ite ?_ ?_
   | refine LeO.bind ?_ (fun _ => ?_)
theorem athanorref01_Held.mono : ∀ a0 a1 a2 k, LeO (athanorref01_Held.f k a0 a1 a2) (athanorref01_Held.f (k + 1) a0 a1 a2) := by
 intro a0 a1 a2 k
 have ih0 := athanorref01_Held.mono_l k
 unfold athanorref01_Held.f
 repeat' first
   | (with_reducible exact ih0 _ _)
   | (with_reducible exact LeO.refl _)
   | (with_reducible exact LeO.none _)
   | (with_reducible refine LeO.ite ?_ ?_)
   | (with_reducible refine LeO.bind ?_ (fun _ => ?_))
   | exact ih0 _ _
   | exact LeO.none _
   | refine LeO.ite ?_ ?_
   | refine LeO.bind ?_ (fun _ => ?_)
set_option maxHeartbeats 8000000 in
set_option maxRecDepth 100000 in
theorem athanorref01_Held.calls (k : Nat) (a0 : Int) (a1 : Bool) (a2 : Bool) (r : Int) (w : World) (h : athanorref01_Held.f k a0 a1 a2 = some r) :
  Calls Try.prog 50 #[.int .u64 a0, .bool a1, .bool a2] w fun e w' => e = .returned (.int .i64 r) ∧ Drawn0 w w' := by
 have H : (if a2 = true then (if a1 = true then (athanorref01_Held.j0 k a0 true) else (athanorref01_Held.j0 k a0 (decide (a0 > 9223372036854775808)))) else (if a1 = true then (some 9223372036854775807) else (if a0 ≥ 9223372036854775808 then (some 9223372036854775807) else (some (wrap64 (a0)))))) = some r := h
 clear h
 by_cases c4 : a2 = true
 ·subst c4
  have H1 : (if a1 = true then (athanorref01_Held.j0 k a0 true) else (athanorref01_Held.j0 k a0 (decide (a0 > 9223372036854775808)))) = some r := by rw [if_pos rfl] at H; exact H
  clear H
  have H := H1
  clear H1
  have HC5 := Aside0.mk H
  clear H
  go_enter Try.func50, Try.ntmps50
  go_upto_region 2 with (fail)
  go_cut [12] (fun v12 wc => ∃ (kq : Nat) (x12_4 : Bool), v12 = .bool x12_4 ∧ Aside0 (athanorref01_Held.j0 kq a0 x12_4 = some r) ∧ Aside0 (kq ≤ k) ∧ Drawn0 w wc)
  case first =>
   have H := HC5.out
   clear HC5
   by_cases c6 : a1 = true
   ·subst c6
    have H1 : (athanorref01_Held.j0 k a0 true) = some r := by rw [if_pos rfl] at H; exact H
    clear H
    have H := H1
    clear H1
    as_aux_lemma =>
     have H' := Aside0.mk H
     clear H
     go_wp2
     go_meet
     case rel => exact ⟨_, (true), (by first | rfl | (simp; done) | (simp [*]; done)), H', ⟨by first | omega|exact Nat.le_refl _⟩, by repeat (first|exact Drawn0.refl _|apply Drawn0.step)⟩
   ·replace c6 := Bool.eq_false_iff.mpr c6
    subst c6
    have H1 : (athanorref01_Held.j0 k a0 (decide (a0 > 9223372036854775808))) = some r := by rw [if_neg (show ¬ (false = true) by decide)] at H; exact H
    clear H
    have H := H1
    clear H1
    as_aux_lemma =>
     have H' := Aside0.mk H
     clear H
     go_wp2
     go_meet
     case rel => exact ⟨_, (decide (a0 > 9223372036854775808)), (by first | rfl | (simp; done) | (simp [*]; done)), H', ⟨by first | omega|exact Nat.le_refl _⟩, by repeat (first|exact Drawn0.refl _|apply Drawn0.step)⟩
  case rest =>
   clear HC5
   (try clear c4); (try clear c6)
   obtain ⟨kq, x12_4, rfl, HA, HJ4, ⟨mc4, rfl⟩⟩ := hcut
   cases kq with
   | zero => exact absurd HA.out (by simp [athanorref01_Held.j0])
   | succ kj4 =>
    have H := HA.out
    clear HA
    simp only [athanorref01_Held.j0] at H
    by_cases c7 : x12_4 = true
    ·subst c7
     have H1 : (some (-9223372036854775808)) = some r := by rw [if_pos rfl] at H; exact H
     clear H
     have H := H1
     clear H1
     as_aux_lemma =>
      obtain rfl := Option.some.inj H
      go_wp2
      go_ret
      exact ⟨by first | rfl | (simp; done) | (simp [*]; done), by repeat (first|exact Drawn0.refl _|apply Drawn0.step)⟩
    ·replace c7 := Bool.eq_false_iff.mpr c7
     subst c7
     have H1 : (if a0 = 9223372036854775808 then (some (-9223372036854775808)) else (some (wrap64 (-(wrap64 (a0)))))) = some r := by rw [if_neg (show ¬ (false = true) by decide)] at H; exact H
     clear H
     have H := H1
     clear H1
     by_cases c8 : a0 = 9223372036854775808
     ·rw [if_pos c8] at H
      have c8b0 : (a0 == 9223372036854775808) = true := beq_iff_eq.mpr c8
      have c8b1 : (a0 != 9223372036854775808) = false := bne_eq_false_iff_eq.mpr c8
      clear c8
      as_aux_lemma =>
       obtain rfl := Option.some.inj H
       go_wp2
       go_ret
       exact ⟨by first | rfl | (simp; done) | (simp [*]; done), by repeat (first|exact Drawn0.refl _|apply Drawn0.step)⟩
     ·rw [if_neg c8] at H
      have c8b0 : (a0 == 9223372036854775808) = false := beq_eq_false_iff_ne.mpr c8
      have c8b1 : (a0 != 9223372036854775808) = true := bne_iff_ne.mpr c8
      as_aux_lemma =>
       obtain rfl := Option.some.inj H
       go_wp2
       go_ret
       exact ⟨by first | rfl | (simp; done) | (simp [*]; done), by repeat (first|exact Drawn0.refl _|apply Drawn0.step)⟩
 ·replace c4 := Bool.eq_false_iff.mpr c4
  subst c4
  have H1 : (if a1 = true then (some 9223372036854775807) else (if a0 ≥ 9223372036854775808 then (some 9223372036854775807) else (some (wrap64 (a0))))) = some r := by rw [if_neg (show ¬ (false = true) by decide)] at H; exact H
  clear H
  have H := H1
  clear H1
  by_cases c9 : a1 = true
  ·subst c9
   have H1 : (some 9223372036854775807) = some r := by rw [if_pos rfl] at H; exact H
   clear H
   have H := H1
   clear H1
   as_aux_lemma =>
    obtain rfl := Option.some.inj H
    go_enter Try.func50, Try.ntmps50
    go_wp2
    go_ret
    exact ⟨by first | rfl | (simp; done) | (simp [*]; done), by repeat (first|exact Drawn0.refl _|apply Drawn0.step)⟩
  ·replace c9 := Bool.eq_false_iff.mpr c9
   subst c9
   have H1 : (if a0 ≥ 9223372036854775808 then (some 9223372036854775807) else (some (wrap64 (a0)))) = some r := by rw [if_neg (show ¬ (false = true) by decide)] at H; exact H
   clear H
   have H := H1
   clear H1
   by_cases c10 : a0 ≥ 9223372036854775808
   ·rw [if_pos c10] at H
    have c10b0 : decide (9223372036854775808 ≤ a0) = true := decide_eq_true c10
    clear c10
    as_aux_lemma =>
     obtain rfl := Option.some.inj H
     go_enter Try.func50, Try.ntmps50
     go_wp2
     go_ret
     exact ⟨by first | rfl | (simp; done) | (simp [*]; done), by repeat (first|exact Drawn0.refl _|apply Drawn0.step)⟩
   ·rw [if_neg c10] at H
    have c10b0 : decide (9223372036854775808 ≤ a0) = false := decide_eq_false c10
    clear c10
    as_aux_lemma =>
     obtain rfl := Option.some.inj H
     go_enter Try.func50, Try.ntmps50
     go_wp2
     go_ret
     exact ⟨by first | rfl | (simp; done) | (simp [*]; done), by repeat (first|exact Drawn0.refl _|apply Drawn0.step)⟩

/-! ### athanorref01_Mul: function 25 -/
def athanorref01_Mul.j0 : Nat → Int → Int → Int → Bool → Bool → Option (Int)
 | 0, _, _, _, _, _ => none
 | k + 1, x0, x1, x6, x8, x39 => if x39 = true then (if (IntKind.u64.wrap (x6 + 1)) = 0 then ((athanorref01_Held.f k (IntKind.u64.wrap (x6 + 1)) true ((decide (x0 < 0)) != (decide (x1 < 0)))).bind fun t322 => (some t322)) else ((athanorref01_Held.f k (IntKind.u64.wrap (x6 + 1)) x8 ((decide (x0 < 0)) != (decide (x1 < 0)))).bind fun t323 => (some t323))) else ((athanorref01_Held.f k x6 x8 ((decide (x0 < 0)) != (decide (x1 < 0)))).bind fun t324 => (some t324))
def athanorref01_Mul.f (k : Nat) (a0 : Int) (a1 : Int) : Option (Int) := (athanorref01_Size.f a0).bind fun t317 => ((athanorref01_Size.f a1).bind fun t318 => ((athanorref01_Product.f k t317 t318).bind fun bt319 => (if ((IntKind.u64.wrap (bt319.2 * 4294967296)) / 4294967296) > 2147483648 then (athanorref01_Mul.j0 k a0 a1 (Go.bits .or .u64 (IntKind.u64.wrap (bt319.1 * 4294967296)) (bt319.2 / 4294967296)) (decide ((bt319.1 / 4294967296) > 0)) true) else (if ((IntKind.u64.wrap (bt319.2 * 4294967296)) / 4294967296) = 2147483648 then (athanorref01_Mul.j0 k a0 a1 (Go.bits .or .u64 (IntKind.u64.wrap (bt319.1 * 4294967296)) (bt319.2 / 4294967296)) (decide ((bt319.1 / 4294967296) > 0)) ((Int.tmod (Go.bits .or .u64 (IntKind.u64.wrap (bt319.1 * 4294967296)) (bt319.2 / 4294967296)) 2) == 1)) else (athanorref01_Mul.j0 k a0 a1 (Go.bits .or .u64 (IntKind.u64.wrap (bt319.1 * 4294967296)) (bt319.2 / 4294967296)) (decide ((bt319.1 / 4294967296) > 0)) false)))))
theorem athanorref01_Mul.mono_l : ∀ k, (∀ y0 y1 y2 y3 y4, LeO (athanorref01_Mul.j0 k y0 y1 y2 y3 y4) (athanorref01_Mul.j0 (k + 1) y0 y1 y2 y3 y4))
 | 0 => fun _ _ _ _ _ r h => by simp [athanorref01_Mul.j0] at h
 | k + 1 => by
  have ih0 := athanorref01_Mul.mono_l k
  ·intro y0 y1 y2 y3 y4
   unfold athanorref01_Mul.j0
   repeat' first
   | (with_reducible exact ih0 _ _ _ _ _)
   | (with_reducible exact athanorref01_Held.mono _ _ _ _)
   | (with_reducible exact athanorref01_Product.mono _ _ _)
   | (with_reducible exact LeO.refl _)
   | (with_reducible exact LeO.none _)
   | (with_reducible refine LeO.ite ?_ ?_)
   | (with_reducible refine LeO.bind ?_ (fun _ => ?_))
   | exact ih0 _ _ _ _ _
   | exact athanorref01_Held.mono _ _ _ _
   | exact athanorref01_Product.mono _ _ _
   | exact LeO.none _
   | refine LeO.ite ?_ ?_
   | refine LeO.bind ?_ (fun _ => ?_)
theorem athanorref01_Mul.mono : ∀ a0 a1 k, LeO (athanorref01_Mul.f k a0 a1) (athanorref01_Mul.f (k + 1) a0 a1) := by
 intro a0 a1 k
 have ih0 := athanorref01_Mul.mono_l k
 unfold athanorref01_Mul.f
 repeat' first
   | (with_reducible exact ih0 _ _ _ _ _)
   | (with_reducible exact athanorref01_Held.mono _ _ _ _)
   | (with_reducible exact athanorref01_Product.mono _ _ _)
   | (with_reducible exact LeO.refl _)
   | (with_reducible exact LeO.none _)
   | (with_reducible refine LeO.ite ?_ ?_)
   | (with_reducible refine LeO.bind ?_ (fun _ => ?_))
   | exact ih0 _ _ _ _ _
   | exact athanorref01_Held.mono _ _ _ _
   | exact athanorref01_Product.mono _ _ _
   | exact LeO.none _
   | refine LeO.ite ?_ ?_
   | refine LeO.bind ?_ (fun _ => ?_)
set_option maxHeartbeats 8000000 in
set_option maxRecDepth 100000 in
theorem athanorref01_Mul.calls (k : Nat) (a0 : Int) (a1 : Int) (r : Int) (w : World) (h : athanorref01_Mul.f k a0 a1 = some r) :
  Calls Try.prog 25 #[.int .i64 a0, .int .i64 a1] w fun e w' => e = .returned (.int .i64 r) ∧ Below w.heap.size w w' := by
 have hu76 := Try.underlying76
 have HB := aM (Below.refl w.heap.size w)
 have H : ((athanorref01_Size.f a0).bind fun t317 => ((athanorref01_Size.f a1).bind fun t318 => ((athanorref01_Product.f k t317 t318).bind fun bt319 => (if ((IntKind.u64.wrap (bt319.2 * 4294967296)) / 4294967296) > 2147483648 then (athanorref01_Mul.j0 k a0 a1 (Go.bits .or .u64 (IntKind.u64.wrap (bt319.1 * 4294967296)) (bt319.2 / 4294967296)) (decide ((bt319.1 / 4294967296) > 0)) true) else (if ((IntKind.u64.wrap (bt319.2 * 4294967296)) / 4294967296) = 2147483648 then (athanorref01_Mul.j0 k a0 a1 (Go.bits .or .u64 (IntKind.u64.wrap (bt319.1 * 4294967296)) (bt319.2 / 4294967296)) (decide ((bt319.1 / 4294967296) > 0)) ((Int.tmod (Go.bits .or .u64 (IntKind.u64.wrap (bt319.1 * 4294967296)) (bt319.2 / 4294967296)) 2) == 1)) else (athanorref01_Mul.j0 k a0 a1 (Go.bits .or .u64 (IntKind.u64.wrap (bt319.1 * 4294967296)) (bt319.2 / 4294967296)) (decide ((bt319.1 / 4294967296) > 0)) false)))))) = some r := h
 clear h
 replace H := Option.bind_eq_some_iff.mp H
 obtain ⟨t317, A30, H⟩ := H
 replace H : ((athanorref01_Size.f a1).bind fun t318 => ((athanorref01_Product.f k t317 t318).bind fun bt319 => (if ((IntKind.u64.wrap (bt319.2 * 4294967296)) / 4294967296) > 2147483648 then (athanorref01_Mul.j0 k a0 a1 (Go.bits .or .u64 (IntKind.u64.wrap (bt319.1 * 4294967296)) (bt319.2 / 4294967296)) (decide ((bt319.1 / 4294967296) > 0)) true) else (if ((IntKind.u64.wrap (bt319.2 * 4294967296)) / 4294967296) = 2147483648 then (athanorref01_Mul.j0 k a0 a1 (Go.bits .or .u64 (IntKind.u64.wrap (bt319.1 * 4294967296)) (bt319.2 / 4294967296)) (decide ((bt319.1 / 4294967296) > 0)) ((Int.tmod (Go.bits .or .u64 (IntKind.u64.wrap (bt319.1 * 4294967296)) (bt319.2 / 4294967296)) 2) == 1)) else (athanorref01_Mul.j0 k a0 a1 (Go.bits .or .u64 (IntKind.u64.wrap (bt319.1 * 4294967296)) (bt319.2 / 4294967296)) (decide ((bt319.1 / 4294967296) > 0)) false))))) = some r := H
 have A3 := Aside0.mk A30
 clear A30
 replace H := Option.bind_eq_some_iff.mp H
 obtain ⟨t318, A40, H⟩ := H
 replace H : ((athanorref01_Product.f k t317 t318).bind fun bt319 => (if ((IntKind.u64.wrap (bt319.2 * 4294967296)) / 4294967296) > 2147483648 then (athanorref01_Mul.j0 k a0 a1 (Go.bits .or .u64 (IntKind.u64.wrap (bt319.1 * 4294967296)) (bt319.2 / 4294967296)) (decide ((bt319.1 / 4294967296) > 0)) true) else (if ((IntKind.u64.wrap (bt319.2 * 4294967296)) / 4294967296) = 2147483648 then (athanorref01_Mul.j0 k a0 a1 (Go.bits .or .u64 (IntKind.u64.wrap (bt319.1 * 4294967296)) (bt319.2 / 4294967296)) (decide ((bt319.1 / 4294967296) > 0)) ((Int.tmod (Go.bits .or .u64 (IntKind.u64.wrap (bt319.1 * 4294967296)) (bt319.2 / 4294967296)) 2) == 1)) else (athanorref01_Mul.j0 k a0 a1 (Go.bits .or .u64 (IntKind.u64.wrap (bt319.1 * 4294967296)) (bt319.2 / 4294967296)) (decide ((bt319.1 / 4294967296) > 0)) false)))) = some r := H
 have A4 := Aside0.mk A40
 clear A40
 replace H := Option.bind_eq_some_iff.mp H
 obtain ⟨⟨t319, t320⟩, A50, H⟩ := H
 replace H : (if ((IntKind.u64.wrap (t320 * 4294967296)) / 4294967296) > 2147483648 then (athanorref01_Mul.j0 k a0 a1 (Go.bits .or .u64 (IntKind.u64.wrap (t319 * 4294967296)) (t320 / 4294967296)) (decide ((t319 / 4294967296) > 0)) true) else (if ((IntKind.u64.wrap (t320 * 4294967296)) / 4294967296) = 2147483648 then (athanorref01_Mul.j0 k a0 a1 (Go.bits .or .u64 (IntKind.u64.wrap (t319 * 4294967296)) (t320 / 4294967296)) (decide ((t319 / 4294967296) > 0)) ((Int.tmod (Go.bits .or .u64 (IntKind.u64.wrap (t319 * 4294967296)) (t320 / 4294967296)) 2) == 1)) else (athanorref01_Mul.j0 k a0 a1 (Go.bits .or .u64 (IntKind.u64.wrap (t319 * 4294967296)) (t320 / 4294967296)) (decide ((t319 / 4294967296) > 0)) false))) = some r := H
 have A5 := Aside0.mk A50
 clear A50
 have HC6 := Aside0.mk H
 clear H
 go_enter Try.func25, Try.ntmps25
 go_upto_region 5 with (first | ((with_reducible refine gate_callee (f := 49) rfl ?_); refine goesL_ (some 10) rfl rfl Try.func49 (by kernel_rfl) rfl #[.int .i64 a0] rfl (by (try simp only [List.map_toArray, List.map_cons, List.map_nil]); first | done | rfl | (simp only [List.length_drop, List.length_take]; rfl)) ?_; (with_reducible refine (athanorref01_Size.calls a0 t317 _ A3.out).mono ?_); rintro e w' ⟨rfl, ⟨nd, rfl⟩⟩; refine ⟨_, rfl, ?_⟩) | ((with_reducible refine gate_callee (f := 49) rfl ?_); refine goesL_ (some 12) rfl rfl Try.func49 (by kernel_rfl) rfl #[.int .i64 a1] rfl (by (try simp only [List.map_toArray, List.map_cons, List.map_nil]); first | done | rfl | (simp only [List.length_drop, List.length_take]; rfl)) ?_; (with_reducible refine (athanorref01_Size.calls a1 t318 _ A4.out).mono ?_); rintro e w' ⟨rfl, ⟨nd, rfl⟩⟩; refine ⟨_, rfl, ?_⟩) | ((with_reducible refine gate_callee (f := 48) rfl ?_); refine goesL_ (some 13) rfl rfl Try.func48 (by kernel_rfl) rfl #[.int .u64 t317, .int .u64 t318] rfl (by (try simp only [List.map_toArray, List.map_cons, List.map_nil]); first | done | rfl | (simp only [List.length_drop, List.length_take]; rfl)) ?_; (with_reducible refine (athanorref01_Product.calls k t317 t318 t319 t320 _ A5.out).mono ?_); rintro e w7 ⟨rfl, hb⟩; refine ⟨_, rfl, ?_⟩; have n0_ := aM (below_step (by repeat (first | (with_reducible first|exact HB.out|apply bA|apply bN|apply bD)|exact HB.out)) hb); clear HB; have HB := n0_; clear n0_; (try clear hb)) | ((with_reducible refine gate_dst (N := 5) rfl ?_); refine box_event ?hg (N := 5) ?hd (cs := #[.int .u64 0, .int .u64 0]) (t := 76) ?hr ?_; (case hd => rfl); (case hg => rfl); (case hr => first | (go_simp; done) | (go_simp; rfl)); intro gb321 hg w8 hbox hb; have n0_ := aM (below_step (by repeat (first | (with_reducible first|exact HB.out|apply bA|apply bN|apply bD)|exact HB.out)) hb); have n1_ := aM (hbox); have n2_ := aM ((by rw [hg]; exact (below_size (by repeat (first | (with_reducible first|exact HB.out|apply bA|apply bN|apply bD)|exact HB.out))) : w.heap.size ≤ gb321)); have n3_ := aM ((by rw [hg]; exact (below_size (by repeat (first | (with_reducible first|exact HB.out|apply bA|apply bN|apply bD)|exact HB.out))) : w.heap.size ≤ gb321)); clear HB; have HB := n0_; have BK321 := n1_; have GW321 := n2_; have GE321 := n3_; clear n0_ n1_ n2_ n3_; clear hb hbox hg; have hcz9_0 : w8.cell? ⟨gb321, 0, none⟩ = some (.int .u64 0) := (blk_cell BK321.out 0).trans rfl; have hcz9_1 : w8.cell? ⟨gb321, 1, none⟩ = some (.int .u64 0) := (blk_cell BK321.out 1).trans rfl; have hfz9_0 := blk_frozen BK321.out 0; have hfz9_1 := blk_frozen BK321.out 1))
 (try simp only [Act.put, List.setIfInBounds_toArray, List.set_cons_zero, List.set_cons_succ])
 go_cut [39] (fun v39 wc => ∃ (kq : Nat) (x39_5 : Bool), v39 = .bool x39_5 ∧ Aside0 (athanorref01_Mul.j0 kq a0 a1 (Go.bits .or .u64 (IntKind.u64.wrap (t319 * 4294967296)) (t320 / 4294967296)) (decide ((t319 / 4294967296) > 0)) x39_5 = some r) ∧ Aside0 (kq ≤ k) ∧ Aside0 (wc.heap[gb321]? = some (.cells #[.int .u64 t319, .int .u64 t320] 76 (0, 0))) ∧ Aside0 (Below w.heap.size w wc))
 case first =>
  have H := HC6.out
  clear HC6
  by_cases c10 : ((IntKind.u64.wrap (t320 * 4294967296)) / 4294967296) > 2147483648
  ·rw [if_pos c10] at H
   have c10b0 : decide (2147483648 < ((IntKind.u64.wrap (t320 * 4294967296)) / 4294967296)) = true := decide_eq_true c10
   clear c10
   (first | rw [c10b0] | (simp only [i64_w, i32_w]; rw [c10b0]) | skip)
   as_aux_lemma =>
    have H' := Aside0.mk H
    clear H
    go_wp2
    go_meet
    case rel => exact ⟨_, (true), (by first | rfl | (simp; done) | (simp [*]; done)), H', ⟨by first | omega|exact Nat.le_refl _⟩, ⟨by (with_reducible repeat (first|apply kN|apply kD|apply kA)); refine blk_put (cs := #[.int .u64 t319, .int .u64 0]) ?_ 1 _ rfl; (with_reducible repeat (first|apply kN|apply kD|apply kA)); refine blk_put (cs := #[.int .u64 0, .int .u64 0]) ?_ 0 _ rfl; (with_reducible repeat (first|apply kN|apply kD|apply kA)); exact BK321.out⟩, ⟨by repeat (first | (with_reducible first|exact HB.out|apply bA|apply bN|apply bD|refine bS ?_ GE321.out)|exact HB.out)⟩⟩
  ·rw [if_neg c10] at H
   have c10b0 : decide (2147483648 < ((IntKind.u64.wrap (t320 * 4294967296)) / 4294967296)) = false := decide_eq_false c10
   clear c10
   (first | rw [c10b0] | (simp only [i64_w, i32_w]; rw [c10b0]) | skip)
   by_cases c11 : ((IntKind.u64.wrap (t320 * 4294967296)) / 4294967296) = 2147483648
   ·rw [if_pos c11] at H
    have c11b0 : (((IntKind.u64.wrap (t320 * 4294967296)) / 4294967296) == 2147483648) = true := beq_iff_eq.mpr c11
    have c11b1 : (((IntKind.u64.wrap (t320 * 4294967296)) / 4294967296) != 2147483648) = false := bne_eq_false_iff_eq.mpr c11
    clear c11
    as_aux_lemma =>
     have H' := Aside0.mk H
     clear H
     go_wp2
     go_meet
     case rel => exact ⟨_, (((Int.tmod (Go.bits .or .u64 (IntKind.u64.wrap (t319 * 4294967296)) (t320 / 4294967296)) 2) == 1)), (by first | rfl | (simp; done) | (simp [*]; done)), H', ⟨by first | omega|exact Nat.le_refl _⟩, ⟨by (with_reducible repeat (first|apply kN|apply kD|apply kA)); refine blk_put (cs := #[.int .u64 t319, .int .u64 0]) ?_ 1 _ rfl; (with_reducible repeat (first|apply kN|apply kD|apply kA)); refine blk_put (cs := #[.int .u64 0, .int .u64 0]) ?_ 0 _ rfl; (with_reducible repeat (first|apply kN|apply kD|apply kA)); exact BK321.out⟩, ⟨by repeat (first | (with_reducible first|exact HB.out|apply bA|apply bN|apply bD|refine bS ?_ GE321.out)|exact HB.out)⟩⟩
   ·rw [if_neg c11] at H
    have c11b0 : (((IntKind.u64.wrap (t320 * 4294967296)) / 4294967296) == 2147483648) = false := beq_eq_false_iff_ne.mpr c11
    have c11b1 : (((IntKind.u64.wrap (t320 * 4294967296)) / 4294967296) != 2147483648) = true := bne_iff_ne.mpr c11
    as_aux_lemma =>
     have H' := Aside0.mk H
     clear H
     go_wp2
     go_meet
     case rel => exact ⟨_, (false), (by first | rfl | (simp; done) | (simp [*]; done)), H', ⟨by first | omega|exact Nat.le_refl _⟩, ⟨by (with_reducible repeat (first|apply kN|apply kD|apply kA)); refine blk_put (cs := #[.int .u64 t319, .int .u64 0]) ?_ 1 _ rfl; (with_reducible repeat (first|apply kN|apply kD|apply kA)); refine blk_put (cs := #[.int .u64 0, .int .u64 0]) ?_ 0 _ rfl; (with_reducible repeat (first|apply kN|apply kD|apply kA)); exact BK321.out⟩, ⟨by repeat (first | (with_reducible first|exact HB.out|apply bA|apply bN|apply bD|refine bS ?_ GE321.out)|exact HB.out)⟩⟩
 case rest =>
  clear HC6
  (try clear c10); (try clear c10b0); (try clear c11); (try clear c11b0); (try clear c11b1); (try clear hcz9_0); (try clear hcz9_1); (try clear hfz9_0); (try clear hfz9_1)
  obtain ⟨kq, x39_5, rfl, HA, HJ5, BK321, HB⟩ := hcut
  cases kq with
  | zero => exact absurd HA.out (by simp [athanorref01_Mul.j0])
  | succ kj5 =>
   have H := HA.out
   clear HA
   simp only [athanorref01_Mul.j0] at H
   by_cases c12 : x39_5 = true
   ·subst c12
    have H1 : (if (IntKind.u64.wrap ((Go.bits .or .u64 (IntKind.u64.wrap (t319 * 4294967296)) (t320 / 4294967296)) + 1)) = 0 then ((athanorref01_Held.f kj5 (IntKind.u64.wrap ((Go.bits .or .u64 (IntKind.u64.wrap (t319 * 4294967296)) (t320 / 4294967296)) + 1)) true ((decide (a0 < 0)) != (decide (a1 < 0)))).bind fun t322 => (some t322)) else ((athanorref01_Held.f kj5 (IntKind.u64.wrap ((Go.bits .or .u64 (IntKind.u64.wrap (t319 * 4294967296)) (t320 / 4294967296)) + 1)) (decide ((t319 / 4294967296) > 0)) ((decide (a0 < 0)) != (decide (a1 < 0)))).bind fun t323 => (some t323))) = some r := by rw [if_pos rfl] at H; exact H
    clear H
    have H := H1
    clear H1
    by_cases c13 : (IntKind.u64.wrap ((Go.bits .or .u64 (IntKind.u64.wrap (t319 * 4294967296)) (t320 / 4294967296)) + 1)) = 0
    ·rw [if_pos c13] at H
     have c13b0 : ((IntKind.u64.wrap ((Go.bits .or .u64 (IntKind.u64.wrap (t319 * 4294967296)) (t320 / 4294967296)) + 1)) == 0) = true := beq_iff_eq.mpr c13
     have c13b1 : ((IntKind.u64.wrap ((Go.bits .or .u64 (IntKind.u64.wrap (t319 * 4294967296)) (t320 / 4294967296)) + 1)) != 0) = false := bne_eq_false_iff_eq.mpr c13
     clear c13
     replace H := Option.bind_eq_some_iff.mp H
     obtain ⟨t322, A140, H⟩ := H
     replace H : (some t322) = some r := H
     have A14 := Aside0.mk A140
     clear A140
     as_aux_lemma =>
      obtain rfl := Option.some.inj H
      go_wp2_with (first | ((with_reducible refine gate_callee (f := 50) rfl ?_); refine goesL_ (some 51) rfl rfl Try.func50 (by kernel_rfl) rfl #[.int .u64 (IntKind.u64.wrap ((Go.bits .or .u64 (IntKind.u64.wrap (t319 * 4294967296)) (t320 / 4294967296)) + 1)), .bool true, .bool ((decide (a0 < 0)) != (decide (a1 < 0)))] rfl (by (try simp only [List.map_toArray, List.map_cons, List.map_nil]); first | done | rfl | (simp only [List.length_drop, List.length_take]; rfl)) ?_; (with_reducible refine (athanorref01_Held.calls kj5 (IntKind.u64.wrap ((Go.bits .or .u64 (IntKind.u64.wrap (t319 * 4294967296)) (t320 / 4294967296)) + 1)) true ((decide (a0 < 0)) != (decide (a1 < 0))) t322 _ A14.out).mono ?_); rintro e w' ⟨rfl, ⟨nd, rfl⟩⟩; refine ⟨_, rfl, ?_⟩))
      go_ret
      exact ⟨by first | rfl | (simp [errW_none, errW_some] <;> rfl) | (simp [*, errW_none, errW_some] <;> rfl), by repeat (first | (with_reducible first|exact HB.out|apply bA|apply bN|apply bD|refine bS ?_ GE321.out)|exact HB.out)⟩
    ·rw [if_neg c13] at H
     have c13b0 : ((IntKind.u64.wrap ((Go.bits .or .u64 (IntKind.u64.wrap (t319 * 4294967296)) (t320 / 4294967296)) + 1)) == 0) = false := beq_eq_false_iff_ne.mpr c13
     have c13b1 : ((IntKind.u64.wrap ((Go.bits .or .u64 (IntKind.u64.wrap (t319 * 4294967296)) (t320 / 4294967296)) + 1)) != 0) = true := bne_iff_ne.mpr c13
     replace H := Option.bind_eq_some_iff.mp H
     obtain ⟨t323, A150, H⟩ := H
     replace H : (some t323) = some r := H
     have A15 := Aside0.mk A150
     clear A150
     as_aux_lemma =>
      obtain rfl := Option.some.inj H
      go_wp2_with (first | ((with_reducible refine gate_callee (f := 50) rfl ?_); refine goesL_ (some 51) rfl rfl Try.func50 (by kernel_rfl) rfl #[.int .u64 (IntKind.u64.wrap ((Go.bits .or .u64 (IntKind.u64.wrap (t319 * 4294967296)) (t320 / 4294967296)) + 1)), .bool (decide ((t319 / 4294967296) > 0)), .bool ((decide (a0 < 0)) != (decide (a1 < 0)))] rfl (by (try simp only [List.map_toArray, List.map_cons, List.map_nil]); first | done | rfl | (simp only [List.length_drop, List.length_take]; rfl)) ?_; (with_reducible refine (athanorref01_Held.calls kj5 (IntKind.u64.wrap ((Go.bits .or .u64 (IntKind.u64.wrap (t319 * 4294967296)) (t320 / 4294967296)) + 1)) (decide ((t319 / 4294967296) > 0)) ((decide (a0 < 0)) != (decide (a1 < 0))) t323 _ A15.out).mono ?_); rintro e w' ⟨rfl, ⟨nd, rfl⟩⟩; refine ⟨_, rfl, ?_⟩))
      go_ret
      exact ⟨by first | rfl | (simp [errW_none, errW_some] <;> rfl) | (simp [*, errW_none, errW_some] <;> rfl), by repeat (first | (with_reducible first|exact HB.out|apply bA|apply bN|apply bD|refine bS ?_ GE321.out)|exact HB.out)⟩
   ·replace c12 := Bool.eq_false_iff.mpr c12
    subst c12
    have H1 : ((athanorref01_Held.f kj5 (Go.bits .or .u64 (IntKind.u64.wrap (t319 * 4294967296)) (t320 / 4294967296)) (decide ((t319 / 4294967296) > 0)) ((decide (a0 < 0)) != (decide (a1 < 0)))).bind fun t324 => (some t324)) = some r := by rw [if_neg (show ¬ (false = true) by decide)] at H; exact H
    clear H
    have H := H1
    clear H1
    replace H := Option.bind_eq_some_iff.mp H
    obtain ⟨t324, A160, H⟩ := H
    replace H : (some t324) = some r := H
    have A16 := Aside0.mk A160
    clear A160
    as_aux_lemma =>
     obtain rfl := Option.some.inj H
     go_wp2_with (first | ((with_reducible refine gate_callee (f := 50) rfl ?_); refine goesL_ (some 51) rfl rfl Try.func50 (by kernel_rfl) rfl #[.int .u64 (Go.bits .or .u64 (IntKind.u64.wrap (t319 * 4294967296)) (t320 / 4294967296)), .bool (decide ((t319 / 4294967296) > 0)), .bool ((decide (a0 < 0)) != (decide (a1 < 0)))] rfl (by (try simp only [List.map_toArray, List.map_cons, List.map_nil]); first | done | rfl | (simp only [List.length_drop, List.length_take]; rfl)) ?_; (with_reducible refine (athanorref01_Held.calls kj5 (Go.bits .or .u64 (IntKind.u64.wrap (t319 * 4294967296)) (t320 / 4294967296)) (decide ((t319 / 4294967296) > 0)) ((decide (a0 < 0)) != (decide (a1 < 0))) t324 _ A16.out).mono ?_); rintro e w' ⟨rfl, ⟨nd, rfl⟩⟩; refine ⟨_, rfl, ?_⟩))
     go_ret
     exact ⟨by first | rfl | (simp [errW_none, errW_some] <;> rfl) | (simp [*, errW_none, errW_some] <;> rfl), by repeat (first | (with_reducible first|exact HB.out|apply bA|apply bN|apply bD|refine bS ?_ GE321.out)|exact HB.out)⟩

end Go.Proofs.Ytmekcfmhaflghaa.PTenS
