-- printed by wip/tools/xp.py of this project (not trusted: Lean checks it)
import Derived.Test.YtmekcfmhaflghaaPJoix0
import Derived.Test.YtmekcfmhaflghaaPJoiGv
import Derived.Test.YtmekcfmhaflghaaPJoix6
namespace Go.Proofs.Ytmekcfmhaflghaa.PJoi
open Go.RowKit Go.Proofs.YtmekcfmhaflghaaW.PrintWords Go.Proofs.YtmekcfmhaflghaaW.PrintLast Go.Proofs.YtmekcfmhaflghaaW.PrintMore Go.Proofs.Ytmekcfmhaflghaa.XW
attribute [local go_sem] max2_int min2_int max_two min_two max_three min_three max_four min_four max_five min_five   -- for this text's walks alone
set_option linter.unusedVariables false
set_option linter.unusedSimpArgs false

/-! ### athanorref04_Join: function 35 -/
mutual
def athanorref04_Join.l0 : Nat → List Int → List Int → List Int → List Int → Int → Int → Int → List Int → Int → Option (List Int)
 | 0, _, _, _, _, _, _, _, _, _ => none
 | k + 1, x0, x1, x2, x3, x4, x11, x12, x13, x14 => if x14 < x11 then (athanorref04_Join.l1 k x0 x1 x2 x3 x4 x11 x12 x13 x14 0) else (some x13)
def athanorref04_Join.l1 : Nat → List Int → List Int → List Int → List Int → Int → Int → Int → List Int → Int → Int → Option (List Int)
 | 0, _, _, _, _, _, _, _, _, _, _ => none
 | k + 1, x0, x1, x2, x3, x4, x11, x12, x13, x14, x15 => if 0 ≤ x4 then (if x4 < (x0.length : Int) then (if x15 < (wrap64 ((rd x0 x4) * x12)) then (if 0 ≤ (wrap64 ((wrap64 ((wrap64 (x14 * (rd x0 x4))) * x12)) + x15)) then (if (wrap64 ((wrap64 ((wrap64 (x14 * (rd x0 x4))) * x12)) + x15)) < (x2.length : Int) then (if x13.length < 17592186044416 then (athanorref04_Join.l1 k x0 x1 x2 x3 x4 x11 x12 (x13 ++ [rd x2 (wrap64 ((wrap64 ((wrap64 (x14 * (rd x0 x4))) * x12)) + x15))]) x14 (wrap64 (x15 + 1))) else (none)) else (none)) else (none)) else (athanorref04_Join.l2 k x0 x1 x2 x3 x4 x11 x12 x13 x14 0)) else (none)) else (none)
def athanorref04_Join.l2 : Nat → List Int → List Int → List Int → List Int → Int → Int → Int → List Int → Int → Int → Option (List Int)
 | 0, _, _, _, _, _, _, _, _, _, _ => none
 | k + 1, x0, x1, x2, x3, x4, x11, x12, x13, x14, x16 => if 0 ≤ x4 then (if x4 < (x1.length : Int) then (if x16 < (wrap64 ((rd x1 x4) * x12)) then (if 0 ≤ (wrap64 ((wrap64 ((wrap64 (x14 * (rd x1 x4))) * x12)) + x16)) then (if (wrap64 ((wrap64 ((wrap64 (x14 * (rd x1 x4))) * x12)) + x16)) < (x3.length : Int) then (if x13.length < 17592186044416 then (athanorref04_Join.l2 k x0 x1 x2 x3 x4 x11 x12 (x13 ++ [rd x3 (wrap64 ((wrap64 ((wrap64 (x14 * (rd x1 x4))) * x12)) + x16))]) x14 (wrap64 (x16 + 1))) else (none)) else (none)) else (none)) else (athanorref04_Join.l0 k x0 x1 x2 x3 x4 x11 x12 x13 (wrap64 (x14 + 1)))) else (none)) else (none)
end
def athanorref04_Join.f (k : Nat) (l0 : List Int) (l1 : List Int) (l2 : List Int) (l3 : List Int) (a4 : Int) : Option (List Int) := (athanorref04_Parts.f k l0 a4).bind fun bt306 => (athanorref04_Join.l0 k l0 l1 l2 l3 a4 bt306.1 bt306.2 ([] : List Int) 0)
theorem athanorref04_Join.mono_l : ∀ k, (∀ y0 y1 y2 y3 y4 y5 y6 y7 y8, LeO (athanorref04_Join.l0 k y0 y1 y2 y3 y4 y5 y6 y7 y8) (athanorref04_Join.l0 (k + 1) y0 y1 y2 y3 y4 y5 y6 y7 y8)) ∧ (∀ y0 y1 y2 y3 y4 y5 y6 y7 y8 y9, LeO (athanorref04_Join.l1 k y0 y1 y2 y3 y4 y5 y6 y7 y8 y9) (athanorref04_Join.l1 (k + 1) y0 y1 y2 y3 y4 y5 y6 y7 y8 y9)) ∧ (∀ y0 y1 y2 y3 y4 y5 y6 y7 y8 y9, LeO (athanorref04_Join.l2 k y0 y1 y2 y3 y4 y5 y6 y7 y8 y9) (athanorref04_Join.l2 (k + 1) y0 y1 y2 y3 y4 y5 y6 y7 y8 y9))
 | 0 => ⟨fun _ _ _ _ _ _ _ _ _ r h => by simp [athanorref04_Join.l0] at h, fun _ _ _ _ _ _ _ _ _ _ r h => by simp [athanorref04_Join.l1] at h, fun _ _ _ _ _ _ _ _ _ _ r h => by simp [athanorref04_Join.l2] at h⟩
 | k + 1 => by
  obtain ⟨ih0, ih1, ih2⟩ := athanorref04_Join.mono_l k
  refine ⟨?_, ?_, ?_⟩
  ·intro y0 y1 y2 y3 y4 y5 y6 y7 y8
   unfold athanorref04_Join.l0
   repeat' first
   | (with_reducible exact ih0 _ _ _ _ _ _ _ _ _)
   | (with_reducible exact ih1 _ _ _ _ _ _ _ _ _ _)
   | (with_reducible exact ih2 _ _ _ _ _ _ _ _ _ _)
   | (with_reducible exact athanorref04_Parts.mono _ _ _)
   | (with_reducible exact LeO.refl _)
   | (with_reducible exact LeO.none _)
   | (with_reducible refine LeO.ite ?_ ?_)
   | (with_reducible refine LeO.bind ?_ (fun _ => ?_))
   | exact ih0 _ _ _ _ _ _ _ _ _
   | exact ih1 _ _ _ _ _ _ _ _ _ _
   | exact ih2 _ _ _ _ _ _ _ _ _ _
   | exact athanorref04_Parts.mono _ _ _
   | exact LeO.none _
   | refine LeO.ite ?_ ?_
   | refine LeO.bind ?_ (fun _ => ?_)
  ·intro y0 y1 y2 y3 y4 y5 y6 y7 y8 y9
   unfold athanorref04_Join.l1
   repeat' first
   | (with_reducible exact ih0 _ _ _ _ _ _ _ _ _)
   | (with_reducible exact ih1 _ _ _ _ _ _ _ _ _ _)
   | (with_reducible exact ih2 _ _ _ _ _ _ _ _ _ _)
   | (with_reducible exact athanorref04_Parts.mono _ _ _)
   | (with_reducible exact LeO.refl _)
   | (with_reducible exact LeO.none _)
   | (with_reducible refine LeO.ite ?_ ?_)
   | (with_reducible refine LeO.bind ?_ (fun _ => ?_))
   | exact ih0 _ _ _ _ _ _ _ _ _
   | exact ih1 _ _ _ _ _ _ _ _ _ _
   | exact ih2 _ _ _ _ _ _ _ _ _ _
   | exact athanorref04_Parts.mono _ _ _
   | exact LeO.none _
   | refine LeO.ite ?_ ?_
   | refine LeO.bind ?_ (fun _ => ?_)
  ·intro y0 y1 y2 y3 y4 y5 y6 y7 y8 y9
   unfold athanorref04_Join.l2
   repeat' first
   | (with_reducible exact ih0 _ _ _ _ _ _ _ _ _)
   | (with_reducible exact ih1 _ _ _ _ _ _ _ _ _ _)
   | (with_reducible exact ih2 _ _ _ _ _ _ _ _ _ _)
   | (with_reducible exact athanorref04_Parts.mono _ _ _)
   | (with_reducible exact LeO.refl _)
   | (with_reducible exact LeO.none _)
   | (with_reducible refine LeO.ite ?_ ?_)
   | (with_reducible refine LeO.bind ?_ (fun _ => ?_))
   | exact ih0 _ _ _ _ _ _ _ _ _
   | exact ih1 _ _ _ _ _ _ _ _ _ _
   | exact ih2 _ _ _ _ _ _ _ _ _ _
   | exact athanorref04_Parts.mono _ _ _
   | exact LeO.none _
   | refine LeO.ite ?_ ?_
   | refine LeO.bind ?_ (fun _ => ?_)
theorem athanorref04_Join.mono : ∀ a0 a1 a2 a3 a4 k, LeO (athanorref04_Join.f k a0 a1 a2 a3 a4) (athanorref04_Join.f (k + 1) a0 a1 a2 a3 a4) := by
 intro a0 a1 a2 a3 a4 k
 obtain ⟨ih0, ih1, ih2⟩ := athanorref04_Join.mono_l k
 unfold athanorref04_Join.f
 repeat' first
   | (with_reducible exact ih0 _ _ _ _ _ _ _ _ _)
   | (with_reducible exact ih1 _ _ _ _ _ _ _ _ _ _)
   | (with_reducible exact ih2 _ _ _ _ _ _ _ _ _ _)
   | (with_reducible exact athanorref04_Parts.mono _ _ _)
   | (with_reducible exact LeO.refl _)
   | (with_reducible exact LeO.none _)
   | (with_reducible refine LeO.ite ?_ ?_)
   | (with_reducible refine LeO.bind ?_ (fun _ => ?_))
   | exact ih0 _ _ _ _ _ _ _ _ _
   | exact ih1 _ _ _ _ _ _ _ _ _ _
   | exact ih2 _ _ _ _ _ _ _ _ _ _
   | exact athanorref04_Parts.mono _ _ _
   | exact LeO.none _
   | refine LeO.ite ?_ ?_
   | refine LeO.bind ?_ (fun _ => ?_)
set_option maxHeartbeats 8000000 in
set_option maxRecDepth 100000 in
theorem athanorref04_Join.calls (k : Nat) (A0 : Option Addr) (c0 : Nat) (l0 : List Int) (A1 : Option Addr) (c1 : Nat) (l1 : List Int) (A2 : Option Addr) (c2 : Nat) (l2 : List Int) (A3 : Option Addr) (c3 : Nat) (l3 : List Int) (a4 : Int) (r : List Int) (w : World) (hr0 : Kd.C (Kd.int .i64) w A0 l0.length l0) (hc0 : l0.length ≤ c0) (hr1 : Kd.C (Kd.int .i64) w A1 l1.length l1) (hc1 : l1.length ≤ c1) (hr2 : Kd.C (Kd.int .i64) w A2 l2.length l2) (hc2 : l2.length ≤ c2) (hr3 : Kd.C (Kd.int .i64) w A3 l3.length l3) (hc3 : l3.length ≤ c3) (h : athanorref04_Join.f k l0 l1 l2 l3 a4 = some r) :
  Calls Try.prog 35 #[.slice A0 l0.length c0, .slice A1 l1.length c1, .slice A2 l2.length c2, .slice A3 l3.length c3, .int .i64 a4] w fun e w' => ∃ v0_ : Value, e = .returned (v0_) ∧ Kd.R (Kd.int .i64) 2 w' w.heap.size (fun _ => True) v0_ r ∧ Below w.heap.size w w' := by
 have HR0 := Aside0.mk hr0
 have HC0 := Aside0.mk hc0
 clear hr0 hc0
 have HR1 := Aside0.mk hr1
 have HC1 := Aside0.mk hc1
 clear hr1 hc1
 have HR2 := Aside0.mk hr2
 have HC2 := Aside0.mk hc2
 clear hr2 hc2
 have HR3 := Aside0.mk hr3
 have HC3 := Aside0.mk hc3
 clear hr3 hc3
 have HB := aM (Below.refl w.heap.size w)
 have H : ((athanorref04_Parts.f k l0 a4).bind fun bt306 => (athanorref04_Join.l0 k l0 l1 l2 l3 a4 bt306.1 bt306.2 ([] : List Int) 0)) = some r := h
 clear h
 replace H := Option.bind_eq_some_iff.mp H
 obtain ⟨⟨t306, t307⟩, A60, H⟩ := H
 replace H : (athanorref04_Join.l0 k l0 l1 l2 l3 a4 t306 t307 ([] : List Int) 0) = some r := H
 have A6 := Aside0.mk A60
 clear A60
 have H' := Aside0.mk H
 clear H
 go_enter Try.func35, Try.ntmps35
 go_wp2_with (first | ((with_reducible refine gate_callee (f := 54) rfl ?_); refine goesL_ (some 20) rfl rfl Try.func54 (by kernel_rfl) rfl #[.slice A0 l0.length c0, .int .i64 a4] rfl (by (try simp only [List.map_toArray, List.map_cons, List.map_nil]); first | done | rfl | (simp only [List.length_drop, List.length_take]; rfl)) ?_; (with_reducible refine (athanorref04_Parts.calls k _ _ l0 a4 t306 t307 _ ?side1 ?side2 A6.out).mono ?_); (case side1 => repeat (first|exact HR0.out | with_reducible first|apply cA|apply cN|apply cD)); (case side2 => exact HC0.out); rintro e w7 ⟨rfl, hb⟩; refine ⟨_, rfl, ?_⟩; have n0_ := aM (below_step (by repeat (first | (with_reducible first|exact HB.out|apply bA|apply bN|apply bD)|exact HB.out)) hb); clear HB; have HB := n0_; clear n0_; (try clear hb)))
 go_loopg [13, 14] k (fun kq v13 v14 w' => ∃ (x13_1 : List Int) (x14_1 : Int), v14 = .int .i64 x14_1 ∧ Aside0 (athanorref04_Join.l0 kq l0 l1 l2 l3 a4 t306 t307 x13_1 x14_1 = some r) ∧ Aside0 (kq ≤ k) ∧ Aside0 (Kd.R (Kd.int .i64) 2 w' w.heap.size (fun _ => True) v13 x13_1) ∧ Aside0 (Below w.heap.size w w'))
 case atStart => exact ⟨(([] : List Int)), (0), (by first | rfl | (simp; done) | (simp [*]; done)), H', ⟨Nat.le_refl _⟩, ⟨by first|exact Kd.R_nil _ _ _ _ _|exact Kd.N_nil _ _ _ _ _|exact Kd.V_nil _ _ _ _ _|exact Kd.Q_nil _ _ _ _ _|exact Kd.S_nil _ _ _ _ _⟩, ⟨by repeat (first | (with_reducible first|exact HB.out|apply bA|apply bN|apply bD)|exact HB.out)⟩⟩
 case round =>
  clear H'
  (try clear c1); (try clear c2); (try clear c3)
  obtain ⟨x13_1, x14_1, rfl, HA, HK1, HO_13, HB⟩ := hrel
  cases gk with
  | zero => exact absurd HA.out (by simp [athanorref04_Join.l0])
  | succ k1 =>
   have H := HA.out
   clear HA
   simp only [athanorref04_Join.l0] at H
   by_cases c8 : x14_1 < t306
   ·rw [if_pos c8] at H
    have c8b0 : decide (x14_1 < t306) = true := decide_eq_true c8
    clear c8
    have H' := Aside0.mk H
    clear H
    go_wp2
    go_loopg [13, 15] k1 (fun kq v13 v15 w' => ∃ (x13_2 : List Int) (x15_2 : Int), v15 = .int .i64 x15_2 ∧ Aside0 (athanorref04_Join.l1 kq l0 l1 l2 l3 a4 t306 t307 x13_2 x14_1 x15_2 = some r) ∧ Aside0 (kq ≤ k1) ∧ Aside0 (Kd.R (Kd.int .i64) 2 w' w.heap.size (fun _ => True) v13 x13_2) ∧ Aside0 (Below w.heap.size w w'))
    case atStart => exact ⟨(x13_1), (0), (by first | rfl | (simp; done) | (simp [*]; done)), H', ⟨Nat.le_refl _⟩, ⟨by (with_reducible repeat (first|apply rA|apply rN|apply rD)); exact HO_13.out⟩, ⟨by repeat (first | (with_reducible first|exact HB.out|apply bA|apply bN|apply bD)|exact HB.out)⟩⟩
    case round =>
     clear H'
     (try clear c1); (try clear c2); (try clear c3); (try clear c8); (try clear c8b0)
     obtain ⟨x13_2, x15_2, rfl, HA, HK2, HO_13, HB⟩ := hrel
     cases gk with
     | zero => exact absurd HA.out (by simp [athanorref04_Join.l1])
     | succ k2 =>
      have H := HA.out
      clear HA
      simp only [athanorref04_Join.l1] at H
      by_cases c9 : 0 ≤ a4
      ·rw [if_pos c9] at H
       have c9b0 : decide (0 ≤ a4) = true := decide_eq_true c9
       clear c9
       by_cases c10 : a4 < (l0.length : Int)
       ·rw [if_pos c10] at H
        have c10b0 : decide (a4 < (l0.length : Int)) = true := decide_eq_true c10
        clear c10
        by_cases c11 : x15_2 < (wrap64 ((rd l0 a4) * t307))
        ·rw [if_pos c11] at H
         have c11b0 : decide (x15_2 < (wrap64 ((rd l0 a4) * t307))) = true := decide_eq_true c11
         clear c11
         obtain ⟨ji12, hji12⟩ : ∃ j_ : Int, (wrap64 ((wrap64 ((wrap64 (x14_1 * (rd l0 a4))) * t307)) + x15_2)) = j_ := ⟨_, rfl⟩
         replace H : (if 0 ≤ (ji12) then (if (ji12) < (l2.length : Int) then (if x13_2.length < 17592186044416 then (athanorref04_Join.l1 k2 l0 l1 l2 l3 a4 t306 t307 (x13_2 ++ [rd l2 (ji12)]) x14_1 (wrap64 (x15_2 + 1))) else (none)) else (none)) else (none)) = some r := by first | (rw [hji12] at H; exact H) | (simp only [hji12] at H ⊢; exact H)
         have hji12w : (IntKind.i64.wrap ((wrap64 ((wrap64 (x14_1 * (rd l0 a4))) * t307)) + x15_2)) = ji12 := (i64_w _).trans hji12
         by_cases c13 : 0 ≤ (ji12)
         ·rw [if_pos c13] at H
          have c13b0 : decide (0 ≤ (ji12)) = true := decide_eq_true c13
          clear c13
          by_cases c14 : (ji12) < (l2.length : Int)
          ·rw [if_pos c14] at H
           have c14b0 : decide ((ji12) < (l2.length : Int)) = true := decide_eq_true c14
           clear c14
           by_cases c15 : x13_2.length < 17592186044416
           ·rw [if_pos c15] at H
            have LMc15 := Aside0.mk c15
            clear c15
            obtain ⟨y311, hy311⟩ : ∃ y_ : List Int, y_ = (x13_2 ++ [rd l2 (ji12)]) := ⟨_, rfl⟩
            replace H : (athanorref04_Join.l1 k2 l0 l1 l2 l3 a4 t306 t307 y311 x14_1 (wrap64 (x15_2 + 1))) = some r := by first | (rw [hy311]; with_reducible exact H) | (have H2_ := (Option.bind_some _ _).symm.trans H; rw [hy311]; with_reducible exact H2_) | (have H2_ := (Option.bind_some _ _).symm.trans H; with_reducible exact H2_) | with_reducible exact H | (rw [hy311]; exact H)|exact H
            have Ny311 := Aside0.mk hy311
            clear hy311
            as_aux_lemma =>
             have H' := Aside0.mk H
             clear H
             have p308 : 0 ≤ (a4 : Int) := of_decide_eq_true (by first | (with_reducible assumption) | assumption)
             have q308 : a4 < (l0.length : Int) := of_decide_eq_true (by first | (with_reducible assumption) | assumption)
             obtain ⟨ad308, e308, hx308_0⟩ := Kd.at_int HR0.out a4 p308 q308
             cases e308
             replace hx308_0 := (HB.out.cell (World.block_lt_of_cell? w _ hx308_0)).trans hx308_0
             replace p308 := eq_true p308
             replace q308 := eq_true q308
             have p309 : 0 ≤ (a4 : Int) := of_decide_eq_true (by first | (with_reducible assumption) | assumption)
             have q309 : a4 < (l0.length : Int) := of_decide_eq_true (by first | (with_reducible assumption) | assumption)
             obtain ⟨ad309, e309, hx309_0⟩ := Kd.at_int HR0.out a4 p309 q309
             obtain rfl : ad308 = ad309 := (by injection e309)
             replace hx309_0 := (HB.out.cell (World.block_lt_of_cell? w _ hx309_0)).trans hx309_0
             replace p309 := eq_true p309
             replace q309 := eq_true q309
             have p310 : 0 ≤ ((ji12) : Int) := of_decide_eq_true (by first | (with_reducible assumption) | assumption)
             have q310 : (ji12) < (l2.length : Int) := of_decide_eq_true (by first | (with_reducible assumption) | assumption)
             obtain ⟨ad310, e310, hx310_0⟩ := Kd.at_int HR2.out (ji12) p310 q310
             cases e310
             replace hx310_0 := (HB.out.cell (World.block_lt_of_cell? w _ hx310_0)).trans hx310_0
             replace p310 := eq_true p310
             replace q310 := eq_true q310
             go_wp2_with (first | ((with_reducible refine gate_builtin (b := .append) (xs := #[.tmp 38, .tmp 52]) rfl ?_); at_builtin; refine Kd.R_append (Kd.int .i64) (w0 := w) w.heap.size rfl (.tmp 38) (.tmp 52) 58 2 (.int .i64 0) 8 rfl Try.underlying58 info2 rfl (by decide) (by omega) u13 x13_2 (rd l2 (ji12)) [.int .i64 (rd l2 (ji12))] (fun _ => True) (fun _ => False) rfl rfl ?aP (fun _ hk => hk.elim) ?aF ?aO ?aB ?aS ?aL ?_; (case aP => exact rfl); (case aB => exact (by repeat (first | (with_reducible first|exact HB.out|apply bA|apply bN|apply bD)|exact HB.out))); (case aF => exact (fun _ _ => trivial)); (case aO => exact (by (with_reducible repeat (first|apply rA|apply rN|apply rD)); exact HO_13.out)); (case aS => exact (below_size (by repeat (first | (with_reducible first|exact HB.out|apply bA|apply bN|apply bD)|exact HB.out)))); (case aL => have := LMc15.out; omega); intro v312 w16 ho hb hg hat; rw [← Ny311.out] at ho; have n0_ := aM (hb); have n1_ := aM (ho); clear HB; clear HO_13; have HB := n0_; have HO313 := n1_; clear n0_ n1_; clear ho hb hg hat))
             go_roundg k2
             case measure => have := HK1.out; have := HK2.out; omega
             case rel => exact ⟨(y311), (wrap64 (x15_2 + 1)), (by first | rfl | (simp; done) | (simp [*]; done)), H', ⟨by have := HK1.out; have := HK2.out; omega⟩, ⟨by (with_reducible repeat (first|apply rA|apply rN|apply rD)); exact HO313.out⟩, ⟨by repeat (first | (with_reducible first|exact HB.out|apply bA|apply bN|apply bD)|exact HB.out)⟩⟩
           ·rw [if_neg c15] at H
            exact absurd H (by simp)
          ·rw [if_neg c14] at H
           exact absurd H (by simp)
         ·rw [if_neg c13] at H
          exact absurd H (by simp)
        ·rw [if_neg c11] at H
         have c11b0 : decide (x15_2 < (wrap64 ((rd l0 a4) * t307))) = false := decide_eq_false c11
         clear c11
         have H' := Aside0.mk H
         clear H
         have p308 : 0 ≤ (a4 : Int) := of_decide_eq_true (by first | (with_reducible assumption) | assumption)
         have q308 : a4 < (l0.length : Int) := of_decide_eq_true (by first | (with_reducible assumption) | assumption)
         obtain ⟨ad308, e308, hx308_0⟩ := Kd.at_int HR0.out a4 p308 q308
         cases e308
         replace hx308_0 := (HB.out.cell (World.block_lt_of_cell? w _ hx308_0)).trans hx308_0
         replace p308 := eq_true p308
         replace q308 := eq_true q308
         go_wp2
         go_loopg [13, 16] k2 (fun kq v13 v16 w' => ∃ (x13_3 : List Int) (x16_3 : Int), v16 = .int .i64 x16_3 ∧ Aside0 (athanorref04_Join.l2 kq l0 l1 l2 l3 a4 t306 t307 x13_3 x14_1 x16_3 = some r) ∧ Aside0 (kq ≤ k2) ∧ Aside0 (Kd.R (Kd.int .i64) 2 w' w.heap.size (fun _ => True) v13 x13_3) ∧ Aside0 (Below w.heap.size w w'))
         case atStart => exact ⟨(x13_2), (0), (by first | rfl | (simp; done) | (simp [*]; done)), H', ⟨Nat.le_refl _⟩, ⟨by (with_reducible repeat (first|apply rA|apply rN|apply rD)); exact HO_13.out⟩, ⟨by repeat (first | (with_reducible first|exact HB.out|apply bA|apply bN|apply bD)|exact HB.out)⟩⟩
         case round =>
          clear H'
          (try clear c1); (try clear c2); (try clear c3); (try clear c8); (try clear c8b0); (try clear c9); (try clear c9b0); (try clear c10); (try clear c10b0); (try clear c11); (try clear c11b0); (try clear c13); (try clear c13b0); (try clear c14); (try clear c14b0); (try clear c15); (try clear hx308_0); (try clear hx309_0); (try clear hx310_0); (try clear p308); (try clear p309); (try clear p310); (try clear q308); (try clear q309); (try clear q310)
          obtain ⟨x13_3, x16_3, rfl, HA, HK3, HO_13, HB⟩ := hrel
          cases gk with
          | zero => exact absurd HA.out (by simp [athanorref04_Join.l2])
          | succ k3 =>
           have H := HA.out
           clear HA
           simp only [athanorref04_Join.l2] at H
           by_cases c17 : 0 ≤ a4
           ·rw [if_pos c17] at H
            have c17b0 : decide (0 ≤ a4) = true := decide_eq_true c17
            clear c17
            by_cases c18 : a4 < (l1.length : Int)
            ·rw [if_pos c18] at H
             have c18b0 : decide (a4 < (l1.length : Int)) = true := decide_eq_true c18
             clear c18
             by_cases c19 : x16_3 < (wrap64 ((rd l1 a4) * t307))
             ·rw [if_pos c19] at H
              have c19b0 : decide (x16_3 < (wrap64 ((rd l1 a4) * t307))) = true := decide_eq_true c19
              clear c19
              obtain ⟨ji20, hji20⟩ : ∃ j_ : Int, (wrap64 ((wrap64 ((wrap64 (x14_1 * (rd l1 a4))) * t307)) + x16_3)) = j_ := ⟨_, rfl⟩
              replace H : (if 0 ≤ (ji20) then (if (ji20) < (l3.length : Int) then (if x13_3.length < 17592186044416 then (athanorref04_Join.l2 k3 l0 l1 l2 l3 a4 t306 t307 (x13_3 ++ [rd l3 (ji20)]) x14_1 (wrap64 (x16_3 + 1))) else (none)) else (none)) else (none)) = some r := by first | (rw [hji20] at H; exact H) | (simp only [hji20] at H ⊢; exact H)
              have hji20w : (IntKind.i64.wrap ((wrap64 ((wrap64 (x14_1 * (rd l1 a4))) * t307)) + x16_3)) = ji20 := (i64_w _).trans hji20
              by_cases c21 : 0 ≤ (ji20)
              ·rw [if_pos c21] at H
               have c21b0 : decide (0 ≤ (ji20)) = true := decide_eq_true c21
               clear c21
               by_cases c22 : (ji20) < (l3.length : Int)
               ·rw [if_pos c22] at H
                have c22b0 : decide ((ji20) < (l3.length : Int)) = true := decide_eq_true c22
                clear c22
                by_cases c23 : x13_3.length < 17592186044416
                ·rw [if_pos c23] at H
                 have LMc23 := Aside0.mk c23
                 clear c23
                 obtain ⟨y317, hy317⟩ : ∃ y_ : List Int, y_ = (x13_3 ++ [rd l3 (ji20)]) := ⟨_, rfl⟩
                 replace H : (athanorref04_Join.l2 k3 l0 l1 l2 l3 a4 t306 t307 y317 x14_1 (wrap64 (x16_3 + 1))) = some r := by first | (rw [hy317]; with_reducible exact H) | (have H2_ := (Option.bind_some _ _).symm.trans H; rw [hy317]; with_reducible exact H2_) | (have H2_ := (Option.bind_some _ _).symm.trans H; with_reducible exact H2_) | with_reducible exact H | (rw [hy317]; exact H)|exact H
                 have Ny317 := Aside0.mk hy317
                 clear hy317
                 as_aux_lemma =>
                  have H' := Aside0.mk H
                  clear H
                  have p314 : 0 ≤ (a4 : Int) := of_decide_eq_true (by first | (with_reducible assumption) | assumption)
                  have q314 : a4 < (l1.length : Int) := of_decide_eq_true (by first | (with_reducible assumption) | assumption)
                  obtain ⟨ad314, e314, hx314_0⟩ := Kd.at_int HR1.out a4 p314 q314
                  cases e314
                  replace hx314_0 := (HB.out.cell (World.block_lt_of_cell? w _ hx314_0)).trans hx314_0
                  replace p314 := eq_true p314
                  replace q314 := eq_true q314
                  have p315 : 0 ≤ (a4 : Int) := of_decide_eq_true (by first | (with_reducible assumption) | assumption)
                  have q315 : a4 < (l1.length : Int) := of_decide_eq_true (by first | (with_reducible assumption) | assumption)
                  obtain ⟨ad315, e315, hx315_0⟩ := Kd.at_int HR1.out a4 p315 q315
                  obtain rfl : ad314 = ad315 := (by injection e315)
                  replace hx315_0 := (HB.out.cell (World.block_lt_of_cell? w _ hx315_0)).trans hx315_0
                  replace p315 := eq_true p315
                  replace q315 := eq_true q315
                  have p316 : 0 ≤ ((ji20) : Int) := of_decide_eq_true (by first | (with_reducible assumption) | assumption)
                  have q316 : (ji20) < (l3.length : Int) := of_decide_eq_true (by first | (with_reducible assumption) | assumption)
                  obtain ⟨ad316, e316, hx316_0⟩ := Kd.at_int HR3.out (ji20) p316 q316
                  cases e316
                  replace hx316_0 := (HB.out.cell (World.block_lt_of_cell? w _ hx316_0)).trans hx316_0
                  replace p316 := eq_true p316
                  replace q316 := eq_true q316
                  go_wp2_with (first | ((with_reducible refine gate_builtin (b := .append) (xs := #[.tmp 64, .tmp 78]) rfl ?_); at_builtin; refine Kd.R_append (Kd.int .i64) (w0 := w) w.heap.size rfl (.tmp 64) (.tmp 78) 58 2 (.int .i64 0) 8 rfl Try.underlying58 info2 rfl (by decide) (by omega) u13 x13_3 (rd l3 (ji20)) [.int .i64 (rd l3 (ji20))] (fun _ => True) (fun _ => False) rfl rfl ?aP (fun _ hk => hk.elim) ?aF ?aO ?aB ?aS ?aL ?_; (case aP => exact rfl); (case aB => exact (by repeat (first | (with_reducible first|exact HB.out|apply bA|apply bN|apply bD)|exact HB.out))); (case aF => exact (fun _ _ => trivial)); (case aO => exact (by (with_reducible repeat (first|apply rA|apply rN|apply rD)); exact HO_13.out)); (case aS => exact (below_size (by repeat (first | (with_reducible first|exact HB.out|apply bA|apply bN|apply bD)|exact HB.out)))); (case aL => have := LMc23.out; omega); intro v318 w24 ho hb hg hat; rw [← Ny317.out] at ho; have n0_ := aM (hb); have n1_ := aM (ho); clear HB; clear HO_13; have HB := n0_; have HO319 := n1_; clear n0_ n1_; clear ho hb hg hat))
                  go_roundg k3
                  case measure => have := HK1.out; have := HK2.out; have := HK3.out; omega
                  case rel => exact ⟨(y317), (wrap64 (x16_3 + 1)), (by first | rfl | (simp; done) | (simp [*]; done)), H', ⟨by have := HK1.out; have := HK2.out; have := HK3.out; omega⟩, ⟨by (with_reducible repeat (first|apply rA|apply rN|apply rD)); exact HO319.out⟩, ⟨by repeat (first | (with_reducible first|exact HB.out|apply bA|apply bN|apply bD)|exact HB.out)⟩⟩
                ·rw [if_neg c23] at H
                 exact absurd H (by simp)
               ·rw [if_neg c22] at H
                exact absurd H (by simp)
              ·rw [if_neg c21] at H
               exact absurd H (by simp)
             ·rw [if_neg c19] at H
              have c19b0 : decide (x16_3 < (wrap64 ((rd l1 a4) * t307))) = false := decide_eq_false c19
              clear c19
              as_aux_lemma =>
               have H' := Aside0.mk H
               clear H
               have p314 : 0 ≤ (a4 : Int) := of_decide_eq_true (by first | (with_reducible assumption) | assumption)
               have q314 : a4 < (l1.length : Int) := of_decide_eq_true (by first | (with_reducible assumption) | assumption)
               obtain ⟨ad314, e314, hx314_0⟩ := Kd.at_int HR1.out a4 p314 q314
               cases e314
               replace hx314_0 := (HB.out.cell (World.block_lt_of_cell? w _ hx314_0)).trans hx314_0
               replace p314 := eq_true p314
               replace q314 := eq_true q314
               go_wp2
               go_roundg k3
               case measure => have := HK1.out; have := HK2.out; have := HK3.out; omega
               case rel => exact ⟨(x13_3), (wrap64 (x14_1 + 1)), (by first | rfl | (simp; done) | (simp [*]; done)), H', ⟨by have := HK1.out; have := HK2.out; have := HK3.out; omega⟩, ⟨by (with_reducible repeat (first|apply rA|apply rN|apply rD)); exact HO_13.out⟩, ⟨by repeat (first | (with_reducible first|exact HB.out|apply bA|apply bN|apply bD)|exact HB.out)⟩⟩
            ·rw [if_neg c18] at H
             exact absurd H (by simp)
           ·rw [if_neg c17] at H
            exact absurd H (by simp)
       ·rw [if_neg c10] at H
        exact absurd H (by simp)
      ·rw [if_neg c9] at H
       exact absurd H (by simp)
   ·rw [if_neg c8] at H
    have c8b0 : decide (x14_1 < t306) = false := decide_eq_false c8
    clear c8
    as_aux_lemma =>
     obtain rfl := Option.some.inj H
     go_wp2
     go_ret
     exact ⟨_, by first | rfl | (simp [errW_none, errW_some] <;> rfl) | (simp [*, errW_none, errW_some] <;> rfl), by (with_reducible repeat (first|apply rA|apply rN|apply rD)); exact HO_13.out, by repeat (first | (with_reducible first|exact HB.out|apply bA|apply bN|apply bD)|exact HB.out)⟩

end Go.Proofs.Ytmekcfmhaflghaa.PJoi
