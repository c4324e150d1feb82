-- printed by wip/tools/xp.py of this project (not trusted: Lean checks it)
import Derived.Test.YtmekcfmhaflghaaPCutx0
import Derived.Test.YtmekcfmhaflghaaPCutGv
import Derived.Test.YtmekcfmhaflghaaPCutx5
namespace Go.Proofs.Ytmekcfmhaflghaa.PCut
open Go.RowKit Go.Proofs.YtmekcfmhaflghaaW.PrintWords Go.Proofs.YtmekcfmhaflghaaW.PrintLast Go.Proofs.YtmekcfmhaflghaaW.PrintMore Go.Proofs.Ytmekcfmhaflghaa.XW
attribute [local go_sem] max2_int min2_int max_two min_two max_three min_three max_four min_four max_five min_five   -- for this text's walks alone
set_option linter.unusedVariables false
set_option linter.unusedSimpArgs false

/-! ### athanorref04_Cut: function 31 -/
mutual
def athanorref04_Cut.l0 : Nat → List Int → List Int → Int → Int → Int → Int → Int → List Int → Int → Option (List Int)
 | 0, _, _, _, _, _, _, _, _, _ => none
 | k + 1, x0, x1, x2, x3, x4, x11, x12, x13, x14 => if x14 < x11 then (athanorref04_Cut.l1 k x0 x1 x2 x3 x4 x11 x12 x13 x14 x3) else (some x13)
def athanorref04_Cut.l1 : Nat → List Int → List Int → Int → Int → Int → Int → Int → List Int → Int → Int → Option (List Int)
 | 0, _, _, _, _, _, _, _, _, _, _ => none
 | k + 1, x0, x1, x2, x3, x4, x11, x12, x13, x14, x15 => if x15 < x4 then (athanorref04_Cut.l2 k x0 x1 x2 x3 x4 x11 x12 x13 x14 x15 0) else (athanorref04_Cut.l0 k x0 x1 x2 x3 x4 x11 x12 x13 (wrap64 (x14 + 1)))
def athanorref04_Cut.l2 : Nat → List Int → List Int → Int → Int → Int → Int → Int → List Int → Int → Int → Int → Option (List Int)
 | 0, _, _, _, _, _, _, _, _, _, _, _ => none
 | k + 1, x0, x1, x2, x3, x4, x11, x12, x13, x14, x15, x16 => if x16 < x12 then (if 0 ≤ x2 then (if x2 < (x0.length : Int) then (if 0 ≤ (wrap64 ((wrap64 ((wrap64 ((wrap64 (x14 * (rd x0 x2))) + x15)) * x12)) + x16)) then (if (wrap64 ((wrap64 ((wrap64 ((wrap64 (x14 * (rd x0 x2))) + x15)) * x12)) + x16)) < (x1.length : Int) then (if x13.length < 17592186044416 then (athanorref04_Cut.l2 k x0 x1 x2 x3 x4 x11 x12 (x13 ++ [rd x1 (wrap64 ((wrap64 ((wrap64 ((wrap64 (x14 * (rd x0 x2))) + x15)) * x12)) + x16))]) x14 x15 (wrap64 (x16 + 1))) else (none)) else (none)) else (none)) else (none)) else (none)) else (athanorref04_Cut.l1 k x0 x1 x2 x3 x4 x11 x12 x13 x14 (wrap64 (x15 + 1)))
end
def athanorref04_Cut.f (k : Nat) (l0 : List Int) (l1 : List Int) (a2 : Int) (a3 : Int) (a4 : Int) : Option (List Int) := (athanorref04_Parts.f k l0 a2).bind fun bt287 => (athanorref04_Cut.l0 k l0 l1 a2 a3 a4 bt287.1 bt287.2 ([] : List Int) 0)
theorem athanorref04_Cut.mono_l : ∀ k, (∀ y0 y1 y2 y3 y4 y5 y6 y7 y8, LeO (athanorref04_Cut.l0 k y0 y1 y2 y3 y4 y5 y6 y7 y8) (athanorref04_Cut.l0 (k + 1) y0 y1 y2 y3 y4 y5 y6 y7 y8)) ∧ (∀ y0 y1 y2 y3 y4 y5 y6 y7 y8 y9, LeO (athanorref04_Cut.l1 k y0 y1 y2 y3 y4 y5 y6 y7 y8 y9) (athanorref04_Cut.l1 (k + 1) y0 y1 y2 y3 y4 y5 y6 y7 y8 y9)) ∧ (∀ y0 y1 y2 y3 y4 y5 y6 y7 y8 y9 y10, LeO (athanorref04_Cut.l2 k y0 y1 y2 y3 y4 y5 y6 y7 y8 y9 y10) (athanorref04_Cut.l2 (k + 1) y0 y1 y2 y3 y4 y5 y6 y7 y8 y9 y10))
 | 0 => ⟨fun _ _ _ _ _ _ _ _ _ r h => by simp [athanorref04_Cut.l0] at h, fun _ _ _ _ _ _ _ _ _ _ r h => by simp [athanorref04_Cut.l1] at h, fun _ _ _ _ _ _ _ _ _ _ _ r h => by simp [athanorref04_Cut.l2] at h⟩
 | k + 1 => by
  obtain ⟨ih0, ih1, ih2⟩ := athanorref04_Cut.mono_l k
  refine ⟨?_, ?_, ?_⟩
  ·intro y0 y1 y2 y3 y4 y5 y6 y7 y8
   unfold athanorref04_Cut.l0
   repeat' first
   | (with_reducible exact ih0 _ _ _ _ _ _ _ _ _)
   | (with_reducible exact ih1 _ _ _ _ _ _ _ _ _ _)
   | (with_reducible exact ih2 _ _ _ _ _ _ _ _ _ _ _)
   | (with_reducible exact athanorref04_Parts.mono _ _ _)
   | (with_reducible exact LeO.refl _)
   | (with_reducible exact LeO.none _)
   | (with_reducible refine LeO.ite ?_ ?_)
   | (with_reducible refine LeO.bind ?_ (fun _ => ?_))
   | exact ih0 _ _ _ _ _ _ _ _ _
   | exact ih1 _ _ _ _ _ _ _ _ _ _
   | exact ih2 _ _ _ _ _ _ _ _ _ _ _
   | exact athanorref04_Parts.mono _ _ _
   | exact LeO.none _
   | refine LeO.ite ?_ ?_
   | refine LeO.bind ?_ (fun _ => ?_)
  ·intro y0 y1 y2 y3 y4 y5 y6 y7 y8 y9
   unfold athanorref04_Cut.l1
   repeat' first
   | (with_reducible exact ih0 _ _ _ _ _ _ _ _ _)
   | (with_reducible exact ih1 _ _ _ _ _ _ _ _ _ _)
   | (with_reducible exact ih2 _ _ _ _ _ _ _ _ _ _ _)
   | (with_reducible exact athanorref04_Parts.mono _ _ _)
   | (with_reducible exact LeO.refl _)
   | (with_reducible exact LeO.none _)
   | (with_reducible refine LeO.ite ?_ ?_)
   | (with_reducible refine LeO.bind ?_ (fun _ => ?_))
   | exact ih0 _ _ _ _ _ _ _ _ _
   | exact ih1 _ _ _ _ _ _ _ _ _ _
   | exact ih2 _ _ _ _ _ _ _ _ _ _ _
   | exact athanorref04_Parts.mono _ _ _
   | exact LeO.none _
   | refine LeO.ite ?_ ?_
   | refine LeO.bind ?_ (fun _ => ?_)
  ·intro y0 y1 y2 y3 y4 y5 y6 y7 y8 y9 y10
   unfold athanorref04_Cut.l2
   repeat' first
   | (with_reducible exact ih0 _ _ _ _ _ _ _ _ _)
   | (with_reducible exact ih1 _ _ _ _ _ _ _ _ _ _)
   | (with_reducible exact ih2 _ _ _ _ _ _ _ _ _ _ _)
   | (with_reducible exact athanorref04_Parts.mono _ _ _)
   | (with_reducible exact LeO.refl _)
   | (with_reducible exact LeO.none _)
   | (with_reducible refine LeO.ite ?_ ?_)
   | (with_reducible refine LeO.bind ?_ (fun _ => ?_))
   | exact ih0 _ _ _ _ _ _ _ _ _
   | exact ih1 _ _ _ _ _ _ _ _ _ _
   | exact ih2 _ _ _ _ _ _ _ _ _ _ _
   | exact athanorref04_Parts.mono _ _ _
   | exact LeO.none _
   | refine LeO.ite ?_ ?_
   | refine LeO.bind ?_ (fun _ => ?_)
theorem athanorref04_Cut.mono : ∀ a0 a1 a2 a3 a4 k, LeO (athanorref04_Cut.f k a0 a1 a2 a3 a4) (athanorref04_Cut.f (k + 1) a0 a1 a2 a3 a4) := by
 intro a0 a1 a2 a3 a4 k
 obtain ⟨ih0, ih1, ih2⟩ := athanorref04_Cut.mono_l k
 unfold athanorref04_Cut.f
 repeat' first
   | (with_reducible exact ih0 _ _ _ _ _ _ _ _ _)
   | (with_reducible exact ih1 _ _ _ _ _ _ _ _ _ _)
   | (with_reducible exact ih2 _ _ _ _ _ _ _ _ _ _ _)
   | (with_reducible exact athanorref04_Parts.mono _ _ _)
   | (with_reducible exact LeO.refl _)
   | (with_reducible exact LeO.none _)
   | (with_reducible refine LeO.ite ?_ ?_)
   | (with_reducible refine LeO.bind ?_ (fun _ => ?_))
   | exact ih0 _ _ _ _ _ _ _ _ _
   | exact ih1 _ _ _ _ _ _ _ _ _ _
   | exact ih2 _ _ _ _ _ _ _ _ _ _ _
   | exact athanorref04_Parts.mono _ _ _
   | exact LeO.none _
   | refine LeO.ite ?_ ?_
   | refine LeO.bind ?_ (fun _ => ?_)
set_option maxHeartbeats 8000000 in
set_option maxRecDepth 100000 in
theorem athanorref04_Cut.calls (k : Nat) (A0 : Option Addr) (c0 : Nat) (l0 : List Int) (A1 : Option Addr) (c1 : Nat) (l1 : List Int) (a2 : Int) (a3 : Int) (a4 : Int) (r : List Int) (w : World) (hr0 : Kd.C (Kd.int .i64) w A0 l0.length l0) (hc0 : l0.length ≤ c0) (hr1 : Kd.C (Kd.int .i64) w A1 l1.length l1) (hc1 : l1.length ≤ c1) (h : athanorref04_Cut.f k l0 l1 a2 a3 a4 = some r) :
  Calls Try.prog 31 #[.slice A0 l0.length c0, .slice A1 l1.length c1, .int .i64 a2, .int .i64 a3, .int .i64 a4] w fun e w' => ∃ v0_ : Value, e = .returned (v0_) ∧ Kd.R (Kd.int .i64) 2 w' w.heap.size (fun _ => True) v0_ r ∧ Below w.heap.size w w' := by
 have HR0 := Aside0.mk hr0
 have HC0 := Aside0.mk hc0
 clear hr0 hc0
 have HR1 := Aside0.mk hr1
 have HC1 := Aside0.mk hc1
 clear hr1 hc1
 have HB := Aside0.mk (Below.refl w.heap.size w)
 have H : ((athanorref04_Parts.f k l0 a2).bind fun bt287 => (athanorref04_Cut.l0 k l0 l1 a2 a3 a4 bt287.1 bt287.2 ([] : List Int) 0)) = some r := h
 clear h
 replace H := Option.bind_eq_some_iff.mp H
 obtain ⟨⟨t287, t288⟩, A60, H⟩ := H
 replace H : (athanorref04_Cut.l0 k l0 l1 a2 a3 a4 t287 t288 ([] : List Int) 0) = some r := H
 have A6 := Aside0.mk A60
 clear A60
 have H' := Aside0.mk H
 clear H
 go_enter Try.func31, Try.ntmps31
 go_wp2_with (first | ((with_reducible refine gate_callee (f := 54) rfl ?_); refine goesL_ (some 20) rfl rfl Try.func54 (by kernel_rfl) rfl #[.slice A0 l0.length c0, .int .i64 a2] rfl (by (try simp only [List.map_toArray, List.map_cons, List.map_nil]); first | done | rfl | (simp only [List.length_drop, List.length_take]; rfl)) ?_; (with_reducible refine (athanorref04_Parts.calls k _ _ l0 a2 t287 t288 _ ?side1 ?side2 A6.out).mono ?_); (case side1 => repeat (first|exact HR0.out | (with_reducible refine cA ?_ _) | (with_reducible refine cN ?_ _) | (with_reducible refine cD ?_))); (case side2 => exact HC0.out); rintro e w7 ⟨rfl, hb⟩; refine ⟨_, rfl, ?_⟩; have n0_ := Aside0.mk (below_step (by repeat (first | (with_reducible first|exact HB.out|apply bA|apply bN|apply bD)|exact HB.out)) hb); clear HB; have HB := n0_; clear n0_; (try clear hb); (try clear hb2); (try clear hk); (try clear hi)))
 go_loopg [13, 14] k (fun kq v13 v14 w' => ∃ (x13_1 : List Int) (x14_1 : Int), v14 = .int .i64 x14_1 ∧ Aside0 (athanorref04_Cut.l0 kq l0 l1 a2 a3 a4 t287 t288 x13_1 x14_1 = some r) ∧ Aside0 (kq ≤ k) ∧ Aside0 (Kd.R (Kd.int .i64) 2 w' w.heap.size (fun _ => True) v13 x13_1) ∧ Aside0 (Below w.heap.size w w'))
 case atStart => exact ⟨(([] : List Int)), (0), (by first | rfl | (simp; done) | (simp [*]; done)), H', ⟨Nat.le_refl _⟩, ⟨by first|exact Kd.R_nil _ _ _ _ _|exact Kd.N_nil _ _ _ _ _|exact Kd.V_nil _ _ _ _ _|exact Kd.Q_nil _ _ _ _ _|exact Kd.S_nil _ _ _ _ _⟩, ⟨by repeat (first | (with_reducible first|exact HB.out|apply bA|apply bN|apply bD)|exact HB.out)⟩⟩
 case round =>
  clear H'
  (try clear c1); (try clear p2); (try clear c3); (try clear c5)
  obtain ⟨x13_1, x14_1, rfl, HA, HK1, HO_13, HB⟩ := hrel
  cases gk with
  | zero => exact absurd HA.out (by simp [athanorref04_Cut.l0])
  | succ k1 =>
   have H := HA.out
   clear HA
   simp only [athanorref04_Cut.l0] at H
   by_cases c8 : x14_1 < t287
   ·rw [if_pos c8] at H
    have c8b0 : decide (x14_1 < t287) = true := decide_eq_true c8
    clear c8
    have H' := Aside0.mk H
    clear H
    go_wp2
    go_loopg [13, 15] k1 (fun kq v13 v15 w' => ∃ (x13_2 : List Int) (x15_2 : Int), v15 = .int .i64 x15_2 ∧ Aside0 (athanorref04_Cut.l1 kq l0 l1 a2 a3 a4 t287 t288 x13_2 x14_1 x15_2 = some r) ∧ Aside0 (kq ≤ k1) ∧ Aside0 (Kd.R (Kd.int .i64) 2 w' w.heap.size (fun _ => True) v13 x13_2) ∧ Aside0 (Below w.heap.size w w'))
    case atStart => exact ⟨(x13_1), (a3), (by first | rfl | (simp; done) | (simp [*]; done)), H', ⟨Nat.le_refl _⟩, ⟨by (with_reducible repeat (first|apply rA|apply rN|apply rD)); exact HO_13.out⟩, ⟨by repeat (first | (with_reducible first|exact HB.out|apply bA|apply bN|apply bD)|exact HB.out)⟩⟩
    case round =>
     clear H'
     (try clear c1); (try clear p2); (try clear c3); (try clear c5); (try clear c8); (try clear c8b0); (try clear p2)
     obtain ⟨x13_2, x15_2, rfl, HA, HK2, HO_13, HB⟩ := hrel
     cases gk with
     | zero => exact absurd HA.out (by simp [athanorref04_Cut.l1])
     | succ k2 =>
      have H := HA.out
      clear HA
      simp only [athanorref04_Cut.l1] at H
      by_cases c9 : x15_2 < a4
      ·rw [if_pos c9] at H
       have c9b0 : decide (x15_2 < a4) = true := decide_eq_true c9
       clear c9
       have H' := Aside0.mk H
       clear H
       go_wp2
       go_loopg [13, 16] k2 (fun kq v13 v16 w' => ∃ (x13_3 : List Int) (x16_3 : Int), v16 = .int .i64 x16_3 ∧ Aside0 (athanorref04_Cut.l2 kq l0 l1 a2 a3 a4 t287 t288 x13_3 x14_1 x15_2 x16_3 = some r) ∧ Aside0 (kq ≤ k2) ∧ Aside0 (Kd.R (Kd.int .i64) 2 w' w.heap.size (fun _ => True) v13 x13_3) ∧ Aside0 (Below w.heap.size w w'))
       case atStart => exact ⟨(x13_2), (0), (by first | rfl | (simp; done) | (simp [*]; done)), H', ⟨Nat.le_refl _⟩, ⟨by (with_reducible repeat (first|apply rA|apply rN|apply rD)); exact HO_13.out⟩, ⟨by repeat (first | (with_reducible first|exact HB.out|apply bA|apply bN|apply bD)|exact HB.out)⟩⟩
       case round =>
        clear H'
        (try clear c1); (try clear p2); (try clear c3); (try clear c5); (try clear c8); (try clear c8b0); (try clear c9); (try clear c9b0); (try clear p2)
        obtain ⟨x13_3, x16_3, rfl, HA, HK3, HO_13, HB⟩ := hrel
        cases gk with
        | zero => exact absurd HA.out (by simp [athanorref04_Cut.l2])
        | succ k3 =>
         have H := HA.out
         clear HA
         simp only [athanorref04_Cut.l2] at H
         by_cases c10 : x16_3 < t288
         ·rw [if_pos c10] at H
          have c10b0 : decide (x16_3 < t288) = true := decide_eq_true c10
          clear c10
          by_cases c11 : 0 ≤ a2
          ·rw [if_pos c11] at H
           have c11b0 : decide (0 ≤ a2) = true := decide_eq_true c11
           clear c11
           by_cases c12 : a2 < (l0.length : Int)
           ·rw [if_pos c12] at H
            have c12b0 : decide (a2 < (l0.length : Int)) = true := decide_eq_true c12
            clear c12
            obtain ⟨ji13, hji13⟩ : ∃ j_ : Int, (wrap64 ((wrap64 ((wrap64 ((wrap64 (x14_1 * (rd l0 a2))) + x15_2)) * t288)) + x16_3)) = j_ := ⟨_, rfl⟩
            replace H : (if 0 ≤ (ji13) then (if (ji13) < (l1.length : Int) then (if x13_3.length < 17592186044416 then (athanorref04_Cut.l2 k3 l0 l1 a2 a3 a4 t287 t288 (x13_3 ++ [rd l1 (ji13)]) x14_1 x15_2 (wrap64 (x16_3 + 1))) else (none)) else (none)) else (none)) = some r := by first | (rw [hji13] at H; exact H) | (simp only [hji13] at H ⊢; exact H)
            have hji13w : (IntKind.i64.wrap ((wrap64 ((wrap64 ((wrap64 (x14_1 * (rd l0 a2))) + x15_2)) * t288)) + x16_3)) = ji13 := (i64_w _).trans hji13
            by_cases c14 : 0 ≤ (ji13)
            ·rw [if_pos c14] at H
             have c14b0 : decide (0 ≤ (ji13)) = true := decide_eq_true c14
             clear c14
             by_cases c15 : (ji13) < (l1.length : Int)
             ·rw [if_pos c15] at H
              have c15b0 : decide ((ji13) < (l1.length : Int)) = true := decide_eq_true c15
              clear c15
              by_cases c16 : x13_3.length < 17592186044416
              ·rw [if_pos c16] at H
               have LMc16 := Aside0.mk c16
               clear c16
               obtain ⟨y291, hy291⟩ : ∃ y_ : List Int, y_ = (x13_3 ++ [rd l1 (ji13)]) := ⟨_, rfl⟩
               replace H : (athanorref04_Cut.l2 k3 l0 l1 a2 a3 a4 t287 t288 y291 x14_1 x15_2 (wrap64 (x16_3 + 1))) = some r := by first | (rw [hy291]; with_reducible exact H) | (have H2_ := (Option.bind_some _ _).symm.trans H; rw [hy291]; with_reducible exact H2_) | (have H2_ := (Option.bind_some _ _).symm.trans H; with_reducible exact H2_) | with_reducible exact H | (rw [hy291]; exact H)|exact H
               have Ny291 := Aside0.mk hy291
               clear hy291
               as_aux_lemma =>
                have H' := Aside0.mk H
                clear H
                have p289 : 0 ≤ (a2 : Int) := of_decide_eq_true (by first | (with_reducible assumption) | assumption)
                have q289 : a2 < (l0.length : Int) := of_decide_eq_true (by first | (with_reducible assumption) | assumption)
                obtain ⟨ad289, e289, hx289_0⟩ := Kd.at_int HR0.out a2 p289 q289
                cases e289
                replace hx289_0 := (HB.out.cell (World.block_lt_of_cell? w _ hx289_0)).trans hx289_0
                replace p289 := eq_true p289
                replace q289 := eq_true q289
                have p290 : 0 ≤ ((ji13) : Int) := of_decide_eq_true (by first | (with_reducible assumption) | assumption)
                have q290 : (ji13) < (l1.length : Int) := of_decide_eq_true (by first | (with_reducible assumption) | assumption)
                obtain ⟨ad290, e290, hx290_0⟩ := Kd.at_int HR1.out (ji13) p290 q290
                cases e290
                replace hx290_0 := (HB.out.cell (World.block_lt_of_cell? w _ hx290_0)).trans hx290_0
                replace p290 := eq_true p290
                replace q290 := eq_true q290
                go_wp2_with (first | ((with_reducible refine gate_builtin (b := .append) (xs := #[.tmp 39, .tmp 55]) rfl ?_); at_builtin; refine Kd.R_append (Kd.int .i64) (w0 := w) w.heap.size rfl (.tmp 39) (.tmp 55) 58 2 (.int .i64 0) 8 rfl Try.underlying58 info2 rfl (by decide) (by omega) u13 x13_3 (rd l1 (ji13)) [.int .i64 (rd l1 (ji13))] (fun _ => True) (fun _ => False) rfl rfl ?aP (fun _ hk => hk.elim) ?aF ?aO ?aB ?aS ?aL ?_; (case aP => exact rfl); (case aB => exact (by repeat (first | (with_reducible first|exact HB.out|apply bA|apply bN|apply bD)|exact HB.out))); (case aF => exact (fun _ _ => trivial)); (case aO => exact (by (with_reducible repeat (first|apply rA|apply rN|apply rD)); exact HO_13.out)); (case aS => exact (below_size (by repeat (first | (with_reducible first|exact HB.out|apply bA|apply bN|apply bD)|exact HB.out)))); (case aL => have := LMc16.out; omega); intro v292 w17 ho hb hg hat; rw [← Ny291.out] at ho; have n0_ := Aside0.mk (hb); have n1_ := Aside0.mk (ho); clear HB; clear HO_13; have HB := n0_; have HO293 := n1_; clear n0_ n1_; clear ho hb hg hat))
                go_roundg k3
                case measure => have := HK1.out; have := HK2.out; have := HK3.out; omega
                case rel => exact ⟨(y291), (wrap64 (x16_3 + 1)), (by first | rfl | (simp; done) | (simp [*]; done)), H', ⟨by have := HK1.out; have := HK2.out; have := HK3.out; omega⟩, ⟨by (with_reducible repeat (first|apply rA|apply rN|apply rD)); exact HO293.out⟩, ⟨by repeat (first | (with_reducible first|exact HB.out|apply bA|apply bN|apply bD)|exact HB.out)⟩⟩
              ·rw [if_neg c16] at H
               exact absurd H (by simp)
             ·rw [if_neg c15] at H
              exact absurd H (by simp)
            ·rw [if_neg c14] at H
             exact absurd H (by simp)
           ·rw [if_neg c12] at H
            exact absurd H (by simp)
          ·rw [if_neg c11] at H
           exact absurd H (by simp)
         ·rw [if_neg c10] at H
          have c10b0 : decide (x16_3 < t288) = false := decide_eq_false c10
          clear c10
          as_aux_lemma =>
           have H' := Aside0.mk H
           clear H
           go_wp2
           go_roundg k3
           case measure => have := HK1.out; have := HK2.out; have := HK3.out; omega
           case rel => exact ⟨(x13_3), (wrap64 (x15_2 + 1)), (by first | rfl | (simp; done) | (simp [*]; done)), H', ⟨by have := HK1.out; have := HK2.out; have := HK3.out; omega⟩, ⟨by (with_reducible repeat (first|apply rA|apply rN|apply rD)); exact HO_13.out⟩, ⟨by repeat (first | (with_reducible first|exact HB.out|apply bA|apply bN|apply bD)|exact HB.out)⟩⟩
      ·rw [if_neg c9] at H
       have c9b0 : decide (x15_2 < a4) = false := decide_eq_false c9
       clear c9
       as_aux_lemma =>
        have H' := Aside0.mk H
        clear H
        go_wp2
        go_roundg k2
        case measure => have := HK1.out; have := HK2.out; omega
        case rel => exact ⟨(x13_2), (wrap64 (x14_1 + 1)), (by first | rfl | (simp; done) | (simp [*]; done)), H', ⟨by have := HK1.out; have := HK2.out; omega⟩, ⟨by (with_reducible repeat (first|apply rA|apply rN|apply rD)); exact HO_13.out⟩, ⟨by repeat (first | (with_reducible first|exact HB.out|apply bA|apply bN|apply bD)|exact HB.out)⟩⟩
   ·rw [if_neg c8] at H
    have c8b0 : decide (x14_1 < t287) = false := decide_eq_false c8
    clear c8
    as_aux_lemma =>
     obtain rfl := Option.some.inj H
     go_wp2
     go_ret
     exact ⟨_, by first | rfl | (simp [errW_none, errW_some] <;> rfl) | (simp [*, errW_none, errW_some] <;> rfl), by (with_reducible repeat (first|apply rA|apply rN|apply rD)); exact HO_13.out, by repeat (first | (with_reducible first|exact HB.out|apply bA|apply bN|apply bD)|exact HB.out)⟩

/-! ### athanorlaw04_cells: function 32 -/
def athanorlaw04_cells.l0 : Nat → List Int → List Int → Int → Int → Option (List Int)
 | 0, _, _, _, _ => none
 | k + 1, x3, x7, x8, x9 => if x9 < x8 then (if 0 ≤ x9 then (if x9 < (x7.length : Int) then (if x3.length < 17592186044416 then (athanorlaw04_cells.l0 k (x3 ++ [rd x7 x9]) x7 x8 (wrap64 (x9 + 1))) else (none)) else (none)) else (none)) else (some x3)
def athanorlaw04_cells.f (k : Nat) (l0_0 : List Int) (l0_1 : List Int) : Option (List Int) := athanorlaw04_cells.l0 k ([] : List Int) l0_1 (l0_1.length : Int) 0
theorem athanorlaw04_cells.mono_l : ∀ k, (∀ y0 y1 y2 y3, LeO (athanorlaw04_cells.l0 k y0 y1 y2 y3) (athanorlaw04_cells.l0 (k + 1) y0 y1 y2 y3))
 | 0 => fun _ _ _ _ r h => by simp [athanorlaw04_cells.l0] at h
 | k + 1 => by
  have ih0 := athanorlaw04_cells.mono_l k
  ·intro y0 y1 y2 y3
   unfold athanorlaw04_cells.l0
   repeat' first
   | (with_reducible exact ih0 _ _ _ _)
   | (with_reducible exact LeO.refl _)
   | (with_reducible exact LeO.none _)
   | (with_reducible refine LeO.ite ?_ ?_)
   | (with_reducible refine LeO.bind ?_ (fun _ => ?_))
   | exact ih0 _ _ _ _
   | exact LeO.none _
   | refine LeO.ite ?_ ?_
   | refine LeO.bind ?_ (fun _ => ?_)
theorem athanorlaw04_cells.mono : ∀ a0 a1 k, LeO (athanorlaw04_cells.f k a0 a1) (athanorlaw04_cells.f (k + 1) a0 a1) := by
 intro a0 a1 k
 have ih0 := athanorlaw04_cells.mono_l k
 unfold athanorlaw04_cells.f
 repeat' first
   | (with_reducible exact ih0 _ _ _ _)
   | (with_reducible exact LeO.refl _)
   | (with_reducible exact LeO.none _)
   | (with_reducible refine LeO.ite ?_ ?_)
   | (with_reducible refine LeO.bind ?_ (fun _ => ?_))
   | exact ih0 _ _ _ _
   | exact LeO.none _
   | refine LeO.ite ?_ ?_
   | refine LeO.bind ?_ (fun _ => ?_)
set_option maxHeartbeats 8000000 in
set_option maxRecDepth 100000 in
theorem athanorlaw04_cells.calls (k : Nat) (A0_0 : Option Addr) (c0_0 : Nat) (l0_0 : List Int) (A0_1 : Option Addr) (c0_1 : Nat) (l0_1 : List Int) (r : List Int) (w : World) (hr0_0 : Kd.C (Kd.int .i64) w A0_0 l0_0.length l0_0) (hc0_0 : l0_0.length ≤ c0_0) (hr0_1 : Kd.C (Kd.int .i64) w A0_1 l0_1.length l0_1) (hc0_1 : l0_1.length ≤ c0_1) (h : athanorlaw04_cells.f k l0_0 l0_1 = some r) :
  Calls Try.prog 32 #[.agg #[.slice A0_0 l0_0.length c0_0, .slice A0_1 l0_1.length c0_1]] w fun e w' => ∃ v0_ : Value, e = .returned (v0_) ∧ Kd.R (Kd.int .i64) 2 w' w.heap.size (fun _ => True) v0_ r ∧ Below w.heap.size w w' := by
 have hu26 := Try.underlying26
 have HR0_0 := Aside0.mk hr0_0
 have HC0_0 := Aside0.mk hc0_0
 clear hr0_0 hc0_0
 have HR0_1 := Aside0.mk hr0_1
 have HC0_1 := Aside0.mk hc0_1
 clear hr0_1 hc0_1
 have HB := Aside0.mk (Below.refl w.heap.size w)
 have H : (athanorlaw04_cells.l0 k ([] : List Int) l0_1 (l0_1.length : Int) 0) = some r := h
 clear h
 have H' := Aside0.mk H
 clear H
 go_enter Try.func32, Try.ntmps32
 go_wp2_with (first | ((with_reducible refine gate_dst (N := 1) rfl ?_); refine box_event ?hg (N := 1) ?hd (cs := #[.slice A0_0 l0_0.length c0_0, .slice A0_1 l0_1.length c0_1]) (t := 26) ?hr ?_; (case hd => rfl); (case hg => rfl); (case hr => first | (go_simp; done) | (go_simp; rfl)); intro gb294 hg w2 hbox hb; have n0_ := Aside0.mk (below_step (by repeat (first | (with_reducible first|exact HB.out|apply bA|apply bN|apply bD)|exact HB.out)) hb); have n1_ := Aside0.mk (hbox); have n2_ := Aside0.mk ((by rw [hg]; exact (below_size (by repeat (first | (with_reducible first|exact HB.out|apply bA|apply bN|apply bD)|exact HB.out))) : w.heap.size ≤ gb294)); have n3_ := Aside0.mk ((by rw [hg]; exact (below_size (by repeat (first | (with_reducible first|exact HB.out|apply bA|apply bN|apply bD)|exact HB.out))) : w.heap.size ≤ gb294)); clear HB; have HB := n0_; have BK294 := n1_; have GW294 := n2_; have GE294 := n3_; clear n0_ n1_ n2_ n3_; clear hb hbox hg; have hcz3_0 : w2.cell? ⟨gb294, 0, none⟩ = some (.slice A0_0 l0_0.length c0_0) := (blk_cell BK294.out 0).trans rfl; have hcz3_1 : w2.cell? ⟨gb294, 1, none⟩ = some (.slice A0_1 l0_1.length c0_1) := (blk_cell BK294.out 1).trans rfl; have hfz3_0 := blk_frozen BK294.out 0; have hfz3_1 := blk_frozen BK294.out 1))
 go_loopg [3, 9] k (fun kq v3 v9 w' => ∃ (x3_1 : List Int) (x9_1 : Int), v9 = .int .i64 x9_1 ∧ Aside0 (athanorlaw04_cells.l0 kq x3_1 l0_1 (l0_1.length : Int) x9_1 = some r) ∧ Aside0 (kq ≤ k) ∧ Aside0 (Kd.R (Kd.int .i64) 2 w' w.heap.size (fun _ => True) v3 x3_1) ∧ Aside0 (w'.heap[gb294]? = some (.cells #[(.slice A0_0 l0_0.length c0_0), (.slice A0_1 l0_1.length c0_1)] 26 (0, 0))) ∧ Aside0 (Below w.heap.size w w'))
 case atStart => exact ⟨(([] : List Int)), (0), (by first | rfl | (simp; done) | (simp [*]; done)), H', ⟨Nat.le_refl _⟩, ⟨by first|exact Kd.R_nil _ _ _ _ _|exact Kd.N_nil _ _ _ _ _|exact Kd.V_nil _ _ _ _ _|exact Kd.Q_nil _ _ _ _ _|exact Kd.S_nil _ _ _ _ _⟩, ⟨by (with_reducible repeat (first|refine kN ?_ _|refine kD ?_|refine kA ?_ _)); exact BK294.out⟩, ⟨by repeat (first | (with_reducible first|exact HB.out|apply bA|apply bN|apply bD|refine bS ?_ GE294.out)|exact HB.out)⟩⟩
 case round =>
  clear H'
  (try clear p2); (try clear c3); (try clear hcz3_0); (try clear hcz3_1); (try clear hfz3_0); (try clear hfz3_1)
  obtain ⟨x3_1, x9_1, rfl, HA, HK1, HO_3, BK294, HB⟩ := hrel
  cases gk with
  | zero => exact absurd HA.out (by simp [athanorlaw04_cells.l0])
  | succ k1 =>
   have H := HA.out
   clear HA
   simp only [athanorlaw04_cells.l0] at H
   by_cases c4 : x9_1 < (l0_1.length : Int)
   ·rw [if_pos c4] at H
    have c4b0 : decide (x9_1 < (l0_1.length : Int)) = true := decide_eq_true c4
    clear c4
    by_cases c5 : 0 ≤ x9_1
    ·rw [if_pos c5] at H
     have c5b0 : decide (0 ≤ x9_1) = true := decide_eq_true c5
     clear c5
     by_cases c6 : x9_1 < (l0_1.length : Int)
     ·rw [if_pos c6] at H
      have c6b0 : decide (x9_1 < (l0_1.length : Int)) = true := decide_eq_true c6
      clear c6
      by_cases c7 : x3_1.length < 17592186044416
      ·rw [if_pos c7] at H
       have LMc7 := Aside0.mk c7
       clear c7
       obtain ⟨y296, hy296⟩ : ∃ y_ : List Int, y_ = (x3_1 ++ [rd l0_1 x9_1]) := ⟨_, rfl⟩
       replace H : (athanorlaw04_cells.l0 k1 y296 l0_1 (l0_1.length : Int) (wrap64 (x9_1 + 1))) = some r := by first | (rw [hy296]; with_reducible exact H) | (have H2_ := (Option.bind_some _ _).symm.trans H; rw [hy296]; with_reducible exact H2_) | (have H2_ := (Option.bind_some _ _).symm.trans H; with_reducible exact H2_) | with_reducible exact H | (rw [hy296]; exact H)|exact H
       have Ny296 := Aside0.mk hy296
       clear hy296
       as_aux_lemma =>
        have H' := Aside0.mk H
        clear H
        have p295 : 0 ≤ (x9_1 : Int) := of_decide_eq_true (by first | (with_reducible assumption) | assumption)
        have q295 : x9_1 < (l0_1.length : Int) := of_decide_eq_true (by first | (with_reducible assumption) | assumption)
        obtain ⟨ad295, e295, hx295_0⟩ := Kd.at_int HR0_1.out x9_1 p295 q295
        cases e295
        replace hx295_0 := (HB.out.cell (World.block_lt_of_cell? w _ hx295_0)).trans hx295_0
        replace p295 := eq_true p295
        replace q295 := eq_true q295
        go_wp2_with (first | ((with_reducible refine gate_builtin (b := .append) (xs := #[.tmp 13, .tmp 15]) rfl ?_); at_builtin; refine Kd.R_append (Kd.int .i64) (w0 := w) w.heap.size rfl (.tmp 13) (.tmp 15) 58 2 (.int .i64 0) 8 rfl Try.underlying58 info2 rfl (by decide) (by omega) u3 x3_1 (rd l0_1 x9_1) [.int .i64 (rd l0_1 x9_1)] (fun _ => True) (fun _ => False) rfl rfl ?aP (fun _ hk => hk.elim) ?aF ?aO ?aB ?aS ?aL ?_; (case aP => exact rfl); (case aB => exact (by repeat (first | (with_reducible first|exact HB.out|apply bA|apply bN|apply bD|refine bS ?_ GE294.out)|exact HB.out))); (case aF => exact (fun _ _ => trivial)); (case aO => exact (by (with_reducible repeat (first|apply rA|apply rN|apply rD)); exact HO_3.out)); (case aS => exact (below_size (by repeat (first | (with_reducible first|exact HB.out|apply bA|apply bN|apply bD|refine bS ?_ GE294.out)|exact HB.out)))); (case aL => have := LMc7.out; omega); intro v297 w8 ho hb hg hat; rw [← Ny296.out] at ho; have n0_ := Aside0.mk (blk_grown (g := gb294) (o := .cells #[.slice A0_0 l0_0.length c0_0, .slice (some ad295) l0_1.length c0_1] 26 (0, 0)) (by (with_reducible repeat (first|refine kN ?_ _|refine kD ?_|refine kA ?_ _)); exact BK294.out) hg (Kd.R_ne HO_3.out BK294.out (by decide))); have n1_ := Aside0.mk (hb); have n2_ := Aside0.mk (ho); clear BK294; clear HB; clear HO_3; have BK294 := n0_; have HB := n1_; have HO298 := n2_; clear n0_ n1_ n2_; clear ho hb hg hat))
        go_roundg k1
        case measure => have := HK1.out; omega
        case rel => exact ⟨(y296), (wrap64 (x9_1 + 1)), (by first | rfl | (simp; done) | (simp [*]; done)), H', ⟨by have := HK1.out; omega⟩, ⟨by (with_reducible repeat (first|apply rA|apply rN|apply rD)); exact HO298.out⟩, ⟨by (with_reducible repeat (first|refine kN ?_ _|refine kD ?_|refine kA ?_ _)); exact BK294.out⟩, ⟨by repeat (first | (with_reducible first|exact HB.out|apply bA|apply bN|apply bD|refine bS ?_ GE294.out)|exact HB.out)⟩⟩
      ·rw [if_neg c7] at H
       exact absurd H (by simp)
     ·rw [if_neg c6] at H
      exact absurd H (by simp)
    ·rw [if_neg c5] at H
     exact absurd H (by simp)
   ·rw [if_neg c4] at H
    have c4b0 : decide (x9_1 < (l0_1.length : Int)) = false := decide_eq_false c4
    clear c4
    as_aux_lemma =>
     obtain rfl := Option.some.inj H
     go_wp2
     go_ret
     exact ⟨_, by first | rfl | (simp [errW_none, errW_some] <;> rfl) | (simp [*, errW_none, errW_some] <;> rfl), by (with_reducible repeat (first|apply rA|apply rN|apply rD)); exact HO_3.out, by repeat (first | (with_reducible first|exact HB.out|apply bA|apply bN|apply bD|refine bS ?_ GE294.out)|exact HB.out)⟩

end Go.Proofs.Ytmekcfmhaflghaa.PCut
