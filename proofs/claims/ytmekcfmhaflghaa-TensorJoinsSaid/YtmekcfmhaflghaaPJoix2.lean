-- printed by wip/tools/xp.py of this project (not trusted: Lean checks it)
import Derived.Test.YtmekcfmhaflghaaPJoix0
import Derived.Test.YtmekcfmhaflghaaPJoix1
namespace Go.Proofs.Ytmekcfmhaflghaa.PJoi
open Go.RowKit Go.Proofs.YtmekcfmhaflghaaW.PrintWords Go.Proofs.YtmekcfmhaflghaaW.PrintLast Go.Proofs.YtmekcfmhaflghaaW.PrintMore Go.Proofs.Ytmekcfmhaflghaa.XW
attribute [local go_sem] max2_int min2_int max_two min_two max_three min_three max_four min_four max_five min_five   -- for this text's walks alone
set_option linter.unusedVariables false
set_option linter.unusedSimpArgs false

/-! ### shape_Shape_Right: function 43 -/
def shape_Shape_Right.f (k : Nat) (l0 : List Int) : Option (Bool) := if (l0.length : Int) < 1 then (some false) else (if (l0.length : Int) > 4 then (some false) else ((slices_ContainsFunc_shape_Shape_int_at_shape_Shape_Right_1.f k l0).bind fun t116 => (if t116 = true then (some false) else ((safe_Mul.f k l0).bind fun bt117 => (if bt117.2 = 0 then (some (decide (bt117.1 ≤ 65536))) else (some false))))))
theorem shape_Shape_Right.mono : ∀ a0 k, LeO (shape_Shape_Right.f k a0) (shape_Shape_Right.f (k + 1) a0) := by
 intro a0 k
 unfold shape_Shape_Right.f
 repeat' first
   | (with_reducible exact safe_Mul.mono _ _)
   | (with_reducible exact slices_ContainsFunc_shape_Shape_int_at_shape_Shape_Right_1.mono _ _)
   | (with_reducible exact LeO.refl _)
   | (with_reducible exact LeO.none _)
   | (with_reducible refine LeO.ite ?_ ?_)
   | (with_reducible refine LeO.bind ?_ (fun _ => ?_))
   | exact safe_Mul.mono _ _
   | exact slices_ContainsFunc_shape_Shape_int_at_shape_Shape_Right_1.mono _ _
   | exact LeO.none _
   | refine LeO.ite ?_ ?_
   | refine LeO.bind ?_ (fun _ => ?_)
set_option maxHeartbeats 8000000 in
set_option maxRecDepth 100000 in
theorem shape_Shape_Right.calls (k : Nat) (A0 : Option Addr) (c0 : Nat) (l0 : List Int) (r : Bool) (w : World) (hr0 : Kd.C (Kd.int .i64) w A0 l0.length l0) (hc0 : l0.length ≤ c0) (h : shape_Shape_Right.f k l0 = some r) :
  Calls Try.prog 43 #[.slice A0 l0.length c0] w fun e w' => e = .returned (.bool r) ∧ Drawn0 w w' := by
 have HR0 := Aside0.mk hr0
 have HC0 := Aside0.mk hc0
 clear hr0 hc0
 have H : (if (l0.length : Int) < 1 then (some false) else (if (l0.length : Int) > 4 then (some false) else ((slices_ContainsFunc_shape_Shape_int_at_shape_Shape_Right_1.f k l0).bind fun t116 => (if t116 = true then (some false) else ((safe_Mul.f k l0).bind fun bt117 => (if bt117.2 = 0 then (some (decide (bt117.1 ≤ 65536))) else (some false))))))) = some r := h
 clear h
 by_cases c2 : (l0.length : Int) < 1
 ·rw [if_pos c2] at H
  have c2b0 : decide ((l0.length : Int) < 1) = true := decide_eq_true c2
  have c2b1 : decide (l0.length < 1) = true := decide_eq_true (by omega)
  clear c2
  as_aux_lemma =>
   obtain rfl := Option.some.inj H
   go_enter Try.func43, Try.ntmps43
   go_wp2
   go_ret
   exact ⟨by first | rfl | (simp; done) | (simp [*]; done), by repeat (first|exact Drawn0.refl _|apply Drawn0.step)⟩
 ·rw [if_neg c2] at H
  have c2b0 : decide ((l0.length : Int) < 1) = false := decide_eq_false c2
  have c2b1 : decide (l0.length < 1) = false := decide_eq_false (by omega)
  clear c2
  by_cases c3 : (l0.length : Int) > 4
  ·rw [if_pos c3] at H
   have c3b0 : decide (4 < (l0.length : Int)) = true := decide_eq_true c3
   have c3b1 : decide (4 < l0.length) = true := decide_eq_true (by omega)
   clear c3
   as_aux_lemma =>
    obtain rfl := Option.some.inj H
    go_enter Try.func43, Try.ntmps43
    go_wp2
    go_ret
    exact ⟨by first | rfl | (simp; done) | (simp [*]; done), by repeat (first|exact Drawn0.refl _|apply Drawn0.step)⟩
  ·rw [if_neg c3] at H
   have c3b0 : decide (4 < (l0.length : Int)) = false := decide_eq_false c3
   have c3b1 : decide (4 < l0.length) = false := decide_eq_false (by omega)
   clear c3
   replace H := Option.bind_eq_some_iff.mp H
   obtain ⟨t116, A40, H⟩ := H
   replace H : (if t116 = true then (some false) else ((safe_Mul.f k l0).bind fun bt117 => (if bt117.2 = 0 then (some (decide (bt117.1 ≤ 65536))) else (some false)))) = some r := H
   have A4 := Aside0.mk A40
   clear A40
   by_cases c5 : t116 = true
   ·subst c5
    have H1 : (some false) = some r := by rw [if_pos rfl] at H; exact H
    clear H
    have H := H1
    clear H1
    as_aux_lemma =>
     obtain rfl := Option.some.inj H
     go_enter Try.func43, Try.ntmps43
     go_wp2_with (first | (go_at_call 58; (with_reducible refine (slices_ContainsFunc_shape_Shape_int_at_shape_Shape_Right_1.calls k _ _ l0  true _ ?side1 ?side2 A4.out).mono ?_); (case side1 => repeat (first|exact HR0.out | with_reducible first|apply cA|apply cN|apply cD)); (case side2 => exact HC0.out); rintro e w' ⟨rfl, ⟨nd, rfl⟩⟩))
     go_ret
     exact ⟨by first | rfl | (simp; done) | (simp [*]; done), by repeat (first|exact Drawn0.refl _|apply Drawn0.step)⟩
   ·replace c5 := Bool.eq_false_iff.mpr c5
    subst c5
    have H1 : ((safe_Mul.f k l0).bind fun bt117 => (if bt117.2 = 0 then (some (decide (bt117.1 ≤ 65536))) else (some false))) = some r := by rw [if_neg (show ¬ (false = true) by decide)] at H; exact H
    clear H
    have H := H1
    clear H1
    replace H := Option.bind_eq_some_iff.mp H
    obtain ⟨⟨t117, t118⟩, A60, H⟩ := H
    replace H : (if t118 = 0 then (some (decide (t117 ≤ 65536))) else (some false)) = some r := H
    have A6 := Aside0.mk A60
    clear A60
    by_cases c7 : t118 = 0
    ·rw [if_pos c7] at H
     have c7b0 : (t118 == 0) = true := beq_iff_eq.mpr c7
     have c7b1 : (t118 != 0) = false := bne_eq_false_iff_eq.mpr c7
     clear c7
     as_aux_lemma =>
      obtain rfl := Option.some.inj H
      go_enter Try.func43, Try.ntmps43
      go_wp2_with (first | (go_at_call 58; (with_reducible refine (slices_ContainsFunc_shape_Shape_int_at_shape_Shape_Right_1.calls k _ _ l0  false _ ?side1 ?side2 A4.out).mono ?_); (case side1 => repeat (first|exact HR0.out | with_reducible first|apply cA|apply cN|apply cD)); (case side2 => exact HC0.out); rintro e w' ⟨rfl, ⟨nd, rfl⟩⟩) | ((with_reducible refine gate_callee (f := 55) rfl ?_); refine goesL_ (some 19) rfl rfl Try.func55 (by kernel_rfl) rfl #[.slice A0 l0.length c0] rfl (by (try simp only [List.map_toArray, List.map_cons, List.map_nil]); first | done | rfl | (simp only [List.length_drop, List.length_take]; rfl)) ?_; (with_reducible refine (safe_Mul.calls k _ _ l0 t117 t118 _ ?side1 ?side2 A6.out).mono ?_); (case side1 => repeat (first|exact HR0.out | with_reducible first|apply cA|apply cN|apply cD)); (case side2 => exact HC0.out); rintro e w' ⟨rfl, ⟨nd, rfl⟩⟩; refine ⟨_, rfl, ?_⟩))
      go_ret
      exact ⟨by first | rfl | (simp; done) | (simp [*]; done), by repeat (first|exact Drawn0.refl _|apply Drawn0.step)⟩
    ·rw [if_neg c7] at H
     have c7b0 : (t118 == 0) = false := beq_eq_false_iff_ne.mpr c7
     have c7b1 : (t118 != 0) = true := bne_iff_ne.mpr c7
     as_aux_lemma =>
      obtain rfl := Option.some.inj H
      go_enter Try.func43, Try.ntmps43
      go_wp2_with (first | (go_at_call 58; (with_reducible refine (slices_ContainsFunc_shape_Shape_int_at_shape_Shape_Right_1.calls k _ _ l0  false _ ?side1 ?side2 A4.out).mono ?_); (case side1 => repeat (first|exact HR0.out | with_reducible first|apply cA|apply cN|apply cD)); (case side2 => exact HC0.out); rintro e w' ⟨rfl, ⟨nd, rfl⟩⟩) | ((with_reducible refine gate_callee (f := 55) rfl ?_); refine goesL_ (some 19) rfl rfl Try.func55 (by kernel_rfl) rfl #[.slice A0 l0.length c0] rfl (by (try simp only [List.map_toArray, List.map_cons, List.map_nil]); first | done | rfl | (simp only [List.length_drop, List.length_take]; rfl)) ?_; (with_reducible refine (safe_Mul.calls k _ _ l0 t117 t118 _ ?side1 ?side2 A6.out).mono ?_); (case side1 => repeat (first|exact HR0.out | with_reducible first|apply cA|apply cN|apply cD)); (case side2 => exact HC0.out); rintro e w' ⟨rfl, ⟨nd, rfl⟩⟩; refine ⟨_, rfl, ?_⟩))
      go_ret
      exact ⟨by first | rfl | (simp; done) | (simp [*]; done), by repeat (first|exact Drawn0.refl _|apply Drawn0.step)⟩

/-! ### shape_Shape_Size: function 36 -/
def shape_Shape_Size.f (k : Nat) (l0 : List Int) : Option (Int × Int) := (shape_Shape_Right.f k l0).bind fun t119 => (if t119 = true then ((safe_Mul.f k l0).bind fun bt120 => (some (bt120.1, bt120.2))) else (some (0, 20)))
theorem shape_Shape_Size.mono : ∀ a0 k, LeO (shape_Shape_Size.f k a0) (shape_Shape_Size.f (k + 1) a0) := by
 intro a0 k
 unfold shape_Shape_Size.f
 repeat' first
   | (with_reducible exact safe_Mul.mono _ _)
   | (with_reducible exact shape_Shape_Right.mono _ _)
   | (with_reducible exact LeO.refl _)
   | (with_reducible exact LeO.none _)
   | (with_reducible refine LeO.ite ?_ ?_)
   | (with_reducible refine LeO.bind ?_ (fun _ => ?_))
   | exact safe_Mul.mono _ _
   | exact shape_Shape_Right.mono _ _
   | exact LeO.none _
   | refine LeO.ite ?_ ?_
   | refine LeO.bind ?_ (fun _ => ?_)
set_option maxHeartbeats 8000000 in
set_option maxRecDepth 100000 in
theorem shape_Shape_Size.calls (k : Nat) (A0 : Option Addr) (c0 : Nat) (l0 : List Int) (r1 : Int) (r2 : Int) (w : World) (hr0 : Kd.C (Kd.int .i64) w A0 l0.length l0) (hc0 : l0.length ≤ c0) (h : shape_Shape_Size.f k l0 = some (r1, r2)) :
  Calls Try.prog 36 #[.slice A0 l0.length c0] w fun e w' => e = .returned (.tuple #[.int .i64 r1, .int .i64 r2]) ∧ Drawn0 w w' := by
 have HR0 := Aside0.mk hr0
 have HC0 := Aside0.mk hc0
 clear hr0 hc0
 have H : ((shape_Shape_Right.f k l0).bind fun t119 => (if t119 = true then ((safe_Mul.f k l0).bind fun bt120 => (some (bt120.1, bt120.2))) else (some (0, 20)))) = some (r1, r2) := h
 clear h
 replace H := Option.bind_eq_some_iff.mp H
 obtain ⟨t119, A20, H⟩ := H
 replace H : (if t119 = true then ((safe_Mul.f k l0).bind fun bt120 => (some (bt120.1, bt120.2))) else (some (0, 20))) = some (r1, r2) := H
 have A2 := Aside0.mk A20
 clear A20
 by_cases c3 : t119 = true
 ·subst c3
  have H1 : ((safe_Mul.f k l0).bind fun bt120 => (some (bt120.1, bt120.2))) = some (r1, r2) := by rw [if_pos rfl] at H; exact H
  clear H
  have H := H1
  clear H1
  replace H := Option.bind_eq_some_iff.mp H
  obtain ⟨⟨t120, t121⟩, A40, H⟩ := H
  replace H : (some (t120, t121)) = some (r1, r2) := H
  have A4 := Aside0.mk A40
  clear A40
  as_aux_lemma =>
   simp only [Option.some.injEq, Prod.mk.injEq] at H
   obtain ⟨rfl, rfl⟩ := H
   go_enter Try.func36, Try.ntmps36
   go_wp2_with (first | ((with_reducible refine gate_callee (f := 43) rfl ?_); refine goesL_ (some 5) rfl rfl Try.func43 (by kernel_rfl) rfl #[.slice A0 l0.length c0] rfl (by (try simp only [List.map_toArray, List.map_cons, List.map_nil]); first | done | rfl | (simp only [List.length_drop, List.length_take]; rfl)) ?_; (with_reducible refine (shape_Shape_Right.calls k _ _ l0 true _ ?side1 ?side2 A2.out).mono ?_); (case side1 => repeat (first|exact HR0.out | with_reducible first|apply cA|apply cN|apply cD)); (case side2 => exact HC0.out); rintro e w' ⟨rfl, ⟨nd, rfl⟩⟩; refine ⟨_, rfl, ?_⟩) | ((with_reducible refine gate_callee (f := 55) rfl ?_); refine goesL_ (some 8) rfl rfl Try.func55 (by kernel_rfl) rfl #[.slice A0 l0.length c0] rfl (by (try simp only [List.map_toArray, List.map_cons, List.map_nil]); first | done | rfl | (simp only [List.length_drop, List.length_take]; rfl)) ?_; (with_reducible refine (safe_Mul.calls k _ _ l0 t120 t121 _ ?side1 ?side2 A4.out).mono ?_); (case side1 => repeat (first|exact HR0.out | with_reducible first|apply cA|apply cN|apply cD)); (case side2 => exact HC0.out); rintro e w' ⟨rfl, ⟨nd, rfl⟩⟩; refine ⟨_, rfl, ?_⟩))
   go_ret2
   exact ⟨by first | rfl | (simp; done) | (simp [*]; done), by repeat (first|exact Drawn0.refl _|apply Drawn0.step)⟩
 ·replace c3 := Bool.eq_false_iff.mpr c3
  subst c3
  have H1 : (some (0, 20)) = some (r1, r2) := by rw [if_neg (show ¬ (false = true) by decide)] at H; exact H
  clear H
  have H := H1
  clear H1
  as_aux_lemma =>
   simp only [Option.some.injEq, Prod.mk.injEq] at H
   obtain ⟨rfl, rfl⟩ := H
   go_enter Try.func36, Try.ntmps36
   go_wp2_with (first | ((with_reducible refine gate_callee (f := 43) rfl ?_); refine goesL_ (some 5) rfl rfl Try.func43 (by kernel_rfl) rfl #[.slice A0 l0.length c0] rfl (by (try simp only [List.map_toArray, List.map_cons, List.map_nil]); first | done | rfl | (simp only [List.length_drop, List.length_take]; rfl)) ?_; (with_reducible refine (shape_Shape_Right.calls k _ _ l0 false _ ?side1 ?side2 A2.out).mono ?_); (case side1 => repeat (first|exact HR0.out | with_reducible first|apply cA|apply cN|apply cD)); (case side2 => exact HC0.out); rintro e w' ⟨rfl, ⟨nd, rfl⟩⟩; refine ⟨_, rfl, ?_⟩))
   go_ret2
   exact ⟨by first | rfl | (simp; done) | (simp [*]; done), by repeat (first|exact Drawn0.refl _|apply Drawn0.step)⟩

/-! ### slices_Clone_shape_Shape_int: function 56 -/
def slices_Clone_shape_Shape_int.f (l0 : List Int) : Option (List Int) := (some (([] : List Int) : List Int)).bind fun y122 => (if y122.length + l0.length < 17592186044416 then (some (y122 ++ l0)) else (none))
set_option maxHeartbeats 8000000 in
set_option maxRecDepth 100000 in
theorem slices_Clone_shape_Shape_int.calls (A0 : Option Addr) (c0 : Nat) (l0 : List Int) (r : List Int) (w : World) (hr0 : Kd.C (Kd.int .i64) w A0 l0.length l0) (hc0 : l0.length ≤ c0) (h : slices_Clone_shape_Shape_int.f l0 = some r) :
  Calls Try.prog 56 #[.slice A0 l0.length c0] w fun e w' => ∃ v0_ : Value, e = .returned (v0_) ∧ Kd.R (Kd.int .i64) 3 w' w.heap.size (fun _ => True) v0_ r ∧ Below w.heap.size w w' := by
 have HR0 := Aside0.mk hr0
 have HC0 := Aside0.mk hc0
 clear hr0 hc0
 have HB := aM (Below.refl w.heap.size w)
 have H : ((some (([] : List Int) : List Int)).bind fun y122 => (if y122.length + l0.length < 17592186044416 then (some (y122 ++ l0)) else (none))) = some r := h
 clear h
 by_cases cN2 : A0.isNone = true
 ·have hqcN2 := fun (W : World) => (Lib.run_eql_slice_nil (P := Try.prog) W 23 3 A0 l0.length c0 0 0 Try.underlying22).trans (by rw [cN2])
  have hlcN2 : l0 = [] := C_isNil HR0.out cN2
  replace H : (some ([] : List Int)) = some r := by rw [hlcN2] at H; simpa using H
  clear hlcN2
  clear cN2
  as_aux_lemma =>
   obtain rfl := Option.some.inj H
   go_enter Try.func56, Try.ntmps56
   go_wp2
   go_ret
   exact ⟨_, by first | rfl | (simp [errW_none, errW_some] <;> rfl) | (simp [*, errW_none, errW_some] <;> rfl), by first|exact Kd.R_nil _ _ _ _ _|exact Kd.N_nil _ _ _ _ _|exact Kd.V_nil _ _ _ _ _|exact Kd.Q_nil _ _ _ _ _|exact Kd.S_nil _ _ _ _ _, by repeat (first | (with_reducible first|exact HB.out|apply bA|apply bN|apply bD)|exact HB.out)⟩
 ·have hqcN2 := fun (W : World) => (Lib.run_eql_slice_nil (P := Try.prog) W 23 3 A0 l0.length c0 0 0 Try.underlying22).trans (by rw [(Bool.not_eq_true _).mp cN2])
  clear cN2
  obtain ⟨y122, hy122⟩ : ∃ y_ : List Int, y_ = (([] : List Int)) := ⟨_, rfl⟩
  replace H : (if y122.length + l0.length < 17592186044416 then (some (y122 ++ l0)) else (none)) = some r := by first | (rw [hy122]; with_reducible exact H) | (have H2_ := (Option.bind_some _ _).symm.trans H; rw [hy122]; with_reducible exact H2_) | (have H2_ := (Option.bind_some _ _).symm.trans H; with_reducible exact H2_) | with_reducible exact H | (rw [hy122]; exact H)|exact H
  have Ny122 := Aside0.mk hy122
  clear hy122
  by_cases c3 : y122.length + l0.length < 17592186044416
  ·rw [if_pos c3] at H
   have LMc3 := Aside0.mk c3
   clear c3
   obtain ⟨y125, hy125⟩ : ∃ y_ : List Int, y_ = (y122 ++ l0) := ⟨_, rfl⟩
   replace H : (some y125) = some r := by first | (rw [hy125]; with_reducible exact H) | (have H2_ := (Option.bind_some _ _).symm.trans H; rw [hy125]; with_reducible exact H2_) | (have H2_ := (Option.bind_some _ _).symm.trans H; with_reducible exact H2_) | with_reducible exact H | (rw [hy125]; exact H)|exact H
   have Ny125 := Aside0.mk hy125
   clear hy125
   as_aux_lemma =>
    obtain rfl := Option.some.inj H
    go_enter Try.func56, Try.ntmps56
    go_wp2_with (first | ((with_reducible refine gate_dst (N := 5) rfl ?_); refine Kd.R_lit (Kd.int .i64) _ 3 ?hg (N := 5) ?hd (xs := ([] : List Int)) (inner := []) (ok := fun _ => True) (okp := fun _ => True) ?hr ?hp (fun _ hk => hk) trivial (Below.refl _ _) (Nat.le_refl _) (by simp) ?_; (case hd => rfl); (case hg => rfl); (case hr => first | (go_simp; done) | (go_simp; rfl)); (case hp => exact (Reps.none _ _)); intro v123 w4 ho5 hb hg_ hnew_; clear hg_ hnew_; (first | rw [← Ny122.out] at ho5 | (simp only [Int.reduceToNat] at ho5; rw [← Ny122.out] at ho5)); have n0_ := aM (Kd.R_lower ho5 (below_size (by repeat (first | (with_reducible first|exact HB.out|apply bA|apply bN|apply bD)|exact HB.out)))); have n1_ := aM (below_step (by repeat (first | (with_reducible first|exact HB.out|apply bA|apply bN|apply bD)|exact HB.out)) hb); clear HB; have HO124 := n0_; have HB := n1_; clear n0_ n1_; clear hb ho5) | ((with_reducible refine gate_builtin (b := .append) (xs := #[.tmp 5, .tmp 6]) rfl ?_); at_builtin; refine Kd.R_append_rows (Kd.int .i64) (w0 := w) w.heap.size rfl (.tmp 5) (.tmp 6) 23 3 (.int .i64 0) 8 rfl Try.underlying23 info3 rfl (by decide) (by omega) v123 y122 l0 _ _ _ (fun _ => True) (fun _ => False) rfl rfl ?aO ?aR (fun _ _ h => h) (fun _ h => h.elim) ?aF ?aB ?aS ?aL ?_; (case aR => repeat (first|exact (Kd.C_below HR0.out HB.out) | with_reducible first|apply cA|apply cN|apply cD)); (case aB => exact (by repeat (first | (with_reducible first|exact HB.out|apply bA|apply bN|apply bD)|exact HB.out))); (case aF => exact (fun _ _ => trivial)); (case aO => exact (by (with_reducible repeat (first|apply rA|apply rN|apply rD)); exact HO124.out)); (case aS => exact (below_size (by repeat (first | (with_reducible first|exact HB.out|apply bA|apply bN|apply bD)|exact HB.out)))); (case aL => have := LMc3.out; omega); intro v126 w6 ho hb hg hat; rw [← Ny125.out] at ho; have n0_ := aM (hb); have n1_ := aM (ho); clear HB; clear HO124; have HB := n0_; have HO127 := n1_; clear n0_ n1_; clear ho hb hg hat))
    go_ret
    exact ⟨_, by first | rfl | (simp [errW_none, errW_some] <;> rfl) | (simp [*, errW_none, errW_some] <;> rfl), by (with_reducible repeat (first|apply rA|apply rN|apply rD)); exact HO127.out, by repeat (first | (with_reducible first|exact HB.out|apply bA|apply bN|apply bD)|exact HB.out)⟩
  ·rw [if_neg c3] at H
   exact absurd H (by simp)

/-! ### shape_Shape_Copy: function 37 -/
def shape_Shape_Copy.f (l0 : List Int) : Option (List Int) := (slices_Clone_shape_Shape_int.f l0).bind fun t128 => (some t128)
set_option maxHeartbeats 8000000 in
set_option maxRecDepth 100000 in
theorem shape_Shape_Copy.calls (A0 : Option Addr) (c0 : Nat) (l0 : List Int) (r : List Int) (w : World) (hr0 : Kd.C (Kd.int .i64) w A0 l0.length l0) (hc0 : l0.length ≤ c0) (h : shape_Shape_Copy.f l0 = some r) :
  Calls Try.prog 37 #[.slice A0 l0.length c0] w fun e w' => ∃ v0_ : Value, e = .returned (v0_) ∧ Kd.R (Kd.int .i64) 3 w' w.heap.size (fun _ => True) v0_ r ∧ Below w.heap.size w w' := by
 have HR0 := Aside0.mk hr0
 have HC0 := Aside0.mk hc0
 clear hr0 hc0
 have HB := aM (Below.refl w.heap.size w)
 have H : ((slices_Clone_shape_Shape_int.f l0).bind fun t128 => (some t128)) = some r := h
 clear h
 replace H := Option.bind_eq_some_iff.mp H
 obtain ⟨t128, A20, H⟩ := H
 replace H : (some t128) = some r := H
 have A2 := Aside0.mk A20
 clear A20
 as_aux_lemma =>
  obtain rfl := Option.some.inj H
  go_enter Try.func37, Try.ntmps37
  go_wp2_with (first | ((with_reducible refine gate_callee (f := 56) rfl ?_); refine goesL_ (some 4) rfl rfl Try.func56 (by kernel_rfl) rfl #[.slice A0 l0.length c0] rfl (by (try simp only [List.map_toArray, List.map_cons, List.map_nil]); first | done | rfl | (simp only [List.length_drop, List.length_take]; rfl)) ?_; (with_reducible refine (slices_Clone_shape_Shape_int.calls _ _ l0 t128 _ ?side1 ?side2 A2.out).mono ?_); (case side1 => repeat (first|exact HR0.out | with_reducible first|apply cA|apply cN|apply cD)); (case side2 => exact HC0.out); rintro e w3 ⟨v129, rfl, ho0, hb⟩; refine ⟨_, rfl, ?_⟩; have n0_ := aM (Kd.R_lower ho0 (below_size (by repeat (first | (with_reducible first|exact HB.out|apply bA|apply bN|apply bD)|exact HB.out)))); have n1_ := aM (below_step (by repeat (first | (with_reducible first|exact HB.out|apply bA|apply bN|apply bD)|exact HB.out)) hb); clear HB; have HO130 := n0_; have HB := n1_; clear n0_ n1_; (try clear hb); (try clear ho0)))
  go_ret
  exact ⟨_, by first | rfl | (simp [errW_none, errW_some] <;> rfl) | (simp [*, errW_none, errW_some] <;> rfl), by (with_reducible repeat (first|apply rA|apply rN|apply rD)); exact HO130.out, by repeat (first | (with_reducible first|exact HB.out|apply bA|apply bN|apply bD)|exact HB.out)⟩

/-! ### bits_Mul64: function 62 -/
def bits_Mul64.f (a0 : Int) (a1 : Int) : Option (Int × Int) := some (IntKind.u64.wrap ((IntKind.u64.wrap ((IntKind.u64.wrap ((a0 / 4294967296) * (a1 / 4294967296))) + ((IntKind.u64.wrap ((IntKind.u64.wrap ((a0 / 4294967296) * (Go.bits .and .u64 a1 4294967295))) + ((IntKind.u64.wrap ((Go.bits .and .u64 a0 4294967295) * (Go.bits .and .u64 a1 4294967295))) / 4294967296))) / 4294967296))) + ((IntKind.u64.wrap ((Go.bits .and .u64 (IntKind.u64.wrap ((IntKind.u64.wrap ((a0 / 4294967296) * (Go.bits .and .u64 a1 4294967295))) + ((IntKind.u64.wrap ((Go.bits .and .u64 a0 4294967295) * (Go.bits .and .u64 a1 4294967295))) / 4294967296))) 4294967295) + (IntKind.u64.wrap ((Go.bits .and .u64 a0 4294967295) * (a1 / 4294967296))))) / 4294967296)), IntKind.u64.wrap (a0 * a1))
set_option maxHeartbeats 8000000 in
set_option maxRecDepth 100000 in
theorem bits_Mul64.calls (a0 : Int) (a1 : Int) (r1 : Int) (r2 : Int) (w : World) (h : bits_Mul64.f a0 a1 = some (r1, r2)) :
  Calls Try.prog 62 #[.int .u64 a0, .int .u64 a1] w fun e w' => e = .returned (.tuple #[.int .u64 r1, .int .u64 r2]) ∧ Drawn0 w w' := by
 have H : (some (IntKind.u64.wrap ((IntKind.u64.wrap ((IntKind.u64.wrap ((a0 / 4294967296) * (a1 / 4294967296))) + ((IntKind.u64.wrap ((IntKind.u64.wrap ((a0 / 4294967296) * (Go.bits .and .u64 a1 4294967295))) + ((IntKind.u64.wrap ((Go.bits .and .u64 a0 4294967295) * (Go.bits .and .u64 a1 4294967295))) / 4294967296))) / 4294967296))) + ((IntKind.u64.wrap ((Go.bits .and .u64 (IntKind.u64.wrap ((IntKind.u64.wrap ((a0 / 4294967296) * (Go.bits .and .u64 a1 4294967295))) + ((IntKind.u64.wrap ((Go.bits .and .u64 a0 4294967295) * (Go.bits .and .u64 a1 4294967295))) / 4294967296))) 4294967295) + (IntKind.u64.wrap ((Go.bits .and .u64 a0 4294967295) * (a1 / 4294967296))))) / 4294967296)), IntKind.u64.wrap (a0 * a1))) = some (r1, r2) := h
 clear h
 as_aux_lemma =>
  simp only [Option.some.injEq, Prod.mk.injEq] at H
  obtain ⟨rfl, rfl⟩ := H
  go_enter Try.func62, Try.ntmps62
  go_wp2
  go_ret2
  exact ⟨by first | rfl | (simp; done) | (simp [*]; done), by repeat (first|exact Drawn0.refl _|apply Drawn0.step)⟩

/-! ### bits_Mul32: function 70 -/
def bits_Mul32.f (a0 : Int) (a1 : Int) : Option (Int × Int) := some (((IntKind.u64.wrap ((IntKind.u64.wrap (a0)) * (IntKind.u64.wrap (a1)))) / 4294967296) % 4294967296, (IntKind.u64.wrap ((IntKind.u64.wrap (a0)) * (IntKind.u64.wrap (a1)))) % 4294967296)
set_option maxHeartbeats 8000000 in
set_option maxRecDepth 100000 in
theorem bits_Mul32.calls (a0 : Int) (a1 : Int) (r1 : Int) (r2 : Int) (w : World) (h : bits_Mul32.f a0 a1 = some (r1, r2)) :
  Calls Try.prog 70 #[.int .u32 a0, .int .u32 a1] w fun e w' => e = .returned (.tuple #[.int .u32 r1, .int .u32 r2]) ∧ Drawn0 w w' := by
 have H : (some (((IntKind.u64.wrap ((IntKind.u64.wrap (a0)) * (IntKind.u64.wrap (a1)))) / 4294967296) % 4294967296, (IntKind.u64.wrap ((IntKind.u64.wrap (a0)) * (IntKind.u64.wrap (a1)))) % 4294967296)) = some (r1, r2) := h
 clear h
 as_aux_lemma =>
  simp only [Option.some.injEq, Prod.mk.injEq] at H
  obtain ⟨rfl, rfl⟩ := H
  go_enter Try.func70, Try.ntmps70
  go_wp2
  go_ret2
  exact ⟨by first | rfl | (simp; done) | (simp [*]; done), by repeat (first|exact Drawn0.refl _|apply Drawn0.step)⟩

/-! ### bits_Mul: function 57 -/
def bits_Mul.f (a0 : Int) (a1 : Int) : Option (Int × Int) := (bits_Mul64.f a0 a1).bind fun bt131 => (some (bt131.1, bt131.2))
set_option maxHeartbeats 8000000 in
set_option maxRecDepth 100000 in
theorem bits_Mul.calls (a0 : Int) (a1 : Int) (r1 : Int) (r2 : Int) (w : World) (h : bits_Mul.f a0 a1 = some (r1, r2)) :
  Calls Try.prog 57 #[.int .u64 a0, .int .u64 a1] w fun e w' => e = .returned (.tuple #[.int .u64 r1, .int .u64 r2]) ∧ Drawn0 w w' := by
 have H : ((bits_Mul64.f a0 a1).bind fun bt131 => (some (bt131.1, bt131.2))) = some (r1, r2) := h
 clear h
 replace H := Option.bind_eq_some_iff.mp H
 obtain ⟨⟨t131, t132⟩, A30, H⟩ := H
 replace H : (some (t131, t132)) = some (r1, r2) := H
 have A3 := Aside0.mk A30
 clear A30
 as_aux_lemma =>
  simp only [Option.some.injEq, Prod.mk.injEq] at H
  obtain ⟨rfl, rfl⟩ := H
  go_enter Try.func57, Try.ntmps57
  go_wp2_with (first | ((with_reducible refine gate_callee (f := 62) rfl ?_); refine goesL_ (some 25) rfl rfl Try.func62 (by kernel_rfl) rfl #[.int .u64 a0, .int .u64 a1] rfl (by (try simp only [List.map_toArray, List.map_cons, List.map_nil]); first | done | rfl | (simp only [List.length_drop, List.length_take]; rfl)) ?_; (with_reducible refine (bits_Mul64.calls a0 a1 t131 t132 _ A3.out).mono ?_); rintro e w' ⟨rfl, ⟨nd, rfl⟩⟩; refine ⟨_, rfl, ?_⟩))
  go_ret2
  exact ⟨by first | rfl | (simp; done) | (simp [*]; done), by repeat (first|exact Drawn0.refl _|apply Drawn0.step)⟩

/-! ### slices_Repeat_fix_F_fix_F: function 38 -/
theorem slices_Repeat_fix_F_fix_F.mul64 (x y : Nat) (hx : x < 18446744073709551616) (hy : y < 18446744073709551616) :
    bits_Mul64.f (x : Int) (y : Int) = some (((x * y / 18446744073709551616 : Nat) : Int), ((x * y % 18446744073709551616 : Nat) : Int)) := by
  obtain ⟨bd, bt, bw, hhi⟩ := Lib.mul64_hi x y hx hy
  have ba := Lib.half_mul_le (a := x / 4294967296) (b := y / 4294967296) (by omega) (by omega)
  have bb := Lib.half_mul_le (a := x / 4294967296) (b := y % 4294967296) (by omega) (by omega)
  have bc := Lib.half_mul_le (a := x % 4294967296) (b := y / 4294967296) (by omega) (by omega)
  have ba' : x / 4294967296 * (y / 4294967296) < 18446744073709551616 := by omega
  have bb' : x / 4294967296 * (y % 4294967296) < 18446744073709551616 := by omega
  have bc' : x % 4294967296 * (y / 4294967296) < 18446744073709551616 := by omega
  have bh1 : x / 4294967296 * (y / 4294967296) + (x / 4294967296 * (y % 4294967296) + x % 4294967296 * (y % 4294967296) / 4294967296) / 4294967296 < 18446744073709551616 := by omega
  have bh : x / 4294967296 * (y / 4294967296) + (x / 4294967296 * (y % 4294967296) + x % 4294967296 * (y % 4294967296) / 4294967296) / 4294967296 + ((x / 4294967296 * (y % 4294967296) + x % 4294967296 * (y % 4294967296) / 4294967296) % 4294967296 + x % 4294967296 * (y / 4294967296)) / 4294967296 < 18446744073709551616 := by omega
  unfold bits_Mul64.f
  simp only [Mul64.maskN x hx, Mul64.maskN y hy, Mul64.divN, Mul64.mulN, Mul64.addN, Mul64.wrapN _ bd, Mul64.wrapN _ bb', Mul64.wrapN _ bt, Mul64.maskN _ bt, Mul64.wrapN _ bc', Mul64.wrapN _ bw, Mul64.wrapN _ ba', Mul64.wrapN _ bh1, Mul64.wrapN _ bh, Mul64.wrapM (x * y)]
  rw [hhi]
theorem slices_Repeat_fix_F_fix_F.mul1 (n : Nat) (hn : n ≤ 1099511627776) : bits_Mul.f 1 (n : Int) = some (0, (n : Int)) := by
  have h := slices_Repeat_fix_F_fix_F.mul64 1 n (by omega) (by omega)
  rw [Nat.one_mul, Nat.div_eq_of_lt (by omega), Nat.mod_eq_of_lt (by omega)] at h
  unfold bits_Mul.f
  rw [show ((1 : Nat) : Int) = 1 from rfl] at h
  rw [h]; rfl
def slices_Repeat_fix_F_fix_F.reps (m n : Nat) (x : Int) : List Value := List.replicate m (Value.int .i64 x) ++ List.replicate (n - m) (Value.int .i64 0)
theorem slices_Repeat_fix_F_fix_F.repsLen (m n : Nat) (x : Int) (h : m ≤ n) : (slices_Repeat_fix_F_fix_F.reps m n x).length = n := by simp [slices_Repeat_fix_F_fix_F.reps]; omega
theorem slices_Repeat_fix_F_fix_F.repsSplice (m n c : Nat) (x : Int) (h : m + c ≤ n) : splice (slices_Repeat_fix_F_fix_F.reps m n x) m (List.replicate c (Value.int .i64 x)) = slices_Repeat_fix_F_fix_F.reps (m + c) n x := by
  unfold splice slices_Repeat_fix_F_fix_F.reps
  rw [List.take_left' (by simp), List.length_replicate, ← List.append_assoc, List.replicate_append_replicate]
  congr 1
  rw [List.drop_append, List.drop_eq_nil_of_le (by simp), List.nil_append, List.drop_replicate]
  congr 1
  simp; omega
theorem slices_Repeat_fix_F_fix_F.src (wr : World) (g m n : Nat) (x : Int) (hmn : m ≤ n) (hg : wr.heap[g]? = some (.cells (slices_Repeat_fix_F_fix_F.reps m n x).toArray 27 (0, 0))) : ∀ j v, (List.replicate (min m (n - m)) (Value.int .i64 x))[j]? = some v → wr.cell? ((⟨g, 0, none⟩ : Addr).add j) = some v := by
  intro j v hj
  obtain ⟨hj1, hj2⟩ := List.getElem?_eq_some_iff.1 hj
  simp only [List.length_replicate] at hj1
  simp at hj2
  subst hj2
  have e := blk_cell hg j
  rw [Addr.add_lit, Nat.zero_add, e]
  rw [List.getElem?_toArray]
  unfold slices_Repeat_fix_F_fix_F.reps
  rw [List.getElem?_append_left (by simp; omega), List.getElem?_replicate, if_pos (by omega)]
def slices_Repeat_fix_F_fix_F.f (l0 : List Int) (a1 : Int) : Option (List Int) := if l0.length = 1 then (if 0 ≤ a1 then (if a1 ≤ 1099511627776 then some (List.replicate a1.toNat (rd l0 0)) else none) else none) else none
set_option maxHeartbeats 8000000 in
set_option maxRecDepth 100000 in
theorem slices_Repeat_fix_F_fix_F.calls (A0 : Option Addr) (c0 : Nat) (l0 : List Int) (a1 : Int) (r : List Int) (w : World) (hr0 : Kd.C (Kd.int .i64) w A0 l0.length l0) (hc0 : l0.length ≤ c0) (h : slices_Repeat_fix_F_fix_F.f l0 a1 = some r) :
    Calls Try.prog 38 #[.slice A0 l0.length c0, .int .i64 a1] w fun e w' => ∃ v0_ : Value, e = .returned (v0_) ∧ Kd.R (Kd.int .i64) 27 w' w.heap.size (fun _ => True) v0_ r ∧ Below w.heap.size w w' := by
  unfold slices_Repeat_fix_F_fix_F.f at h
  by_cases h1 : l0.length = 1
  · rw [if_pos h1] at h
    by_cases h2 : 0 ≤ a1
    · rw [if_pos h2] at h
      by_cases h3 : a1 ≤ 1099511627776
      · rw [if_pos h3] at h
        obtain rfl := Option.some.inj h
        clear h
        obtain ⟨ad, rfl, hx⟩ := Kd.at_int hr0 0 (by omega) (by omega)
        obtain ⟨n, rfl⟩ := Int.eq_ofNat_of_zero_le h2
        have hn : n ≤ 1099511627776 := by omega
        rw [h1] at hr0 hc0 ⊢
        generalize rd l0 0 = x at hx ⊢
        clear hr0 h2 h3 h1
        have hm := slices_Repeat_fix_F_fix_F.mul1 n hn
        have hM := Aside0.mk hm
        have hX := Aside0.mk hx
        clear hm hx
        have hmk := print_make_int (P := Try.prog) 24 27 (.int .i64 0) 8 Try.underlying24 info27 rfl (by decide) (n : Int) (by omega) (by simp; omega)
        simp only [Int.toNat_natCast] at hmk
        have hlen : (List.replicate (min 1 n) (Value.int .i64 x)).length = Nat.min 1 n := by simp
        have hL := Aside0.mk hlen
        clear hlen
        have b1 : decide ((n : Int) < 0) = false := by simp
        have b2 : decide (9223372036854775807 < (n : Int)) = false := by simp; omega
        have hsz : (Try.prog.info? 27).map (·.size) = some 1 := by
          obtain ⟨i0, hi0, h0, h1, h2⟩ := info_parts info27
          rw [hi0]; simp [h1]
        have hcp : ∀ nd, ∃ W', (Builtin.copy_ #[24, 24] 3 #[.slice (some ⟨w.heap.size, 0, none⟩) n n, .slice (some ad) 1 c0]).run Try.prog ((w.drewN nd).alloc (.cells (madeCells #[.int .i64 0] n) 27)) = .ok (goInt (min 1 n : Nat)) W' ∧ Aside0 (W'.heap[w.heap.size]? = some (.cells (slices_Repeat_fix_F_fix_F.reps (min 1 n) n x).toArray 27 (0, 0))) ∧ Aside0 (Below w.heap.size w W') := by
          intro nd
          have hc := hX.out
          have hg0 : ((w.drewN nd).alloc (.cells (madeCells #[.int .i64 0] n) 27)).heap[w.heap.size]? = some (.cells (madeCells #[.int .i64 0] n) 27 (0, 0)) := by
            show (w.heap.push _)[w.heap.size]? = _
            simp
          have hB0 : Below w.heap.size w ((w.drewN nd).alloc (.cells (madeCells #[.int .i64 0] n) 27)) := below_alloc (pw_below_drewN (Below.refl _ _) _) _
          have hr := run_copy_row Try.prog _ 24 24 3 27 w.heap.size 0 n n ad 1 c0 (madeCells #[.int .i64 0] n) 27 (List.replicate (min 1 n) (.int .i64 x)) Try.underlying24 hsz hg0 (by simp) (by
            intro j v hj
            obtain ⟨hj1, hj2⟩ := List.getElem?_eq_some_iff.1 hj
            simp only [List.length_replicate] at hj1
            obtain rfl : j = 0 := by omega
            simp at hj2
            rw [← hj2]
            exact (hB0.cell (World.block_lt_of_cell? w _ hc)).trans hc) (by simp [size_madeCells]; omega) (by intro v hv; rw [List.eq_of_mem_replicate hv]; rfl)
          rw [List.length_replicate, Nat.zero_add] at hr
          refine ⟨_, hr, ⟨?_⟩, ⟨below_setRow hB0 (Nat.le_refl _) _⟩⟩
          rw [setRow_heap _ _ _ _ _ _ hg0, toList_madeCells_one]
          congr 3
          simp only [slices_Repeat_fix_F_fix_F.reps, List.take_zero, List.nil_append, List.drop_replicate]
        go_enter Try.func38, Try.ntmps38
        go_wp2_with (first | ((with_reducible refine gate_callee (f := 57) rfl ?_); refine goesL_ (some 18) rfl rfl Try.func57 (by kernel_rfl) rfl #[.int .u64 1, .int .u64 (n : Int)] rfl (by (try simp only [List.map_toArray, List.map_cons, List.map_nil]); first | done | rfl) ?_; (with_reducible refine (bits_Mul.calls 1 (n : Int) 0 (n : Int) _ hM.out).mono ?_); rintro e w' ⟨rfl, ⟨nd, rfl⟩⟩; refine ⟨_, rfl, ?_⟩; obtain ⟨W1, hw1, HG, HB⟩ := hcp nd) | simp only [hw1])
        go_loopw [8] (fun v8 w' => ∃ m : Nat, m ≤ n ∧ (1 ≤ n → 1 ≤ m) ∧ v8 = .int .i64 (m : Int) ∧ Aside0 (w'.heap[w.heap.size]? = some (.cells (slices_Repeat_fix_F_fix_F.reps m n x).toArray 27 (0, 0))) ∧ Aside0 (Below w.heap.size w w')) (fun v8 w' => ((n : Int) - (match v8 with | .int _ m => m | _ => 0)).toNat)
        case atStart => exact ⟨min 1 n, by omega, by omega, rfl, HG, HB⟩
        case round =>
          obtain ⟨m, hmn, hm1, rfl, HG', HB'⟩ := hrel
          clear HG HB hcp hw1 W1
          by_cases hlt : m < n
          · have hd : decide ((m : Int) < (n : Int)) = true := by simp; omega
            go_wp2
            have hl2 : (slices_Repeat_fix_F_fix_F.reps m n x).length = n := slices_Repeat_fix_F_fix_F.repsLen m n x hmn
            have hc2 : ¬ (n = m) := by omega
            have hb5 : (0 : Int) ≤ (m : Int) := by omega
            have hb6 : (m : Int) ≤ (n : Int) := by omega
            have hb7 : m ≤ n := by omega
            have hsrc := slices_Repeat_fix_F_fix_F.src wr w.heap.size m n x hmn HG'.out
            have hmin : m.min (n - m) = min m (n - m) := rfl
            have hnew : IntKind.i64.wrap ((m : Int) + ((m.min (n - m) : Nat) : Int)) = ((m + min m (n - m) : Nat) : Int) := by rw [IntKind.wrap_i64, hmin]; omega
            have hnew2 : IntKind.i64.wrap ((m : Int) + ((min m (n - m) : Nat) : Int)) = ((m + min m (n - m) : Nat) : Int) := hnew
            have hlc : (List.replicate (min m (n - m)) (Value.int .i64 x)).length = Nat.min m (n - m) := by rw [List.length_replicate]
            have hfit : m + (List.replicate (min m (n - m)) (Value.int .i64 x)).length ≤ (slices_Repeat_fix_F_fix_F.reps m n x).length := by rw [hl2, List.length_replicate]; omega
            have hone : ∀ v ∈ List.replicate (min m (n - m)) (Value.int .i64 x), v.oneCell' = true := by intro v hv; rw [List.eq_of_mem_replicate hv]; rfl
            go_region_law (refine step_copy_splice rfl (.tmp 41) (.tmp 44) 24 24 rfl 27 Try.underlying24 (by kernel_rfl) (some ⟨w.heap.size, m, none⟩) (some ⟨w.heap.size, 0, none⟩) (n - m) (n - m) m n rfl rfl w.heap.size m (slices_Repeat_fix_F_fix_F.reps m n x) 27 HG'.out (List.replicate (min m (n - m)) (.int .i64 x)) hlc (fun _ => ⟨rfl, _, rfl, hsrc⟩) hfit hone w.heap.size w (below_drew1 HB'.out) (Nat.le_refl _) ?_; intro w4 hg4 hb4)
            all_goals go_wp2
            rw [slices_Repeat_fix_F_fix_F.repsSplice m n (min m (n - m)) x (by omega)] at hg4
            go_roundw
            case measure =>
              have := hm1 (by omega)
              first
              | omega
              | (show Int.toNat ((n : Int) - ((m + min m (n - m) : Nat) : Int)) < Int.toNat ((n : Int) - (m : Int)); omega)
              | (simp only [List.getD_toArray, hnew, hnew2]; omega)
              | (simp; rw [hnew2]; omega)
            case rel =>
              refine ⟨m + min m (n - m), by omega, fun _ => by have := hm1 (by omega); omega, ?_, ⟨hg4.out⟩, ⟨by first | exact hb4 | trivial⟩⟩
              first | rfl | (congr 1; done) | exact congrArg (Value.int .i64) hnew
          · have hd : decide ((m : Int) < (n : Int)) = false := by simp; omega
            go_wp2
            obtain rfl : m = n := by omega
            go_ret
            refine ⟨_, rfl, Kd.R_of_own ?_ (fun _ _ => trivial), HB'.out⟩
            refine ⟨by simp [encs], Or.inr ⟨w.heap.size, m, (slices_Repeat_fix_F_fix_F.reps m m x).toArray, ?_, Nat.le_refl _, HG'.out, ?_, ?_, ?_, ?_⟩⟩
            · rw [List.length_replicate, Int.toNat_natCast]; rfl
            · simp
            · unfold maxLen; omega
            · simp [slices_Repeat_fix_F_fix_F.repsLen m m x (Nat.le_refl _)]
            · simp [encs, slices_Repeat_fix_F_fix_F.reps]
      · rw [if_neg h3] at h; cases h
    · rw [if_neg h2] at h; cases h
  · rw [if_neg h1] at h; cases h

/-! ### tensor_Make_fix_F: function 10 -/
def tensor_Make_fix_F.f (k : Nat) (l0 : List Int) (a1 : Int) : Option (List Int × List Int × Int) := (shape_Shape_Size.f k l0).bind fun bt134 => (if bt134.2 = 0 then ((shape_Shape_Copy.f l0).bind fun t136 => ((slices_Repeat_fix_F_fix_F.f (([a1] : List Int)) bt134.1).bind fun t142 => (some (t136, t142, 0)))) else (some (([] : List Int), ([] : List Int), bt134.2)))
theorem tensor_Make_fix_F.mono : ∀ a0 a1 k, LeO (tensor_Make_fix_F.f k a0 a1) (tensor_Make_fix_F.f (k + 1) a0 a1) := by
 intro a0 a1 k
 unfold tensor_Make_fix_F.f
 repeat' first
   | (with_reducible exact shape_Shape_Size.mono _ _)
   | (with_reducible exact LeO.refl _)
   | (with_reducible exact LeO.none _)
   | (with_reducible refine LeO.ite ?_ ?_)
   | (with_reducible refine LeO.bind ?_ (fun _ => ?_))
   | exact shape_Shape_Size.mono _ _
   | exact LeO.none _
   | refine LeO.ite ?_ ?_
   | refine LeO.bind ?_ (fun _ => ?_)
set_option maxHeartbeats 8000000 in
set_option maxRecDepth 100000 in
theorem tensor_Make_fix_F.calls (k : Nat) (A0 : Option Addr) (c0 : Nat) (l0 : List Int) (a1 : Int) (r1 : List Int) (r2 : List Int) (r3 : Int) (w : World) (hr0 : Kd.C (Kd.int .i64) w A0 l0.length l0) (hc0 : l0.length ≤ c0) (h : tensor_Make_fix_F.f k l0 a1 = some (r1, r2, r3)) :
  Calls Try.prog 10 #[.slice A0 l0.length c0, .int .i64 a1] w fun e w' => ∃ v0_ v1_ : Value, e = .returned (.tuple #[.agg #[v0_, v1_], .int .i64 r3]) ∧ Kd.R (Kd.int .i64) 3 w' w.heap.size (fun _ => True) v0_ r1 ∧ Kd.R (Kd.int .i64) 27 w' w.heap.size (fun _ => True) v1_ r2 ∧ Below w.heap.size w w' := by
 have hu26 := Try.underlying26
 have HR0 := Aside0.mk hr0
 have HC0 := Aside0.mk hc0
 clear hr0 hc0
 have HB := aM (Below.refl w.heap.size w)
 have H : ((shape_Shape_Size.f k l0).bind fun bt134 => (if bt134.2 = 0 then ((shape_Shape_Copy.f l0).bind fun t136 => ((slices_Repeat_fix_F_fix_F.f (([a1] : List Int)) bt134.1).bind fun t142 => (some (t136, t142, 0)))) else (some (([] : List Int), ([] : List Int), bt134.2)))) = some (r1, r2, r3) := h
 clear h
 replace H := Option.bind_eq_some_iff.mp H
 obtain ⟨⟨t134, t135⟩, A30, H⟩ := H
 replace H : (if t135 = 0 then ((shape_Shape_Copy.f l0).bind fun t136 => ((slices_Repeat_fix_F_fix_F.f (([a1] : List Int)) t134).bind fun t142 => (some (t136, t142, 0)))) else (some (([] : List Int), ([] : List Int), t135))) = some (r1, r2, r3) := H
 have A3 := Aside0.mk A30
 clear A30
 by_cases c4 : t135 = 0
 ·rw [if_pos c4] at H
  have c4b0 : (t135 == 0) = true := beq_iff_eq.mpr c4
  have c4b1 : (t135 != 0) = false := bne_eq_false_iff_eq.mpr c4
  clear c4
  replace H := Option.bind_eq_some_iff.mp H
  obtain ⟨t136, A50, H⟩ := H
  replace H : ((slices_Repeat_fix_F_fix_F.f (([a1] : List Int)) t134).bind fun t142 => (some (t136, t142, 0))) = some (r1, r2, r3) := H
  have A5 := Aside0.mk A50
  clear A50
  obtain ⟨y139, hy139⟩ : ∃ y_ : List Int, y_ = (([a1] : List Int)) := ⟨_, rfl⟩
  replace H : ((slices_Repeat_fix_F_fix_F.f y139 t134).bind fun t142 => (some (t136, t142, 0))) = some (r1, r2, r3) := by first | (rw [hy139]; with_reducible exact H) | (have H2_ := (Option.bind_some _ _).symm.trans H; rw [hy139]; with_reducible exact H2_) | (have H2_ := (Option.bind_some _ _).symm.trans H; with_reducible exact H2_) | with_reducible exact H | (rw [hy139]; exact H)|exact H
  have Ny139 := Aside0.mk hy139
  clear hy139
  replace H := Option.bind_eq_some_iff.mp H
  obtain ⟨t142, A60, H⟩ := H
  replace H : (some (t136, t142, 0)) = some (r1, r2, r3) := H
  have A6 := Aside0.mk A60
  clear A60
  as_aux_lemma =>
   simp only [Option.some.injEq, Prod.mk.injEq] at H
   obtain ⟨rfl, rfl, rfl⟩ := H
   go_enter Try.func10, Try.ntmps10
   go_wp2_with (first | ((with_reducible refine gate_dst (N := 4) rfl ?_); refine box_event ?hg (N := 4) ?hd (cs := #[.slice none 0 0, .slice none 0 0]) (t := 26) ?hr ?_; (case hd => rfl); (case hg => rfl); (case hr => first | (go_simp; done) | (go_simp; rfl)); intro gb133 hg w7 hbox hb; have n0_ := aM (below_step (by repeat (first | (with_reducible first|exact HB.out|apply bA|apply bN|apply bD)|exact HB.out)) hb); have n1_ := aM (hbox); have n2_ := aM ((by rw [hg]; exact (below_size (by repeat (first | (with_reducible first|exact HB.out|apply bA|apply bN|apply bD)|exact HB.out))) : w.heap.size ≤ gb133)); have n3_ := aM ((by rw [hg]; exact (below_size (by repeat (first | (with_reducible first|exact HB.out|apply bA|apply bN|apply bD)|exact HB.out))) : w.heap.size ≤ gb133)); clear HB; have HB := n0_; have BK133 := n1_; have GW133 := n2_; have GE133 := n3_; clear n0_ n1_ n2_ n3_; clear hb hbox hg) | ((with_reducible refine gate_callee (f := 36) rfl ?_); refine goesL_ (some 10) rfl rfl Try.func36 (by kernel_rfl) rfl #[.slice A0 l0.length c0] rfl (by (try simp only [List.map_toArray, List.map_cons, List.map_nil]); first | done | rfl | (simp only [List.length_drop, List.length_take]; rfl)) ?_; (with_reducible refine (shape_Shape_Size.calls k _ _ l0 t134 t135 _ ?side1 ?side2 A3.out).mono ?_); (case side1 => repeat (first|exact (Kd.C_below HR0.out HB.out) | with_reducible first|apply cA|apply cN|apply cD)); (case side2 => exact HC0.out); rintro e w' ⟨rfl, ⟨nd, rfl⟩⟩; refine ⟨_, rfl, ?_⟩; (try (rw [drewN_self w7]; generalize hq_ : World.drewN w7 _ = w7; have n0_ : Aside0 (w7.heap[gb133]? = some (.cells #[.slice none 0 0, .slice none 0 0] 26 (0, 0))) := ⟨by rw [← hq_]; exact (by (with_reducible repeat (first|apply kN|apply kD|apply kA)); exact BK133.out)⟩; have n1_ : Aside0 (Below w.heap.size w w7) := ⟨by rw [← hq_]; exact (by repeat (first | (with_reducible first|exact HB.out|apply bA|apply bN|apply bD|refine bS ?_ GE133.out)|exact HB.out))⟩; clear BK133 HB hq_; have BK133 := n0_; have HB := n1_; clear n0_ n1_))) | ((with_reducible refine gate_callee (f := 37) rfl ?_); refine goesL_ (some 18) rfl rfl Try.func37 (by kernel_rfl) rfl #[.slice A0 l0.length c0] rfl (by (try simp only [List.map_toArray, List.map_cons, List.map_nil]); first | done | rfl | (simp only [List.length_drop, List.length_take]; rfl)) ?_; (with_reducible refine (shape_Shape_Copy.calls _ _ l0 t136 _ ?side1 ?side2 A5.out).mono ?_); (case side1 => repeat (first|exact (Kd.C_below HR0.out HB.out) | with_reducible first|apply cA|apply cN|apply cD)); (case side2 => exact HC0.out); rintro e w8 ⟨v137, rfl, ho0, hb⟩; refine ⟨_, rfl, ?_⟩; have n0_ := aM (Kd.R_lower ho0 (below_size (by repeat (first | (with_reducible first|exact HB.out|apply bA|apply bN|apply bD|refine bS ?_ GE133.out)|exact HB.out)))); have n1_ := aM (blk_below (g := gb133) (o := .cells #[.slice none 0 0, .slice none 0 0] 26 (0, 0)) (by (with_reducible repeat (first|apply kN|apply kD|apply kA)); exact BK133.out) hb); have n2_ := aM (below_step (by repeat (first | (with_reducible first|exact HB.out|apply bA|apply bN|apply bD|refine bS ?_ GE133.out)|exact HB.out)) hb); clear BK133; clear HB; have HO138 := n0_; have BK133 := n1_; have HB := n2_; clear n0_ n1_ n2_; (try clear hb); (try clear ho0)) | ((with_reducible refine gate_dst (N := 20) rfl ?_); refine Kd.R_lit (Kd.int .i64) _ 27 ?hg (N := 20) ?hd (xs := ([a1] : List Int)) (inner := [.int .i64 a1]) (ok := fun _ => True) (okp := fun _ => True) ?hr ?hp (fun _ hk => hk) trivial (Below.refl _ _) (Nat.le_refl _) (by simp) ?_; (case hd => rfl); (case hg => rfl); (case hr => first | (go_simp; done) | (go_simp; rfl)); (case hp => exact (Reps.one (show Kd.M (Kd.int .i64) _ _ _ a1 [.int .i64 a1] from rfl) (Reps.none _ _))); intro v140 w9 ho10 hb hg_ hnew_; clear hg_ hnew_; (first | rw [← Ny139.out] at ho10 | (simp only [Int.reduceToNat] at ho10; rw [← Ny139.out] at ho10)); have n0_ := aM (Kd.R_below (by (with_reducible repeat (first|apply rA|apply rN|apply rD)); exact HO138.out) hb); have n1_ := aM (Kd.R_lower ho10 (below_size (by repeat (first | (with_reducible first|exact HB.out|apply bA|apply bN|apply bD|refine bS ?_ GE133.out)|exact HB.out)))); have n2_ := aM (blk_below (g := gb133) (o := .cells #[.slice none 0 0, .slice none 0 0] 26 (0, 0)) (by (with_reducible repeat (first|apply kN|apply kD|apply kA)); exact BK133.out) hb); have n3_ := aM (below_step (by repeat (first | (with_reducible first|exact HB.out|apply bA|apply bN|apply bD|refine bS ?_ GE133.out)|exact HB.out)) hb); clear HO138; clear BK133; clear HB; have HO138 := n0_; have HO141 := n1_; have BK133 := n2_; have HB := n3_; clear n0_ n1_ n2_ n3_; clear hb ho10; obtain ⟨Ao11, co11, eo11⟩ := Kd.R_slice HO141.out; subst eo11) | ((with_reducible refine gate_callee (f := 38) rfl ?_); refine goesL_ (some 22) rfl rfl Try.func38 (by kernel_rfl) rfl #[.slice Ao11 y139.length co11, .int .i64 t134] rfl (by (try simp only [List.map_toArray, List.map_cons, List.map_nil]); first | done | rfl | (simp only [List.length_drop, List.length_take]; rfl)) ?_; (with_reducible refine (slices_Repeat_fix_F_fix_F.calls _ _ y139 t134 t142 _ ?side1 ?side2 A6.out).mono ?_); (case side1 => repeat (first|exact (Kd.R_reads' HO141.out).2.2 | with_reducible first|apply cA|apply cN|apply cD)); (case side2 => exact (Kd.R_reads' HO141.out).2.1); rintro e w12 ⟨v143, rfl, ho0, hb⟩; refine ⟨_, rfl, ?_⟩; have n0_ := aM (Kd.R_below (by (with_reducible repeat (first|apply rA|apply rN|apply rD)); exact HO138.out) hb); have n1_ := aM (Kd.R_elder' (by (with_reducible repeat (first|apply rA|apply rN|apply rD)); exact HO141.out) (Kd.R_base ho0) hb); have n2_ := aM (Kd.R_lower (Kd.R_new' ho0 (Kd.R_lt (by (with_reducible repeat (first|apply rA|apply rN|apply rD)); exact HO141.out))) (below_size (by repeat (first | (with_reducible first|exact HB.out|apply bA|apply bN|apply bD|refine bS ?_ GE133.out)|exact HB.out)))); have n3_ := aM (blk_below (g := gb133) (o := .cells #[.slice none 0 0, .slice none 0 0] 26 (0, 0)) (by (with_reducible repeat (first|apply kN|apply kD|apply kA)); exact BK133.out) hb); have n4_ := aM (below_step (by repeat (first | (with_reducible first|exact HB.out|apply bA|apply bN|apply bD|refine bS ?_ GE133.out)|exact HB.out)) hb); clear HO138; clear HO141; clear BK133; clear HB; have HO138 := n0_; have HO141 := n1_; have HO144 := n2_; have BK133 := n3_; have HB := n4_; clear n0_ n1_ n2_ n3_ n4_; (try clear hb); (try clear ho0); obtain ⟨Ao13, co13, eo13⟩ := Kd.R_slice HO144.out; subst eo13; obtain ⟨Ao14, co14, eo14⟩ := Kd.R_slice HO138.out; subst eo14; have hcz15_0 : w12.cell? ⟨gb133, 0, none⟩ = some (.slice none 0 0) := (blk_cell BK133.out 0).trans rfl; have hcz15_1 : w12.cell? ⟨gb133, 1, none⟩ = some (.slice none 0 0) := (blk_cell BK133.out 1).trans rfl; have hfz15_0 := blk_frozen BK133.out 0; have hfz15_1 := blk_frozen BK133.out 1))
   refine bodyPost_ret (results_ct rfl _ _ gb133 26 #[.slice Ao14 t136.length co14, .slice Ao13 t142.length co13] (0, 0) _ rfl (by (with_reducible repeat (first|apply kN|apply kD|apply kA)); refine blk_put (cs := #[.slice Ao14 t136.length co14, .slice none 0 0]) ?_ 1 _ rfl; (with_reducible repeat (first|apply kN|apply kD|apply kA)); refine blk_put (cs := #[.slice none 0 0, .slice none 0 0]) ?_ 0 _ rfl; (with_reducible repeat (first|apply kN|apply kD|apply kA)); exact BK133.out) Try.underlying26 rfl (by kernel_rfl)) rfl ?_
   exact ⟨_, _, by first | rfl | (simp [errW_none, errW_some] <;> rfl) | (simp [*, errW_none, errW_some] <;> rfl), by (with_reducible repeat (first|apply rA|apply rN|apply rD)); exact Kd.R_mono (Kd.R_far (p := ⟨gb133, 1, none⟩) (Kd.R_far (p := ⟨gb133, 0, none⟩) (Kd.R_types HO138.out BK133.out (by decide)) (fun _ hk => hk.2) (.slice Ao14 t136.length co14)) (fun _ hk => hk.2) (.slice Ao13 t142.length co13)) (fun _ hk => trivial), by (with_reducible repeat (first|apply rA|apply rN|apply rD)); exact Kd.R_mono (Kd.R_far (p := ⟨gb133, 1, none⟩) (Kd.R_far (p := ⟨gb133, 0, none⟩) (Kd.R_types HO144.out BK133.out (by decide)) (fun _ hk => hk.2) (.slice Ao14 t136.length co14)) (fun _ hk => hk.2) (.slice Ao13 t142.length co13)) (fun _ hk => trivial), by repeat (first | (with_reducible first|exact HB.out|apply bA|apply bN|apply bD|refine bS ?_ GE133.out)|exact HB.out)⟩
 ·rw [if_neg c4] at H
  have c4b0 : (t135 == 0) = false := beq_eq_false_iff_ne.mpr c4
  have c4b1 : (t135 != 0) = true := bne_iff_ne.mpr c4
  as_aux_lemma =>
   simp only [Option.some.injEq, Prod.mk.injEq] at H
   obtain ⟨rfl, rfl, rfl⟩ := H
   go_enter Try.func10, Try.ntmps10
   go_wp2_with (first | ((with_reducible refine gate_dst (N := 4) rfl ?_); refine box_event ?hg (N := 4) ?hd (cs := #[.slice none 0 0, .slice none 0 0]) (t := 26) ?hr ?_; (case hd => rfl); (case hg => rfl); (case hr => first | (go_simp; done) | (go_simp; rfl)); intro gb133 hg w16 hbox hb; have n0_ := aM (below_step (by repeat (first | (with_reducible first|exact HB.out|apply bA|apply bN|apply bD)|exact HB.out)) hb); have n1_ := aM (hbox); have n2_ := aM ((by rw [hg]; exact (below_size (by repeat (first | (with_reducible first|exact HB.out|apply bA|apply bN|apply bD)|exact HB.out))) : w.heap.size ≤ gb133)); have n3_ := aM ((by rw [hg]; exact (below_size (by repeat (first | (with_reducible first|exact HB.out|apply bA|apply bN|apply bD)|exact HB.out))) : w.heap.size ≤ gb133)); clear HB; have HB := n0_; have BK133 := n1_; have GW133 := n2_; have GE133 := n3_; clear n0_ n1_ n2_ n3_; clear hb hbox hg) | ((with_reducible refine gate_callee (f := 36) rfl ?_); refine goesL_ (some 10) rfl rfl Try.func36 (by kernel_rfl) rfl #[.slice A0 l0.length c0] rfl (by (try simp only [List.map_toArray, List.map_cons, List.map_nil]); first | done | rfl | (simp only [List.length_drop, List.length_take]; rfl)) ?_; (with_reducible refine (shape_Shape_Size.calls k _ _ l0 t134 t135 _ ?side1 ?side2 A3.out).mono ?_); (case side1 => repeat (first|exact (Kd.C_below HR0.out HB.out) | with_reducible first|apply cA|apply cN|apply cD)); (case side2 => exact HC0.out); rintro e w' ⟨rfl, ⟨nd, rfl⟩⟩; refine ⟨_, rfl, ?_⟩; (try (rw [drewN_self w16]; generalize hq_ : World.drewN w16 _ = w16; have n0_ : Aside0 (w16.heap[gb133]? = some (.cells #[.slice none 0 0, .slice none 0 0] 26 (0, 0))) := ⟨by rw [← hq_]; exact (by (with_reducible repeat (first|apply kN|apply kD|apply kA)); exact BK133.out)⟩; have n1_ : Aside0 (Below w.heap.size w w16) := ⟨by rw [← hq_]; exact (by repeat (first | (with_reducible first|exact HB.out|apply bA|apply bN|apply bD|refine bS ?_ GE133.out)|exact HB.out))⟩; clear BK133 HB hq_; have BK133 := n0_; have HB := n1_; clear n0_ n1_)); have hcz17_0 : w16.cell? ⟨gb133, 0, none⟩ = some (.slice none 0 0) := (blk_cell BK133.out 0).trans rfl; have hcz17_1 : w16.cell? ⟨gb133, 1, none⟩ = some (.slice none 0 0) := (blk_cell BK133.out 1).trans rfl; have hfz17_0 := blk_frozen BK133.out 0; have hfz17_1 := blk_frozen BK133.out 1))
   refine bodyPost_ret (results_ct rfl _ _ gb133 26 #[.slice none 0 0, .slice none 0 0] (0, 0) _ rfl (by (with_reducible repeat (first|apply kN|apply kD|apply kA)); refine blk_put (cs := #[.slice none 0 0, .slice none 0 0]) ?_ 1 _ rfl; (with_reducible repeat (first|apply kN|apply kD|apply kA)); refine blk_put (cs := #[.slice none 0 0, .slice none 0 0]) ?_ 0 _ rfl; (with_reducible repeat (first|apply kN|apply kD|apply kA)); exact BK133.out) Try.underlying26 rfl (by kernel_rfl)) rfl ?_
   exact ⟨_, _, by first | rfl | (simp [errW_none, errW_some] <;> rfl) | (simp [*, errW_none, errW_some] <;> rfl), by first|exact Kd.R_nil _ _ _ _ _|exact Kd.N_nil _ _ _ _ _|exact Kd.V_nil _ _ _ _ _|exact Kd.Q_nil _ _ _ _ _|exact Kd.S_nil _ _ _ _ _, by first|exact Kd.R_nil _ _ _ _ _|exact Kd.N_nil _ _ _ _ _|exact Kd.V_nil _ _ _ _ _|exact Kd.Q_nil _ _ _ _ _|exact Kd.S_nil _ _ _ _ _, by repeat (first | (with_reducible first|exact HB.out|apply bA|apply bN|apply bD|refine bS ?_ GE133.out)|exact HB.out)⟩

/-! ### slices_Clone_fix_F_fix_F: function 39 -/
def slices_Clone_fix_F_fix_F.f (l0 : List Int) : Option (List Int) := (some (([] : List Int) : List Int)).bind fun y145 => (if y145.length + l0.length < 17592186044416 then (some (y145 ++ l0)) else (none))
set_option maxHeartbeats 8000000 in
set_option maxRecDepth 100000 in
theorem slices_Clone_fix_F_fix_F.calls (A0 : Option Addr) (c0 : Nat) (l0 : List Int) (r : List Int) (w : World) (hr0 : Kd.C (Kd.int .i64) w A0 l0.length l0) (hc0 : l0.length ≤ c0) (h : slices_Clone_fix_F_fix_F.f l0 = some r) :
  Calls Try.prog 39 #[.slice A0 l0.length c0] w fun e w' => ∃ v0_ : Value, e = .returned (v0_) ∧ Kd.R (Kd.int .i64) 27 w' w.heap.size (fun _ => True) v0_ r ∧ Below w.heap.size w w' := by
 have HR0 := Aside0.mk hr0
 have HC0 := Aside0.mk hc0
 clear hr0 hc0
 have HB := aM (Below.refl w.heap.size w)
 have H : ((some (([] : List Int) : List Int)).bind fun y145 => (if y145.length + l0.length < 17592186044416 then (some (y145 ++ l0)) else (none))) = some r := h
 clear h
 by_cases cN2 : A0.isNone = true
 ·have hqcN2 := fun (W : World) => (Lib.run_eql_slice_nil (P := Try.prog) W 24 27 A0 l0.length c0 0 0 Try.underlying24).trans (by rw [cN2])
  have hlcN2 : l0 = [] := C_isNil HR0.out cN2
  replace H : (some ([] : List Int)) = some r := by rw [hlcN2] at H; simpa using H
  clear hlcN2
  clear cN2
  as_aux_lemma =>
   obtain rfl := Option.some.inj H
   go_enter Try.func39, Try.ntmps39
   go_wp2
   go_ret
   exact ⟨_, by first | rfl | (simp [errW_none, errW_some] <;> rfl) | (simp [*, errW_none, errW_some] <;> rfl), by first|exact Kd.R_nil _ _ _ _ _|exact Kd.N_nil _ _ _ _ _|exact Kd.V_nil _ _ _ _ _|exact Kd.Q_nil _ _ _ _ _|exact Kd.S_nil _ _ _ _ _, by repeat (first | (with_reducible first|exact HB.out|apply bA|apply bN|apply bD)|exact HB.out)⟩
 ·have hqcN2 := fun (W : World) => (Lib.run_eql_slice_nil (P := Try.prog) W 24 27 A0 l0.length c0 0 0 Try.underlying24).trans (by rw [(Bool.not_eq_true _).mp cN2])
  clear cN2
  obtain ⟨y145, hy145⟩ : ∃ y_ : List Int, y_ = (([] : List Int)) := ⟨_, rfl⟩
  replace H : (if y145.length + l0.length < 17592186044416 then (some (y145 ++ l0)) else (none)) = some r := by first | (rw [hy145]; with_reducible exact H) | (have H2_ := (Option.bind_some _ _).symm.trans H; rw [hy145]; with_reducible exact H2_) | (have H2_ := (Option.bind_some _ _).symm.trans H; with_reducible exact H2_) | with_reducible exact H | (rw [hy145]; exact H)|exact H
  have Ny145 := Aside0.mk hy145
  clear hy145
  by_cases c3 : y145.length + l0.length < 17592186044416
  ·rw [if_pos c3] at H
   have LMc3 := Aside0.mk c3
   clear c3
   obtain ⟨y148, hy148⟩ : ∃ y_ : List Int, y_ = (y145 ++ l0) := ⟨_, rfl⟩
   replace H : (some y148) = some r := by first | (rw [hy148]; with_reducible exact H) | (have H2_ := (Option.bind_some _ _).symm.trans H; rw [hy148]; with_reducible exact H2_) | (have H2_ := (Option.bind_some _ _).symm.trans H; with_reducible exact H2_) | with_reducible exact H | (rw [hy148]; exact H)|exact H
   have Ny148 := Aside0.mk hy148
   clear hy148
   as_aux_lemma =>
    obtain rfl := Option.some.inj H
    go_enter Try.func39, Try.ntmps39
    go_wp2_with (first | ((with_reducible refine gate_dst (N := 5) rfl ?_); refine Kd.R_lit (Kd.int .i64) _ 27 ?hg (N := 5) ?hd (xs := ([] : List Int)) (inner := []) (ok := fun _ => True) (okp := fun _ => True) ?hr ?hp (fun _ hk => hk) trivial (Below.refl _ _) (Nat.le_refl _) (by simp) ?_; (case hd => rfl); (case hg => rfl); (case hr => first | (go_simp; done) | (go_simp; rfl)); (case hp => exact (Reps.none _ _)); intro v146 w4 ho5 hb hg_ hnew_; clear hg_ hnew_; (first | rw [← Ny145.out] at ho5 | (simp only [Int.reduceToNat] at ho5; rw [← Ny145.out] at ho5)); have n0_ := aM (Kd.R_lower ho5 (below_size (by repeat (first | (with_reducible first|exact HB.out|apply bA|apply bN|apply bD)|exact HB.out)))); have n1_ := aM (below_step (by repeat (first | (with_reducible first|exact HB.out|apply bA|apply bN|apply bD)|exact HB.out)) hb); clear HB; have HO147 := n0_; have HB := n1_; clear n0_ n1_; clear hb ho5) | ((with_reducible refine gate_builtin (b := .append) (xs := #[.tmp 5, .tmp 6]) rfl ?_); at_builtin; refine Kd.R_append_rows (Kd.int .i64) (w0 := w) w.heap.size rfl (.tmp 5) (.tmp 6) 24 27 (.int .i64 0) 8 rfl Try.underlying24 info27 rfl (by decide) (by omega) v146 y145 l0 _ _ _ (fun _ => True) (fun _ => False) rfl rfl ?aO ?aR (fun _ _ h => h) (fun _ h => h.elim) ?aF ?aB ?aS ?aL ?_; (case aR => repeat (first|exact (Kd.C_below HR0.out HB.out) | with_reducible first|apply cA|apply cN|apply cD)); (case aB => exact (by repeat (first | (with_reducible first|exact HB.out|apply bA|apply bN|apply bD)|exact HB.out))); (case aF => exact (fun _ _ => trivial)); (case aO => exact (by (with_reducible repeat (first|apply rA|apply rN|apply rD)); exact HO147.out)); (case aS => exact (below_size (by repeat (first | (with_reducible first|exact HB.out|apply bA|apply bN|apply bD)|exact HB.out)))); (case aL => have := LMc3.out; omega); intro v149 w6 ho hb hg hat; rw [← Ny148.out] at ho; have n0_ := aM (hb); have n1_ := aM (ho); clear HB; clear HO147; have HB := n0_; have HO150 := n1_; clear n0_ n1_; clear ho hb hg hat))
    go_ret
    exact ⟨_, by first | rfl | (simp [errW_none, errW_some] <;> rfl) | (simp [*, errW_none, errW_some] <;> rfl), by (with_reducible repeat (first|apply rA|apply rN|apply rD)); exact HO150.out, by repeat (first | (with_reducible first|exact HB.out|apply bA|apply bN|apply bD)|exact HB.out)⟩
  ·rw [if_neg c3] at H
   exact absurd H (by simp)

/-! ### tensor_Grid_fix_F_Copy: function 12 -/
def tensor_Grid_fix_F_Copy.f (l0_0 : List Int) (l0_1 : List Int) : Option (List Int × List Int) := (shape_Shape_Copy.f l0_0).bind fun t153 => ((slices_Clone_fix_F_fix_F.f l0_1).bind fun t156 => (some (t153, t156)))
def tensor_Grid_fix_F_Copy.T1 : Bool × List (List Nat × List Nat) := (true, [([], []), ([0], [0]), ([1], [1]), ([], []), ([3], [3]), ([4, 2], [4]), ([2, 5], [2, 5]), ([6, 5, 0, 1, 2, 3, 4, 5, 6], [6])])
def tensor_Grid_fix_F_Copy.B1 : List Nat := [0, 1, 3, 0, 8, 31, 63, 127]
theorem tensor_Grid_fix_F_Copy.tab1 : rtab .any (opsOf Try.f12 1) = tensor_Grid_fix_F_Copy.T1 := by kernel_rfl
theorem tensor_Grid_fix_F_Copy.bits1 : waitsOk tensor_Grid_fix_F_Copy.T1.2 tensor_Grid_fix_F_Copy.B1 = true := by kernel_rfl
set_option maxHeartbeats 8000000 in
set_option maxRecDepth 100000 in
theorem tensor_Grid_fix_F_Copy.calls (A0_0 : Option Addr) (c0_0 : Nat) (l0_0 : List Int) (A0_1 : Option Addr) (c0_1 : Nat) (l0_1 : List Int) (r1 : List Int) (r2 : List Int) (w : World) (hr0_0 : Kd.C (Kd.int .i64) w A0_0 l0_0.length l0_0) (hc0_0 : l0_0.length ≤ c0_0) (hr0_1 : Kd.C (Kd.int .i64) w A0_1 l0_1.length l0_1) (hc0_1 : l0_1.length ≤ c0_1) (h : tensor_Grid_fix_F_Copy.f l0_0 l0_1 = some (r1, r2)) :
  Calls Try.prog 12 #[.agg #[.slice A0_0 l0_0.length c0_0, .slice A0_1 l0_1.length c0_1]] w fun e w' => ∃ v0_ v1_ : Value, e = .returned (.agg #[v0_, v1_]) ∧ Kd.R (Kd.int .i64) 3 w' w.heap.size (fun _ => True) v0_ r1 ∧ Kd.R (Kd.int .i64) 27 w' w.heap.size (fun _ => True) v1_ r2 ∧ Below w.heap.size w w' := by
 have hu26 := Try.underlying26
 have HR0_0 := Aside0.mk hr0_0
 have HC0_0 := Aside0.mk hc0_0
 clear hr0_0 hc0_0
 have HR0_1 := Aside0.mk hr0_1
 have HC0_1 := Aside0.mk hc0_1
 clear hr0_1 hc0_1
 have HB := aM (Below.refl w.heap.size w)
 have H : ((shape_Shape_Copy.f l0_0).bind fun t153 => ((slices_Clone_fix_F_fix_F.f l0_1).bind fun t156 => (some (t153, t156)))) = some (r1, r2) := h
 clear h
 replace H := Option.bind_eq_some_iff.mp H
 obtain ⟨t153, A20, H⟩ := H
 replace H : ((slices_Clone_fix_F_fix_F.f l0_1).bind fun t156 => (some (t153, t156))) = some (r1, r2) := H
 have A2 := Aside0.mk A20
 clear A20
 replace H := Option.bind_eq_some_iff.mp H
 obtain ⟨t156, A30, H⟩ := H
 replace H : (some (t153, t156)) = some (r1, r2) := H
 have A3 := Aside0.mk A30
 clear A30
 as_aux_lemma =>
  simp only [Option.some.injEq, Prod.mk.injEq] at H
  obtain ⟨rfl, rfl⟩ := H
  go_enter Try.func12, Try.ntmps12
  try go_wp2_with (first | ((with_reducible refine gate_dst (N := 1) rfl ?_); refine box_event ?hg (N := 1) ?hd (cs := #[.slice A0_0 l0_0.length c0_0, .slice A0_1 l0_1.length c0_1]) (t := 26) ?hr ?_; (case hd => rfl); (case hg => rfl); (case hr => first | (go_simp; done) | (go_simp; rfl)); intro gb151 hg w4 hbox hb; have n0_ := aM (below_step (by repeat (first | (with_reducible first|exact HB.out|apply bA|apply bN|apply bD)|exact HB.out)) hb); have n1_ := aM (hbox); have n2_ := aM ((by rw [hg]; exact (below_size (by repeat (first | (with_reducible first|exact HB.out|apply bA|apply bN|apply bD)|exact HB.out))) : w.heap.size ≤ gb151)); have n3_ := aM ((by rw [hg]; exact (below_size (by repeat (first | (with_reducible first|exact HB.out|apply bA|apply bN|apply bD)|exact HB.out))) : w.heap.size ≤ gb151)); clear HB; have HB := n0_; have BK151 := n1_; have GW151 := n2_; have GE151 := n3_; clear n0_ n1_ n2_ n3_; clear hb hbox hg) | ((with_reducible refine gate_dst (N := 2) rfl ?_); refine box_event ?hg (N := 2) ?hd (cs := #[.slice none 0 0, .slice none 0 0]) (t := 26) ?hr ?_; (case hd => rfl); (case hg => rfl); (case hr => first | (go_simp; done) | (go_simp; rfl)); intro gb152 hg w5 hbox hb; have n0_ := aM (blk_below (g := gb151) (o := .cells #[.slice A0_0 l0_0.length c0_0, .slice A0_1 l0_1.length c0_1] 26 (0, 0)) (by (with_reducible repeat (first|apply kN|apply kD|apply kA)); exact BK151.out) hb); have n1_ := aM (below_step (by repeat (first | (with_reducible first|exact HB.out|apply bA|apply bN|apply bD|refine bS ?_ GE151.out)|exact HB.out)) hb); have n2_ := aM (hbox); have n3_ := aM ((by rw [hg]; exact (below_size (by repeat (first | (with_reducible first|exact HB.out|apply bA|apply bN|apply bD|refine bS ?_ GE151.out)|exact HB.out))) : w.heap.size ≤ gb152)); have n4_ := aM ((by rw [hg]; exact (below_size (by repeat (first | (with_reducible first|exact HB.out|apply bA|apply bN|apply bD|refine bS ?_ GE151.out)|exact HB.out))) : w.heap.size ≤ gb152)); have n5_ := aM ((by rw [hg]; exact Nat.ne_of_lt (blk_lt (g := gb151) (o := .cells #[.slice A0_0 l0_0.length c0_0, .slice A0_1 l0_1.length c0_1] 26 (0, 0)) (by (with_reducible repeat (first|apply kN|apply kD|apply kA)); exact BK151.out)) : gb151 ≠ gb152)); have n6_ := aM ((by rw [hg]; exact Nat.ne_of_gt (blk_lt (g := gb151) (o := .cells #[.slice A0_0 l0_0.length c0_0, .slice A0_1 l0_1.length c0_1] 26 (0, 0)) (by (with_reducible repeat (first|apply kN|apply kD|apply kA)); exact BK151.out)) : gb152 ≠ gb151)); clear BK151; clear HB; have BK151 := n0_; have HB := n1_; have BK152 := n2_; have GW152 := n3_; have GE152 := n4_; have NB151_152 := n5_; have NB152_151 := n6_; clear n0_ n1_ n2_ n3_ n4_ n5_ n6_; clear hb hbox hg))
  have n0_ := aM (blk_drew BK151.out)
  have n1_ := aM (blk_drew BK152.out)
  have n2_ := aM (below_drew1 HB.out)
  clear BK151
  clear BK152
  clear HB
  have BK151 := n0_
  have BK152 := n1_
  have HB := n2_
  clear n0_ n1_ n2_
  refine start_ (n := 8) (S := fun w' => w'.cell? ⟨gb151, 0, none⟩ = some (.slice A0_0 l0_0.length c0_0) ∧ w'.cell? ⟨gb151, 1, none⟩ = some (.slice A0_1 l0_1.length c0_1)) (ds := []) #[false, false, false, false, false, false, false, false] (by kernel_rfl) rfl rfl ⟨(blk_cell BK151.out 0).trans rfl, (blk_cell BK151.out 1).trans rfl⟩ (fun hHeld => ?_); refine with_tabW tensor_Grid_fix_F_Copy.tab1 tensor_Grid_fix_F_Copy.bits1 (fun HT_ HW_ => ?_)
  generalize w5.drew = w6 at BK151 BK152 HB hHeld ⊢
  refine pure_ (i := 0) (N := some 3) (v := ?_) (a' := ?_) #[true, false, false, false, false, false, false, false] rfl rfl (any_of HT_.out (by kernel_rfl)) (fun _ _ _ h => h) (Or.inl ⟨by rfl, ?_⟩) ?_ ?_
  rotate_left
  ·intro w'
   go_simp
   with_reducible rfl
  rotate_left
  ·simp only [Act.put, List.setIfInBounds_toArray, List.set_cons_zero, List.set_cons_succ, i64_w, i32_w]
   rfl
  refine pure_ (i := 3) (N := some 6) (v := ?_) (a' := ?_) #[true, false, false, true, false, false, false, false] rfl rfl (any_of HT_.out (by kernel_rfl)) (fun _ _ _ h => h) (Or.inl ⟨by rfl, ?_⟩) ?_ ?_
  rotate_left
  ·intro w'
   go_simp
   with_reducible rfl
  rotate_left
  ·simp only [Act.put, List.setIfInBounds_toArray, List.set_cons_zero, List.set_cons_succ, i64_w, i32_w]
   rfl
  refine take_ (i := 1) (N := some 4) (v := ?_) (a' := ?_) #[true, true, false, true, false, false, false, false] rfl rfl (take_ofW HT_.out HW_.out (by kernel_rfl)) (fun _ _ _ h => h) (Or.inl ⟨by rfl, ?_⟩) hHeld ?_ ?_
  rotate_left
  ·rintro w' ⟨s0, s1⟩
   go_simp
   with_reducible rfl
  rotate_left
  ·simp only [Act.put, List.setIfInBounds_toArray, List.set_cons_zero, List.set_cons_succ, i64_w, i32_w]
   rfl
  refine take_ (i := 4) (N := some 7) (v := ?_) (a' := ?_) #[true, true, false, true, true, false, false, false] rfl rfl (take_ofW HT_.out HW_.out (by kernel_rfl)) (fun _ _ _ h => h) (Or.inl ⟨by rfl, ?_⟩) hHeld ?_ ?_
  rotate_left
  ·rintro w' ⟨s0, s1⟩
   go_simp
   with_reducible rfl
  rotate_left
  ·simp only [Act.put, List.setIfInBounds_toArray, List.set_cons_zero, List.set_cons_succ, i64_w, i32_w]
   rfl
  refine one_ (i := 2) (N := some 5) #[true, true, true, true, true, false, false, false] rfl rfl (one_of HT_.out (by kernel_rfl)) (by decide) (fun K hK => ?_)
  refine goes_ Try.func37 (by kernel_rfl) rfl #[.slice A0_0 l0_0.length c0_0] (by rfl) rfl rfl (by (try simp only [List.map_toArray, List.map_cons, List.map_nil]); first | done | rfl | (simp only [List.length_drop, List.length_take]; rfl)) ?_
  with_reducible refine (shape_Shape_Copy.calls _ _ l0_0 t153 _ ?side1 ?side2 A2.out).mono ?_
  (case side1 => repeat (first|exact (Kd.C_below HR0_0.out HB.out) | with_reducible first|apply cA|apply cN|apply cD))
  (case side2 => exact HC0_0.out)
  rintro e w7 ⟨v154, rfl, ho0, hb⟩
  refine ⟨_, rfl, ?_⟩
  have n0_ := aM (Kd.R_lower ho0 (below_size (by repeat (first | (with_reducible first|exact HB.out|apply bA|apply bN|apply bD|refine bS ?_ GE151.out|refine bS ?_ GE152.out)|exact HB.out))))
  have n1_ := aM (blk_below (g := gb151) (o := .cells #[.slice A0_0 l0_0.length c0_0, .slice A0_1 l0_1.length c0_1] 26 (0, 0)) (by (with_reducible repeat (first|apply kN|apply kD|apply kA)); exact BK151.out) hb)
  have n2_ := aM (blk_below (g := gb152) (o := .cells #[.slice none 0 0, .slice none 0 0] 26 (0, 0)) (by (with_reducible repeat (first|apply kN|apply kD|apply kA)); exact BK152.out) hb)
  have n3_ := aM (below_step (by repeat (first | (with_reducible first|exact HB.out|apply bA|apply bN|apply bD|refine bS ?_ GE151.out|refine bS ?_ GE152.out)|exact HB.out)) hb)
  clear BK151
  clear BK152
  clear HB
  have HO155 := n0_
  have BK151 := n1_
  have BK152 := n2_
  have HB := n3_
  clear n0_ n1_ n2_ n3_
  (try clear hb)
  skip
  (try clear hk)
  skip
  (try clear ho0)
  refine hK.out _ _ ⟨(blk_cell BK151.out 0).trans rfl, (blk_cell BK151.out 1).trans rfl⟩ (fun hHeld => ?_)
  clear hK K
  refine norm_ (a' := ?_) ?_ ?_
  rotate_left
  ·show Act.put _ (some 5) _ = _
   simp only [Act.put, List.setIfInBounds_toArray, List.set_cons_zero, List.set_cons_succ, i64_w, i32_w]
   rfl
  refine one_ (i := 5) (N := some 8) #[true, true, true, true, true, true, false, false] rfl rfl (one_of HT_.out (by kernel_rfl)) (by decide) (fun K hK => ?_)
  refine goes_ Try.func39 (by kernel_rfl) rfl #[.slice A0_1 l0_1.length c0_1] (by rfl) rfl rfl (by (try simp only [List.map_toArray, List.map_cons, List.map_nil]); first | done | rfl | (simp only [List.length_drop, List.length_take]; rfl)) ?_
  with_reducible refine (slices_Clone_fix_F_fix_F.calls _ _ l0_1 t156 _ ?side1 ?side2 A3.out).mono ?_
  (case side1 => repeat (first|exact (Kd.C_below HR0_1.out HB.out) | with_reducible first|apply cA|apply cN|apply cD))
  (case side2 => exact HC0_1.out)
  rintro e w8 ⟨v157, rfl, ho0, hb⟩
  refine ⟨_, rfl, ?_⟩
  have n0_ := aM (Kd.R_below (by (with_reducible repeat (first|apply rA|apply rN|apply rD)); exact HO155.out) hb)
  have n1_ := aM (Kd.R_lower ho0 (below_size (by repeat (first | (with_reducible first|exact HB.out|apply bA|apply bN|apply bD|refine bS ?_ GE151.out|refine bS ?_ GE152.out)|exact HB.out))))
  have n2_ := aM (blk_below (g := gb151) (o := .cells #[.slice A0_0 l0_0.length c0_0, .slice A0_1 l0_1.length c0_1] 26 (0, 0)) (by (with_reducible repeat (first|apply kN|apply kD|apply kA)); exact BK151.out) hb)
  have n3_ := aM (blk_below (g := gb152) (o := .cells #[.slice none 0 0, .slice none 0 0] 26 (0, 0)) (by (with_reducible repeat (first|apply kN|apply kD|apply kA)); exact BK152.out) hb)
  have n4_ := aM (below_step (by repeat (first | (with_reducible first|exact HB.out|apply bA|apply bN|apply bD|refine bS ?_ GE151.out|refine bS ?_ GE152.out)|exact HB.out)) hb)
  clear HO155
  clear BK151
  clear BK152
  clear HB
  have HO155 := n0_
  have HO158 := n1_
  have BK151 := n2_
  have BK152 := n3_
  have HB := n4_
  clear n0_ n1_ n2_ n3_ n4_
  (try clear hb)
  skip
  (try clear hk)
  skip
  (try clear ho0)
  obtain ⟨Ao9, co9, eo9⟩ := Kd.R_slice HO158.out
  (first | subst eo9 | (injection eo9 with f1_ f2_ f3_; have f4_ := f1_.symm; have f5_ := f3_.symm; clear f1_ f2_ f3_; subst f4_; subst f5_))
  obtain ⟨Ao10, co10, eo10⟩ := Kd.R_slice HO155.out
  (first | subst eo10 | (injection eo10 with f1_ f2_ f3_; have f4_ := f1_.symm; have f5_ := f3_.symm; clear f1_ f2_ f3_; subst f4_; subst f5_))
  refine hK.out _ _ ⟨(blk_cell BK151.out 0).trans rfl, (blk_cell BK151.out 1).trans rfl⟩ (fun hHeld => ?_)
  clear hK K
  refine norm_ (a' := ?_) ?_ ?_
  rotate_left
  ·show Act.put _ (some 8) _ = _
   simp only [Act.put, List.setIfInBounds_toArray, List.set_cons_zero, List.set_cons_succ, i64_w, i32_w]
   rfl
  refine pure_ (i := 6) (N := some 9) (v := ?_) (a' := ?_) #[true, true, true, true, true, true, true, false] rfl rfl (any_of HT_.out (by kernel_rfl)) (fun _ _ _ h => h) (Or.inl ⟨by rfl, ?_⟩) ?_ ?_
  rotate_left
  ·intro w'
   go_simp
   with_reducible rfl
  rotate_left
  ·simp only [Act.put, List.setIfInBounds_toArray, List.set_cons_zero, List.set_cons_succ, i64_w, i32_w]
   rfl
  refine one_ (i := 7) (N := none) #[true, true, true, true, true, true, true, true] rfl rfl (one_of HT_.out (by kernel_rfl)) (by decide) (fun K hK => ?_)
  have hs11 : w8.cell? ⟨gb152, 0, none⟩ = some (.slice none 0 0) := (blk_cell BK152.out 0).trans rfl
  have hfs11 := blk_frozen BK152.out 0
  have hns11_0 := NB151_152.out
  have hms11_0 := NB152_151.out
  have hs12 : w8.cell? ⟨gb152, 1, none⟩ = some (.slice none 0 0) := (blk_cell BK152.out 1).trans rfl
  have hfs12 := blk_frozen BK152.out 1
  have hns12_0 := NB151_152.out
  have hms12_0 := NB152_151.out
  refine skip_ (w1 := ?_) (by rfl) rfl ?_ ?_
  rotate_left
  ·go_simp
   rfl
  refine hK.out _ _ ⟨((cell_far (p := ⟨gb152, _, none⟩) NB151_152.out _).trans (((cell_far (p := ⟨gb152, _, none⟩) NB151_152.out _).trans (hHeld.1)))), ((cell_far (p := ⟨gb152, _, none⟩) NB151_152.out _).trans (((cell_far (p := ⟨gb152, _, none⟩) NB151_152.out _).trans (hHeld.2))))⟩ (fun hHeld => ?_)
  clear hK K
  refine done_ (done_of HT_.out (by kernel_rfl)) ?_
  try go_wp2
  refine bodyPost_ret (results_cell_row rfl _ _ gb152 26 #[.slice Ao10 t153.length co10, .slice Ao9 t156.length co9] (0, 0) _ rfl (by (with_reducible repeat (first|apply kN|apply kD|apply kA)); refine blk_put (cs := #[.slice Ao10 t153.length co10, .slice none 0 0]) ?_ 1 _ rfl; (with_reducible repeat (first|apply kN|apply kD|apply kA)); refine blk_put (cs := #[.slice none 0 0, .slice none 0 0]) ?_ 0 _ rfl; (with_reducible repeat (first|apply kN|apply kD|apply kA)); exact BK152.out) Try.underlying26 rfl (by kernel_rfl)) rfl ?_
  exact ⟨_, _, by first | rfl | (simp [errW_none, errW_some] <;> rfl) | (simp [*, errW_none, errW_some] <;> rfl), by (with_reducible repeat (first|apply rA|apply rN|apply rD)); exact Kd.R_mono (Kd.R_far (p := ⟨gb152, 1, none⟩) (Kd.R_far (p := ⟨gb152, 0, none⟩) (Kd.R_types HO155.out BK152.out (by decide)) (fun _ hk => hk.2) (.slice Ao10 t153.length co10)) (fun _ hk => hk.2) (.slice Ao9 t156.length co9)) (fun _ hk => trivial), by (with_reducible repeat (first|apply rA|apply rN|apply rD)); exact Kd.R_mono (Kd.R_far (p := ⟨gb152, 1, none⟩) (Kd.R_far (p := ⟨gb152, 0, none⟩) (Kd.R_types HO158.out BK152.out (by decide)) (fun _ hk => hk.2) (.slice Ao10 t153.length co10)) (fun _ hk => hk.2) (.slice Ao9 t156.length co9)) (fun _ hk => trivial), by repeat (first | (with_reducible first|exact HB.out|apply bA|apply bN|apply bD|refine bS ?_ GE151.out|refine bS ?_ GE152.out)|exact HB.out)⟩

/-! ### tensor_Grid_fix_F_Right: function 13 -/
def tensor_Grid_fix_F_Right.f (k : Nat) (l0_0 : List Int) (l0_1 : List Int) : Option (Bool) := (shape_Shape_Size.f k l0_0).bind fun bt160 => (if bt160.2 = 0 then (some (bt160.1 == (l0_1.length : Int))) else (some false))
theorem tensor_Grid_fix_F_Right.mono : ∀ a0 a1 k, LeO (tensor_Grid_fix_F_Right.f k a0 a1) (tensor_Grid_fix_F_Right.f (k + 1) a0 a1) := by
 intro a0 a1 k
 unfold tensor_Grid_fix_F_Right.f
 repeat' first
   | (with_reducible exact shape_Shape_Size.mono _ _)
   | (with_reducible exact LeO.refl _)
   | (with_reducible exact LeO.none _)
   | (with_reducible refine LeO.ite ?_ ?_)
   | (with_reducible refine LeO.bind ?_ (fun _ => ?_))
   | exact shape_Shape_Size.mono _ _
   | exact LeO.none _
   | refine LeO.ite ?_ ?_
   | refine LeO.bind ?_ (fun _ => ?_)
set_option maxHeartbeats 8000000 in
set_option maxRecDepth 100000 in
theorem tensor_Grid_fix_F_Right.calls (k : Nat) (A0_0 : Option Addr) (c0_0 : Nat) (l0_0 : List Int) (A0_1 : Option Addr) (c0_1 : Nat) (l0_1 : List Int) (r : Bool) (w : World) (hr0_0 : Kd.C (Kd.int .i64) w A0_0 l0_0.length l0_0) (hc0_0 : l0_0.length ≤ c0_0) (hr0_1 : Kd.C (Kd.int .i64) w A0_1 l0_1.length l0_1) (hc0_1 : l0_1.length ≤ c0_1) (h : tensor_Grid_fix_F_Right.f k l0_0 l0_1 = some r) :
  Calls Try.prog 13 #[.agg #[.slice A0_0 l0_0.length c0_0, .slice A0_1 l0_1.length c0_1]] w fun e w' => e = .returned (.bool r) ∧ Below w.heap.size w w' := by
 have hu26 := Try.underlying26
 have HR0_0 := Aside0.mk hr0_0
 have HC0_0 := Aside0.mk hc0_0
 clear hr0_0 hc0_0
 have HR0_1 := Aside0.mk hr0_1
 have HC0_1 := Aside0.mk hc0_1
 clear hr0_1 hc0_1
 have HB := aM (Below.refl w.heap.size w)
 have H : ((shape_Shape_Size.f k l0_0).bind fun bt160 => (if bt160.2 = 0 then (some (bt160.1 == (l0_1.length : Int))) else (some false))) = some r := h
 clear h
 replace H := Option.bind_eq_some_iff.mp H
 obtain ⟨⟨t160, t161⟩, A20, H⟩ := H
 replace H : (if t161 = 0 then (some (t160 == (l0_1.length : Int))) else (some false)) = some r := H
 have A2 := Aside0.mk A20
 clear A20
 by_cases c3 : t161 = 0
 ·rw [if_pos c3] at H
  have c3b0 : (t161 == 0) = true := beq_iff_eq.mpr c3
  have c3b1 : (t161 != 0) = false := bne_eq_false_iff_eq.mpr c3
  clear c3
  as_aux_lemma =>
   obtain rfl := Option.some.inj H
   go_enter Try.func13, Try.ntmps13
   go_wp2_with (first | ((with_reducible refine gate_dst (N := 1) rfl ?_); (try (refine gate_guard (by rfl) ?_; dsimp only)); refine box_event ?hg (N := 1) ?hd (cs := #[.slice A0_0 l0_0.length c0_0, .slice A0_1 l0_1.length c0_1]) (t := 26) ?hr ?_; (case hd => rfl); (case hg => rfl); (case hr => first | (go_simp; done) | (go_simp; rfl)); intro gb159 hg w4 hbox hb; have n0_ := aM (below_step (by repeat (first | (with_reducible first|exact HB.out|apply bA|apply bN|apply bD)|exact HB.out)) hb); have n1_ := aM (hbox); have n2_ := aM ((by rw [hg]; exact (below_size (by repeat (first | (with_reducible first|exact HB.out|apply bA|apply bN|apply bD)|exact HB.out))) : w.heap.size ≤ gb159)); have n3_ := aM ((by rw [hg]; exact (below_size (by repeat (first | (with_reducible first|exact HB.out|apply bA|apply bN|apply bD)|exact HB.out))) : w.heap.size ≤ gb159)); clear HB; have HB := n0_; have BK159 := n1_; have GW159 := n2_; have GE159 := n3_; clear n0_ n1_ n2_ n3_; clear hb hbox hg; have hcz5_0 : w4.cell? ⟨gb159, 0, none⟩ = some (.slice A0_0 l0_0.length c0_0) := (blk_cell BK159.out 0).trans rfl; have hcz5_1 : w4.cell? ⟨gb159, 1, none⟩ = some (.slice A0_1 l0_1.length c0_1) := (blk_cell BK159.out 1).trans rfl; have hfz5_0 := blk_frozen BK159.out 0; have hfz5_1 := blk_frozen BK159.out 1) | ((with_reducible refine gate_callee (f := 36) rfl ?_); refine goesL_ (some 8) rfl rfl Try.func36 (by kernel_rfl) rfl #[.slice A0_0 l0_0.length c0_0] rfl (by (try simp only [List.map_toArray, List.map_cons, List.map_nil]); first | done | rfl | (simp only [List.length_drop, List.length_take]; rfl)) ?_; (with_reducible refine (shape_Shape_Size.calls k _ _ l0_0 t160 t161 _ ?side1 ?side2 A2.out).mono ?_); (case side1 => repeat (first|exact (Kd.C_below HR0_0.out HB.out) | with_reducible first|apply cA|apply cN|apply cD)); (case side2 => exact HC0_0.out); rintro e w' ⟨rfl, ⟨nd, rfl⟩⟩; refine ⟨_, rfl, ?_⟩))
   go_ret
   exact ⟨by first | rfl | (simp [errW_none, errW_some] <;> rfl) | (simp [*, errW_none, errW_some] <;> rfl), by repeat (first | (with_reducible first|exact HB.out|apply bA|apply bN|apply bD|refine bS ?_ GE159.out)|exact HB.out)⟩
 ·rw [if_neg c3] at H
  have c3b0 : (t161 == 0) = false := beq_eq_false_iff_ne.mpr c3
  have c3b1 : (t161 != 0) = true := bne_iff_ne.mpr c3
  as_aux_lemma =>
   obtain rfl := Option.some.inj H
   go_enter Try.func13, Try.ntmps13
   go_wp2_with (first | ((with_reducible refine gate_dst (N := 1) rfl ?_); (try (refine gate_guard (by rfl) ?_; dsimp only)); refine box_event ?hg (N := 1) ?hd (cs := #[.slice A0_0 l0_0.length c0_0, .slice A0_1 l0_1.length c0_1]) (t := 26) ?hr ?_; (case hd => rfl); (case hg => rfl); (case hr => first | (go_simp; done) | (go_simp; rfl)); intro gb159 hg w6 hbox hb; have n0_ := aM (below_step (by repeat (first | (with_reducible first|exact HB.out|apply bA|apply bN|apply bD)|exact HB.out)) hb); have n1_ := aM (hbox); have n2_ := aM ((by rw [hg]; exact (below_size (by repeat (first | (with_reducible first|exact HB.out|apply bA|apply bN|apply bD)|exact HB.out))) : w.heap.size ≤ gb159)); have n3_ := aM ((by rw [hg]; exact (below_size (by repeat (first | (with_reducible first|exact HB.out|apply bA|apply bN|apply bD)|exact HB.out))) : w.heap.size ≤ gb159)); clear HB; have HB := n0_; have BK159 := n1_; have GW159 := n2_; have GE159 := n3_; clear n0_ n1_ n2_ n3_; clear hb hbox hg; have hcz7_0 : w6.cell? ⟨gb159, 0, none⟩ = some (.slice A0_0 l0_0.length c0_0) := (blk_cell BK159.out 0).trans rfl; have hcz7_1 : w6.cell? ⟨gb159, 1, none⟩ = some (.slice A0_1 l0_1.length c0_1) := (blk_cell BK159.out 1).trans rfl; have hfz7_0 := blk_frozen BK159.out 0; have hfz7_1 := blk_frozen BK159.out 1) | ((with_reducible refine gate_callee (f := 36) rfl ?_); refine goesL_ (some 8) rfl rfl Try.func36 (by kernel_rfl) rfl #[.slice A0_0 l0_0.length c0_0] rfl (by (try simp only [List.map_toArray, List.map_cons, List.map_nil]); first | done | rfl | (simp only [List.length_drop, List.length_take]; rfl)) ?_; (with_reducible refine (shape_Shape_Size.calls k _ _ l0_0 t160 t161 _ ?side1 ?side2 A2.out).mono ?_); (case side1 => repeat (first|exact (Kd.C_below HR0_0.out HB.out) | with_reducible first|apply cA|apply cN|apply cD)); (case side2 => exact HC0_0.out); rintro e w' ⟨rfl, ⟨nd, rfl⟩⟩; refine ⟨_, rfl, ?_⟩))
   go_ret
   exact ⟨by first | rfl | (simp [errW_none, errW_some] <;> rfl) | (simp [*, errW_none, errW_some] <;> rfl), by repeat (first | (with_reducible first|exact HB.out|apply bA|apply bN|apply bD|refine bS ?_ GE159.out)|exact HB.out)⟩

/-! ### tensor_Of_fix_F: function 11 -/
def tensor_Of_fix_F.f (k : Nat) (l0 : List Int) (l1 : List Int) : Option (List Int × List Int × Int) := (tensor_Grid_fix_F_Right.f k l0 l1).bind fun t164 => (if t164 = true then ((tensor_Grid_fix_F_Copy.f l0 l1).bind fun bt165 => (some (bt165.1, bt165.2, 0))) else (some (([] : List Int), ([] : List Int), 20)))
theorem tensor_Of_fix_F.mono : ∀ a0 a1 k, LeO (tensor_Of_fix_F.f k a0 a1) (tensor_Of_fix_F.f (k + 1) a0 a1) := by
 intro a0 a1 k
 unfold tensor_Of_fix_F.f
 repeat' first
   | (with_reducible exact tensor_Grid_fix_F_Right.mono _ _ _)
   | (with_reducible exact LeO.refl _)
   | (with_reducible exact LeO.none _)
   | (with_reducible refine LeO.ite ?_ ?_)
   | (with_reducible refine LeO.bind ?_ (fun _ => ?_))
   | exact tensor_Grid_fix_F_Right.mono _ _ _
   | exact LeO.none _
   | refine LeO.ite ?_ ?_
   | refine LeO.bind ?_ (fun _ => ?_)
set_option maxHeartbeats 8000000 in
set_option maxRecDepth 100000 in
theorem tensor_Of_fix_F.calls (k : Nat) (A0 : Option Addr) (c0 : Nat) (l0 : List Int) (A1 : Option Addr) (c1 : Nat) (l1 : List Int) (r1 : List Int) (r2 : List Int) (r3 : Int) (w : World) (hr0 : Kd.C (Kd.int .i64) w A0 l0.length l0) (hc0 : l0.length ≤ c0) (hr1 : Kd.C (Kd.int .i64) w A1 l1.length l1) (hc1 : l1.length ≤ c1) (h : tensor_Of_fix_F.f k l0 l1 = some (r1, r2, r3)) :
  Calls Try.prog 11 #[.slice A0 l0.length c0, .slice A1 l1.length c1] w fun e w' => ∃ v0_ v1_ : Value, e = .returned (.tuple #[.agg #[v0_, v1_], .int .i64 r3]) ∧ Kd.R (Kd.int .i64) 3 w' w.heap.size (fun _ => True) v0_ r1 ∧ Kd.R (Kd.int .i64) 27 w' w.heap.size (fun _ => True) v1_ r2 ∧ Below w.heap.size w w' := by
 have hu26 := Try.underlying26
 have HR0 := Aside0.mk hr0
 have HC0 := Aside0.mk hc0
 clear hr0 hc0
 have HR1 := Aside0.mk hr1
 have HC1 := Aside0.mk hc1
 clear hr1 hc1
 have HB := aM (Below.refl w.heap.size w)
 have H : ((tensor_Grid_fix_F_Right.f k l0 l1).bind fun t164 => (if t164 = true then ((tensor_Grid_fix_F_Copy.f l0 l1).bind fun bt165 => (some (bt165.1, bt165.2, 0))) else (some (([] : List Int), ([] : List Int), 20)))) = some (r1, r2, r3) := h
 clear h
 replace H := Option.bind_eq_some_iff.mp H
 obtain ⟨t164, A30, H⟩ := H
 replace H : (if t164 = true then ((tensor_Grid_fix_F_Copy.f l0 l1).bind fun bt165 => (some (bt165.1, bt165.2, 0))) else (some (([] : List Int), ([] : List Int), 20))) = some (r1, r2, r3) := H
 have A3 := Aside0.mk A30
 clear A30
 by_cases c4 : t164 = true
 ·subst c4
  have H1 : ((tensor_Grid_fix_F_Copy.f l0 l1).bind fun bt165 => (some (bt165.1, bt165.2, 0))) = some (r1, r2, r3) := by rw [if_pos rfl] at H; exact H
  clear H
  have H := H1
  clear H1
  replace H := Option.bind_eq_some_iff.mp H
  obtain ⟨⟨t165, t168⟩, A50, H⟩ := H
  replace H : (some (t165, t168, 0)) = some (r1, r2, r3) := H
  have A5 := Aside0.mk A50
  clear A50
  as_aux_lemma =>
   simp only [Option.some.injEq, Prod.mk.injEq] at H
   obtain ⟨rfl, rfl, rfl⟩ := H
   go_enter Try.func11, Try.ntmps11
   go_wp2_with (first | ((with_reducible refine gate_dst (N := 4) rfl ?_); refine box_event ?hg (N := 4) ?hd (cs := #[.slice none 0 0, .slice none 0 0]) (t := 26) ?hr ?_; (case hd => rfl); (case hg => rfl); (case hr => first | (go_simp; done) | (go_simp; rfl)); intro gb162 hg w6 hbox hb; have n0_ := aM (below_step (by repeat (first | (with_reducible first|exact HB.out|apply bA|apply bN|apply bD)|exact HB.out)) hb); have n1_ := aM (hbox); have n2_ := aM ((by rw [hg]; exact (below_size (by repeat (first | (with_reducible first|exact HB.out|apply bA|apply bN|apply bD)|exact HB.out))) : w.heap.size ≤ gb162)); have n3_ := aM ((by rw [hg]; exact (below_size (by repeat (first | (with_reducible first|exact HB.out|apply bA|apply bN|apply bD)|exact HB.out))) : w.heap.size ≤ gb162)); clear HB; have HB := n0_; have BK162 := n1_; have GW162 := n2_; have GE162 := n3_; clear n0_ n1_ n2_ n3_; clear hb hbox hg) | ((with_reducible refine gate_dst (N := 6) rfl ?_); refine box_event ?hg (N := 6) ?hd (cs := #[.slice none 0 0, .slice none 0 0]) (t := 26) ?hr ?_; (case hd => rfl); (case hg => rfl); (case hr => first | (go_simp; done) | (go_simp; rfl)); intro gb163 hg w7 hbox hb; have n0_ := aM (blk_below (g := gb162) (o := .cells #[.slice none 0 0, .slice none 0 0] 26 (0, 0)) (by (with_reducible repeat (first|apply kN|apply kD|apply kA)); exact BK162.out) hb); have n1_ := aM (below_step (by repeat (first | (with_reducible first|exact HB.out|apply bA|apply bN|apply bD|refine bS ?_ GE162.out)|exact HB.out)) hb); have n2_ := aM (hbox); have n3_ := aM ((by rw [hg]; exact (below_size (by repeat (first | (with_reducible first|exact HB.out|apply bA|apply bN|apply bD|refine bS ?_ GE162.out)|exact HB.out))) : w.heap.size ≤ gb163)); have n4_ := aM ((by rw [hg]; exact (below_size (by repeat (first | (with_reducible first|exact HB.out|apply bA|apply bN|apply bD|refine bS ?_ GE162.out)|exact HB.out))) : w.heap.size ≤ gb163)); have n5_ := aM ((by rw [hg]; exact Nat.ne_of_lt (blk_lt (g := gb162) (o := .cells #[.slice none 0 0, .slice none 0 0] 26 (0, 0)) (by (with_reducible repeat (first|apply kN|apply kD|apply kA)); exact BK162.out)) : gb162 ≠ gb163)); have n6_ := aM ((by rw [hg]; exact Nat.ne_of_gt (blk_lt (g := gb162) (o := .cells #[.slice none 0 0, .slice none 0 0] 26 (0, 0)) (by (with_reducible repeat (first|apply kN|apply kD|apply kA)); exact BK162.out)) : gb163 ≠ gb162)); clear BK162; clear HB; have BK162 := n0_; have HB := n1_; have BK163 := n2_; have GW163 := n3_; have GE163 := n4_; have NB162_163 := n5_; have NB163_162 := n6_; clear n0_ n1_ n2_ n3_ n4_ n5_ n6_; clear hb hbox hg; have hnb8 := NB163_162.out; have hnc8 := NB162_163.out; have hcz9_0 : w7.cell? ⟨gb163, 0, none⟩ = some (.slice none 0 0) := (blk_cell BK163.out 0).trans rfl; have hcz9_1 : w7.cell? ⟨gb163, 1, none⟩ = some (.slice none 0 0) := (blk_cell BK163.out 1).trans rfl; have hfz9_0 := blk_frozen BK163.out 0; have hfz9_1 := blk_frozen BK163.out 1) | ((with_reducible refine gate_callee (f := 13) rfl ?_); refine goesL_ (some 11) rfl rfl Try.func13 (by kernel_rfl) rfl #[.agg #[.slice A0 l0.length c0, .slice A1 l1.length c1]] rfl (by (try simp only [List.map_toArray, List.map_cons, List.map_nil]); first | done | rfl | (simp only [List.length_drop, List.length_take]; rfl)) ?_; (with_reducible refine (tensor_Grid_fix_F_Right.calls k _ _ l0 _ _ l1 true _ ?side1 ?side2 ?side3 ?side4 A3.out).mono ?_); (case side1 => exact Kd.C_below HR0.out (by repeat (first | (with_reducible first|exact HB.out|apply bA|apply bN|apply bD|refine bS ?_ GE162.out|refine bS ?_ GE163.out)|exact HB.out))); (case side2 => exact HC0.out); (case side3 => exact Kd.C_below HR1.out (by repeat (first | (with_reducible first|exact HB.out|apply bA|apply bN|apply bD|refine bS ?_ GE162.out|refine bS ?_ GE163.out)|exact HB.out))); (case side4 => exact HC1.out); rintro e w10 ⟨rfl, hb⟩; refine ⟨_, rfl, ?_⟩; have n0_ := aM (blk_below (g := gb162) (o := .cells #[.slice none 0 0, .slice none 0 0] 26 (0, 0)) (by (with_reducible repeat (first|apply kN|apply kD|apply kA)); refine blk_far ?_ NB162_163.out _; (with_reducible repeat (first|apply kN|apply kD|apply kA)); refine blk_far ?_ NB162_163.out _; (with_reducible repeat (first|apply kN|apply kD|apply kA)); exact BK162.out) hb); have n1_ := aM (blk_below (g := gb163) (o := .cells #[.slice A0 l0.length c0, .slice A1 l1.length c1] 26 (0, 0)) (by (with_reducible repeat (first|apply kN|apply kD|apply kA)); refine blk_put (cs := #[.slice A0 l0.length c0, .slice none 0 0]) ?_ 1 _ rfl; (with_reducible repeat (first|apply kN|apply kD|apply kA)); refine blk_put (cs := #[.slice none 0 0, .slice none 0 0]) ?_ 0 _ rfl; (with_reducible repeat (first|apply kN|apply kD|apply kA)); exact BK163.out) hb); have n2_ := aM (below_step (by repeat (first | (with_reducible first|exact HB.out|apply bA|apply bN|apply bD|refine bS ?_ GE162.out|refine bS ?_ GE163.out)|exact HB.out)) hb); clear BK162; clear BK163; clear HB; have BK162 := n0_; have BK163 := n1_; have HB := n2_; clear n0_ n1_ n2_; (try clear hb); have hcz11_0 : w10.cell? ⟨gb163, 0, none⟩ = some (.slice A0 l0.length c0) := (blk_cell BK163.out 0).trans rfl; have hcz11_1 : w10.cell? ⟨gb163, 1, none⟩ = some (.slice A1 l1.length c1) := (blk_cell BK163.out 1).trans rfl; have hfz11_0 := blk_frozen BK163.out 0; have hfz11_1 := blk_frozen BK163.out 1) | ((with_reducible refine gate_callee (f := 12) rfl ?_); refine goesL_ (some 15) rfl rfl Try.func12 (by kernel_rfl) rfl #[.agg #[.slice A0 l0.length c0, .slice A1 l1.length c1]] rfl (by (try simp only [List.map_toArray, List.map_cons, List.map_nil]); first | done | rfl | (simp only [List.length_drop, List.length_take]; rfl)) ?_; (with_reducible refine (tensor_Grid_fix_F_Copy.calls _ _ l0 _ _ l1 t165 t168 _ ?side1 ?side2 ?side3 ?side4 A5.out).mono ?_); (case side1 => repeat (first|exact (Kd.C_below HR0.out HB.out) | with_reducible first|apply cA|apply cN|apply cD)); (case side2 => exact HC0.out); (case side3 => repeat (first|exact (Kd.C_below HR1.out HB.out) | with_reducible first|apply cA|apply cN|apply cD)); (case side4 => exact HC1.out); rintro e w12 ⟨v166, v169, rfl, ho0, ho1, hb⟩; refine ⟨_, rfl, ?_⟩; have n0_ := aM (Kd.R_lower ho0 (below_size (by repeat (first | (with_reducible first|exact HB.out|apply bA|apply bN|apply bD|refine bS ?_ GE162.out|refine bS ?_ GE163.out)|exact HB.out)))); have n1_ := aM (Kd.R_lower ho1 (below_size (by repeat (first | (with_reducible first|exact HB.out|apply bA|apply bN|apply bD|refine bS ?_ GE162.out|refine bS ?_ GE163.out)|exact HB.out)))); have n2_ := aM (blk_below (g := gb162) (o := .cells #[.slice none 0 0, .slice none 0 0] 26 (0, 0)) (by (with_reducible repeat (first|apply kN|apply kD|apply kA)); exact BK162.out) hb); have n3_ := aM (blk_below (g := gb163) (o := .cells #[.slice A0 l0.length c0, .slice A1 l1.length c1] 26 (0, 0)) (by (with_reducible repeat (first|apply kN|apply kD|apply kA)); exact BK163.out) hb); have n4_ := aM (below_step (by repeat (first | (with_reducible first|exact HB.out|apply bA|apply bN|apply bD|refine bS ?_ GE162.out|refine bS ?_ GE163.out)|exact HB.out)) hb); clear BK162; clear BK163; clear HB; have HO167 := n0_; have HO170 := n1_; have BK162 := n2_; have BK163 := n3_; have HB := n4_; clear n0_ n1_ n2_ n3_ n4_; (try clear hb); (try clear ho0); (try clear ho1); obtain ⟨Ao13, co13, eo13⟩ := Kd.R_slice HO167.out; subst eo13; have hcz14_0 : w12.cell? ⟨gb162, 0, none⟩ = some (.slice none 0 0) := (blk_cell BK162.out 0).trans rfl; have hcz14_1 : w12.cell? ⟨gb162, 1, none⟩ = some (.slice none 0 0) := (blk_cell BK162.out 1).trans rfl; have hfz14_0 := blk_frozen BK162.out 0; have hfz14_1 := blk_frozen BK162.out 1; obtain ⟨Ao15, co15, eo15⟩ := Kd.R_slice HO170.out; subst eo15))
   refine bodyPost_ret (results_ct rfl _ _ gb162 26 #[.slice Ao13 t165.length co13, .slice Ao15 t168.length co15] (0, 0) _ rfl (by (with_reducible repeat (first|apply kN|apply kD|apply kA)); refine blk_put (cs := #[.slice Ao13 t165.length co13, .slice none 0 0]) ?_ 1 _ rfl; (with_reducible repeat (first|apply kN|apply kD|apply kA)); refine blk_put (cs := #[.slice none 0 0, .slice none 0 0]) ?_ 0 _ rfl; (with_reducible repeat (first|apply kN|apply kD|apply kA)); exact BK162.out) Try.underlying26 rfl (by kernel_rfl)) rfl ?_
   exact ⟨_, _, by first | rfl | (simp [errW_none, errW_some] <;> rfl) | (simp [*, errW_none, errW_some] <;> rfl), by (with_reducible repeat (first|apply rA|apply rN|apply rD)); exact Kd.R_mono (Kd.R_far (p := ⟨gb162, 1, none⟩) (Kd.R_far (p := ⟨gb162, 0, none⟩) (Kd.R_types HO167.out BK162.out (by decide)) (fun _ hk => hk.2) (.slice Ao13 t165.length co13)) (fun _ hk => hk.2) (.slice Ao15 t168.length co15)) (fun _ hk => trivial), by (with_reducible repeat (first|apply rA|apply rN|apply rD)); exact Kd.R_mono (Kd.R_far (p := ⟨gb162, 1, none⟩) (Kd.R_far (p := ⟨gb162, 0, none⟩) (Kd.R_types HO170.out BK162.out (by decide)) (fun _ hk => hk.2) (.slice Ao13 t165.length co13)) (fun _ hk => hk.2) (.slice Ao15 t168.length co15)) (fun _ hk => trivial), by repeat (first | (with_reducible first|exact HB.out|apply bA|apply bN|apply bD|refine bS ?_ GE162.out|refine bS ?_ GE163.out)|exact HB.out)⟩
 ·replace c4 := Bool.eq_false_iff.mpr c4
  subst c4
  have H1 : (some (([] : List Int), ([] : List Int), 20)) = some (r1, r2, r3) := by rw [if_neg (show ¬ (false = true) by decide)] at H; exact H
  clear H
  have H := H1
  clear H1
  as_aux_lemma =>
   simp only [Option.some.injEq, Prod.mk.injEq] at H
   obtain ⟨rfl, rfl, rfl⟩ := H
   go_enter Try.func11, Try.ntmps11
   go_wp2_with (first | ((with_reducible refine gate_dst (N := 4) rfl ?_); refine box_event ?hg (N := 4) ?hd (cs := #[.slice none 0 0, .slice none 0 0]) (t := 26) ?hr ?_; (case hd => rfl); (case hg => rfl); (case hr => first | (go_simp; done) | (go_simp; rfl)); intro gb162 hg w16 hbox hb; have n0_ := aM (below_step (by repeat (first | (with_reducible first|exact HB.out|apply bA|apply bN|apply bD)|exact HB.out)) hb); have n1_ := aM (hbox); have n2_ := aM ((by rw [hg]; exact (below_size (by repeat (first | (with_reducible first|exact HB.out|apply bA|apply bN|apply bD)|exact HB.out))) : w.heap.size ≤ gb162)); have n3_ := aM ((by rw [hg]; exact (below_size (by repeat (first | (with_reducible first|exact HB.out|apply bA|apply bN|apply bD)|exact HB.out))) : w.heap.size ≤ gb162)); clear HB; have HB := n0_; have BK162 := n1_; have GW162 := n2_; have GE162 := n3_; clear n0_ n1_ n2_ n3_; clear hb hbox hg) | ((with_reducible refine gate_dst (N := 6) rfl ?_); refine box_event ?hg (N := 6) ?hd (cs := #[.slice none 0 0, .slice none 0 0]) (t := 26) ?hr ?_; (case hd => rfl); (case hg => rfl); (case hr => first | (go_simp; done) | (go_simp; rfl)); intro gb163 hg w17 hbox hb; have n0_ := aM (blk_below (g := gb162) (o := .cells #[.slice none 0 0, .slice none 0 0] 26 (0, 0)) (by (with_reducible repeat (first|apply kN|apply kD|apply kA)); exact BK162.out) hb); have n1_ := aM (below_step (by repeat (first | (with_reducible first|exact HB.out|apply bA|apply bN|apply bD|refine bS ?_ GE162.out)|exact HB.out)) hb); have n2_ := aM (hbox); have n3_ := aM ((by rw [hg]; exact (below_size (by repeat (first | (with_reducible first|exact HB.out|apply bA|apply bN|apply bD|refine bS ?_ GE162.out)|exact HB.out))) : w.heap.size ≤ gb163)); have n4_ := aM ((by rw [hg]; exact (below_size (by repeat (first | (with_reducible first|exact HB.out|apply bA|apply bN|apply bD|refine bS ?_ GE162.out)|exact HB.out))) : w.heap.size ≤ gb163)); have n5_ := aM ((by rw [hg]; exact Nat.ne_of_lt (blk_lt (g := gb162) (o := .cells #[.slice none 0 0, .slice none 0 0] 26 (0, 0)) (by (with_reducible repeat (first|apply kN|apply kD|apply kA)); exact BK162.out)) : gb162 ≠ gb163)); have n6_ := aM ((by rw [hg]; exact Nat.ne_of_gt (blk_lt (g := gb162) (o := .cells #[.slice none 0 0, .slice none 0 0] 26 (0, 0)) (by (with_reducible repeat (first|apply kN|apply kD|apply kA)); exact BK162.out)) : gb163 ≠ gb162)); clear BK162; clear HB; have BK162 := n0_; have HB := n1_; have BK163 := n2_; have GW163 := n3_; have GE163 := n4_; have NB162_163 := n5_; have NB163_162 := n6_; clear n0_ n1_ n2_ n3_ n4_ n5_ n6_; clear hb hbox hg; have hnb18 := NB163_162.out; have hnc18 := NB162_163.out; have hcz19_0 : w17.cell? ⟨gb163, 0, none⟩ = some (.slice none 0 0) := (blk_cell BK163.out 0).trans rfl; have hcz19_1 : w17.cell? ⟨gb163, 1, none⟩ = some (.slice none 0 0) := (blk_cell BK163.out 1).trans rfl; have hfz19_0 := blk_frozen BK163.out 0; have hfz19_1 := blk_frozen BK163.out 1) | ((with_reducible refine gate_callee (f := 13) rfl ?_); refine goesL_ (some 11) rfl rfl Try.func13 (by kernel_rfl) rfl #[.agg #[.slice A0 l0.length c0, .slice A1 l1.length c1]] rfl (by (try simp only [List.map_toArray, List.map_cons, List.map_nil]); first | done | rfl | (simp only [List.length_drop, List.length_take]; rfl)) ?_; (with_reducible refine (tensor_Grid_fix_F_Right.calls k _ _ l0 _ _ l1 false _ ?side1 ?side2 ?side3 ?side4 A3.out).mono ?_); (case side1 => exact Kd.C_below HR0.out (by repeat (first | (with_reducible first|exact HB.out|apply bA|apply bN|apply bD|refine bS ?_ GE162.out|refine bS ?_ GE163.out)|exact HB.out))); (case side2 => exact HC0.out); (case side3 => exact Kd.C_below HR1.out (by repeat (first | (with_reducible first|exact HB.out|apply bA|apply bN|apply bD|refine bS ?_ GE162.out|refine bS ?_ GE163.out)|exact HB.out))); (case side4 => exact HC1.out); rintro e w20 ⟨rfl, hb⟩; refine ⟨_, rfl, ?_⟩; have n0_ := aM (blk_below (g := gb162) (o := .cells #[.slice none 0 0, .slice none 0 0] 26 (0, 0)) (by (with_reducible repeat (first|apply kN|apply kD|apply kA)); refine blk_far ?_ NB162_163.out _; (with_reducible repeat (first|apply kN|apply kD|apply kA)); refine blk_far ?_ NB162_163.out _; (with_reducible repeat (first|apply kN|apply kD|apply kA)); exact BK162.out) hb); have n1_ := aM (blk_below (g := gb163) (o := .cells #[.slice A0 l0.length c0, .slice A1 l1.length c1] 26 (0, 0)) (by (with_reducible repeat (first|apply kN|apply kD|apply kA)); refine blk_put (cs := #[.slice A0 l0.length c0, .slice none 0 0]) ?_ 1 _ rfl; (with_reducible repeat (first|apply kN|apply kD|apply kA)); refine blk_put (cs := #[.slice none 0 0, .slice none 0 0]) ?_ 0 _ rfl; (with_reducible repeat (first|apply kN|apply kD|apply kA)); exact BK163.out) hb); have n2_ := aM (below_step (by repeat (first | (with_reducible first|exact HB.out|apply bA|apply bN|apply bD|refine bS ?_ GE162.out|refine bS ?_ GE163.out)|exact HB.out)) hb); clear BK162; clear BK163; clear HB; have BK162 := n0_; have BK163 := n1_; have HB := n2_; clear n0_ n1_ n2_; (try clear hb); have hcz21_0 : w20.cell? ⟨gb162, 0, none⟩ = some (.slice none 0 0) := (blk_cell BK162.out 0).trans rfl; have hcz21_1 : w20.cell? ⟨gb162, 1, none⟩ = some (.slice none 0 0) := (blk_cell BK162.out 1).trans rfl; have hfz21_0 := blk_frozen BK162.out 0; have hfz21_1 := blk_frozen BK162.out 1))
   refine bodyPost_ret (results_ct rfl _ _ gb162 26 #[.slice none 0 0, .slice none 0 0] (0, 0) _ rfl (by (with_reducible repeat (first|apply kN|apply kD|apply kA)); refine blk_put (cs := #[.slice none 0 0, .slice none 0 0]) ?_ 1 _ rfl; (with_reducible repeat (first|apply kN|apply kD|apply kA)); refine blk_put (cs := #[.slice none 0 0, .slice none 0 0]) ?_ 0 _ rfl; (with_reducible repeat (first|apply kN|apply kD|apply kA)); exact BK162.out) Try.underlying26 rfl (by kernel_rfl)) rfl ?_
   exact ⟨_, _, by first | rfl | (simp [errW_none, errW_some] <;> rfl) | (simp [*, errW_none, errW_some] <;> rfl), by first|exact Kd.R_nil _ _ _ _ _|exact Kd.N_nil _ _ _ _ _|exact Kd.V_nil _ _ _ _ _|exact Kd.Q_nil _ _ _ _ _|exact Kd.S_nil _ _ _ _ _, by first|exact Kd.R_nil _ _ _ _ _|exact Kd.N_nil _ _ _ _ _|exact Kd.V_nil _ _ _ _ _|exact Kd.Q_nil _ _ _ _ _|exact Kd.S_nil _ _ _ _ _, by repeat (first | (with_reducible first|exact HB.out|apply bA|apply bN|apply bD|refine bS ?_ GE162.out|refine bS ?_ GE163.out)|exact HB.out)⟩

end Go.Proofs.Ytmekcfmhaflghaa.PJoi
