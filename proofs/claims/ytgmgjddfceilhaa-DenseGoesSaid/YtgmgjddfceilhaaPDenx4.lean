-- printed by wip/tools/xp.py of this project (not trusted: Lean checks it)
import Derived.Test.YtgmgjddfceilhaaPDenx0
import Derived.Test.YtgmgjddfceilhaaPDenx2
namespace Go.Proofs.Ytgmgjddfceilhaa.PDen
open Go.RowKit Go.Proofs.YtgmgjddfceilhaaW.PrintWords Go.Proofs.YtgmgjddfceilhaaW.PrintLast Go.Proofs.YtgmgjddfceilhaaW.PrintMore Go.Proofs.Ytgmgjddfceilhaa.XW
attribute [local go_sem] max2_int min2_int max_two min_two max_three min_three max_four min_four max_five min_five   -- for this text's walks alone
set_option linter.unusedVariables false
set_option linter.unusedSimpArgs false

/-! ### slices_Clone_shape_Shape_int: function 55 -/
def slices_Clone_shape_Shape_int.f (l0 : List Int) : Option (List Int) := (some (([] : List Int) : List Int)).bind fun y158 => (if y158.length + l0.length < 17592186044416 then (some (y158 ++ l0)) else (none))
set_option maxHeartbeats 8000000 in
set_option maxRecDepth 100000 in
theorem slices_Clone_shape_Shape_int.calls (A0 : Option Addr) (c0 : Nat) (l0 : List Int) (r : List Int) (w : World) (hr0 : Kd.C (Kd.int .i64) w A0 l0.length l0) (hc0 : l0.length ≤ c0) (h : slices_Clone_shape_Shape_int.f l0 = some r) :
  Calls Try.prog 55 #[.slice A0 l0.length c0] w fun e w' => ∃ v0_ : Value, e = .returned (v0_) ∧ Kd.R (Kd.int .i64) 3 w' w.heap.size (fun _ => True) v0_ r ∧ Below w.heap.size w w' := by
 have HR0 := Aside0.mk hr0
 have HC0 := Aside0.mk hc0
 clear hr0 hc0
 have HB := aM (Below.refl w.heap.size w)
 have H : ((some (([] : List Int) : List Int)).bind fun y158 => (if y158.length + l0.length < 17592186044416 then (some (y158 ++ l0)) else (none))) = some r := h
 clear h
 by_cases cN2 : A0.isNone = true
 ·have hqcN2 := fun (W : World) => (Lib.run_eql_slice_nil (P := Try.prog) W 23 3 A0 l0.length c0 0 0 Try.underlying22).trans (by rw [cN2])
  have hlcN2 : l0 = [] := C_isNil HR0.out cN2
  replace H : (some ([] : List Int)) = some r := by rw [hlcN2] at H; simpa using H
  clear hlcN2
  clear cN2
  as_aux_lemma =>
   obtain rfl := Option.some.inj H
   go_enter Try.func55, Try.ntmps55
   go_wp2
   go_ret
   exact ⟨_, by first | rfl | (simp [errW_none, errW_some] <;> rfl) | (simp [*, errW_none, errW_some] <;> rfl), by first|exact Kd.R_nil _ _ _ _ _|exact Kd.N_nil _ _ _ _ _|exact Kd.V_nil _ _ _ _ _|exact Kd.Q_nil _ _ _ _ _|exact Kd.S_nil _ _ _ _ _, by repeat (first | (with_reducible first|exact HB.out|apply bA|apply bN|apply bD)|exact HB.out)⟩
 ·have hqcN2 := fun (W : World) => (Lib.run_eql_slice_nil (P := Try.prog) W 23 3 A0 l0.length c0 0 0 Try.underlying22).trans (by rw [(Bool.not_eq_true _).mp cN2])
  clear cN2
  obtain ⟨y158, hy158⟩ : ∃ y_ : List Int, y_ = (([] : List Int)) := ⟨_, rfl⟩
  replace H : (if y158.length + l0.length < 17592186044416 then (some (y158 ++ l0)) else (none)) = some r := by first | (rw [hy158]; with_reducible exact H) | (have H2_ := (Option.bind_some _ _).symm.trans H; rw [hy158]; with_reducible exact H2_) | (have H2_ := (Option.bind_some _ _).symm.trans H; with_reducible exact H2_) | with_reducible exact H | (rw [hy158]; exact H)|exact H
  have Ny158 := Aside0.mk hy158
  clear hy158
  by_cases c3 : y158.length + l0.length < 17592186044416
  ·rw [if_pos c3] at H
   have LMc3 := Aside0.mk c3
   clear c3
   obtain ⟨y161, hy161⟩ : ∃ y_ : List Int, y_ = (y158 ++ l0) := ⟨_, rfl⟩
   replace H : (some y161) = some r := by first | (rw [hy161]; with_reducible exact H) | (have H2_ := (Option.bind_some _ _).symm.trans H; rw [hy161]; with_reducible exact H2_) | (have H2_ := (Option.bind_some _ _).symm.trans H; with_reducible exact H2_) | with_reducible exact H | (rw [hy161]; exact H)|exact H
   have Ny161 := Aside0.mk hy161
   clear hy161
   as_aux_lemma =>
    obtain rfl := Option.some.inj H
    go_enter Try.func55, Try.ntmps55
    go_wp2_with (first | ((with_reducible refine gate_dst (N := 5) rfl ?_); refine Kd.R_lit (Kd.int .i64) _ 3 ?hg (N := 5) ?hd (xs := ([] : List Int)) (inner := []) (ok := fun _ => True) (okp := fun _ => True) ?hr ?hp (fun _ hk => hk) trivial (Below.refl _ _) (Nat.le_refl _) (by simp) ?_; (case hd => rfl); (case hg => rfl); (case hr => first | (go_simp; done) | (go_simp; rfl)); (case hp => exact (Reps.none _ _)); intro v159 w4 ho5 hb hg_ hnew_; clear hg_ hnew_; (first | rw [← Ny158.out] at ho5 | (simp only [Int.reduceToNat] at ho5; rw [← Ny158.out] at ho5)); have n0_ := aM (Kd.R_lower ho5 (below_size (by repeat (first | (with_reducible first|exact HB.out|apply bA|apply bN|apply bD)|exact HB.out)))); have n1_ := aM (below_step (by repeat (first | (with_reducible first|exact HB.out|apply bA|apply bN|apply bD)|exact HB.out)) hb); clear HB; have HO160 := n0_; have HB := n1_; clear n0_ n1_; clear hb ho5) | ((with_reducible refine gate_builtin (b := .append) (xs := #[.tmp 5, .tmp 6]) rfl ?_); at_builtin; refine Kd.R_append_rows (Kd.int .i64) (w0 := w) w.heap.size rfl (.tmp 5) (.tmp 6) 23 3 (.int .i64 0) 8 rfl Try.underlying23 info3 rfl (by decide) (by omega) v159 y158 l0 _ _ _ (fun _ => True) (fun _ => False) rfl rfl ?aO ?aR (fun _ _ h => h) (fun _ h => h.elim) ?aF ?aB ?aS ?aL ?_; (case aR => repeat (first|exact (Kd.C_below HR0.out HB.out) | with_reducible first|apply cA|apply cN|apply cD)); (case aB => exact (by repeat (first | (with_reducible first|exact HB.out|apply bA|apply bN|apply bD)|exact HB.out))); (case aF => exact (fun _ _ => trivial)); (case aO => exact (by (with_reducible repeat (first|apply rA|apply rN|apply rD)); exact HO160.out)); (case aS => exact (below_size (by repeat (first | (with_reducible first|exact HB.out|apply bA|apply bN|apply bD)|exact HB.out)))); (case aL => have := LMc3.out; omega); intro v162 w6 ho hb hg hat; rw [← Ny161.out] at ho; have n0_ := aM (hb); have n1_ := aM (ho); clear HB; clear HO160; have HB := n0_; have HO163 := n1_; clear n0_ n1_; clear ho hb hg hat))
    go_ret
    exact ⟨_, by first | rfl | (simp [errW_none, errW_some] <;> rfl) | (simp [*, errW_none, errW_some] <;> rfl), by (with_reducible repeat (first|apply rA|apply rN|apply rD)); exact HO163.out, by repeat (first | (with_reducible first|exact HB.out|apply bA|apply bN|apply bD)|exact HB.out)⟩
  ·rw [if_neg c3] at H
   exact absurd H (by simp)

/-! ### shape_Shape_Copy: function 40 -/
def shape_Shape_Copy.f (l0 : List Int) : Option (List Int) := (slices_Clone_shape_Shape_int.f l0).bind fun t164 => (some t164)
set_option maxHeartbeats 8000000 in
set_option maxRecDepth 100000 in
theorem shape_Shape_Copy.calls (A0 : Option Addr) (c0 : Nat) (l0 : List Int) (r : List Int) (w : World) (hr0 : Kd.C (Kd.int .i64) w A0 l0.length l0) (hc0 : l0.length ≤ c0) (h : shape_Shape_Copy.f l0 = some r) :
  Calls Try.prog 40 #[.slice A0 l0.length c0] w fun e w' => ∃ v0_ : Value, e = .returned (v0_) ∧ Kd.R (Kd.int .i64) 3 w' w.heap.size (fun _ => True) v0_ r ∧ Below w.heap.size w w' := by
 have HR0 := Aside0.mk hr0
 have HC0 := Aside0.mk hc0
 clear hr0 hc0
 have HB := aM (Below.refl w.heap.size w)
 have H : ((slices_Clone_shape_Shape_int.f l0).bind fun t164 => (some t164)) = some r := h
 clear h
 replace H := Option.bind_eq_some_iff.mp H
 obtain ⟨t164, A20, H⟩ := H
 replace H : (some t164) = some r := H
 have A2 := Aside0.mk A20
 clear A20
 as_aux_lemma =>
  obtain rfl := Option.some.inj H
  go_enter Try.func40, Try.ntmps40
  go_wp2_with (first | ((with_reducible refine gate_callee (f := 55) rfl ?_); refine goesL_ (some 4) rfl rfl Try.func55 (by kernel_rfl) rfl #[.slice A0 l0.length c0] rfl (by (try simp only [List.map_toArray, List.map_cons, List.map_nil]); first | done | rfl | (simp only [List.length_drop, List.length_take]; rfl)) ?_; (with_reducible refine (slices_Clone_shape_Shape_int.calls _ _ l0 t164 _ ?side1 ?side2 A2.out).mono ?_); (case side1 => repeat (first|exact HR0.out | with_reducible first|apply cA|apply cN|apply cD)); (case side2 => exact HC0.out); rintro e w3 ⟨v165, rfl, ho0, hb⟩; refine ⟨_, rfl, ?_⟩; have n0_ := aM (Kd.R_lower ho0 (below_size (by repeat (first | (with_reducible first|exact HB.out|apply bA|apply bN|apply bD)|exact HB.out)))); have n1_ := aM (below_step (by repeat (first | (with_reducible first|exact HB.out|apply bA|apply bN|apply bD)|exact HB.out)) hb); clear HB; have HO166 := n0_; have HB := n1_; clear n0_ n1_; (try clear hb); (try clear ho0)))
  go_ret
  exact ⟨_, by first | rfl | (simp [errW_none, errW_some] <;> rfl) | (simp [*, errW_none, errW_some] <;> rfl), by (with_reducible repeat (first|apply rA|apply rN|apply rD)); exact HO166.out, by repeat (first | (with_reducible first|exact HB.out|apply bA|apply bN|apply bD)|exact HB.out)⟩

/-! ### tensor_Grid_fix_F_Copy: function 28 -/
def tensor_Grid_fix_F_Copy.f (l0_0 : List Int) (l0_1 : List Int) : Option (List Int × List Int) := (shape_Shape_Copy.f l0_0).bind fun t169 => ((slices_Clone_fix_F_fix_F.f l0_1).bind fun t172 => (some (t169, t172)))
def tensor_Grid_fix_F_Copy.T1 : Bool × List (List Nat × List Nat) := (true, [([], []), ([0], [0]), ([1], [1]), ([], []), ([3], [3]), ([4, 2], [4]), ([2, 5], [2, 5]), ([6, 5, 0, 1, 2, 3, 4, 5, 6], [6])])
def tensor_Grid_fix_F_Copy.B1 : List Nat := [0, 1, 3, 0, 8, 31, 63, 127]
theorem tensor_Grid_fix_F_Copy.tab1 : rtab .any (opsOf Try.f28 1) = tensor_Grid_fix_F_Copy.T1 := by kernel_rfl
theorem tensor_Grid_fix_F_Copy.bits1 : waitsOk tensor_Grid_fix_F_Copy.T1.2 tensor_Grid_fix_F_Copy.B1 = true := by kernel_rfl
set_option maxHeartbeats 8000000 in
set_option maxRecDepth 100000 in
theorem tensor_Grid_fix_F_Copy.calls (A0_0 : Option Addr) (c0_0 : Nat) (l0_0 : List Int) (A0_1 : Option Addr) (c0_1 : Nat) (l0_1 : List Int) (r1 : List Int) (r2 : List Int) (w : World) (hr0_0 : Kd.C (Kd.int .i64) w A0_0 l0_0.length l0_0) (hc0_0 : l0_0.length ≤ c0_0) (hr0_1 : Kd.C (Kd.int .i64) w A0_1 l0_1.length l0_1) (hc0_1 : l0_1.length ≤ c0_1) (h : tensor_Grid_fix_F_Copy.f l0_0 l0_1 = some (r1, r2)) :
  Calls Try.prog 28 #[.agg #[.slice A0_0 l0_0.length c0_0, .slice A0_1 l0_1.length c0_1]] w fun e w' => ∃ v0_ v1_ : Value, e = .returned (.agg #[v0_, v1_]) ∧ Kd.R (Kd.int .i64) 3 w' w.heap.size (fun _ => True) v0_ r1 ∧ Kd.R (Kd.int .i64) 47 w' w.heap.size (fun _ => True) v1_ r2 ∧ Below w.heap.size w w' := by
 have hu26 := Try.underlying26
 have HR0_0 := Aside0.mk hr0_0
 have HC0_0 := Aside0.mk hc0_0
 clear hr0_0 hc0_0
 have HR0_1 := Aside0.mk hr0_1
 have HC0_1 := Aside0.mk hc0_1
 clear hr0_1 hc0_1
 have HB := aM (Below.refl w.heap.size w)
 have H : ((shape_Shape_Copy.f l0_0).bind fun t169 => ((slices_Clone_fix_F_fix_F.f l0_1).bind fun t172 => (some (t169, t172)))) = some (r1, r2) := h
 clear h
 replace H := Option.bind_eq_some_iff.mp H
 obtain ⟨t169, A20, H⟩ := H
 replace H : ((slices_Clone_fix_F_fix_F.f l0_1).bind fun t172 => (some (t169, t172))) = some (r1, r2) := H
 have A2 := Aside0.mk A20
 clear A20
 replace H := Option.bind_eq_some_iff.mp H
 obtain ⟨t172, A30, H⟩ := H
 replace H : (some (t169, t172)) = some (r1, r2) := H
 have A3 := Aside0.mk A30
 clear A30
 as_aux_lemma =>
  simp only [Option.some.injEq, Prod.mk.injEq] at H
  obtain ⟨rfl, rfl⟩ := H
  go_enter Try.func28, Try.ntmps28
  try go_wp2_with (first | ((with_reducible refine gate_dst (N := 1) rfl ?_); refine box_event ?hg (N := 1) ?hd (cs := #[.slice A0_0 l0_0.length c0_0, .slice A0_1 l0_1.length c0_1]) (t := 26) ?hr ?_; (case hd => rfl); (case hg => rfl); (case hr => first | (go_simp; done) | (go_simp; rfl)); intro gb167 hg w4 hbox hb; have n0_ := aM (below_step (by repeat (first | (with_reducible first|exact HB.out|apply bA|apply bN|apply bD)|exact HB.out)) hb); have n1_ := aM (hbox); have n2_ := aM ((by rw [hg]; exact (below_size (by repeat (first | (with_reducible first|exact HB.out|apply bA|apply bN|apply bD)|exact HB.out))) : w.heap.size ≤ gb167)); have n3_ := aM ((by rw [hg]; exact (below_size (by repeat (first | (with_reducible first|exact HB.out|apply bA|apply bN|apply bD)|exact HB.out))) : w.heap.size ≤ gb167)); clear HB; have HB := n0_; have BK167 := n1_; have GW167 := n2_; have GE167 := n3_; clear n0_ n1_ n2_ n3_; clear hb hbox hg) | ((with_reducible refine gate_dst (N := 2) rfl ?_); refine box_event ?hg (N := 2) ?hd (cs := #[.slice none 0 0, .slice none 0 0]) (t := 26) ?hr ?_; (case hd => rfl); (case hg => rfl); (case hr => first | (go_simp; done) | (go_simp; rfl)); intro gb168 hg w5 hbox hb; have n0_ := aM (blk_below (g := gb167) (o := .cells #[.slice A0_0 l0_0.length c0_0, .slice A0_1 l0_1.length c0_1] 26 (0, 0)) (by (with_reducible repeat (first|apply kN|apply kD|apply kA)); exact BK167.out) hb); have n1_ := aM (below_step (by repeat (first | (with_reducible first|exact HB.out|apply bA|apply bN|apply bD|refine bS ?_ GE167.out)|exact HB.out)) hb); have n2_ := aM (hbox); have n3_ := aM ((by rw [hg]; exact (below_size (by repeat (first | (with_reducible first|exact HB.out|apply bA|apply bN|apply bD|refine bS ?_ GE167.out)|exact HB.out))) : w.heap.size ≤ gb168)); have n4_ := aM ((by rw [hg]; exact (below_size (by repeat (first | (with_reducible first|exact HB.out|apply bA|apply bN|apply bD|refine bS ?_ GE167.out)|exact HB.out))) : w.heap.size ≤ gb168)); have n5_ := aM ((by rw [hg]; exact Nat.ne_of_lt (blk_lt (g := gb167) (o := .cells #[.slice A0_0 l0_0.length c0_0, .slice A0_1 l0_1.length c0_1] 26 (0, 0)) (by (with_reducible repeat (first|apply kN|apply kD|apply kA)); exact BK167.out)) : gb167 ≠ gb168)); have n6_ := aM ((by rw [hg]; exact Nat.ne_of_gt (blk_lt (g := gb167) (o := .cells #[.slice A0_0 l0_0.length c0_0, .slice A0_1 l0_1.length c0_1] 26 (0, 0)) (by (with_reducible repeat (first|apply kN|apply kD|apply kA)); exact BK167.out)) : gb168 ≠ gb167)); clear BK167; clear HB; have BK167 := n0_; have HB := n1_; have BK168 := n2_; have GW168 := n3_; have GE168 := n4_; have NB167_168 := n5_; have NB168_167 := n6_; clear n0_ n1_ n2_ n3_ n4_ n5_ n6_; clear hb hbox hg))
  have n0_ := aM (blk_drew BK167.out)
  have n1_ := aM (blk_drew BK168.out)
  have n2_ := aM (below_drew1 HB.out)
  clear BK167
  clear BK168
  clear HB
  have BK167 := n0_
  have BK168 := n1_
  have HB := n2_
  clear n0_ n1_ n2_
  refine start_ (n := 8) (S := fun w' => w'.cell? ⟨gb167, 0, none⟩ = some (.slice A0_0 l0_0.length c0_0) ∧ w'.cell? ⟨gb167, 1, none⟩ = some (.slice A0_1 l0_1.length c0_1)) (ds := []) #[false, false, false, false, false, false, false, false] (by kernel_rfl) rfl rfl ⟨(blk_cell BK167.out 0).trans rfl, (blk_cell BK167.out 1).trans rfl⟩ (fun hHeld => ?_); refine with_tabW tensor_Grid_fix_F_Copy.tab1 tensor_Grid_fix_F_Copy.bits1 (fun HT_ HW_ => ?_)
  generalize w5.drew = w6 at BK167 BK168 HB hHeld ⊢
  refine pure_ (i := 0) (N := some 3) (v := ?_) (a' := ?_) #[true, false, false, false, false, false, false, false] rfl rfl (any_of HT_.out (by kernel_rfl)) (fun _ _ _ h => h) (Or.inl ⟨by rfl, ?_⟩) ?_ ?_
  rotate_left
  ·intro w'
   go_simp
   with_reducible rfl
  rotate_left
  ·simp only [Act.put, List.setIfInBounds_toArray, List.set_cons_zero, List.set_cons_succ, i64_w, i32_w]
   rfl
  refine pure_ (i := 3) (N := some 6) (v := ?_) (a' := ?_) #[true, false, false, true, false, false, false, false] rfl rfl (any_of HT_.out (by kernel_rfl)) (fun _ _ _ h => h) (Or.inl ⟨by rfl, ?_⟩) ?_ ?_
  rotate_left
  ·intro w'
   go_simp
   with_reducible rfl
  rotate_left
  ·simp only [Act.put, List.setIfInBounds_toArray, List.set_cons_zero, List.set_cons_succ, i64_w, i32_w]
   rfl
  refine take_ (i := 1) (N := some 4) (v := ?_) (a' := ?_) #[true, true, false, true, false, false, false, false] rfl rfl (take_ofW HT_.out HW_.out (by kernel_rfl)) (fun _ _ _ h => h) (Or.inl ⟨by rfl, ?_⟩) hHeld ?_ ?_
  rotate_left
  ·rintro w' ⟨s0, s1⟩
   go_simp
   with_reducible rfl
  rotate_left
  ·simp only [Act.put, List.setIfInBounds_toArray, List.set_cons_zero, List.set_cons_succ, i64_w, i32_w]
   rfl
  refine take_ (i := 4) (N := some 7) (v := ?_) (a' := ?_) #[true, true, false, true, true, false, false, false] rfl rfl (take_ofW HT_.out HW_.out (by kernel_rfl)) (fun _ _ _ h => h) (Or.inl ⟨by rfl, ?_⟩) hHeld ?_ ?_
  rotate_left
  ·rintro w' ⟨s0, s1⟩
   go_simp
   with_reducible rfl
  rotate_left
  ·simp only [Act.put, List.setIfInBounds_toArray, List.set_cons_zero, List.set_cons_succ, i64_w, i32_w]
   rfl
  refine one_ (i := 2) (N := some 5) #[true, true, true, true, true, false, false, false] rfl rfl (one_of HT_.out (by kernel_rfl)) (by decide) (fun K hK => ?_)
  refine goes_ Try.func40 (by kernel_rfl) rfl #[.slice A0_0 l0_0.length c0_0] (by rfl) rfl rfl (by (try simp only [List.map_toArray, List.map_cons, List.map_nil]); first | done | rfl | (simp only [List.length_drop, List.length_take]; rfl)) ?_
  with_reducible refine (shape_Shape_Copy.calls _ _ l0_0 t169 _ ?side1 ?side2 A2.out).mono ?_
  (case side1 => repeat (first|exact (Kd.C_below HR0_0.out HB.out) | with_reducible first|apply cA|apply cN|apply cD))
  (case side2 => exact HC0_0.out)
  rintro e w7 ⟨v170, rfl, ho0, hb⟩
  refine ⟨_, rfl, ?_⟩
  have n0_ := aM (Kd.R_lower ho0 (below_size (by repeat (first | (with_reducible first|exact HB.out|apply bA|apply bN|apply bD|refine bS ?_ GE167.out|refine bS ?_ GE168.out)|exact HB.out))))
  have n1_ := aM (blk_below (g := gb167) (o := .cells #[.slice A0_0 l0_0.length c0_0, .slice A0_1 l0_1.length c0_1] 26 (0, 0)) (by (with_reducible repeat (first|apply kN|apply kD|apply kA)); exact BK167.out) hb)
  have n2_ := aM (blk_below (g := gb168) (o := .cells #[.slice none 0 0, .slice none 0 0] 26 (0, 0)) (by (with_reducible repeat (first|apply kN|apply kD|apply kA)); exact BK168.out) hb)
  have n3_ := aM (below_step (by repeat (first | (with_reducible first|exact HB.out|apply bA|apply bN|apply bD|refine bS ?_ GE167.out|refine bS ?_ GE168.out)|exact HB.out)) hb)
  clear BK167
  clear BK168
  clear HB
  have HO171 := n0_
  have BK167 := n1_
  have BK168 := n2_
  have HB := n3_
  clear n0_ n1_ n2_ n3_
  (try clear hb)
  skip
  (try clear hk)
  skip
  (try clear ho0)
  refine hK.out _ _ ⟨(blk_cell BK167.out 0).trans rfl, (blk_cell BK167.out 1).trans rfl⟩ (fun hHeld => ?_)
  clear hK K
  refine norm_ (a' := ?_) ?_ ?_
  rotate_left
  ·show Act.put _ (some 5) _ = _
   simp only [Act.put, List.setIfInBounds_toArray, List.set_cons_zero, List.set_cons_succ, i64_w, i32_w]
   rfl
  refine one_ (i := 5) (N := some 8) #[true, true, true, true, true, true, false, false] rfl rfl (one_of HT_.out (by kernel_rfl)) (by decide) (fun K hK => ?_)
  refine goes_ Try.func37 (by kernel_rfl) rfl #[.slice A0_1 l0_1.length c0_1] (by rfl) rfl rfl (by (try simp only [List.map_toArray, List.map_cons, List.map_nil]); first | done | rfl | (simp only [List.length_drop, List.length_take]; rfl)) ?_
  with_reducible refine (slices_Clone_fix_F_fix_F.calls _ _ l0_1 t172 _ ?side1 ?side2 A3.out).mono ?_
  (case side1 => repeat (first|exact (Kd.C_below HR0_1.out HB.out) | with_reducible first|apply cA|apply cN|apply cD))
  (case side2 => exact HC0_1.out)
  rintro e w8 ⟨v173, rfl, ho0, hb⟩
  refine ⟨_, rfl, ?_⟩
  have n0_ := aM (Kd.R_below (by (with_reducible repeat (first|apply rA|apply rN|apply rD)); exact HO171.out) hb)
  have n1_ := aM (Kd.R_lower ho0 (below_size (by repeat (first | (with_reducible first|exact HB.out|apply bA|apply bN|apply bD|refine bS ?_ GE167.out|refine bS ?_ GE168.out)|exact HB.out))))
  have n2_ := aM (blk_below (g := gb167) (o := .cells #[.slice A0_0 l0_0.length c0_0, .slice A0_1 l0_1.length c0_1] 26 (0, 0)) (by (with_reducible repeat (first|apply kN|apply kD|apply kA)); exact BK167.out) hb)
  have n3_ := aM (blk_below (g := gb168) (o := .cells #[.slice none 0 0, .slice none 0 0] 26 (0, 0)) (by (with_reducible repeat (first|apply kN|apply kD|apply kA)); exact BK168.out) hb)
  have n4_ := aM (below_step (by repeat (first | (with_reducible first|exact HB.out|apply bA|apply bN|apply bD|refine bS ?_ GE167.out|refine bS ?_ GE168.out)|exact HB.out)) hb)
  clear HO171
  clear BK167
  clear BK168
  clear HB
  have HO171 := n0_
  have HO174 := n1_
  have BK167 := n2_
  have BK168 := n3_
  have HB := n4_
  clear n0_ n1_ n2_ n3_ n4_
  (try clear hb)
  skip
  (try clear hk)
  skip
  (try clear ho0)
  obtain ⟨Ao9, co9, eo9⟩ := Kd.R_slice HO174.out
  (first | subst eo9 | (injection eo9 with f1_ f2_ f3_; have f4_ := f1_.symm; have f5_ := f3_.symm; clear f1_ f2_ f3_; subst f4_; subst f5_))
  obtain ⟨Ao10, co10, eo10⟩ := Kd.R_slice HO171.out
  (first | subst eo10 | (injection eo10 with f1_ f2_ f3_; have f4_ := f1_.symm; have f5_ := f3_.symm; clear f1_ f2_ f3_; subst f4_; subst f5_))
  refine hK.out _ _ ⟨(blk_cell BK167.out 0).trans rfl, (blk_cell BK167.out 1).trans rfl⟩ (fun hHeld => ?_)
  clear hK K
  refine norm_ (a' := ?_) ?_ ?_
  rotate_left
  ·show Act.put _ (some 8) _ = _
   simp only [Act.put, List.setIfInBounds_toArray, List.set_cons_zero, List.set_cons_succ, i64_w, i32_w]
   rfl
  refine pure_ (i := 6) (N := some 9) (v := ?_) (a' := ?_) #[true, true, true, true, true, true, true, false] rfl rfl (any_of HT_.out (by kernel_rfl)) (fun _ _ _ h => h) (Or.inl ⟨by rfl, ?_⟩) ?_ ?_
  rotate_left
  ·intro w'
   go_simp
   with_reducible rfl
  rotate_left
  ·simp only [Act.put, List.setIfInBounds_toArray, List.set_cons_zero, List.set_cons_succ, i64_w, i32_w]
   rfl
  refine one_ (i := 7) (N := none) #[true, true, true, true, true, true, true, true] rfl rfl (one_of HT_.out (by kernel_rfl)) (by decide) (fun K hK => ?_)
  have hs11 : w8.cell? ⟨gb168, 0, none⟩ = some (.slice none 0 0) := (blk_cell BK168.out 0).trans rfl
  have hfs11 := blk_frozen BK168.out 0
  have hns11_0 := NB167_168.out
  have hms11_0 := NB168_167.out
  have hs12 : w8.cell? ⟨gb168, 1, none⟩ = some (.slice none 0 0) := (blk_cell BK168.out 1).trans rfl
  have hfs12 := blk_frozen BK168.out 1
  have hns12_0 := NB167_168.out
  have hms12_0 := NB168_167.out
  refine skip_ (w1 := ?_) (by rfl) rfl ?_ ?_
  rotate_left
  ·go_simp
   rfl
  refine hK.out _ _ ⟨((cell_far (p := ⟨gb168, _, none⟩) NB167_168.out _).trans (((cell_far (p := ⟨gb168, _, none⟩) NB167_168.out _).trans (hHeld.1)))), ((cell_far (p := ⟨gb168, _, none⟩) NB167_168.out _).trans (((cell_far (p := ⟨gb168, _, none⟩) NB167_168.out _).trans (hHeld.2))))⟩ (fun hHeld => ?_)
  clear hK K
  refine done_ (done_of HT_.out (by kernel_rfl)) ?_
  try go_wp2
  refine bodyPost_ret (results_cell_row rfl _ _ gb168 26 #[.slice Ao10 t169.length co10, .slice Ao9 t172.length co9] (0, 0) _ rfl (by (with_reducible repeat (first|apply kN|apply kD|apply kA)); refine blk_put (cs := #[.slice Ao10 t169.length co10, .slice none 0 0]) ?_ 1 _ rfl; (with_reducible repeat (first|apply kN|apply kD|apply kA)); refine blk_put (cs := #[.slice none 0 0, .slice none 0 0]) ?_ 0 _ rfl; (with_reducible repeat (first|apply kN|apply kD|apply kA)); exact BK168.out) Try.underlying26 rfl (by kernel_rfl)) rfl ?_
  exact ⟨_, _, by first | rfl | (simp [errW_none, errW_some] <;> rfl) | (simp [*, errW_none, errW_some] <;> rfl), by (with_reducible repeat (first|apply rA|apply rN|apply rD)); exact Kd.R_mono (Kd.R_far (p := ⟨gb168, 1, none⟩) (Kd.R_far (p := ⟨gb168, 0, none⟩) (Kd.R_types HO171.out BK168.out (by decide)) (fun _ hk => hk.2) (.slice Ao10 t169.length co10)) (fun _ hk => hk.2) (.slice Ao9 t172.length co9)) (fun _ hk => trivial), by (with_reducible repeat (first|apply rA|apply rN|apply rD)); exact Kd.R_mono (Kd.R_far (p := ⟨gb168, 1, none⟩) (Kd.R_far (p := ⟨gb168, 0, none⟩) (Kd.R_types HO174.out BK168.out (by decide)) (fun _ hk => hk.2) (.slice Ao10 t169.length co10)) (fun _ hk => hk.2) (.slice Ao9 t172.length co9)) (fun _ hk => trivial), by repeat (first | (with_reducible first|exact HB.out|apply bA|apply bN|apply bD|refine bS ?_ GE167.out|refine bS ?_ GE168.out)|exact HB.out)⟩

/-! ### fix_signed: function 46 -/
mutual
def fix_signed.j0 : Nat → Int → Bool → Bool → Bool → Option (Int)
 | 0, _, _, _, _ => none
 | k + 1, x0, x1, x2, x7 => if x7 = true then (some (-9223372036854775808)) else (if x1 = true then (fix_signed.j1 k x0 x2 true) else (fix_signed.j1 k x0 x2 (decide (x0 ≥ 9223372036854775808))))
def fix_signed.j1 : Nat → Int → Bool → Bool → Option (Int)
 | 0, _, _, _ => none
 | k + 1, x0, x2, x16 => if x16 = true then (some 9223372036854775807) else (if x2 = true then (some (wrap64 (-(wrap64 (x0))))) else (some (wrap64 (x0))))
end
def fix_signed.f (k : Nat) (a0 : Int) (a1 : Bool) (a2 : Bool) : Option (Int) := if a2 = true then (if a1 = true then (fix_signed.j0 k a0 a1 a2 true) else (fix_signed.j0 k a0 a1 a2 (decide (a0 ≥ 9223372036854775808)))) else (fix_signed.j0 k a0 a1 a2 false)
theorem fix_signed.mono_l : ∀ k, (∀ y0 y1 y2 y3, LeO (fix_signed.j0 k y0 y1 y2 y3) (fix_signed.j0 (k + 1) y0 y1 y2 y3)) ∧ (∀ y0 y1 y2, LeO (fix_signed.j1 k y0 y1 y2) (fix_signed.j1 (k + 1) y0 y1 y2))
 | 0 => ⟨fun _ _ _ _ r h => by simp [fix_signed.j0] at h, fun _ _ _ r h => by simp [fix_signed.j1] at h⟩
 | k + 1 => by
  obtain ⟨ih0, ih1⟩ := fix_signed.mono_l k
  refine ⟨?_, ?_⟩
  ·intro y0 y1 y2 y3
   unfold fix_signed.j0
   repeat' first
   | (with_reducible exact ih0 _ _ _ _)
   | (with_reducible exact ih1 _ _ _)
   | (with_reducible exact LeO.refl _)
   | (with_reducible exact LeO.none _)
   | (with_reducible refine LeO.ite ?_ ?_)
   | (with_reducible refine LeO.bind ?_ (fun _ => ?_))
   | exact ih0 _ _ _ _
   | exact ih1 _ _ _
   | exact LeO.none _
   | refine LeO.ite ?_ ?_
   | refine LeO.bind ?_ (fun _ => ?_)
  ·intro y0 y1 y2
   unfold fix_signed.j1
   repeat' first
   | (with_reducible exact ih0 _ _ _ _)
   | (with_reducible exact ih1 _ _ _)
   | (with_reducible exact LeO.refl _)
   | (with_reducible exact LeO.none _)
   | (with_reducible refine LeO.ite ?_ ?_)
   | (with_reducible refine LeO.bind ?_ (fun _ => ?_))
   | exact ih0 _ _ _ _
   | exact ih1 _ _ _
   | exact LeO.none _
   | refine LeO.ite ?_ ?_
   | refine LeO.bind ?_ (fun _ => ?_)
theorem fix_signed.mono : ∀ a0 a1 a2 k, LeO (fix_signed.f k a0 a1 a2) (fix_signed.f (k + 1) a0 a1 a2) := by
 intro a0 a1 a2 k
 obtain ⟨ih0, ih1⟩ := fix_signed.mono_l k
 unfold fix_signed.f
 repeat' first
   | (with_reducible exact ih0 _ _ _ _)
   | (with_reducible exact ih1 _ _ _)
   | (with_reducible exact LeO.refl _)
   | (with_reducible exact LeO.none _)
   | (with_reducible refine LeO.ite ?_ ?_)
   | (with_reducible refine LeO.bind ?_ (fun _ => ?_))
   | exact ih0 _ _ _ _
   | exact ih1 _ _ _
   | exact LeO.none _
   | refine LeO.ite ?_ ?_
   | refine LeO.bind ?_ (fun _ => ?_)
set_option maxHeartbeats 8000000 in
set_option maxRecDepth 100000 in
theorem fix_signed.calls (k : Nat) (a0 : Int) (a1 : Bool) (a2 : Bool) (r : Int) (w : World) (h : fix_signed.f k a0 a1 a2 = some r) :
  Calls Try.prog 46 #[.int .u64 a0, .bool a1, .bool a2] w fun e w' => e = .returned (.int .i64 r) ∧ Drawn0 w w' := by
 have H : (if a2 = true then (if a1 = true then (fix_signed.j0 k a0 a1 a2 true) else (fix_signed.j0 k a0 a1 a2 (decide (a0 ≥ 9223372036854775808)))) else (fix_signed.j0 k a0 a1 a2 false)) = some r := h
 clear h
 have HC4 := Aside0.mk H
 clear H
 go_enter Try.func46, Try.ntmps46
 go_upto_region 1 with (fail)
 go_cut [7] (fun v7 wc => ∃ (kq : Nat) (x7_3 : Bool), v7 = .bool x7_3 ∧ Aside0 (fix_signed.j0 kq a0 a1 a2 x7_3 = some r) ∧ Aside0 (kq ≤ k) ∧ Drawn0 w wc)
 case first =>
  have H := HC4.out
  clear HC4
  by_cases c5 : a2 = true
  ·subst c5
   have H1 : (if a1 = true then (fix_signed.j0 k a0 a1 true true) else (fix_signed.j0 k a0 a1 true (decide (a0 ≥ 9223372036854775808)))) = some r := by rw [if_pos rfl] at H; exact H
   clear H
   have H := H1
   clear H1
   by_cases c6 : a1 = true
   ·subst c6
    have H1 : (fix_signed.j0 k a0 true true true) = some r := by rw [if_pos rfl] at H; exact H
    clear H
    have H := H1
    clear H1
    as_aux_lemma =>
     have H' := Aside0.mk H
     clear H
     go_wp2
     go_meet
     case rel => exact ⟨_, (true), (by first | rfl | (simp; done) | (simp [*]; done)), H', ⟨by first | omega|exact Nat.le_refl _⟩, by repeat (first|exact Drawn0.refl _|apply Drawn0.step)⟩
   ·replace c6 := Bool.eq_false_iff.mpr c6
    subst c6
    have H1 : (fix_signed.j0 k a0 false true (decide (a0 ≥ 9223372036854775808))) = some r := by rw [if_neg (show ¬ (false = true) by decide)] at H; exact H
    clear H
    have H := H1
    clear H1
    as_aux_lemma =>
     have H' := Aside0.mk H
     clear H
     go_wp2
     go_meet
     case rel => exact ⟨_, (decide (a0 ≥ 9223372036854775808)), (by first | rfl | (simp; done) | (simp [*]; done)), H', ⟨by first | omega|exact Nat.le_refl _⟩, by repeat (first|exact Drawn0.refl _|apply Drawn0.step)⟩
  ·replace c5 := Bool.eq_false_iff.mpr c5
   subst c5
   have H1 : (fix_signed.j0 k a0 a1 false false) = some r := by rw [if_neg (show ¬ (false = true) by decide)] at H; exact H
   clear H
   have H := H1
   clear H1
   as_aux_lemma =>
    have H' := Aside0.mk H
    clear H
    go_wp2
    go_meet
    case rel => exact ⟨_, (false), (by first | rfl | (simp; done) | (simp [*]; done)), H', ⟨by first | omega|exact Nat.le_refl _⟩, by repeat (first|exact Drawn0.refl _|apply Drawn0.step)⟩
 case rest =>
  clear HC4
  (try clear c5); (try clear c6)
  obtain ⟨kq, x7_3, rfl, HA, HJ3, ⟨mc3, rfl⟩⟩ := hcut
  cases kq with
  | zero => exact absurd HA.out (by simp [fix_signed.j0])
  | succ kj3 =>
   have H := HA.out
   clear HA
   simp only [fix_signed.j0] at H
   by_cases c7 : x7_3 = true
   ·subst c7
    have H1 : (some (-9223372036854775808)) = some r := by rw [if_pos rfl] at H; exact H
    clear H
    have H := H1
    clear H1
    as_aux_lemma =>
     obtain rfl := Option.some.inj H
     go_wp2
     go_ret
     exact ⟨by first | rfl | (simp; done) | (simp [*]; done), by repeat (first|exact Drawn0.refl _|apply Drawn0.step)⟩
   ·replace c7 := Bool.eq_false_iff.mpr c7
    subst c7
    have H1 : (if a1 = true then (fix_signed.j1 kj3 a0 a2 true) else (fix_signed.j1 kj3 a0 a2 (decide (a0 ≥ 9223372036854775808)))) = some r := by rw [if_neg (show ¬ (false = true) by decide)] at H; exact H
    clear H
    have H := H1
    clear H1
    have HC8 := Aside0.mk H
    clear H
    go_upto_region 3 with (fail)
    go_cut [16] (fun v16 wc => ∃ (kq : Nat) (x16_7 : Bool), v16 = .bool x16_7 ∧ Aside0 (fix_signed.j1 kq a0 a2 x16_7 = some r) ∧ Aside0 (kq ≤ kj3) ∧ Drawn0 w wc)
    case first =>
     have H := HC8.out
     clear HC8
     by_cases c9 : a1 = true
     ·subst c9
      have H1 : (fix_signed.j1 kj3 a0 a2 true) = some r := by rw [if_pos rfl] at H; exact H
      clear H
      have H := H1
      clear H1
      as_aux_lemma =>
       have H' := Aside0.mk H
       clear H
       go_wp2
       go_meet
       case rel => exact ⟨_, (true), (by first | rfl | (simp; done) | (simp [*]; done)), H', ⟨by have := HJ3.out; first | omega|exact Nat.le_refl _⟩, by repeat (first|exact Drawn0.refl _|apply Drawn0.step)⟩
     ·replace c9 := Bool.eq_false_iff.mpr c9
      subst c9
      have H1 : (fix_signed.j1 kj3 a0 a2 (decide (a0 ≥ 9223372036854775808))) = some r := by rw [if_neg (show ¬ (false = true) by decide)] at H; exact H
      clear H
      have H := H1
      clear H1
      as_aux_lemma =>
       have H' := Aside0.mk H
       clear H
       go_wp2
       go_meet
       case rel => exact ⟨_, (decide (a0 ≥ 9223372036854775808)), (by first | rfl | (simp; done) | (simp [*]; done)), H', ⟨by have := HJ3.out; first | omega|exact Nat.le_refl _⟩, by repeat (first|exact Drawn0.refl _|apply Drawn0.step)⟩
    case rest =>
     clear HC8
     (try clear c5); (try clear c6); (try clear c7); (try clear c9)
     obtain ⟨kq, x16_7, rfl, HA, HJ7, ⟨mc7, rfl⟩⟩ := hcut
     cases kq with
     | zero => exact absurd HA.out (by simp [fix_signed.j1])
     | succ kj7 =>
      have H := HA.out
      clear HA
      simp only [fix_signed.j1] at H
      by_cases c10 : x16_7 = true
      ·subst c10
       have H1 : (some 9223372036854775807) = some r := by rw [if_pos rfl] at H; exact H
       clear H
       have H := H1
       clear H1
       as_aux_lemma =>
        obtain rfl := Option.some.inj H
        go_wp2
        go_ret
        exact ⟨by first | rfl | (simp; done) | (simp [*]; done), by repeat (first|exact Drawn0.refl _|apply Drawn0.step)⟩
      ·replace c10 := Bool.eq_false_iff.mpr c10
       subst c10
       have H1 : (if a2 = true then (some (wrap64 (-(wrap64 (a0))))) else (some (wrap64 (a0)))) = some r := by rw [if_neg (show ¬ (false = true) by decide)] at H; exact H
       clear H
       have H := H1
       clear H1
       by_cases c11 : a2 = true
       ·subst c11
        have H1 : (some (wrap64 (-(wrap64 (a0))))) = some r := by rw [if_pos rfl] at H; exact H
        clear H
        have H := H1
        clear H1
        as_aux_lemma =>
         obtain rfl := Option.some.inj H
         go_wp2
         go_ret
         exact ⟨by first | rfl | (simp; done) | (simp [*]; done), by repeat (first|exact Drawn0.refl _|apply Drawn0.step)⟩
       ·replace c11 := Bool.eq_false_iff.mpr c11
        subst c11
        have H1 : (some (wrap64 (a0))) = some r := by rw [if_neg (show ¬ (false = true) by decide)] at H; exact H
        clear H
        have H := H1
        clear H1
        as_aux_lemma =>
         obtain rfl := Option.some.inj H
         go_wp2
         go_ret
         exact ⟨by first | rfl | (simp; done) | (simp [*]; done), by repeat (first|exact Drawn0.refl _|apply Drawn0.step)⟩

/-! ### fix_F_Add: function 30 -/
def fix_F_Add.f (k : Nat) (a0 : Int) (a1 : Int) : Option (Int) := if ((decide (a0 < 0)) == (decide (a1 < 0))) = true then (if ((decide ((wrap64 (a0 + a1)) < 0)) != (decide (a0 < 0))) = true then ((fix_signed.f k 0 true (decide (a0 < 0))).bind fun t175 => (some t175)) else (some (wrap64 (a0 + a1)))) else (some (wrap64 (a0 + a1)))
theorem fix_F_Add.mono : ∀ a0 a1 k, LeO (fix_F_Add.f k a0 a1) (fix_F_Add.f (k + 1) a0 a1) := by
 intro a0 a1 k
 unfold fix_F_Add.f
 repeat' first
   | (with_reducible exact fix_signed.mono _ _ _ _)
   | (with_reducible exact LeO.refl _)
   | (with_reducible exact LeO.none _)
   | (with_reducible refine LeO.ite ?_ ?_)
   | (with_reducible refine LeO.bind ?_ (fun _ => ?_))
   | exact fix_signed.mono _ _ _ _
   | exact LeO.none _
   | refine LeO.ite ?_ ?_
   | refine LeO.bind ?_ (fun _ => ?_)
set_option maxHeartbeats 8000000 in
set_option maxRecDepth 100000 in
theorem fix_F_Add.calls (k : Nat) (a0 : Int) (a1 : Int) (r : Int) (w : World) (h : fix_F_Add.f k a0 a1 = some r) :
  Calls Try.prog 30 #[.int .i64 a0, .int .i64 a1] w fun e w' => e = .returned (.int .i64 r) ∧ Drawn0 w w' := by
 have H : (if ((decide (a0 < 0)) == (decide (a1 < 0))) = true then (if ((decide ((wrap64 (a0 + a1)) < 0)) != (decide (a0 < 0))) = true then ((fix_signed.f k 0 true (decide (a0 < 0))).bind fun t175 => (some t175)) else (some (wrap64 (a0 + a1)))) else (some (wrap64 (a0 + a1)))) = some r := h
 clear h
 by_cases c3 : ((decide (a0 < 0)) == (decide (a1 < 0))) = true
 ·rw [if_pos c3] at H
  have c3b0 : ((decide (a0 < 0)) == (decide (a1 < 0))) = true := c3
  (try (have c3b1 : decide ((decide (a0 < 0)) = (decide (a1 < 0))) = true := by simpa using c3))
  (try (have c3b2 : ((decide (a0 < 0)) == (decide (a1 < 0))) = true := by simpa using c3))
  clear c3
  by_cases c4 : ((decide ((wrap64 (a0 + a1)) < 0)) != (decide (a0 < 0))) = true
  ·rw [if_pos c4] at H
   have c4b0 : ((decide ((wrap64 (a0 + a1)) < 0)) != (decide (a0 < 0))) = true := c4
   (try (have c4b1 : decide ((decide ((wrap64 (a0 + a1)) < 0)) = (decide (a0 < 0))) = false := by simpa using c4))
   (try (have c4b2 : ((decide ((wrap64 (a0 + a1)) < 0)) == (decide (a0 < 0))) = false := by simpa using c4))
   (try (have c4b3 : ¬ ((decide ((wrap64 (a0 + a1)) < 0)) = (decide (a0 < 0))) := by simpa using c4))
   clear c4
   replace H := Option.bind_eq_some_iff.mp H
   obtain ⟨t175, A50, H⟩ := H
   replace H : (some t175) = some r := H
   have A5 := Aside0.mk A50
   clear A50
   as_aux_lemma =>
    obtain rfl := Option.some.inj H
    go_enter Try.func30, Try.ntmps30
    go_wp2_with (first | ((with_reducible refine gate_callee (f := 46) rfl ?_); refine goesL_ (some 23) rfl rfl Try.func46 (by kernel_rfl) rfl #[.int .u64 0, .bool true, .bool (decide (a0 < 0))] rfl (by (try simp only [List.map_toArray, List.map_cons, List.map_nil]); first | done | rfl | (simp only [List.length_drop, List.length_take]; rfl)) ?_; (with_reducible refine (fix_signed.calls k 0 true (decide (a0 < 0)) t175 _ A5.out).mono ?_); rintro e w' ⟨rfl, ⟨nd, rfl⟩⟩; refine ⟨_, rfl, ?_⟩))
    go_ret
    exact ⟨by first | rfl | (simp; done) | (simp [*]; done), by repeat (first|exact Drawn0.refl _|apply Drawn0.step)⟩
  ·rw [if_neg c4] at H
   have c4b0 : ((decide ((wrap64 (a0 + a1)) < 0)) != (decide (a0 < 0))) = false := by simpa using c4
   (try (have c4b1 : decide ((decide ((wrap64 (a0 + a1)) < 0)) = (decide (a0 < 0))) = true := by simpa using c4))
   (try (have c4b2 : ((decide ((wrap64 (a0 + a1)) < 0)) == (decide (a0 < 0))) = true := by simpa using c4))
   clear c4
   as_aux_lemma =>
    obtain rfl := Option.some.inj H
    go_enter Try.func30, Try.ntmps30
    go_wp2
    go_ret
    exact ⟨by first | rfl | (simp; done) | (simp [*]; done), by repeat (first|exact Drawn0.refl _|apply Drawn0.step)⟩
 ·rw [if_neg c3] at H
  have c3b0 : ((decide (a0 < 0)) == (decide (a1 < 0))) = false := by simpa using c3
  (try (have c3b1 : decide ((decide (a0 < 0)) = (decide (a1 < 0))) = false := by simpa using c3))
  (try (have c3b2 : ((decide (a0 < 0)) == (decide (a1 < 0))) = false := by simpa using c3))
  (try (have c3b3 : ¬ ((decide (a0 < 0)) = (decide (a1 < 0))) := by simpa using c3))
  clear c3
  as_aux_lemma =>
   obtain rfl := Option.some.inj H
   go_enter Try.func30, Try.ntmps30
   go_wp2
   go_ret
   exact ⟨by first | rfl | (simp; done) | (simp [*]; done), by repeat (first|exact Drawn0.refl _|apply Drawn0.step)⟩

/-! ### bits_Mul64: function 50 -/
def bits_Mul64.f (a0 : Int) (a1 : Int) : Option (Int × Int) := some (IntKind.u64.wrap ((IntKind.u64.wrap ((IntKind.u64.wrap ((a0 / 4294967296) * (a1 / 4294967296))) + ((IntKind.u64.wrap ((IntKind.u64.wrap ((a0 / 4294967296) * (Go.bits .and .u64 a1 4294967295))) + ((IntKind.u64.wrap ((Go.bits .and .u64 a0 4294967295) * (Go.bits .and .u64 a1 4294967295))) / 4294967296))) / 4294967296))) + ((IntKind.u64.wrap ((Go.bits .and .u64 (IntKind.u64.wrap ((IntKind.u64.wrap ((a0 / 4294967296) * (Go.bits .and .u64 a1 4294967295))) + ((IntKind.u64.wrap ((Go.bits .and .u64 a0 4294967295) * (Go.bits .and .u64 a1 4294967295))) / 4294967296))) 4294967295) + (IntKind.u64.wrap ((Go.bits .and .u64 a0 4294967295) * (a1 / 4294967296))))) / 4294967296)), IntKind.u64.wrap (a0 * a1))
set_option maxHeartbeats 8000000 in
set_option maxRecDepth 100000 in
theorem bits_Mul64.calls (a0 : Int) (a1 : Int) (r1 : Int) (r2 : Int) (w : World) (h : bits_Mul64.f a0 a1 = some (r1, r2)) :
  Calls Try.prog 50 #[.int .u64 a0, .int .u64 a1] w fun e w' => e = .returned (.tuple #[.int .u64 r1, .int .u64 r2]) ∧ Drawn0 w w' := by
 have H : (some (IntKind.u64.wrap ((IntKind.u64.wrap ((IntKind.u64.wrap ((a0 / 4294967296) * (a1 / 4294967296))) + ((IntKind.u64.wrap ((IntKind.u64.wrap ((a0 / 4294967296) * (Go.bits .and .u64 a1 4294967295))) + ((IntKind.u64.wrap ((Go.bits .and .u64 a0 4294967295) * (Go.bits .and .u64 a1 4294967295))) / 4294967296))) / 4294967296))) + ((IntKind.u64.wrap ((Go.bits .and .u64 (IntKind.u64.wrap ((IntKind.u64.wrap ((a0 / 4294967296) * (Go.bits .and .u64 a1 4294967295))) + ((IntKind.u64.wrap ((Go.bits .and .u64 a0 4294967295) * (Go.bits .and .u64 a1 4294967295))) / 4294967296))) 4294967295) + (IntKind.u64.wrap ((Go.bits .and .u64 a0 4294967295) * (a1 / 4294967296))))) / 4294967296)), IntKind.u64.wrap (a0 * a1))) = some (r1, r2) := h
 clear h
 as_aux_lemma =>
  simp only [Option.some.injEq, Prod.mk.injEq] at H
  obtain ⟨rfl, rfl⟩ := H
  go_enter Try.func50, Try.ntmps50
  go_wp2
  go_ret2
  exact ⟨by first | rfl | (simp; done) | (simp [*]; done), by repeat (first|exact Drawn0.refl _|apply Drawn0.step)⟩

/-! ### fix_size: function 51 -/
def fix_size.f (a0 : Int) : Option (Int) := if a0 < 0 then (some (IntKind.u64.wrap (-(IntKind.u64.wrap (a0))))) else (some (IntKind.u64.wrap (a0)))
set_option maxHeartbeats 8000000 in
set_option maxRecDepth 100000 in
theorem fix_size.calls (a0 : Int) (r : Int) (w : World) (h : fix_size.f a0 = some r) :
  Calls Try.prog 51 #[.int .i64 a0] w fun e w' => e = .returned (.int .u64 r) ∧ Drawn0 w w' := by
 have H : (if a0 < 0 then (some (IntKind.u64.wrap (-(IntKind.u64.wrap (a0))))) else (some (IntKind.u64.wrap (a0)))) = some r := h
 clear h
 by_cases c2 : a0 < 0
 ·rw [if_pos c2] at H
  have c2b0 : decide (a0 < 0) = true := decide_eq_true c2
  clear c2
  as_aux_lemma =>
   obtain rfl := Option.some.inj H
   go_enter Try.func51, Try.ntmps51
   go_wp2
   go_ret
   exact ⟨by first | rfl | (simp; done) | (simp [*]; done), by repeat (first|exact Drawn0.refl _|apply Drawn0.step)⟩
 ·rw [if_neg c2] at H
  have c2b0 : decide (a0 < 0) = false := decide_eq_false c2
  clear c2
  as_aux_lemma =>
   obtain rfl := Option.some.inj H
   go_enter Try.func51, Try.ntmps51
   go_wp2
   go_ret
   exact ⟨by first | rfl | (simp; done) | (simp [*]; done), by repeat (first|exact Drawn0.refl _|apply Drawn0.step)⟩

/-! ### fix_F_Mul: function 33 -/
def fix_F_Mul.f (k : Nat) (a0 : Int) (a1 : Int) : Option (Int) := (fix_size.f a0).bind fun t176 => ((fix_size.f a1).bind fun t177 => ((bits_Mul64.f t176 t177).bind fun bt178 => (if (Go.bits .and .u64 bt178.2 4294967295) > 2147483648 then (if (bt178.1 / 4294967296) = 0 then ((fix_signed.f k (IntKind.u64.wrap ((Go.bits .or .u64 (IntKind.u64.wrap (bt178.1 * 4294967296)) (bt178.2 / 4294967296)) + 1)) ((IntKind.u64.wrap ((Go.bits .or .u64 (IntKind.u64.wrap (bt178.1 * 4294967296)) (bt178.2 / 4294967296)) + 1)) == 0) ((decide (a0 < 0)) != (decide (a1 < 0)))).bind fun t180 => (some t180)) else ((fix_signed.f k (IntKind.u64.wrap ((Go.bits .or .u64 (IntKind.u64.wrap (bt178.1 * 4294967296)) (bt178.2 / 4294967296)) + 1)) true ((decide (a0 < 0)) != (decide (a1 < 0)))).bind fun t181 => (some t181))) else (if (Go.bits .and .u64 bt178.2 4294967295) = 2147483648 then (if (Go.bits .and .u64 (Go.bits .or .u64 (IntKind.u64.wrap (bt178.1 * 4294967296)) (bt178.2 / 4294967296)) 1) = 1 then (if (bt178.1 / 4294967296) = 0 then ((fix_signed.f k (IntKind.u64.wrap ((Go.bits .or .u64 (IntKind.u64.wrap (bt178.1 * 4294967296)) (bt178.2 / 4294967296)) + 1)) ((IntKind.u64.wrap ((Go.bits .or .u64 (IntKind.u64.wrap (bt178.1 * 4294967296)) (bt178.2 / 4294967296)) + 1)) == 0) ((decide (a0 < 0)) != (decide (a1 < 0)))).bind fun t182 => (some t182)) else ((fix_signed.f k (IntKind.u64.wrap ((Go.bits .or .u64 (IntKind.u64.wrap (bt178.1 * 4294967296)) (bt178.2 / 4294967296)) + 1)) true ((decide (a0 < 0)) != (decide (a1 < 0)))).bind fun t183 => (some t183))) else ((fix_signed.f k (Go.bits .or .u64 (IntKind.u64.wrap (bt178.1 * 4294967296)) (bt178.2 / 4294967296)) ((bt178.1 / 4294967296) != 0) ((decide (a0 < 0)) != (decide (a1 < 0)))).bind fun t184 => (some t184))) else ((fix_signed.f k (Go.bits .or .u64 (IntKind.u64.wrap (bt178.1 * 4294967296)) (bt178.2 / 4294967296)) ((bt178.1 / 4294967296) != 0) ((decide (a0 < 0)) != (decide (a1 < 0)))).bind fun t185 => (some t185))))))
theorem fix_F_Mul.mono : ∀ a0 a1 k, LeO (fix_F_Mul.f k a0 a1) (fix_F_Mul.f (k + 1) a0 a1) := by
 intro a0 a1 k
 unfold fix_F_Mul.f
 repeat' first
   | (with_reducible exact fix_signed.mono _ _ _ _)
   | (with_reducible exact LeO.refl _)
   | (with_reducible exact LeO.none _)
   | (with_reducible refine LeO.ite ?_ ?_)
   | (with_reducible refine LeO.bind ?_ (fun _ => ?_))
   | exact fix_signed.mono _ _ _ _
   | exact LeO.none _
   | refine LeO.ite ?_ ?_
   | refine LeO.bind ?_ (fun _ => ?_)
set_option maxHeartbeats 8000000 in
set_option maxRecDepth 100000 in
theorem fix_F_Mul.calls (k : Nat) (a0 : Int) (a1 : Int) (r : Int) (w : World) (h : fix_F_Mul.f k a0 a1 = some r) :
  Calls Try.prog 33 #[.int .i64 a0, .int .i64 a1] w fun e w' => e = .returned (.int .i64 r) ∧ Drawn0 w w' := by
 have H : ((fix_size.f a0).bind fun t176 => ((fix_size.f a1).bind fun t177 => ((bits_Mul64.f t176 t177).bind fun bt178 => (if (Go.bits .and .u64 bt178.2 4294967295) > 2147483648 then (if (bt178.1 / 4294967296) = 0 then ((fix_signed.f k (IntKind.u64.wrap ((Go.bits .or .u64 (IntKind.u64.wrap (bt178.1 * 4294967296)) (bt178.2 / 4294967296)) + 1)) ((IntKind.u64.wrap ((Go.bits .or .u64 (IntKind.u64.wrap (bt178.1 * 4294967296)) (bt178.2 / 4294967296)) + 1)) == 0) ((decide (a0 < 0)) != (decide (a1 < 0)))).bind fun t180 => (some t180)) else ((fix_signed.f k (IntKind.u64.wrap ((Go.bits .or .u64 (IntKind.u64.wrap (bt178.1 * 4294967296)) (bt178.2 / 4294967296)) + 1)) true ((decide (a0 < 0)) != (decide (a1 < 0)))).bind fun t181 => (some t181))) else (if (Go.bits .and .u64 bt178.2 4294967295) = 2147483648 then (if (Go.bits .and .u64 (Go.bits .or .u64 (IntKind.u64.wrap (bt178.1 * 4294967296)) (bt178.2 / 4294967296)) 1) = 1 then (if (bt178.1 / 4294967296) = 0 then ((fix_signed.f k (IntKind.u64.wrap ((Go.bits .or .u64 (IntKind.u64.wrap (bt178.1 * 4294967296)) (bt178.2 / 4294967296)) + 1)) ((IntKind.u64.wrap ((Go.bits .or .u64 (IntKind.u64.wrap (bt178.1 * 4294967296)) (bt178.2 / 4294967296)) + 1)) == 0) ((decide (a0 < 0)) != (decide (a1 < 0)))).bind fun t182 => (some t182)) else ((fix_signed.f k (IntKind.u64.wrap ((Go.bits .or .u64 (IntKind.u64.wrap (bt178.1 * 4294967296)) (bt178.2 / 4294967296)) + 1)) true ((decide (a0 < 0)) != (decide (a1 < 0)))).bind fun t183 => (some t183))) else ((fix_signed.f k (Go.bits .or .u64 (IntKind.u64.wrap (bt178.1 * 4294967296)) (bt178.2 / 4294967296)) ((bt178.1 / 4294967296) != 0) ((decide (a0 < 0)) != (decide (a1 < 0)))).bind fun t184 => (some t184))) else ((fix_signed.f k (Go.bits .or .u64 (IntKind.u64.wrap (bt178.1 * 4294967296)) (bt178.2 / 4294967296)) ((bt178.1 / 4294967296) != 0) ((decide (a0 < 0)) != (decide (a1 < 0)))).bind fun t185 => (some t185))))))) = some r := h
 clear h
 replace H := Option.bind_eq_some_iff.mp H
 obtain ⟨t176, A30, H⟩ := H
 replace H : ((fix_size.f a1).bind fun t177 => ((bits_Mul64.f t176 t177).bind fun bt178 => (if (Go.bits .and .u64 bt178.2 4294967295) > 2147483648 then (if (bt178.1 / 4294967296) = 0 then ((fix_signed.f k (IntKind.u64.wrap ((Go.bits .or .u64 (IntKind.u64.wrap (bt178.1 * 4294967296)) (bt178.2 / 4294967296)) + 1)) ((IntKind.u64.wrap ((Go.bits .or .u64 (IntKind.u64.wrap (bt178.1 * 4294967296)) (bt178.2 / 4294967296)) + 1)) == 0) ((decide (a0 < 0)) != (decide (a1 < 0)))).bind fun t180 => (some t180)) else ((fix_signed.f k (IntKind.u64.wrap ((Go.bits .or .u64 (IntKind.u64.wrap (bt178.1 * 4294967296)) (bt178.2 / 4294967296)) + 1)) true ((decide (a0 < 0)) != (decide (a1 < 0)))).bind fun t181 => (some t181))) else (if (Go.bits .and .u64 bt178.2 4294967295) = 2147483648 then (if (Go.bits .and .u64 (Go.bits .or .u64 (IntKind.u64.wrap (bt178.1 * 4294967296)) (bt178.2 / 4294967296)) 1) = 1 then (if (bt178.1 / 4294967296) = 0 then ((fix_signed.f k (IntKind.u64.wrap ((Go.bits .or .u64 (IntKind.u64.wrap (bt178.1 * 4294967296)) (bt178.2 / 4294967296)) + 1)) ((IntKind.u64.wrap ((Go.bits .or .u64 (IntKind.u64.wrap (bt178.1 * 4294967296)) (bt178.2 / 4294967296)) + 1)) == 0) ((decide (a0 < 0)) != (decide (a1 < 0)))).bind fun t182 => (some t182)) else ((fix_signed.f k (IntKind.u64.wrap ((Go.bits .or .u64 (IntKind.u64.wrap (bt178.1 * 4294967296)) (bt178.2 / 4294967296)) + 1)) true ((decide (a0 < 0)) != (decide (a1 < 0)))).bind fun t183 => (some t183))) else ((fix_signed.f k (Go.bits .or .u64 (IntKind.u64.wrap (bt178.1 * 4294967296)) (bt178.2 / 4294967296)) ((bt178.1 / 4294967296) != 0) ((decide (a0 < 0)) != (decide (a1 < 0)))).bind fun t184 => (some t184))) else ((fix_signed.f k (Go.bits .or .u64 (IntKind.u64.wrap (bt178.1 * 4294967296)) (bt178.2 / 4294967296)) ((bt178.1 / 4294967296) != 0) ((decide (a0 < 0)) != (decide (a1 < 0)))).bind fun t185 => (some t185)))))) = some r := H
 have A3 := Aside0.mk A30
 clear A30
 replace H := Option.bind_eq_some_iff.mp H
 obtain ⟨t177, A40, H⟩ := H
 replace H : ((bits_Mul64.f t176 t177).bind fun bt178 => (if (Go.bits .and .u64 bt178.2 4294967295) > 2147483648 then (if (bt178.1 / 4294967296) = 0 then ((fix_signed.f k (IntKind.u64.wrap ((Go.bits .or .u64 (IntKind.u64.wrap (bt178.1 * 4294967296)) (bt178.2 / 4294967296)) + 1)) ((IntKind.u64.wrap ((Go.bits .or .u64 (IntKind.u64.wrap (bt178.1 * 4294967296)) (bt178.2 / 4294967296)) + 1)) == 0) ((decide (a0 < 0)) != (decide (a1 < 0)))).bind fun t180 => (some t180)) else ((fix_signed.f k (IntKind.u64.wrap ((Go.bits .or .u64 (IntKind.u64.wrap (bt178.1 * 4294967296)) (bt178.2 / 4294967296)) + 1)) true ((decide (a0 < 0)) != (decide (a1 < 0)))).bind fun t181 => (some t181))) else (if (Go.bits .and .u64 bt178.2 4294967295) = 2147483648 then (if (Go.bits .and .u64 (Go.bits .or .u64 (IntKind.u64.wrap (bt178.1 * 4294967296)) (bt178.2 / 4294967296)) 1) = 1 then (if (bt178.1 / 4294967296) = 0 then ((fix_signed.f k (IntKind.u64.wrap ((Go.bits .or .u64 (IntKind.u64.wrap (bt178.1 * 4294967296)) (bt178.2 / 4294967296)) + 1)) ((IntKind.u64.wrap ((Go.bits .or .u64 (IntKind.u64.wrap (bt178.1 * 4294967296)) (bt178.2 / 4294967296)) + 1)) == 0) ((decide (a0 < 0)) != (decide (a1 < 0)))).bind fun t182 => (some t182)) else ((fix_signed.f k (IntKind.u64.wrap ((Go.bits .or .u64 (IntKind.u64.wrap (bt178.1 * 4294967296)) (bt178.2 / 4294967296)) + 1)) true ((decide (a0 < 0)) != (decide (a1 < 0)))).bind fun t183 => (some t183))) else ((fix_signed.f k (Go.bits .or .u64 (IntKind.u64.wrap (bt178.1 * 4294967296)) (bt178.2 / 4294967296)) ((bt178.1 / 4294967296) != 0) ((decide (a0 < 0)) != (decide (a1 < 0)))).bind fun t184 => (some t184))) else ((fix_signed.f k (Go.bits .or .u64 (IntKind.u64.wrap (bt178.1 * 4294967296)) (bt178.2 / 4294967296)) ((bt178.1 / 4294967296) != 0) ((decide (a0 < 0)) != (decide (a1 < 0)))).bind fun t185 => (some t185))))) = some r := H
 have A4 := Aside0.mk A40
 clear A40
 replace H := Option.bind_eq_some_iff.mp H
 obtain ⟨⟨t178, t179⟩, A50, H⟩ := H
 replace H : (if (Go.bits .and .u64 t179 4294967295) > 2147483648 then (if (t178 / 4294967296) = 0 then ((fix_signed.f k (IntKind.u64.wrap ((Go.bits .or .u64 (IntKind.u64.wrap (t178 * 4294967296)) (t179 / 4294967296)) + 1)) ((IntKind.u64.wrap ((Go.bits .or .u64 (IntKind.u64.wrap (t178 * 4294967296)) (t179 / 4294967296)) + 1)) == 0) ((decide (a0 < 0)) != (decide (a1 < 0)))).bind fun t180 => (some t180)) else ((fix_signed.f k (IntKind.u64.wrap ((Go.bits .or .u64 (IntKind.u64.wrap (t178 * 4294967296)) (t179 / 4294967296)) + 1)) true ((decide (a0 < 0)) != (decide (a1 < 0)))).bind fun t181 => (some t181))) else (if (Go.bits .and .u64 t179 4294967295) = 2147483648 then (if (Go.bits .and .u64 (Go.bits .or .u64 (IntKind.u64.wrap (t178 * 4294967296)) (t179 / 4294967296)) 1) = 1 then (if (t178 / 4294967296) = 0 then ((fix_signed.f k (IntKind.u64.wrap ((Go.bits .or .u64 (IntKind.u64.wrap (t178 * 4294967296)) (t179 / 4294967296)) + 1)) ((IntKind.u64.wrap ((Go.bits .or .u64 (IntKind.u64.wrap (t178 * 4294967296)) (t179 / 4294967296)) + 1)) == 0) ((decide (a0 < 0)) != (decide (a1 < 0)))).bind fun t182 => (some t182)) else ((fix_signed.f k (IntKind.u64.wrap ((Go.bits .or .u64 (IntKind.u64.wrap (t178 * 4294967296)) (t179 / 4294967296)) + 1)) true ((decide (a0 < 0)) != (decide (a1 < 0)))).bind fun t183 => (some t183))) else ((fix_signed.f k (Go.bits .or .u64 (IntKind.u64.wrap (t178 * 4294967296)) (t179 / 4294967296)) ((t178 / 4294967296) != 0) ((decide (a0 < 0)) != (decide (a1 < 0)))).bind fun t184 => (some t184))) else ((fix_signed.f k (Go.bits .or .u64 (IntKind.u64.wrap (t178 * 4294967296)) (t179 / 4294967296)) ((t178 / 4294967296) != 0) ((decide (a0 < 0)) != (decide (a1 < 0)))).bind fun t185 => (some t185)))) = some r := H
 have A5 := Aside0.mk A50
 clear A50
 by_cases c6 : (Go.bits .and .u64 t179 4294967295) > 2147483648
 ·rw [if_pos c6] at H
  have c6b0 : decide (2147483648 < (Go.bits .and .u64 t179 4294967295)) = true := decide_eq_true c6
  clear c6
  by_cases c7 : (t178 / 4294967296) = 0
  ·rw [if_pos c7] at H
   have c7b0 : ((t178 / 4294967296) == 0) = true := beq_iff_eq.mpr c7
   have c7b1 : ((t178 / 4294967296) != 0) = false := bne_eq_false_iff_eq.mpr c7
   clear c7
   replace H := Option.bind_eq_some_iff.mp H
   obtain ⟨t180, A80, H⟩ := H
   replace H : (some t180) = some r := H
   have A8 := Aside0.mk A80
   clear A80
   as_aux_lemma =>
    obtain rfl := Option.some.inj H
    go_enter Try.func33, Try.ntmps33
    go_wp2_with (first | ((with_reducible refine gate_callee (f := 51) rfl ?_); refine goesL_ (some 12) rfl rfl Try.func51 (by kernel_rfl) rfl #[.int .i64 a0] rfl (by (try simp only [List.map_toArray, List.map_cons, List.map_nil]); first | done | rfl | (simp only [List.length_drop, List.length_take]; rfl)) ?_; (with_reducible refine (fix_size.calls a0 t176 _ A3.out).mono ?_); rintro e w' ⟨rfl, ⟨nd, rfl⟩⟩; refine ⟨_, rfl, ?_⟩) | ((with_reducible refine gate_callee (f := 51) rfl ?_); refine goesL_ (some 14) rfl rfl Try.func51 (by kernel_rfl) rfl #[.int .i64 a1] rfl (by (try simp only [List.map_toArray, List.map_cons, List.map_nil]); first | done | rfl | (simp only [List.length_drop, List.length_take]; rfl)) ?_; (with_reducible refine (fix_size.calls a1 t177 _ A4.out).mono ?_); rintro e w' ⟨rfl, ⟨nd, rfl⟩⟩; refine ⟨_, rfl, ?_⟩) | ((with_reducible refine gate_callee (f := 50) rfl ?_); refine goesL_ (some 15) rfl rfl Try.func50 (by kernel_rfl) rfl #[.int .u64 t176, .int .u64 t177] rfl (by (try simp only [List.map_toArray, List.map_cons, List.map_nil]); first | done | rfl | (simp only [List.length_drop, List.length_take]; rfl)) ?_; (with_reducible refine (bits_Mul64.calls t176 t177 t178 t179 _ A5.out).mono ?_); rintro e w' ⟨rfl, ⟨nd, rfl⟩⟩; refine ⟨_, rfl, ?_⟩) | ((with_reducible refine gate_callee (f := 46) rfl ?_); refine goesL_ (some 53) rfl rfl Try.func46 (by kernel_rfl) rfl #[.int .u64 (IntKind.u64.wrap ((Go.bits .or .u64 (IntKind.u64.wrap (t178 * 4294967296)) (t179 / 4294967296)) + 1)), .bool ((IntKind.u64.wrap ((Go.bits .or .u64 (IntKind.u64.wrap (t178 * 4294967296)) (t179 / 4294967296)) + 1)) == 0), .bool ((decide (a0 < 0)) != (decide (a1 < 0)))] rfl (by (try simp only [List.map_toArray, List.map_cons, List.map_nil]); first | done | rfl | (simp only [List.length_drop, List.length_take]; rfl)) ?_; (with_reducible refine (fix_signed.calls k (IntKind.u64.wrap ((Go.bits .or .u64 (IntKind.u64.wrap (t178 * 4294967296)) (t179 / 4294967296)) + 1)) ((IntKind.u64.wrap ((Go.bits .or .u64 (IntKind.u64.wrap (t178 * 4294967296)) (t179 / 4294967296)) + 1)) == 0) ((decide (a0 < 0)) != (decide (a1 < 0))) t180 _ A8.out).mono ?_); rintro e w' ⟨rfl, ⟨nd, rfl⟩⟩; refine ⟨_, rfl, ?_⟩))
    go_ret
    exact ⟨by first | rfl | (simp; done) | (simp [*]; done), by repeat (first|exact Drawn0.refl _|apply Drawn0.step)⟩
  ·rw [if_neg c7] at H
   have c7b0 : ((t178 / 4294967296) == 0) = false := beq_eq_false_iff_ne.mpr c7
   have c7b1 : ((t178 / 4294967296) != 0) = true := bne_iff_ne.mpr c7
   replace H := Option.bind_eq_some_iff.mp H
   obtain ⟨t181, A90, H⟩ := H
   replace H : (some t181) = some r := H
   have A9 := Aside0.mk A90
   clear A90
   as_aux_lemma =>
    obtain rfl := Option.some.inj H
    go_enter Try.func33, Try.ntmps33
    go_wp2_with (first | ((with_reducible refine gate_callee (f := 51) rfl ?_); refine goesL_ (some 12) rfl rfl Try.func51 (by kernel_rfl) rfl #[.int .i64 a0] rfl (by (try simp only [List.map_toArray, List.map_cons, List.map_nil]); first | done | rfl | (simp only [List.length_drop, List.length_take]; rfl)) ?_; (with_reducible refine (fix_size.calls a0 t176 _ A3.out).mono ?_); rintro e w' ⟨rfl, ⟨nd, rfl⟩⟩; refine ⟨_, rfl, ?_⟩) | ((with_reducible refine gate_callee (f := 51) rfl ?_); refine goesL_ (some 14) rfl rfl Try.func51 (by kernel_rfl) rfl #[.int .i64 a1] rfl (by (try simp only [List.map_toArray, List.map_cons, List.map_nil]); first | done | rfl | (simp only [List.length_drop, List.length_take]; rfl)) ?_; (with_reducible refine (fix_size.calls a1 t177 _ A4.out).mono ?_); rintro e w' ⟨rfl, ⟨nd, rfl⟩⟩; refine ⟨_, rfl, ?_⟩) | ((with_reducible refine gate_callee (f := 50) rfl ?_); refine goesL_ (some 15) rfl rfl Try.func50 (by kernel_rfl) rfl #[.int .u64 t176, .int .u64 t177] rfl (by (try simp only [List.map_toArray, List.map_cons, List.map_nil]); first | done | rfl | (simp only [List.length_drop, List.length_take]; rfl)) ?_; (with_reducible refine (bits_Mul64.calls t176 t177 t178 t179 _ A5.out).mono ?_); rintro e w' ⟨rfl, ⟨nd, rfl⟩⟩; refine ⟨_, rfl, ?_⟩) | ((with_reducible refine gate_callee (f := 46) rfl ?_); refine goesL_ (some 53) rfl rfl Try.func46 (by kernel_rfl) rfl #[.int .u64 (IntKind.u64.wrap ((Go.bits .or .u64 (IntKind.u64.wrap (t178 * 4294967296)) (t179 / 4294967296)) + 1)), .bool true, .bool ((decide (a0 < 0)) != (decide (a1 < 0)))] rfl (by (try simp only [List.map_toArray, List.map_cons, List.map_nil]); first | done | rfl | (simp only [List.length_drop, List.length_take]; rfl)) ?_; (with_reducible refine (fix_signed.calls k (IntKind.u64.wrap ((Go.bits .or .u64 (IntKind.u64.wrap (t178 * 4294967296)) (t179 / 4294967296)) + 1)) true ((decide (a0 < 0)) != (decide (a1 < 0))) t181 _ A9.out).mono ?_); rintro e w' ⟨rfl, ⟨nd, rfl⟩⟩; refine ⟨_, rfl, ?_⟩))
    go_ret
    exact ⟨by first | rfl | (simp; done) | (simp [*]; done), by repeat (first|exact Drawn0.refl _|apply Drawn0.step)⟩
 ·rw [if_neg c6] at H
  have c6b0 : decide (2147483648 < (Go.bits .and .u64 t179 4294967295)) = false := decide_eq_false c6
  clear c6
  by_cases c10 : (Go.bits .and .u64 t179 4294967295) = 2147483648
  ·rw [if_pos c10] at H
   have c10b0 : ((Go.bits .and .u64 t179 4294967295) == 2147483648) = true := beq_iff_eq.mpr c10
   have c10b1 : ((Go.bits .and .u64 t179 4294967295) != 2147483648) = false := bne_eq_false_iff_eq.mpr c10
   clear c10
   by_cases c11 : (Go.bits .and .u64 (Go.bits .or .u64 (IntKind.u64.wrap (t178 * 4294967296)) (t179 / 4294967296)) 1) = 1
   ·rw [if_pos c11] at H
    have c11b0 : ((Go.bits .and .u64 (Go.bits .or .u64 (IntKind.u64.wrap (t178 * 4294967296)) (t179 / 4294967296)) 1) == 1) = true := beq_iff_eq.mpr c11
    have c11b1 : ((Go.bits .and .u64 (Go.bits .or .u64 (IntKind.u64.wrap (t178 * 4294967296)) (t179 / 4294967296)) 1) != 1) = false := bne_eq_false_iff_eq.mpr c11
    clear c11
    by_cases c12 : (t178 / 4294967296) = 0
    ·rw [if_pos c12] at H
     have c12b0 : ((t178 / 4294967296) == 0) = true := beq_iff_eq.mpr c12
     have c12b1 : ((t178 / 4294967296) != 0) = false := bne_eq_false_iff_eq.mpr c12
     clear c12
     replace H := Option.bind_eq_some_iff.mp H
     obtain ⟨t182, A130, H⟩ := H
     replace H : (some t182) = some r := H
     have A13 := Aside0.mk A130
     clear A130
     as_aux_lemma =>
      obtain rfl := Option.some.inj H
      go_enter Try.func33, Try.ntmps33
      go_wp2_with (first | ((with_reducible refine gate_callee (f := 51) rfl ?_); refine goesL_ (some 12) rfl rfl Try.func51 (by kernel_rfl) rfl #[.int .i64 a0] rfl (by (try simp only [List.map_toArray, List.map_cons, List.map_nil]); first | done | rfl | (simp only [List.length_drop, List.length_take]; rfl)) ?_; (with_reducible refine (fix_size.calls a0 t176 _ A3.out).mono ?_); rintro e w' ⟨rfl, ⟨nd, rfl⟩⟩; refine ⟨_, rfl, ?_⟩) | ((with_reducible refine gate_callee (f := 51) rfl ?_); refine goesL_ (some 14) rfl rfl Try.func51 (by kernel_rfl) rfl #[.int .i64 a1] rfl (by (try simp only [List.map_toArray, List.map_cons, List.map_nil]); first | done | rfl | (simp only [List.length_drop, List.length_take]; rfl)) ?_; (with_reducible refine (fix_size.calls a1 t177 _ A4.out).mono ?_); rintro e w' ⟨rfl, ⟨nd, rfl⟩⟩; refine ⟨_, rfl, ?_⟩) | ((with_reducible refine gate_callee (f := 50) rfl ?_); refine goesL_ (some 15) rfl rfl Try.func50 (by kernel_rfl) rfl #[.int .u64 t176, .int .u64 t177] rfl (by (try simp only [List.map_toArray, List.map_cons, List.map_nil]); first | done | rfl | (simp only [List.length_drop, List.length_take]; rfl)) ?_; (with_reducible refine (bits_Mul64.calls t176 t177 t178 t179 _ A5.out).mono ?_); rintro e w' ⟨rfl, ⟨nd, rfl⟩⟩; refine ⟨_, rfl, ?_⟩) | ((with_reducible refine gate_callee (f := 46) rfl ?_); refine goesL_ (some 53) rfl rfl Try.func46 (by kernel_rfl) rfl #[.int .u64 (IntKind.u64.wrap ((Go.bits .or .u64 (IntKind.u64.wrap (t178 * 4294967296)) (t179 / 4294967296)) + 1)), .bool ((IntKind.u64.wrap ((Go.bits .or .u64 (IntKind.u64.wrap (t178 * 4294967296)) (t179 / 4294967296)) + 1)) == 0), .bool ((decide (a0 < 0)) != (decide (a1 < 0)))] rfl (by (try simp only [List.map_toArray, List.map_cons, List.map_nil]); first | done | rfl | (simp only [List.length_drop, List.length_take]; rfl)) ?_; (with_reducible refine (fix_signed.calls k (IntKind.u64.wrap ((Go.bits .or .u64 (IntKind.u64.wrap (t178 * 4294967296)) (t179 / 4294967296)) + 1)) ((IntKind.u64.wrap ((Go.bits .or .u64 (IntKind.u64.wrap (t178 * 4294967296)) (t179 / 4294967296)) + 1)) == 0) ((decide (a0 < 0)) != (decide (a1 < 0))) t182 _ A13.out).mono ?_); rintro e w' ⟨rfl, ⟨nd, rfl⟩⟩; refine ⟨_, rfl, ?_⟩))
      go_ret
      exact ⟨by first | rfl | (simp; done) | (simp [*]; done), by repeat (first|exact Drawn0.refl _|apply Drawn0.step)⟩
    ·rw [if_neg c12] at H
     have c12b0 : ((t178 / 4294967296) == 0) = false := beq_eq_false_iff_ne.mpr c12
     have c12b1 : ((t178 / 4294967296) != 0) = true := bne_iff_ne.mpr c12
     replace H := Option.bind_eq_some_iff.mp H
     obtain ⟨t183, A140, H⟩ := H
     replace H : (some t183) = some r := H
     have A14 := Aside0.mk A140
     clear A140
     as_aux_lemma =>
      obtain rfl := Option.some.inj H
      go_enter Try.func33, Try.ntmps33
      go_wp2_with (first | ((with_reducible refine gate_callee (f := 51) rfl ?_); refine goesL_ (some 12) rfl rfl Try.func51 (by kernel_rfl) rfl #[.int .i64 a0] rfl (by (try simp only [List.map_toArray, List.map_cons, List.map_nil]); first | done | rfl | (simp only [List.length_drop, List.length_take]; rfl)) ?_; (with_reducible refine (fix_size.calls a0 t176 _ A3.out).mono ?_); rintro e w' ⟨rfl, ⟨nd, rfl⟩⟩; refine ⟨_, rfl, ?_⟩) | ((with_reducible refine gate_callee (f := 51) rfl ?_); refine goesL_ (some 14) rfl rfl Try.func51 (by kernel_rfl) rfl #[.int .i64 a1] rfl (by (try simp only [List.map_toArray, List.map_cons, List.map_nil]); first | done | rfl | (simp only [List.length_drop, List.length_take]; rfl)) ?_; (with_reducible refine (fix_size.calls a1 t177 _ A4.out).mono ?_); rintro e w' ⟨rfl, ⟨nd, rfl⟩⟩; refine ⟨_, rfl, ?_⟩) | ((with_reducible refine gate_callee (f := 50) rfl ?_); refine goesL_ (some 15) rfl rfl Try.func50 (by kernel_rfl) rfl #[.int .u64 t176, .int .u64 t177] rfl (by (try simp only [List.map_toArray, List.map_cons, List.map_nil]); first | done | rfl | (simp only [List.length_drop, List.length_take]; rfl)) ?_; (with_reducible refine (bits_Mul64.calls t176 t177 t178 t179 _ A5.out).mono ?_); rintro e w' ⟨rfl, ⟨nd, rfl⟩⟩; refine ⟨_, rfl, ?_⟩) | ((with_reducible refine gate_callee (f := 46) rfl ?_); refine goesL_ (some 53) rfl rfl Try.func46 (by kernel_rfl) rfl #[.int .u64 (IntKind.u64.wrap ((Go.bits .or .u64 (IntKind.u64.wrap (t178 * 4294967296)) (t179 / 4294967296)) + 1)), .bool true, .bool ((decide (a0 < 0)) != (decide (a1 < 0)))] rfl (by (try simp only [List.map_toArray, List.map_cons, List.map_nil]); first | done | rfl | (simp only [List.length_drop, List.length_take]; rfl)) ?_; (with_reducible refine (fix_signed.calls k (IntKind.u64.wrap ((Go.bits .or .u64 (IntKind.u64.wrap (t178 * 4294967296)) (t179 / 4294967296)) + 1)) true ((decide (a0 < 0)) != (decide (a1 < 0))) t183 _ A14.out).mono ?_); rintro e w' ⟨rfl, ⟨nd, rfl⟩⟩; refine ⟨_, rfl, ?_⟩))
      go_ret
      exact ⟨by first | rfl | (simp; done) | (simp [*]; done), by repeat (first|exact Drawn0.refl _|apply Drawn0.step)⟩
   ·rw [if_neg c11] at H
    have c11b0 : ((Go.bits .and .u64 (Go.bits .or .u64 (IntKind.u64.wrap (t178 * 4294967296)) (t179 / 4294967296)) 1) == 1) = false := beq_eq_false_iff_ne.mpr c11
    have c11b1 : ((Go.bits .and .u64 (Go.bits .or .u64 (IntKind.u64.wrap (t178 * 4294967296)) (t179 / 4294967296)) 1) != 1) = true := bne_iff_ne.mpr c11
    replace H := Option.bind_eq_some_iff.mp H
    obtain ⟨t184, A150, H⟩ := H
    replace H : (some t184) = some r := H
    have A15 := Aside0.mk A150
    clear A150
    as_aux_lemma =>
     obtain rfl := Option.some.inj H
     go_enter Try.func33, Try.ntmps33
     go_wp2_with (first | ((with_reducible refine gate_callee (f := 51) rfl ?_); refine goesL_ (some 12) rfl rfl Try.func51 (by kernel_rfl) rfl #[.int .i64 a0] rfl (by (try simp only [List.map_toArray, List.map_cons, List.map_nil]); first | done | rfl | (simp only [List.length_drop, List.length_take]; rfl)) ?_; (with_reducible refine (fix_size.calls a0 t176 _ A3.out).mono ?_); rintro e w' ⟨rfl, ⟨nd, rfl⟩⟩; refine ⟨_, rfl, ?_⟩) | ((with_reducible refine gate_callee (f := 51) rfl ?_); refine goesL_ (some 14) rfl rfl Try.func51 (by kernel_rfl) rfl #[.int .i64 a1] rfl (by (try simp only [List.map_toArray, List.map_cons, List.map_nil]); first | done | rfl | (simp only [List.length_drop, List.length_take]; rfl)) ?_; (with_reducible refine (fix_size.calls a1 t177 _ A4.out).mono ?_); rintro e w' ⟨rfl, ⟨nd, rfl⟩⟩; refine ⟨_, rfl, ?_⟩) | ((with_reducible refine gate_callee (f := 50) rfl ?_); refine goesL_ (some 15) rfl rfl Try.func50 (by kernel_rfl) rfl #[.int .u64 t176, .int .u64 t177] rfl (by (try simp only [List.map_toArray, List.map_cons, List.map_nil]); first | done | rfl | (simp only [List.length_drop, List.length_take]; rfl)) ?_; (with_reducible refine (bits_Mul64.calls t176 t177 t178 t179 _ A5.out).mono ?_); rintro e w' ⟨rfl, ⟨nd, rfl⟩⟩; refine ⟨_, rfl, ?_⟩) | ((with_reducible refine gate_callee (f := 46) rfl ?_); refine goesL_ (some 53) rfl rfl Try.func46 (by kernel_rfl) rfl #[.int .u64 (Go.bits .or .u64 (IntKind.u64.wrap (t178 * 4294967296)) (t179 / 4294967296)), .bool ((t178 / 4294967296) != 0), .bool ((decide (a0 < 0)) != (decide (a1 < 0)))] rfl (by (try simp only [List.map_toArray, List.map_cons, List.map_nil]); first | done | rfl | (simp only [List.length_drop, List.length_take]; rfl)) ?_; (with_reducible refine (fix_signed.calls k (Go.bits .or .u64 (IntKind.u64.wrap (t178 * 4294967296)) (t179 / 4294967296)) ((t178 / 4294967296) != 0) ((decide (a0 < 0)) != (decide (a1 < 0))) t184 _ A15.out).mono ?_); rintro e w' ⟨rfl, ⟨nd, rfl⟩⟩; refine ⟨_, rfl, ?_⟩))
     go_ret
     exact ⟨by first | rfl | (simp; done) | (simp [*]; done), by repeat (first|exact Drawn0.refl _|apply Drawn0.step)⟩
  ·rw [if_neg c10] at H
   have c10b0 : ((Go.bits .and .u64 t179 4294967295) == 2147483648) = false := beq_eq_false_iff_ne.mpr c10
   have c10b1 : ((Go.bits .and .u64 t179 4294967295) != 2147483648) = true := bne_iff_ne.mpr c10
   replace H := Option.bind_eq_some_iff.mp H
   obtain ⟨t185, A160, H⟩ := H
   replace H : (some t185) = some r := H
   have A16 := Aside0.mk A160
   clear A160
   as_aux_lemma =>
    obtain rfl := Option.some.inj H
    go_enter Try.func33, Try.ntmps33
    go_wp2_with (first | ((with_reducible refine gate_callee (f := 51) rfl ?_); refine goesL_ (some 12) rfl rfl Try.func51 (by kernel_rfl) rfl #[.int .i64 a0] rfl (by (try simp only [List.map_toArray, List.map_cons, List.map_nil]); first | done | rfl | (simp only [List.length_drop, List.length_take]; rfl)) ?_; (with_reducible refine (fix_size.calls a0 t176 _ A3.out).mono ?_); rintro e w' ⟨rfl, ⟨nd, rfl⟩⟩; refine ⟨_, rfl, ?_⟩) | ((with_reducible refine gate_callee (f := 51) rfl ?_); refine goesL_ (some 14) rfl rfl Try.func51 (by kernel_rfl) rfl #[.int .i64 a1] rfl (by (try simp only [List.map_toArray, List.map_cons, List.map_nil]); first | done | rfl | (simp only [List.length_drop, List.length_take]; rfl)) ?_; (with_reducible refine (fix_size.calls a1 t177 _ A4.out).mono ?_); rintro e w' ⟨rfl, ⟨nd, rfl⟩⟩; refine ⟨_, rfl, ?_⟩) | ((with_reducible refine gate_callee (f := 50) rfl ?_); refine goesL_ (some 15) rfl rfl Try.func50 (by kernel_rfl) rfl #[.int .u64 t176, .int .u64 t177] rfl (by (try simp only [List.map_toArray, List.map_cons, List.map_nil]); first | done | rfl | (simp only [List.length_drop, List.length_take]; rfl)) ?_; (with_reducible refine (bits_Mul64.calls t176 t177 t178 t179 _ A5.out).mono ?_); rintro e w' ⟨rfl, ⟨nd, rfl⟩⟩; refine ⟨_, rfl, ?_⟩) | ((with_reducible refine gate_callee (f := 46) rfl ?_); refine goesL_ (some 53) rfl rfl Try.func46 (by kernel_rfl) rfl #[.int .u64 (Go.bits .or .u64 (IntKind.u64.wrap (t178 * 4294967296)) (t179 / 4294967296)), .bool ((t178 / 4294967296) != 0), .bool ((decide (a0 < 0)) != (decide (a1 < 0)))] rfl (by (try simp only [List.map_toArray, List.map_cons, List.map_nil]); first | done | rfl | (simp only [List.length_drop, List.length_take]; rfl)) ?_; (with_reducible refine (fix_signed.calls k (Go.bits .or .u64 (IntKind.u64.wrap (t178 * 4294967296)) (t179 / 4294967296)) ((t178 / 4294967296) != 0) ((decide (a0 < 0)) != (decide (a1 < 0))) t185 _ A16.out).mono ?_); rintro e w' ⟨rfl, ⟨nd, rfl⟩⟩; refine ⟨_, rfl, ?_⟩))
    go_ret
    exact ⟨by first | rfl | (simp; done) | (simp [*]; done), by repeat (first|exact Drawn0.refl _|apply Drawn0.step)⟩

/-! ### fix_Dot: function 29 -/
def fix_Dot.l0 : Nat → List Int → List Int → Int → Int → Int → Option (Int)
 | 0, _, _, _, _, _ => none
 | k + 1, x0, x1, x5, x11, x12 => if x12 < x11 then (if 0 ≤ x12 then (if x12 < (x0.length : Int) then (if x12 < (x1.length : Int) then ((fix_F_Mul.f k (rd x0 x12) (rd x1 x12)).bind fun t188 => ((fix_F_Add.f k x5 t188).bind fun t189 => (fix_Dot.l0 k x0 x1 t189 x11 (wrap64 (x12 + 1))))) else (none)) else (none)) else (none)) else (some x5)
def fix_Dot.f (k : Nat) (l0 : List Int) (l1 : List Int) : Option (Int) := fix_Dot.l0 k l0 l1 0 (mn (l0.length : Int) (l1.length : Int)) 0
theorem fix_Dot.mono_l : ∀ k, (∀ y0 y1 y2 y3 y4, LeO (fix_Dot.l0 k y0 y1 y2 y3 y4) (fix_Dot.l0 (k + 1) y0 y1 y2 y3 y4))
 | 0 => fun _ _ _ _ _ r h => by simp [fix_Dot.l0] at h
 | k + 1 => by
  have ih0 := fix_Dot.mono_l k
  ·intro y0 y1 y2 y3 y4
   unfold fix_Dot.l0
   repeat' first
   | (with_reducible exact ih0 _ _ _ _ _)
   | (with_reducible exact fix_F_Add.mono _ _ _)
   | (with_reducible exact fix_F_Mul.mono _ _ _)
   | (with_reducible exact LeO.refl _)
   | (with_reducible exact LeO.none _)
   | (with_reducible refine LeO.ite ?_ ?_)
   | (with_reducible refine LeO.bind ?_ (fun _ => ?_))
   | exact ih0 _ _ _ _ _
   | exact fix_F_Add.mono _ _ _
   | exact fix_F_Mul.mono _ _ _
   | exact LeO.none _
   | refine LeO.ite ?_ ?_
   | refine LeO.bind ?_ (fun _ => ?_)
theorem fix_Dot.mono : ∀ a0 a1 k, LeO (fix_Dot.f k a0 a1) (fix_Dot.f (k + 1) a0 a1) := by
 intro a0 a1 k
 have ih0 := fix_Dot.mono_l k
 unfold fix_Dot.f
 repeat' first
   | (with_reducible exact ih0 _ _ _ _ _)
   | (with_reducible exact fix_F_Add.mono _ _ _)
   | (with_reducible exact fix_F_Mul.mono _ _ _)
   | (with_reducible exact LeO.refl _)
   | (with_reducible exact LeO.none _)
   | (with_reducible refine LeO.ite ?_ ?_)
   | (with_reducible refine LeO.bind ?_ (fun _ => ?_))
   | exact ih0 _ _ _ _ _
   | exact fix_F_Add.mono _ _ _
   | exact fix_F_Mul.mono _ _ _
   | exact LeO.none _
   | refine LeO.ite ?_ ?_
   | refine LeO.bind ?_ (fun _ => ?_)
set_option maxHeartbeats 8000000 in
set_option maxRecDepth 100000 in
theorem fix_Dot.calls (k : Nat) (A0 : Option Addr) (c0 : Nat) (l0 : List Int) (A1 : Option Addr) (c1 : Nat) (l1 : List Int) (r : Int) (w : World) (hr0 : Kd.C (Kd.int .i64) w A0 l0.length l0) (hc0 : l0.length ≤ c0) (hr1 : Kd.C (Kd.int .i64) w A1 l1.length l1) (hc1 : l1.length ≤ c1) (h : fix_Dot.f k l0 l1 = some r) :
  Calls Try.prog 29 #[.slice A0 l0.length c0, .slice A1 l1.length c1] w fun e w' => e = .returned (.int .i64 r) ∧ Below w.heap.size w w' := by
 have HR0 := Aside0.mk hr0
 have HC0 := Aside0.mk hc0
 clear hr0 hc0
 have HR1 := Aside0.mk hr1
 have HC1 := Aside0.mk hc1
 clear hr1 hc1
 have HB := aM (Below.refl w.heap.size w)
 have H : (fix_Dot.l0 k l0 l1 0 (mn (l0.length : Int) (l1.length : Int)) 0) = some r := h
 clear h
 obtain ⟨ji3, hji3⟩ : ∃ j_ : Int, (mn (l0.length : Int) (l1.length : Int)) = j_ := ⟨_, rfl⟩
 replace H : (fix_Dot.l0 k l0 l1 0 ji3 0) = some r := by first | (rw [hji3] at H; exact H) | (simp only [hji3] at H ⊢; exact H)
 (try (have hji3l : 0 ≤ ji3 := by (rw [← hji3]; unfold mn; (repeat' split) <;> omega)))
 (try (have hji3m : 0 ≤ ji3 := by omega))
 have hji3n : (if l1.length < l0.length then (l1.length : Int) else (l0.length : Int)) = ji3 := by have h_ := hji3; unfold mn at h_; simpa using h_
 have hji3_ : (if (l1.length : Int) < (l0.length : Int) then (l1.length : Int) else (l0.length : Int)) = ji3 := hji3
 have H' := Aside0.mk H
 clear H
 go_enter Try.func29, Try.ntmps29
 go_wp2
 repeat (go_quiet (fail); try go_wp2)
 go_loopg [5, 12] k (fun kq v5 v12 w' => ∃ (x5_1 : Int) (x12_1 : Int), v5 = .int .i64 x5_1 ∧ v12 = .int .i64 x12_1 ∧ Aside0 (fix_Dot.l0 kq l0 l1 x5_1 ji3 x12_1 = some r) ∧ Aside0 (kq ≤ k) ∧ Aside0 (Below w.heap.size w w'))
 case atStart => exact ⟨(0), (0), (by first | rfl | (simp; done) | (simp [*]; done)), (by first | rfl | (simp; done) | (simp [*]; done)), H', ⟨Nat.le_refl _⟩, ⟨by repeat (first | (with_reducible first|exact HB.out|apply bA|apply bN|apply bD)|exact HB.out)⟩⟩
 case round =>
  clear H'
  (try clear c1)
  obtain ⟨x5_1, x12_1, rfl, rfl, HA, HK1, HB⟩ := hrel
  cases gk with
  | zero => exact absurd HA.out (by simp [fix_Dot.l0])
  | succ k1 =>
   have H := HA.out
   clear HA
   simp only [fix_Dot.l0] at H
   by_cases c4 : x12_1 < ji3
   ·rw [if_pos c4] at H
    have c4b0 : decide (x12_1 < ji3) = true := decide_eq_true c4
    clear c4
    by_cases c5 : 0 ≤ x12_1
    ·rw [if_pos c5] at H
     have c5b0 : decide (0 ≤ x12_1) = true := decide_eq_true c5
     clear c5
     by_cases c6 : x12_1 < (l0.length : Int)
     ·rw [if_pos c6] at H
      have c6b0 : decide (x12_1 < (l0.length : Int)) = true := decide_eq_true c6
      clear c6
      by_cases c7 : x12_1 < (l1.length : Int)
      ·rw [if_pos c7] at H
       have c7b0 : decide (x12_1 < (l1.length : Int)) = true := decide_eq_true c7
       clear c7
       replace H := Option.bind_eq_some_iff.mp H
       obtain ⟨t188, A80, H⟩ := H
       replace H : ((fix_F_Add.f k1 x5_1 t188).bind fun t189 => (fix_Dot.l0 k1 l0 l1 t189 ji3 (wrap64 (x12_1 + 1)))) = some r := H
       have A8 := Aside0.mk A80
       clear A80
       replace H := Option.bind_eq_some_iff.mp H
       obtain ⟨t189, A90, H⟩ := H
       replace H : (fix_Dot.l0 k1 l0 l1 t189 ji3 (wrap64 (x12_1 + 1))) = some r := H
       have A9 := Aside0.mk A90
       clear A90
       as_aux_lemma =>
        have H' := Aside0.mk H
        clear H
        have p186 : 0 ≤ (x12_1 : Int) := of_decide_eq_true (by first | (with_reducible assumption) | assumption)
        have q186 : x12_1 < (l0.length : Int) := of_decide_eq_true (by first | (with_reducible assumption) | assumption)
        obtain ⟨ad186, e186, hx186_0⟩ := Kd.at_int HR0.out x12_1 p186 q186
        cases e186
        replace hx186_0 := (HB.out.cell (World.block_lt_of_cell? w _ hx186_0)).trans hx186_0
        replace p186 := eq_true p186
        replace q186 := eq_true q186
        have p187 : 0 ≤ (x12_1 : Int) := of_decide_eq_true (by first | (with_reducible assumption) | assumption)
        have q187 : x12_1 < (l1.length : Int) := of_decide_eq_true (by first | (with_reducible assumption) | assumption)
        obtain ⟨ad187, e187, hx187_0⟩ := Kd.at_int HR1.out x12_1 p187 q187
        cases e187
        replace hx187_0 := (HB.out.cell (World.block_lt_of_cell? w _ hx187_0)).trans hx187_0
        replace p187 := eq_true p187
        replace q187 := eq_true q187
        go_wp2_with (first | (go_at_call 33; (with_reducible refine (fix_F_Mul.calls k1 (rd l0 x12_1) (rd l1 x12_1) t188 _ A8.out).mono ?_); rintro e w' ⟨rfl, ⟨nd, rfl⟩⟩; (try first|exact ⟨rfl, _, World.drewN_drewN _ _ _⟩|exact ⟨rfl, _, Eq.trans (World.drewN_drewN _ _ _) (congrArg (World.drewN _) (Nat.add_assoc _ _ _))⟩)) | (go_at_call 30; (with_reducible refine (fix_F_Add.calls k1 x5_1 t188 t189 _ A9.out).mono ?_); rintro e w' ⟨rfl, ⟨nd, rfl⟩⟩; (try first|exact ⟨rfl, _, World.drewN_drewN _ _ _⟩|exact ⟨rfl, _, Eq.trans (World.drewN_drewN _ _ _) (congrArg (World.drewN _) (Nat.add_assoc _ _ _))⟩)))
        repeat (go_quiet (first | (go_at_call 33; (with_reducible refine (fix_F_Mul.calls k1 (rd l0 x12_1) (rd l1 x12_1) t188 _ A8.out).mono ?_); rintro e w' ⟨rfl, ⟨nd, rfl⟩⟩; (try first|exact ⟨rfl, _, World.drewN_drewN _ _ _⟩|exact ⟨rfl, _, Eq.trans (World.drewN_drewN _ _ _) (congrArg (World.drewN _) (Nat.add_assoc _ _ _))⟩)) | (go_at_call 30; (with_reducible refine (fix_F_Add.calls k1 x5_1 t188 t189 _ A9.out).mono ?_); rintro e w' ⟨rfl, ⟨nd, rfl⟩⟩; (try first|exact ⟨rfl, _, World.drewN_drewN _ _ _⟩|exact ⟨rfl, _, Eq.trans (World.drewN_drewN _ _ _) (congrArg (World.drewN _) (Nat.add_assoc _ _ _))⟩))); try go_wp2_with (first | (go_at_call 33; (with_reducible refine (fix_F_Mul.calls k1 (rd l0 x12_1) (rd l1 x12_1) t188 _ A8.out).mono ?_); rintro e w' ⟨rfl, ⟨nd, rfl⟩⟩; (try first|exact ⟨rfl, _, World.drewN_drewN _ _ _⟩|exact ⟨rfl, _, Eq.trans (World.drewN_drewN _ _ _) (congrArg (World.drewN _) (Nat.add_assoc _ _ _))⟩)) | (go_at_call 30; (with_reducible refine (fix_F_Add.calls k1 x5_1 t188 t189 _ A9.out).mono ?_); rintro e w' ⟨rfl, ⟨nd, rfl⟩⟩; (try first|exact ⟨rfl, _, World.drewN_drewN _ _ _⟩|exact ⟨rfl, _, Eq.trans (World.drewN_drewN _ _ _) (congrArg (World.drewN _) (Nat.add_assoc _ _ _))⟩))))
        go_roundg k1
        case measure => have := HK1.out; omega
        case rel => exact ⟨(t189), (wrap64 (x12_1 + 1)), (by first | rfl | (simp; done) | (simp [*]; done)), (by first | rfl | (simp; done) | (simp [*]; done)), H', ⟨by have := HK1.out; omega⟩, ⟨by repeat (first | (with_reducible first|exact HB.out|apply bA|apply bN|apply bD)|exact HB.out)⟩⟩
      ·rw [if_neg c7] at H
       exact absurd H (by simp)
     ·rw [if_neg c6] at H
      exact absurd H (by simp)
    ·rw [if_neg c5] at H
     exact absurd H (by simp)
   ·rw [if_neg c4] at H
    have c4b0 : decide (x12_1 < ji3) = false := decide_eq_false c4
    clear c4
    as_aux_lemma =>
     obtain rfl := Option.some.inj H
     go_wp2
     repeat (go_quiet (fail); try go_wp2)
     go_ret
     exact ⟨by first | rfl | (simp [errW_none, errW_some] <;> rfl) | (simp only [← hji3]; first | rfl | (simp [errW_none, errW_some] <;> rfl)) | (simp [*, errW_none, errW_some] <;> rfl), by repeat (first | (with_reducible first|exact HB.out|apply bA|apply bN|apply bD)|exact HB.out)⟩

end Go.Proofs.Ytgmgjddfceilhaa.PDen
