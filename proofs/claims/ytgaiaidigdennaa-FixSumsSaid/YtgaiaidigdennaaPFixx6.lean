-- printed by wip/tools/xp.py of this project (not trusted: Lean checks it)
import Derived.Test.YtgaiaidigdennaaPFixx0
import Derived.Test.YtgaiaidigdennaaPFixx1
import Derived.Test.YtgaiaidigdennaaPFixx3
import Derived.Test.YtgaiaidigdennaaPFixx4
import Derived.Test.YtgaiaidigdennaaPFixx5
namespace Go.Proofs.Ytgaiaidigdennaa.PFix
open Go.RowKit Go.Proofs.YtgaiaidigdennaaW.PrintWords Go.Proofs.YtgaiaidigdennaaW.PrintLast Go.Proofs.YtgaiaidigdennaaW.PrintMore
attribute [local go_sem] max2_int min2_int max_two min_two max_three min_three max_four min_four   -- for this text's walks alone
set_option linter.unusedVariables false
set_option linter.unusedSimpArgs false

/-! ### athanorlaw01_FixQuotients: function 4 -/
def athanorlaw01_FixQuotients.f (k : Nat) (a0 : Int) (a1 : Int) : Option (Bool) := (fix_F_Div.f k a0 a1).bind fun t178 => ((athanorref01_Div.f k a0 a1).bind fun t179 => (if t178 = t179 then ((fix_F_Div.f k a0 4294967296).bind fun t180 => (if t180 = a0 then (if a0 = 0 then ((athanorlaw01_awake.f k).bind fun t181 => (some t181)) else ((fix_F_Div.f k a0 a0).bind fun t182 => (if t182 = 4294967296 then ((athanorlaw01_awake.f k).bind fun t183 => (some t183)) else (some false)))) else (some false))) else (some false)))
theorem athanorlaw01_FixQuotients.mono : ∀ a0 a1 k, LeO (athanorlaw01_FixQuotients.f k a0 a1) (athanorlaw01_FixQuotients.f (k + 1) a0 a1) := by
  intro a0 a1 k
  unfold athanorlaw01_FixQuotients.f
  repeat' first
      | (with_reducible exact athanorlaw01_awake.mono _)
      | (with_reducible exact athanorref01_Div.mono _ _ _)
      | (with_reducible exact fix_F_Div.mono _ _ _)
      | (with_reducible exact LeO.refl _)
      | (with_reducible exact LeO.none _)
      | (with_reducible refine LeO.ite ?_ ?_)
      | (with_reducible refine LeO.bind ?_ (fun _ => ?_))
      | exact athanorlaw01_awake.mono _
      | exact athanorref01_Div.mono _ _ _
      | exact fix_F_Div.mono _ _ _
      | exact LeO.none _
      | refine LeO.ite ?_ ?_
      | refine LeO.bind ?_ (fun _ => ?_)
set_option maxHeartbeats 8000000 in
set_option maxRecDepth 100000 in
theorem athanorlaw01_FixQuotients.calls (k : Nat) (a0 : Int) (a1 : Int) (r : Bool) (w : World) (h : athanorlaw01_FixQuotients.f k a0 a1 = some r) :
    Calls Try.prog 4 #[.int .i64 a0, .int .i64 a1] w fun e w' => e = .returned (.bool r) ∧ Below w.heap.size w w' := by
  have HB := Aside0.mk (Below.refl w.heap.size w)
  have H : ((fix_F_Div.f k a0 a1).bind fun t178 => ((athanorref01_Div.f k a0 a1).bind fun t179 => (if t178 = t179 then ((fix_F_Div.f k a0 4294967296).bind fun t180 => (if t180 = a0 then (if a0 = 0 then ((athanorlaw01_awake.f k).bind fun t181 => (some t181)) else ((fix_F_Div.f k a0 a0).bind fun t182 => (if t182 = 4294967296 then ((athanorlaw01_awake.f k).bind fun t183 => (some t183)) else (some false)))) else (some false))) else (some false)))) = some r := h
  clear h
  replace H := Option.bind_eq_some_iff.mp H
  obtain ⟨t178, A30, H⟩ := H
  replace H : ((athanorref01_Div.f k a0 a1).bind fun t179 => (if t178 = t179 then ((fix_F_Div.f k a0 4294967296).bind fun t180 => (if t180 = a0 then (if a0 = 0 then ((athanorlaw01_awake.f k).bind fun t181 => (some t181)) else ((fix_F_Div.f k a0 a0).bind fun t182 => (if t182 = 4294967296 then ((athanorlaw01_awake.f k).bind fun t183 => (some t183)) else (some false)))) else (some false))) else (some false))) = some r := H
  have A3 := Aside0.mk A30
  clear A30
  replace H := Option.bind_eq_some_iff.mp H
  obtain ⟨t179, A40, H⟩ := H
  replace H : (if t178 = t179 then ((fix_F_Div.f k a0 4294967296).bind fun t180 => (if t180 = a0 then (if a0 = 0 then ((athanorlaw01_awake.f k).bind fun t181 => (some t181)) else ((fix_F_Div.f k a0 a0).bind fun t182 => (if t182 = 4294967296 then ((athanorlaw01_awake.f k).bind fun t183 => (some t183)) else (some false)))) else (some false))) else (some false)) = some r := H
  have A4 := Aside0.mk A40
  clear A40
  by_cases c5 : t178 = t179
  · rw [if_pos c5] at H
    have c5b0 : (t178 == t179) = true := beq_iff_eq.mpr c5
    have c5b1 : (t178 != t179) = false := bne_eq_false_iff_eq.mpr c5
    clear c5
    replace H := Option.bind_eq_some_iff.mp H
    obtain ⟨t180, A60, H⟩ := H
    replace H : (if t180 = a0 then (if a0 = 0 then ((athanorlaw01_awake.f k).bind fun t181 => (some t181)) else ((fix_F_Div.f k a0 a0).bind fun t182 => (if t182 = 4294967296 then ((athanorlaw01_awake.f k).bind fun t183 => (some t183)) else (some false)))) else (some false)) = some r := H
    have A6 := Aside0.mk A60
    clear A60
    by_cases c7 : t180 = a0
    · rw [if_pos c7] at H
      have c7b0 : (t180 == a0) = true := beq_iff_eq.mpr c7
      have c7b1 : (t180 != a0) = false := bne_eq_false_iff_eq.mpr c7
      clear c7
      by_cases c8 : a0 = 0
      · rw [if_pos c8] at H
        have c8b0 : (a0 == 0) = true := beq_iff_eq.mpr c8
        have c8b1 : (a0 != 0) = false := bne_eq_false_iff_eq.mpr c8
        clear c8
        replace H := Option.bind_eq_some_iff.mp H
        obtain ⟨t181, A90, H⟩ := H
        replace H : (some t181) = some r := H
        have A9 := Aside0.mk A90
        clear A90
        obtain rfl := Option.some.inj H
        go_enter Try.func4, Try.ntmps4
        go_wp2_with (first | ((with_reducible refine gate_callee (f := 12) rfl ?_); refine goesL_ (some 7) rfl rfl Try.func12 (by kernel_rfl) rfl #[.int .i64 a0, .int .i64 a1] rfl (by (try simp only [List.map_toArray, List.map_cons, List.map_nil]); first | done | rfl | (simp only [List.length_drop, List.length_take]; rfl)) ?_; (with_reducible refine (fix_F_Div.calls k a0 a1 t178 _ A3.out).mono ?_); rintro e w' ⟨rfl, ⟨nd, rfl⟩⟩; refine ⟨_, rfl, ?_⟩) | ((with_reducible refine gate_callee (f := 13) rfl ?_); refine goesL_ (some 10) rfl rfl Try.func13 (by kernel_rfl) rfl #[.int .i64 a0, .int .i64 a1] rfl (by (try simp only [List.map_toArray, List.map_cons, List.map_nil]); first | done | rfl | (simp only [List.length_drop, List.length_take]; rfl)) ?_; (with_reducible refine (athanorref01_Div.calls k a0 a1 t179 _ A4.out).mono ?_); rintro e w10 ⟨rfl, hb⟩; refine ⟨_, rfl, ?_⟩; have n0_ := Aside0.mk (below_step (by repeat (first | (with_reducible first | exact HB.out | apply below_alloc | apply pw_below_drewN | apply below_drew1) | exact HB.out)) hb); clear HB; have HB := n0_; clear n0_; (try clear hb); (try clear hb2); (try clear hk); (try clear hi)) | (go_at_call 12; (with_reducible refine (fix_F_Div.calls k a0 4294967296 t180 _ A6.out).mono ?_); rintro e w' ⟨rfl, ⟨nd, rfl⟩⟩) | (go_at_call 11; (with_reducible refine (athanorlaw01_awake.calls k  t181 _ A9.out).mono ?_); rintro e w11 ⟨rfl, hb⟩; have n0_ := Aside0.mk (below_step (by repeat (first | (with_reducible first | exact HB.out | apply below_alloc | apply pw_below_drewN | apply below_drew1) | exact HB.out)) hb); clear HB; have HB := n0_; clear n0_; (try clear hb); (try clear hb2); (try clear hk); (try clear hi)))
        go_ret
        exact ⟨by first | rfl | (simp [errW_none, errW_some] <;> rfl) | (simp [*, errW_none, errW_some] <;> rfl), by repeat (first | (with_reducible first | exact HB.out | apply below_alloc | apply pw_below_drewN | apply below_drew1) | exact HB.out)⟩
      · rw [if_neg c8] at H
        have c8b0 : (a0 == 0) = false := beq_eq_false_iff_ne.mpr c8
        have c8b1 : (a0 != 0) = true := bne_iff_ne.mpr c8
        replace H := Option.bind_eq_some_iff.mp H
        obtain ⟨t182, A120, H⟩ := H
        replace H : (if t182 = 4294967296 then ((athanorlaw01_awake.f k).bind fun t183 => (some t183)) else (some false)) = some r := H
        have A12 := Aside0.mk A120
        clear A120
        by_cases c13 : t182 = 4294967296
        · rw [if_pos c13] at H
          have c13b0 : (t182 == 4294967296) = true := beq_iff_eq.mpr c13
          have c13b1 : (t182 != 4294967296) = false := bne_eq_false_iff_eq.mpr c13
          clear c13
          replace H := Option.bind_eq_some_iff.mp H
          obtain ⟨t183, A140, H⟩ := H
          replace H : (some t183) = some r := H
          have A14 := Aside0.mk A140
          clear A140
          obtain rfl := Option.some.inj H
          go_enter Try.func4, Try.ntmps4
          go_wp2_with (first | ((with_reducible refine gate_callee (f := 12) rfl ?_); refine goesL_ (some 7) rfl rfl Try.func12 (by kernel_rfl) rfl #[.int .i64 a0, .int .i64 a1] rfl (by (try simp only [List.map_toArray, List.map_cons, List.map_nil]); first | done | rfl | (simp only [List.length_drop, List.length_take]; rfl)) ?_; (with_reducible refine (fix_F_Div.calls k a0 a1 t178 _ A3.out).mono ?_); rintro e w' ⟨rfl, ⟨nd, rfl⟩⟩; refine ⟨_, rfl, ?_⟩) | ((with_reducible refine gate_callee (f := 13) rfl ?_); refine goesL_ (some 10) rfl rfl Try.func13 (by kernel_rfl) rfl #[.int .i64 a0, .int .i64 a1] rfl (by (try simp only [List.map_toArray, List.map_cons, List.map_nil]); first | done | rfl | (simp only [List.length_drop, List.length_take]; rfl)) ?_; (with_reducible refine (athanorref01_Div.calls k a0 a1 t179 _ A4.out).mono ?_); rintro e w15 ⟨rfl, hb⟩; refine ⟨_, rfl, ?_⟩; have n0_ := Aside0.mk (below_step (by repeat (first | (with_reducible first | exact HB.out | apply below_alloc | apply pw_below_drewN | apply below_drew1) | exact HB.out)) hb); clear HB; have HB := n0_; clear n0_; (try clear hb); (try clear hb2); (try clear hk); (try clear hi)) | (go_at_call 12; (with_reducible refine (fix_F_Div.calls k a0 4294967296 t180 _ A6.out).mono ?_); rintro e w' ⟨rfl, ⟨nd, rfl⟩⟩) | (go_at_call 12; (with_reducible refine (fix_F_Div.calls k a0 a0 t182 _ A12.out).mono ?_); rintro e w' ⟨rfl, ⟨nd, rfl⟩⟩) | (go_at_call 11; (with_reducible refine (athanorlaw01_awake.calls k  t183 _ A14.out).mono ?_); rintro e w16 ⟨rfl, hb⟩; have n0_ := Aside0.mk (below_step (by repeat (first | (with_reducible first | exact HB.out | apply below_alloc | apply pw_below_drewN | apply below_drew1) | exact HB.out)) hb); clear HB; have HB := n0_; clear n0_; (try clear hb); (try clear hb2); (try clear hk); (try clear hi)))
          go_ret
          exact ⟨by first | rfl | (simp [errW_none, errW_some] <;> rfl) | (simp [*, errW_none, errW_some] <;> rfl), by repeat (first | (with_reducible first | exact HB.out | apply below_alloc | apply pw_below_drewN | apply below_drew1) | exact HB.out)⟩
        · rw [if_neg c13] at H
          have c13b0 : (t182 == 4294967296) = false := beq_eq_false_iff_ne.mpr c13
          have c13b1 : (t182 != 4294967296) = true := bne_iff_ne.mpr c13
          obtain rfl := Option.some.inj H
          go_enter Try.func4, Try.ntmps4
          go_wp2_with (first | ((with_reducible refine gate_callee (f := 12) rfl ?_); refine goesL_ (some 7) rfl rfl Try.func12 (by kernel_rfl) rfl #[.int .i64 a0, .int .i64 a1] rfl (by (try simp only [List.map_toArray, List.map_cons, List.map_nil]); first | done | rfl | (simp only [List.length_drop, List.length_take]; rfl)) ?_; (with_reducible refine (fix_F_Div.calls k a0 a1 t178 _ A3.out).mono ?_); rintro e w' ⟨rfl, ⟨nd, rfl⟩⟩; refine ⟨_, rfl, ?_⟩) | ((with_reducible refine gate_callee (f := 13) rfl ?_); refine goesL_ (some 10) rfl rfl Try.func13 (by kernel_rfl) rfl #[.int .i64 a0, .int .i64 a1] rfl (by (try simp only [List.map_toArray, List.map_cons, List.map_nil]); first | done | rfl | (simp only [List.length_drop, List.length_take]; rfl)) ?_; (with_reducible refine (athanorref01_Div.calls k a0 a1 t179 _ A4.out).mono ?_); rintro e w17 ⟨rfl, hb⟩; refine ⟨_, rfl, ?_⟩; have n0_ := Aside0.mk (below_step (by repeat (first | (with_reducible first | exact HB.out | apply below_alloc | apply pw_below_drewN | apply below_drew1) | exact HB.out)) hb); clear HB; have HB := n0_; clear n0_; (try clear hb); (try clear hb2); (try clear hk); (try clear hi)) | (go_at_call 12; (with_reducible refine (fix_F_Div.calls k a0 4294967296 t180 _ A6.out).mono ?_); rintro e w' ⟨rfl, ⟨nd, rfl⟩⟩) | (go_at_call 12; (with_reducible refine (fix_F_Div.calls k a0 a0 t182 _ A12.out).mono ?_); rintro e w' ⟨rfl, ⟨nd, rfl⟩⟩))
          go_ret
          exact ⟨by first | rfl | (simp [errW_none, errW_some] <;> rfl) | (simp [*, errW_none, errW_some] <;> rfl), by repeat (first | (with_reducible first | exact HB.out | apply below_alloc | apply pw_below_drewN | apply below_drew1) | exact HB.out)⟩
    · rw [if_neg c7] at H
      have c7b0 : (t180 == a0) = false := beq_eq_false_iff_ne.mpr c7
      have c7b1 : (t180 != a0) = true := bne_iff_ne.mpr c7
      obtain rfl := Option.some.inj H
      go_enter Try.func4, Try.ntmps4
      go_wp2_with (first | ((with_reducible refine gate_callee (f := 12) rfl ?_); refine goesL_ (some 7) rfl rfl Try.func12 (by kernel_rfl) rfl #[.int .i64 a0, .int .i64 a1] rfl (by (try simp only [List.map_toArray, List.map_cons, List.map_nil]); first | done | rfl | (simp only [List.length_drop, List.length_take]; rfl)) ?_; (with_reducible refine (fix_F_Div.calls k a0 a1 t178 _ A3.out).mono ?_); rintro e w' ⟨rfl, ⟨nd, rfl⟩⟩; refine ⟨_, rfl, ?_⟩) | ((with_reducible refine gate_callee (f := 13) rfl ?_); refine goesL_ (some 10) rfl rfl Try.func13 (by kernel_rfl) rfl #[.int .i64 a0, .int .i64 a1] rfl (by (try simp only [List.map_toArray, List.map_cons, List.map_nil]); first | done | rfl | (simp only [List.length_drop, List.length_take]; rfl)) ?_; (with_reducible refine (athanorref01_Div.calls k a0 a1 t179 _ A4.out).mono ?_); rintro e w18 ⟨rfl, hb⟩; refine ⟨_, rfl, ?_⟩; have n0_ := Aside0.mk (below_step (by repeat (first | (with_reducible first | exact HB.out | apply below_alloc | apply pw_below_drewN | apply below_drew1) | exact HB.out)) hb); clear HB; have HB := n0_; clear n0_; (try clear hb); (try clear hb2); (try clear hk); (try clear hi)) | (go_at_call 12; (with_reducible refine (fix_F_Div.calls k a0 4294967296 t180 _ A6.out).mono ?_); rintro e w' ⟨rfl, ⟨nd, rfl⟩⟩))
      go_ret
      exact ⟨by first | rfl | (simp [errW_none, errW_some] <;> rfl) | (simp [*, errW_none, errW_some] <;> rfl), by repeat (first | (with_reducible first | exact HB.out | apply below_alloc | apply pw_below_drewN | apply below_drew1) | exact HB.out)⟩
  · rw [if_neg c5] at H
    have c5b0 : (t178 == t179) = false := beq_eq_false_iff_ne.mpr c5
    have c5b1 : (t178 != t179) = true := bne_iff_ne.mpr c5
    obtain rfl := Option.some.inj H
    go_enter Try.func4, Try.ntmps4
    go_wp2_with (first | ((with_reducible refine gate_callee (f := 12) rfl ?_); refine goesL_ (some 7) rfl rfl Try.func12 (by kernel_rfl) rfl #[.int .i64 a0, .int .i64 a1] rfl (by (try simp only [List.map_toArray, List.map_cons, List.map_nil]); first | done | rfl | (simp only [List.length_drop, List.length_take]; rfl)) ?_; (with_reducible refine (fix_F_Div.calls k a0 a1 t178 _ A3.out).mono ?_); rintro e w' ⟨rfl, ⟨nd, rfl⟩⟩; refine ⟨_, rfl, ?_⟩) | ((with_reducible refine gate_callee (f := 13) rfl ?_); refine goesL_ (some 10) rfl rfl Try.func13 (by kernel_rfl) rfl #[.int .i64 a0, .int .i64 a1] rfl (by (try simp only [List.map_toArray, List.map_cons, List.map_nil]); first | done | rfl | (simp only [List.length_drop, List.length_take]; rfl)) ?_; (with_reducible refine (athanorref01_Div.calls k a0 a1 t179 _ A4.out).mono ?_); rintro e w19 ⟨rfl, hb⟩; refine ⟨_, rfl, ?_⟩; have n0_ := Aside0.mk (below_step (by repeat (first | (with_reducible first | exact HB.out | apply below_alloc | apply pw_below_drewN | apply below_drew1) | exact HB.out)) hb); clear HB; have HB := n0_; clear n0_; (try clear hb); (try clear hb2); (try clear hk); (try clear hi)))
    go_ret
    exact ⟨by first | rfl | (simp [errW_none, errW_some] <;> rfl) | (simp [*, errW_none, errW_some] <;> rfl), by repeat (first | (with_reducible first | exact HB.out | apply below_alloc | apply pw_below_drewN | apply below_drew1) | exact HB.out)⟩

/-- THE ONE PURE STATEMENT of athanorlaw01_FixQuotients: yours. -/
def athanorlaw01_FixQuotients.Pure : Prop := ∀ (a0 : Int) (a1 : Int), (Lit.int .i64 a0).wf = true → (Lit.int .i64 a1).wf = true → ∃ k, athanorlaw01_FixQuotients.f k a0 a1 = some true
theorem athanorlaw01_FixQuotients.walk (P : athanorlaw01_FixQuotients.Pure) (a0 : Int) (a1 : Int) (w : World) (w0 : (Lit.int .i64 a0).wf = true) (w1 : (Lit.int .i64 a1).wf = true) :
    Calls Try.prog 4 #[.int .i64 a0, .int .i64 a1] w fun e w' => e = .returned (.bool true) ∧ Below w.heap.size w w' := by
  obtain ⟨k, h⟩ := P a0 a1 w0 w1
  refine (athanorlaw01_FixQuotients.calls k a0 a1 true w h).mono ?_
  rintro e w' ⟨rfl, hd⟩
  exact ⟨rfl, hd⟩

/-! ### fix_F_Abs: function 19 -/
def fix_F_Abs.f (a0 : Int) : Option (Int) := if a0 < 0 then ((fix_F_Neg.f a0).bind fun t184 => (some t184)) else (some a0)
set_option maxHeartbeats 8000000 in
set_option maxRecDepth 100000 in
theorem fix_F_Abs.calls (a0 : Int) (r : Int) (w : World) (h : fix_F_Abs.f a0 = some r) :
    Calls Try.prog 19 #[.int .i64 a0] w fun e w' => e = .returned (.int .i64 r) ∧ Drawn0 w w' := by
  have H : (if a0 < 0 then ((fix_F_Neg.f a0).bind fun t184 => (some t184)) else (some a0)) = some r := h
  clear h
  by_cases c2 : a0 < 0
  · rw [if_pos c2] at H
    have c2b0 : decide (a0 < 0) = true := decide_eq_true c2
    clear c2
    replace H := Option.bind_eq_some_iff.mp H
    obtain ⟨t184, A30, H⟩ := H
    replace H : (some t184) = some r := H
    have A3 := Aside0.mk A30
    clear A30
    obtain rfl := Option.some.inj H
    go_enter Try.func19, Try.ntmps19
    go_wp2_with (first | ((with_reducible refine gate_callee (f := 20) rfl ?_); refine goesL_ (some 6) rfl rfl Try.func20 (by kernel_rfl) rfl #[.int .i64 a0] rfl (by (try simp only [List.map_toArray, List.map_cons, List.map_nil]); first | done | rfl | (simp only [List.length_drop, List.length_take]; rfl)) ?_; (with_reducible refine (fix_F_Neg.calls a0 t184 _ A3.out).mono ?_); rintro e w' ⟨rfl, ⟨nd, rfl⟩⟩; refine ⟨_, rfl, ?_⟩))
    go_ret
    exact ⟨by first | rfl | (simp; done) | (simp [*]; done), by repeat (first | exact Drawn0.refl _ | apply Drawn0.step)⟩
  · rw [if_neg c2] at H
    have c2b0 : decide (a0 < 0) = false := decide_eq_false c2
    clear c2
    obtain rfl := Option.some.inj H
    go_enter Try.func19, Try.ntmps19
    go_wp2
    go_ret
    exact ⟨by first | rfl | (simp; done) | (simp [*]; done), by repeat (first | exact Drawn0.refl _ | apply Drawn0.step)⟩

/-! ### athanorlaw01_FixWhole: function 5 -/
mutual
def athanorlaw01_FixWhole.j0 : Nat → Int → Int → Int → Bool → Option (Bool)
  | 0, _, _, _, _ => none
  | k + 1, x0, x1, x5, x31 => if x31 = true then (some false) else (if x0 < 2147483648 then (if x0 ≥ (-2147483648) then ((fix_F_Floor.f x5).bind fun t191 => (athanorlaw01_FixWhole.j1 k x1 (t191 != x0))) else (athanorlaw01_FixWhole.j1 k x1 false)) else (athanorlaw01_FixWhole.j1 k x1 false))
def athanorlaw01_FixWhole.j1 : Nat → Int → Bool → Option (Bool)
  | 0, _, _ => none
  | k + 1, x1, x43 => if x43 = true then (some false) else ((fix_F_Floor.f x1).bind fun t192 => (if (wrap64 (t192 * 4294967296)) ≤ x1 then (if (IntKind.u64.wrap (wrap64 (x1 - (wrap64 (t192 * 4294967296))))) < 4294967296 then ((fix_F_Abs.f x1).bind fun t193 => (if t193 ≥ 0 then ((fix_F_Abs.f x1).bind fun t194 => (if t193 = x1 then (if x1 = (-9223372036854775808) then ((athanorlaw01_awake.f k).bind fun t195 => (some t195)) else ((fix_F_Neg.f x1).bind fun t196 => ((fix_F_Neg.f t196).bind fun t197 => (if t197 = x1 then ((athanorlaw01_awake.f k).bind fun t198 => (some t198)) else (some false))))) else ((fix_F_Abs.f x1).bind fun t199 => ((fix_F_Neg.f x1).bind fun t200 => (if t193 = t200 then (if x1 = (-9223372036854775808) then ((athanorlaw01_awake.f k).bind fun t201 => (some t201)) else ((fix_F_Neg.f x1).bind fun t202 => ((fix_F_Neg.f t200).bind fun t203 => (if t203 = x1 then ((athanorlaw01_awake.f k).bind fun t204 => (some t204)) else (some false))))) else (some false)))))) else (some false))) else (some false)) else (some false)))
end
def athanorlaw01_FixWhole.f (k : Nat) (a0 : Int) (a1 : Int) : Option (Bool) := (fix_Int.f k a0).bind fun t185 => ((athanorref01_Size.f a0).bind fun t186 => ((athanorref01_Size.f a0).bind fun t187 => ((athanorref01_Held.f k (IntKind.u64.wrap (t186 * 4294967296)) (decide (t186 ≥ 4294967296)) (decide (a0 < 0))).bind fun t188 => (if t185 = t188 then ((fix_Ratio.f k a0 a1).bind fun t189 => ((athanorref01_Div.f k a0 a1).bind fun t190 => (athanorlaw01_FixWhole.j0 k a0 a1 t185 (t189 != t190)))) else (athanorlaw01_FixWhole.j0 k a0 a1 t185 true)))))
theorem athanorlaw01_FixWhole.mono_l : ∀ k, (∀ y0 y1 y2 y3, LeO (athanorlaw01_FixWhole.j0 k y0 y1 y2 y3) (athanorlaw01_FixWhole.j0 (k + 1) y0 y1 y2 y3)) ∧ (∀ y0 y1, LeO (athanorlaw01_FixWhole.j1 k y0 y1) (athanorlaw01_FixWhole.j1 (k + 1) y0 y1))
  | 0 => ⟨fun _ _ _ _ r h => by simp [athanorlaw01_FixWhole.j0] at h, fun _ _ r h => by simp [athanorlaw01_FixWhole.j1] at h⟩
  | k + 1 => by
    obtain ⟨ih0, ih1⟩ := athanorlaw01_FixWhole.mono_l k
    refine ⟨?_, ?_⟩
    · intro y0 y1 y2 y3
      unfold athanorlaw01_FixWhole.j0
      repeat' first
      | (with_reducible exact ih0 _ _ _ _)
      | (with_reducible exact ih1 _ _)
      | (with_reducible exact athanorlaw01_awake.mono _)
      | (with_reducible exact athanorref01_Div.mono _ _ _)
      | (with_reducible exact athanorref01_Held.mono _ _ _ _)
      | (with_reducible exact fix_Int.mono _ _)
      | (with_reducible exact fix_Ratio.mono _ _ _)
      | (with_reducible exact LeO.refl _)
      | (with_reducible exact LeO.none _)
      | (with_reducible refine LeO.ite ?_ ?_)
      | (with_reducible refine LeO.bind ?_ (fun _ => ?_))
      | exact ih0 _ _ _ _
      | exact ih1 _ _
      | exact athanorlaw01_awake.mono _
      | exact athanorref01_Div.mono _ _ _
      | exact athanorref01_Held.mono _ _ _ _
      | exact fix_Int.mono _ _
      | exact fix_Ratio.mono _ _ _
      | exact LeO.none _
      | refine LeO.ite ?_ ?_
      | refine LeO.bind ?_ (fun _ => ?_)
    · intro y0 y1
      unfold athanorlaw01_FixWhole.j1
      repeat' first
      | (with_reducible exact ih0 _ _ _ _)
      | (with_reducible exact ih1 _ _)
      | (with_reducible exact athanorlaw01_awake.mono _)
      | (with_reducible exact athanorref01_Div.mono _ _ _)
      | (with_reducible exact athanorref01_Held.mono _ _ _ _)
      | (with_reducible exact fix_Int.mono _ _)
      | (with_reducible exact fix_Ratio.mono _ _ _)
      | (with_reducible exact LeO.refl _)
      | (with_reducible exact LeO.none _)
      | (with_reducible refine LeO.ite ?_ ?_)
      | (with_reducible refine LeO.bind ?_ (fun _ => ?_))
      | exact ih0 _ _ _ _
      | exact ih1 _ _
      | exact athanorlaw01_awake.mono _
      | exact athanorref01_Div.mono _ _ _
      | exact athanorref01_Held.mono _ _ _ _
      | exact fix_Int.mono _ _
      | exact fix_Ratio.mono _ _ _
      | exact LeO.none _
      | refine LeO.ite ?_ ?_
      | refine LeO.bind ?_ (fun _ => ?_)
theorem athanorlaw01_FixWhole.mono : ∀ a0 a1 k, LeO (athanorlaw01_FixWhole.f k a0 a1) (athanorlaw01_FixWhole.f (k + 1) a0 a1) := by
  intro a0 a1 k
  obtain ⟨ih0, ih1⟩ := athanorlaw01_FixWhole.mono_l k
  unfold athanorlaw01_FixWhole.f
  repeat' first
      | (with_reducible exact ih0 _ _ _ _)
      | (with_reducible exact ih1 _ _)
      | (with_reducible exact athanorlaw01_awake.mono _)
      | (with_reducible exact athanorref01_Div.mono _ _ _)
      | (with_reducible exact athanorref01_Held.mono _ _ _ _)
      | (with_reducible exact fix_Int.mono _ _)
      | (with_reducible exact fix_Ratio.mono _ _ _)
      | (with_reducible exact LeO.refl _)
      | (with_reducible exact LeO.none _)
      | (with_reducible refine LeO.ite ?_ ?_)
      | (with_reducible refine LeO.bind ?_ (fun _ => ?_))
      | exact ih0 _ _ _ _
      | exact ih1 _ _
      | exact athanorlaw01_awake.mono _
      | exact athanorref01_Div.mono _ _ _
      | exact athanorref01_Held.mono _ _ _ _
      | exact fix_Int.mono _ _
      | exact fix_Ratio.mono _ _ _
      | exact LeO.none _
      | refine LeO.ite ?_ ?_
      | refine LeO.bind ?_ (fun _ => ?_)
set_option maxHeartbeats 8000000 in
set_option maxRecDepth 100000 in
theorem athanorlaw01_FixWhole.calls (k : Nat) (a0 : Int) (a1 : Int) (r : Bool) (w : World) (h : athanorlaw01_FixWhole.f k a0 a1 = some r) :
    Calls Try.prog 5 #[.int .i64 a0, .int .i64 a1] w fun e w' => e = .returned (.bool r) ∧ Below w.heap.size w w' := by
  have HB := Aside0.mk (Below.refl w.heap.size w)
  have H : ((fix_Int.f k a0).bind fun t185 => ((athanorref01_Size.f a0).bind fun t186 => ((athanorref01_Size.f a0).bind fun t187 => ((athanorref01_Held.f k (IntKind.u64.wrap (t186 * 4294967296)) (decide (t186 ≥ 4294967296)) (decide (a0 < 0))).bind fun t188 => (if t185 = t188 then ((fix_Ratio.f k a0 a1).bind fun t189 => ((athanorref01_Div.f k a0 a1).bind fun t190 => (athanorlaw01_FixWhole.j0 k a0 a1 t185 (t189 != t190)))) else (athanorlaw01_FixWhole.j0 k a0 a1 t185 true)))))) = some r := h
  clear h
  replace H := Option.bind_eq_some_iff.mp H
  obtain ⟨t185, A30, H⟩ := H
  replace H : ((athanorref01_Size.f a0).bind fun t186 => ((athanorref01_Size.f a0).bind fun t187 => ((athanorref01_Held.f k (IntKind.u64.wrap (t186 * 4294967296)) (decide (t186 ≥ 4294967296)) (decide (a0 < 0))).bind fun t188 => (if t185 = t188 then ((fix_Ratio.f k a0 a1).bind fun t189 => ((athanorref01_Div.f k a0 a1).bind fun t190 => (athanorlaw01_FixWhole.j0 k a0 a1 t185 (t189 != t190)))) else (athanorlaw01_FixWhole.j0 k a0 a1 t185 true))))) = some r := H
  have A3 := Aside0.mk A30
  clear A30
  replace H := Option.bind_eq_some_iff.mp H
  obtain ⟨t186, A40, H⟩ := H
  replace H : ((athanorref01_Size.f a0).bind fun t187 => ((athanorref01_Held.f k (IntKind.u64.wrap (t186 * 4294967296)) (decide (t186 ≥ 4294967296)) (decide (a0 < 0))).bind fun t188 => (if t185 = t188 then ((fix_Ratio.f k a0 a1).bind fun t189 => ((athanorref01_Div.f k a0 a1).bind fun t190 => (athanorlaw01_FixWhole.j0 k a0 a1 t185 (t189 != t190)))) else (athanorlaw01_FixWhole.j0 k a0 a1 t185 true)))) = some r := H
  have A4 := Aside0.mk A40
  clear A40
  replace H := Option.bind_eq_some_iff.mp H
  obtain ⟨t187, A50, H⟩ := H
  replace H : ((athanorref01_Held.f k (IntKind.u64.wrap (t186 * 4294967296)) (decide (t186 ≥ 4294967296)) (decide (a0 < 0))).bind fun t188 => (if t185 = t188 then ((fix_Ratio.f k a0 a1).bind fun t189 => ((athanorref01_Div.f k a0 a1).bind fun t190 => (athanorlaw01_FixWhole.j0 k a0 a1 t185 (t189 != t190)))) else (athanorlaw01_FixWhole.j0 k a0 a1 t185 true))) = some r := H
  have EA5 := (by assumption : Aside0 (athanorref01_Size.f a0 = some t186)).out.symm.trans A50
  simp only [Option.some.injEq, Prod.mk.injEq] at EA5
  obtain rfl := EA5
  have A5 := Aside0.mk A50
  clear A50
  replace H := Option.bind_eq_some_iff.mp H
  obtain ⟨t188, A60, H⟩ := H
  replace H : (if t185 = t188 then ((fix_Ratio.f k a0 a1).bind fun t189 => ((athanorref01_Div.f k a0 a1).bind fun t190 => (athanorlaw01_FixWhole.j0 k a0 a1 t185 (t189 != t190)))) else (athanorlaw01_FixWhole.j0 k a0 a1 t185 true)) = some r := H
  have A6 := Aside0.mk A60
  clear A60
  have HC7 := Aside0.mk H
  clear H
  go_enter Try.func5, Try.ntmps5
  go_upto_region 3 with (first | ((with_reducible refine gate_callee (f := 14) rfl ?_); refine goesL_ (some 10) rfl rfl Try.func14 (by kernel_rfl) rfl #[.int .i64 a0] rfl (by (try simp only [List.map_toArray, List.map_cons, List.map_nil]); first | done | rfl | (simp only [List.length_drop, List.length_take]; rfl)) ?_; (with_reducible refine (fix_Int.calls k a0 t185 _ A3.out).mono ?_); rintro e w' ⟨rfl, ⟨nd, rfl⟩⟩; refine ⟨_, rfl, ?_⟩) | ((with_reducible refine gate_callee (f := 16) rfl ?_); refine goesL_ (some 12) rfl rfl Try.func16 (by kernel_rfl) rfl #[.int .i64 a0] rfl (by (try simp only [List.map_toArray, List.map_cons, List.map_nil]); first | done | rfl | (simp only [List.length_drop, List.length_take]; rfl)) ?_; (with_reducible refine (athanorref01_Size.calls a0 t186 _ A4.out).mono ?_); rintro e w' ⟨rfl, ⟨nd, rfl⟩⟩; refine ⟨_, rfl, ?_⟩) | ((with_reducible refine gate_callee (f := 16) rfl ?_); refine goesL_ (some 15) rfl rfl Try.func16 (by kernel_rfl) rfl #[.int .i64 a0] rfl (by (try simp only [List.map_toArray, List.map_cons, List.map_nil]); first | done | rfl | (simp only [List.length_drop, List.length_take]; rfl)) ?_; (with_reducible refine (athanorref01_Size.calls a0 t186 _ A5.out).mono ?_); rintro e w' ⟨rfl, ⟨nd, rfl⟩⟩; refine ⟨_, rfl, ?_⟩) | ((with_reducible refine gate_callee (f := 15) rfl ?_); refine goesL_ (some 19) rfl rfl Try.func15 (by kernel_rfl) rfl #[.int .u64 (IntKind.u64.wrap (t186 * 4294967296)), .bool (decide (t186 ≥ 4294967296)), .bool (decide (a0 < 0))] rfl (by (try simp only [List.map_toArray, List.map_cons, List.map_nil]); first | done | rfl | (simp only [List.length_drop, List.length_take]; rfl)) ?_; (with_reducible refine (athanorref01_Held.calls k (IntKind.u64.wrap (t186 * 4294967296)) (decide (t186 ≥ 4294967296)) (decide (a0 < 0)) t188 _ A6.out).mono ?_); rintro e w' ⟨rfl, ⟨nd, rfl⟩⟩; refine ⟨_, rfl, ?_⟩))
  (try simp only [Act.put, List.setIfInBounds_toArray, List.set_cons_zero, List.set_cons_succ])
  go_cut [31] (fun v31 wc => ∃ (kq : Nat) (x31_6 : Bool), v31 = .bool x31_6 ∧ Aside0 (athanorlaw01_FixWhole.j0 kq a0 a1 t185 x31_6 = some r) ∧ Aside0 (kq ≤ k) ∧ Aside0 (Below w.heap.size w wc))
  case first =>
    have H := HC7.out
    clear HC7
    by_cases c8 : t185 = t188
    · rw [if_pos c8] at H
      have c8b0 : (t185 == t188) = true := beq_iff_eq.mpr c8
      have c8b1 : (t185 != t188) = false := bne_eq_false_iff_eq.mpr c8
      clear c8
      (first | rw [c8b0] | (simp only [i64_w, i32_w]; rw [c8b0]) | skip)
      replace H := Option.bind_eq_some_iff.mp H
      obtain ⟨t189, A90, H⟩ := H
      replace H : ((athanorref01_Div.f k a0 a1).bind fun t190 => (athanorlaw01_FixWhole.j0 k a0 a1 t185 (t189 != t190))) = some r := H
      have A9 := Aside0.mk A90
      clear A90
      replace H := Option.bind_eq_some_iff.mp H
      obtain ⟨t190, A100, H⟩ := H
      replace H : (athanorlaw01_FixWhole.j0 k a0 a1 t185 (t189 != t190)) = some r := H
      have A10 := Aside0.mk A100
      clear A100
      have H' := Aside0.mk H
      clear H
      go_wp2_with (first | (go_at_call 17; (with_reducible refine (fix_Ratio.calls k a0 a1 t189 _ A9.out).mono ?_); rintro e w' ⟨rfl, ⟨nd, rfl⟩⟩) | (go_at_call 13; (with_reducible refine (athanorref01_Div.calls k a0 a1 t190 _ A10.out).mono ?_); rintro e w11 ⟨rfl, hb⟩; have n0_ := Aside0.mk (below_step (by repeat (first | (with_reducible first | exact HB.out | apply below_alloc | apply pw_below_drewN | apply below_drew1) | exact HB.out)) hb); clear HB; have HB := n0_; clear n0_; (try clear hb); (try clear hb2); (try clear hk); (try clear hi)))
      go_meet
      case rel => exact ⟨_, ((t189 != t190)), (by first | rfl | (simp; done) | (simp [*]; done)), H', ⟨by first | omega | exact Nat.le_refl _⟩, ⟨by repeat (first | (with_reducible first | exact HB.out | apply below_alloc | apply pw_below_drewN | apply below_drew1) | exact HB.out)⟩⟩
    · rw [if_neg c8] at H
      have c8b0 : (t185 == t188) = false := beq_eq_false_iff_ne.mpr c8
      have c8b1 : (t185 != t188) = true := bne_iff_ne.mpr c8
      (first | rw [c8b0] | (simp only [i64_w, i32_w]; rw [c8b0]) | skip)
      have H' := Aside0.mk H
      clear H
      go_wp2
      go_meet
      case rel => exact ⟨_, (true), (by first | rfl | (simp; done) | (simp [*]; done)), H', ⟨by first | omega | exact Nat.le_refl _⟩, ⟨by repeat (first | (with_reducible first | exact HB.out | apply below_alloc | apply pw_below_drewN | apply below_drew1) | exact HB.out)⟩⟩
  case rest =>
    clear HC7
    try clear c1
    try clear p2
    try clear c5
    try clear c8
    try clear c8b0
    try clear c8b1
    obtain ⟨kq, x31_6, rfl, HA, HJ6, HB⟩ := hcut
    cases kq with
    | zero => exact absurd HA.out (by simp [athanorlaw01_FixWhole.j0])
    | succ kj6 =>
      have H := HA.out
      clear HA
      simp only [athanorlaw01_FixWhole.j0] at H
      by_cases c12 : x31_6 = true
      · subst c12
        have H1 : (some false) = some r := by rw [if_pos rfl] at H; exact H
        clear H
        have H := H1
        clear H1
        obtain rfl := Option.some.inj H
        go_wp2
        go_ret
        exact ⟨by first | rfl | (simp [errW_none, errW_some] <;> rfl) | (simp [*, errW_none, errW_some] <;> rfl), by repeat (first | (with_reducible first | exact HB.out | apply below_alloc | apply pw_below_drewN | apply below_drew1) | exact HB.out)⟩
      · replace c12 := Bool.eq_false_iff.mpr c12
        subst c12
        have H1 : (if a0 < 2147483648 then (if a0 ≥ (-2147483648) then ((fix_F_Floor.f t185).bind fun t191 => (athanorlaw01_FixWhole.j1 kj6 a1 (t191 != a0))) else (athanorlaw01_FixWhole.j1 kj6 a1 false)) else (athanorlaw01_FixWhole.j1 kj6 a1 false)) = some r := by rw [if_neg (show ¬ (false = true) by decide)] at H; exact H
        clear H
        have H := H1
        clear H1
        have HC13 := Aside0.mk H
        clear H
        go_upto_region 5 with (fail)
        go_cut [43] (fun v43 wc => ∃ (kq : Nat) (x43_12 : Bool), v43 = .bool x43_12 ∧ Aside0 (athanorlaw01_FixWhole.j1 kq a1 x43_12 = some r) ∧ Aside0 (kq ≤ kj6) ∧ Aside0 (Below w.heap.size w wc))
        case first =>
          have H := HC13.out
          clear HC13
          by_cases c14 : a0 < 2147483648
          · rw [if_pos c14] at H
            have c14b0 : decide (a0 < 2147483648) = true := decide_eq_true c14
            clear c14
            (first | rw [c14b0] | (simp only [i64_w, i32_w]; rw [c14b0]) | skip)
            by_cases c15 : a0 ≥ (-2147483648)
            · rw [if_pos c15] at H
              have c15b0 : decide ((-2147483648) ≤ a0) = true := decide_eq_true c15
              clear c15
              replace H := Option.bind_eq_some_iff.mp H
              obtain ⟨t191, A160, H⟩ := H
              replace H : (athanorlaw01_FixWhole.j1 kj6 a1 (t191 != a0)) = some r := H
              have A16 := Aside0.mk A160
              clear A160
              have H' := Aside0.mk H
              clear H
              go_wp2_with (first | (go_at_call 18; (with_reducible refine (fix_F_Floor.calls t185 t191 _ A16.out).mono ?_); rintro e w' ⟨rfl, ⟨nd, rfl⟩⟩))
              go_meet
              case rel => exact ⟨_, ((t191 != a0)), (by first | rfl | (simp; done) | (simp [*]; done)), H', ⟨by have := HJ6.out; first | omega | exact Nat.le_refl _⟩, ⟨by repeat (first | (with_reducible first | exact HB.out | apply below_alloc | apply pw_below_drewN | apply below_drew1) | exact HB.out)⟩⟩
            · rw [if_neg c15] at H
              have c15b0 : decide ((-2147483648) ≤ a0) = false := decide_eq_false c15
              clear c15
              have H' := Aside0.mk H
              clear H
              go_wp2
              go_meet
              case rel => exact ⟨_, (false), (by first | rfl | (simp; done) | (simp [*]; done)), H', ⟨by have := HJ6.out; first | omega | exact Nat.le_refl _⟩, ⟨by repeat (first | (with_reducible first | exact HB.out | apply below_alloc | apply pw_below_drewN | apply below_drew1) | exact HB.out)⟩⟩
          · rw [if_neg c14] at H
            have c14b0 : decide (a0 < 2147483648) = false := decide_eq_false c14
            clear c14
            (first | rw [c14b0] | (simp only [i64_w, i32_w]; rw [c14b0]) | skip)
            have H' := Aside0.mk H
            clear H
            go_wp2
            go_meet
            case rel => exact ⟨_, (false), (by first | rfl | (simp; done) | (simp [*]; done)), H', ⟨by have := HJ6.out; first | omega | exact Nat.le_refl _⟩, ⟨by repeat (first | (with_reducible first | exact HB.out | apply below_alloc | apply pw_below_drewN | apply below_drew1) | exact HB.out)⟩⟩
        case rest =>
          clear HC13
          try clear c1
          try clear p2
          try clear c5
          try clear c8
          try clear c8b0
          try clear c8b1
          try clear c12
          try clear c14
          try clear c14b0
          try clear c15
          try clear c15b0
          try clear c16
          try clear p2
          obtain ⟨kq, x43_12, rfl, HA, HJ12, HB⟩ := hcut
          cases kq with
          | zero => exact absurd HA.out (by simp [athanorlaw01_FixWhole.j1])
          | succ kj12 =>
            have H := HA.out
            clear HA
            simp only [athanorlaw01_FixWhole.j1] at H
            by_cases c17 : x43_12 = true
            · subst c17
              have H1 : (some false) = some r := by rw [if_pos rfl] at H; exact H
              clear H
              have H := H1
              clear H1
              obtain rfl := Option.some.inj H
              go_wp2
              go_ret
              exact ⟨by first | rfl | (simp [errW_none, errW_some] <;> rfl) | (simp [*, errW_none, errW_some] <;> rfl), by repeat (first | (with_reducible first | exact HB.out | apply below_alloc | apply pw_below_drewN | apply below_drew1) | exact HB.out)⟩
            · replace c17 := Bool.eq_false_iff.mpr c17
              subst c17
              have H1 : ((fix_F_Floor.f a1).bind fun t192 => (if (wrap64 (t192 * 4294967296)) ≤ a1 then (if (IntKind.u64.wrap (wrap64 (a1 - (wrap64 (t192 * 4294967296))))) < 4294967296 then ((fix_F_Abs.f a1).bind fun t193 => (if t193 ≥ 0 then ((fix_F_Abs.f a1).bind fun t194 => (if t193 = a1 then (if a1 = (-9223372036854775808) then ((athanorlaw01_awake.f kj12).bind fun t195 => (some t195)) else ((fix_F_Neg.f a1).bind fun t196 => ((fix_F_Neg.f t196).bind fun t197 => (if t197 = a1 then ((athanorlaw01_awake.f kj12).bind fun t198 => (some t198)) else (some false))))) else ((fix_F_Abs.f a1).bind fun t199 => ((fix_F_Neg.f a1).bind fun t200 => (if t193 = t200 then (if a1 = (-9223372036854775808) then ((athanorlaw01_awake.f kj12).bind fun t201 => (some t201)) else ((fix_F_Neg.f a1).bind fun t202 => ((fix_F_Neg.f t200).bind fun t203 => (if t203 = a1 then ((athanorlaw01_awake.f kj12).bind fun t204 => (some t204)) else (some false))))) else (some false)))))) else (some false))) else (some false)) else (some false))) = some r := by rw [if_neg (show ¬ (false = true) by decide)] at H; exact H
              clear H
              have H := H1
              clear H1
              replace H := Option.bind_eq_some_iff.mp H
              obtain ⟨t192, A180, H⟩ := H
              replace H : (if (wrap64 (t192 * 4294967296)) ≤ a1 then (if (IntKind.u64.wrap (wrap64 (a1 - (wrap64 (t192 * 4294967296))))) < 4294967296 then ((fix_F_Abs.f a1).bind fun t193 => (if t193 ≥ 0 then ((fix_F_Abs.f a1).bind fun t194 => (if t193 = a1 then (if a1 = (-9223372036854775808) then ((athanorlaw01_awake.f kj12).bind fun t195 => (some t195)) else ((fix_F_Neg.f a1).bind fun t196 => ((fix_F_Neg.f t196).bind fun t197 => (if t197 = a1 then ((athanorlaw01_awake.f kj12).bind fun t198 => (some t198)) else (some false))))) else ((fix_F_Abs.f a1).bind fun t199 => ((fix_F_Neg.f a1).bind fun t200 => (if t193 = t200 then (if a1 = (-9223372036854775808) then ((athanorlaw01_awake.f kj12).bind fun t201 => (some t201)) else ((fix_F_Neg.f a1).bind fun t202 => ((fix_F_Neg.f t200).bind fun t203 => (if t203 = a1 then ((athanorlaw01_awake.f kj12).bind fun t204 => (some t204)) else (some false))))) else (some false)))))) else (some false))) else (some false)) else (some false)) = some r := H
              have A18 := Aside0.mk A180
              clear A180
              by_cases c19 : (wrap64 (t192 * 4294967296)) ≤ a1
              · rw [if_pos c19] at H
                have c19b0 : decide ((wrap64 (t192 * 4294967296)) ≤ a1) = true := decide_eq_true c19
                clear c19
                by_cases c20 : (IntKind.u64.wrap (wrap64 (a1 - (wrap64 (t192 * 4294967296))))) < 4294967296
                · rw [if_pos c20] at H
                  have c20b0 : decide ((IntKind.u64.wrap (wrap64 (a1 - (wrap64 (t192 * 4294967296))))) < 4294967296) = true := decide_eq_true c20
                  clear c20
                  replace H := Option.bind_eq_some_iff.mp H
                  obtain ⟨t193, A210, H⟩ := H
                  replace H : (if t193 ≥ 0 then ((fix_F_Abs.f a1).bind fun t194 => (if t193 = a1 then (if a1 = (-9223372036854775808) then ((athanorlaw01_awake.f kj12).bind fun t195 => (some t195)) else ((fix_F_Neg.f a1).bind fun t196 => ((fix_F_Neg.f t196).bind fun t197 => (if t197 = a1 then ((athanorlaw01_awake.f kj12).bind fun t198 => (some t198)) else (some false))))) else ((fix_F_Abs.f a1).bind fun t199 => ((fix_F_Neg.f a1).bind fun t200 => (if t193 = t200 then (if a1 = (-9223372036854775808) then ((athanorlaw01_awake.f kj12).bind fun t201 => (some t201)) else ((fix_F_Neg.f a1).bind fun t202 => ((fix_F_Neg.f t200).bind fun t203 => (if t203 = a1 then ((athanorlaw01_awake.f kj12).bind fun t204 => (some t204)) else (some false))))) else (some false)))))) else (some false)) = some r := H
                  have A21 := Aside0.mk A210
                  clear A210
                  by_cases c22 : t193 ≥ 0
                  · rw [if_pos c22] at H
                    have c22b0 : decide (0 ≤ t193) = true := decide_eq_true c22
                    clear c22
                    replace H := Option.bind_eq_some_iff.mp H
                    obtain ⟨t194, A230, H⟩ := H
                    replace H : (if t193 = a1 then (if a1 = (-9223372036854775808) then ((athanorlaw01_awake.f kj12).bind fun t195 => (some t195)) else ((fix_F_Neg.f a1).bind fun t196 => ((fix_F_Neg.f t196).bind fun t197 => (if t197 = a1 then ((athanorlaw01_awake.f kj12).bind fun t198 => (some t198)) else (some false))))) else ((fix_F_Abs.f a1).bind fun t199 => ((fix_F_Neg.f a1).bind fun t200 => (if t193 = t200 then (if a1 = (-9223372036854775808) then ((athanorlaw01_awake.f kj12).bind fun t201 => (some t201)) else ((fix_F_Neg.f a1).bind fun t202 => ((fix_F_Neg.f t200).bind fun t203 => (if t203 = a1 then ((athanorlaw01_awake.f kj12).bind fun t204 => (some t204)) else (some false))))) else (some false))))) = some r := H
                    have EA23 := (by assumption : Aside0 (fix_F_Abs.f a1 = some t193)).out.symm.trans A230
                    simp only [Option.some.injEq, Prod.mk.injEq] at EA23
                    obtain rfl := EA23
                    have A23 := Aside0.mk A230
                    clear A230
                    by_cases c24 : t193 = a1
                    · rw [if_pos c24] at H
                      have c24b0 : (t193 == a1) = true := beq_iff_eq.mpr c24
                      have c24b1 : (t193 != a1) = false := bne_eq_false_iff_eq.mpr c24
                      clear c24
                      by_cases c25 : a1 = (-9223372036854775808)
                      · rw [if_pos c25] at H
                        have c25b0 : (a1 == (-9223372036854775808)) = true := beq_iff_eq.mpr c25
                        have c25b1 : (a1 != (-9223372036854775808)) = false := bne_eq_false_iff_eq.mpr c25
                        clear c25
                        replace H := Option.bind_eq_some_iff.mp H
                        obtain ⟨t195, A260, H⟩ := H
                        replace H : (some t195) = some r := H
                        have A26 := Aside0.mk A260
                        clear A260
                        obtain rfl := Option.some.inj H
                        go_wp2_with (first | ((with_reducible refine gate_callee (f := 18) rfl ?_); refine goesL_ (some 46) rfl rfl Try.func18 (by kernel_rfl) rfl #[.int .i64 a1] rfl (by (try simp only [List.map_toArray, List.map_cons, List.map_nil]); first | done | rfl | (simp only [List.length_drop, List.length_take]; rfl)) ?_; (with_reducible refine (fix_F_Floor.calls a1 t192 _ A18.out).mono ?_); rintro e w' ⟨rfl, ⟨nd, rfl⟩⟩; refine ⟨_, rfl, ?_⟩) | (go_at_call 19; (with_reducible refine (fix_F_Abs.calls a1 t193 _ A21.out).mono ?_); rintro e w' ⟨rfl, ⟨nd, rfl⟩⟩) | (go_at_call 19; (with_reducible refine (fix_F_Abs.calls a1 t193 _ A23.out).mono ?_); rintro e w' ⟨rfl, ⟨nd, rfl⟩⟩) | (go_at_call 11; (with_reducible refine (athanorlaw01_awake.calls kj12  t195 _ A26.out).mono ?_); rintro e w27 ⟨rfl, hb⟩; have n0_ := Aside0.mk (below_step (by repeat (first | (with_reducible first | exact HB.out | apply below_alloc | apply pw_below_drewN | apply below_drew1) | exact HB.out)) hb); clear HB; have HB := n0_; clear n0_; (try clear hb); (try clear hb2); (try clear hk); (try clear hi)))
                        go_ret
                        exact ⟨by first | rfl | (simp [errW_none, errW_some] <;> rfl) | (simp [*, errW_none, errW_some] <;> rfl), by repeat (first | (with_reducible first | exact HB.out | apply below_alloc | apply pw_below_drewN | apply below_drew1) | exact HB.out)⟩
                      · rw [if_neg c25] at H
                        have c25b0 : (a1 == (-9223372036854775808)) = false := beq_eq_false_iff_ne.mpr c25
                        have c25b1 : (a1 != (-9223372036854775808)) = true := bne_iff_ne.mpr c25
                        replace H := Option.bind_eq_some_iff.mp H
                        obtain ⟨t196, A280, H⟩ := H
                        replace H : ((fix_F_Neg.f t196).bind fun t197 => (if t197 = a1 then ((athanorlaw01_awake.f kj12).bind fun t198 => (some t198)) else (some false))) = some r := H
                        have A28 := Aside0.mk A280
                        clear A280
                        replace H := Option.bind_eq_some_iff.mp H
                        obtain ⟨t197, A290, H⟩ := H
                        replace H : (if t197 = a1 then ((athanorlaw01_awake.f kj12).bind fun t198 => (some t198)) else (some false)) = some r := H
                        have A29 := Aside0.mk A290
                        clear A290
                        by_cases c30 : t197 = a1
                        · rw [if_pos c30] at H
                          have c30b0 : (t197 == a1) = true := beq_iff_eq.mpr c30
                          have c30b1 : (t197 != a1) = false := bne_eq_false_iff_eq.mpr c30
                          clear c30
                          replace H := Option.bind_eq_some_iff.mp H
                          obtain ⟨t198, A310, H⟩ := H
                          replace H : (some t198) = some r := H
                          have A31 := Aside0.mk A310
                          clear A310
                          obtain rfl := Option.some.inj H
                          go_wp2_with (first | ((with_reducible refine gate_callee (f := 18) rfl ?_); refine goesL_ (some 46) rfl rfl Try.func18 (by kernel_rfl) rfl #[.int .i64 a1] rfl (by (try simp only [List.map_toArray, List.map_cons, List.map_nil]); first | done | rfl | (simp only [List.length_drop, List.length_take]; rfl)) ?_; (with_reducible refine (fix_F_Floor.calls a1 t192 _ A18.out).mono ?_); rintro e w' ⟨rfl, ⟨nd, rfl⟩⟩; refine ⟨_, rfl, ?_⟩) | (go_at_call 19; (with_reducible refine (fix_F_Abs.calls a1 t193 _ A21.out).mono ?_); rintro e w' ⟨rfl, ⟨nd, rfl⟩⟩) | (go_at_call 19; (with_reducible refine (fix_F_Abs.calls a1 t193 _ A23.out).mono ?_); rintro e w' ⟨rfl, ⟨nd, rfl⟩⟩) | (go_at_call 20; (with_reducible refine (fix_F_Neg.calls a1 t196 _ A28.out).mono ?_); rintro e w' ⟨rfl, ⟨nd, rfl⟩⟩) | (go_at_call 20; (with_reducible refine (fix_F_Neg.calls t196 t197 _ A29.out).mono ?_); rintro e w' ⟨rfl, ⟨nd, rfl⟩⟩) | (go_at_call 11; (with_reducible refine (athanorlaw01_awake.calls kj12  t198 _ A31.out).mono ?_); rintro e w32 ⟨rfl, hb⟩; have n0_ := Aside0.mk (below_step (by repeat (first | (with_reducible first | exact HB.out | apply below_alloc | apply pw_below_drewN | apply below_drew1) | exact HB.out)) hb); clear HB; have HB := n0_; clear n0_; (try clear hb); (try clear hb2); (try clear hk); (try clear hi)))
                          go_ret
                          exact ⟨by first | rfl | (simp [errW_none, errW_some] <;> rfl) | (simp [*, errW_none, errW_some] <;> rfl), by repeat (first | (with_reducible first | exact HB.out | apply below_alloc | apply pw_below_drewN | apply below_drew1) | exact HB.out)⟩
                        · rw [if_neg c30] at H
                          have c30b0 : (t197 == a1) = false := beq_eq_false_iff_ne.mpr c30
                          have c30b1 : (t197 != a1) = true := bne_iff_ne.mpr c30
                          obtain rfl := Option.some.inj H
                          go_wp2_with (first | ((with_reducible refine gate_callee (f := 18) rfl ?_); refine goesL_ (some 46) rfl rfl Try.func18 (by kernel_rfl) rfl #[.int .i64 a1] rfl (by (try simp only [List.map_toArray, List.map_cons, List.map_nil]); first | done | rfl | (simp only [List.length_drop, List.length_take]; rfl)) ?_; (with_reducible refine (fix_F_Floor.calls a1 t192 _ A18.out).mono ?_); rintro e w' ⟨rfl, ⟨nd, rfl⟩⟩; refine ⟨_, rfl, ?_⟩) | (go_at_call 19; (with_reducible refine (fix_F_Abs.calls a1 t193 _ A21.out).mono ?_); rintro e w' ⟨rfl, ⟨nd, rfl⟩⟩) | (go_at_call 19; (with_reducible refine (fix_F_Abs.calls a1 t193 _ A23.out).mono ?_); rintro e w' ⟨rfl, ⟨nd, rfl⟩⟩) | (go_at_call 20; (with_reducible refine (fix_F_Neg.calls a1 t196 _ A28.out).mono ?_); rintro e w' ⟨rfl, ⟨nd, rfl⟩⟩) | (go_at_call 20; (with_reducible refine (fix_F_Neg.calls t196 t197 _ A29.out).mono ?_); rintro e w' ⟨rfl, ⟨nd, rfl⟩⟩))
                          go_ret
                          exact ⟨by first | rfl | (simp [errW_none, errW_some] <;> rfl) | (simp [*, errW_none, errW_some] <;> rfl), by repeat (first | (with_reducible first | exact HB.out | apply below_alloc | apply pw_below_drewN | apply below_drew1) | exact HB.out)⟩
                    · rw [if_neg c24] at H
                      have c24b0 : (t193 == a1) = false := beq_eq_false_iff_ne.mpr c24
                      have c24b1 : (t193 != a1) = true := bne_iff_ne.mpr c24
                      replace H := Option.bind_eq_some_iff.mp H
                      obtain ⟨t199, A330, H⟩ := H
                      replace H : ((fix_F_Neg.f a1).bind fun t200 => (if t193 = t200 then (if a1 = (-9223372036854775808) then ((athanorlaw01_awake.f kj12).bind fun t201 => (some t201)) else ((fix_F_Neg.f a1).bind fun t202 => ((fix_F_Neg.f t200).bind fun t203 => (if t203 = a1 then ((athanorlaw01_awake.f kj12).bind fun t204 => (some t204)) else (some false))))) else (some false))) = some r := H
                      have EA33 := (by assumption : Aside0 (fix_F_Abs.f a1 = some t193)).out.symm.trans A330
                      simp only [Option.some.injEq, Prod.mk.injEq] at EA33
                      obtain rfl := EA33
                      have A33 := Aside0.mk A330
                      clear A330
                      replace H := Option.bind_eq_some_iff.mp H
                      obtain ⟨t200, A340, H⟩ := H
                      replace H : (if t193 = t200 then (if a1 = (-9223372036854775808) then ((athanorlaw01_awake.f kj12).bind fun t201 => (some t201)) else ((fix_F_Neg.f a1).bind fun t202 => ((fix_F_Neg.f t200).bind fun t203 => (if t203 = a1 then ((athanorlaw01_awake.f kj12).bind fun t204 => (some t204)) else (some false))))) else (some false)) = some r := H
                      have A34 := Aside0.mk A340
                      clear A340
                      by_cases c35 : t193 = t200
                      · rw [if_pos c35] at H
                        have c35b0 : (t193 == t200) = true := beq_iff_eq.mpr c35
                        have c35b1 : (t193 != t200) = false := bne_eq_false_iff_eq.mpr c35
                        clear c35
                        by_cases c36 : a1 = (-9223372036854775808)
                        · rw [if_pos c36] at H
                          have c36b0 : (a1 == (-9223372036854775808)) = true := beq_iff_eq.mpr c36
                          have c36b1 : (a1 != (-9223372036854775808)) = false := bne_eq_false_iff_eq.mpr c36
                          clear c36
                          replace H := Option.bind_eq_some_iff.mp H
                          obtain ⟨t201, A370, H⟩ := H
                          replace H : (some t201) = some r := H
                          have A37 := Aside0.mk A370
                          clear A370
                          obtain rfl := Option.some.inj H
                          go_wp2_with (first | ((with_reducible refine gate_callee (f := 18) rfl ?_); refine goesL_ (some 46) rfl rfl Try.func18 (by kernel_rfl) rfl #[.int .i64 a1] rfl (by (try simp only [List.map_toArray, List.map_cons, List.map_nil]); first | done | rfl | (simp only [List.length_drop, List.length_take]; rfl)) ?_; (with_reducible refine (fix_F_Floor.calls a1 t192 _ A18.out).mono ?_); rintro e w' ⟨rfl, ⟨nd, rfl⟩⟩; refine ⟨_, rfl, ?_⟩) | (go_at_call 19; (with_reducible refine (fix_F_Abs.calls a1 t193 _ A21.out).mono ?_); rintro e w' ⟨rfl, ⟨nd, rfl⟩⟩) | (go_at_call 19; (with_reducible refine (fix_F_Abs.calls a1 t193 _ A23.out).mono ?_); rintro e w' ⟨rfl, ⟨nd, rfl⟩⟩) | (go_at_call 19; (with_reducible refine (fix_F_Abs.calls a1 t193 _ A33.out).mono ?_); rintro e w' ⟨rfl, ⟨nd, rfl⟩⟩) | (go_at_call 20; (with_reducible refine (fix_F_Neg.calls a1 t200 _ A34.out).mono ?_); rintro e w' ⟨rfl, ⟨nd, rfl⟩⟩) | (go_at_call 11; (with_reducible refine (athanorlaw01_awake.calls kj12  t201 _ A37.out).mono ?_); rintro e w38 ⟨rfl, hb⟩; have n0_ := Aside0.mk (below_step (by repeat (first | (with_reducible first | exact HB.out | apply below_alloc | apply pw_below_drewN | apply below_drew1) | exact HB.out)) hb); clear HB; have HB := n0_; clear n0_; (try clear hb); (try clear hb2); (try clear hk); (try clear hi)))
                          go_ret
                          exact ⟨by first | rfl | (simp [errW_none, errW_some] <;> rfl) | (simp [*, errW_none, errW_some] <;> rfl), by repeat (first | (with_reducible first | exact HB.out | apply below_alloc | apply pw_below_drewN | apply below_drew1) | exact HB.out)⟩
                        · rw [if_neg c36] at H
                          have c36b0 : (a1 == (-9223372036854775808)) = false := beq_eq_false_iff_ne.mpr c36
                          have c36b1 : (a1 != (-9223372036854775808)) = true := bne_iff_ne.mpr c36
                          replace H := Option.bind_eq_some_iff.mp H
                          obtain ⟨t202, A390, H⟩ := H
                          replace H : ((fix_F_Neg.f t200).bind fun t203 => (if t203 = a1 then ((athanorlaw01_awake.f kj12).bind fun t204 => (some t204)) else (some false))) = some r := H
                          have EA39 := (by assumption : Aside0 (fix_F_Neg.f a1 = some t200)).out.symm.trans A390
                          simp only [Option.some.injEq, Prod.mk.injEq] at EA39
                          obtain rfl := EA39
                          have A39 := Aside0.mk A390
                          clear A390
                          replace H := Option.bind_eq_some_iff.mp H
                          obtain ⟨t203, A400, H⟩ := H
                          replace H : (if t203 = a1 then ((athanorlaw01_awake.f kj12).bind fun t204 => (some t204)) else (some false)) = some r := H
                          have A40 := Aside0.mk A400
                          clear A400
                          by_cases c41 : t203 = a1
                          · rw [if_pos c41] at H
                            have c41b0 : (t203 == a1) = true := beq_iff_eq.mpr c41
                            have c41b1 : (t203 != a1) = false := bne_eq_false_iff_eq.mpr c41
                            clear c41
                            replace H := Option.bind_eq_some_iff.mp H
                            obtain ⟨t204, A420, H⟩ := H
                            replace H : (some t204) = some r := H
                            have A42 := Aside0.mk A420
                            clear A420
                            obtain rfl := Option.some.inj H
                            go_wp2_with (first | ((with_reducible refine gate_callee (f := 18) rfl ?_); refine goesL_ (some 46) rfl rfl Try.func18 (by kernel_rfl) rfl #[.int .i64 a1] rfl (by (try simp only [List.map_toArray, List.map_cons, List.map_nil]); first | done | rfl | (simp only [List.length_drop, List.length_take]; rfl)) ?_; (with_reducible refine (fix_F_Floor.calls a1 t192 _ A18.out).mono ?_); rintro e w' ⟨rfl, ⟨nd, rfl⟩⟩; refine ⟨_, rfl, ?_⟩) | (go_at_call 19; (with_reducible refine (fix_F_Abs.calls a1 t193 _ A21.out).mono ?_); rintro e w' ⟨rfl, ⟨nd, rfl⟩⟩) | (go_at_call 19; (with_reducible refine (fix_F_Abs.calls a1 t193 _ A23.out).mono ?_); rintro e w' ⟨rfl, ⟨nd, rfl⟩⟩) | (go_at_call 19; (with_reducible refine (fix_F_Abs.calls a1 t193 _ A33.out).mono ?_); rintro e w' ⟨rfl, ⟨nd, rfl⟩⟩) | (go_at_call 20; (with_reducible refine (fix_F_Neg.calls a1 t200 _ A34.out).mono ?_); rintro e w' ⟨rfl, ⟨nd, rfl⟩⟩) | (go_at_call 20; (with_reducible refine (fix_F_Neg.calls a1 t200 _ A39.out).mono ?_); rintro e w' ⟨rfl, ⟨nd, rfl⟩⟩) | (go_at_call 20; (with_reducible refine (fix_F_Neg.calls t200 t203 _ A40.out).mono ?_); rintro e w' ⟨rfl, ⟨nd, rfl⟩⟩) | (go_at_call 11; (with_reducible refine (athanorlaw01_awake.calls kj12  t204 _ A42.out).mono ?_); rintro e w43 ⟨rfl, hb⟩; have n0_ := Aside0.mk (below_step (by repeat (first | (with_reducible first | exact HB.out | apply below_alloc | apply pw_below_drewN | apply below_drew1) | exact HB.out)) hb); clear HB; have HB := n0_; clear n0_; (try clear hb); (try clear hb2); (try clear hk); (try clear hi)))
                            go_ret
                            exact ⟨by first | rfl | (simp [errW_none, errW_some] <;> rfl) | (simp [*, errW_none, errW_some] <;> rfl), by repeat (first | (with_reducible first | exact HB.out | apply below_alloc | apply pw_below_drewN | apply below_drew1) | exact HB.out)⟩
                          · rw [if_neg c41] at H
                            have c41b0 : (t203 == a1) = false := beq_eq_false_iff_ne.mpr c41
                            have c41b1 : (t203 != a1) = true := bne_iff_ne.mpr c41
                            obtain rfl := Option.some.inj H
                            go_wp2_with (first | ((with_reducible refine gate_callee (f := 18) rfl ?_); refine goesL_ (some 46) rfl rfl Try.func18 (by kernel_rfl) rfl #[.int .i64 a1] rfl (by (try simp only [List.map_toArray, List.map_cons, List.map_nil]); first | done | rfl | (simp only [List.length_drop, List.length_take]; rfl)) ?_; (with_reducible refine (fix_F_Floor.calls a1 t192 _ A18.out).mono ?_); rintro e w' ⟨rfl, ⟨nd, rfl⟩⟩; refine ⟨_, rfl, ?_⟩) | (go_at_call 19; (with_reducible refine (fix_F_Abs.calls a1 t193 _ A21.out).mono ?_); rintro e w' ⟨rfl, ⟨nd, rfl⟩⟩) | (go_at_call 19; (with_reducible refine (fix_F_Abs.calls a1 t193 _ A23.out).mono ?_); rintro e w' ⟨rfl, ⟨nd, rfl⟩⟩) | (go_at_call 19; (with_reducible refine (fix_F_Abs.calls a1 t193 _ A33.out).mono ?_); rintro e w' ⟨rfl, ⟨nd, rfl⟩⟩) | (go_at_call 20; (with_reducible refine (fix_F_Neg.calls a1 t200 _ A34.out).mono ?_); rintro e w' ⟨rfl, ⟨nd, rfl⟩⟩) | (go_at_call 20; (with_reducible refine (fix_F_Neg.calls a1 t200 _ A39.out).mono ?_); rintro e w' ⟨rfl, ⟨nd, rfl⟩⟩) | (go_at_call 20; (with_reducible refine (fix_F_Neg.calls t200 t203 _ A40.out).mono ?_); rintro e w' ⟨rfl, ⟨nd, rfl⟩⟩))
                            go_ret
                            exact ⟨by first | rfl | (simp [errW_none, errW_some] <;> rfl) | (simp [*, errW_none, errW_some] <;> rfl), by repeat (first | (with_reducible first | exact HB.out | apply below_alloc | apply pw_below_drewN | apply below_drew1) | exact HB.out)⟩
                      · rw [if_neg c35] at H
                        have c35b0 : (t193 == t200) = false := beq_eq_false_iff_ne.mpr c35
                        have c35b1 : (t193 != t200) = true := bne_iff_ne.mpr c35
                        obtain rfl := Option.some.inj H
                        go_wp2_with (first | ((with_reducible refine gate_callee (f := 18) rfl ?_); refine goesL_ (some 46) rfl rfl Try.func18 (by kernel_rfl) rfl #[.int .i64 a1] rfl (by (try simp only [List.map_toArray, List.map_cons, List.map_nil]); first | done | rfl | (simp only [List.length_drop, List.length_take]; rfl)) ?_; (with_reducible refine (fix_F_Floor.calls a1 t192 _ A18.out).mono ?_); rintro e w' ⟨rfl, ⟨nd, rfl⟩⟩; refine ⟨_, rfl, ?_⟩) | (go_at_call 19; (with_reducible refine (fix_F_Abs.calls a1 t193 _ A21.out).mono ?_); rintro e w' ⟨rfl, ⟨nd, rfl⟩⟩) | (go_at_call 19; (with_reducible refine (fix_F_Abs.calls a1 t193 _ A23.out).mono ?_); rintro e w' ⟨rfl, ⟨nd, rfl⟩⟩) | (go_at_call 19; (with_reducible refine (fix_F_Abs.calls a1 t193 _ A33.out).mono ?_); rintro e w' ⟨rfl, ⟨nd, rfl⟩⟩) | (go_at_call 20; (with_reducible refine (fix_F_Neg.calls a1 t200 _ A34.out).mono ?_); rintro e w' ⟨rfl, ⟨nd, rfl⟩⟩))
                        go_ret
                        exact ⟨by first | rfl | (simp [errW_none, errW_some] <;> rfl) | (simp [*, errW_none, errW_some] <;> rfl), by repeat (first | (with_reducible first | exact HB.out | apply below_alloc | apply pw_below_drewN | apply below_drew1) | exact HB.out)⟩
                  · rw [if_neg c22] at H
                    have c22b0 : decide (0 ≤ t193) = false := decide_eq_false c22
                    clear c22
                    obtain rfl := Option.some.inj H
                    go_wp2_with (first | ((with_reducible refine gate_callee (f := 18) rfl ?_); refine goesL_ (some 46) rfl rfl Try.func18 (by kernel_rfl) rfl #[.int .i64 a1] rfl (by (try simp only [List.map_toArray, List.map_cons, List.map_nil]); first | done | rfl | (simp only [List.length_drop, List.length_take]; rfl)) ?_; (with_reducible refine (fix_F_Floor.calls a1 t192 _ A18.out).mono ?_); rintro e w' ⟨rfl, ⟨nd, rfl⟩⟩; refine ⟨_, rfl, ?_⟩) | (go_at_call 19; (with_reducible refine (fix_F_Abs.calls a1 t193 _ A21.out).mono ?_); rintro e w' ⟨rfl, ⟨nd, rfl⟩⟩))
                    go_ret
                    exact ⟨by first | rfl | (simp [errW_none, errW_some] <;> rfl) | (simp [*, errW_none, errW_some] <;> rfl), by repeat (first | (with_reducible first | exact HB.out | apply below_alloc | apply pw_below_drewN | apply below_drew1) | exact HB.out)⟩
                · rw [if_neg c20] at H
                  have c20b0 : decide ((IntKind.u64.wrap (wrap64 (a1 - (wrap64 (t192 * 4294967296))))) < 4294967296) = false := decide_eq_false c20
                  clear c20
                  obtain rfl := Option.some.inj H
                  go_wp2_with (first | ((with_reducible refine gate_callee (f := 18) rfl ?_); refine goesL_ (some 46) rfl rfl Try.func18 (by kernel_rfl) rfl #[.int .i64 a1] rfl (by (try simp only [List.map_toArray, List.map_cons, List.map_nil]); first | done | rfl | (simp only [List.length_drop, List.length_take]; rfl)) ?_; (with_reducible refine (fix_F_Floor.calls a1 t192 _ A18.out).mono ?_); rintro e w' ⟨rfl, ⟨nd, rfl⟩⟩; refine ⟨_, rfl, ?_⟩))
                  go_ret
                  exact ⟨by first | rfl | (simp [errW_none, errW_some] <;> rfl) | (simp [*, errW_none, errW_some] <;> rfl), by repeat (first | (with_reducible first | exact HB.out | apply below_alloc | apply pw_below_drewN | apply below_drew1) | exact HB.out)⟩
              · rw [if_neg c19] at H
                have c19b0 : decide ((wrap64 (t192 * 4294967296)) ≤ a1) = false := decide_eq_false c19
                clear c19
                obtain rfl := Option.some.inj H
                go_wp2_with (first | ((with_reducible refine gate_callee (f := 18) rfl ?_); refine goesL_ (some 46) rfl rfl Try.func18 (by kernel_rfl) rfl #[.int .i64 a1] rfl (by (try simp only [List.map_toArray, List.map_cons, List.map_nil]); first | done | rfl | (simp only [List.length_drop, List.length_take]; rfl)) ?_; (with_reducible refine (fix_F_Floor.calls a1 t192 _ A18.out).mono ?_); rintro e w' ⟨rfl, ⟨nd, rfl⟩⟩; refine ⟨_, rfl, ?_⟩))
                go_ret
                exact ⟨by first | rfl | (simp [errW_none, errW_some] <;> rfl) | (simp [*, errW_none, errW_some] <;> rfl), by repeat (first | (with_reducible first | exact HB.out | apply below_alloc | apply pw_below_drewN | apply below_drew1) | exact HB.out)⟩

/-- THE ONE PURE STATEMENT of athanorlaw01_FixWhole: yours. -/
def athanorlaw01_FixWhole.Pure : Prop := ∀ (a0 : Int) (a1 : Int), (Lit.int .i64 a0).wf = true → (Lit.int .i64 a1).wf = true → ∃ k, athanorlaw01_FixWhole.f k a0 a1 = some true
theorem athanorlaw01_FixWhole.walk (P : athanorlaw01_FixWhole.Pure) (a0 : Int) (a1 : Int) (w : World) (w0 : (Lit.int .i64 a0).wf = true) (w1 : (Lit.int .i64 a1).wf = true) :
    Calls Try.prog 5 #[.int .i64 a0, .int .i64 a1] w fun e w' => e = .returned (.bool true) ∧ Below w.heap.size w w' := by
  obtain ⟨k, h⟩ := P a0 a1 w0 w1
  refine (athanorlaw01_FixWhole.calls k a0 a1 true w h).mono ?_
  rintro e w' ⟨rfl, hd⟩
  exact ⟨rfl, hd⟩

/-! ### athanorref01_Add: function 21 -/
def athanorref01_Add.j0 : Nat → Int → Int → Bool → Option (Int)
  | 0, _, _, _ => none
  | k + 1, x0, x1, x12 => if x12 = true then (some 9223372036854775807) else (if x0 < 0 then (if x1 < (wrap64 ((-9223372036854775808) - x0)) then (some (-9223372036854775808)) else (some (wrap64 (x0 + x1)))) else (some (wrap64 (x0 + x1))))
def athanorref01_Add.f (k : Nat) (a0 : Int) (a1 : Int) : Option (Int) := if a0 > 0 then (athanorref01_Add.j0 k a0 a1 (decide (a1 > (wrap64 (9223372036854775807 - a0))))) else (athanorref01_Add.j0 k a0 a1 false)
theorem athanorref01_Add.mono_l : ∀ k, (∀ y0 y1 y2, LeO (athanorref01_Add.j0 k y0 y1 y2) (athanorref01_Add.j0 (k + 1) y0 y1 y2))
  | 0 => fun _ _ _ r h => by simp [athanorref01_Add.j0] at h
  | k + 1 => by
    have ih0 := athanorref01_Add.mono_l k
    · intro y0 y1 y2
      unfold athanorref01_Add.j0
      repeat' first
      | (with_reducible exact ih0 _ _ _)
      | (with_reducible exact LeO.refl _)
      | (with_reducible exact LeO.none _)
      | (with_reducible refine LeO.ite ?_ ?_)
      | (with_reducible refine LeO.bind ?_ (fun _ => ?_))
      | exact ih0 _ _ _
      | exact LeO.none _
      | refine LeO.ite ?_ ?_
      | refine LeO.bind ?_ (fun _ => ?_)
theorem athanorref01_Add.mono : ∀ a0 a1 k, LeO (athanorref01_Add.f k a0 a1) (athanorref01_Add.f (k + 1) a0 a1) := by
  intro a0 a1 k
  have ih0 := athanorref01_Add.mono_l k
  unfold athanorref01_Add.f
  repeat' first
      | (with_reducible exact ih0 _ _ _)
      | (with_reducible exact LeO.refl _)
      | (with_reducible exact LeO.none _)
      | (with_reducible refine LeO.ite ?_ ?_)
      | (with_reducible refine LeO.bind ?_ (fun _ => ?_))
      | exact ih0 _ _ _
      | exact LeO.none _
      | refine LeO.ite ?_ ?_
      | refine LeO.bind ?_ (fun _ => ?_)
set_option maxHeartbeats 8000000 in
set_option maxRecDepth 100000 in
theorem athanorref01_Add.calls (k : Nat) (a0 : Int) (a1 : Int) (r : Int) (w : World) (h : athanorref01_Add.f k a0 a1 = some r) :
    Calls Try.prog 21 #[.int .i64 a0, .int .i64 a1] w fun e w' => e = .returned (.int .i64 r) ∧ Drawn0 w w' := by
  have H : (if a0 > 0 then (athanorref01_Add.j0 k a0 a1 (decide (a1 > (wrap64 (9223372036854775807 - a0))))) else (athanorref01_Add.j0 k a0 a1 false)) = some r := h
  clear h
  have HC3 := Aside0.mk H
  clear H
  go_enter Try.func21, Try.ntmps21
  go_upto_region 1 with (fail)
  go_cut [12] (fun v12 wc => ∃ (kq : Nat) (x12_2 : Bool), v12 = .bool x12_2 ∧ Aside0 (athanorref01_Add.j0 kq a0 a1 x12_2 = some r) ∧ Aside0 (kq ≤ k) ∧ Drawn0 w wc)
  case first =>
    have H := HC3.out
    clear HC3
    by_cases c4 : a0 > 0
    · rw [if_pos c4] at H
      have c4b0 : decide (0 < a0) = true := decide_eq_true c4
      clear c4
      (first | rw [c4b0] | (simp only [i64_w, i32_w]; rw [c4b0]) | skip)
      have H' := Aside0.mk H
      clear H
      go_wp2
      go_meet
      case rel => exact ⟨_, (decide (a1 > (wrap64 (9223372036854775807 - a0)))), (by first | rfl | (simp; done) | (simp [*]; done)), H', ⟨by first | omega | exact Nat.le_refl _⟩, by repeat (first | exact Drawn0.refl _ | apply Drawn0.step)⟩
    · rw [if_neg c4] at H
      have c4b0 : decide (0 < a0) = false := decide_eq_false c4
      clear c4
      (first | rw [c4b0] | (simp only [i64_w, i32_w]; rw [c4b0]) | skip)
      have H' := Aside0.mk H
      clear H
      go_wp2
      go_meet
      case rel => exact ⟨_, (false), (by first | rfl | (simp; done) | (simp [*]; done)), H', ⟨by first | omega | exact Nat.le_refl _⟩, by repeat (first | exact Drawn0.refl _ | apply Drawn0.step)⟩
  case rest =>
    clear HC3
    try clear c2
    try clear p2
    try clear c4
    try clear c4b0
    obtain ⟨kq, x12_2, rfl, HA, HJ2, ⟨mc2, rfl⟩⟩ := hcut
    cases kq with
    | zero => exact absurd HA.out (by simp [athanorref01_Add.j0])
    | succ kj2 =>
      have H := HA.out
      clear HA
      simp only [athanorref01_Add.j0] at H
      by_cases c5 : x12_2 = true
      · subst c5
        have H1 : (some 9223372036854775807) = some r := by rw [if_pos rfl] at H; exact H
        clear H
        have H := H1
        clear H1
        obtain rfl := Option.some.inj H
        go_wp2
        go_ret
        exact ⟨by first | rfl | (simp; done) | (simp [*]; done), by repeat (first | exact Drawn0.refl _ | apply Drawn0.step)⟩
      · replace c5 := Bool.eq_false_iff.mpr c5
        subst c5
        have H1 : (if a0 < 0 then (if a1 < (wrap64 ((-9223372036854775808) - a0)) then (some (-9223372036854775808)) else (some (wrap64 (a0 + a1)))) else (some (wrap64 (a0 + a1)))) = some r := by rw [if_neg (show ¬ (false = true) by decide)] at H; exact H
        clear H
        have H := H1
        clear H1
        by_cases c6 : a0 < 0
        · rw [if_pos c6] at H
          have c6b0 : decide (a0 < 0) = true := decide_eq_true c6
          clear c6
          by_cases c7 : a1 < (wrap64 ((-9223372036854775808) - a0))
          · rw [if_pos c7] at H
            have c7b0 : decide (a1 < (wrap64 ((-9223372036854775808) - a0))) = true := decide_eq_true c7
            clear c7
            obtain rfl := Option.some.inj H
            go_wp2
            go_ret
            exact ⟨by first | rfl | (simp; done) | (simp [*]; done), by repeat (first | exact Drawn0.refl _ | apply Drawn0.step)⟩
          · rw [if_neg c7] at H
            have c7b0 : decide (a1 < (wrap64 ((-9223372036854775808) - a0))) = false := decide_eq_false c7
            clear c7
            obtain rfl := Option.some.inj H
            go_wp2
            go_ret
            exact ⟨by first | rfl | (simp; done) | (simp [*]; done), by repeat (first | exact Drawn0.refl _ | apply Drawn0.step)⟩
        · rw [if_neg c6] at H
          have c6b0 : decide (a0 < 0) = false := decide_eq_false c6
          clear c6
          obtain rfl := Option.some.inj H
          go_wp2
          go_ret
          exact ⟨by first | rfl | (simp; done) | (simp [*]; done), by repeat (first | exact Drawn0.refl _ | apply Drawn0.step)⟩

/-! ### fix_Dot: function 23 -/
def fix_Dot.l0 : Nat → List Int → List Int → Int → Int → Int → Option (Int)
  | 0, _, _, _, _, _ => none
  | k + 1, x0, x1, x5, x11, x12 => if x12 < x11 then (if 0 ≤ x12 then (if x12 < (x0.length : Int) then (if x12 < (x1.length : Int) then ((fix_F_Mul.f k (rd x0 x12) (rd x1 x12)).bind fun t207 => ((fix_F_Add.f k x5 t207).bind fun t208 => (fix_Dot.l0 k x0 x1 t208 x11 (wrap64 (x12 + 1))))) else (none)) else (none)) else (none)) else (some x5)
def fix_Dot.f (k : Nat) (l0 : List Int) (l1 : List Int) : Option (Int) := fix_Dot.l0 k l0 l1 0 (mn (l0.length : Int) (l1.length : Int)) 0
theorem fix_Dot.mono_l : ∀ k, (∀ y0 y1 y2 y3 y4, LeO (fix_Dot.l0 k y0 y1 y2 y3 y4) (fix_Dot.l0 (k + 1) y0 y1 y2 y3 y4))
  | 0 => fun _ _ _ _ _ r h => by simp [fix_Dot.l0] at h
  | k + 1 => by
    have ih0 := fix_Dot.mono_l k
    · intro y0 y1 y2 y3 y4
      unfold fix_Dot.l0
      repeat' first
      | (with_reducible exact ih0 _ _ _ _ _)
      | (with_reducible exact fix_F_Add.mono _ _ _)
      | (with_reducible exact fix_F_Mul.mono _ _ _)
      | (with_reducible exact LeO.refl _)
      | (with_reducible exact LeO.none _)
      | (with_reducible refine LeO.ite ?_ ?_)
      | (with_reducible refine LeO.bind ?_ (fun _ => ?_))
      | exact ih0 _ _ _ _ _
      | exact fix_F_Add.mono _ _ _
      | exact fix_F_Mul.mono _ _ _
      | exact LeO.none _
      | refine LeO.ite ?_ ?_
      | refine LeO.bind ?_ (fun _ => ?_)
theorem fix_Dot.mono : ∀ a0 a1 k, LeO (fix_Dot.f k a0 a1) (fix_Dot.f (k + 1) a0 a1) := by
  intro a0 a1 k
  have ih0 := fix_Dot.mono_l k
  unfold fix_Dot.f
  repeat' first
      | (with_reducible exact ih0 _ _ _ _ _)
      | (with_reducible exact fix_F_Add.mono _ _ _)
      | (with_reducible exact fix_F_Mul.mono _ _ _)
      | (with_reducible exact LeO.refl _)
      | (with_reducible exact LeO.none _)
      | (with_reducible refine LeO.ite ?_ ?_)
      | (with_reducible refine LeO.bind ?_ (fun _ => ?_))
      | exact ih0 _ _ _ _ _
      | exact fix_F_Add.mono _ _ _
      | exact fix_F_Mul.mono _ _ _
      | exact LeO.none _
      | refine LeO.ite ?_ ?_
      | refine LeO.bind ?_ (fun _ => ?_)
set_option maxHeartbeats 8000000 in
set_option maxRecDepth 100000 in
theorem fix_Dot.calls (k : Nat) (A0 : Option Addr) (c0 : Nat) (l0 : List Int) (A1 : Option Addr) (c1 : Nat) (l1 : List Int) (r : Int) (w : World) (hr0 : Kd.C (Kd.int .i64) w A0 l0.length l0) (hc0 : l0.length ≤ c0) (hr1 : Kd.C (Kd.int .i64) w A1 l1.length l1) (hc1 : l1.length ≤ c1) (h : fix_Dot.f k l0 l1 = some r) :
    Calls Try.prog 23 #[.slice A0 l0.length c0, .slice A1 l1.length c1] w fun e w' => e = .returned (.int .i64 r) ∧ Below w.heap.size w w' := by
  have HR0 := Aside0.mk hr0
  have HC0 := Aside0.mk hc0
  clear hr0 hc0
  have HR1 := Aside0.mk hr1
  have HC1 := Aside0.mk hc1
  clear hr1 hc1
  have HB := Aside0.mk (Below.refl w.heap.size w)
  have H : (fix_Dot.l0 k l0 l1 0 (mn (l0.length : Int) (l1.length : Int)) 0) = some r := h
  clear h
  obtain ⟨ji3, hji3⟩ : ∃ j_ : Int, (mn (l0.length : Int) (l1.length : Int)) = j_ := ⟨_, rfl⟩
  replace H : (fix_Dot.l0 k l0 l1 0 ji3 0) = some r := by first | (rw [hji3] at H; exact H) | (simp only [hji3] at H ⊢; exact H)
  (try (have hji3l : 0 ≤ ji3 := by (rw [← hji3]; unfold mn; (repeat' split) <;> omega)))
  (try (have hji3m : 0 ≤ ji3 := by omega))
  have hji3n : (if l1.length < l0.length then (l1.length : Int) else (l0.length : Int)) = ji3 := by have h_ := hji3; unfold mn at h_; simpa using h_
  have hji3_ : (if (l1.length : Int) < (l0.length : Int) then (l1.length : Int) else (l0.length : Int)) = ji3 := hji3
  have H' := Aside0.mk H
  clear H
  go_enter Try.func23, Try.ntmps23
  go_wp2
  repeat (go_quiet (fail); try go_wp2)
  go_loopg [5, 12] k (fun kq v5 v12 w' => ∃ (x5_1 : Int) (x12_1 : Int), v5 = .int .i64 x5_1 ∧ v12 = .int .i64 x12_1 ∧ Aside0 (fix_Dot.l0 kq l0 l1 x5_1 ji3 x12_1 = some r) ∧ Aside0 (kq ≤ k) ∧ Aside0 (Below w.heap.size w w'))
  case atStart => exact ⟨(0), (0), (by first | rfl | (simp; done) | (simp [*]; done)), (by first | rfl | (simp; done) | (simp [*]; done)), H', ⟨Nat.le_refl _⟩, ⟨by repeat (first | (with_reducible first | exact HB.out | apply below_alloc | apply pw_below_drewN | apply below_drew1) | exact HB.out)⟩⟩
  case round =>
    clear H'
    try clear c1
    try clear c2
    try clear p2
    obtain ⟨x5_1, x12_1, rfl, rfl, HA, HK1, HB⟩ := hrel
    cases gk with
    | zero => exact absurd HA.out (by simp [fix_Dot.l0])
    | succ k1 =>
      have H := HA.out
      clear HA
      simp only [fix_Dot.l0] at H
      by_cases c4 : x12_1 < ji3
      · rw [if_pos c4] at H
        have c4b0 : decide (x12_1 < ji3) = true := decide_eq_true c4
        clear c4
        by_cases c5 : 0 ≤ x12_1
        · rw [if_pos c5] at H
          have c5b0 : decide (0 ≤ x12_1) = true := decide_eq_true c5
          clear c5
          by_cases c6 : x12_1 < (l0.length : Int)
          · rw [if_pos c6] at H
            have c6b0 : decide (x12_1 < (l0.length : Int)) = true := decide_eq_true c6
            clear c6
            by_cases c7 : x12_1 < (l1.length : Int)
            · rw [if_pos c7] at H
              have c7b0 : decide (x12_1 < (l1.length : Int)) = true := decide_eq_true c7
              clear c7
              replace H := Option.bind_eq_some_iff.mp H
              obtain ⟨t207, A80, H⟩ := H
              replace H : ((fix_F_Add.f k1 x5_1 t207).bind fun t208 => (fix_Dot.l0 k1 l0 l1 t208 ji3 (wrap64 (x12_1 + 1)))) = some r := H
              have A8 := Aside0.mk A80
              clear A80
              replace H := Option.bind_eq_some_iff.mp H
              obtain ⟨t208, A90, H⟩ := H
              replace H : (fix_Dot.l0 k1 l0 l1 t208 ji3 (wrap64 (x12_1 + 1))) = some r := H
              have A9 := Aside0.mk A90
              clear A90
              have H' := Aside0.mk H
              clear H
              have p205 : 0 ≤ (x12_1 : Int) := of_decide_eq_true (by first | (with_reducible assumption) | assumption)
              have q205 : x12_1 < (l0.length : Int) := of_decide_eq_true (by first | (with_reducible assumption) | assumption)
              obtain ⟨ad205, e205, hx205_0⟩ := Kd.at_int HR0.out x12_1 p205 q205
              cases e205
              replace hx205_0 := (HB.out.cell (World.block_lt_of_cell? w _ hx205_0)).trans hx205_0
              replace p205 := eq_true p205
              replace q205 := eq_true q205
              have p206 : 0 ≤ (x12_1 : Int) := of_decide_eq_true (by first | (with_reducible assumption) | assumption)
              have q206 : x12_1 < (l1.length : Int) := of_decide_eq_true (by first | (with_reducible assumption) | assumption)
              obtain ⟨ad206, e206, hx206_0⟩ := Kd.at_int HR1.out x12_1 p206 q206
              cases e206
              replace hx206_0 := (HB.out.cell (World.block_lt_of_cell? w _ hx206_0)).trans hx206_0
              replace p206 := eq_true p206
              replace q206 := eq_true q206
              go_wp2_with (first | (go_at_call 9; (with_reducible refine (fix_F_Mul.calls k1 (rd l0 x12_1) (rd l1 x12_1) t207 _ A8.out).mono ?_); rintro e w' ⟨rfl, ⟨nd, rfl⟩⟩; (try first | exact ⟨rfl, _, World.drewN_drewN _ _ _⟩ | exact ⟨rfl, _, Eq.trans (World.drewN_drewN _ _ _) (congrArg (World.drewN _) (Nat.add_assoc _ _ _))⟩)) | (go_at_call 24; (with_reducible refine (fix_F_Add.calls k1 x5_1 t207 t208 _ A9.out).mono ?_); rintro e w' ⟨rfl, ⟨nd, rfl⟩⟩; (try first | exact ⟨rfl, _, World.drewN_drewN _ _ _⟩ | exact ⟨rfl, _, Eq.trans (World.drewN_drewN _ _ _) (congrArg (World.drewN _) (Nat.add_assoc _ _ _))⟩)))
              repeat (go_quiet (first | (go_at_call 9; (with_reducible refine (fix_F_Mul.calls k1 (rd l0 x12_1) (rd l1 x12_1) t207 _ A8.out).mono ?_); rintro e w' ⟨rfl, ⟨nd, rfl⟩⟩; (try first | exact ⟨rfl, _, World.drewN_drewN _ _ _⟩ | exact ⟨rfl, _, Eq.trans (World.drewN_drewN _ _ _) (congrArg (World.drewN _) (Nat.add_assoc _ _ _))⟩)) | (go_at_call 24; (with_reducible refine (fix_F_Add.calls k1 x5_1 t207 t208 _ A9.out).mono ?_); rintro e w' ⟨rfl, ⟨nd, rfl⟩⟩; (try first | exact ⟨rfl, _, World.drewN_drewN _ _ _⟩ | exact ⟨rfl, _, Eq.trans (World.drewN_drewN _ _ _) (congrArg (World.drewN _) (Nat.add_assoc _ _ _))⟩))); try go_wp2_with (first | (go_at_call 9; (with_reducible refine (fix_F_Mul.calls k1 (rd l0 x12_1) (rd l1 x12_1) t207 _ A8.out).mono ?_); rintro e w' ⟨rfl, ⟨nd, rfl⟩⟩; (try first | exact ⟨rfl, _, World.drewN_drewN _ _ _⟩ | exact ⟨rfl, _, Eq.trans (World.drewN_drewN _ _ _) (congrArg (World.drewN _) (Nat.add_assoc _ _ _))⟩)) | (go_at_call 24; (with_reducible refine (fix_F_Add.calls k1 x5_1 t207 t208 _ A9.out).mono ?_); rintro e w' ⟨rfl, ⟨nd, rfl⟩⟩; (try first | exact ⟨rfl, _, World.drewN_drewN _ _ _⟩ | exact ⟨rfl, _, Eq.trans (World.drewN_drewN _ _ _) (congrArg (World.drewN _) (Nat.add_assoc _ _ _))⟩))))
              go_roundg k1
              case measure => have := HK1.out; omega
              case rel => exact ⟨(t208), (wrap64 (x12_1 + 1)), (by first | rfl | (simp; done) | (simp [*]; done)), (by first | rfl | (simp; done) | (simp [*]; done)), H', ⟨by have := HK1.out; omega⟩, ⟨by repeat (first | (with_reducible first | exact HB.out | apply below_alloc | apply pw_below_drewN | apply below_drew1) | exact HB.out)⟩⟩
            · rw [if_neg c7] at H
              exact absurd H (by simp)
          · rw [if_neg c6] at H
            exact absurd H (by simp)
        · rw [if_neg c5] at H
          exact absurd H (by simp)
      · rw [if_neg c4] at H
        have c4b0 : decide (x12_1 < ji3) = false := decide_eq_false c4
        clear c4
        obtain rfl := Option.some.inj H
        go_wp2
        repeat (go_quiet (fail); try go_wp2)
        go_ret
        exact ⟨by first | rfl | (simp [errW_none, errW_some] <;> rfl) | (simp only [← hji3]; first | rfl | (simp [errW_none, errW_some] <;> rfl)) | (simp [*, errW_none, errW_some] <;> rfl), by repeat (first | (with_reducible first | exact HB.out | apply below_alloc | apply pw_below_drewN | apply below_drew1) | exact HB.out)⟩

end Go.Proofs.Ytgaiaidigdennaa.PFix
