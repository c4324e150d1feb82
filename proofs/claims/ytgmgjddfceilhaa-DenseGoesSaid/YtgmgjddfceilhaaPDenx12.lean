-- printed by wip/tools/xp.py of this project (not trusted: Lean checks it)
import Derived.Test.YtgmgjddfceilhaaPDenx0
import Derived.Test.YtgmgjddfceilhaaPDenx11
namespace Go.Proofs.Ytgmgjddfceilhaa.PDen
open Go.RowKit Go.Proofs.YtgmgjddfceilhaaW.PrintWords Go.Proofs.YtgmgjddfceilhaaW.PrintLast Go.Proofs.YtgmgjddfceilhaaW.PrintMore Go.Proofs.Ytgmgjddfceilhaa.XW
attribute [local go_sem] max2_int min2_int max_two min_two max_three min_three max_four min_four max_five min_five   -- for this text's walks alone
set_option linter.unusedVariables false
set_option linter.unusedSimpArgs false

/-! ### athanorref01_Mul: function 31 -/
def athanorref01_Mul.j0 : Nat → Int → Int → Int → Bool → Bool → Option (Int)
 | 0, _, _, _, _, _ => none
 | k + 1, x0, x1, x6, x8, x39 => if x39 = true then (if (IntKind.u64.wrap (x6 + 1)) = 0 then ((athanorref01_Held.f k (IntKind.u64.wrap (x6 + 1)) true ((decide (x0 < 0)) != (decide (x1 < 0)))).bind fun t310 => (some t310)) else ((athanorref01_Held.f k (IntKind.u64.wrap (x6 + 1)) x8 ((decide (x0 < 0)) != (decide (x1 < 0)))).bind fun t311 => (some t311))) else ((athanorref01_Held.f k x6 x8 ((decide (x0 < 0)) != (decide (x1 < 0)))).bind fun t312 => (some t312))
def athanorref01_Mul.f (k : Nat) (a0 : Int) (a1 : Int) : Option (Int) := (athanorref01_Size.f a0).bind fun t305 => ((athanorref01_Size.f a1).bind fun t306 => ((athanorref01_Product.f k t305 t306).bind fun bt307 => (if ((IntKind.u64.wrap (bt307.2 * 4294967296)) / 4294967296) > 2147483648 then (athanorref01_Mul.j0 k a0 a1 (Go.bits .or .u64 (IntKind.u64.wrap (bt307.1 * 4294967296)) (bt307.2 / 4294967296)) (decide ((bt307.1 / 4294967296) > 0)) true) else (if ((IntKind.u64.wrap (bt307.2 * 4294967296)) / 4294967296) = 2147483648 then (athanorref01_Mul.j0 k a0 a1 (Go.bits .or .u64 (IntKind.u64.wrap (bt307.1 * 4294967296)) (bt307.2 / 4294967296)) (decide ((bt307.1 / 4294967296) > 0)) ((Int.tmod (Go.bits .or .u64 (IntKind.u64.wrap (bt307.1 * 4294967296)) (bt307.2 / 4294967296)) 2) == 1)) else (athanorref01_Mul.j0 k a0 a1 (Go.bits .or .u64 (IntKind.u64.wrap (bt307.1 * 4294967296)) (bt307.2 / 4294967296)) (decide ((bt307.1 / 4294967296) > 0)) false)))))
theorem athanorref01_Mul.mono_l : ∀ k, (∀ y0 y1 y2 y3 y4, LeO (athanorref01_Mul.j0 k y0 y1 y2 y3 y4) (athanorref01_Mul.j0 (k + 1) y0 y1 y2 y3 y4))
 | 0 => fun _ _ _ _ _ r h => by simp [athanorref01_Mul.j0] at h
 | k + 1 => by
  have ih0 := athanorref01_Mul.mono_l k
  ·intro y0 y1 y2 y3 y4
   unfold athanorref01_Mul.j0
   repeat' first
   | (with_reducible exact ih0 _ _ _ _ _)
   | (with_reducible exact athanorref01_Held.mono _ _ _ _)
   | (with_reducible exact athanorref01_Product.mono _ _ _)
   | (with_reducible exact LeO.refl _)
   | (with_reducible exact LeO.none _)
   | (with_reducible refine LeO.ite ?_ ?_)
   | (with_reducible refine LeO.bind ?_ (fun _ => ?_))
   | exact ih0 _ _ _ _ _
   | exact athanorref01_Held.mono _ _ _ _
   | exact athanorref01_Product.mono _ _ _
   | exact LeO.none _
   | refine LeO.ite ?_ ?_
   | refine LeO.bind ?_ (fun _ => ?_)
theorem athanorref01_Mul.mono : ∀ a0 a1 k, LeO (athanorref01_Mul.f k a0 a1) (athanorref01_Mul.f (k + 1) a0 a1) := by
 intro a0 a1 k
 have ih0 := athanorref01_Mul.mono_l k
 unfold athanorref01_Mul.f
 repeat' first
   | (with_reducible exact ih0 _ _ _ _ _)
   | (with_reducible exact athanorref01_Held.mono _ _ _ _)
   | (with_reducible exact athanorref01_Product.mono _ _ _)
   | (with_reducible exact LeO.refl _)
   | (with_reducible exact LeO.none _)
   | (with_reducible refine LeO.ite ?_ ?_)
   | (with_reducible refine LeO.bind ?_ (fun _ => ?_))
   | exact ih0 _ _ _ _ _
   | exact athanorref01_Held.mono _ _ _ _
   | exact athanorref01_Product.mono _ _ _
   | exact LeO.none _
   | refine LeO.ite ?_ ?_
   | refine LeO.bind ?_ (fun _ => ?_)
set_option maxHeartbeats 8000000 in
set_option maxRecDepth 100000 in
theorem athanorref01_Mul.calls (k : Nat) (a0 : Int) (a1 : Int) (r : Int) (w : World) (h : athanorref01_Mul.f k a0 a1 = some r) :
  Calls Try.prog 31 #[.int .i64 a0, .int .i64 a1] w fun e w' => e = .returned (.int .i64 r) ∧ Below w.heap.size w w' := by
 have hu73 := Try.underlying73
 have HB := aM (Below.refl w.heap.size w)
 have H : ((athanorref01_Size.f a0).bind fun t305 => ((athanorref01_Size.f a1).bind fun t306 => ((athanorref01_Product.f k t305 t306).bind fun bt307 => (if ((IntKind.u64.wrap (bt307.2 * 4294967296)) / 4294967296) > 2147483648 then (athanorref01_Mul.j0 k a0 a1 (Go.bits .or .u64 (IntKind.u64.wrap (bt307.1 * 4294967296)) (bt307.2 / 4294967296)) (decide ((bt307.1 / 4294967296) > 0)) true) else (if ((IntKind.u64.wrap (bt307.2 * 4294967296)) / 4294967296) = 2147483648 then (athanorref01_Mul.j0 k a0 a1 (Go.bits .or .u64 (IntKind.u64.wrap (bt307.1 * 4294967296)) (bt307.2 / 4294967296)) (decide ((bt307.1 / 4294967296) > 0)) ((Int.tmod (Go.bits .or .u64 (IntKind.u64.wrap (bt307.1 * 4294967296)) (bt307.2 / 4294967296)) 2) == 1)) else (athanorref01_Mul.j0 k a0 a1 (Go.bits .or .u64 (IntKind.u64.wrap (bt307.1 * 4294967296)) (bt307.2 / 4294967296)) (decide ((bt307.1 / 4294967296) > 0)) false)))))) = some r := h
 clear h
 replace H := Option.bind_eq_some_iff.mp H
 obtain ⟨t305, A30, H⟩ := H
 replace H : ((athanorref01_Size.f a1).bind fun t306 => ((athanorref01_Product.f k t305 t306).bind fun bt307 => (if ((IntKind.u64.wrap (bt307.2 * 4294967296)) / 4294967296) > 2147483648 then (athanorref01_Mul.j0 k a0 a1 (Go.bits .or .u64 (IntKind.u64.wrap (bt307.1 * 4294967296)) (bt307.2 / 4294967296)) (decide ((bt307.1 / 4294967296) > 0)) true) else (if ((IntKind.u64.wrap (bt307.2 * 4294967296)) / 4294967296) = 2147483648 then (athanorref01_Mul.j0 k a0 a1 (Go.bits .or .u64 (IntKind.u64.wrap (bt307.1 * 4294967296)) (bt307.2 / 4294967296)) (decide ((bt307.1 / 4294967296) > 0)) ((Int.tmod (Go.bits .or .u64 (IntKind.u64.wrap (bt307.1 * 4294967296)) (bt307.2 / 4294967296)) 2) == 1)) else (athanorref01_Mul.j0 k a0 a1 (Go.bits .or .u64 (IntKind.u64.wrap (bt307.1 * 4294967296)) (bt307.2 / 4294967296)) (decide ((bt307.1 / 4294967296) > 0)) false))))) = some r := H
 have A3 := Aside0.mk A30
 clear A30
 replace H := Option.bind_eq_some_iff.mp H
 obtain ⟨t306, A40, H⟩ := H
 replace H : ((athanorref01_Product.f k t305 t306).bind fun bt307 => (if ((IntKind.u64.wrap (bt307.2 * 4294967296)) / 4294967296) > 2147483648 then (athanorref01_Mul.j0 k a0 a1 (Go.bits .or .u64 (IntKind.u64.wrap (bt307.1 * 4294967296)) (bt307.2 / 4294967296)) (decide ((bt307.1 / 4294967296) > 0)) true) else (if ((IntKind.u64.wrap (bt307.2 * 4294967296)) / 4294967296) = 2147483648 then (athanorref01_Mul.j0 k a0 a1 (Go.bits .or .u64 (IntKind.u64.wrap (bt307.1 * 4294967296)) (bt307.2 / 4294967296)) (decide ((bt307.1 / 4294967296) > 0)) ((Int.tmod (Go.bits .or .u64 (IntKind.u64.wrap (bt307.1 * 4294967296)) (bt307.2 / 4294967296)) 2) == 1)) else (athanorref01_Mul.j0 k a0 a1 (Go.bits .or .u64 (IntKind.u64.wrap (bt307.1 * 4294967296)) (bt307.2 / 4294967296)) (decide ((bt307.1 / 4294967296) > 0)) false)))) = some r := H
 have A4 := Aside0.mk A40
 clear A40
 replace H := Option.bind_eq_some_iff.mp H
 obtain ⟨⟨t307, t308⟩, A50, H⟩ := H
 replace H : (if ((IntKind.u64.wrap (t308 * 4294967296)) / 4294967296) > 2147483648 then (athanorref01_Mul.j0 k a0 a1 (Go.bits .or .u64 (IntKind.u64.wrap (t307 * 4294967296)) (t308 / 4294967296)) (decide ((t307 / 4294967296) > 0)) true) else (if ((IntKind.u64.wrap (t308 * 4294967296)) / 4294967296) = 2147483648 then (athanorref01_Mul.j0 k a0 a1 (Go.bits .or .u64 (IntKind.u64.wrap (t307 * 4294967296)) (t308 / 4294967296)) (decide ((t307 / 4294967296) > 0)) ((Int.tmod (Go.bits .or .u64 (IntKind.u64.wrap (t307 * 4294967296)) (t308 / 4294967296)) 2) == 1)) else (athanorref01_Mul.j0 k a0 a1 (Go.bits .or .u64 (IntKind.u64.wrap (t307 * 4294967296)) (t308 / 4294967296)) (decide ((t307 / 4294967296) > 0)) false))) = some r := H
 have A5 := Aside0.mk A50
 clear A50
 have HC6 := Aside0.mk H
 clear H
 go_enter Try.func31, Try.ntmps31
 go_upto_region 5 with (first | ((with_reducible refine gate_callee (f := 48) rfl ?_); refine goesL_ (some 10) rfl rfl Try.func48 (by kernel_rfl) rfl #[.int .i64 a0] rfl (by (try simp only [List.map_toArray, List.map_cons, List.map_nil]); first | done | rfl | (simp only [List.length_drop, List.length_take]; rfl)) ?_; (with_reducible refine (athanorref01_Size.calls a0 t305 _ A3.out).mono ?_); rintro e w' ⟨rfl, ⟨nd, rfl⟩⟩; refine ⟨_, rfl, ?_⟩) | ((with_reducible refine gate_callee (f := 48) rfl ?_); refine goesL_ (some 12) rfl rfl Try.func48 (by kernel_rfl) rfl #[.int .i64 a1] rfl (by (try simp only [List.map_toArray, List.map_cons, List.map_nil]); first | done | rfl | (simp only [List.length_drop, List.length_take]; rfl)) ?_; (with_reducible refine (athanorref01_Size.calls a1 t306 _ A4.out).mono ?_); rintro e w' ⟨rfl, ⟨nd, rfl⟩⟩; refine ⟨_, rfl, ?_⟩) | ((with_reducible refine gate_callee (f := 47) rfl ?_); refine goesL_ (some 13) rfl rfl Try.func47 (by kernel_rfl) rfl #[.int .u64 t305, .int .u64 t306] rfl (by (try simp only [List.map_toArray, List.map_cons, List.map_nil]); first | done | rfl | (simp only [List.length_drop, List.length_take]; rfl)) ?_; (with_reducible refine (athanorref01_Product.calls k t305 t306 t307 t308 _ A5.out).mono ?_); rintro e w7 ⟨rfl, hb⟩; refine ⟨_, rfl, ?_⟩; have n0_ := aM (below_step (by repeat (first | (with_reducible first|exact HB.out|apply bA|apply bN|apply bD)|exact HB.out)) hb); clear HB; have HB := n0_; clear n0_; (try clear hb)) | ((with_reducible refine gate_dst (N := 5) rfl ?_); refine box_event ?hg (N := 5) ?hd (cs := #[.int .u64 0, .int .u64 0]) (t := 73) ?hr ?_; (case hd => rfl); (case hg => rfl); (case hr => first | (go_simp; done) | (go_simp; rfl)); intro gb309 hg w8 hbox hb; have n0_ := aM (below_step (by repeat (first | (with_reducible first|exact HB.out|apply bA|apply bN|apply bD)|exact HB.out)) hb); have n1_ := aM (hbox); have n2_ := aM ((by rw [hg]; exact (below_size (by repeat (first | (with_reducible first|exact HB.out|apply bA|apply bN|apply bD)|exact HB.out))) : w.heap.size ≤ gb309)); have n3_ := aM ((by rw [hg]; exact (below_size (by repeat (first | (with_reducible first|exact HB.out|apply bA|apply bN|apply bD)|exact HB.out))) : w.heap.size ≤ gb309)); clear HB; have HB := n0_; have BK309 := n1_; have GW309 := n2_; have GE309 := n3_; clear n0_ n1_ n2_ n3_; clear hb hbox hg; have hcz9_0 : w8.cell? ⟨gb309, 0, none⟩ = some (.int .u64 0) := (blk_cell BK309.out 0).trans rfl; have hcz9_1 : w8.cell? ⟨gb309, 1, none⟩ = some (.int .u64 0) := (blk_cell BK309.out 1).trans rfl; have hfz9_0 := blk_frozen BK309.out 0; have hfz9_1 := blk_frozen BK309.out 1))
 (try simp only [Act.put, List.setIfInBounds_toArray, List.set_cons_zero, List.set_cons_succ])
 go_cut [39] (fun v39 wc => ∃ (kq : Nat) (x39_5 : Bool), v39 = .bool x39_5 ∧ Aside0 (athanorref01_Mul.j0 kq a0 a1 (Go.bits .or .u64 (IntKind.u64.wrap (t307 * 4294967296)) (t308 / 4294967296)) (decide ((t307 / 4294967296) > 0)) x39_5 = some r) ∧ Aside0 (kq ≤ k) ∧ Aside0 (wc.heap[gb309]? = some (.cells #[.int .u64 t307, .int .u64 t308] 73 (0, 0))) ∧ Aside0 (Below w.heap.size w wc))
 case first =>
  have H := HC6.out
  clear HC6
  by_cases c10 : ((IntKind.u64.wrap (t308 * 4294967296)) / 4294967296) > 2147483648
  ·rw [if_pos c10] at H
   have c10b0 : decide (2147483648 < ((IntKind.u64.wrap (t308 * 4294967296)) / 4294967296)) = true := decide_eq_true c10
   clear c10
   (first | rw [c10b0] | (simp only [i64_w, i32_w]; rw [c10b0]) | skip)
   as_aux_lemma =>
    have H' := Aside0.mk H
    clear H
    go_wp2
    go_meet
    case rel => exact ⟨_, (true), (by first | rfl | (simp; done) | (simp [*]; done)), H', ⟨by first | omega|exact Nat.le_refl _⟩, ⟨by (with_reducible repeat (first|apply kN|apply kD|apply kA)); refine blk_put (cs := #[.int .u64 t307, .int .u64 0]) ?_ 1 _ rfl; (with_reducible repeat (first|apply kN|apply kD|apply kA)); refine blk_put (cs := #[.int .u64 0, .int .u64 0]) ?_ 0 _ rfl; (with_reducible repeat (first|apply kN|apply kD|apply kA)); exact BK309.out⟩, ⟨by repeat (first | (with_reducible first|exact HB.out|apply bA|apply bN|apply bD|refine bS ?_ GE309.out)|exact HB.out)⟩⟩
  ·rw [if_neg c10] at H
   have c10b0 : decide (2147483648 < ((IntKind.u64.wrap (t308 * 4294967296)) / 4294967296)) = false := decide_eq_false c10
   clear c10
   (first | rw [c10b0] | (simp only [i64_w, i32_w]; rw [c10b0]) | skip)
   by_cases c11 : ((IntKind.u64.wrap (t308 * 4294967296)) / 4294967296) = 2147483648
   ·rw [if_pos c11] at H
    have c11b0 : (((IntKind.u64.wrap (t308 * 4294967296)) / 4294967296) == 2147483648) = true := beq_iff_eq.mpr c11
    have c11b1 : (((IntKind.u64.wrap (t308 * 4294967296)) / 4294967296) != 2147483648) = false := bne_eq_false_iff_eq.mpr c11
    clear c11
    as_aux_lemma =>
     have H' := Aside0.mk H
     clear H
     go_wp2
     go_meet
     case rel => exact ⟨_, (((Int.tmod (Go.bits .or .u64 (IntKind.u64.wrap (t307 * 4294967296)) (t308 / 4294967296)) 2) == 1)), (by first | rfl | (simp; done) | (simp [*]; done)), H', ⟨by first | omega|exact Nat.le_refl _⟩, ⟨by (with_reducible repeat (first|apply kN|apply kD|apply kA)); refine blk_put (cs := #[.int .u64 t307, .int .u64 0]) ?_ 1 _ rfl; (with_reducible repeat (first|apply kN|apply kD|apply kA)); refine blk_put (cs := #[.int .u64 0, .int .u64 0]) ?_ 0 _ rfl; (with_reducible repeat (first|apply kN|apply kD|apply kA)); exact BK309.out⟩, ⟨by repeat (first | (with_reducible first|exact HB.out|apply bA|apply bN|apply bD|refine bS ?_ GE309.out)|exact HB.out)⟩⟩
   ·rw [if_neg c11] at H
    have c11b0 : (((IntKind.u64.wrap (t308 * 4294967296)) / 4294967296) == 2147483648) = false := beq_eq_false_iff_ne.mpr c11
    have c11b1 : (((IntKind.u64.wrap (t308 * 4294967296)) / 4294967296) != 2147483648) = true := bne_iff_ne.mpr c11
    as_aux_lemma =>
     have H' := Aside0.mk H
     clear H
     go_wp2
     go_meet
     case rel => exact ⟨_, (false), (by first | rfl | (simp; done) | (simp [*]; done)), H', ⟨by first | omega|exact Nat.le_refl _⟩, ⟨by (with_reducible repeat (first|apply kN|apply kD|apply kA)); refine blk_put (cs := #[.int .u64 t307, .int .u64 0]) ?_ 1 _ rfl; (with_reducible repeat (first|apply kN|apply kD|apply kA)); refine blk_put (cs := #[.int .u64 0, .int .u64 0]) ?_ 0 _ rfl; (with_reducible repeat (first|apply kN|apply kD|apply kA)); exact BK309.out⟩, ⟨by repeat (first | (with_reducible first|exact HB.out|apply bA|apply bN|apply bD|refine bS ?_ GE309.out)|exact HB.out)⟩⟩
 case rest =>
  clear HC6
  (try clear c10); (try clear c10b0); (try clear c11); (try clear c11b0); (try clear c11b1); (try clear hcz9_0); (try clear hcz9_1); (try clear hfz9_0); (try clear hfz9_1)
  obtain ⟨kq, x39_5, rfl, HA, HJ5, BK309, HB⟩ := hcut
  cases kq with
  | zero => exact absurd HA.out (by simp [athanorref01_Mul.j0])
  | succ kj5 =>
   have H := HA.out
   clear HA
   simp only [athanorref01_Mul.j0] at H
   by_cases c12 : x39_5 = true
   ·subst c12
    have H1 : (if (IntKind.u64.wrap ((Go.bits .or .u64 (IntKind.u64.wrap (t307 * 4294967296)) (t308 / 4294967296)) + 1)) = 0 then ((athanorref01_Held.f kj5 (IntKind.u64.wrap ((Go.bits .or .u64 (IntKind.u64.wrap (t307 * 4294967296)) (t308 / 4294967296)) + 1)) true ((decide (a0 < 0)) != (decide (a1 < 0)))).bind fun t310 => (some t310)) else ((athanorref01_Held.f kj5 (IntKind.u64.wrap ((Go.bits .or .u64 (IntKind.u64.wrap (t307 * 4294967296)) (t308 / 4294967296)) + 1)) (decide ((t307 / 4294967296) > 0)) ((decide (a0 < 0)) != (decide (a1 < 0)))).bind fun t311 => (some t311))) = some r := by rw [if_pos rfl] at H; exact H
    clear H
    have H := H1
    clear H1
    by_cases c13 : (IntKind.u64.wrap ((Go.bits .or .u64 (IntKind.u64.wrap (t307 * 4294967296)) (t308 / 4294967296)) + 1)) = 0
    ·rw [if_pos c13] at H
     have c13b0 : ((IntKind.u64.wrap ((Go.bits .or .u64 (IntKind.u64.wrap (t307 * 4294967296)) (t308 / 4294967296)) + 1)) == 0) = true := beq_iff_eq.mpr c13
     have c13b1 : ((IntKind.u64.wrap ((Go.bits .or .u64 (IntKind.u64.wrap (t307 * 4294967296)) (t308 / 4294967296)) + 1)) != 0) = false := bne_eq_false_iff_eq.mpr c13
     clear c13
     replace H := Option.bind_eq_some_iff.mp H
     obtain ⟨t310, A140, H⟩ := H
     replace H : (some t310) = some r := H
     have A14 := Aside0.mk A140
     clear A140
     as_aux_lemma =>
      obtain rfl := Option.some.inj H
      go_wp2_with (first | ((with_reducible refine gate_callee (f := 49) rfl ?_); refine goesL_ (some 51) rfl rfl Try.func49 (by kernel_rfl) rfl #[.int .u64 (IntKind.u64.wrap ((Go.bits .or .u64 (IntKind.u64.wrap (t307 * 4294967296)) (t308 / 4294967296)) + 1)), .bool true, .bool ((decide (a0 < 0)) != (decide (a1 < 0)))] rfl (by (try simp only [List.map_toArray, List.map_cons, List.map_nil]); first | done | rfl | (simp only [List.length_drop, List.length_take]; rfl)) ?_; (with_reducible refine (athanorref01_Held.calls kj5 (IntKind.u64.wrap ((Go.bits .or .u64 (IntKind.u64.wrap (t307 * 4294967296)) (t308 / 4294967296)) + 1)) true ((decide (a0 < 0)) != (decide (a1 < 0))) t310 _ A14.out).mono ?_); rintro e w' ⟨rfl, ⟨nd, rfl⟩⟩; refine ⟨_, rfl, ?_⟩))
      go_ret
      exact ⟨by first | rfl | (simp [errW_none, errW_some] <;> rfl) | (simp [*, errW_none, errW_some] <;> rfl), by repeat (first | (with_reducible first|exact HB.out|apply bA|apply bN|apply bD|refine bS ?_ GE309.out)|exact HB.out)⟩
    ·rw [if_neg c13] at H
     have c13b0 : ((IntKind.u64.wrap ((Go.bits .or .u64 (IntKind.u64.wrap (t307 * 4294967296)) (t308 / 4294967296)) + 1)) == 0) = false := beq_eq_false_iff_ne.mpr c13
     have c13b1 : ((IntKind.u64.wrap ((Go.bits .or .u64 (IntKind.u64.wrap (t307 * 4294967296)) (t308 / 4294967296)) + 1)) != 0) = true := bne_iff_ne.mpr c13
     replace H := Option.bind_eq_some_iff.mp H
     obtain ⟨t311, A150, H⟩ := H
     replace H : (some t311) = some r := H
     have A15 := Aside0.mk A150
     clear A150
     as_aux_lemma =>
      obtain rfl := Option.some.inj H
      go_wp2_with (first | ((with_reducible refine gate_callee (f := 49) rfl ?_); refine goesL_ (some 51) rfl rfl Try.func49 (by kernel_rfl) rfl #[.int .u64 (IntKind.u64.wrap ((Go.bits .or .u64 (IntKind.u64.wrap (t307 * 4294967296)) (t308 / 4294967296)) + 1)), .bool (decide ((t307 / 4294967296) > 0)), .bool ((decide (a0 < 0)) != (decide (a1 < 0)))] rfl (by (try simp only [List.map_toArray, List.map_cons, List.map_nil]); first | done | rfl | (simp only [List.length_drop, List.length_take]; rfl)) ?_; (with_reducible refine (athanorref01_Held.calls kj5 (IntKind.u64.wrap ((Go.bits .or .u64 (IntKind.u64.wrap (t307 * 4294967296)) (t308 / 4294967296)) + 1)) (decide ((t307 / 4294967296) > 0)) ((decide (a0 < 0)) != (decide (a1 < 0))) t311 _ A15.out).mono ?_); rintro e w' ⟨rfl, ⟨nd, rfl⟩⟩; refine ⟨_, rfl, ?_⟩))
      go_ret
      exact ⟨by first | rfl | (simp [errW_none, errW_some] <;> rfl) | (simp [*, errW_none, errW_some] <;> rfl), by repeat (first | (with_reducible first|exact HB.out|apply bA|apply bN|apply bD|refine bS ?_ GE309.out)|exact HB.out)⟩
   ·replace c12 := Bool.eq_false_iff.mpr c12
    subst c12
    have H1 : ((athanorref01_Held.f kj5 (Go.bits .or .u64 (IntKind.u64.wrap (t307 * 4294967296)) (t308 / 4294967296)) (decide ((t307 / 4294967296) > 0)) ((decide (a0 < 0)) != (decide (a1 < 0)))).bind fun t312 => (some t312)) = some r := by rw [if_neg (show ¬ (false = true) by decide)] at H; exact H
    clear H
    have H := H1
    clear H1
    replace H := Option.bind_eq_some_iff.mp H
    obtain ⟨t312, A160, H⟩ := H
    replace H : (some t312) = some r := H
    have A16 := Aside0.mk A160
    clear A160
    as_aux_lemma =>
     obtain rfl := Option.some.inj H
     go_wp2_with (first | ((with_reducible refine gate_callee (f := 49) rfl ?_); refine goesL_ (some 51) rfl rfl Try.func49 (by kernel_rfl) rfl #[.int .u64 (Go.bits .or .u64 (IntKind.u64.wrap (t307 * 4294967296)) (t308 / 4294967296)), .bool (decide ((t307 / 4294967296) > 0)), .bool ((decide (a0 < 0)) != (decide (a1 < 0)))] rfl (by (try simp only [List.map_toArray, List.map_cons, List.map_nil]); first | done | rfl | (simp only [List.length_drop, List.length_take]; rfl)) ?_; (with_reducible refine (athanorref01_Held.calls kj5 (Go.bits .or .u64 (IntKind.u64.wrap (t307 * 4294967296)) (t308 / 4294967296)) (decide ((t307 / 4294967296) > 0)) ((decide (a0 < 0)) != (decide (a1 < 0))) t312 _ A16.out).mono ?_); rintro e w' ⟨rfl, ⟨nd, rfl⟩⟩; refine ⟨_, rfl, ?_⟩))
     go_ret
     exact ⟨by first | rfl | (simp [errW_none, errW_some] <;> rfl) | (simp [*, errW_none, errW_some] <;> rfl), by repeat (first | (with_reducible first|exact HB.out|apply bA|apply bN|apply bD|refine bS ?_ GE309.out)|exact HB.out)⟩

/-! ### athanorref06_Go: function 13 -/
mutual
def athanorref06_Go.l0 : Nat → Int → List Int → List Int → List Int → Int → List Int → Int → Option (List Int)
 | 0, _, _, _, _, _, _, _ => none
 | k + 1, x0, x1, x2, x3, x9, x10, x11 => if x11 < x0 then (athanorref06_Go.l1 k x0 x1 x2 x3 x9 x10 x11 0 0) else (some x10)
def athanorref06_Go.l1 : Nat → Int → List Int → List Int → List Int → Int → List Int → Int → Int → Int → Option (List Int)
 | 0, _, _, _, _, _, _, _, _, _ => none
 | k + 1, x0, x1, x2, x3, x9, x10, x11, x12, x13 => if x13 < x9 then (if 0 ≤ (wrap64 ((wrap64 (x11 * x9)) + x13)) then (if (wrap64 ((wrap64 (x11 * x9)) + x13)) < (x1.length : Int) then (if 0 ≤ x13 then (if x13 < (x3.length : Int) then ((athanorref01_Mul.f k (rd x1 (wrap64 ((wrap64 (x11 * x9)) + x13))) (rd x3 x13)).bind fun t315 => ((athanorref01_Add.f k x12 t315).bind fun t316 => (athanorref06_Go.l1 k x0 x1 x2 x3 x9 x10 x11 t316 (wrap64 (x13 + 1))))) else (none)) else (none)) else (none)) else (none)) else (if 0 ≤ x11 then (if x11 < (x2.length : Int) then ((athanorref01_Add.f k x12 (rd x2 x11)).bind fun t318 => (if x10.length < 17592186044416 then (athanorref06_Go.l0 k x0 x1 x2 x3 x9 (x10 ++ [t318]) (wrap64 (x11 + 1))) else (none))) else (none)) else (none))
end
def athanorref06_Go.f (k : Nat) (a0 : Int) (l1 : List Int) (l2 : List Int) (l3 : List Int) : Option (List Int) := athanorref06_Go.l0 k a0 l1 l2 l3 (l3.length : Int) ([] : List Int) 0
theorem athanorref06_Go.mono_l : ∀ k, (∀ y0 y1 y2 y3 y4 y5 y6, LeO (athanorref06_Go.l0 k y0 y1 y2 y3 y4 y5 y6) (athanorref06_Go.l0 (k + 1) y0 y1 y2 y3 y4 y5 y6)) ∧ (∀ y0 y1 y2 y3 y4 y5 y6 y7 y8, LeO (athanorref06_Go.l1 k y0 y1 y2 y3 y4 y5 y6 y7 y8) (athanorref06_Go.l1 (k + 1) y0 y1 y2 y3 y4 y5 y6 y7 y8))
 | 0 => ⟨fun _ _ _ _ _ _ _ r h => by simp [athanorref06_Go.l0] at h, fun _ _ _ _ _ _ _ _ _ r h => by simp [athanorref06_Go.l1] at h⟩
 | k + 1 => by
  obtain ⟨ih0, ih1⟩ := athanorref06_Go.mono_l k
  refine ⟨?_, ?_⟩
  ·intro y0 y1 y2 y3 y4 y5 y6
   unfold athanorref06_Go.l0
   repeat' first
   | (with_reducible exact ih0 _ _ _ _ _ _ _)
   | (with_reducible exact ih1 _ _ _ _ _ _ _ _ _)
   | (with_reducible exact athanorref01_Add.mono _ _ _)
   | (with_reducible exact athanorref01_Mul.mono _ _ _)
   | (with_reducible exact LeO.refl _)
   | (with_reducible exact LeO.none _)
   | (with_reducible refine LeO.ite ?_ ?_)
   | (with_reducible refine LeO.bind ?_ (fun _ => ?_))
   | exact ih0 _ _ _ _ _ _ _
   | exact ih1 _ _ _ _ _ _ _ _ _
   | exact athanorref01_Add.mono _ _ _
   | exact athanorref01_Mul.mono _ _ _
   | exact LeO.none _
   | refine LeO.ite ?_ ?_
   | refine LeO.bind ?_ (fun _ => ?_)
  ·intro y0 y1 y2 y3 y4 y5 y6 y7 y8
   unfold athanorref06_Go.l1
   repeat' first
   | (with_reducible exact ih0 _ _ _ _ _ _ _)
   | (with_reducible exact ih1 _ _ _ _ _ _ _ _ _)
   | (with_reducible exact athanorref01_Add.mono _ _ _)
   | (with_reducible exact athanorref01_Mul.mono _ _ _)
   | (with_reducible exact LeO.refl _)
   | (with_reducible exact LeO.none _)
   | (with_reducible refine LeO.ite ?_ ?_)
   | (with_reducible refine LeO.bind ?_ (fun _ => ?_))
   | exact ih0 _ _ _ _ _ _ _
   | exact ih1 _ _ _ _ _ _ _ _ _
   | exact athanorref01_Add.mono _ _ _
   | exact athanorref01_Mul.mono _ _ _
   | exact LeO.none _
   | refine LeO.ite ?_ ?_
   | refine LeO.bind ?_ (fun _ => ?_)
theorem athanorref06_Go.mono : ∀ a0 a1 a2 a3 k, LeO (athanorref06_Go.f k a0 a1 a2 a3) (athanorref06_Go.f (k + 1) a0 a1 a2 a3) := by
 intro a0 a1 a2 a3 k
 obtain ⟨ih0, ih1⟩ := athanorref06_Go.mono_l k
 unfold athanorref06_Go.f
 repeat' first
   | (with_reducible exact ih0 _ _ _ _ _ _ _)
   | (with_reducible exact ih1 _ _ _ _ _ _ _ _ _)
   | (with_reducible exact athanorref01_Add.mono _ _ _)
   | (with_reducible exact athanorref01_Mul.mono _ _ _)
   | (with_reducible exact LeO.refl _)
   | (with_reducible exact LeO.none _)
   | (with_reducible refine LeO.ite ?_ ?_)
   | (with_reducible refine LeO.bind ?_ (fun _ => ?_))
   | exact ih0 _ _ _ _ _ _ _
   | exact ih1 _ _ _ _ _ _ _ _ _
   | exact athanorref01_Add.mono _ _ _
   | exact athanorref01_Mul.mono _ _ _
   | exact LeO.none _
   | refine LeO.ite ?_ ?_
   | refine LeO.bind ?_ (fun _ => ?_)
def athanorref06_Go.T10 : Bool × List (List Nat × List Nat) := (true, [([], []), ([], []), ([], []), ([], []), ([2, 3], [2, 3]), ([], []), ([4, 5], [4, 5]), ([1, 6], [1, 6]), ([7], [7]), ([], []), ([], []), ([9, 10], [9, 10]), ([11], [11]), ([8, 12], [8, 12]), ([0, 13, 13], [0, 13]), ([14, 14, 0, 1, 2, 3, 4, 5, 6, 7, 8, 9, 10, 11, 12, 13, 14], [0, 14])])
def athanorref06_Go.B10 : List Nat := [0, 0, 0, 0, 12, 0, 60, 126, 254, 0, 0, 1536, 3584, 8190, 16383, 32767]
theorem athanorref06_Go.tab10 : rtab .any (opsOf Try.f13 10) = athanorref06_Go.T10 := by kernel_rfl
theorem athanorref06_Go.bits10 : waitsOk athanorref06_Go.T10.2 athanorref06_Go.B10 = true := by kernel_rfl
set_option maxHeartbeats 8000000 in
set_option maxRecDepth 100000 in
theorem athanorref06_Go.calls (k : Nat) (a0 : Int) (A1 : Option Addr) (c1 : Nat) (l1 : List Int) (A2 : Option Addr) (c2 : Nat) (l2 : List Int) (A3 : Option Addr) (c3 : Nat) (l3 : List Int) (r : List Int) (w : World) (hr1 : Kd.C (Kd.int .i64) w A1 l1.length l1) (hc1 : l1.length ≤ c1) (hr2 : Kd.C (Kd.int .i64) w A2 l2.length l2) (hc2 : l2.length ≤ c2) (hr3 : Kd.C (Kd.int .i64) w A3 l3.length l3) (hc3 : l3.length ≤ c3) (h : athanorref06_Go.f k a0 l1 l2 l3 = some r) :
  Calls Try.prog 13 #[.int .i64 a0, .slice A1 l1.length c1, .slice A2 l2.length c2, .slice A3 l3.length c3] w fun e w' => ∃ v0_ : Value, e = .returned (v0_) ∧ Kd.R (Kd.int .i64) 2 w' w.heap.size (fun _ => True) v0_ r ∧ Below w.heap.size w w' := by
 have HR1 := Aside0.mk hr1
 have HC1 := Aside0.mk hc1
 clear hr1 hc1
 have HR2 := Aside0.mk hr2
 have HC2 := Aside0.mk hc2
 clear hr2 hc2
 have HR3 := Aside0.mk hr3
 have HC3 := Aside0.mk hc3
 clear hr3 hc3
 have HB := aM (Below.refl w.heap.size w)
 have H : (athanorref06_Go.l0 k a0 l1 l2 l3 (l3.length : Int) ([] : List Int) 0) = some r := h
 clear h
 have H' := Aside0.mk H
 clear H
 go_enter Try.func13, Try.ntmps13
 go_wp2
 go_loopg [10, 11] k (fun kq v10 v11 w' => ∃ (x10_1 : List Int) (x11_1 : Int), v11 = .int .i64 x11_1 ∧ Aside0 (athanorref06_Go.l0 kq a0 l1 l2 l3 (l3.length : Int) x10_1 x11_1 = some r) ∧ Aside0 (kq ≤ k) ∧ Aside0 (Kd.R (Kd.int .i64) 2 w' w.heap.size (fun _ => True) v10 x10_1) ∧ Aside0 (Below w.heap.size w w'))
 case atStart => exact ⟨(([] : List Int)), (0), (by first | rfl | (simp; done) | (simp [*]; done)), H', ⟨Nat.le_refl _⟩, ⟨by first|exact Kd.R_nil _ _ _ _ _|exact Kd.N_nil _ _ _ _ _|exact Kd.V_nil _ _ _ _ _|exact Kd.Q_nil _ _ _ _ _|exact Kd.S_nil _ _ _ _ _⟩, ⟨by repeat (first | (with_reducible first|exact HB.out|apply bA|apply bN|apply bD)|exact HB.out)⟩⟩
 case round =>
  clear H'
  (try clear c1); (try clear c2); (try clear c3)
  obtain ⟨x10_1, x11_1, rfl, HA, HK1, HO_10, HB⟩ := hrel
  cases gk with
  | zero => exact absurd HA.out (by simp [athanorref06_Go.l0])
  | succ k1 =>
   have H := HA.out
   clear HA
   simp only [athanorref06_Go.l0] at H
   by_cases c5 : x11_1 < a0
   ·rw [if_pos c5] at H
    have c5b0 : decide (x11_1 < a0) = true := decide_eq_true c5
    clear c5
    have H' := Aside0.mk H
    clear H
    go_wp2
    go_loopg [12, 13] k1 (fun kq v12 v13 w' => ∃ (x12_2 : Int) (x13_2 : Int), v12 = .int .i64 x12_2 ∧ v13 = .int .i64 x13_2 ∧ Aside0 (athanorref06_Go.l1 kq a0 l1 l2 l3 (l3.length : Int) x10_1 x11_1 x12_2 x13_2 = some r) ∧ Aside0 (kq ≤ k1) ∧ Aside0 (Kd.R (Kd.int .i64) 2 w' w.heap.size (fun _ => True) u10 x10_1) ∧ Aside0 (Below w.heap.size w w'))
    case atStart => exact ⟨(0), (0), (by first | rfl | (simp; done) | (simp [*]; done)), (by first | rfl | (simp; done) | (simp [*]; done)), H', ⟨Nat.le_refl _⟩, ⟨by (with_reducible repeat (first|apply rA|apply rN|apply rD)); exact HO_10.out⟩, ⟨by repeat (first | (with_reducible first|exact HB.out|apply bA|apply bN|apply bD)|exact HB.out)⟩⟩
    case round =>
     clear H'
     (try clear c1); (try clear c2); (try clear c3); (try clear c5); (try clear c5b0)
     obtain ⟨x12_2, x13_2, rfl, rfl, HA, HK2, HO_10, HB⟩ := hrel
     cases gk with
     | zero => exact absurd HA.out (by simp [athanorref06_Go.l1])
     | succ k2 =>
      have H := HA.out
      clear HA
      simp only [athanorref06_Go.l1] at H
      by_cases c6 : x13_2 < (l3.length : Int)
      ·rw [if_pos c6] at H
       have c6b0 : decide (x13_2 < (l3.length : Int)) = true := decide_eq_true c6
       clear c6
       obtain ⟨ji7, hji7⟩ : ∃ j_ : Int, (wrap64 ((wrap64 (x11_1 * (l3.length : Int))) + x13_2)) = j_ := ⟨_, rfl⟩
       replace H : (if 0 ≤ (ji7) then (if (ji7) < (l1.length : Int) then (if 0 ≤ x13_2 then (if x13_2 < (l3.length : Int) then ((athanorref01_Mul.f k2 (rd l1 (ji7)) (rd l3 x13_2)).bind fun t315 => ((athanorref01_Add.f k2 x12_2 t315).bind fun t316 => (athanorref06_Go.l1 k2 a0 l1 l2 l3 (l3.length : Int) x10_1 x11_1 t316 (wrap64 (x13_2 + 1))))) else (none)) else (none)) else (none)) else (none)) = some r := by first | (rw [hji7] at H; exact H) | (simp only [hji7] at H ⊢; exact H)
       have hji7w : (IntKind.i64.wrap ((wrap64 (x11_1 * (l3.length : Int))) + x13_2)) = ji7 := (i64_w _).trans hji7
       by_cases c8 : 0 ≤ (ji7)
       ·rw [if_pos c8] at H
        have c8b0 : decide (0 ≤ (ji7)) = true := decide_eq_true c8
        clear c8
        by_cases c9 : (ji7) < (l1.length : Int)
        ·rw [if_pos c9] at H
         have c9b0 : decide ((ji7) < (l1.length : Int)) = true := decide_eq_true c9
         clear c9
         by_cases c10 : 0 ≤ x13_2
         ·rw [if_pos c10] at H
          have c10b0 : decide (0 ≤ x13_2) = true := decide_eq_true c10
          clear c10
          by_cases c11 : x13_2 < (l3.length : Int)
          ·rw [if_pos c11] at H
           have c11b0 : decide (x13_2 < (l3.length : Int)) = true := decide_eq_true c11
           clear c11
           replace H := Option.bind_eq_some_iff.mp H
           obtain ⟨t315, A120, H⟩ := H
           replace H : ((athanorref01_Add.f k2 x12_2 t315).bind fun t316 => (athanorref06_Go.l1 k2 a0 l1 l2 l3 (l3.length : Int) x10_1 x11_1 t316 (wrap64 (x13_2 + 1)))) = some r := H
           have A12 := Aside0.mk A120
           clear A120
           replace H := Option.bind_eq_some_iff.mp H
           obtain ⟨t316, A130, H⟩ := H
           replace H : (athanorref06_Go.l1 k2 a0 l1 l2 l3 (l3.length : Int) x10_1 x11_1 t316 (wrap64 (x13_2 + 1))) = some r := H
           have A13 := Aside0.mk A130
           clear A130
           as_aux_lemma =>
            have H' := Aside0.mk H
            clear H
            try go_wp2
            have n0_ := aM (Kd.R_drew HO_10.out)
            have n1_ := aM (below_drew1 HB.out)
            clear HO_10
            clear HB
            have HO_10 := n0_
            have HB := n1_
            clear n0_ n1_
            have p313 : 0 ≤ ((ji7) : Int) := of_decide_eq_true (by first | (with_reducible assumption) | assumption)
            have q313 : (ji7) < (l1.length : Int) := of_decide_eq_true (by first | (with_reducible assumption) | assumption)
            obtain ⟨ad313, e313, hx313_0⟩ := Kd.at_int HR1.out (ji7) p313 q313
            have hw313_0 := hx313_0
            cases e313
            replace hx313_0 := (HB.out.cell (World.block_lt_of_cell? w _ hx313_0)).trans hx313_0
            replace p313 := eq_true p313
            replace q313 := eq_true q313
            have p314 : 0 ≤ (x13_2 : Int) := of_decide_eq_true (by first | (with_reducible assumption) | assumption)
            have q314 : x13_2 < (l3.length : Int) := of_decide_eq_true (by first | (with_reducible assumption) | assumption)
            obtain ⟨ad314, e314, hx314_0⟩ := Kd.at_int HR3.out x13_2 p314 q314
            have hw314_0 := hx314_0
            cases e314
            replace hx314_0 := (HB.out.cell (World.block_lt_of_cell? w _ hx314_0)).trans hx314_0
            replace p314 := eq_true p314
            replace q314 := eq_true q314
            refine start_ (n := 16) (S := fun w' => w'.cell? (ad313.add ((ji7)).toNat) = some (.int .i64 (rd l1 (ji7))) ∧ w'.cell? (ad314.add (x13_2).toNat) = some (.int .i64 (rd l3 x13_2))) (ds := []) #[false, false, false, false, false, false, false, false, false, false, false, false, false, false, false, false] (by kernel_rfl) rfl rfl ⟨((HB.out.cell (World.block_lt_of_cell? w _ hw313_0)).trans hw313_0), ((HB.out.cell (World.block_lt_of_cell? w _ hw314_0)).trans hw314_0)⟩ (fun hHeld => ?_); refine with_tabW athanorref06_Go.tab10 athanorref06_Go.bits10 (fun HT_ HW_ => ?_)
            generalize wr.drew = w14 at HO_10 HB hx313_0 hx314_0 hHeld ⊢
            refine pure_ (i := 0) (N := some 26) (v := ?_) (a' := ?_) #[true, false, false, false, false, false, false, false, false, false, false, false, false, false, false, false] rfl rfl (any_of HT_.out (by kernel_rfl)) (fun _ _ _ h => h) (Or.inl ⟨by rfl, ?_⟩) ?_ ?_
            rotate_left
            ·intro w'
             go_simp
             with_reducible rfl
            rotate_left
            ·simp only [Act.put, List.setIfInBounds_toArray, List.set_cons_zero, List.set_cons_succ, i64_w, i32_w]
             rfl
            refine pure_ (i := 1) (N := some 27) (v := ?_) (a' := ?_) #[true, true, false, false, false, false, false, false, false, false, false, false, false, false, false, false] rfl rfl (any_of HT_.out (by kernel_rfl)) (fun _ _ _ h => h) (Or.inl ⟨by rfl, ?_⟩) ?_ ?_
            rotate_left
            ·intro w'
             go_simp
             with_reducible rfl
            rotate_left
            ·simp only [Act.put, List.setIfInBounds_toArray, List.set_cons_zero, List.set_cons_succ, i64_w, i32_w]
             rfl
            refine pure_ (i := 2) (N := some 28) (v := ?_) (a' := ?_) #[true, true, true, false, false, false, false, false, false, false, false, false, false, false, false, false] rfl rfl (any_of HT_.out (by kernel_rfl)) (fun _ _ _ h => h) (Or.inl ⟨by rfl, ?_⟩) ?_ ?_
            rotate_left
            ·intro w'
             go_simp
             with_reducible rfl
            rotate_left
            ·simp only [Act.put, List.setIfInBounds_toArray, List.set_cons_zero, List.set_cons_succ, i64_w, i32_w]
             rfl
            refine pure_ (i := 3) (N := some 29) (v := ?_) (a' := ?_) #[true, true, true, true, false, false, false, false, false, false, false, false, false, false, false, false] rfl rfl (any_of HT_.out (by kernel_rfl)) (fun _ _ _ h => h) (Or.inl ⟨by rfl, ?_⟩) ?_ ?_
            rotate_left
            ·intro w'
             go_simp
             with_reducible rfl
            rotate_left
            ·simp only [Act.put, List.setIfInBounds_toArray, List.set_cons_zero, List.set_cons_succ, i64_w, i32_w]
             rfl
            refine pure_ (i := 4) (N := some 30) (v := ?_) (a' := ?_) #[true, true, true, true, true, false, false, false, false, false, false, false, false, false, false, false] rfl rfl (any_of HT_.out (by kernel_rfl)) (fun _ _ _ h => h) (Or.inl ⟨by rfl, ?_⟩) ?_ ?_
            rotate_left
            ·intro w'
             go_simp
             with_reducible rfl
            rotate_left
            ·simp only [Act.put, List.setIfInBounds_toArray, List.set_cons_zero, List.set_cons_succ, i64_w, i32_w]
             rfl
            refine pure_ (i := 5) (N := some 31) (v := ?_) (a' := ?_) #[true, true, true, true, true, true, false, false, false, false, false, false, false, false, false, false] rfl rfl (any_of HT_.out (by kernel_rfl)) (fun _ _ _ h => h) (Or.inl ⟨by rfl, ?_⟩) ?_ ?_
            rotate_left
            ·intro w'
             go_simp
             with_reducible rfl
            rotate_left
            ·simp only [Act.put, List.setIfInBounds_toArray, List.set_cons_zero, List.set_cons_succ, i64_w, i32_w]
             rfl
            refine pure_ (i := 6) (N := some 32) (v := ?_) (a' := ?_) #[true, true, true, true, true, true, true, false, false, false, false, false, false, false, false, false] rfl rfl (any_of HT_.out (by kernel_rfl)) (fun _ _ _ h => h) (Or.inl ⟨by rfl, ?_⟩) ?_ ?_
            rotate_left
            ·intro w'
             go_simp
             with_reducible rfl
            rotate_left
            ·simp only [Act.put, List.setIfInBounds_toArray, List.set_cons_zero, List.set_cons_succ, i64_w, i32_w]
             rfl
            refine pure_ (i := 7) (N := some 33) (v := ?_) (a' := ?_) #[true, true, true, true, true, true, true, true, false, false, false, false, false, false, false, false] rfl rfl (any_of HT_.out (by kernel_rfl)) (fun _ _ _ h => h) (Or.inl ⟨by rfl, ?_⟩) ?_ ?_
            rotate_left
            ·intro w'
             go_simp
             with_reducible rfl
            rotate_left
            ·simp only [Act.put, List.setIfInBounds_toArray, List.set_cons_zero, List.set_cons_succ, i64_w, i32_w]
             rfl
            refine pure_ (i := 9) (N := some 35) (v := ?_) (a' := ?_) #[true, true, true, true, true, true, true, true, false, true, false, false, false, false, false, false] rfl rfl (any_of HT_.out (by kernel_rfl)) (fun _ _ _ h => h) (Or.inl ⟨by rfl, ?_⟩) ?_ ?_
            rotate_left
            ·intro w'
             go_simp
             with_reducible rfl
            rotate_left
            ·simp only [Act.put, List.setIfInBounds_toArray, List.set_cons_zero, List.set_cons_succ, i64_w, i32_w]
             rfl
            refine pure_ (i := 10) (N := some 36) (v := ?_) (a' := ?_) #[true, true, true, true, true, true, true, true, false, true, true, false, false, false, false, false] rfl rfl (any_of HT_.out (by kernel_rfl)) (fun _ _ _ h => h) (Or.inl ⟨by rfl, ?_⟩) ?_ ?_
            rotate_left
            ·intro w'
             go_simp
             with_reducible rfl
            rotate_left
            ·simp only [Act.put, List.setIfInBounds_toArray, List.set_cons_zero, List.set_cons_succ, i64_w, i32_w]
             rfl
            refine pure_ (i := 11) (N := some 37) (v := ?_) (a' := ?_) #[true, true, true, true, true, true, true, true, false, true, true, true, false, false, false, false] rfl rfl (any_of HT_.out (by kernel_rfl)) (fun _ _ _ h => h) (Or.inl ⟨by rfl, ?_⟩) ?_ ?_
            rotate_left
            ·intro w'
             go_simp
             with_reducible rfl
            rotate_left
            ·simp only [Act.put, List.setIfInBounds_toArray, List.set_cons_zero, List.set_cons_succ, i64_w, i32_w]
             rfl
            refine take_ (i := 8) (N := some 34) (v := ?_) (a' := ?_) #[true, true, true, true, true, true, true, true, true, true, true, true, false, false, false, false] rfl rfl (take_ofW HT_.out HW_.out (by kernel_rfl)) (fun _ _ _ h => h) (Or.inl ⟨by rfl, ?_⟩) hHeld ?_ ?_
            rotate_left
            ·rintro w' ⟨s0, s1⟩
             go_simp
             with_reducible rfl
            rotate_left
            ·simp only [Act.put, List.setIfInBounds_toArray, List.set_cons_zero, List.set_cons_succ, i64_w, i32_w]
             rfl
            refine take_ (i := 12) (N := some 38) (v := ?_) (a' := ?_) #[true, true, true, true, true, true, true, true, true, true, true, true, true, false, false, false] rfl rfl (take_ofW HT_.out HW_.out (by kernel_rfl)) (fun _ _ _ h => h) (Or.inl ⟨by rfl, ?_⟩) hHeld ?_ ?_
            rotate_left
            ·rintro w' ⟨s0, s1⟩
             go_simp
             with_reducible rfl
            rotate_left
            ·simp only [Act.put, List.setIfInBounds_toArray, List.set_cons_zero, List.set_cons_succ, i64_w, i32_w]
             rfl
            refine one_ (i := 13) (N := some 39) #[true, true, true, true, true, true, true, true, true, true, true, true, true, true, false, false] rfl rfl (one_of HT_.out (by kernel_rfl)) (by decide) (fun K hK => ?_)
            refine goes_ Try.func31 (by kernel_rfl) rfl #[.int .i64 (rd l1 (ji7)), .int .i64 (rd l3 x13_2)] (by rfl) rfl rfl (by (try simp only [List.map_toArray, List.map_cons, List.map_nil]); first | done | (simp only [hji7]; rfl) | rfl | (simp only [List.length_drop, List.length_take]; rfl)) ?_
            with_reducible refine (athanorref01_Mul.calls k2 (rd l1 (ji7)) (rd l3 x13_2) t315 _ A12.out).mono ?_
            rintro e w15 ⟨rfl, hb⟩
            refine ⟨_, rfl, ?_⟩
            have n0_ := aM (Kd.R_below (by (with_reducible repeat (first|apply rA|apply rN|apply rD)); exact HO_10.out) hb)
            have n1_ := aM (below_step (by repeat (first | (with_reducible first|exact HB.out|apply bA|apply bN|apply bD)|exact HB.out)) hb)
            clear HO_10
            clear HB
            have HO_10 := n0_
            have HB := n1_
            clear n0_ n1_
            (try clear hb)
            skip
            (try clear hk)
            skip
            refine hK.out _ _ ⟨((HB.out.cell (World.block_lt_of_cell? w _ hw313_0)).trans hw313_0), ((HB.out.cell (World.block_lt_of_cell? w _ hw314_0)).trans hw314_0)⟩ (fun hHeld => ?_)
            clear hK K
            refine norm_ (a' := ?_) ?_ ?_
            rotate_left
            ·show Act.put _ (some 39) _ = _
             simp only [Act.put, List.setIfInBounds_toArray, List.set_cons_zero, List.set_cons_succ, i64_w, i32_w]
             rfl
            refine one_ (i := 14) (N := some 40) #[true, true, true, true, true, true, true, true, true, true, true, true, true, true, true, false] rfl rfl (one_of HT_.out (by kernel_rfl)) (by decide) (fun K hK => ?_)
            refine goes_ Try.func23 (by kernel_rfl) rfl #[.int .i64 x12_2, .int .i64 t315] (by rfl) rfl rfl (by (try simp only [List.map_toArray, List.map_cons, List.map_nil]); first | done | rfl | (simp only [List.length_drop, List.length_take]; rfl)) ?_
            with_reducible refine (athanorref01_Add.calls k2 x12_2 t315 t316 _ A13.out).mono ?_
            rintro e w' ⟨rfl, ⟨nd, rfl⟩⟩
            refine ⟨_, rfl, ?_⟩
            refine hK.out _ _ ⟨((HB.out.cell (World.block_lt_of_cell? w _ hw313_0)).trans hw313_0), ((HB.out.cell (World.block_lt_of_cell? w _ hw314_0)).trans hw314_0)⟩ (fun hHeld => ?_)
            clear hK K
            refine norm_ (a' := ?_) ?_ ?_
            rotate_left
            ·show Act.put _ (some 40) _ = _
             simp only [Act.put, List.setIfInBounds_toArray, List.set_cons_zero, List.set_cons_succ, i64_w, i32_w]
             rfl
            refine pure_ (i := 15) (N := some 12) (v := ?_) (a' := ?_) #[true, true, true, true, true, true, true, true, true, true, true, true, true, true, true, true] rfl rfl (any_of HT_.out (by kernel_rfl)) (fun _ _ _ h => h) (Or.inl ⟨by rfl, ?_⟩) ?_ ?_
            rotate_left
            ·intro w'
             go_simp
             with_reducible rfl
            rotate_left
            ·simp only [Act.put, List.setIfInBounds_toArray, List.set_cons_zero, List.set_cons_succ, i64_w, i32_w]
             rfl
            refine done_ (done_of HT_.out (by kernel_rfl)) ?_
            try go_wp2
            go_roundg k2
            case measure => have := HK1.out; have := HK2.out; omega
            case rel => exact ⟨(t316), (wrap64 (x13_2 + 1)), (by first | rfl | (simp; done) | (simp [*]; done)), (by first | rfl | (simp; done) | (simp [*]; done)), H', ⟨by have := HK1.out; have := HK2.out; omega⟩, ⟨by (with_reducible repeat (first|apply rA|apply rN|apply rD)); exact HO_10.out⟩, ⟨by repeat (first | (with_reducible first|exact HB.out|apply bA|apply bN|apply bD)|exact HB.out)⟩⟩
          ·rw [if_neg c11] at H
           exact absurd H (by simp)
         ·rw [if_neg c10] at H
          exact absurd H (by simp)
        ·rw [if_neg c9] at H
         exact absurd H (by simp)
       ·rw [if_neg c8] at H
        exact absurd H (by simp)
      ·rw [if_neg c6] at H
       have c6b0 : decide (x13_2 < (l3.length : Int)) = false := decide_eq_false c6
       clear c6
       by_cases c16 : 0 ≤ x11_1
       ·rw [if_pos c16] at H
        have c16b0 : decide (0 ≤ x11_1) = true := decide_eq_true c16
        clear c16
        by_cases c17 : x11_1 < (l2.length : Int)
        ·rw [if_pos c17] at H
         have c17b0 : decide (x11_1 < (l2.length : Int)) = true := decide_eq_true c17
         clear c17
         replace H := Option.bind_eq_some_iff.mp H
         obtain ⟨t318, A180, H⟩ := H
         replace H : (if x10_1.length < 17592186044416 then (athanorref06_Go.l0 k2 a0 l1 l2 l3 (l3.length : Int) (x10_1 ++ [t318]) (wrap64 (x11_1 + 1))) else (none)) = some r := H
         have A18 := Aside0.mk A180
         clear A180
         by_cases c19 : x10_1.length < 17592186044416
         ·rw [if_pos c19] at H
          have LMc19 := Aside0.mk c19
          clear c19
          obtain ⟨y319, hy319⟩ : ∃ y_ : List Int, y_ = (x10_1 ++ [t318]) := ⟨_, rfl⟩
          replace H : (athanorref06_Go.l0 k2 a0 l1 l2 l3 (l3.length : Int) y319 (wrap64 (x11_1 + 1))) = some r := by first | (rw [hy319]; with_reducible exact H) | (have H2_ := (Option.bind_some _ _).symm.trans H; rw [hy319]; with_reducible exact H2_) | (have H2_ := (Option.bind_some _ _).symm.trans H; with_reducible exact H2_) | with_reducible exact H | (rw [hy319]; exact H)|exact H
          have Ny319 := Aside0.mk hy319
          clear hy319
          as_aux_lemma =>
           have H' := Aside0.mk H
           clear H
           have p317 : 0 ≤ (x11_1 : Int) := of_decide_eq_true (by first | (with_reducible assumption) | assumption)
           have q317 : x11_1 < (l2.length : Int) := of_decide_eq_true (by first | (with_reducible assumption) | assumption)
           obtain ⟨ad317, e317, hx317_0⟩ := Kd.at_int HR2.out x11_1 p317 q317
           cases e317
           replace hx317_0 := (HB.out.cell (World.block_lt_of_cell? w _ hx317_0)).trans hx317_0
           replace p317 := eq_true p317
           replace q317 := eq_true q317
           go_wp2_with (first | ((with_reducible refine gate_callee (f := 23) rfl ?_); refine goesL_ (some 47) rfl rfl Try.func23 (by kernel_rfl) rfl #[.int .i64 x12_2, .int .i64 (rd l2 x11_1)] rfl (by (try simp only [List.map_toArray, List.map_cons, List.map_nil]); first | done | rfl | (simp only [List.length_drop, List.length_take]; rfl)) ?_; (with_reducible refine (athanorref01_Add.calls k2 x12_2 (rd l2 x11_1) t318 _ A18.out).mono ?_); rintro e w' ⟨rfl, ⟨nd, rfl⟩⟩; refine ⟨_, rfl, ?_⟩) | ((with_reducible refine gate_builtin (b := .append) (xs := #[.tmp 41, .tmp 48]) rfl ?_); at_builtin; refine Kd.R_append (Kd.int .i64) (w0 := w) w.heap.size rfl (.tmp 41) (.tmp 48) 35 2 (.int .i64 0) 8 rfl Try.underlying35 info2 rfl (by decide) (by omega) u10 x10_1 t318 [.int .i64 t318] (fun _ => True) (fun _ => False) rfl rfl ?aP (fun _ hk => hk.elim) ?aF ?aO ?aB ?aS ?aL ?_; (case aP => exact rfl); (case aB => exact (by repeat (first | (with_reducible first|exact HB.out|apply bA|apply bN|apply bD)|exact HB.out))); (case aF => exact (fun _ _ => trivial)); (case aO => exact (by (with_reducible repeat (first|apply rA|apply rN|apply rD)); exact HO_10.out)); (case aS => exact (below_size (by repeat (first | (with_reducible first|exact HB.out|apply bA|apply bN|apply bD)|exact HB.out)))); (case aL => have := LMc19.out; omega); intro v320 w20 ho hb hg hat; rw [← Ny319.out] at ho; have n0_ := aM (hb); have n1_ := aM (ho); clear HB; clear HO_10; have HB := n0_; have HO321 := n1_; clear n0_ n1_; clear ho hb hg hat))
           go_roundg k2
           case measure => have := HK1.out; have := HK2.out; omega
           case rel => exact ⟨(y319), (wrap64 (x11_1 + 1)), (by first | rfl | (simp; done) | (simp [*]; done)), H', ⟨by have := HK1.out; have := HK2.out; omega⟩, ⟨by (with_reducible repeat (first|apply rA|apply rN|apply rD)); exact HO321.out⟩, ⟨by repeat (first | (with_reducible first|exact HB.out|apply bA|apply bN|apply bD)|exact HB.out)⟩⟩
         ·rw [if_neg c19] at H
          exact absurd H (by simp)
        ·rw [if_neg c17] at H
         exact absurd H (by simp)
       ·rw [if_neg c16] at H
        exact absurd H (by simp)
   ·rw [if_neg c5] at H
    have c5b0 : decide (x11_1 < a0) = false := decide_eq_false c5
    clear c5
    as_aux_lemma =>
     obtain rfl := Option.some.inj H
     go_wp2
     go_ret
     exact ⟨_, by first | rfl | (simp [errW_none, errW_some] <;> rfl) | (simp [*, errW_none, errW_some] <;> rfl), by (with_reducible repeat (first|apply rA|apply rN|apply rD)); exact HO_10.out, by repeat (first | (with_reducible first|exact HB.out|apply bA|apply bN|apply bD)|exact HB.out)⟩

/-! ### athanorlaw06_cells: function 14 -/
def athanorlaw06_cells.l0 : Nat → List Int → List Int → Int → Int → Option (List Int)
 | 0, _, _, _, _ => none
 | k + 1, x3, x7, x8, x9 => if x9 < x8 then (if 0 ≤ x9 then (if x9 < (x7.length : Int) then (if x3.length < 17592186044416 then (athanorlaw06_cells.l0 k (x3 ++ [rd x7 x9]) x7 x8 (wrap64 (x9 + 1))) else (none)) else (none)) else (none)) else (some x3)
def athanorlaw06_cells.f (k : Nat) (l0_0 : List Int) (l0_1 : List Int) : Option (List Int) := athanorlaw06_cells.l0 k ([] : List Int) l0_1 (l0_1.length : Int) 0
theorem athanorlaw06_cells.mono_l : ∀ k, (∀ y0 y1 y2 y3, LeO (athanorlaw06_cells.l0 k y0 y1 y2 y3) (athanorlaw06_cells.l0 (k + 1) y0 y1 y2 y3))
 | 0 => fun _ _ _ _ r h => by simp [athanorlaw06_cells.l0] at h
 | k + 1 => by
  have ih0 := athanorlaw06_cells.mono_l k
  ·intro y0 y1 y2 y3
   unfold athanorlaw06_cells.l0
   repeat' first
   | (with_reducible exact ih0 _ _ _ _)
   | (with_reducible exact LeO.refl _)
   | (with_reducible exact LeO.none _)
   | (with_reducible refine LeO.ite ?_ ?_)
   | (with_reducible refine LeO.bind ?_ (fun _ => ?_))
   | exact ih0 _ _ _ _
   | exact LeO.none _
   | refine LeO.ite ?_ ?_
   | refine LeO.bind ?_ (fun _ => ?_)
theorem athanorlaw06_cells.mono : ∀ a0 a1 k, LeO (athanorlaw06_cells.f k a0 a1) (athanorlaw06_cells.f (k + 1) a0 a1) := by
 intro a0 a1 k
 have ih0 := athanorlaw06_cells.mono_l k
 unfold athanorlaw06_cells.f
 repeat' first
   | (with_reducible exact ih0 _ _ _ _)
   | (with_reducible exact LeO.refl _)
   | (with_reducible exact LeO.none _)
   | (with_reducible refine LeO.ite ?_ ?_)
   | (with_reducible refine LeO.bind ?_ (fun _ => ?_))
   | exact ih0 _ _ _ _
   | exact LeO.none _
   | refine LeO.ite ?_ ?_
   | refine LeO.bind ?_ (fun _ => ?_)
set_option maxHeartbeats 8000000 in
set_option maxRecDepth 100000 in
theorem athanorlaw06_cells.calls (k : Nat) (A0_0 : Option Addr) (c0_0 : Nat) (l0_0 : List Int) (A0_1 : Option Addr) (c0_1 : Nat) (l0_1 : List Int) (r : List Int) (w : World) (hr0_0 : Kd.C (Kd.int .i64) w A0_0 l0_0.length l0_0) (hc0_0 : l0_0.length ≤ c0_0) (hr0_1 : Kd.C (Kd.int .i64) w A0_1 l0_1.length l0_1) (hc0_1 : l0_1.length ≤ c0_1) (h : athanorlaw06_cells.f k l0_0 l0_1 = some r) :
  Calls Try.prog 14 #[.agg #[.slice A0_0 l0_0.length c0_0, .slice A0_1 l0_1.length c0_1]] w fun e w' => ∃ v0_ : Value, e = .returned (v0_) ∧ Kd.R (Kd.int .i64) 2 w' w.heap.size (fun _ => True) v0_ r ∧ Below w.heap.size w w' := by
 have hu26 := Try.underlying26
 have HR0_0 := Aside0.mk hr0_0
 have HC0_0 := Aside0.mk hc0_0
 clear hr0_0 hc0_0
 have HR0_1 := Aside0.mk hr0_1
 have HC0_1 := Aside0.mk hc0_1
 clear hr0_1 hc0_1
 have HB := aM (Below.refl w.heap.size w)
 have H : (athanorlaw06_cells.l0 k ([] : List Int) l0_1 (l0_1.length : Int) 0) = some r := h
 clear h
 have H' := Aside0.mk H
 clear H
 go_enter Try.func14, Try.ntmps14
 go_wp2_with (first | ((with_reducible refine gate_dst (N := 1) rfl ?_); refine box_event ?hg (N := 1) ?hd (cs := #[.slice A0_0 l0_0.length c0_0, .slice A0_1 l0_1.length c0_1]) (t := 26) ?hr ?_; (case hd => rfl); (case hg => rfl); (case hr => first | (go_simp; done) | (go_simp; rfl)); intro gb322 hg w2 hbox hb; have n0_ := aM (below_step (by repeat (first | (with_reducible first|exact HB.out|apply bA|apply bN|apply bD)|exact HB.out)) hb); have n1_ := aM (hbox); have n2_ := aM ((by rw [hg]; exact (below_size (by repeat (first | (with_reducible first|exact HB.out|apply bA|apply bN|apply bD)|exact HB.out))) : w.heap.size ≤ gb322)); have n3_ := aM ((by rw [hg]; exact (below_size (by repeat (first | (with_reducible first|exact HB.out|apply bA|apply bN|apply bD)|exact HB.out))) : w.heap.size ≤ gb322)); clear HB; have HB := n0_; have BK322 := n1_; have GW322 := n2_; have GE322 := n3_; clear n0_ n1_ n2_ n3_; clear hb hbox hg; have hcz3_0 : w2.cell? ⟨gb322, 0, none⟩ = some (.slice A0_0 l0_0.length c0_0) := (blk_cell BK322.out 0).trans rfl; have hcz3_1 : w2.cell? ⟨gb322, 1, none⟩ = some (.slice A0_1 l0_1.length c0_1) := (blk_cell BK322.out 1).trans rfl; have hfz3_0 := blk_frozen BK322.out 0; have hfz3_1 := blk_frozen BK322.out 1))
 go_loopg [3, 9] k (fun kq v3 v9 w' => ∃ (x3_1 : List Int) (x9_1 : Int), v9 = .int .i64 x9_1 ∧ Aside0 (athanorlaw06_cells.l0 kq x3_1 l0_1 (l0_1.length : Int) x9_1 = some r) ∧ Aside0 (kq ≤ k) ∧ Aside0 (Kd.R (Kd.int .i64) 2 w' w.heap.size (fun _ => True) v3 x3_1) ∧ Aside0 (w'.heap[gb322]? = some (.cells #[(.slice A0_0 l0_0.length c0_0), (.slice A0_1 l0_1.length c0_1)] 26 (0, 0))) ∧ Aside0 (Below w.heap.size w w'))
 case atStart => exact ⟨(([] : List Int)), (0), (by first | rfl | (simp; done) | (simp [*]; done)), H', ⟨Nat.le_refl _⟩, ⟨by first|exact Kd.R_nil _ _ _ _ _|exact Kd.N_nil _ _ _ _ _|exact Kd.V_nil _ _ _ _ _|exact Kd.Q_nil _ _ _ _ _|exact Kd.S_nil _ _ _ _ _⟩, ⟨by (with_reducible repeat (first|apply kN|apply kD|apply kA)); exact BK322.out⟩, ⟨by repeat (first | (with_reducible first|exact HB.out|apply bA|apply bN|apply bD|refine bS ?_ GE322.out)|exact HB.out)⟩⟩
 case round =>
  clear H'
  (try clear hcz3_0); (try clear hcz3_1); (try clear hfz3_0); (try clear hfz3_1)
  obtain ⟨x3_1, x9_1, rfl, HA, HK1, HO_3, BK322, HB⟩ := hrel
  cases gk with
  | zero => exact absurd HA.out (by simp [athanorlaw06_cells.l0])
  | succ k1 =>
   have H := HA.out
   clear HA
   simp only [athanorlaw06_cells.l0] at H
   by_cases c4 : x9_1 < (l0_1.length : Int)
   ·rw [if_pos c4] at H
    have c4b0 : decide (x9_1 < (l0_1.length : Int)) = true := decide_eq_true c4
    clear c4
    by_cases c5 : 0 ≤ x9_1
    ·rw [if_pos c5] at H
     have c5b0 : decide (0 ≤ x9_1) = true := decide_eq_true c5
     clear c5
     by_cases c6 : x9_1 < (l0_1.length : Int)
     ·rw [if_pos c6] at H
      have c6b0 : decide (x9_1 < (l0_1.length : Int)) = true := decide_eq_true c6
      clear c6
      by_cases c7 : x3_1.length < 17592186044416
      ·rw [if_pos c7] at H
       have LMc7 := Aside0.mk c7
       clear c7
       obtain ⟨y324, hy324⟩ : ∃ y_ : List Int, y_ = (x3_1 ++ [rd l0_1 x9_1]) := ⟨_, rfl⟩
       replace H : (athanorlaw06_cells.l0 k1 y324 l0_1 (l0_1.length : Int) (wrap64 (x9_1 + 1))) = some r := by first | (rw [hy324]; with_reducible exact H) | (have H2_ := (Option.bind_some _ _).symm.trans H; rw [hy324]; with_reducible exact H2_) | (have H2_ := (Option.bind_some _ _).symm.trans H; with_reducible exact H2_) | with_reducible exact H | (rw [hy324]; exact H)|exact H
       have Ny324 := Aside0.mk hy324
       clear hy324
       as_aux_lemma =>
        have H' := Aside0.mk H
        clear H
        have p323 : 0 ≤ (x9_1 : Int) := of_decide_eq_true (by first | (with_reducible assumption) | assumption)
        have q323 : x9_1 < (l0_1.length : Int) := of_decide_eq_true (by first | (with_reducible assumption) | assumption)
        obtain ⟨ad323, e323, hx323_0⟩ := Kd.at_int HR0_1.out x9_1 p323 q323
        cases e323
        replace hx323_0 := (HB.out.cell (World.block_lt_of_cell? w _ hx323_0)).trans hx323_0
        replace p323 := eq_true p323
        replace q323 := eq_true q323
        go_wp2_with (first | ((with_reducible refine gate_builtin (b := .append) (xs := #[.tmp 13, .tmp 15]) rfl ?_); at_builtin; refine Kd.R_append (Kd.int .i64) (w0 := w) w.heap.size rfl (.tmp 13) (.tmp 15) 35 2 (.int .i64 0) 8 rfl Try.underlying35 info2 rfl (by decide) (by omega) u3 x3_1 (rd l0_1 x9_1) [.int .i64 (rd l0_1 x9_1)] (fun _ => True) (fun _ => False) rfl rfl ?aP (fun _ hk => hk.elim) ?aF ?aO ?aB ?aS ?aL ?_; (case aP => exact rfl); (case aB => exact (by repeat (first | (with_reducible first|exact HB.out|apply bA|apply bN|apply bD|refine bS ?_ GE322.out)|exact HB.out))); (case aF => exact (fun _ _ => trivial)); (case aO => exact (by (with_reducible repeat (first|apply rA|apply rN|apply rD)); exact HO_3.out)); (case aS => exact (below_size (by repeat (first | (with_reducible first|exact HB.out|apply bA|apply bN|apply bD|refine bS ?_ GE322.out)|exact HB.out)))); (case aL => have := LMc7.out; omega); intro v325 w8 ho hb hg hat; rw [← Ny324.out] at ho; have n0_ := aM (blk_grown (g := gb322) (o := .cells #[.slice A0_0 l0_0.length c0_0, .slice (some ad323) l0_1.length c0_1] 26 (0, 0)) (by (with_reducible repeat (first|apply kN|apply kD|apply kA)); exact BK322.out) hg (Kd.R_ne HO_3.out BK322.out (by decide))); have n1_ := aM (hb); have n2_ := aM (ho); clear BK322; clear HB; clear HO_3; have BK322 := n0_; have HB := n1_; have HO326 := n2_; clear n0_ n1_ n2_; clear ho hb hg hat))
        go_roundg k1
        case measure => have := HK1.out; omega
        case rel => exact ⟨(y324), (wrap64 (x9_1 + 1)), (by first | rfl | (simp; done) | (simp [*]; done)), H', ⟨by have := HK1.out; omega⟩, ⟨by (with_reducible repeat (first|apply rA|apply rN|apply rD)); exact HO326.out⟩, ⟨by (with_reducible repeat (first|apply kN|apply kD|apply kA)); exact BK322.out⟩, ⟨by repeat (first | (with_reducible first|exact HB.out|apply bA|apply bN|apply bD|refine bS ?_ GE322.out)|exact HB.out)⟩⟩
      ·rw [if_neg c7] at H
       exact absurd H (by simp)
     ·rw [if_neg c6] at H
      exact absurd H (by simp)
    ·rw [if_neg c5] at H
     exact absurd H (by simp)
   ·rw [if_neg c4] at H
    have c4b0 : decide (x9_1 < (l0_1.length : Int)) = false := decide_eq_false c4
    clear c4
    as_aux_lemma =>
     obtain rfl := Option.some.inj H
     go_wp2
     go_ret
     exact ⟨_, by first | rfl | (simp [errW_none, errW_some] <;> rfl) | (simp [*, errW_none, errW_some] <;> rfl), by (with_reducible repeat (first|apply rA|apply rN|apply rD)); exact HO_3.out, by repeat (first | (with_reducible first|exact HB.out|apply bA|apply bN|apply bD|refine bS ?_ GE322.out)|exact HB.out)⟩

end Go.Proofs.Ytgmgjddfceilhaa.PDen
