-- printed by wip/tools/xp.py of this project (not trusted: Lean checks it)
import Derived.Test.YtkbonmhegojfdaaPOrdx0
import Derived.Test.YtkbonmhegojfdaaPOrdx1
import Derived.Test.YtkbonmhegojfdaaPOrdx2
import Derived.Test.YtkbonmhegojfdaaPOrdAw
namespace Go.Proofs.Ytkbonmhegojfdaa.POrd
open Go.RowKit Go.Proofs.YtkbonmhegojfdaaW.PrintWords Go.Proofs.YtkbonmhegojfdaaW.PrintLast Go.Proofs.YtkbonmhegojfdaaW.PrintMore Go.Proofs.Ytkbonmhegojfdaa.XW
attribute [local go_sem] max2_int min2_int max_two min_two max_three min_three max_four min_four max_five min_five   -- for this text's walks alone
set_option linter.unusedVariables false
set_option linter.unusedSimpArgs false

/-! ### athanorref25_Mix: function 11 -/
mutual
def athanorref25_Mix.l0 : Nat → Int → List Int → List Int → Int → Option (List Int)
 | 0, _, _, _, _ => none
 | k + 1, x0, x1, x5, x6 => if x6 < x0 then (if x5.length < 17592186044416 then (athanorref25_Mix.l0 k x0 x1 (x5 ++ [x6]) (wrap64 (x6 + 1))) else (none)) else (athanorref25_Mix.l1 k x1 x5 0 (wrap64 (x0 - 1)))
def athanorref25_Mix.l1 : Nat → List Int → List Int → Int → Int → Option (List Int)
 | 0, _, _, _, _ => none
 | k + 1, x1, x5, x7, x8 => if x8 ≥ 1 then (if x7 < (x1.length : Int) then (if 0 ≤ x7 then (if (IntKind.u64.wrap (wrap64 (x8 + 1))) = 0 then (none) else (if 0 ≤ x8 then (if x8 < (x5.length : Int) then (if 0 ≤ (wrap64 (Int.tmod (rd x1 x7) (IntKind.u64.wrap (wrap64 (x8 + 1))))) then (if (wrap64 (Int.tmod (rd x1 x7) (IntKind.u64.wrap (wrap64 (x8 + 1))))) < (x5.length : Int) then (athanorref25_Mix.l1 k x1 ((x5.set (x8 : Int).toNat (rd x5 (wrap64 (Int.tmod (rd x1 x7) (IntKind.u64.wrap (wrap64 (x8 + 1))))))).set ((wrap64 (Int.tmod (rd x1 x7) (IntKind.u64.wrap (wrap64 (x8 + 1))))) : Int).toNat (rd x5 x8)) (wrap64 (x7 + 1)) (wrap64 (x8 - 1))) else (none)) else (none)) else (none)) else (none))) else (none)) else (if (IntKind.u64.wrap (wrap64 (x8 + 1))) = 0 then (none) else (if 0 ≤ x8 then (if x8 < (x5.length : Int) then (if 0 < (x5.length : Int) then (athanorref25_Mix.l1 k x1 ((x5.set (x8 : Int).toNat (rd x5 0)).set (0 : Int).toNat (rd x5 x8)) (wrap64 (x7 + 1)) (wrap64 (x8 - 1))) else (none)) else (none)) else (none)))) else (some x5)
end
def athanorref25_Mix.f (k : Nat) (a0 : Int) (l1 : List Int) : Option (List Int) := athanorref25_Mix.l0 k a0 l1 ([] : List Int) 0
theorem athanorref25_Mix.mono_l : ∀ k, (∀ y0 y1 y2 y3, LeO (athanorref25_Mix.l0 k y0 y1 y2 y3) (athanorref25_Mix.l0 (k + 1) y0 y1 y2 y3)) ∧ (∀ y0 y1 y2 y3, LeO (athanorref25_Mix.l1 k y0 y1 y2 y3) (athanorref25_Mix.l1 (k + 1) y0 y1 y2 y3))
 | 0 => ⟨fun _ _ _ _ r h => by simp [athanorref25_Mix.l0] at h, fun _ _ _ _ r h => by simp [athanorref25_Mix.l1] at h⟩
 | k + 1 => by
  obtain ⟨ih0, ih1⟩ := athanorref25_Mix.mono_l k
  refine ⟨?_, ?_⟩
  ·intro y0 y1 y2 y3
   unfold athanorref25_Mix.l0
   repeat' first
   | (with_reducible exact ih0 _ _ _ _)
   | (with_reducible exact ih1 _ _ _ _)
   | (with_reducible exact LeO.refl _)
   | (with_reducible exact LeO.none _)
   | (with_reducible refine LeO.ite ?_ ?_)
   | (with_reducible refine LeO.bind ?_ (fun _ => ?_))
   | exact ih0 _ _ _ _
   | exact ih1 _ _ _ _
   | exact LeO.none _
   | refine LeO.ite ?_ ?_
   | refine LeO.bind ?_ (fun _ => ?_)
  ·intro y0 y1 y2 y3
   unfold athanorref25_Mix.l1
   repeat' first
   | (with_reducible exact ih0 _ _ _ _)
   | (with_reducible exact ih1 _ _ _ _)
   | (with_reducible exact LeO.refl _)
   | (with_reducible exact LeO.none _)
   | (with_reducible refine LeO.ite ?_ ?_)
   | (with_reducible refine LeO.bind ?_ (fun _ => ?_))
   | exact ih0 _ _ _ _
   | exact ih1 _ _ _ _
   | exact LeO.none _
   | refine LeO.ite ?_ ?_
   | refine LeO.bind ?_ (fun _ => ?_)
theorem athanorref25_Mix.mono : ∀ a0 a1 k, LeO (athanorref25_Mix.f k a0 a1) (athanorref25_Mix.f (k + 1) a0 a1) := by
 intro a0 a1 k
 obtain ⟨ih0, ih1⟩ := athanorref25_Mix.mono_l k
 unfold athanorref25_Mix.f
 repeat' first
   | (with_reducible exact ih0 _ _ _ _)
   | (with_reducible exact ih1 _ _ _ _)
   | (with_reducible exact LeO.refl _)
   | (with_reducible exact LeO.none _)
   | (with_reducible refine LeO.ite ?_ ?_)
   | (with_reducible refine LeO.bind ?_ (fun _ => ?_))
   | exact ih0 _ _ _ _
   | exact ih1 _ _ _ _
   | exact LeO.none _
   | refine LeO.ite ?_ ?_
   | refine LeO.bind ?_ (fun _ => ?_)
set_option maxHeartbeats 8000000 in
set_option maxRecDepth 100000 in
theorem athanorref25_Mix.calls (k : Nat) (a0 : Int) (A1 : Option Addr) (c1 : Nat) (l1 : List Int) (r : List Int) (w : World) (hr1 : Kd.C (Kd.int .u64) w A1 l1.length l1) (hc1 : l1.length ≤ c1) (h : athanorref25_Mix.f k a0 l1 = some r) :
  Calls Try.prog 11 #[.int .i64 a0, .slice A1 l1.length c1] w fun e w' => ∃ v0_ : Value, e = .returned (v0_) ∧ Kd.R (Kd.int .i64) 3 w' w.heap.size (fun _ => True) v0_ r ∧ Below w.heap.size w w' := by
 have HR1 := Aside0.mk hr1
 have HC1 := Aside0.mk hc1
 clear hr1 hc1
 have HB := Aside0.mk (Below.refl w.heap.size w)
 have H : (athanorref25_Mix.l0 k a0 l1 ([] : List Int) 0) = some r := h
 clear h
 have H' := Aside0.mk H
 clear H
 go_enter Try.func11, Try.ntmps11
 go_wp2
 go_loopg [5, 6] k (fun kq v5 v6 w' => ∃ (x5_1 : List Int) (x6_1 : Int), v6 = .int .i64 x6_1 ∧ Aside0 (athanorref25_Mix.l0 kq a0 l1 x5_1 x6_1 = some r) ∧ Aside0 (kq ≤ k) ∧ Aside0 (Kd.R (Kd.int .i64) 3 w' w.heap.size (fun _ => True) v5 x5_1) ∧ Aside0 (Below w.heap.size w w'))
 case atStart => exact ⟨(([] : List Int)), (0), (by first | rfl | (simp; done) | (simp [*]; done)), H', ⟨Nat.le_refl _⟩, ⟨by first | exact Kd.R_nil _ _ _ _ _ | exact Kd.N_nil _ _ _ _ _ | exact Kd.V_nil _ _ _ _ _ | exact Kd.Q_nil _ _ _ _ _ | exact Kd.S_nil _ _ _ _ _⟩, ⟨by repeat (first | (with_reducible first | exact HB.out | apply below_alloc | apply pw_below_drewN | apply below_drew1) | exact HB.out)⟩⟩
 case round =>
  clear H'
  (try clear c1); (try clear p2)
  obtain ⟨x5_1, x6_1, rfl, HA, HK1, HO_5, HB⟩ := hrel
  cases gk with
  | zero => exact absurd HA.out (by simp [athanorref25_Mix.l0])
  | succ k1 =>
   have H := HA.out
   clear HA
   simp only [athanorref25_Mix.l0] at H
   by_cases c3 : x6_1 < a0
   ·rw [if_pos c3] at H
    have c3b0 : decide (x6_1 < a0) = true := decide_eq_true c3
    clear c3
    by_cases c4 : x5_1.length < 17592186044416
    ·rw [if_pos c4] at H
     have LMc4 := Aside0.mk c4
     clear c4
     obtain ⟨y133, hy133⟩ : ∃ y_ : List Int, y_ = (x5_1 ++ [x6_1]) := ⟨_, rfl⟩
     replace H : (athanorref25_Mix.l0 k1 a0 l1 y133 (wrap64 (x6_1 + 1))) = some r := by first | (rw [hy133]; with_reducible exact H) | (have H2_ := (Option.bind_some _ _).symm.trans H; rw [hy133]; with_reducible exact H2_) | (have H2_ := (Option.bind_some _ _).symm.trans H; with_reducible exact H2_) | with_reducible exact H | (rw [hy133]; exact H) | exact H
     have Ny133 := Aside0.mk hy133
     clear hy133
     as_aux_lemma =>
      have H' := Aside0.mk H
      clear H
      go_wp2_with (first | ((with_reducible refine gate_builtin (b := .append) (xs := #[.tmp 17, .tmp 19]) rfl ?_); at_builtin; refine Kd.R_append (Kd.int .i64) (w0 := w) w.heap.size rfl (.tmp 17) (.tmp 19) 24 3 (.int .i64 0) 8 rfl Try.underlying24 info3 rfl (by decide) (by omega) u5 x5_1 x6_1 [.int .i64 x6_1] (fun _ => True) (fun _ => False) rfl rfl ?aP (fun _ hk => hk.elim) ?aF ?aO ?aB ?aS ?aL ?_; (case aP => exact rfl); (case aB => exact (by repeat (first | (with_reducible first | exact HB.out | apply below_alloc | apply pw_below_drewN | apply below_drew1) | exact HB.out))); (case aF => exact (fun _ _ => trivial)); (case aO => exact (by (with_reducible repeat (first | apply Kd.R_alloc | apply Kd.R_drewN | apply Kd.R_drew)); exact HO_5.out)); (case aS => exact (below_size (by repeat (first | (with_reducible first | exact HB.out | apply below_alloc | apply pw_below_drewN | apply below_drew1) | exact HB.out)))); (case aL => have := LMc4.out; omega); intro v134 w5 ho hb hg hat; rw [← Ny133.out] at ho; have n0_ := Aside0.mk (hb); have n1_ := Aside0.mk (ho); clear HB; clear HO_5; have HB := n0_; have HO135 := n1_; clear n0_ n1_; clear ho hb hg hat))
      go_roundg k1
      case measure => have := HK1.out; omega
      case rel => exact ⟨(y133), (wrap64 (x6_1 + 1)), (by first | rfl | (simp; done) | (simp [*]; done)), H', ⟨by have := HK1.out; omega⟩, ⟨by (with_reducible repeat (first | apply Kd.R_alloc | apply Kd.R_drewN | apply Kd.R_drew)); exact HO135.out⟩, ⟨by repeat (first | (with_reducible first | exact HB.out | apply below_alloc | apply pw_below_drewN | apply below_drew1) | exact HB.out)⟩⟩
    ·rw [if_neg c4] at H
     exact absurd H (by simp)
   ·rw [if_neg c3] at H
    have c3b0 : decide (x6_1 < a0) = false := decide_eq_false c3
    clear c3
    have H' := Aside0.mk H
    clear H
    go_wp2
    go_loopg [7, 8] k1 (fun kq v7 v8 w' => ∃ (x5_2 : List Int) (x7_2 : Int) (x8_2 : Int), v7 = .int .i64 x7_2 ∧ v8 = .int .i64 x8_2 ∧ Aside0 (athanorref25_Mix.l1 kq l1 x5_2 x7_2 x8_2 = some r) ∧ Aside0 (kq ≤ k1) ∧ Aside0 (Kd.R (Kd.int .i64) 3 w' w.heap.size (fun _ => True) u5 x5_2) ∧ Aside0 (Below w.heap.size w w'))
    case atStart => exact ⟨(x5_1), (0), (wrap64 (a0 - 1)), (by first | rfl | (simp; done) | (simp [*]; done)), (by first | rfl | (simp; done) | (simp [*]; done)), H', ⟨Nat.le_refl _⟩, ⟨by (with_reducible repeat (first | apply Kd.R_alloc | apply Kd.R_drewN | apply Kd.R_drew)); exact HO_5.out⟩, ⟨by repeat (first | (with_reducible first | exact HB.out | apply below_alloc | apply pw_below_drewN | apply below_drew1) | exact HB.out)⟩⟩
    case round =>
     clear H'
     (try clear c1); (try clear p2); (try clear c3); (try clear c3b0); (try clear c4); (try clear p2)
     obtain ⟨x5_2, x7_2, x8_2, rfl, rfl, HA, HK2, HO_5, HB⟩ := hrel
     cases gk with
     | zero => exact absurd HA.out (by simp [athanorref25_Mix.l1])
     | succ k2 =>
      have H := HA.out
      clear HA
      simp only [athanorref25_Mix.l1] at H
      by_cases c6 : x8_2 ≥ 1
      ·rw [if_pos c6] at H
       have c6b0 : decide (1 ≤ x8_2) = true := decide_eq_true c6
       clear c6
       by_cases c7 : x7_2 < (l1.length : Int)
       ·rw [if_pos c7] at H
        have c7b0 : decide (x7_2 < (l1.length : Int)) = true := decide_eq_true c7
        clear c7
        by_cases c8 : 0 ≤ x7_2
        ·rw [if_pos c8] at H
         have c8b0 : decide (0 ≤ x7_2) = true := decide_eq_true c8
         clear c8
         by_cases c9 : (IntKind.u64.wrap (wrap64 (x8_2 + 1))) = 0
         ·rw [if_pos c9] at H
          exact absurd H (by simp)
         ·rw [if_neg c9] at H
          have c9b0 : ((IntKind.u64.wrap (wrap64 (x8_2 + 1))) == 0) = false := beq_eq_false_iff_ne.mpr c9
          have c9b1 : ((IntKind.u64.wrap (wrap64 (x8_2 + 1))) != 0) = true := bne_iff_ne.mpr c9
          by_cases c10 : 0 ≤ x8_2
          ·rw [if_pos c10] at H
           have c10b0 : decide (0 ≤ x8_2) = true := decide_eq_true c10
           clear c10
           by_cases c11 : x8_2 < (x5_2.length : Int)
           ·rw [if_pos c11] at H
            have c11b0 : decide (x8_2 < (x5_2.length : Int)) = true := decide_eq_true c11
            clear c11
            obtain ⟨ji12, hji12⟩ : ∃ j_ : Int, (wrap64 (Int.tmod (rd l1 x7_2) (IntKind.u64.wrap (wrap64 (x8_2 + 1))))) = j_ := ⟨_, rfl⟩
            replace H : (if 0 ≤ (ji12) then (if (ji12) < (x5_2.length : Int) then (athanorref25_Mix.l1 k2 l1 ((x5_2.set (x8_2 : Int).toNat (rd x5_2 (ji12))).set ((ji12) : Int).toNat (rd x5_2 x8_2)) (wrap64 (x7_2 + 1)) (wrap64 (x8_2 - 1))) else (none)) else (none)) = some r := by first | (rw [hji12] at H; exact H) | (simp only [hji12] at H ⊢; exact H)
            have hji12w : (IntKind.i64.wrap (Int.tmod (rd l1 x7_2) (IntKind.u64.wrap (wrap64 (x8_2 + 1))))) = ji12 := (i64_w _).trans hji12
            by_cases c13 : 0 ≤ (ji12)
            ·rw [if_pos c13] at H
             have c13b0 : decide (0 ≤ (ji12)) = true := decide_eq_true c13
             clear c13
             by_cases c14 : (ji12) < (x5_2.length : Int)
             ·rw [if_pos c14] at H
              have c14b0 : decide ((ji12) < (x5_2.length : Int)) = true := decide_eq_true c14
              clear c14
              obtain ⟨y139, hy139⟩ : ∃ y_ : List Int, y_ = (x5_2.set (x8_2 : Int).toNat (rd x5_2 (ji12))) := ⟨_, rfl⟩
              replace H : (athanorref25_Mix.l1 k2 l1 (y139.set ((ji12) : Int).toNat (rd x5_2 x8_2)) (wrap64 (x7_2 + 1)) (wrap64 (x8_2 - 1))) = some r := by first | (rw [hy139]; with_reducible exact H) | (have H2_ := (Option.bind_some _ _).symm.trans H; rw [hy139]; with_reducible exact H2_) | (have H2_ := (Option.bind_some _ _).symm.trans H; with_reducible exact H2_) | with_reducible exact H | (rw [hy139]; exact H) | exact H
              have Ny139 := Aside0.mk hy139
              clear hy139
              obtain ⟨y140, hy140⟩ : ∃ y_ : List Int, y_ = (y139.set ((ji12) : Int).toNat (rd x5_2 x8_2)) := ⟨_, rfl⟩
              replace H : (athanorref25_Mix.l1 k2 l1 y140 (wrap64 (x7_2 + 1)) (wrap64 (x8_2 - 1))) = some r := by first | (rw [hy140]; with_reducible exact H) | (have H2_ := (Option.bind_some _ _).symm.trans H; rw [hy140]; with_reducible exact H2_) | (have H2_ := (Option.bind_some _ _).symm.trans H; with_reducible exact H2_) | with_reducible exact H | (rw [hy140]; exact H) | exact H
              have Ny140 := Aside0.mk hy140
              clear hy140
              as_aux_lemma =>
               have H' := Aside0.mk H
               clear H
               have p136 : 0 ≤ (x7_2 : Int) := of_decide_eq_true (by first | (with_reducible assumption) | assumption)
               have q136 : x7_2 < (l1.length : Int) := of_decide_eq_true (by first | (with_reducible assumption) | assumption)
               obtain ⟨ad136, e136, hx136_0⟩ := Kd.at_int HR1.out x7_2 p136 q136
               cases e136
               replace hx136_0 := (HB.out.cell (World.block_lt_of_cell? w _ hx136_0)).trans hx136_0
               replace p136 := eq_true p136
               replace q136 := eq_true q136
               obtain ⟨Ao17, co17, eo17⟩ := Kd.R_slice HO_5.out
               subst eo17
               have p137 : 0 ≤ (x8_2 : Int) := of_decide_eq_true (by first | (with_reducible assumption) | assumption)
               have q137 : x8_2 < (x5_2.length : Int) := of_decide_eq_true (by first | (with_reducible assumption) | assumption)
               obtain ⟨ad137, e137, hx137_0⟩ := Kd.at_int (Kd.R_reads' HO_5.out).2.2 x8_2 p137 q137
               cases e137
               replace p137 := eq_true p137
               replace q137 := eq_true q137
               have p138 : 0 ≤ ((ji12) : Int) := of_decide_eq_true (by first | (with_reducible assumption) | assumption)
               have q138 : (ji12) < (x5_2.length : Int) := of_decide_eq_true (by first | (with_reducible assumption) | assumption)
               obtain ⟨ad138, e138, hx138_0⟩ := Kd.at_int (Kd.R_reads' HO_5.out).2.2 (ji12) p138 q138
               obtain rfl : ad137 = ad138 := (by injection e138)
               replace p138 := eq_true p138
               replace q138 := eq_true q138
               have p15 : 0 ≤ (x8_2 : Int) := of_decide_eq_true (by first | (with_reducible assumption) | assumption)
               have q15 : (x8_2 : Int) < ((x5_2.length : Int) : Int) := of_decide_eq_true (by first | (with_reducible assumption) | assumption)
               obtain ⟨go15, co15, eo15, gb15, gl15, cl15, HG15⟩ := Kd.R_form HO_5.out (by omega)
               (first | cases eo15 | (injection eo15 with ea_ en_ ec_; (first | subst ea_ | (injection ea_ with ea_; subst ea_)); subst ec_; clear en_))
               have GB15 := Aside0.mk gb15
               have GG15 := Aside0.mk HG15
               clear gb15 gl15 HG15
               (first | simp only [add_plain] at hx137_0 | skip)
               (first | simp only [add_plain] at hx138_0 | skip)
               obtain ⟨hx15_0, hf15_0⟩ := Kd.R_celln 0 HO_5.out (x8_2 : Int) p15 q15
               replace p15 := eq_true p15
               replace q15 := eq_true q15
               have HP18 := Kd.R_putg HO_5.out (x8_2 : Int) (rd x5_2 (ji12))
               go_wp2_with (first | ((with_reducible refine gate_store (t := 3) (p := 53) rfl ?_); refine store_event (t := 3) (p := 53) (v := ?vo_w19) (w1 := (wr.setCell ⟨go15, (x8_2 : Int).toNat, none⟩ (.int .i64 (rd x5_2 (ji12))))) ?hg ?ho ?hn ?hr ?_; (case ho => rfl); (case hg => rfl); (case hn => rfl); (case hr => first | (go_simp; done) | (go_simp; rfl)); intro w19 hw; have hg : wr.grownBy w19 (some go15) := (by rw [hw]; exact HP18.2); have hp_ : Kd.R (Kd.int .i64) 3 w19 w.heap.size (fun _ => True) (.slice (some ⟨go15, 0, none⟩) x5_2.length co17) y139 := (by rw [hw, Ny139.out]; exact HP18.1); clear HP18; have n0_ := Aside0.mk (hp_); have n1_ := Aside0.mk ((by rw [hw]; exact below_set (HB.out) GB15.out : Below w.heap.size w w19)); clear HO_5; clear HB; have HO_5 := n0_; have HB := n1_; clear n0_ n1_; clear hg hw hp_; have p16 : 0 ≤ ((ji12) : Int) := of_decide_eq_true (by first | (with_reducible assumption) | assumption); have q16 : ((ji12) : Int) < ((x5_2.length : Int) : Int) := of_decide_eq_true (by first | (with_reducible assumption) | assumption); obtain ⟨hx16_0, hf16_0⟩ := Kd.R_celln 0 HO_5.out ((ji12) : Int) p16 q16; replace p16 := eq_true p16; replace q16 := eq_true q16; obtain ⟨hy20_, hz20_⟩ := Kd.R_celln 0 HO_5.out ((ji12) : Int) (of_decide_eq_true (by first | (with_reducible assumption) | assumption)) (of_decide_eq_true (by first | (with_reducible assumption) | assumption)); have HP20 := Kd.R_putg HO_5.out ((ji12) : Int) (rd x5_2 x8_2)) | ((with_reducible refine gate_store (t := 3) (p := 57) rfl ?_); refine store_event (t := 3) (p := 57) (v := ?vo_w21) (w1 := (w19.setCell ⟨go15, ((ji12) : Int).toNat, none⟩ (.int .i64 (rd x5_2 x8_2)))) ?hg ?ho ?hn ?hr ?_; (case ho => rfl); (case hg => rfl); (case hn => rfl); (case hr => first | (go_simp; done) | (go_simp; rfl)); intro w21 hw; have hg : w19.grownBy w21 (some go15) := (by rw [hw]; exact HP20.2); have hp_ : Kd.R (Kd.int .i64) 3 w21 w.heap.size (fun _ => True) (.slice (some ⟨go15, 0, none⟩) x5_2.length co17) y140 := (by rw [hw, Ny140.out]; exact HP20.1); clear HP20; have n0_ := Aside0.mk (hp_); have n1_ := Aside0.mk ((by rw [hw]; exact below_set (HB.out) GB15.out : Below w.heap.size w w21)); clear HO_5; clear HB; have HO_5 := n0_; have HB := n1_; clear n0_ n1_; clear hg hw hp_))
               go_roundg k2
               case measure => have := HK1.out; have := HK2.out; omega
               case rel => exact ⟨(y140), (wrap64 (x7_2 + 1)), (wrap64 (x8_2 - 1)), (by first | rfl | (simp; done) | (simp [*]; done)), (by first | rfl | (simp; done) | (simp [*]; done)), H', ⟨by have := HK1.out; have := HK2.out; omega⟩, ⟨by (with_reducible repeat (first | apply Kd.R_alloc | apply Kd.R_drewN | apply Kd.R_drew)); exact HO_5.out⟩, ⟨by repeat (first | (with_reducible first | exact HB.out | apply below_alloc | apply pw_below_drewN | apply below_drew1) | exact HB.out)⟩⟩
             ·rw [if_neg c14] at H
              exact absurd H (by simp)
            ·rw [if_neg c13] at H
             exact absurd H (by simp)
           ·rw [if_neg c11] at H
            exact absurd H (by simp)
          ·rw [if_neg c10] at H
           exact absurd H (by simp)
        ·rw [if_neg c8] at H
         exact absurd H (by simp)
       ·rw [if_neg c7] at H
        have c7b0 : decide (x7_2 < (l1.length : Int)) = false := decide_eq_false c7
        clear c7
        by_cases c22 : (IntKind.u64.wrap (wrap64 (x8_2 + 1))) = 0
        ·rw [if_pos c22] at H
         exact absurd H (by simp)
        ·rw [if_neg c22] at H
         have c22b0 : ((IntKind.u64.wrap (wrap64 (x8_2 + 1))) == 0) = false := beq_eq_false_iff_ne.mpr c22
         have c22b1 : ((IntKind.u64.wrap (wrap64 (x8_2 + 1))) != 0) = true := bne_iff_ne.mpr c22
         by_cases c23 : 0 ≤ x8_2
         ·rw [if_pos c23] at H
          have c23b0 : decide (0 ≤ x8_2) = true := decide_eq_true c23
          clear c23
          by_cases c24 : x8_2 < (x5_2.length : Int)
          ·rw [if_pos c24] at H
           have c24b0 : decide (x8_2 < (x5_2.length : Int)) = true := decide_eq_true c24
           clear c24
           by_cases c25 : 0 < (x5_2.length : Int)
           ·rw [if_pos c25] at H
            have c25b0 : decide (0 < (x5_2.length : Int)) = true := decide_eq_true c25
            have c25b1 : decide (0 < x5_2.length) = true := decide_eq_true (by omega)
            clear c25
            obtain ⟨y143, hy143⟩ : ∃ y_ : List Int, y_ = (x5_2.set (x8_2 : Int).toNat (rd x5_2 0)) := ⟨_, rfl⟩
            replace H : (athanorref25_Mix.l1 k2 l1 (y143.set (0 : Int).toNat (rd x5_2 x8_2)) (wrap64 (x7_2 + 1)) (wrap64 (x8_2 - 1))) = some r := by first | (rw [hy143]; with_reducible exact H) | (have H2_ := (Option.bind_some _ _).symm.trans H; rw [hy143]; with_reducible exact H2_) | (have H2_ := (Option.bind_some _ _).symm.trans H; with_reducible exact H2_) | with_reducible exact H | (rw [hy143]; exact H) | exact H
            have Ny143 := Aside0.mk hy143
            clear hy143
            obtain ⟨y144, hy144⟩ : ∃ y_ : List Int, y_ = (y143.set (0 : Int).toNat (rd x5_2 x8_2)) := ⟨_, rfl⟩
            replace H : (athanorref25_Mix.l1 k2 l1 y144 (wrap64 (x7_2 + 1)) (wrap64 (x8_2 - 1))) = some r := by first | (rw [hy144]; with_reducible exact H) | (have H2_ := (Option.bind_some _ _).symm.trans H; rw [hy144]; with_reducible exact H2_) | (have H2_ := (Option.bind_some _ _).symm.trans H; with_reducible exact H2_) | with_reducible exact H | (rw [hy144]; exact H) | exact H
            have Ny144 := Aside0.mk hy144
            clear hy144
            as_aux_lemma =>
             have H' := Aside0.mk H
             clear H
             obtain ⟨Ao28, co28, eo28⟩ := Kd.R_slice HO_5.out
             subst eo28
             have p141 : 0 ≤ (x8_2 : Int) := of_decide_eq_true (by first | (with_reducible assumption) | assumption)
             have q141 : x8_2 < (x5_2.length : Int) := of_decide_eq_true (by first | (with_reducible assumption) | assumption)
             obtain ⟨ad141, e141, hx141_0⟩ := Kd.at_int (Kd.R_reads' HO_5.out).2.2 x8_2 p141 q141
             cases e141
             replace p141 := eq_true p141
             replace q141 := eq_true q141
             have p142 : 0 ≤ (0 : Int) := (by omega)
             have q142 : 0 < (x5_2.length : Int) := of_decide_eq_true (by first | (with_reducible assumption) | assumption)
             obtain ⟨ad142, e142, hx142_0⟩ := Kd.at_int (Kd.R_reads' HO_5.out).2.2 0 p142 q142
             obtain rfl : ad141 = ad142 := (by injection e142)
             have qi142 : (0 < x5_2.length) = True := eq_true (by omega)
             (try rw [show ((0 : Int)).toNat = 0 from rfl] at hx142_0)
             (try rw [Addr.add_zero'] at hx142_0)
             replace p142 := eq_true p142
             replace q142 := eq_true q142
             have p26 : 0 ≤ (x8_2 : Int) := of_decide_eq_true (by first | (with_reducible assumption) | assumption)
             have q26 : (x8_2 : Int) < ((x5_2.length : Int) : Int) := of_decide_eq_true (by first | (with_reducible assumption) | assumption)
             obtain ⟨go26, co26, eo26, gb26, gl26, cl26, HG26⟩ := Kd.R_form HO_5.out (by omega)
             (first | cases eo26 | (injection eo26 with ea_ en_ ec_; (first | subst ea_ | (injection ea_ with ea_; subst ea_)); subst ec_; clear en_))
             have GB26 := Aside0.mk gb26
             have GG26 := Aside0.mk HG26
             clear gb26 gl26 HG26
             (first | simp only [add_plain] at hx141_0 | skip)
             (first | simp only [add_plain] at hx142_0 | skip)
             obtain ⟨hx26_0, hf26_0⟩ := Kd.R_celln 0 HO_5.out (x8_2 : Int) p26 q26
             replace p26 := eq_true p26
             replace q26 := eq_true q26
             have HP29 := Kd.R_putg HO_5.out (x8_2 : Int) (rd x5_2 0)
             go_wp2_with (first | ((with_reducible refine gate_store (t := 3) (p := 53) rfl ?_); refine store_event (t := 3) (p := 53) (v := ?vo_w30) (w1 := (wr.setCell ⟨go26, (x8_2 : Int).toNat, none⟩ (.int .i64 (rd x5_2 0)))) ?hg ?ho ?hn ?hr ?_; (case ho => rfl); (case hg => rfl); (case hn => rfl); (case hr => first | (go_simp; done) | (go_simp; rfl)); intro w30 hw; have hg : wr.grownBy w30 (some go26) := (by rw [hw]; exact HP29.2); have hp_ : Kd.R (Kd.int .i64) 3 w30 w.heap.size (fun _ => True) (.slice (some ⟨go26, 0, none⟩) x5_2.length co28) y143 := (by rw [hw, Ny143.out]; exact HP29.1); clear HP29; have n0_ := Aside0.mk (hp_); have n1_ := Aside0.mk ((by rw [hw]; exact below_set (HB.out) GB26.out : Below w.heap.size w w30)); clear HO_5; clear HB; have HO_5 := n0_; have HB := n1_; clear n0_ n1_; clear hg hw hp_; have p27 : 0 ≤ (0 : Int) := (by omega); have q27 : (0 : Int) < ((x5_2.length : Int) : Int) := of_decide_eq_true (by first | (with_reducible assumption) | assumption); have qi27 : (0 < x5_2.length) = True := eq_true (by omega); obtain ⟨hx27_0, hf27_0⟩ := Kd.R_celln 0 HO_5.out (0 : Int) p27 q27; (try rw [show ((0 : Int)).toNat = 0 from rfl] at hx27_0); (try simp only [Nat.reduceMul, Nat.zero_mul, Nat.zero_add, Nat.reduceAdd] at hx27_0); (try rw [show ((0 : Int)).toNat = 0 from rfl] at hf27_0); (try simp only [Nat.reduceMul, Nat.zero_mul, Nat.zero_add, Nat.reduceAdd] at hf27_0); replace p27 := eq_true p27; replace q27 := eq_true q27; obtain ⟨hy31_, hz31_⟩ := Kd.R_celln 0 HO_5.out (0 : Int) (by omega) (of_decide_eq_true (by first | (with_reducible assumption) | assumption)); (try simp only [Int.reduceToNat, Int.toNat_zero, Int.toNat_ofNat, Nat.reduceMul, Nat.zero_mul, Nat.zero_add] at hy31_ hz31_); (try rw [show ((0 : Int)).toNat = 0 from rfl] at hy31_); (try rw [show ((0 : Int)).toNat = 0 from rfl] at hz31_); have HP31 := Kd.R_putg HO_5.out (0 : Int) (rd x5_2 x8_2)) | ((with_reducible refine gate_store (t := 3) (p := 57) rfl ?_); refine store_event (t := 3) (p := 57) (v := ?vo_w32) (w1 := (w30.setCell ⟨go26, (0 : Int).toNat, none⟩ (.int .i64 (rd x5_2 x8_2)))) ?hg ?ho ?hn ?hr ?_; (case ho => rfl); (case hg => rfl); (case hn => rfl); (case hr => first | (go_simp; done) | (go_simp; rfl)); intro w32 hw; have hg : w30.grownBy w32 (some go26) := (by rw [hw]; exact HP31.2); have hp_ : Kd.R (Kd.int .i64) 3 w32 w.heap.size (fun _ => True) (.slice (some ⟨go26, 0, none⟩) x5_2.length co28) y144 := (by rw [hw, Ny144.out]; exact HP31.1); clear HP31; have n0_ := Aside0.mk (hp_); have n1_ := Aside0.mk ((by rw [hw]; exact below_set (HB.out) GB26.out : Below w.heap.size w w32)); clear HO_5; clear HB; have HO_5 := n0_; have HB := n1_; clear n0_ n1_; clear hg hw hp_))
             go_roundg k2
             case measure => have := HK1.out; have := HK2.out; omega
             case rel => exact ⟨(y144), (wrap64 (x7_2 + 1)), (wrap64 (x8_2 - 1)), (by first | rfl | (simp; done) | (simp [*]; done)), (by first | rfl | (simp; done) | (simp [*]; done)), H', ⟨by have := HK1.out; have := HK2.out; omega⟩, ⟨by (with_reducible repeat (first | apply Kd.R_alloc | apply Kd.R_drewN | apply Kd.R_drew)); exact HO_5.out⟩, ⟨by repeat (first | (with_reducible first | exact HB.out | apply below_alloc | apply pw_below_drewN | apply below_drew1) | exact HB.out)⟩⟩
           ·rw [if_neg c25] at H
            exact absurd H (by simp)
          ·rw [if_neg c24] at H
           exact absurd H (by simp)
         ·rw [if_neg c23] at H
          exact absurd H (by simp)
      ·rw [if_neg c6] at H
       have c6b0 : decide (1 ≤ x8_2) = false := decide_eq_false c6
       clear c6
       as_aux_lemma =>
        obtain rfl := Option.some.inj H
        go_wp2
        go_ret
        exact ⟨_, by first | rfl | (simp [errW_none, errW_some] <;> rfl) | (simp [*, errW_none, errW_some] <;> rfl), by (with_reducible repeat (first | apply Kd.R_alloc | apply Kd.R_drewN | apply Kd.R_drew)); exact HO_5.out, by repeat (first | (with_reducible first | exact HB.out | apply below_alloc | apply pw_below_drewN | apply below_drew1) | exact HB.out)⟩

/-! ### athanorref25_Whole: function 12 -/
mutual
def athanorref25_Whole.l0 : Nat → List Int → Int → Option (Bool)
 | 0, _, _ => none
 | k + 1, x0, x3 => if x3 < (x0.length : Int) then (athanorref25_Whole.l1 k x0 x3 0 0) else (some true)
def athanorref25_Whole.l1 : Nat → List Int → Int → Int → Int → Option (Bool)
 | 0, _, _, _, _ => none
 | k + 1, x0, x3, x4, x5 => if x5 < (x0.length : Int) then (if 0 ≤ x5 then (if (rd x0 x5) = x3 then (athanorref25_Whole.l1 k x0 x3 (wrap64 (x4 + 1)) (wrap64 (x5 + 1))) else (athanorref25_Whole.l1 k x0 x3 x4 (wrap64 (x5 + 1)))) else (none)) else (if x4 = 1 then (athanorref25_Whole.l0 k x0 (wrap64 (x3 + 1))) else (some false))
end
def athanorref25_Whole.f (k : Nat) (l0 : List Int) : Option (Bool) := athanorref25_Whole.l0 k l0 0
theorem athanorref25_Whole.mono_l : ∀ k, (∀ y0 y1, LeO (athanorref25_Whole.l0 k y0 y1) (athanorref25_Whole.l0 (k + 1) y0 y1)) ∧ (∀ y0 y1 y2 y3, LeO (athanorref25_Whole.l1 k y0 y1 y2 y3) (athanorref25_Whole.l1 (k + 1) y0 y1 y2 y3))
 | 0 => ⟨fun _ _ r h => by simp [athanorref25_Whole.l0] at h, fun _ _ _ _ r h => by simp [athanorref25_Whole.l1] at h⟩
 | k + 1 => by
  obtain ⟨ih0, ih1⟩ := athanorref25_Whole.mono_l k
  refine ⟨?_, ?_⟩
  ·intro y0 y1
   unfold athanorref25_Whole.l0
   repeat' first
   | (with_reducible exact ih0 _ _)
   | (with_reducible exact ih1 _ _ _ _)
   | (with_reducible exact LeO.refl _)
   | (with_reducible exact LeO.none _)
   | (with_reducible refine LeO.ite ?_ ?_)
   | (with_reducible refine LeO.bind ?_ (fun _ => ?_))
   | exact ih0 _ _
   | exact ih1 _ _ _ _
   | exact LeO.none _
   | refine LeO.ite ?_ ?_
   | refine LeO.bind ?_ (fun _ => ?_)
  ·intro y0 y1 y2 y3
   unfold athanorref25_Whole.l1
   repeat' first
   | (with_reducible exact ih0 _ _)
   | (with_reducible exact ih1 _ _ _ _)
   | (with_reducible exact LeO.refl _)
   | (with_reducible exact LeO.none _)
   | (with_reducible refine LeO.ite ?_ ?_)
   | (with_reducible refine LeO.bind ?_ (fun _ => ?_))
   | exact ih0 _ _
   | exact ih1 _ _ _ _
   | exact LeO.none _
   | refine LeO.ite ?_ ?_
   | refine LeO.bind ?_ (fun _ => ?_)
theorem athanorref25_Whole.mono : ∀ a0 k, LeO (athanorref25_Whole.f k a0) (athanorref25_Whole.f (k + 1) a0) := by
 intro a0 k
 obtain ⟨ih0, ih1⟩ := athanorref25_Whole.mono_l k
 unfold athanorref25_Whole.f
 repeat' first
   | (with_reducible exact ih0 _ _)
   | (with_reducible exact ih1 _ _ _ _)
   | (with_reducible exact LeO.refl _)
   | (with_reducible exact LeO.none _)
   | (with_reducible refine LeO.ite ?_ ?_)
   | (with_reducible refine LeO.bind ?_ (fun _ => ?_))
   | exact ih0 _ _
   | exact ih1 _ _ _ _
   | exact LeO.none _
   | refine LeO.ite ?_ ?_
   | refine LeO.bind ?_ (fun _ => ?_)
set_option maxHeartbeats 8000000 in
set_option maxRecDepth 100000 in
theorem athanorref25_Whole.calls (k : Nat) (A0 : Option Addr) (c0 : Nat) (l0 : List Int) (r : Bool) (w : World) (hr0 : Kd.C (Kd.int .i64) w A0 l0.length l0) (hc0 : l0.length ≤ c0) (h : athanorref25_Whole.f k l0 = some r) :
  Calls Try.prog 12 #[.slice A0 l0.length c0] w fun e w' => e = .returned (.bool r) ∧ Drawn0 w w' := by
 have HR0 := Aside0.mk hr0
 have HC0 := Aside0.mk hc0
 clear hr0 hc0
 have H : (athanorref25_Whole.l0 k l0 0) = some r := h
 clear h
 have H' := Aside0.mk H
 clear H
 go_enter Try.func12, Try.ntmps12
 go_wp2
 go_loopg [3] k (fun kq v3 w' => ∃ (x3_1 : Int), v3 = .int .i64 x3_1 ∧ Aside0 (athanorref25_Whole.l0 kq l0 x3_1 = some r) ∧ Aside0 (kq ≤ k) ∧ Drawn0 w w')
 case atStart => exact ⟨(0), (by first | rfl | (simp; done) | (simp [*]; done)), H', ⟨Nat.le_refl _⟩, by repeat (first | exact Drawn0.refl _ | apply Drawn0.step)⟩
 case round =>
  clear H'
  try clear c1
  obtain ⟨x3_1, rfl, HA, HK1, ⟨m1, rfl⟩⟩ := hrel
  cases gk with
  | zero => exact absurd HA.out (by simp [athanorref25_Whole.l0])
  | succ k1 =>
   have H := HA.out
   clear HA
   simp only [athanorref25_Whole.l0] at H
   by_cases c2 : x3_1 < (l0.length : Int)
   ·rw [if_pos c2] at H
    have c2b0 : decide (x3_1 < (l0.length : Int)) = true := decide_eq_true c2
    clear c2
    have H' := Aside0.mk H
    clear H
    go_wp2
    go_loopg [4, 5] k1 (fun kq v4 v5 w' => ∃ (x4_2 : Int) (x5_2 : Int), v4 = .int .i64 x4_2 ∧ v5 = .int .i64 x5_2 ∧ Aside0 (athanorref25_Whole.l1 kq l0 x3_1 x4_2 x5_2 = some r) ∧ Aside0 (kq ≤ k1) ∧ Drawn0 w w')
    case atStart => exact ⟨(0), (0), (by first | rfl | (simp; done) | (simp [*]; done)), (by first | rfl | (simp; done) | (simp [*]; done)), H', ⟨Nat.le_refl _⟩, by repeat (first | exact Drawn0.refl _ | apply Drawn0.step)⟩
    case round =>
     clear H'
     (try clear c1); (try clear c2); (try clear c2b0); (try clear p2)
     obtain ⟨x4_2, x5_2, rfl, rfl, HA, HK2, ⟨m2, rfl⟩⟩ := hrel
     cases gk with
     | zero => exact absurd HA.out (by simp [athanorref25_Whole.l1])
     | succ k2 =>
      have H := HA.out
      clear HA
      simp only [athanorref25_Whole.l1] at H
      by_cases c3 : x5_2 < (l0.length : Int)
      ·rw [if_pos c3] at H
       have c3b0 : decide (x5_2 < (l0.length : Int)) = true := decide_eq_true c3
       clear c3
       by_cases c4 : 0 ≤ x5_2
       ·rw [if_pos c4] at H
        have c4b0 : decide (0 ≤ x5_2) = true := decide_eq_true c4
        clear c4
        by_cases c5 : (rd l0 x5_2) = x3_1
        ·rw [if_pos c5] at H
         have c5b0 : ((rd l0 x5_2) == x3_1) = true := beq_iff_eq.mpr c5
         have c5b1 : ((rd l0 x5_2) != x3_1) = false := bne_eq_false_iff_eq.mpr c5
         clear c5
         as_aux_lemma =>
          have H' := Aside0.mk H
          clear H
          have p145 : 0 ≤ (x5_2 : Int) := of_decide_eq_true (by first | (with_reducible assumption) | assumption)
          have q145 : x5_2 < (l0.length : Int) := of_decide_eq_true (by first | (with_reducible assumption) | assumption)
          obtain ⟨ad145, e145, hx145_0⟩ := Kd.at_int HR0.out x5_2 p145 q145
          cases e145
          replace p145 := eq_true p145
          replace q145 := eq_true q145
          go_wp2
          go_roundg k2
          case measure => have := HK1.out; have := HK2.out; omega
          case rel => exact ⟨(wrap64 (x4_2 + 1)), (wrap64 (x5_2 + 1)), (by first | rfl | (simp; done) | (simp [*]; done)), (by first | rfl | (simp; done) | (simp [*]; done)), H', ⟨by have := HK1.out; have := HK2.out; omega⟩, by repeat (first | exact Drawn0.refl _ | apply Drawn0.step)⟩
        ·rw [if_neg c5] at H
         have c5b0 : ((rd l0 x5_2) == x3_1) = false := beq_eq_false_iff_ne.mpr c5
         have c5b1 : ((rd l0 x5_2) != x3_1) = true := bne_iff_ne.mpr c5
         as_aux_lemma =>
          have H' := Aside0.mk H
          clear H
          have p145 : 0 ≤ (x5_2 : Int) := of_decide_eq_true (by first | (with_reducible assumption) | assumption)
          have q145 : x5_2 < (l0.length : Int) := of_decide_eq_true (by first | (with_reducible assumption) | assumption)
          obtain ⟨ad145, e145, hx145_0⟩ := Kd.at_int HR0.out x5_2 p145 q145
          cases e145
          replace p145 := eq_true p145
          replace q145 := eq_true q145
          go_wp2
          go_roundg k2
          case measure => have := HK1.out; have := HK2.out; omega
          case rel => exact ⟨(x4_2), (wrap64 (x5_2 + 1)), (by first | rfl | (simp; done) | (simp [*]; done)), (by first | rfl | (simp; done) | (simp [*]; done)), H', ⟨by have := HK1.out; have := HK2.out; omega⟩, by repeat (first | exact Drawn0.refl _ | apply Drawn0.step)⟩
       ·rw [if_neg c4] at H
        exact absurd H (by simp)
      ·rw [if_neg c3] at H
       have c3b0 : decide (x5_2 < (l0.length : Int)) = false := decide_eq_false c3
       clear c3
       by_cases c6 : x4_2 = 1
       ·rw [if_pos c6] at H
        have c6b0 : (x4_2 == 1) = true := beq_iff_eq.mpr c6
        have c6b1 : (x4_2 != 1) = false := bne_eq_false_iff_eq.mpr c6
        clear c6
        as_aux_lemma =>
         have H' := Aside0.mk H
         clear H
         go_wp2
         go_roundg k2
         case measure => have := HK1.out; have := HK2.out; omega
         case rel => exact ⟨(wrap64 (x3_1 + 1)), (by first | rfl | (simp; done) | (simp [*]; done)), H', ⟨by have := HK1.out; have := HK2.out; omega⟩, by repeat (first | exact Drawn0.refl _ | apply Drawn0.step)⟩
       ·rw [if_neg c6] at H
        have c6b0 : (x4_2 == 1) = false := beq_eq_false_iff_ne.mpr c6
        have c6b1 : (x4_2 != 1) = true := bne_iff_ne.mpr c6
        as_aux_lemma =>
         obtain rfl := Option.some.inj H
         go_wp2
         go_ret
         exact ⟨by first | rfl | (simp; done) | (simp [*]; done), by repeat (first | exact Drawn0.refl _ | apply Drawn0.step)⟩
   ·rw [if_neg c2] at H
    have c2b0 : decide (x3_1 < (l0.length : Int)) = false := decide_eq_false c2
    clear c2
    as_aux_lemma =>
     obtain rfl := Option.some.inj H
     go_wp2
     go_ret
     exact ⟨by first | rfl | (simp; done) | (simp [*]; done), by repeat (first | exact Drawn0.refl _ | apply Drawn0.step)⟩

/-! ### athanorlaw25_OrderMixes: function 3 -/
mutual
def athanorlaw25_OrderMixes.j0 : Nat → Int → List Int → Bool → Option (Bool)
 | 0, _, _, _ => none
 | k + 1, x0, x1, x17 => if x17 = true then ((athanorlaw25_awake.f).bind fun t146 => (some t146)) else ((order_Mix.f k x0 x1).bind fun bt147 => (if x0 < 0 then (athanorlaw25_OrderMixes.j1 k x0 x1 bt147.1 bt147.2 true) else (athanorlaw25_OrderMixes.j1 k x0 x1 bt147.1 bt147.2 (decide (x0 > 1024)))))
def athanorlaw25_OrderMixes.j1 : Nat → Int → List Int → List Int → Int → Bool → Option (Bool)
 | 0, _, _, _, _, _ => none
 | k + 1, x0, x1, x5, x6, x30 => if x30 = true then (if x6 = 11 then (if (x5.length : Int) = 0 then ((athanorlaw25_awake.f).bind fun t151 => (some t151)) else (none)) else (none)) else (if x6 = 0 then ((athanorref25_Mix.f k x0 x1).bind fun t152 => ((athanorref03_Same.f k x5 t152).bind fun t155 => (if t155 = true then ((athanorref25_Whole.f k x5).bind fun t156 => (if t156 = true then (if (x5.length : Int) = x0 then ((order_Need.f x0).bind fun t157 => (if t157 = (mx (wrap64 (x0 - 1)) 0) then ((athanorlaw25_awake.f).bind fun t158 => (some t158)) else (none))) else (none)) else (none))) else (none)))) else (none))
end
def athanorlaw25_OrderMixes.f (k : Nat) (a0 : Int) (l1 : List Int) : Option (Bool) := if a0 > 300 then (if a0 ≤ 1024 then (athanorlaw25_OrderMixes.j0 k a0 l1 true) else (athanorlaw25_OrderMixes.j0 k a0 l1 (decide ((l1.length : Int) > 400)))) else (athanorlaw25_OrderMixes.j0 k a0 l1 (decide ((l1.length : Int) > 400)))
theorem athanorlaw25_OrderMixes.mono_l : ∀ k, (∀ y0 y1 y2, LeO (athanorlaw25_OrderMixes.j0 k y0 y1 y2) (athanorlaw25_OrderMixes.j0 (k + 1) y0 y1 y2)) ∧ (∀ y0 y1 y2 y3 y4, LeO (athanorlaw25_OrderMixes.j1 k y0 y1 y2 y3 y4) (athanorlaw25_OrderMixes.j1 (k + 1) y0 y1 y2 y3 y4))
 | 0 => ⟨fun _ _ _ r h => by simp [athanorlaw25_OrderMixes.j0] at h, fun _ _ _ _ _ r h => by simp [athanorlaw25_OrderMixes.j1] at h⟩
 | k + 1 => by
  obtain ⟨ih0, ih1⟩ := athanorlaw25_OrderMixes.mono_l k
  refine ⟨?_, ?_⟩
  ·intro y0 y1 y2
   unfold athanorlaw25_OrderMixes.j0
   repeat' first
   | (with_reducible exact ih0 _ _ _)
   | (with_reducible exact ih1 _ _ _ _ _)
   | (with_reducible exact athanorref03_Same.mono _ _ _)
   | (with_reducible exact athanorref25_Mix.mono _ _ _)
   | (with_reducible exact athanorref25_Whole.mono _ _)
   | (with_reducible exact order_Mix.mono _ _ _)
   | (with_reducible exact LeO.refl _)
   | (with_reducible exact LeO.none _)
   | (with_reducible refine LeO.ite ?_ ?_)
   | (with_reducible refine LeO.bind ?_ (fun _ => ?_))
   | exact ih0 _ _ _
   | exact ih1 _ _ _ _ _
   | exact athanorref03_Same.mono _ _ _
   | exact athanorref25_Mix.mono _ _ _
   | exact athanorref25_Whole.mono _ _
   | exact order_Mix.mono _ _ _
   | exact LeO.none _
   | refine LeO.ite ?_ ?_
   | refine LeO.bind ?_ (fun _ => ?_)
  ·intro y0 y1 y2 y3 y4
   unfold athanorlaw25_OrderMixes.j1
   repeat' first
   | (with_reducible exact ih0 _ _ _)
   | (with_reducible exact ih1 _ _ _ _ _)
   | (with_reducible exact athanorref03_Same.mono _ _ _)
   | (with_reducible exact athanorref25_Mix.mono _ _ _)
   | (with_reducible exact athanorref25_Whole.mono _ _)
   | (with_reducible exact order_Mix.mono _ _ _)
   | (with_reducible exact LeO.refl _)
   | (with_reducible exact LeO.none _)
   | (with_reducible refine LeO.ite ?_ ?_)
   | (with_reducible refine LeO.bind ?_ (fun _ => ?_))
   | exact ih0 _ _ _
   | exact ih1 _ _ _ _ _
   | exact athanorref03_Same.mono _ _ _
   | exact athanorref25_Mix.mono _ _ _
   | exact athanorref25_Whole.mono _ _
   | exact order_Mix.mono _ _ _
   | exact LeO.none _
   | refine LeO.ite ?_ ?_
   | refine LeO.bind ?_ (fun _ => ?_)
theorem athanorlaw25_OrderMixes.mono : ∀ a0 a1 k, LeO (athanorlaw25_OrderMixes.f k a0 a1) (athanorlaw25_OrderMixes.f (k + 1) a0 a1) := by
 intro a0 a1 k
 obtain ⟨ih0, ih1⟩ := athanorlaw25_OrderMixes.mono_l k
 unfold athanorlaw25_OrderMixes.f
 repeat' first
   | (with_reducible exact ih0 _ _ _)
   | (with_reducible exact ih1 _ _ _ _ _)
   | (with_reducible exact athanorref03_Same.mono _ _ _)
   | (with_reducible exact athanorref25_Mix.mono _ _ _)
   | (with_reducible exact athanorref25_Whole.mono _ _)
   | (with_reducible exact order_Mix.mono _ _ _)
   | (with_reducible exact LeO.refl _)
   | (with_reducible exact LeO.none _)
   | (with_reducible refine LeO.ite ?_ ?_)
   | (with_reducible refine LeO.bind ?_ (fun _ => ?_))
   | exact ih0 _ _ _
   | exact ih1 _ _ _ _ _
   | exact athanorref03_Same.mono _ _ _
   | exact athanorref25_Mix.mono _ _ _
   | exact athanorref25_Whole.mono _ _
   | exact order_Mix.mono _ _ _
   | exact LeO.none _
   | refine LeO.ite ?_ ?_
   | refine LeO.bind ?_ (fun _ => ?_)
set_option maxHeartbeats 8000000 in
set_option maxRecDepth 100000 in
theorem athanorlaw25_OrderMixes.calls (k : Nat) (a0 : Int) (A1 : Option Addr) (c1 : Nat) (l1 : List Int) (r : Bool) (w : World) (hr1 : Kd.C (Kd.int .u64) w A1 l1.length l1) (hc1 : l1.length ≤ c1) (h : athanorlaw25_OrderMixes.f k a0 l1 = some r) :
  Calls Try.prog 3 #[.int .i64 a0, .slice A1 l1.length c1] w fun e w' => e = .returned (.bool r) ∧ Below w.heap.size w w' := by
 have HR1 := Aside0.mk hr1
 have HC1 := Aside0.mk hc1
 clear hr1 hc1
 have HB := Aside0.mk (Below.refl w.heap.size w)
 have H : (if a0 > 300 then (if a0 ≤ 1024 then (athanorlaw25_OrderMixes.j0 k a0 l1 true) else (athanorlaw25_OrderMixes.j0 k a0 l1 (decide ((l1.length : Int) > 400)))) else (athanorlaw25_OrderMixes.j0 k a0 l1 (decide ((l1.length : Int) > 400)))) = some r := h
 clear h
 have HC3 := Aside0.mk H
 clear H
 go_enter Try.func3, Try.ntmps3
 go_upto_region 1 with (fail)
 go_cut [17] (fun v17 wc => ∃ (kq : Nat) (x17_2 : Bool), v17 = .bool x17_2 ∧ Aside0 (athanorlaw25_OrderMixes.j0 kq a0 l1 x17_2 = some r) ∧ Aside0 (kq ≤ k) ∧ Aside0 (Below w.heap.size w wc))
 case first =>
  have H := HC3.out
  clear HC3
  by_cases c4 : a0 > 300
  ·rw [if_pos c4] at H
   have c4b0 : decide (300 < a0) = true := decide_eq_true c4
   clear c4
   (first | rw [c4b0] | (simp only [i64_w, i32_w]; rw [c4b0]) | skip)
   by_cases c5 : a0 ≤ 1024
   ·rw [if_pos c5] at H
    have c5b0 : decide (a0 ≤ 1024) = true := decide_eq_true c5
    clear c5
    as_aux_lemma =>
     have H' := Aside0.mk H
     clear H
     go_wp2
     go_meet
     case rel => exact ⟨_, (true), (by first | rfl | (simp; done) | (simp [*]; done)), H', ⟨by first | omega | exact Nat.le_refl _⟩, ⟨by repeat (first | (with_reducible first | exact HB.out | apply below_alloc | apply pw_below_drewN | apply below_drew1) | exact HB.out)⟩⟩
   ·rw [if_neg c5] at H
    have c5b0 : decide (a0 ≤ 1024) = false := decide_eq_false c5
    clear c5
    as_aux_lemma =>
     have H' := Aside0.mk H
     clear H
     go_wp2
     go_meet
     case rel => exact ⟨_, (decide ((l1.length : Int) > 400)), (by first | rfl | (simp; done) | (simp [*]; done)), H', ⟨by first | omega | exact Nat.le_refl _⟩, ⟨by repeat (first | (with_reducible first | exact HB.out | apply below_alloc | apply pw_below_drewN | apply below_drew1) | exact HB.out)⟩⟩
  ·rw [if_neg c4] at H
   have c4b0 : decide (300 < a0) = false := decide_eq_false c4
   clear c4
   (first | rw [c4b0] | (simp only [i64_w, i32_w]; rw [c4b0]) | skip)
   as_aux_lemma =>
    have H' := Aside0.mk H
    clear H
    go_wp2
    go_meet
    case rel => exact ⟨_, (decide ((l1.length : Int) > 400)), (by first | rfl | (simp; done) | (simp [*]; done)), H', ⟨by first | omega | exact Nat.le_refl _⟩, ⟨by repeat (first | (with_reducible first | exact HB.out | apply below_alloc | apply pw_below_drewN | apply below_drew1) | exact HB.out)⟩⟩
 case rest =>
  clear HC3
  (try clear c1); (try clear p2); (try clear c3); (try clear c4); (try clear c4b0); (try clear c5); (try clear c5b0)
  obtain ⟨kq, x17_2, rfl, HA, HJ2, HB⟩ := hcut
  cases kq with
  | zero => exact absurd HA.out (by simp [athanorlaw25_OrderMixes.j0])
  | succ kj2 =>
   have H := HA.out
   clear HA
   simp only [athanorlaw25_OrderMixes.j0] at H
   by_cases c6 : x17_2 = true
   ·subst c6
    have H1 : ((athanorlaw25_awake.f).bind fun t146 => (some t146)) = some r := by rw [if_pos rfl] at H; exact H
    clear H
    have H := H1
    clear H1
    replace H := Option.bind_eq_some_iff.mp H
    obtain ⟨t146, A70, H⟩ := H
    replace H : (some t146) = some r := H
    have A7 := Aside0.mk A70
    clear A70
    as_aux_lemma =>
     obtain rfl := Option.some.inj H
     go_wp2_with (first | ((with_reducible refine gate_callee (f := 8) rfl ?_); refine goesL_ (some 18) rfl rfl Try.func8 (by kernel_rfl) rfl #[] rfl (by (try simp only [List.map_toArray, List.map_cons, List.map_nil]); first | done | rfl | (simp only [List.length_drop, List.length_take]; rfl)) ?_; (with_reducible refine (athanorlaw25_awake.calls  t146 _ A7.out).mono ?_); rintro e w8 ⟨rfl, hb⟩; refine ⟨_, rfl, ?_⟩; have n0_ := Aside0.mk (below_step (by repeat (first | (with_reducible first | exact HB.out | apply below_alloc | apply pw_below_drewN | apply below_drew1) | exact HB.out)) hb); clear HB; have HB := n0_; clear n0_; (try clear hb); (try clear hb2); (try clear hk); (try clear hi)))
     go_ret
     exact ⟨by first | rfl | (simp [errW_none, errW_some] <;> rfl) | (simp [*, errW_none, errW_some] <;> rfl), by repeat (first | (with_reducible first | exact HB.out | apply below_alloc | apply pw_below_drewN | apply below_drew1) | exact HB.out)⟩
   ·replace c6 := Bool.eq_false_iff.mpr c6
    subst c6
    have H1 : ((order_Mix.f kj2 a0 l1).bind fun bt147 => (if a0 < 0 then (athanorlaw25_OrderMixes.j1 kj2 a0 l1 bt147.1 bt147.2 true) else (athanorlaw25_OrderMixes.j1 kj2 a0 l1 bt147.1 bt147.2 (decide (a0 > 1024))))) = some r := by rw [if_neg (show ¬ (false = true) by decide)] at H; exact H
    clear H
    have H := H1
    clear H1
    replace H := Option.bind_eq_some_iff.mp H
    obtain ⟨⟨t147, t148⟩, A90, H⟩ := H
    replace H : (if a0 < 0 then (athanorlaw25_OrderMixes.j1 kj2 a0 l1 t147 t148 true) else (athanorlaw25_OrderMixes.j1 kj2 a0 l1 t147 t148 (decide (a0 > 1024)))) = some r := H
    have A9 := Aside0.mk A90
    clear A90
    have HC10 := Aside0.mk H
    clear H
    go_upto_region 4 with (first | ((with_reducible refine gate_callee (f := 9) rfl ?_); refine goesL_ (some 22) rfl rfl Try.func9 (by kernel_rfl) rfl #[.int .i64 a0, .slice A1 l1.length c1] rfl (by (try simp only [List.map_toArray, List.map_cons, List.map_nil]); first | done | rfl | (simp only [List.length_drop, List.length_take]; rfl)) ?_; (with_reducible refine (order_Mix.calls kj2 a0 _ _ l1 t147 t148 _ ?side1 ?side2 A9.out).mono ?_); (case side1 => repeat (first | exact (Kd.C_below HR1.out HB.out) | (with_reducible refine Kd.C_alloc ?_ _) | (with_reducible refine Kd.C_drewN ?_ _) | (with_reducible refine Kd.C_drew ?_))); (case side2 => exact HC1.out); rintro e w11 ⟨v149, rfl, ho0, hb⟩; refine ⟨_, rfl, ?_⟩; have n0_ := Aside0.mk (Kd.R_lower ho0 (below_size (by repeat (first | (with_reducible first | exact HB.out | apply below_alloc | apply pw_below_drewN | apply below_drew1) | exact HB.out)))); have n1_ := Aside0.mk (below_step (by repeat (first | (with_reducible first | exact HB.out | apply below_alloc | apply pw_below_drewN | apply below_drew1) | exact HB.out)) hb); clear HB; have HO150 := n0_; have HB := n1_; clear n0_ n1_; (try clear hb); (try clear hb2); (try clear hk); (try clear hi); (try clear ho0)))
    (try simp only [Act.put, List.setIfInBounds_toArray, List.set_cons_zero, List.set_cons_succ])
    go_cut [30] (fun v30 wc => ∃ (kq : Nat) (x30_9 : Bool), v30 = .bool x30_9 ∧ Aside0 (athanorlaw25_OrderMixes.j1 kq a0 l1 t147 t148 x30_9 = some r) ∧ Aside0 (kq ≤ kj2) ∧ Aside0 (Kd.R (Kd.int .i64) 3 wc w.heap.size (fun _ => True) v149 t147) ∧ Aside0 (Below w.heap.size w wc))
    case first =>
     have H := HC10.out
     clear HC10
     by_cases c12 : a0 < 0
     ·rw [if_pos c12] at H
      have c12b0 : decide (a0 < 0) = true := decide_eq_true c12
      clear c12
      (first | rw [c12b0] | (simp only [i64_w, i32_w]; rw [c12b0]) | skip)
      as_aux_lemma =>
       have H' := Aside0.mk H
       clear H
       go_wp2
       go_meet
       case rel => exact ⟨_, (true), (by first | rfl | (simp; done) | (simp [*]; done)), H', ⟨by have := HJ2.out; first | omega | exact Nat.le_refl _⟩, ⟨by (with_reducible repeat (first | apply Kd.R_alloc | apply Kd.R_drewN | apply Kd.R_drew)); exact HO150.out⟩, ⟨by repeat (first | (with_reducible first | exact HB.out | apply below_alloc | apply pw_below_drewN | apply below_drew1) | exact HB.out)⟩⟩
     ·rw [if_neg c12] at H
      have c12b0 : decide (a0 < 0) = false := decide_eq_false c12
      clear c12
      (first | rw [c12b0] | (simp only [i64_w, i32_w]; rw [c12b0]) | skip)
      as_aux_lemma =>
       have H' := Aside0.mk H
       clear H
       go_wp2
       go_meet
       case rel => exact ⟨_, (decide (a0 > 1024)), (by first | rfl | (simp; done) | (simp [*]; done)), H', ⟨by have := HJ2.out; first | omega | exact Nat.le_refl _⟩, ⟨by (with_reducible repeat (first | apply Kd.R_alloc | apply Kd.R_drewN | apply Kd.R_drew)); exact HO150.out⟩, ⟨by repeat (first | (with_reducible first | exact HB.out | apply below_alloc | apply pw_below_drewN | apply below_drew1) | exact HB.out)⟩⟩
    case rest =>
     clear HC10
     (try clear c1); (try clear p2); (try clear c3); (try clear c4); (try clear c4b0); (try clear c5); (try clear c5b0); (try clear c6); (try clear c8); (try clear c9); (try clear c12); (try clear c12b0); (try clear p2)
     obtain ⟨kq, x30_9, rfl, HA, HJ9, HO_5, HB⟩ := hcut
     cases kq with
     | zero => exact absurd HA.out (by simp [athanorlaw25_OrderMixes.j1])
     | succ kj9 =>
      have H := HA.out
      clear HA
      simp only [athanorlaw25_OrderMixes.j1] at H
      by_cases c13 : x30_9 = true
      ·subst c13
       have H1 : (if t148 = 11 then (if (t147.length : Int) = 0 then ((athanorlaw25_awake.f).bind fun t151 => (some t151)) else (none)) else (none)) = some r := by rw [if_pos rfl] at H; exact H
       clear H
       have H := H1
       clear H1
       by_cases c14 : t148 = 11
       ·rw [if_pos c14] at H
        have c14b0 : (t148 == 11) = true := beq_iff_eq.mpr c14
        have c14b1 : (t148 != 11) = false := bne_eq_false_iff_eq.mpr c14
        clear c14
        by_cases c15 : (t147.length : Int) = 0
        ·rw [if_pos c15] at H
         have c15b0 : ((t147.length : Int) == 0) = true := beq_iff_eq.mpr c15
         have c15b1 : ((t147.length : Int) != 0) = false := bne_eq_false_iff_eq.mpr c15
         clear c15
         replace H := Option.bind_eq_some_iff.mp H
         obtain ⟨t151, A160, H⟩ := H
         replace H : (some t151) = some r := H
         have A16 := Aside0.mk A160
         clear A160
         as_aux_lemma =>
          obtain rfl := Option.some.inj H
          obtain ⟨Ao17, co17, eo17⟩ := Kd.R_slice HO_5.out
          subst eo17
          go_wp2_with (first | (go_at_call 8; (with_reducible refine (athanorlaw25_awake.calls  t151 _ A16.out).mono ?_); rintro e w18 ⟨rfl, hb⟩; have n0_ := Aside0.mk (Kd.R_below (by (with_reducible repeat (first | apply Kd.R_alloc | apply Kd.R_drewN | apply Kd.R_drew)); exact HO_5.out) hb); have n1_ := Aside0.mk (below_step (by repeat (first | (with_reducible first | exact HB.out | apply below_alloc | apply pw_below_drewN | apply below_drew1) | exact HB.out)) hb); clear HO_5; clear HB; have HO_5 := n0_; have HB := n1_; clear n0_ n1_; (try clear hb); (try clear hb2); (try clear hk); (try clear hi)))
          go_ret
          exact ⟨by first | rfl | (simp [errW_none, errW_some] <;> rfl) | (simp [*, errW_none, errW_some] <;> rfl), by repeat (first | (with_reducible first | exact HB.out | apply below_alloc | apply pw_below_drewN | apply below_drew1) | exact HB.out)⟩
        ·rw [if_neg c15] at H
         exact absurd H (by simp)
       ·rw [if_neg c14] at H
        exact absurd H (by simp)
      ·replace c13 := Bool.eq_false_iff.mpr c13
       subst c13
       have H1 : (if t148 = 0 then ((athanorref25_Mix.f kj9 a0 l1).bind fun t152 => ((athanorref03_Same.f kj9 t147 t152).bind fun t155 => (if t155 = true then ((athanorref25_Whole.f kj9 t147).bind fun t156 => (if t156 = true then (if (t147.length : Int) = a0 then ((order_Need.f a0).bind fun t157 => (if t157 = (mx (wrap64 (a0 - 1)) 0) then ((athanorlaw25_awake.f).bind fun t158 => (some t158)) else (none))) else (none)) else (none))) else (none)))) else (none)) = some r := by rw [if_neg (show ¬ (false = true) by decide)] at H; exact H
       clear H
       have H := H1
       clear H1
       by_cases c19 : t148 = 0
       ·rw [if_pos c19] at H
        have c19b0 : (t148 == 0) = true := beq_iff_eq.mpr c19
        have c19b1 : (t148 != 0) = false := bne_eq_false_iff_eq.mpr c19
        clear c19
        replace H := Option.bind_eq_some_iff.mp H
        obtain ⟨t152, A200, H⟩ := H
        replace H : ((athanorref03_Same.f kj9 t147 t152).bind fun t155 => (if t155 = true then ((athanorref25_Whole.f kj9 t147).bind fun t156 => (if t156 = true then (if (t147.length : Int) = a0 then ((order_Need.f a0).bind fun t157 => (if t157 = (mx (wrap64 (a0 - 1)) 0) then ((athanorlaw25_awake.f).bind fun t158 => (some t158)) else (none))) else (none)) else (none))) else (none))) = some r := H
        have A20 := Aside0.mk A200
        clear A200
        replace H := Option.bind_eq_some_iff.mp H
        obtain ⟨t155, A210, H⟩ := H
        replace H : (if t155 = true then ((athanorref25_Whole.f kj9 t147).bind fun t156 => (if t156 = true then (if (t147.length : Int) = a0 then ((order_Need.f a0).bind fun t157 => (if t157 = (mx (wrap64 (a0 - 1)) 0) then ((athanorlaw25_awake.f).bind fun t158 => (some t158)) else (none))) else (none)) else (none))) else (none)) = some r := H
        have A21 := Aside0.mk A210
        clear A210
        by_cases c22 : t155 = true
        ·subst c22
         have H1 : ((athanorref25_Whole.f kj9 t147).bind fun t156 => (if t156 = true then (if (t147.length : Int) = a0 then ((order_Need.f a0).bind fun t157 => (if t157 = (mx (wrap64 (a0 - 1)) 0) then ((athanorlaw25_awake.f).bind fun t158 => (some t158)) else (none))) else (none)) else (none))) = some r := by rw [if_pos rfl] at H; exact H
         clear H
         have H := H1
         clear H1
         replace H := Option.bind_eq_some_iff.mp H
         obtain ⟨t156, A230, H⟩ := H
         replace H : (if t156 = true then (if (t147.length : Int) = a0 then ((order_Need.f a0).bind fun t157 => (if t157 = (mx (wrap64 (a0 - 1)) 0) then ((athanorlaw25_awake.f).bind fun t158 => (some t158)) else (none))) else (none)) else (none)) = some r := H
         have A23 := Aside0.mk A230
         clear A230
         by_cases c24 : t156 = true
         ·subst c24
          have H1 : (if (t147.length : Int) = a0 then ((order_Need.f a0).bind fun t157 => (if t157 = (mx (wrap64 (a0 - 1)) 0) then ((athanorlaw25_awake.f).bind fun t158 => (some t158)) else (none))) else (none)) = some r := by rw [if_pos rfl] at H; exact H
          clear H
          have H := H1
          clear H1
          by_cases c25 : (t147.length : Int) = a0
          ·rw [if_pos c25] at H
           have c25b0 : ((t147.length : Int) == a0) = true := beq_iff_eq.mpr c25
           have c25b1 : ((t147.length : Int) != a0) = false := bne_eq_false_iff_eq.mpr c25
           clear c25
           replace H := Option.bind_eq_some_iff.mp H
           obtain ⟨t157, A260, H⟩ := H
           replace H : (if t157 = (mx (wrap64 (a0 - 1)) 0) then ((athanorlaw25_awake.f).bind fun t158 => (some t158)) else (none)) = some r := H
           have A26 := Aside0.mk A260
           clear A260
           obtain ⟨ji27, hji27⟩ : ∃ j_ : Int, (mx (wrap64 (a0 - 1)) 0) = j_ := ⟨_, rfl⟩
           replace H : (if t157 = (ji27) then ((athanorlaw25_awake.f).bind fun t158 => (some t158)) else (none)) = some r := by first | (rw [hji27] at H; exact H) | (simp only [hji27] at H ⊢; exact H)
           (try rw [hji27] at A20)
           (try rw [hji27] at A21)
           (try rw [hji27] at A23)
           (try rw [hji27] at A26)
           (try (have hji27l : 0 ≤ ji27 := by (rw [← hji27]; unfold mx; (repeat' split) <;> omega)))
           (try (have hji27m : 0 ≤ ji27 := by omega))
           have hji27_ : (if (wrap64 (a0 - 1)) < 0 then 0 else (wrap64 (a0 - 1))) = ji27 := hji27
           by_cases c28 : t157 = (ji27)
           ·rw [if_pos c28] at H
            have c28b0 : (t157 == (ji27)) = true := beq_iff_eq.mpr c28
            have c28b1 : (t157 != (ji27)) = false := bne_eq_false_iff_eq.mpr c28
            clear c28
            replace H := Option.bind_eq_some_iff.mp H
            obtain ⟨t158, A290, H⟩ := H
            replace H : (some t158) = some r := H
            have A29 := Aside0.mk A290
            clear A290
            as_aux_lemma =>
             obtain rfl := Option.some.inj H
             go_wp2_with (first | (go_at_call 11; (with_reducible refine (athanorref25_Mix.calls kj9 a0 _ _ l1 t152 _ ?side1 ?side2 A20.out).mono ?_); (case side1 => repeat (first | exact (Kd.C_below HR1.out HB.out) | (with_reducible refine Kd.C_alloc ?_ _) | (with_reducible refine Kd.C_drewN ?_ _) | (with_reducible refine Kd.C_drew ?_))); (case side2 => exact HC1.out); rintro e w30 ⟨v153, rfl, ho0, hb⟩; have n0_ := Aside0.mk (Kd.R_elder' (by (with_reducible repeat (first | apply Kd.R_alloc | apply Kd.R_drewN | apply Kd.R_drew)); exact HO_5.out) (Kd.R_base ho0) hb); have n1_ := Aside0.mk (Kd.R_lower (Kd.R_new' ho0 (Kd.R_lt (by (with_reducible repeat (first | apply Kd.R_alloc | apply Kd.R_drewN | apply Kd.R_drew)); exact HO_5.out))) (below_size (by repeat (first | (with_reducible first | exact HB.out | apply below_alloc | apply pw_below_drewN | apply below_drew1) | exact HB.out)))); have n2_ := Aside0.mk (below_step (by repeat (first | (with_reducible first | exact HB.out | apply below_alloc | apply pw_below_drewN | apply below_drew1) | exact HB.out)) hb); clear HO_5; clear HB; have HO_5 := n0_; have HO154 := n1_; have HB := n2_; clear n0_ n1_ n2_; (try clear hb); (try clear hb2); (try clear hk); (try clear hi); (try clear ho0); obtain ⟨Ao31, co31, eo31⟩ := Kd.R_slice HO_5.out; subst eo31; obtain ⟨Ao32, co32, eo32⟩ := Kd.R_slice HO154.out; subst eo32) | (go_at_call 10; (with_reducible refine (athanorref03_Same.calls kj9 _ _ t147 _ _ t152 true _ ?side1 ?side2 ?side3 ?side4 A21.out).mono ?_); (case side1 => repeat (first | exact (Kd.R_reads' HO_5.out).2.2 | (with_reducible refine Kd.C_alloc ?_ _) | (with_reducible refine Kd.C_drewN ?_ _) | (with_reducible refine Kd.C_drew ?_))); (case side2 => exact (Kd.R_reads' HO_5.out).2.1); (case side3 => repeat (first | exact (Kd.R_reads' HO154.out).2.2 | (with_reducible refine Kd.C_alloc ?_ _) | (with_reducible refine Kd.C_drewN ?_ _) | (with_reducible refine Kd.C_drew ?_))); (case side4 => exact (Kd.R_reads' HO154.out).2.1); rintro e w' ⟨rfl, ⟨nd, rfl⟩⟩) | (go_at_call 12; (with_reducible refine (athanorref25_Whole.calls kj9 _ _ t147 true _ ?side1 ?side2 A23.out).mono ?_); (case side1 => repeat (first | exact (Kd.R_reads' HO_5.out).2.2 | (with_reducible refine Kd.C_alloc ?_ _) | (with_reducible refine Kd.C_drewN ?_ _) | (with_reducible refine Kd.C_drew ?_))); (case side2 => exact (Kd.R_reads' HO_5.out).2.1); rintro e w' ⟨rfl, ⟨nd, rfl⟩⟩) | (go_at_call 13; (with_reducible refine (order_Need.calls a0 t157 _ A26.out).mono ?_); rintro e w33 ⟨rfl, hb⟩; have n0_ := Aside0.mk (Kd.R_below (by (with_reducible repeat (first | apply Kd.R_alloc | apply Kd.R_drewN | apply Kd.R_drew)); exact HO_5.out) hb); have n1_ := Aside0.mk (Kd.R_below (by (with_reducible repeat (first | apply Kd.R_alloc | apply Kd.R_drewN | apply Kd.R_drew)); exact HO154.out) hb); have n2_ := Aside0.mk (below_step (by repeat (first | (with_reducible first | exact HB.out | apply below_alloc | apply pw_below_drewN | apply below_drew1) | exact HB.out)) hb); clear HO_5; clear HO154; clear HB; have HO_5 := n0_; have HO154 := n1_; have HB := n2_; clear n0_ n1_ n2_; (try clear hb); (try clear hb2); (try clear hk); (try clear hi)) | (go_at_call 8; (with_reducible refine (athanorlaw25_awake.calls  t158 _ A29.out).mono ?_); rintro e w34 ⟨rfl, hb⟩; have n0_ := Aside0.mk (Kd.R_below (by (with_reducible repeat (first | apply Kd.R_alloc | apply Kd.R_drewN | apply Kd.R_drew)); exact HO_5.out) hb); have n1_ := Aside0.mk (Kd.R_below (by (with_reducible repeat (first | apply Kd.R_alloc | apply Kd.R_drewN | apply Kd.R_drew)); exact HO154.out) hb); have n2_ := Aside0.mk (below_step (by repeat (first | (with_reducible first | exact HB.out | apply below_alloc | apply pw_below_drewN | apply below_drew1) | exact HB.out)) hb); clear HO_5; clear HO154; clear HB; have HO_5 := n0_; have HO154 := n1_; have HB := n2_; clear n0_ n1_ n2_; (try clear hb); (try clear hb2); (try clear hk); (try clear hi)))
             go_ret
             exact ⟨by first | rfl | (simp [errW_none, errW_some] <;> rfl) | (simp only [← hji27]; first | rfl | (simp [errW_none, errW_some] <;> rfl)) | (simp [*, errW_none, errW_some] <;> rfl), by repeat (first | (with_reducible first | exact HB.out | apply below_alloc | apply pw_below_drewN | apply below_drew1) | exact HB.out)⟩
           ·rw [if_neg c28] at H
            exact absurd H (by simp)
          ·rw [if_neg c25] at H
           exact absurd H (by simp)
         ·replace c24 := Bool.eq_false_iff.mpr c24
          subst c24
          have H1 : (none) = some r := by rw [if_neg (show ¬ (false = true) by decide)] at H; exact H
          clear H
          have H := H1
          clear H1
          exact absurd H (by simp)
        ·replace c22 := Bool.eq_false_iff.mpr c22
         subst c22
         have H1 : (none) = some r := by rw [if_neg (show ¬ (false = true) by decide)] at H; exact H
         clear H
         have H := H1
         clear H1
         exact absurd H (by simp)
       ·rw [if_neg c19] at H
        exact absurd H (by simp)

/-- THE ONE PURE STATEMENT of athanorlaw25_OrderMixes: yours. -/
def athanorlaw25_OrderMixes.Pure : Prop := ∀ (a0 : Int) (l1 : List Int), (Lit.int .i64 a0).wf = true → l1.length ≤ maxLen → l1.length * 8 ≤ 140737488351232 → (∀ x ∈ l1, (Lit.int .u64 x).wf = true) → ∃ k, athanorlaw25_OrderMixes.f k a0 l1 = some true
theorem athanorlaw25_OrderMixes.walk (P : athanorlaw25_OrderMixes.Pure) (a0 : Int) (a1 : Option Addr) (len1 cap1 : Nat) (z1 : List Int) (w : World) (w0 : (Lit.int .i64 a0).wf = true) (w1 : (a1 = none ∧ len1 = 0 ∧ cap1 = 0 ∧ z1 = []) ∨ ∃ x, a1 = some x ∧ len1 ≤ cap1 ∧ cap1 ≤ maxLen ∧ z1.length = cap1 ∧ (∀ i, i < z1.length → w.cell? (x.add i) = some (.int .u64 (z1.getD i 0))) ∧ ∀ n ∈ z1, (Lit.int .u64 n).wf = true) (y1 : len1 * 8 ≤ 140737488351232) :
  Calls Try.prog 3 #[.int .i64 a0, .slice a1 len1 cap1] w fun e w' => e = .returned (.bool true) ∧ Below w.heap.size w w' := by
 obtain ⟨l1, rfl, hr1, hm1, hw1, hc1⟩ := ReadsInt.ofRowC w1
 obtain ⟨k, h⟩ := P a0 l1 w0 hm1 y1 hw1
 refine (athanorlaw25_OrderMixes.calls k a0 _ _ l1 true w (Kd.C_of_reads (d := (0 : Int)) (h1 := fun _ => rfl) hr1) hc1 h).mono ?_
 rintro e w' ⟨rfl, hd⟩
 exact ⟨rfl, hd⟩

end Go.Proofs.Ytkbonmhegojfdaa.POrd
