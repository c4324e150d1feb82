-- printed by wip/tools/xp.py of this project (not trusted: Lean checks it)
import Derived.Test.YtmekcfmhaflghaaPTenSx0
import Derived.Test.YtmekcfmhaflghaaPTenSx2
import Derived.Test.YtmekcfmhaflghaaPTenSx4
namespace Go.Proofs.Ytmekcfmhaflghaa.PTenS
open Go.RowKit Go.Proofs.YtmekcfmhaflghaaW.PrintWords Go.Proofs.YtmekcfmhaflghaaW.PrintLast Go.Proofs.YtmekcfmhaflghaaW.PrintMore Go.Proofs.Ytmekcfmhaflghaa.XW
attribute [local go_sem] max2_int min2_int max_two min_two max_three min_three max_four min_four max_five min_five   -- for this text's walks alone
set_option linter.unusedVariables false
set_option linter.unusedSimpArgs false

/-! ### athanorref03_Right: function 16 -/
mutual
def athanorref03_Right.j0 : Nat → List Int → Bool → Option (Bool)
 | 0, _, _ => none
 | k + 1, x0, x12 => if x12 = true then (some false) else (athanorref03_Right.l0 k x0 1 0)
def athanorref03_Right.l0 : Nat → List Int → Int → Int → Option (Bool)
 | 0, _, _, _ => none
 | k + 1, x0, x3, x4 => if x4 < (x0.length : Int) then (if 0 ≤ x4 then (if (rd x0 x4) < 1 then (some false) else (if (rd x0 x4) > 1024 then (some false) else (athanorref03_Right.l0 k x0 (wrap64 (x3 * (rd x0 x4))) (wrap64 (x4 + 1))))) else (none)) else (some (decide (x3 ≤ 65536)))
end
def athanorref03_Right.f (k : Nat) (l0 : List Int) : Option (Bool) := if (l0.length : Int) < 1 then (athanorref03_Right.j0 k l0 true) else (athanorref03_Right.j0 k l0 (decide ((l0.length : Int) > 4)))
theorem athanorref03_Right.mono_l : ∀ k, (∀ y0 y1, LeO (athanorref03_Right.j0 k y0 y1) (athanorref03_Right.j0 (k + 1) y0 y1)) ∧ (∀ y0 y1 y2, LeO (athanorref03_Right.l0 k y0 y1 y2) (athanorref03_Right.l0 (k + 1) y0 y1 y2))
 | 0 => ⟨fun _ _ r h => by simp [athanorref03_Right.j0] at h, fun _ _ _ r h => by simp [athanorref03_Right.l0] at h⟩
 | k + 1 => by
  obtain ⟨ih0, ih1⟩ := athanorref03_Right.mono_l k
  refine ⟨?_, ?_⟩
  ·intro y0 y1
   unfold athanorref03_Right.j0
   repeat' first
   | (with_reducible exact ih0 _ _)
   | (with_reducible exact ih1 _ _ _)
   | (with_reducible exact LeO.refl _)
   | (with_reducible exact LeO.none _)
   | (with_reducible refine LeO.ite ?_ ?_)
   | (with_reducible refine LeO.bind ?_ (fun _ => ?_))
   | exact ih0 _ _
   | exact ih1 _ _ _
   | exact LeO.none _
   | refine LeO.ite ?_ ?_
   | refine LeO.bind ?_ (fun _ => ?_)
  ·intro y0 y1 y2
   unfold athanorref03_Right.l0
   repeat' first
   | (with_reducible exact ih0 _ _)
   | (with_reducible exact ih1 _ _ _)
   | (with_reducible exact LeO.refl _)
   | (with_reducible exact LeO.none _)
   | (with_reducible refine LeO.ite ?_ ?_)
   | (with_reducible refine LeO.bind ?_ (fun _ => ?_))
   | exact ih0 _ _
   | exact ih1 _ _ _
   | exact LeO.none _
   | refine LeO.ite ?_ ?_
   | refine LeO.bind ?_ (fun _ => ?_)
theorem athanorref03_Right.mono : ∀ a0 k, LeO (athanorref03_Right.f k a0) (athanorref03_Right.f (k + 1) a0) := by
 intro a0 k
 obtain ⟨ih0, ih1⟩ := athanorref03_Right.mono_l k
 unfold athanorref03_Right.f
 repeat' first
   | (with_reducible exact ih0 _ _)
   | (with_reducible exact ih1 _ _ _)
   | (with_reducible exact LeO.refl _)
   | (with_reducible exact LeO.none _)
   | (with_reducible refine LeO.ite ?_ ?_)
   | (with_reducible refine LeO.bind ?_ (fun _ => ?_))
   | exact ih0 _ _
   | exact ih1 _ _ _
   | exact LeO.none _
   | refine LeO.ite ?_ ?_
   | refine LeO.bind ?_ (fun _ => ?_)
set_option maxHeartbeats 8000000 in
set_option maxRecDepth 100000 in
theorem athanorref03_Right.calls (k : Nat) (A0 : Option Addr) (c0 : Nat) (l0 : List Int) (r : Bool) (w : World) (hr0 : Kd.C (Kd.int .i64) w A0 l0.length l0) (hc0 : l0.length ≤ c0) (h : athanorref03_Right.f k l0 = some r) :
  Calls Try.prog 16 #[.slice A0 l0.length c0] w fun e w' => e = .returned (.bool r) ∧ Drawn0 w w' := by
 have HR0 := Aside0.mk hr0
 have HC0 := Aside0.mk hc0
 clear hr0 hc0
 have H : (if (l0.length : Int) < 1 then (athanorref03_Right.j0 k l0 true) else (athanorref03_Right.j0 k l0 (decide ((l0.length : Int) > 4)))) = some r := h
 clear h
 have HC2 := Aside0.mk H
 clear H
 go_enter Try.func16, Try.ntmps16
 go_upto_region 1 with (fail)
 go_cut [12] (fun v12 wc => ∃ (kq : Nat) (x12_1 : Bool), v12 = .bool x12_1 ∧ Aside0 (athanorref03_Right.j0 kq l0 x12_1 = some r) ∧ Aside0 (kq ≤ k) ∧ Drawn0 w wc)
 case first =>
  have H := HC2.out
  clear HC2
  by_cases c3 : (l0.length : Int) < 1
  ·rw [if_pos c3] at H
   have c3b0 : decide ((l0.length : Int) < 1) = true := decide_eq_true c3
   have c3b1 : decide (l0.length < 1) = true := decide_eq_true (by omega)
   clear c3
   (first | rw [c3b0] | (simp only [i64_w, i32_w]; rw [c3b0]) | skip)
   as_aux_lemma =>
    have H' := Aside0.mk H
    clear H
    go_wp2
    go_meet
    case rel => exact ⟨_, (true), (by first | rfl | (simp; done) | (simp [*]; done)), H', ⟨by first | omega|exact Nat.le_refl _⟩, by repeat (first|exact Drawn0.refl _|apply Drawn0.step)⟩
  ·rw [if_neg c3] at H
   have c3b0 : decide ((l0.length : Int) < 1) = false := decide_eq_false c3
   have c3b1 : decide (l0.length < 1) = false := decide_eq_false (by omega)
   clear c3
   (first | rw [c3b0] | (simp only [i64_w, i32_w]; rw [c3b0]) | skip)
   as_aux_lemma =>
    have H' := Aside0.mk H
    clear H
    go_wp2
    go_meet
    case rel => exact ⟨_, (decide ((l0.length : Int) > 4)), (by first | rfl | (simp; done) | (simp [*]; done)), H', ⟨by first | omega|exact Nat.le_refl _⟩, by repeat (first|exact Drawn0.refl _|apply Drawn0.step)⟩
 case rest =>
  clear HC2
  (try clear c3); (try clear c3b0); (try clear c3b1)
  obtain ⟨kq, x12_1, rfl, HA, HJ1, ⟨mc1, rfl⟩⟩ := hcut
  cases kq with
  | zero => exact absurd HA.out (by simp [athanorref03_Right.j0])
  | succ kj1 =>
   have H := HA.out
   clear HA
   simp only [athanorref03_Right.j0] at H
   by_cases c4 : x12_1 = true
   ·subst c4
    have H1 : (some false) = some r := by rw [if_pos rfl] at H; exact H
    clear H
    have H := H1
    clear H1
    as_aux_lemma =>
     obtain rfl := Option.some.inj H
     go_wp2
     go_ret
     exact ⟨by first | rfl | (simp; done) | (simp [*]; done), by repeat (first|exact Drawn0.refl _|apply Drawn0.step)⟩
   ·replace c4 := Bool.eq_false_iff.mpr c4
    subst c4
    have H1 : (athanorref03_Right.l0 kj1 l0 1 0) = some r := by rw [if_neg (show ¬ (false = true) by decide)] at H; exact H
    clear H
    have H := H1
    clear H1
    have H' := Aside0.mk H
    clear H
    go_wp2
    go_loopg [3, 4] kj1 (fun kq v3 v4 w' => ∃ (x3_2 : Int) (x4_2 : Int), v3 = .int .i64 x3_2 ∧ v4 = .int .i64 x4_2 ∧ Aside0 (athanorref03_Right.l0 kq l0 x3_2 x4_2 = some r) ∧ Aside0 (kq ≤ kj1) ∧ Drawn0 w w')
    case atStart => exact ⟨(1), (0), (by first | rfl | (simp; done) | (simp [*]; done)), (by first | rfl | (simp; done) | (simp [*]; done)), H', ⟨Nat.le_refl _⟩, by repeat (first|exact Drawn0.refl _|apply Drawn0.step)⟩
    case round =>
     clear H'
     (try clear c3); (try clear c3b0); (try clear c3b1); (try clear c4)
     obtain ⟨x3_2, x4_2, rfl, rfl, HA, HK2, ⟨m2, rfl⟩⟩ := hrel
     cases gk with
     | zero => exact absurd HA.out (by simp [athanorref03_Right.l0])
     | succ k2 =>
      have H := HA.out
      clear HA
      simp only [athanorref03_Right.l0] at H
      by_cases c5 : x4_2 < (l0.length : Int)
      ·rw [if_pos c5] at H
       have c5b0 : decide (x4_2 < (l0.length : Int)) = true := decide_eq_true c5
       clear c5
       by_cases c6 : 0 ≤ x4_2
       ·rw [if_pos c6] at H
        have c6b0 : decide (0 ≤ x4_2) = true := decide_eq_true c6
        clear c6
        by_cases c7 : (rd l0 x4_2) < 1
        ·rw [if_pos c7] at H
         have c7b0 : decide ((rd l0 x4_2) < 1) = true := decide_eq_true c7
         clear c7
         as_aux_lemma =>
          obtain rfl := Option.some.inj H
          have p267 : 0 ≤ (x4_2 : Int) := of_decide_eq_true (by first | (with_reducible assumption) | assumption)
          have q267 : x4_2 < (l0.length : Int) := of_decide_eq_true (by first | (with_reducible assumption) | assumption)
          obtain ⟨ad267, e267, hx267_0⟩ := Kd.at_int HR0.out x4_2 p267 q267
          cases e267
          replace p267 := eq_true p267
          replace q267 := eq_true q267
          go_wp2
          go_ret
          exact ⟨by first | rfl | (simp; done) | (simp [*]; done), by repeat (first|exact Drawn0.refl _|apply Drawn0.step)⟩
        ·rw [if_neg c7] at H
         have c7b0 : decide ((rd l0 x4_2) < 1) = false := decide_eq_false c7
         clear c7
         by_cases c8 : (rd l0 x4_2) > 1024
         ·rw [if_pos c8] at H
          have c8b0 : decide (1024 < (rd l0 x4_2)) = true := decide_eq_true c8
          clear c8
          as_aux_lemma =>
           obtain rfl := Option.some.inj H
           have p267 : 0 ≤ (x4_2 : Int) := of_decide_eq_true (by first | (with_reducible assumption) | assumption)
           have q267 : x4_2 < (l0.length : Int) := of_decide_eq_true (by first | (with_reducible assumption) | assumption)
           obtain ⟨ad267, e267, hx267_0⟩ := Kd.at_int HR0.out x4_2 p267 q267
           cases e267
           replace p267 := eq_true p267
           replace q267 := eq_true q267
           have p268 : 0 ≤ (x4_2 : Int) := of_decide_eq_true (by first | (with_reducible assumption) | assumption)
           have q268 : x4_2 < (l0.length : Int) := of_decide_eq_true (by first | (with_reducible assumption) | assumption)
           obtain ⟨ad268, e268, hx268_0⟩ := Kd.at_int HR0.out x4_2 p268 q268
           obtain rfl : ad267 = ad268 := (by injection e268)
           replace p268 := eq_true p268
           replace q268 := eq_true q268
           go_wp2
           go_ret
           exact ⟨by first | rfl | (simp; done) | (simp [*]; done), by repeat (first|exact Drawn0.refl _|apply Drawn0.step)⟩
         ·rw [if_neg c8] at H
          have c8b0 : decide (1024 < (rd l0 x4_2)) = false := decide_eq_false c8
          clear c8
          as_aux_lemma =>
           have H' := Aside0.mk H
           clear H
           have p267 : 0 ≤ (x4_2 : Int) := of_decide_eq_true (by first | (with_reducible assumption) | assumption)
           have q267 : x4_2 < (l0.length : Int) := of_decide_eq_true (by first | (with_reducible assumption) | assumption)
           obtain ⟨ad267, e267, hx267_0⟩ := Kd.at_int HR0.out x4_2 p267 q267
           cases e267
           replace p267 := eq_true p267
           replace q267 := eq_true q267
           have p268 : 0 ≤ (x4_2 : Int) := of_decide_eq_true (by first | (with_reducible assumption) | assumption)
           have q268 : x4_2 < (l0.length : Int) := of_decide_eq_true (by first | (with_reducible assumption) | assumption)
           obtain ⟨ad268, e268, hx268_0⟩ := Kd.at_int HR0.out x4_2 p268 q268
           obtain rfl : ad267 = ad268 := (by injection e268)
           replace p268 := eq_true p268
           replace q268 := eq_true q268
           have p269 : 0 ≤ (x4_2 : Int) := of_decide_eq_true (by first | (with_reducible assumption) | assumption)
           have q269 : x4_2 < (l0.length : Int) := of_decide_eq_true (by first | (with_reducible assumption) | assumption)
           obtain ⟨ad269, e269, hx269_0⟩ := Kd.at_int HR0.out x4_2 p269 q269
           obtain rfl : ad267 = ad269 := (by injection e269)
           replace p269 := eq_true p269
           replace q269 := eq_true q269
           go_wp2
           go_roundg k2
           case measure => have := HJ1.out; have := HK2.out; omega
           case rel => exact ⟨(wrap64 (x3_2 * (rd l0 x4_2))), (wrap64 (x4_2 + 1)), (by first | rfl | (simp; done) | (simp [*]; done)), (by first | rfl | (simp; done) | (simp [*]; done)), H', ⟨by have := HJ1.out; have := HK2.out; omega⟩, by repeat (first|exact Drawn0.refl _|apply Drawn0.step)⟩
       ·rw [if_neg c6] at H
        exact absurd H (by simp)
      ·rw [if_neg c5] at H
       have c5b0 : decide (x4_2 < (l0.length : Int)) = false := decide_eq_false c5
       clear c5
       as_aux_lemma =>
        obtain rfl := Option.some.inj H
        go_wp2
        go_ret
        exact ⟨by first | rfl | (simp; done) | (simp [*]; done), by repeat (first|exact Drawn0.refl _|apply Drawn0.step)⟩

/-! ### athanorref03_Size: function 17 -/
def athanorref03_Size.l0 : Nat → List Int → Int → Int → Option (Int)
 | 0, _, _, _ => none
 | k + 1, x0, x3, x4 => if x4 < (x0.length : Int) then (if 0 ≤ x4 then (athanorref03_Size.l0 k x0 (wrap64 (x3 * (rd x0 x4))) (wrap64 (x4 + 1))) else (none)) else (some x3)
def athanorref03_Size.f (k : Nat) (l0 : List Int) : Option (Int) := athanorref03_Size.l0 k l0 1 0
theorem athanorref03_Size.mono_l : ∀ k, (∀ y0 y1 y2, LeO (athanorref03_Size.l0 k y0 y1 y2) (athanorref03_Size.l0 (k + 1) y0 y1 y2))
 | 0 => fun _ _ _ r h => by simp [athanorref03_Size.l0] at h
 | k + 1 => by
  have ih0 := athanorref03_Size.mono_l k
  ·intro y0 y1 y2
   unfold athanorref03_Size.l0
   repeat' first
   | (with_reducible exact ih0 _ _ _)
   | (with_reducible exact LeO.refl _)
   | (with_reducible exact LeO.none _)
   | (with_reducible refine LeO.ite ?_ ?_)
   | (with_reducible refine LeO.bind ?_ (fun _ => ?_))
   | exact ih0 _ _ _
   | exact LeO.none _
   | refine LeO.ite ?_ ?_
   | refine LeO.bind ?_ (fun _ => ?_)
theorem athanorref03_Size.mono : ∀ a0 k, LeO (athanorref03_Size.f k a0) (athanorref03_Size.f (k + 1) a0) := by
 intro a0 k
 have ih0 := athanorref03_Size.mono_l k
 unfold athanorref03_Size.f
 repeat' first
   | (with_reducible exact ih0 _ _ _)
   | (with_reducible exact LeO.refl _)
   | (with_reducible exact LeO.none _)
   | (with_reducible refine LeO.ite ?_ ?_)
   | (with_reducible refine LeO.bind ?_ (fun _ => ?_))
   | exact ih0 _ _ _
   | exact LeO.none _
   | refine LeO.ite ?_ ?_
   | refine LeO.bind ?_ (fun _ => ?_)
set_option maxHeartbeats 8000000 in
set_option maxRecDepth 100000 in
theorem athanorref03_Size.calls (k : Nat) (A0 : Option Addr) (c0 : Nat) (l0 : List Int) (r : Int) (w : World) (hr0 : Kd.C (Kd.int .i64) w A0 l0.length l0) (hc0 : l0.length ≤ c0) (h : athanorref03_Size.f k l0 = some r) :
  Calls Try.prog 17 #[.slice A0 l0.length c0] w fun e w' => e = .returned (.int .i64 r) ∧ Drawn0 w w' := by
 have HR0 := Aside0.mk hr0
 have HC0 := Aside0.mk hc0
 clear hr0 hc0
 have H : (athanorref03_Size.l0 k l0 1 0) = some r := h
 clear h
 have H' := Aside0.mk H
 clear H
 go_enter Try.func17, Try.ntmps17
 go_wp2
 go_loopg [3, 4] k (fun kq v3 v4 w' => ∃ (x3_1 : Int) (x4_1 : Int), v3 = .int .i64 x3_1 ∧ v4 = .int .i64 x4_1 ∧ Aside0 (athanorref03_Size.l0 kq l0 x3_1 x4_1 = some r) ∧ Aside0 (kq ≤ k) ∧ Drawn0 w w')
 case atStart => exact ⟨(1), (0), (by first | rfl | (simp; done) | (simp [*]; done)), (by first | rfl | (simp; done) | (simp [*]; done)), H', ⟨Nat.le_refl _⟩, by repeat (first|exact Drawn0.refl _|apply Drawn0.step)⟩
 case round =>
  clear H'
  try clear c1
  obtain ⟨x3_1, x4_1, rfl, rfl, HA, HK1, ⟨m1, rfl⟩⟩ := hrel
  cases gk with
  | zero => exact absurd HA.out (by simp [athanorref03_Size.l0])
  | succ k1 =>
   have H := HA.out
   clear HA
   simp only [athanorref03_Size.l0] at H
   by_cases c2 : x4_1 < (l0.length : Int)
   ·rw [if_pos c2] at H
    have c2b0 : decide (x4_1 < (l0.length : Int)) = true := decide_eq_true c2
    clear c2
    by_cases c3 : 0 ≤ x4_1
    ·rw [if_pos c3] at H
     have c3b0 : decide (0 ≤ x4_1) = true := decide_eq_true c3
     clear c3
     as_aux_lemma =>
      have H' := Aside0.mk H
      clear H
      have p270 : 0 ≤ (x4_1 : Int) := of_decide_eq_true (by first | (with_reducible assumption) | assumption)
      have q270 : x4_1 < (l0.length : Int) := of_decide_eq_true (by first | (with_reducible assumption) | assumption)
      obtain ⟨ad270, e270, hx270_0⟩ := Kd.at_int HR0.out x4_1 p270 q270
      cases e270
      replace p270 := eq_true p270
      replace q270 := eq_true q270
      go_wp2
      go_roundg k1
      case measure => have := HK1.out; omega
      case rel => exact ⟨(wrap64 (x3_1 * (rd l0 x4_1))), (wrap64 (x4_1 + 1)), (by first | rfl | (simp; done) | (simp [*]; done)), (by first | rfl | (simp; done) | (simp [*]; done)), H', ⟨by have := HK1.out; omega⟩, by repeat (first|exact Drawn0.refl _|apply Drawn0.step)⟩
    ·rw [if_neg c3] at H
     exact absurd H (by simp)
   ·rw [if_neg c2] at H
    have c2b0 : decide (x4_1 < (l0.length : Int)) = false := decide_eq_false c2
    clear c2
    as_aux_lemma =>
     obtain rfl := Option.some.inj H
     go_wp2
     go_ret
     exact ⟨by first | rfl | (simp; done) | (simp [*]; done), by repeat (first|exact Drawn0.refl _|apply Drawn0.step)⟩

/-! ### athanorlaw04_right: function 14 -/
def athanorlaw04_right.f (k : Nat) (l0_0 : List Int) (l0_1 : List Int) : Option (Bool) := (athanorref03_Right.f k l0_0).bind fun t272 => (if t272 = true then ((athanorref03_Size.f k l0_0).bind fun t273 => (some ((l0_1.length : Int) == t273))) else (some false))
theorem athanorlaw04_right.mono : ∀ a0 a1 k, LeO (athanorlaw04_right.f k a0 a1) (athanorlaw04_right.f (k + 1) a0 a1) := by
 intro a0 a1 k
 unfold athanorlaw04_right.f
 repeat' first
   | (with_reducible exact athanorref03_Right.mono _ _)
   | (with_reducible exact athanorref03_Size.mono _ _)
   | (with_reducible exact LeO.refl _)
   | (with_reducible exact LeO.none _)
   | (with_reducible refine LeO.ite ?_ ?_)
   | (with_reducible refine LeO.bind ?_ (fun _ => ?_))
   | exact athanorref03_Right.mono _ _
   | exact athanorref03_Size.mono _ _
   | exact LeO.none _
   | refine LeO.ite ?_ ?_
   | refine LeO.bind ?_ (fun _ => ?_)
set_option maxHeartbeats 8000000 in
set_option maxRecDepth 100000 in
theorem athanorlaw04_right.calls (k : Nat) (A0_0 : Option Addr) (c0_0 : Nat) (l0_0 : List Int) (A0_1 : Option Addr) (c0_1 : Nat) (l0_1 : List Int) (r : Bool) (w : World) (hr0_0 : Kd.C (Kd.int .i64) w A0_0 l0_0.length l0_0) (hc0_0 : l0_0.length ≤ c0_0) (hr0_1 : Kd.C (Kd.int .i64) w A0_1 l0_1.length l0_1) (hc0_1 : l0_1.length ≤ c0_1) (h : athanorlaw04_right.f k l0_0 l0_1 = some r) :
  Calls Try.prog 14 #[.agg #[.slice A0_0 l0_0.length c0_0, .slice A0_1 l0_1.length c0_1]] w fun e w' => e = .returned (.bool r) ∧ Below w.heap.size w w' := by
 have hu26 := Try.underlying26
 have HR0_0 := Aside0.mk hr0_0
 have HC0_0 := Aside0.mk hc0_0
 clear hr0_0 hc0_0
 have HR0_1 := Aside0.mk hr0_1
 have HC0_1 := Aside0.mk hc0_1
 clear hr0_1 hc0_1
 have HB := aM (Below.refl w.heap.size w)
 have H : ((athanorref03_Right.f k l0_0).bind fun t272 => (if t272 = true then ((athanorref03_Size.f k l0_0).bind fun t273 => (some ((l0_1.length : Int) == t273))) else (some false))) = some r := h
 clear h
 replace H := Option.bind_eq_some_iff.mp H
 obtain ⟨t272, A20, H⟩ := H
 replace H : (if t272 = true then ((athanorref03_Size.f k l0_0).bind fun t273 => (some ((l0_1.length : Int) == t273))) else (some false)) = some r := H
 have A2 := Aside0.mk A20
 clear A20
 by_cases c3 : t272 = true
 ·subst c3
  have H1 : ((athanorref03_Size.f k l0_0).bind fun t273 => (some ((l0_1.length : Int) == t273))) = some r := by rw [if_pos rfl] at H; exact H
  clear H
  have H := H1
  clear H1
  replace H := Option.bind_eq_some_iff.mp H
  obtain ⟨t273, A40, H⟩ := H
  replace H : (some ((l0_1.length : Int) == t273)) = some r := H
  have A4 := Aside0.mk A40
  clear A40
  as_aux_lemma =>
   obtain rfl := Option.some.inj H
   go_enter Try.func14, Try.ntmps14
   go_wp2_with (first | ((with_reducible refine gate_dst (N := 1) rfl ?_); (try (refine gate_guard (by rfl) ?_; dsimp only)); refine box_event ?hg (N := 1) ?hd (cs := #[.slice A0_0 l0_0.length c0_0, .slice A0_1 l0_1.length c0_1]) (t := 26) ?hr ?_; (case hd => rfl); (case hg => rfl); (case hr => first | (go_simp; done) | (go_simp; rfl)); intro gb271 hg w5 hbox hb; have n0_ := aM (below_step (by repeat (first | (with_reducible first|exact HB.out|apply bA|apply bN|apply bD)|exact HB.out)) hb); have n1_ := aM (hbox); have n2_ := aM ((by rw [hg]; exact (below_size (by repeat (first | (with_reducible first|exact HB.out|apply bA|apply bN|apply bD)|exact HB.out))) : w.heap.size ≤ gb271)); have n3_ := aM ((by rw [hg]; exact (below_size (by repeat (first | (with_reducible first|exact HB.out|apply bA|apply bN|apply bD)|exact HB.out))) : w.heap.size ≤ gb271)); clear HB; have HB := n0_; have BK271 := n1_; have GW271 := n2_; have GE271 := n3_; clear n0_ n1_ n2_ n3_; clear hb hbox hg; have hcz6_0 : w5.cell? ⟨gb271, 0, none⟩ = some (.slice A0_0 l0_0.length c0_0) := (blk_cell BK271.out 0).trans rfl; have hcz6_1 : w5.cell? ⟨gb271, 1, none⟩ = some (.slice A0_1 l0_1.length c0_1) := (blk_cell BK271.out 1).trans rfl; have hfz6_0 := blk_frozen BK271.out 0; have hfz6_1 := blk_frozen BK271.out 1) | (go_at_call 16; (with_reducible refine (athanorref03_Right.calls k _ _ l0_0 true _ ?side1 ?side2 A2.out).mono ?_); (case side1 => repeat (first|exact (Kd.C_below HR0_0.out HB.out) | with_reducible first|apply cA|apply cN|apply cD)); (case side2 => exact HC0_0.out); rintro e w' ⟨rfl, ⟨nd, rfl⟩⟩; (try first|exact ⟨rfl, _, World.drewN_drewN _ _ _⟩|exact ⟨rfl, _, Eq.trans (World.drewN_drewN _ _ _) (congrArg (World.drewN _) (Nat.add_assoc _ _ _))⟩)) | (go_at_call 17; (with_reducible refine (athanorref03_Size.calls k _ _ l0_0 t273 _ ?side1 ?side2 A4.out).mono ?_); (case side1 => repeat (first|exact (Kd.C_below HR0_0.out (by repeat (first | (with_reducible first|exact HB.out|apply bA|apply bN|apply bD|refine bS ?_ GE271.out)|exact HB.out))) | with_reducible first|apply cA|apply cN|apply cD)); (case side2 => exact HC0_0.out); rintro e w' ⟨rfl, ⟨nd, rfl⟩⟩; (try first|exact ⟨rfl, _, World.drewN_drewN _ _ _⟩|exact ⟨rfl, _, Eq.trans (World.drewN_drewN _ _ _) (congrArg (World.drewN _) (Nat.add_assoc _ _ _))⟩)))
   repeat (go_quiet (first | ((with_reducible refine gate_dst (N := 1) rfl ?_); (try (refine gate_guard (by rfl) ?_; dsimp only)); refine box_event ?hg (N := 1) ?hd (cs := #[.slice A0_0 l0_0.length c0_0, .slice A0_1 l0_1.length c0_1]) (t := 26) ?hr ?_; (case hd => rfl); (case hg => rfl); (case hr => first | (go_simp; done) | (go_simp; rfl)); intro gb271 hg w5 hbox hb; have n0_ := aM (below_step (by repeat (first | (with_reducible first|exact HB.out|apply bA|apply bN|apply bD)|exact HB.out)) hb); have n1_ := aM (hbox); have n2_ := aM ((by rw [hg]; exact (below_size (by repeat (first | (with_reducible first|exact HB.out|apply bA|apply bN|apply bD)|exact HB.out))) : w.heap.size ≤ gb271)); have n3_ := aM ((by rw [hg]; exact (below_size (by repeat (first | (with_reducible first|exact HB.out|apply bA|apply bN|apply bD)|exact HB.out))) : w.heap.size ≤ gb271)); clear HB; have HB := n0_; have BK271 := n1_; have GW271 := n2_; have GE271 := n3_; clear n0_ n1_ n2_ n3_; clear hb hbox hg; have hcz6_0 : w5.cell? ⟨gb271, 0, none⟩ = some (.slice A0_0 l0_0.length c0_0) := (blk_cell BK271.out 0).trans rfl; have hcz6_1 : w5.cell? ⟨gb271, 1, none⟩ = some (.slice A0_1 l0_1.length c0_1) := (blk_cell BK271.out 1).trans rfl; have hfz6_0 := blk_frozen BK271.out 0; have hfz6_1 := blk_frozen BK271.out 1) | (go_at_call 16; (with_reducible refine (athanorref03_Right.calls k _ _ l0_0 true _ ?side1 ?side2 A2.out).mono ?_); (case side1 => repeat (first|exact (Kd.C_below HR0_0.out HB.out) | with_reducible first|apply cA|apply cN|apply cD)); (case side2 => exact HC0_0.out); rintro e w' ⟨rfl, ⟨nd, rfl⟩⟩; (try first|exact ⟨rfl, _, World.drewN_drewN _ _ _⟩|exact ⟨rfl, _, Eq.trans (World.drewN_drewN _ _ _) (congrArg (World.drewN _) (Nat.add_assoc _ _ _))⟩)) | (go_at_call 17; (with_reducible refine (athanorref03_Size.calls k _ _ l0_0 t273 _ ?side1 ?side2 A4.out).mono ?_); (case side1 => repeat (first|exact (Kd.C_below HR0_0.out (by repeat (first | (with_reducible first|exact HB.out|apply bA|apply bN|apply bD|refine bS ?_ GE271.out)|exact HB.out))) | with_reducible first|apply cA|apply cN|apply cD)); (case side2 => exact HC0_0.out); rintro e w' ⟨rfl, ⟨nd, rfl⟩⟩; (try first|exact ⟨rfl, _, World.drewN_drewN _ _ _⟩|exact ⟨rfl, _, Eq.trans (World.drewN_drewN _ _ _) (congrArg (World.drewN _) (Nat.add_assoc _ _ _))⟩))); try go_wp2_with (first | ((with_reducible refine gate_dst (N := 1) rfl ?_); (try (refine gate_guard (by rfl) ?_; dsimp only)); refine box_event ?hg (N := 1) ?hd (cs := #[.slice A0_0 l0_0.length c0_0, .slice A0_1 l0_1.length c0_1]) (t := 26) ?hr ?_; (case hd => rfl); (case hg => rfl); (case hr => first | (go_simp; done) | (go_simp; rfl)); intro gb271 hg w5 hbox hb; have n0_ := aM (below_step (by repeat (first | (with_reducible first|exact HB.out|apply bA|apply bN|apply bD)|exact HB.out)) hb); have n1_ := aM (hbox); have n2_ := aM ((by rw [hg]; exact (below_size (by repeat (first | (with_reducible first|exact HB.out|apply bA|apply bN|apply bD)|exact HB.out))) : w.heap.size ≤ gb271)); have n3_ := aM ((by rw [hg]; exact (below_size (by repeat (first | (with_reducible first|exact HB.out|apply bA|apply bN|apply bD)|exact HB.out))) : w.heap.size ≤ gb271)); clear HB; have HB := n0_; have BK271 := n1_; have GW271 := n2_; have GE271 := n3_; clear n0_ n1_ n2_ n3_; clear hb hbox hg; have hcz6_0 : w5.cell? ⟨gb271, 0, none⟩ = some (.slice A0_0 l0_0.length c0_0) := (blk_cell BK271.out 0).trans rfl; have hcz6_1 : w5.cell? ⟨gb271, 1, none⟩ = some (.slice A0_1 l0_1.length c0_1) := (blk_cell BK271.out 1).trans rfl; have hfz6_0 := blk_frozen BK271.out 0; have hfz6_1 := blk_frozen BK271.out 1) | (go_at_call 16; (with_reducible refine (athanorref03_Right.calls k _ _ l0_0 true _ ?side1 ?side2 A2.out).mono ?_); (case side1 => repeat (first|exact (Kd.C_below HR0_0.out HB.out) | with_reducible first|apply cA|apply cN|apply cD)); (case side2 => exact HC0_0.out); rintro e w' ⟨rfl, ⟨nd, rfl⟩⟩; (try first|exact ⟨rfl, _, World.drewN_drewN _ _ _⟩|exact ⟨rfl, _, Eq.trans (World.drewN_drewN _ _ _) (congrArg (World.drewN _) (Nat.add_assoc _ _ _))⟩)) | (go_at_call 17; (with_reducible refine (athanorref03_Size.calls k _ _ l0_0 t273 _ ?side1 ?side2 A4.out).mono ?_); (case side1 => repeat (first|exact (Kd.C_below HR0_0.out (by repeat (first | (with_reducible first|exact HB.out|apply bA|apply bN|apply bD|refine bS ?_ GE271.out)|exact HB.out))) | with_reducible first|apply cA|apply cN|apply cD)); (case side2 => exact HC0_0.out); rintro e w' ⟨rfl, ⟨nd, rfl⟩⟩; (try first|exact ⟨rfl, _, World.drewN_drewN _ _ _⟩|exact ⟨rfl, _, Eq.trans (World.drewN_drewN _ _ _) (congrArg (World.drewN _) (Nat.add_assoc _ _ _))⟩))))
   go_ret
   exact ⟨by first | rfl | (simp [errW_none, errW_some] <;> rfl) | (simp [*, errW_none, errW_some] <;> rfl), by repeat (first | (with_reducible first|exact HB.out|apply bA|apply bN|apply bD|refine bS ?_ GE271.out)|exact HB.out)⟩
 ·replace c3 := Bool.eq_false_iff.mpr c3
  subst c3
  have H1 : (some false) = some r := by rw [if_neg (show ¬ (false = true) by decide)] at H; exact H
  clear H
  have H := H1
  clear H1
  as_aux_lemma =>
   obtain rfl := Option.some.inj H
   go_enter Try.func14, Try.ntmps14
   go_wp2_with (first | ((with_reducible refine gate_dst (N := 1) rfl ?_); (try (refine gate_guard (by rfl) ?_; dsimp only)); refine box_event ?hg (N := 1) ?hd (cs := #[.slice A0_0 l0_0.length c0_0, .slice A0_1 l0_1.length c0_1]) (t := 26) ?hr ?_; (case hd => rfl); (case hg => rfl); (case hr => first | (go_simp; done) | (go_simp; rfl)); intro gb271 hg w7 hbox hb; have n0_ := aM (below_step (by repeat (first | (with_reducible first|exact HB.out|apply bA|apply bN|apply bD)|exact HB.out)) hb); have n1_ := aM (hbox); have n2_ := aM ((by rw [hg]; exact (below_size (by repeat (first | (with_reducible first|exact HB.out|apply bA|apply bN|apply bD)|exact HB.out))) : w.heap.size ≤ gb271)); have n3_ := aM ((by rw [hg]; exact (below_size (by repeat (first | (with_reducible first|exact HB.out|apply bA|apply bN|apply bD)|exact HB.out))) : w.heap.size ≤ gb271)); clear HB; have HB := n0_; have BK271 := n1_; have GW271 := n2_; have GE271 := n3_; clear n0_ n1_ n2_ n3_; clear hb hbox hg; have hcz8_0 : w7.cell? ⟨gb271, 0, none⟩ = some (.slice A0_0 l0_0.length c0_0) := (blk_cell BK271.out 0).trans rfl; have hcz8_1 : w7.cell? ⟨gb271, 1, none⟩ = some (.slice A0_1 l0_1.length c0_1) := (blk_cell BK271.out 1).trans rfl; have hfz8_0 := blk_frozen BK271.out 0; have hfz8_1 := blk_frozen BK271.out 1) | (go_at_call 16; (with_reducible refine (athanorref03_Right.calls k _ _ l0_0 false _ ?side1 ?side2 A2.out).mono ?_); (case side1 => repeat (first|exact (Kd.C_below HR0_0.out HB.out) | with_reducible first|apply cA|apply cN|apply cD)); (case side2 => exact HC0_0.out); rintro e w' ⟨rfl, ⟨nd, rfl⟩⟩; (try first|exact ⟨rfl, _, World.drewN_drewN _ _ _⟩|exact ⟨rfl, _, Eq.trans (World.drewN_drewN _ _ _) (congrArg (World.drewN _) (Nat.add_assoc _ _ _))⟩)))
   repeat (go_quiet (first | ((with_reducible refine gate_dst (N := 1) rfl ?_); (try (refine gate_guard (by rfl) ?_; dsimp only)); refine box_event ?hg (N := 1) ?hd (cs := #[.slice A0_0 l0_0.length c0_0, .slice A0_1 l0_1.length c0_1]) (t := 26) ?hr ?_; (case hd => rfl); (case hg => rfl); (case hr => first | (go_simp; done) | (go_simp; rfl)); intro gb271 hg w7 hbox hb; have n0_ := aM (below_step (by repeat (first | (with_reducible first|exact HB.out|apply bA|apply bN|apply bD)|exact HB.out)) hb); have n1_ := aM (hbox); have n2_ := aM ((by rw [hg]; exact (below_size (by repeat (first | (with_reducible first|exact HB.out|apply bA|apply bN|apply bD)|exact HB.out))) : w.heap.size ≤ gb271)); have n3_ := aM ((by rw [hg]; exact (below_size (by repeat (first | (with_reducible first|exact HB.out|apply bA|apply bN|apply bD)|exact HB.out))) : w.heap.size ≤ gb271)); clear HB; have HB := n0_; have BK271 := n1_; have GW271 := n2_; have GE271 := n3_; clear n0_ n1_ n2_ n3_; clear hb hbox hg; have hcz8_0 : w7.cell? ⟨gb271, 0, none⟩ = some (.slice A0_0 l0_0.length c0_0) := (blk_cell BK271.out 0).trans rfl; have hcz8_1 : w7.cell? ⟨gb271, 1, none⟩ = some (.slice A0_1 l0_1.length c0_1) := (blk_cell BK271.out 1).trans rfl; have hfz8_0 := blk_frozen BK271.out 0; have hfz8_1 := blk_frozen BK271.out 1) | (go_at_call 16; (with_reducible refine (athanorref03_Right.calls k _ _ l0_0 false _ ?side1 ?side2 A2.out).mono ?_); (case side1 => repeat (first|exact (Kd.C_below HR0_0.out HB.out) | with_reducible first|apply cA|apply cN|apply cD)); (case side2 => exact HC0_0.out); rintro e w' ⟨rfl, ⟨nd, rfl⟩⟩; (try first|exact ⟨rfl, _, World.drewN_drewN _ _ _⟩|exact ⟨rfl, _, Eq.trans (World.drewN_drewN _ _ _) (congrArg (World.drewN _) (Nat.add_assoc _ _ _))⟩))); try go_wp2_with (first | ((with_reducible refine gate_dst (N := 1) rfl ?_); (try (refine gate_guard (by rfl) ?_; dsimp only)); refine box_event ?hg (N := 1) ?hd (cs := #[.slice A0_0 l0_0.length c0_0, .slice A0_1 l0_1.length c0_1]) (t := 26) ?hr ?_; (case hd => rfl); (case hg => rfl); (case hr => first | (go_simp; done) | (go_simp; rfl)); intro gb271 hg w7 hbox hb; have n0_ := aM (below_step (by repeat (first | (with_reducible first|exact HB.out|apply bA|apply bN|apply bD)|exact HB.out)) hb); have n1_ := aM (hbox); have n2_ := aM ((by rw [hg]; exact (below_size (by repeat (first | (with_reducible first|exact HB.out|apply bA|apply bN|apply bD)|exact HB.out))) : w.heap.size ≤ gb271)); have n3_ := aM ((by rw [hg]; exact (below_size (by repeat (first | (with_reducible first|exact HB.out|apply bA|apply bN|apply bD)|exact HB.out))) : w.heap.size ≤ gb271)); clear HB; have HB := n0_; have BK271 := n1_; have GW271 := n2_; have GE271 := n3_; clear n0_ n1_ n2_ n3_; clear hb hbox hg; have hcz8_0 : w7.cell? ⟨gb271, 0, none⟩ = some (.slice A0_0 l0_0.length c0_0) := (blk_cell BK271.out 0).trans rfl; have hcz8_1 : w7.cell? ⟨gb271, 1, none⟩ = some (.slice A0_1 l0_1.length c0_1) := (blk_cell BK271.out 1).trans rfl; have hfz8_0 := blk_frozen BK271.out 0; have hfz8_1 := blk_frozen BK271.out 1) | (go_at_call 16; (with_reducible refine (athanorref03_Right.calls k _ _ l0_0 false _ ?side1 ?side2 A2.out).mono ?_); (case side1 => repeat (first|exact (Kd.C_below HR0_0.out HB.out) | with_reducible first|apply cA|apply cN|apply cD)); (case side2 => exact HC0_0.out); rintro e w' ⟨rfl, ⟨nd, rfl⟩⟩; (try first|exact ⟨rfl, _, World.drewN_drewN _ _ _⟩|exact ⟨rfl, _, Eq.trans (World.drewN_drewN _ _ _) (congrArg (World.drewN _) (Nat.add_assoc _ _ _))⟩))))
   go_ret
   exact ⟨by first | rfl | (simp [errW_none, errW_some] <;> rfl) | (simp [*, errW_none, errW_some] <;> rfl), by repeat (first | (with_reducible first|exact HB.out|apply bA|apply bN|apply bD|refine bS ?_ GE271.out)|exact HB.out)⟩

/-! ### fix_size: function 63 -/
def fix_size.f (a0 : Int) : Option (Int) := if a0 < 0 then (some (IntKind.u64.wrap (-(IntKind.u64.wrap (a0))))) else (some (IntKind.u64.wrap (a0)))
set_option maxHeartbeats 8000000 in
set_option maxRecDepth 100000 in
theorem fix_size.calls (a0 : Int) (r : Int) (w : World) (h : fix_size.f a0 = some r) :
  Calls Try.prog 63 #[.int .i64 a0] w fun e w' => e = .returned (.int .u64 r) ∧ Drawn0 w w' := by
 have H : (if a0 < 0 then (some (IntKind.u64.wrap (-(IntKind.u64.wrap (a0))))) else (some (IntKind.u64.wrap (a0)))) = some r := h
 clear h
 by_cases c2 : a0 < 0
 ·rw [if_pos c2] at H
  have c2b0 : decide (a0 < 0) = true := decide_eq_true c2
  clear c2
  as_aux_lemma =>
   obtain rfl := Option.some.inj H
   go_enter Try.func63, Try.ntmps63
   go_wp2
   go_ret
   exact ⟨by first | rfl | (simp; done) | (simp [*]; done), by repeat (first|exact Drawn0.refl _|apply Drawn0.step)⟩
 ·rw [if_neg c2] at H
  have c2b0 : decide (a0 < 0) = false := decide_eq_false c2
  clear c2
  as_aux_lemma =>
   obtain rfl := Option.some.inj H
   go_enter Try.func63, Try.ntmps63
   go_wp2
   go_ret
   exact ⟨by first | rfl | (simp; done) | (simp [*]; done), by repeat (first|exact Drawn0.refl _|apply Drawn0.step)⟩

/-! ### fix_F_Mul: function 46 -/
def fix_F_Mul.f (k : Nat) (a0 : Int) (a1 : Int) : Option (Int) := (fix_size.f a0).bind fun t274 => ((fix_size.f a1).bind fun t275 => ((bits_Mul64.f t274 t275).bind fun bt276 => (if (Go.bits .and .u64 bt276.2 4294967295) > 2147483648 then (if (bt276.1 / 4294967296) = 0 then ((fix_signed.f k (IntKind.u64.wrap ((Go.bits .or .u64 (IntKind.u64.wrap (bt276.1 * 4294967296)) (bt276.2 / 4294967296)) + 1)) ((IntKind.u64.wrap ((Go.bits .or .u64 (IntKind.u64.wrap (bt276.1 * 4294967296)) (bt276.2 / 4294967296)) + 1)) == 0) ((decide (a0 < 0)) != (decide (a1 < 0)))).bind fun t278 => (some t278)) else ((fix_signed.f k (IntKind.u64.wrap ((Go.bits .or .u64 (IntKind.u64.wrap (bt276.1 * 4294967296)) (bt276.2 / 4294967296)) + 1)) true ((decide (a0 < 0)) != (decide (a1 < 0)))).bind fun t279 => (some t279))) else (if (Go.bits .and .u64 bt276.2 4294967295) = 2147483648 then (if (Go.bits .and .u64 (Go.bits .or .u64 (IntKind.u64.wrap (bt276.1 * 4294967296)) (bt276.2 / 4294967296)) 1) = 1 then (if (bt276.1 / 4294967296) = 0 then ((fix_signed.f k (IntKind.u64.wrap ((Go.bits .or .u64 (IntKind.u64.wrap (bt276.1 * 4294967296)) (bt276.2 / 4294967296)) + 1)) ((IntKind.u64.wrap ((Go.bits .or .u64 (IntKind.u64.wrap (bt276.1 * 4294967296)) (bt276.2 / 4294967296)) + 1)) == 0) ((decide (a0 < 0)) != (decide (a1 < 0)))).bind fun t280 => (some t280)) else ((fix_signed.f k (IntKind.u64.wrap ((Go.bits .or .u64 (IntKind.u64.wrap (bt276.1 * 4294967296)) (bt276.2 / 4294967296)) + 1)) true ((decide (a0 < 0)) != (decide (a1 < 0)))).bind fun t281 => (some t281))) else ((fix_signed.f k (Go.bits .or .u64 (IntKind.u64.wrap (bt276.1 * 4294967296)) (bt276.2 / 4294967296)) ((bt276.1 / 4294967296) != 0) ((decide (a0 < 0)) != (decide (a1 < 0)))).bind fun t282 => (some t282))) else ((fix_signed.f k (Go.bits .or .u64 (IntKind.u64.wrap (bt276.1 * 4294967296)) (bt276.2 / 4294967296)) ((bt276.1 / 4294967296) != 0) ((decide (a0 < 0)) != (decide (a1 < 0)))).bind fun t283 => (some t283))))))
theorem fix_F_Mul.mono : ∀ a0 a1 k, LeO (fix_F_Mul.f k a0 a1) (fix_F_Mul.f (k + 1) a0 a1) := by
 intro a0 a1 k
 unfold fix_F_Mul.f
 repeat' first
   | (with_reducible exact fix_signed.mono _ _ _ _)
   | (with_reducible exact LeO.refl _)
   | (with_reducible exact LeO.none _)
   | (with_reducible refine LeO.ite ?_ ?_)
   | (with_reducible refine LeO.bind ?_ (fun _ => ?_))
   | exact fix_signed.mono _ _ _ _
   | exact LeO.none _
   | refine LeO.ite ?_ ?_
   | refine LeO.bind ?_ (fun _ => ?_)
set_option maxHeartbeats 8000000 in
set_option maxRecDepth 100000 in
theorem fix_F_Mul.calls (k : Nat) (a0 : Int) (a1 : Int) (r : Int) (w : World) (h : fix_F_Mul.f k a0 a1 = some r) :
  Calls Try.prog 46 #[.int .i64 a0, .int .i64 a1] w fun e w' => e = .returned (.int .i64 r) ∧ Drawn0 w w' := by
 have H : ((fix_size.f a0).bind fun t274 => ((fix_size.f a1).bind fun t275 => ((bits_Mul64.f t274 t275).bind fun bt276 => (if (Go.bits .and .u64 bt276.2 4294967295) > 2147483648 then (if (bt276.1 / 4294967296) = 0 then ((fix_signed.f k (IntKind.u64.wrap ((Go.bits .or .u64 (IntKind.u64.wrap (bt276.1 * 4294967296)) (bt276.2 / 4294967296)) + 1)) ((IntKind.u64.wrap ((Go.bits .or .u64 (IntKind.u64.wrap (bt276.1 * 4294967296)) (bt276.2 / 4294967296)) + 1)) == 0) ((decide (a0 < 0)) != (decide (a1 < 0)))).bind fun t278 => (some t278)) else ((fix_signed.f k (IntKind.u64.wrap ((Go.bits .or .u64 (IntKind.u64.wrap (bt276.1 * 4294967296)) (bt276.2 / 4294967296)) + 1)) true ((decide (a0 < 0)) != (decide (a1 < 0)))).bind fun t279 => (some t279))) else (if (Go.bits .and .u64 bt276.2 4294967295) = 2147483648 then (if (Go.bits .and .u64 (Go.bits .or .u64 (IntKind.u64.wrap (bt276.1 * 4294967296)) (bt276.2 / 4294967296)) 1) = 1 then (if (bt276.1 / 4294967296) = 0 then ((fix_signed.f k (IntKind.u64.wrap ((Go.bits .or .u64 (IntKind.u64.wrap (bt276.1 * 4294967296)) (bt276.2 / 4294967296)) + 1)) ((IntKind.u64.wrap ((Go.bits .or .u64 (IntKind.u64.wrap (bt276.1 * 4294967296)) (bt276.2 / 4294967296)) + 1)) == 0) ((decide (a0 < 0)) != (decide (a1 < 0)))).bind fun t280 => (some t280)) else ((fix_signed.f k (IntKind.u64.wrap ((Go.bits .or .u64 (IntKind.u64.wrap (bt276.1 * 4294967296)) (bt276.2 / 4294967296)) + 1)) true ((decide (a0 < 0)) != (decide (a1 < 0)))).bind fun t281 => (some t281))) else ((fix_signed.f k (Go.bits .or .u64 (IntKind.u64.wrap (bt276.1 * 4294967296)) (bt276.2 / 4294967296)) ((bt276.1 / 4294967296) != 0) ((decide (a0 < 0)) != (decide (a1 < 0)))).bind fun t282 => (some t282))) else ((fix_signed.f k (Go.bits .or .u64 (IntKind.u64.wrap (bt276.1 * 4294967296)) (bt276.2 / 4294967296)) ((bt276.1 / 4294967296) != 0) ((decide (a0 < 0)) != (decide (a1 < 0)))).bind fun t283 => (some t283))))))) = some r := h
 clear h
 replace H := Option.bind_eq_some_iff.mp H
 obtain ⟨t274, A30, H⟩ := H
 replace H : ((fix_size.f a1).bind fun t275 => ((bits_Mul64.f t274 t275).bind fun bt276 => (if (Go.bits .and .u64 bt276.2 4294967295) > 2147483648 then (if (bt276.1 / 4294967296) = 0 then ((fix_signed.f k (IntKind.u64.wrap ((Go.bits .or .u64 (IntKind.u64.wrap (bt276.1 * 4294967296)) (bt276.2 / 4294967296)) + 1)) ((IntKind.u64.wrap ((Go.bits .or .u64 (IntKind.u64.wrap (bt276.1 * 4294967296)) (bt276.2 / 4294967296)) + 1)) == 0) ((decide (a0 < 0)) != (decide (a1 < 0)))).bind fun t278 => (some t278)) else ((fix_signed.f k (IntKind.u64.wrap ((Go.bits .or .u64 (IntKind.u64.wrap (bt276.1 * 4294967296)) (bt276.2 / 4294967296)) + 1)) true ((decide (a0 < 0)) != (decide (a1 < 0)))).bind fun t279 => (some t279))) else (if (Go.bits .and .u64 bt276.2 4294967295) = 2147483648 then (if (Go.bits .and .u64 (Go.bits .or .u64 (IntKind.u64.wrap (bt276.1 * 4294967296)) (bt276.2 / 4294967296)) 1) = 1 then (if (bt276.1 / 4294967296) = 0 then ((fix_signed.f k (IntKind.u64.wrap ((Go.bits .or .u64 (IntKind.u64.wrap (bt276.1 * 4294967296)) (bt276.2 / 4294967296)) + 1)) ((IntKind.u64.wrap ((Go.bits .or .u64 (IntKind.u64.wrap (bt276.1 * 4294967296)) (bt276.2 / 4294967296)) + 1)) == 0) ((decide (a0 < 0)) != (decide (a1 < 0)))).bind fun t280 => (some t280)) else ((fix_signed.f k (IntKind.u64.wrap ((Go.bits .or .u64 (IntKind.u64.wrap (bt276.1 * 4294967296)) (bt276.2 / 4294967296)) + 1)) true ((decide (a0 < 0)) != (decide (a1 < 0)))).bind fun t281 => (some t281))) else ((fix_signed.f k (Go.bits .or .u64 (IntKind.u64.wrap (bt276.1 * 4294967296)) (bt276.2 / 4294967296)) ((bt276.1 / 4294967296) != 0) ((decide (a0 < 0)) != (decide (a1 < 0)))).bind fun t282 => (some t282))) else ((fix_signed.f k (Go.bits .or .u64 (IntKind.u64.wrap (bt276.1 * 4294967296)) (bt276.2 / 4294967296)) ((bt276.1 / 4294967296) != 0) ((decide (a0 < 0)) != (decide (a1 < 0)))).bind fun t283 => (some t283)))))) = some r := H
 have A3 := Aside0.mk A30
 clear A30
 replace H := Option.bind_eq_some_iff.mp H
 obtain ⟨t275, A40, H⟩ := H
 replace H : ((bits_Mul64.f t274 t275).bind fun bt276 => (if (Go.bits .and .u64 bt276.2 4294967295) > 2147483648 then (if (bt276.1 / 4294967296) = 0 then ((fix_signed.f k (IntKind.u64.wrap ((Go.bits .or .u64 (IntKind.u64.wrap (bt276.1 * 4294967296)) (bt276.2 / 4294967296)) + 1)) ((IntKind.u64.wrap ((Go.bits .or .u64 (IntKind.u64.wrap (bt276.1 * 4294967296)) (bt276.2 / 4294967296)) + 1)) == 0) ((decide (a0 < 0)) != (decide (a1 < 0)))).bind fun t278 => (some t278)) else ((fix_signed.f k (IntKind.u64.wrap ((Go.bits .or .u64 (IntKind.u64.wrap (bt276.1 * 4294967296)) (bt276.2 / 4294967296)) + 1)) true ((decide (a0 < 0)) != (decide (a1 < 0)))).bind fun t279 => (some t279))) else (if (Go.bits .and .u64 bt276.2 4294967295) = 2147483648 then (if (Go.bits .and .u64 (Go.bits .or .u64 (IntKind.u64.wrap (bt276.1 * 4294967296)) (bt276.2 / 4294967296)) 1) = 1 then (if (bt276.1 / 4294967296) = 0 then ((fix_signed.f k (IntKind.u64.wrap ((Go.bits .or .u64 (IntKind.u64.wrap (bt276.1 * 4294967296)) (bt276.2 / 4294967296)) + 1)) ((IntKind.u64.wrap ((Go.bits .or .u64 (IntKind.u64.wrap (bt276.1 * 4294967296)) (bt276.2 / 4294967296)) + 1)) == 0) ((decide (a0 < 0)) != (decide (a1 < 0)))).bind fun t280 => (some t280)) else ((fix_signed.f k (IntKind.u64.wrap ((Go.bits .or .u64 (IntKind.u64.wrap (bt276.1 * 4294967296)) (bt276.2 / 4294967296)) + 1)) true ((decide (a0 < 0)) != (decide (a1 < 0)))).bind fun t281 => (some t281))) else ((fix_signed.f k (Go.bits .or .u64 (IntKind.u64.wrap (bt276.1 * 4294967296)) (bt276.2 / 4294967296)) ((bt276.1 / 4294967296) != 0) ((decide (a0 < 0)) != (decide (a1 < 0)))).bind fun t282 => (some t282))) else ((fix_signed.f k (Go.bits .or .u64 (IntKind.u64.wrap (bt276.1 * 4294967296)) (bt276.2 / 4294967296)) ((bt276.1 / 4294967296) != 0) ((decide (a0 < 0)) != (decide (a1 < 0)))).bind fun t283 => (some t283))))) = some r := H
 have A4 := Aside0.mk A40
 clear A40
 replace H := Option.bind_eq_some_iff.mp H
 obtain ⟨⟨t276, t277⟩, A50, H⟩ := H
 replace H : (if (Go.bits .and .u64 t277 4294967295) > 2147483648 then (if (t276 / 4294967296) = 0 then ((fix_signed.f k (IntKind.u64.wrap ((Go.bits .or .u64 (IntKind.u64.wrap (t276 * 4294967296)) (t277 / 4294967296)) + 1)) ((IntKind.u64.wrap ((Go.bits .or .u64 (IntKind.u64.wrap (t276 * 4294967296)) (t277 / 4294967296)) + 1)) == 0) ((decide (a0 < 0)) != (decide (a1 < 0)))).bind fun t278 => (some t278)) else ((fix_signed.f k (IntKind.u64.wrap ((Go.bits .or .u64 (IntKind.u64.wrap (t276 * 4294967296)) (t277 / 4294967296)) + 1)) true ((decide (a0 < 0)) != (decide (a1 < 0)))).bind fun t279 => (some t279))) else (if (Go.bits .and .u64 t277 4294967295) = 2147483648 then (if (Go.bits .and .u64 (Go.bits .or .u64 (IntKind.u64.wrap (t276 * 4294967296)) (t277 / 4294967296)) 1) = 1 then (if (t276 / 4294967296) = 0 then ((fix_signed.f k (IntKind.u64.wrap ((Go.bits .or .u64 (IntKind.u64.wrap (t276 * 4294967296)) (t277 / 4294967296)) + 1)) ((IntKind.u64.wrap ((Go.bits .or .u64 (IntKind.u64.wrap (t276 * 4294967296)) (t277 / 4294967296)) + 1)) == 0) ((decide (a0 < 0)) != (decide (a1 < 0)))).bind fun t280 => (some t280)) else ((fix_signed.f k (IntKind.u64.wrap ((Go.bits .or .u64 (IntKind.u64.wrap (t276 * 4294967296)) (t277 / 4294967296)) + 1)) true ((decide (a0 < 0)) != (decide (a1 < 0)))).bind fun t281 => (some t281))) else ((fix_signed.f k (Go.bits .or .u64 (IntKind.u64.wrap (t276 * 4294967296)) (t277 / 4294967296)) ((t276 / 4294967296) != 0) ((decide (a0 < 0)) != (decide (a1 < 0)))).bind fun t282 => (some t282))) else ((fix_signed.f k (Go.bits .or .u64 (IntKind.u64.wrap (t276 * 4294967296)) (t277 / 4294967296)) ((t276 / 4294967296) != 0) ((decide (a0 < 0)) != (decide (a1 < 0)))).bind fun t283 => (some t283)))) = some r := H
 have A5 := Aside0.mk A50
 clear A50
 by_cases c6 : (Go.bits .and .u64 t277 4294967295) > 2147483648
 ·rw [if_pos c6] at H
  have c6b0 : decide (2147483648 < (Go.bits .and .u64 t277 4294967295)) = true := decide_eq_true c6
  clear c6
  by_cases c7 : (t276 / 4294967296) = 0
  ·rw [if_pos c7] at H
   have c7b0 : ((t276 / 4294967296) == 0) = true := beq_iff_eq.mpr c7
   have c7b1 : ((t276 / 4294967296) != 0) = false := bne_eq_false_iff_eq.mpr c7
   clear c7
   replace H := Option.bind_eq_some_iff.mp H
   obtain ⟨t278, A80, H⟩ := H
   replace H : (some t278) = some r := H
   have A8 := Aside0.mk A80
   clear A80
   as_aux_lemma =>
    obtain rfl := Option.some.inj H
    go_enter Try.func46, Try.ntmps46
    go_wp2_with (first | ((with_reducible refine gate_callee (f := 63) rfl ?_); refine goesL_ (some 12) rfl rfl Try.func63 (by kernel_rfl) rfl #[.int .i64 a0] rfl (by (try simp only [List.map_toArray, List.map_cons, List.map_nil]); first | done | rfl | (simp only [List.length_drop, List.length_take]; rfl)) ?_; (with_reducible refine (fix_size.calls a0 t274 _ A3.out).mono ?_); rintro e w' ⟨rfl, ⟨nd, rfl⟩⟩; refine ⟨_, rfl, ?_⟩) | ((with_reducible refine gate_callee (f := 63) rfl ?_); refine goesL_ (some 14) rfl rfl Try.func63 (by kernel_rfl) rfl #[.int .i64 a1] rfl (by (try simp only [List.map_toArray, List.map_cons, List.map_nil]); first | done | rfl | (simp only [List.length_drop, List.length_take]; rfl)) ?_; (with_reducible refine (fix_size.calls a1 t275 _ A4.out).mono ?_); rintro e w' ⟨rfl, ⟨nd, rfl⟩⟩; refine ⟨_, rfl, ?_⟩) | ((with_reducible refine gate_callee (f := 62) rfl ?_); refine goesL_ (some 15) rfl rfl Try.func62 (by kernel_rfl) rfl #[.int .u64 t274, .int .u64 t275] rfl (by (try simp only [List.map_toArray, List.map_cons, List.map_nil]); first | done | rfl | (simp only [List.length_drop, List.length_take]; rfl)) ?_; (with_reducible refine (bits_Mul64.calls t274 t275 t276 t277 _ A5.out).mono ?_); rintro e w' ⟨rfl, ⟨nd, rfl⟩⟩; refine ⟨_, rfl, ?_⟩) | ((with_reducible refine gate_callee (f := 61) rfl ?_); refine goesL_ (some 53) rfl rfl Try.func61 (by kernel_rfl) rfl #[.int .u64 (IntKind.u64.wrap ((Go.bits .or .u64 (IntKind.u64.wrap (t276 * 4294967296)) (t277 / 4294967296)) + 1)), .bool ((IntKind.u64.wrap ((Go.bits .or .u64 (IntKind.u64.wrap (t276 * 4294967296)) (t277 / 4294967296)) + 1)) == 0), .bool ((decide (a0 < 0)) != (decide (a1 < 0)))] rfl (by (try simp only [List.map_toArray, List.map_cons, List.map_nil]); first | done | rfl | (simp only [List.length_drop, List.length_take]; rfl)) ?_; (with_reducible refine (fix_signed.calls k (IntKind.u64.wrap ((Go.bits .or .u64 (IntKind.u64.wrap (t276 * 4294967296)) (t277 / 4294967296)) + 1)) ((IntKind.u64.wrap ((Go.bits .or .u64 (IntKind.u64.wrap (t276 * 4294967296)) (t277 / 4294967296)) + 1)) == 0) ((decide (a0 < 0)) != (decide (a1 < 0))) t278 _ A8.out).mono ?_); rintro e w' ⟨rfl, ⟨nd, rfl⟩⟩; refine ⟨_, rfl, ?_⟩))
    go_ret
    exact ⟨by first | rfl | (simp; done) | (simp [*]; done), by repeat (first|exact Drawn0.refl _|apply Drawn0.step)⟩
  ·rw [if_neg c7] at H
   have c7b0 : ((t276 / 4294967296) == 0) = false := beq_eq_false_iff_ne.mpr c7
   have c7b1 : ((t276 / 4294967296) != 0) = true := bne_iff_ne.mpr c7
   replace H := Option.bind_eq_some_iff.mp H
   obtain ⟨t279, A90, H⟩ := H
   replace H : (some t279) = some r := H
   have A9 := Aside0.mk A90
   clear A90
   as_aux_lemma =>
    obtain rfl := Option.some.inj H
    go_enter Try.func46, Try.ntmps46
    go_wp2_with (first | ((with_reducible refine gate_callee (f := 63) rfl ?_); refine goesL_ (some 12) rfl rfl Try.func63 (by kernel_rfl) rfl #[.int .i64 a0] rfl (by (try simp only [List.map_toArray, List.map_cons, List.map_nil]); first | done | rfl | (simp only [List.length_drop, List.length_take]; rfl)) ?_; (with_reducible refine (fix_size.calls a0 t274 _ A3.out).mono ?_); rintro e w' ⟨rfl, ⟨nd, rfl⟩⟩; refine ⟨_, rfl, ?_⟩) | ((with_reducible refine gate_callee (f := 63) rfl ?_); refine goesL_ (some 14) rfl rfl Try.func63 (by kernel_rfl) rfl #[.int .i64 a1] rfl (by (try simp only [List.map_toArray, List.map_cons, List.map_nil]); first | done | rfl | (simp only [List.length_drop, List.length_take]; rfl)) ?_; (with_reducible refine (fix_size.calls a1 t275 _ A4.out).mono ?_); rintro e w' ⟨rfl, ⟨nd, rfl⟩⟩; refine ⟨_, rfl, ?_⟩) | ((with_reducible refine gate_callee (f := 62) rfl ?_); refine goesL_ (some 15) rfl rfl Try.func62 (by kernel_rfl) rfl #[.int .u64 t274, .int .u64 t275] rfl (by (try simp only [List.map_toArray, List.map_cons, List.map_nil]); first | done | rfl | (simp only [List.length_drop, List.length_take]; rfl)) ?_; (with_reducible refine (bits_Mul64.calls t274 t275 t276 t277 _ A5.out).mono ?_); rintro e w' ⟨rfl, ⟨nd, rfl⟩⟩; refine ⟨_, rfl, ?_⟩) | ((with_reducible refine gate_callee (f := 61) rfl ?_); refine goesL_ (some 53) rfl rfl Try.func61 (by kernel_rfl) rfl #[.int .u64 (IntKind.u64.wrap ((Go.bits .or .u64 (IntKind.u64.wrap (t276 * 4294967296)) (t277 / 4294967296)) + 1)), .bool true, .bool ((decide (a0 < 0)) != (decide (a1 < 0)))] rfl (by (try simp only [List.map_toArray, List.map_cons, List.map_nil]); first | done | rfl | (simp only [List.length_drop, List.length_take]; rfl)) ?_; (with_reducible refine (fix_signed.calls k (IntKind.u64.wrap ((Go.bits .or .u64 (IntKind.u64.wrap (t276 * 4294967296)) (t277 / 4294967296)) + 1)) true ((decide (a0 < 0)) != (decide (a1 < 0))) t279 _ A9.out).mono ?_); rintro e w' ⟨rfl, ⟨nd, rfl⟩⟩; refine ⟨_, rfl, ?_⟩))
    go_ret
    exact ⟨by first | rfl | (simp; done) | (simp [*]; done), by repeat (first|exact Drawn0.refl _|apply Drawn0.step)⟩
 ·rw [if_neg c6] at H
  have c6b0 : decide (2147483648 < (Go.bits .and .u64 t277 4294967295)) = false := decide_eq_false c6
  clear c6
  by_cases c10 : (Go.bits .and .u64 t277 4294967295) = 2147483648
  ·rw [if_pos c10] at H
   have c10b0 : ((Go.bits .and .u64 t277 4294967295) == 2147483648) = true := beq_iff_eq.mpr c10
   have c10b1 : ((Go.bits .and .u64 t277 4294967295) != 2147483648) = false := bne_eq_false_iff_eq.mpr c10
   clear c10
   by_cases c11 : (Go.bits .and .u64 (Go.bits .or .u64 (IntKind.u64.wrap (t276 * 4294967296)) (t277 / 4294967296)) 1) = 1
   ·rw [if_pos c11] at H
    have c11b0 : ((Go.bits .and .u64 (Go.bits .or .u64 (IntKind.u64.wrap (t276 * 4294967296)) (t277 / 4294967296)) 1) == 1) = true := beq_iff_eq.mpr c11
    have c11b1 : ((Go.bits .and .u64 (Go.bits .or .u64 (IntKind.u64.wrap (t276 * 4294967296)) (t277 / 4294967296)) 1) != 1) = false := bne_eq_false_iff_eq.mpr c11
    clear c11
    by_cases c12 : (t276 / 4294967296) = 0
    ·rw [if_pos c12] at H
     have c12b0 : ((t276 / 4294967296) == 0) = true := beq_iff_eq.mpr c12
     have c12b1 : ((t276 / 4294967296) != 0) = false := bne_eq_false_iff_eq.mpr c12
     clear c12
     replace H := Option.bind_eq_some_iff.mp H
     obtain ⟨t280, A130, H⟩ := H
     replace H : (some t280) = some r := H
     have A13 := Aside0.mk A130
     clear A130
     as_aux_lemma =>
      obtain rfl := Option.some.inj H
      go_enter Try.func46, Try.ntmps46
      go_wp2_with (first | ((with_reducible refine gate_callee (f := 63) rfl ?_); refine goesL_ (some 12) rfl rfl Try.func63 (by kernel_rfl) rfl #[.int .i64 a0] rfl (by (try simp only [List.map_toArray, List.map_cons, List.map_nil]); first | done | rfl | (simp only [List.length_drop, List.length_take]; rfl)) ?_; (with_reducible refine (fix_size.calls a0 t274 _ A3.out).mono ?_); rintro e w' ⟨rfl, ⟨nd, rfl⟩⟩; refine ⟨_, rfl, ?_⟩) | ((with_reducible refine gate_callee (f := 63) rfl ?_); refine goesL_ (some 14) rfl rfl Try.func63 (by kernel_rfl) rfl #[.int .i64 a1] rfl (by (try simp only [List.map_toArray, List.map_cons, List.map_nil]); first | done | rfl | (simp only [List.length_drop, List.length_take]; rfl)) ?_; (with_reducible refine (fix_size.calls a1 t275 _ A4.out).mono ?_); rintro e w' ⟨rfl, ⟨nd, rfl⟩⟩; refine ⟨_, rfl, ?_⟩) | ((with_reducible refine gate_callee (f := 62) rfl ?_); refine goesL_ (some 15) rfl rfl Try.func62 (by kernel_rfl) rfl #[.int .u64 t274, .int .u64 t275] rfl (by (try simp only [List.map_toArray, List.map_cons, List.map_nil]); first | done | rfl | (simp only [List.length_drop, List.length_take]; rfl)) ?_; (with_reducible refine (bits_Mul64.calls t274 t275 t276 t277 _ A5.out).mono ?_); rintro e w' ⟨rfl, ⟨nd, rfl⟩⟩; refine ⟨_, rfl, ?_⟩) | ((with_reducible refine gate_callee (f := 61) rfl ?_); refine goesL_ (some 53) rfl rfl Try.func61 (by kernel_rfl) rfl #[.int .u64 (IntKind.u64.wrap ((Go.bits .or .u64 (IntKind.u64.wrap (t276 * 4294967296)) (t277 / 4294967296)) + 1)), .bool ((IntKind.u64.wrap ((Go.bits .or .u64 (IntKind.u64.wrap (t276 * 4294967296)) (t277 / 4294967296)) + 1)) == 0), .bool ((decide (a0 < 0)) != (decide (a1 < 0)))] rfl (by (try simp only [List.map_toArray, List.map_cons, List.map_nil]); first | done | rfl | (simp only [List.length_drop, List.length_take]; rfl)) ?_; (with_reducible refine (fix_signed.calls k (IntKind.u64.wrap ((Go.bits .or .u64 (IntKind.u64.wrap (t276 * 4294967296)) (t277 / 4294967296)) + 1)) ((IntKind.u64.wrap ((Go.bits .or .u64 (IntKind.u64.wrap (t276 * 4294967296)) (t277 / 4294967296)) + 1)) == 0) ((decide (a0 < 0)) != (decide (a1 < 0))) t280 _ A13.out).mono ?_); rintro e w' ⟨rfl, ⟨nd, rfl⟩⟩; refine ⟨_, rfl, ?_⟩))
      go_ret
      exact ⟨by first | rfl | (simp; done) | (simp [*]; done), by repeat (first|exact Drawn0.refl _|apply Drawn0.step)⟩
    ·rw [if_neg c12] at H
     have c12b0 : ((t276 / 4294967296) == 0) = false := beq_eq_false_iff_ne.mpr c12
     have c12b1 : ((t276 / 4294967296) != 0) = true := bne_iff_ne.mpr c12
     replace H := Option.bind_eq_some_iff.mp H
     obtain ⟨t281, A140, H⟩ := H
     replace H : (some t281) = some r := H
     have A14 := Aside0.mk A140
     clear A140
     as_aux_lemma =>
      obtain rfl := Option.some.inj H
      go_enter Try.func46, Try.ntmps46
      go_wp2_with (first | ((with_reducible refine gate_callee (f := 63) rfl ?_); refine goesL_ (some 12) rfl rfl Try.func63 (by kernel_rfl) rfl #[.int .i64 a0] rfl (by (try simp only [List.map_toArray, List.map_cons, List.map_nil]); first | done | rfl | (simp only [List.length_drop, List.length_take]; rfl)) ?_; (with_reducible refine (fix_size.calls a0 t274 _ A3.out).mono ?_); rintro e w' ⟨rfl, ⟨nd, rfl⟩⟩; refine ⟨_, rfl, ?_⟩) | ((with_reducible refine gate_callee (f := 63) rfl ?_); refine goesL_ (some 14) rfl rfl Try.func63 (by kernel_rfl) rfl #[.int .i64 a1] rfl (by (try simp only [List.map_toArray, List.map_cons, List.map_nil]); first | done | rfl | (simp only [List.length_drop, List.length_take]; rfl)) ?_; (with_reducible refine (fix_size.calls a1 t275 _ A4.out).mono ?_); rintro e w' ⟨rfl, ⟨nd, rfl⟩⟩; refine ⟨_, rfl, ?_⟩) | ((with_reducible refine gate_callee (f := 62) rfl ?_); refine goesL_ (some 15) rfl rfl Try.func62 (by kernel_rfl) rfl #[.int .u64 t274, .int .u64 t275] rfl (by (try simp only [List.map_toArray, List.map_cons, List.map_nil]); first | done | rfl | (simp only [List.length_drop, List.length_take]; rfl)) ?_; (with_reducible refine (bits_Mul64.calls t274 t275 t276 t277 _ A5.out).mono ?_); rintro e w' ⟨rfl, ⟨nd, rfl⟩⟩; refine ⟨_, rfl, ?_⟩) | ((with_reducible refine gate_callee (f := 61) rfl ?_); refine goesL_ (some 53) rfl rfl Try.func61 (by kernel_rfl) rfl #[.int .u64 (IntKind.u64.wrap ((Go.bits .or .u64 (IntKind.u64.wrap (t276 * 4294967296)) (t277 / 4294967296)) + 1)), .bool true, .bool ((decide (a0 < 0)) != (decide (a1 < 0)))] rfl (by (try simp only [List.map_toArray, List.map_cons, List.map_nil]); first | done | rfl | (simp only [List.length_drop, List.length_take]; rfl)) ?_; (with_reducible refine (fix_signed.calls k (IntKind.u64.wrap ((Go.bits .or .u64 (IntKind.u64.wrap (t276 * 4294967296)) (t277 / 4294967296)) + 1)) true ((decide (a0 < 0)) != (decide (a1 < 0))) t281 _ A14.out).mono ?_); rintro e w' ⟨rfl, ⟨nd, rfl⟩⟩; refine ⟨_, rfl, ?_⟩))
      go_ret
      exact ⟨by first | rfl | (simp; done) | (simp [*]; done), by repeat (first|exact Drawn0.refl _|apply Drawn0.step)⟩
   ·rw [if_neg c11] at H
    have c11b0 : ((Go.bits .and .u64 (Go.bits .or .u64 (IntKind.u64.wrap (t276 * 4294967296)) (t277 / 4294967296)) 1) == 1) = false := beq_eq_false_iff_ne.mpr c11
    have c11b1 : ((Go.bits .and .u64 (Go.bits .or .u64 (IntKind.u64.wrap (t276 * 4294967296)) (t277 / 4294967296)) 1) != 1) = true := bne_iff_ne.mpr c11
    replace H := Option.bind_eq_some_iff.mp H
    obtain ⟨t282, A150, H⟩ := H
    replace H : (some t282) = some r := H
    have A15 := Aside0.mk A150
    clear A150
    as_aux_lemma =>
     obtain rfl := Option.some.inj H
     go_enter Try.func46, Try.ntmps46
     go_wp2_with (first | ((with_reducible refine gate_callee (f := 63) rfl ?_); refine goesL_ (some 12) rfl rfl Try.func63 (by kernel_rfl) rfl #[.int .i64 a0] rfl (by (try simp only [List.map_toArray, List.map_cons, List.map_nil]); first | done | rfl | (simp only [List.length_drop, List.length_take]; rfl)) ?_; (with_reducible refine (fix_size.calls a0 t274 _ A3.out).mono ?_); rintro e w' ⟨rfl, ⟨nd, rfl⟩⟩; refine ⟨_, rfl, ?_⟩) | ((with_reducible refine gate_callee (f := 63) rfl ?_); refine goesL_ (some 14) rfl rfl Try.func63 (by kernel_rfl) rfl #[.int .i64 a1] rfl (by (try simp only [List.map_toArray, List.map_cons, List.map_nil]); first | done | rfl | (simp only [List.length_drop, List.length_take]; rfl)) ?_; (with_reducible refine (fix_size.calls a1 t275 _ A4.out).mono ?_); rintro e w' ⟨rfl, ⟨nd, rfl⟩⟩; refine ⟨_, rfl, ?_⟩) | ((with_reducible refine gate_callee (f := 62) rfl ?_); refine goesL_ (some 15) rfl rfl Try.func62 (by kernel_rfl) rfl #[.int .u64 t274, .int .u64 t275] rfl (by (try simp only [List.map_toArray, List.map_cons, List.map_nil]); first | done | rfl | (simp only [List.length_drop, List.length_take]; rfl)) ?_; (with_reducible refine (bits_Mul64.calls t274 t275 t276 t277 _ A5.out).mono ?_); rintro e w' ⟨rfl, ⟨nd, rfl⟩⟩; refine ⟨_, rfl, ?_⟩) | ((with_reducible refine gate_callee (f := 61) rfl ?_); refine goesL_ (some 53) rfl rfl Try.func61 (by kernel_rfl) rfl #[.int .u64 (Go.bits .or .u64 (IntKind.u64.wrap (t276 * 4294967296)) (t277 / 4294967296)), .bool ((t276 / 4294967296) != 0), .bool ((decide (a0 < 0)) != (decide (a1 < 0)))] rfl (by (try simp only [List.map_toArray, List.map_cons, List.map_nil]); first | done | rfl | (simp only [List.length_drop, List.length_take]; rfl)) ?_; (with_reducible refine (fix_signed.calls k (Go.bits .or .u64 (IntKind.u64.wrap (t276 * 4294967296)) (t277 / 4294967296)) ((t276 / 4294967296) != 0) ((decide (a0 < 0)) != (decide (a1 < 0))) t282 _ A15.out).mono ?_); rintro e w' ⟨rfl, ⟨nd, rfl⟩⟩; refine ⟨_, rfl, ?_⟩))
     go_ret
     exact ⟨by first | rfl | (simp; done) | (simp [*]; done), by repeat (first|exact Drawn0.refl _|apply Drawn0.step)⟩
  ·rw [if_neg c10] at H
   have c10b0 : ((Go.bits .and .u64 t277 4294967295) == 2147483648) = false := beq_eq_false_iff_ne.mpr c10
   have c10b1 : ((Go.bits .and .u64 t277 4294967295) != 2147483648) = true := bne_iff_ne.mpr c10
   replace H := Option.bind_eq_some_iff.mp H
   obtain ⟨t283, A160, H⟩ := H
   replace H : (some t283) = some r := H
   have A16 := Aside0.mk A160
   clear A160
   as_aux_lemma =>
    obtain rfl := Option.some.inj H
    go_enter Try.func46, Try.ntmps46
    go_wp2_with (first | ((with_reducible refine gate_callee (f := 63) rfl ?_); refine goesL_ (some 12) rfl rfl Try.func63 (by kernel_rfl) rfl #[.int .i64 a0] rfl (by (try simp only [List.map_toArray, List.map_cons, List.map_nil]); first | done | rfl | (simp only [List.length_drop, List.length_take]; rfl)) ?_; (with_reducible refine (fix_size.calls a0 t274 _ A3.out).mono ?_); rintro e w' ⟨rfl, ⟨nd, rfl⟩⟩; refine ⟨_, rfl, ?_⟩) | ((with_reducible refine gate_callee (f := 63) rfl ?_); refine goesL_ (some 14) rfl rfl Try.func63 (by kernel_rfl) rfl #[.int .i64 a1] rfl (by (try simp only [List.map_toArray, List.map_cons, List.map_nil]); first | done | rfl | (simp only [List.length_drop, List.length_take]; rfl)) ?_; (with_reducible refine (fix_size.calls a1 t275 _ A4.out).mono ?_); rintro e w' ⟨rfl, ⟨nd, rfl⟩⟩; refine ⟨_, rfl, ?_⟩) | ((with_reducible refine gate_callee (f := 62) rfl ?_); refine goesL_ (some 15) rfl rfl Try.func62 (by kernel_rfl) rfl #[.int .u64 t274, .int .u64 t275] rfl (by (try simp only [List.map_toArray, List.map_cons, List.map_nil]); first | done | rfl | (simp only [List.length_drop, List.length_take]; rfl)) ?_; (with_reducible refine (bits_Mul64.calls t274 t275 t276 t277 _ A5.out).mono ?_); rintro e w' ⟨rfl, ⟨nd, rfl⟩⟩; refine ⟨_, rfl, ?_⟩) | ((with_reducible refine gate_callee (f := 61) rfl ?_); refine goesL_ (some 53) rfl rfl Try.func61 (by kernel_rfl) rfl #[.int .u64 (Go.bits .or .u64 (IntKind.u64.wrap (t276 * 4294967296)) (t277 / 4294967296)), .bool ((t276 / 4294967296) != 0), .bool ((decide (a0 < 0)) != (decide (a1 < 0)))] rfl (by (try simp only [List.map_toArray, List.map_cons, List.map_nil]); first | done | rfl | (simp only [List.length_drop, List.length_take]; rfl)) ?_; (with_reducible refine (fix_signed.calls k (Go.bits .or .u64 (IntKind.u64.wrap (t276 * 4294967296)) (t277 / 4294967296)) ((t276 / 4294967296) != 0) ((decide (a0 < 0)) != (decide (a1 < 0))) t283 _ A16.out).mono ?_); rintro e w' ⟨rfl, ⟨nd, rfl⟩⟩; refine ⟨_, rfl, ?_⟩))
    go_ret
    exact ⟨by first | rfl | (simp; done) | (simp [*]; done), by repeat (first|exact Drawn0.refl _|apply Drawn0.step)⟩

/-! ### tensor_Scale: function 23 -/
def tensor_Scale.l0 : Nat → Int → List Int → Int → Int → List Int → List Int → Option (List Int × List Int × Int)
 | 0, _, _, _, _, _, _ => none
 | k + 1, x1, x16, x17, x18, x294000, x294001 => if x18 < x17 then (if 0 ≤ x18 then (if x18 < (x16.length : Int) then ((fix_F_Mul.f k (rd x16 x18) x1).bind fun t295 => (if x18 < (x294001.length : Int) then (tensor_Scale.l0 k x1 x16 x17 (wrap64 (x18 + 1)) x294000 (x294001.set (x18 : Int).toNat t295)) else (none))) else (none)) else (none)) else (some (x294000, x294001, 0))
def tensor_Scale.f (k : Nat) (l0_0 : List Int) (l0_1 : List Int) (a1 : Int) : Option (List Int × List Int × Int) := (tensor_Grid_fix_F_Right.f k l0_0 l0_1).bind fun t286 => (if t286 = true then ((tensor_Grid_fix_F_Copy.f l0_0 l0_1).bind fun bt287 => (tensor_Scale.l0 k a1 l0_1 (l0_1.length : Int) 0 bt287.1 bt287.2)) else (some (([] : List Int), ([] : List Int), 20)))
theorem tensor_Scale.mono_l : ∀ k, (∀ y0 y1 y2 y3 y4 y5, LeO (tensor_Scale.l0 k y0 y1 y2 y3 y4 y5) (tensor_Scale.l0 (k + 1) y0 y1 y2 y3 y4 y5))
 | 0 => fun _ _ _ _ _ _ r h => by simp [tensor_Scale.l0] at h
 | k + 1 => by
  have ih0 := tensor_Scale.mono_l k
  ·intro y0 y1 y2 y3 y4 y5
   unfold tensor_Scale.l0
   repeat' first
   | (with_reducible exact ih0 _ _ _ _ _ _)
   | (with_reducible exact fix_F_Mul.mono _ _ _)
   | (with_reducible exact tensor_Grid_fix_F_Right.mono _ _ _)
   | (with_reducible exact LeO.refl _)
   | (with_reducible exact LeO.none _)
   | (with_reducible refine LeO.ite ?_ ?_)
   | (with_reducible refine LeO.bind ?_ (fun _ => ?_))
   | exact ih0 _ _ _ _ _ _
   | exact fix_F_Mul.mono _ _ _
   | exact tensor_Grid_fix_F_Right.mono _ _ _
   | exact LeO.none _
   | refine LeO.ite ?_ ?_
   | refine LeO.bind ?_ (fun _ => ?_)
theorem tensor_Scale.mono : ∀ a0 a1 a2 k, LeO (tensor_Scale.f k a0 a1 a2) (tensor_Scale.f (k + 1) a0 a1 a2) := by
 intro a0 a1 a2 k
 have ih0 := tensor_Scale.mono_l k
 unfold tensor_Scale.f
 repeat' first
   | (with_reducible exact ih0 _ _ _ _ _ _)
   | (with_reducible exact fix_F_Mul.mono _ _ _)
   | (with_reducible exact tensor_Grid_fix_F_Right.mono _ _ _)
   | (with_reducible exact LeO.refl _)
   | (with_reducible exact LeO.none _)
   | (with_reducible refine LeO.ite ?_ ?_)
   | (with_reducible refine LeO.bind ?_ (fun _ => ?_))
   | exact ih0 _ _ _ _ _ _
   | exact fix_F_Mul.mono _ _ _
   | exact tensor_Grid_fix_F_Right.mono _ _ _
   | exact LeO.none _
   | refine LeO.ite ?_ ?_
   | refine LeO.bind ?_ (fun _ => ?_)
def tensor_Scale.T7 : Bool × List (List Nat × List Nat) := (true, [([], []), ([0], [0]), ([], []), ([], []), ([], []), ([3, 4], [3, 4]), ([1, 2, 0, 1, 2, 3, 4, 5], [1, 2]), ([6, 5, 5, 0, 1, 2, 3, 4, 5], [5, 6])])
def tensor_Scale.B7 : List Nat := [0, 1, 0, 0, 0, 24, 63, 127]
theorem tensor_Scale.tab7 : rtab .any (opsOf Try.f23 7) = tensor_Scale.T7 := by kernel_rfl
theorem tensor_Scale.bits7 : waitsOk tensor_Scale.T7.2 tensor_Scale.B7 = true := by kernel_rfl
set_option maxHeartbeats 8000000 in
set_option maxRecDepth 100000 in
theorem tensor_Scale.calls (k : Nat) (A0_0 : Option Addr) (c0_0 : Nat) (l0_0 : List Int) (A0_1 : Option Addr) (c0_1 : Nat) (l0_1 : List Int) (a1 : Int) (r1 : List Int) (r2 : List Int) (r3 : Int) (w : World) (hr0_0 : Kd.C (Kd.int .i64) w A0_0 l0_0.length l0_0) (hc0_0 : l0_0.length ≤ c0_0) (hr0_1 : Kd.C (Kd.int .i64) w A0_1 l0_1.length l0_1) (hc0_1 : l0_1.length ≤ c0_1) (h : tensor_Scale.f k l0_0 l0_1 a1 = some (r1, r2, r3)) :
  Calls Try.prog 23 #[.agg #[.slice A0_0 l0_0.length c0_0, .slice A0_1 l0_1.length c0_1], .int .i64 a1] w fun e w' => ∃ v0_ v1_ : Value, e = .returned (.tuple #[.agg #[v0_, v1_], .int .i64 r3]) ∧ Kd.R (Kd.int .i64) 3 w' w.heap.size (fun _ => True) v0_ r1 ∧ Kd.R (Kd.int .i64) 27 w' w.heap.size (fun _ => True) v1_ r2 ∧ Below w.heap.size w w' := by
 have hu26 := Try.underlying26
 have HR0_0 := Aside0.mk hr0_0
 have HC0_0 := Aside0.mk hc0_0
 clear hr0_0 hc0_0
 have HR0_1 := Aside0.mk hr0_1
 have HC0_1 := Aside0.mk hc0_1
 clear hr0_1 hc0_1
 have HB := aM (Below.refl w.heap.size w)
 have H : ((tensor_Grid_fix_F_Right.f k l0_0 l0_1).bind fun t286 => (if t286 = true then ((tensor_Grid_fix_F_Copy.f l0_0 l0_1).bind fun bt287 => (tensor_Scale.l0 k a1 l0_1 (l0_1.length : Int) 0 bt287.1 bt287.2)) else (some (([] : List Int), ([] : List Int), 20)))) = some (r1, r2, r3) := h
 clear h
 replace H := Option.bind_eq_some_iff.mp H
 obtain ⟨t286, A30, H⟩ := H
 replace H : (if t286 = true then ((tensor_Grid_fix_F_Copy.f l0_0 l0_1).bind fun bt287 => (tensor_Scale.l0 k a1 l0_1 (l0_1.length : Int) 0 bt287.1 bt287.2)) else (some (([] : List Int), ([] : List Int), 20))) = some (r1, r2, r3) := H
 have A3 := Aside0.mk A30
 clear A30
 by_cases c4 : t286 = true
 ·subst c4
  have H1 : ((tensor_Grid_fix_F_Copy.f l0_0 l0_1).bind fun bt287 => (tensor_Scale.l0 k a1 l0_1 (l0_1.length : Int) 0 bt287.1 bt287.2)) = some (r1, r2, r3) := by rw [if_pos rfl] at H; exact H
  clear H
  have H := H1
  clear H1
  replace H := Option.bind_eq_some_iff.mp H
  obtain ⟨⟨t287, t290⟩, A50, H⟩ := H
  replace H : (tensor_Scale.l0 k a1 l0_1 (l0_1.length : Int) 0 t287 t290) = some (r1, r2, r3) := H
  have A5 := Aside0.mk A50
  clear A50
  have H' := Aside0.mk H
  clear H
  go_enter Try.func23, Try.ntmps23
  go_wp2_with (first | ((with_reducible refine gate_dst (N := 2) rfl ?_); refine box_event ?hg (N := 2) ?hd (cs := #[.slice A0_0 l0_0.length c0_0, .slice A0_1 l0_1.length c0_1]) (t := 26) ?hr ?_; (case hd => rfl); (case hg => rfl); (case hr => first | (go_simp; done) | (go_simp; rfl)); intro gb284 hg w6 hbox hb; have n0_ := aM (below_step (by repeat (first | (with_reducible first|exact HB.out|apply bA|apply bN|apply bD)|exact HB.out)) hb); have n1_ := aM (hbox); have n2_ := aM ((by rw [hg]; exact (below_size (by repeat (first | (with_reducible first|exact HB.out|apply bA|apply bN|apply bD)|exact HB.out))) : w.heap.size ≤ gb284)); have n3_ := aM ((by rw [hg]; exact (below_size (by repeat (first | (with_reducible first|exact HB.out|apply bA|apply bN|apply bD)|exact HB.out))) : w.heap.size ≤ gb284)); clear HB; have HB := n0_; have BK284 := n1_; have GW284 := n2_; have GE284 := n3_; clear n0_ n1_ n2_ n3_; clear hb hbox hg) | ((with_reducible refine gate_dst (N := 4) rfl ?_); refine box_event ?hg (N := 4) ?hd (cs := #[.slice none 0 0, .slice none 0 0]) (t := 26) ?hr ?_; (case hd => rfl); (case hg => rfl); (case hr => first | (go_simp; done) | (go_simp; rfl)); intro gb285 hg w7 hbox hb; have n0_ := aM (blk_below (g := gb284) (o := .cells #[.slice A0_0 l0_0.length c0_0, .slice A0_1 l0_1.length c0_1] 26 (0, 0)) (by (with_reducible repeat (first|apply kN|apply kD|apply kA)); exact BK284.out) hb); have n1_ := aM (below_step (by repeat (first | (with_reducible first|exact HB.out|apply bA|apply bN|apply bD|refine bS ?_ GE284.out)|exact HB.out)) hb); have n2_ := aM (hbox); have n3_ := aM ((by rw [hg]; exact (below_size (by repeat (first | (with_reducible first|exact HB.out|apply bA|apply bN|apply bD|refine bS ?_ GE284.out)|exact HB.out))) : w.heap.size ≤ gb285)); have n4_ := aM ((by rw [hg]; exact (below_size (by repeat (first | (with_reducible first|exact HB.out|apply bA|apply bN|apply bD|refine bS ?_ GE284.out)|exact HB.out))) : w.heap.size ≤ gb285)); have n5_ := aM ((by rw [hg]; exact Nat.ne_of_lt (blk_lt (g := gb284) (o := .cells #[.slice A0_0 l0_0.length c0_0, .slice A0_1 l0_1.length c0_1] 26 (0, 0)) (by (with_reducible repeat (first|apply kN|apply kD|apply kA)); exact BK284.out)) : gb284 ≠ gb285)); have n6_ := aM ((by rw [hg]; exact Nat.ne_of_gt (blk_lt (g := gb284) (o := .cells #[.slice A0_0 l0_0.length c0_0, .slice A0_1 l0_1.length c0_1] 26 (0, 0)) (by (with_reducible repeat (first|apply kN|apply kD|apply kA)); exact BK284.out)) : gb285 ≠ gb284)); clear BK284; clear HB; have BK284 := n0_; have HB := n1_; have BK285 := n2_; have GW285 := n3_; have GE285 := n4_; have NB284_285 := n5_; have NB285_284 := n6_; clear n0_ n1_ n2_ n3_ n4_ n5_ n6_; clear hb hbox hg; have hnb8 := NB284_285.out; have hnc8 := NB285_284.out; have hcz9_0 : w7.cell? ⟨gb284, 0, none⟩ = some (.slice A0_0 l0_0.length c0_0) := (blk_cell BK284.out 0).trans rfl; have hcz9_1 : w7.cell? ⟨gb284, 1, none⟩ = some (.slice A0_1 l0_1.length c0_1) := (blk_cell BK284.out 1).trans rfl; have hfz9_0 := blk_frozen BK284.out 0; have hfz9_1 := blk_frozen BK284.out 1) | ((with_reducible refine gate_callee (f := 13) rfl ?_); refine goesL_ (some 10) rfl rfl Try.func13 (by kernel_rfl) rfl #[.agg #[.slice A0_0 l0_0.length c0_0, .slice A0_1 l0_1.length c0_1]] rfl (by (try simp only [List.map_toArray, List.map_cons, List.map_nil]); first | done | rfl | (simp only [List.length_drop, List.length_take]; rfl)) ?_; (with_reducible refine (tensor_Grid_fix_F_Right.calls k _ _ l0_0 _ _ l0_1 true _ ?side1 ?side2 ?side3 ?side4 A3.out).mono ?_); (case side1 => repeat (first|exact (Kd.C_below HR0_0.out HB.out) | with_reducible first|apply cA|apply cN|apply cD)); (case side2 => exact HC0_0.out); (case side3 => repeat (first|exact (Kd.C_below HR0_1.out HB.out) | with_reducible first|apply cA|apply cN|apply cD)); (case side4 => exact HC0_1.out); rintro e w10 ⟨rfl, hb⟩; refine ⟨_, rfl, ?_⟩; have n0_ := aM (blk_below (g := gb284) (o := .cells #[.slice A0_0 l0_0.length c0_0, .slice A0_1 l0_1.length c0_1] 26 (0, 0)) (by (with_reducible repeat (first|apply kN|apply kD|apply kA)); exact BK284.out) hb); have n1_ := aM (blk_below (g := gb285) (o := .cells #[.slice none 0 0, .slice none 0 0] 26 (0, 0)) (by (with_reducible repeat (first|apply kN|apply kD|apply kA)); exact BK285.out) hb); have n2_ := aM (below_step (by repeat (first | (with_reducible first|exact HB.out|apply bA|apply bN|apply bD|refine bS ?_ GE284.out|refine bS ?_ GE285.out)|exact HB.out)) hb); clear BK284; clear BK285; clear HB; have BK284 := n0_; have BK285 := n1_; have HB := n2_; clear n0_ n1_ n2_; (try clear hb); have hcz11_0 : w10.cell? ⟨gb284, 0, none⟩ = some (.slice A0_0 l0_0.length c0_0) := (blk_cell BK284.out 0).trans rfl; have hcz11_1 : w10.cell? ⟨gb284, 1, none⟩ = some (.slice A0_1 l0_1.length c0_1) := (blk_cell BK284.out 1).trans rfl; have hfz11_0 := blk_frozen BK284.out 0; have hfz11_1 := blk_frozen BK284.out 1) | ((with_reducible refine gate_callee (f := 12) rfl ?_); refine goesL_ (some 14) rfl rfl Try.func12 (by kernel_rfl) rfl #[.agg #[.slice A0_0 l0_0.length c0_0, .slice A0_1 l0_1.length c0_1]] rfl (by (try simp only [List.map_toArray, List.map_cons, List.map_nil]); first | done | rfl | (simp only [List.length_drop, List.length_take]; rfl)) ?_; (with_reducible refine (tensor_Grid_fix_F_Copy.calls _ _ l0_0 _ _ l0_1 t287 t290 _ ?side1 ?side2 ?side3 ?side4 A5.out).mono ?_); (case side1 => repeat (first|exact (Kd.C_below HR0_0.out HB.out) | with_reducible first|apply cA|apply cN|apply cD)); (case side2 => exact HC0_0.out); (case side3 => repeat (first|exact (Kd.C_below HR0_1.out HB.out) | with_reducible first|apply cA|apply cN|apply cD)); (case side4 => exact HC0_1.out); rintro e w12 ⟨v288, v291, rfl, ho0, ho1, hb⟩; refine ⟨_, rfl, ?_⟩; have n0_ := aM (Kd.R_lower ho0 (below_size (by repeat (first | (with_reducible first|exact HB.out|apply bA|apply bN|apply bD|refine bS ?_ GE284.out|refine bS ?_ GE285.out)|exact HB.out)))); have n1_ := aM (Kd.R_lower ho1 (below_size (by repeat (first | (with_reducible first|exact HB.out|apply bA|apply bN|apply bD|refine bS ?_ GE284.out|refine bS ?_ GE285.out)|exact HB.out)))); have n2_ := aM (blk_below (g := gb284) (o := .cells #[.slice A0_0 l0_0.length c0_0, .slice A0_1 l0_1.length c0_1] 26 (0, 0)) (by (with_reducible repeat (first|apply kN|apply kD|apply kA)); exact BK284.out) hb); have n3_ := aM (blk_below (g := gb285) (o := .cells #[.slice none 0 0, .slice none 0 0] 26 (0, 0)) (by (with_reducible repeat (first|apply kN|apply kD|apply kA)); exact BK285.out) hb); have n4_ := aM (below_step (by repeat (first | (with_reducible first|exact HB.out|apply bA|apply bN|apply bD|refine bS ?_ GE284.out|refine bS ?_ GE285.out)|exact HB.out)) hb); clear BK284; clear BK285; clear HB; have HO289 := n0_; have HO292 := n1_; have BK284 := n2_; have BK285 := n3_; have HB := n4_; clear n0_ n1_ n2_ n3_ n4_; (try clear hb); (try clear ho0); (try clear ho1)) | ((with_reducible refine gate_dst (N := 6) rfl ?_); refine box_event ?hg (N := 6) ?hd (cs := #[.slice none 0 0, .slice none 0 0]) (t := 26) ?hr ?_; (case hd => rfl); (case hg => rfl); (case hr => first | (go_simp; done) | (go_simp; rfl)); intro gb293 hg w13 hbox hb; have n0_ := aM (Kd.R_below (by (with_reducible repeat (first|apply rA|apply rN|apply rD)); exact HO289.out) hb); have n1_ := aM (Kd.R_below (by (with_reducible repeat (first|apply rA|apply rN|apply rD)); exact HO292.out) hb); have n2_ := aM (blk_below (g := gb284) (o := .cells #[.slice A0_0 l0_0.length c0_0, .slice A0_1 l0_1.length c0_1] 26 (0, 0)) (by (with_reducible repeat (first|apply kN|apply kD|apply kA)); exact BK284.out) hb); have n3_ := aM (blk_below (g := gb285) (o := .cells #[.slice none 0 0, .slice none 0 0] 26 (0, 0)) (by (with_reducible repeat (first|apply kN|apply kD|apply kA)); exact BK285.out) hb); have n4_ := aM (below_step (by repeat (first | (with_reducible first|exact HB.out|apply bA|apply bN|apply bD|refine bS ?_ GE284.out|refine bS ?_ GE285.out)|exact HB.out)) hb); have n5_ := aM (hbox); have n6_ := aM ((by rw [hg]; exact (below_size (by repeat (first | (with_reducible first|exact HB.out|apply bA|apply bN|apply bD|refine bS ?_ GE284.out|refine bS ?_ GE285.out)|exact HB.out))) : w.heap.size ≤ gb293)); have n7_ := aM ((by rw [hg]; exact (below_size (by repeat (first | (with_reducible first|exact HB.out|apply bA|apply bN|apply bD|refine bS ?_ GE284.out|refine bS ?_ GE285.out)|exact HB.out))) : w.heap.size ≤ gb293)); have n8_ := aM ((by rw [hg]; exact Nat.ne_of_lt (blk_lt (g := gb284) (o := .cells #[.slice A0_0 l0_0.length c0_0, .slice A0_1 l0_1.length c0_1] 26 (0, 0)) (by (with_reducible repeat (first|apply kN|apply kD|apply kA)); exact BK284.out)) : gb284 ≠ gb293)); have n9_ := aM ((by rw [hg]; exact Nat.ne_of_gt (blk_lt (g := gb284) (o := .cells #[.slice A0_0 l0_0.length c0_0, .slice A0_1 l0_1.length c0_1] 26 (0, 0)) (by (with_reducible repeat (first|apply kN|apply kD|apply kA)); exact BK284.out)) : gb293 ≠ gb284)); have n10_ := aM ((by rw [hg]; exact Nat.ne_of_lt (blk_lt (g := gb285) (o := .cells #[.slice none 0 0, .slice none 0 0] 26 (0, 0)) (by (with_reducible repeat (first|apply kN|apply kD|apply kA)); exact BK285.out)) : gb285 ≠ gb293)); have n11_ := aM ((by rw [hg]; exact Nat.ne_of_gt (blk_lt (g := gb285) (o := .cells #[.slice none 0 0, .slice none 0 0] 26 (0, 0)) (by (with_reducible repeat (first|apply kN|apply kD|apply kA)); exact BK285.out)) : gb293 ≠ gb285)); clear HO289; clear HO292; clear BK284; clear BK285; clear HB; have HO289 := n0_; have HO292 := n1_; have BK284 := n2_; have BK285 := n3_; have HB := n4_; have BK293 := n5_; have GW293 := n6_; have GE293 := n7_; have NB284_293 := n8_; have NB293_284 := n9_; have NB285_293 := n10_; have NB293_285 := n11_; clear n0_ n1_ n2_ n3_ n4_ n5_ n6_ n7_ n8_ n9_ n10_ n11_; clear hb hbox hg; obtain ⟨Ao14, co14, eo14⟩ := Kd.R_slice HO289.out; subst eo14; have hnb15 := NB293_284.out; have hnc15 := NB284_293.out; have hnb16 := NB293_285.out; have hnc16 := NB285_293.out; have hcz17_0 : w13.cell? ⟨gb293, 0, none⟩ = some (.slice none 0 0) := (blk_cell BK293.out 0).trans rfl; have hcz17_1 : w13.cell? ⟨gb293, 1, none⟩ = some (.slice none 0 0) := (blk_cell BK293.out 1).trans rfl; have hfz17_0 := blk_frozen BK293.out 0; have hfz17_1 := blk_frozen BK293.out 1; obtain ⟨Ao18, co18, eo18⟩ := Kd.R_slice HO292.out; subst eo18; have hcz19_0 : w13.cell? ⟨gb284, 0, none⟩ = some (.slice A0_0 l0_0.length c0_0) := (blk_cell BK284.out 0).trans rfl; have hcz19_1 : w13.cell? ⟨gb284, 1, none⟩ = some (.slice A0_1 l0_1.length c0_1) := (blk_cell BK284.out 1).trans rfl; have hfz19_0 := blk_frozen BK284.out 0; have hfz19_1 := blk_frozen BK284.out 1))
  go_loopg [18] k (fun kq v18 w' => ∃ (x18_1 : Int) (x294001_1 : List Int) (u294001 : Value), v18 = .int .i64 x18_1 ∧ Aside0 (tensor_Scale.l0 kq a1 l0_1 (l0_1.length : Int) x18_1 t287 x294001_1 = some (r1, r2, r3)) ∧ Aside0 (kq ≤ k) ∧ Aside0 (Kd.R (Kd.int .i64) 3 w' w.heap.size (fun _ => True) (.slice Ao14 t287.length co14) t287) ∧ Aside0 (Kd.R (Kd.int .i64) 27 w' w.heap.size (fun _ => True) u294001 x294001_1) ∧ Aside0 (w'.heap[gb284]? = some (.cells #[(.slice A0_0 l0_0.length c0_0), (.slice A0_1 l0_1.length c0_1)] 26 (0, 0))) ∧ Aside0 (w'.heap[gb285]? = some (.cells #[(.slice none 0 0), (.slice none 0 0)] 26 (0, 0))) ∧ Aside0 (w'.heap[gb293]? = some (.cells #[(.slice Ao14 t287.length co14), u294001] 26 (0, 0))) ∧ Aside0 (Below w.heap.size w w'))
  case atStart => exact ⟨(0), (t290), (.slice Ao18 t290.length co18), (by first | rfl | (simp; done) | (simp [*]; done)), H', ⟨Nat.le_refl _⟩, ⟨by (with_reducible repeat (first|apply rA|apply rN|apply rD)); exact Kd.R_mono (Kd.R_far (p := ⟨gb293, 1, none⟩) (Kd.R_far (p := ⟨gb293, 0, none⟩) (Kd.R_types HO289.out BK293.out (by decide)) (fun _ hk => hk.2) (.slice Ao14 t287.length co14)) (fun _ hk => hk.2) (.slice Ao18 t290.length co18)) (fun _ hk => trivial)⟩, ⟨by (with_reducible repeat (first|apply rA|apply rN|apply rD)); exact Kd.R_mono (Kd.R_far (p := ⟨gb293, 1, none⟩) (Kd.R_far (p := ⟨gb293, 0, none⟩) (Kd.R_types HO292.out BK293.out (by decide)) (fun _ hk => hk.2) (.slice Ao14 t287.length co14)) (fun _ hk => hk.2) (.slice Ao18 t290.length co18)) (fun _ hk => trivial)⟩, ⟨by (with_reducible repeat (first|apply kN|apply kD|apply kA)); refine blk_far ?_ NB284_293.out _; (with_reducible repeat (first|apply kN|apply kD|apply kA)); refine blk_far ?_ NB284_293.out _; (with_reducible repeat (first|apply kN|apply kD|apply kA)); exact BK284.out⟩, ⟨by (with_reducible repeat (first|apply kN|apply kD|apply kA)); refine blk_far ?_ NB285_293.out _; (with_reducible repeat (first|apply kN|apply kD|apply kA)); refine blk_far ?_ NB285_293.out _; (with_reducible repeat (first|apply kN|apply kD|apply kA)); exact BK285.out⟩, ⟨by (with_reducible repeat (first|apply kN|apply kD|apply kA)); refine blk_put (cs := #[.slice Ao14 t287.length co14, .slice none 0 0]) ?_ 1 _ rfl; (with_reducible repeat (first|apply kN|apply kD|apply kA)); refine blk_put (cs := #[.slice none 0 0, .slice none 0 0]) ?_ 0 _ rfl; (with_reducible repeat (first|apply kN|apply kD|apply kA)); exact BK293.out⟩, ⟨by repeat (first | (with_reducible first|exact HB.out|apply bA|apply bN|apply bD|refine bS ?_ GE284.out|refine bS ?_ GE285.out|refine bS ?_ GE293.out)|exact HB.out)⟩⟩
  case round =>
   clear H'
   (try clear c4); (try clear hcz11_0); (try clear hcz11_1); (try clear hcz17_0); (try clear hcz17_1); (try clear hcz19_0); (try clear hcz19_1); (try clear hcz9_0); (try clear hcz9_1); (try clear hfz11_0); (try clear hfz11_1); (try clear hfz17_0); (try clear hfz17_1); (try clear hfz19_0); (try clear hfz19_1); (try clear hfz9_0); (try clear hfz9_1)
   obtain ⟨x18_1, x294001_1, u294001, rfl, HA, HK1, HO_294000, HO_294001, BK284, BK285, BK293, HB⟩ := hrel
   cases gk with
   | zero => exact absurd HA.out (by simp [tensor_Scale.l0])
   | succ k1 =>
    have H := HA.out
    clear HA
    simp only [tensor_Scale.l0] at H
    by_cases c20 : x18_1 < (l0_1.length : Int)
    ·rw [if_pos c20] at H
     have c20b0 : decide (x18_1 < (l0_1.length : Int)) = true := decide_eq_true c20
     clear c20
     by_cases c21 : 0 ≤ x18_1
     ·rw [if_pos c21] at H
      have c21b0 : decide (0 ≤ x18_1) = true := decide_eq_true c21
      clear c21
      by_cases c22 : x18_1 < (l0_1.length : Int)
      ·rw [if_pos c22] at H
       have c22b0 : decide (x18_1 < (l0_1.length : Int)) = true := decide_eq_true c22
       clear c22
       replace H := Option.bind_eq_some_iff.mp H
       obtain ⟨t295, A230, H⟩ := H
       replace H : (if x18_1 < (x294001_1.length : Int) then (tensor_Scale.l0 k1 a1 l0_1 (l0_1.length : Int) (wrap64 (x18_1 + 1)) t287 (x294001_1.set (x18_1 : Int).toNat t295)) else (none)) = some (r1, r2, r3) := H
       have A23 := Aside0.mk A230
       clear A230
       by_cases c24 : x18_1 < (x294001_1.length : Int)
       ·rw [if_pos c24] at H
        have c24b0 : decide (x18_1 < (x294001_1.length : Int)) = true := decide_eq_true c24
        clear c24
        obtain ⟨y296, hy296⟩ : ∃ y_ : List Int, y_ = (x294001_1.set (x18_1 : Int).toNat t295) := ⟨_, rfl⟩
        replace H : (tensor_Scale.l0 k1 a1 l0_1 (l0_1.length : Int) (wrap64 (x18_1 + 1)) t287 y296) = some (r1, r2, r3) := by first | (rw [hy296]; with_reducible exact H) | (have H2_ := (Option.bind_some _ _).symm.trans H; rw [hy296]; with_reducible exact H2_) | (have H2_ := (Option.bind_some _ _).symm.trans H; with_reducible exact H2_) | with_reducible exact H | (rw [hy296]; exact H)|exact H
        have Ny296 := Aside0.mk hy296
        clear hy296
        as_aux_lemma =>
         have H' := Aside0.mk H
         clear H
         have p294 : 0 ≤ (x18_1 : Int) := of_decide_eq_true (by first | (with_reducible assumption) | assumption)
         have q294 : x18_1 < (l0_1.length : Int) := of_decide_eq_true (by first | (with_reducible assumption) | assumption)
         obtain ⟨ad294, e294, hx294_0⟩ := Kd.at_int HR0_1.out x18_1 p294 q294
         cases e294
         replace hx294_0 := (HB.out.cell (World.block_lt_of_cell? w _ hx294_0)).trans hx294_0
         replace p294 := eq_true p294
         replace q294 := eq_true q294
         try go_wp2
         have n0_ := aM (Kd.R_drew HO_294000.out)
         have n1_ := aM (Kd.R_drew HO_294001.out)
         have n2_ := aM (blk_drew BK284.out)
         have n3_ := aM (blk_drew BK285.out)
         have n4_ := aM (blk_drew BK293.out)
         have n5_ := aM (below_drew1 HB.out)
         clear HO_294000
         clear HO_294001
         clear BK284
         clear BK285
         clear BK293
         clear HB
         have HO_294000 := n0_
         have HO_294001 := n1_
         have BK284 := n2_
         have BK285 := n3_
         have BK293 := n4_
         have HB := n5_
         clear n0_ n1_ n2_ n3_ n4_ n5_
         refine start_ (n := 8) (S := fun w' => w'.cell? ⟨gb293, 0, none⟩ = some (.slice Ao14 t287.length co14) ∧ w'.cell? ⟨gb293, 1, none⟩ = some (u294001)) (ds := [7]) #[false, false, false, false, false, false, false, false] (by kernel_rfl) rfl rfl ⟨(blk_cell BK293.out 0).trans rfl, (blk_cell BK293.out 1).trans rfl⟩ (fun hHeld => ?_); refine with_tabW tensor_Scale.tab7 tensor_Scale.bits7 (fun HT_ HW_ => ?_)
         generalize wr.drew = w26 at HO_294000 HO_294001 BK284 BK285 BK293 HB hHeld ⊢
         refine pure_ (i := 0) (N := some 23) (v := ?_) (a' := ?_) #[true, false, false, false, false, false, false, false] rfl rfl (any_of HT_.out (by kernel_rfl)) (fun _ _ _ h => h) (Or.inl ⟨by rfl, ?_⟩) ?_ ?_
         rotate_left
         ·intro w'
          go_simp
          with_reducible rfl
         rotate_left
         ·simp only [Act.put, List.setIfInBounds_toArray, List.set_cons_zero, List.set_cons_succ, i64_w, i32_w]
          rfl
         refine pure_ (i := 2) (N := some 25) (v := ?_) (a' := ?_) #[true, false, true, false, false, false, false, false] rfl rfl (any_of HT_.out (by kernel_rfl)) (fun _ _ _ h => h) (Or.inl ⟨by rfl, ?_⟩) ?_ ?_
         rotate_left
         ·intro w'
          go_simp
          with_reducible rfl
         rotate_left
         ·simp only [Act.put, List.setIfInBounds_toArray, List.set_cons_zero, List.set_cons_succ, i64_w, i32_w]
          rfl
         refine pure_ (i := 3) (N := some 26) (v := ?_) (a' := ?_) #[true, false, true, true, false, false, false, false] rfl rfl (any_of HT_.out (by kernel_rfl)) (fun _ _ _ h => h) (Or.inl ⟨by rfl, ?_⟩) ?_ ?_
         rotate_left
         ·intro w'
          go_simp
          with_reducible rfl
         rotate_left
         ·simp only [Act.put, List.setIfInBounds_toArray, List.set_cons_zero, List.set_cons_succ, i64_w, i32_w]
          rfl
         refine pure_ (i := 4) (N := some 27) (v := ?_) (a' := ?_) #[true, false, true, true, true, false, false, false] rfl rfl (any_of HT_.out (by kernel_rfl)) (fun _ _ _ h => h) (Or.inl ⟨by rfl, ?_⟩) ?_ ?_
         rotate_left
         ·intro w'
          go_simp
          with_reducible rfl
         rotate_left
         ·simp only [Act.put, List.setIfInBounds_toArray, List.set_cons_zero, List.set_cons_succ, i64_w, i32_w]
          rfl
         refine take_ (i := 1) (N := some 24) (v := ?_) (a' := ?_) #[true, true, true, true, true, false, false, false] rfl rfl (take_ofW HT_.out HW_.out (by kernel_rfl)) (fun _ _ _ h => h) (Or.inl ⟨by rfl, ?_⟩) hHeld ?_ ?_
         rotate_left
         ·rintro w' ⟨s0, s1⟩
          go_simp
          with_reducible rfl
         rotate_left
         ·simp only [Act.put, List.setIfInBounds_toArray, List.set_cons_zero, List.set_cons_succ, i64_w, i32_w]
          rfl
         refine one_ (i := 5) (N := some 28) #[true, true, true, true, true, true, false, false] rfl rfl (one_of HT_.out (by kernel_rfl)) (by decide) (fun K hK => ?_)
         refine goes_ Try.func46 (by kernel_rfl) rfl #[.int .i64 (rd l0_1 x18_1), .int .i64 a1] (by rfl) rfl rfl (by (try simp only [List.map_toArray, List.map_cons, List.map_nil]); first | done | rfl | (simp only [List.length_drop, List.length_take]; rfl)) ?_
         with_reducible refine (fix_F_Mul.calls k1 (rd l0_1 x18_1) a1 t295 _ A23.out).mono ?_
         rintro e w' ⟨rfl, ⟨nd, rfl⟩⟩
         refine ⟨_, rfl, ?_⟩
         have p25 : 0 ≤ (x18_1 : Int) := of_decide_eq_true (by first | (with_reducible assumption) | assumption)
         have q25 : (x18_1 : Int) < ((x294001_1.length : Int) : Int) := of_decide_eq_true (by first | (with_reducible assumption) | assumption)
         obtain ⟨go25, co25, eo25, gb25, gl25, cl25, HG25⟩ := Kd.R_form HO_294001.out (by omega)
         (first | cases eo25 | (injection eo25 with ea_ en_ ec_; (first | subst ea_ | (injection ea_ with ea_; subst ea_)); subst ec_; clear en_))
         have GB25 := Aside0.mk gb25
         have GG25 := Aside0.mk HG25
         clear gb25 gl25 HG25
         obtain ⟨hx25_0, hf25_0⟩ := Kd.R_celln 0 HO_294001.out (x18_1 : Int) p25 q25
         replace p25 := eq_true p25
         replace q25 := eq_true q25
         have HP27 := Kd.R_putn HO_294001.out (x18_1 : Int) t295
         rw [← Ny296.out] at HP27
         have HQ27 := Aside0.mk HP27
         clear HP27
         refine hK.out _ _ ⟨(blk_cell BK293.out 0).trans rfl, (blk_cell BK293.out 1).trans rfl⟩ (fun hHeld => ?_)
         clear hK K
         refine norm_ (a' := ?_) ?_ ?_
         rotate_left
         ·show Act.put _ (some 28) _ = _
          simp only [Act.put, List.setIfInBounds_toArray, List.set_cons_zero, List.set_cons_succ, i64_w, i32_w]
          rfl
         refine pure_ (i := 6) (N := some 29) (v := ?_) (a' := ?_) #[true, true, true, true, true, true, true, false] rfl rfl (any_of HT_.out (by kernel_rfl)) (fun _ _ _ h => h) (Or.inl ⟨by rfl, ?_⟩) ?_ ?_
         rotate_left
         ·intro w'
          go_simp
          with_reducible rfl
         rotate_left
         ·simp only [Act.put, List.setIfInBounds_toArray, List.set_cons_zero, List.set_cons_succ, i64_w, i32_w]
          rfl
         refine last_ (i := 7) (N := none) #[true, true, true, true, true, true, true, true] rfl rfl (one_of HT_.out (by kernel_rfl)) (by decide) (fun K hK => ?_)
         refine skip_ (w1 := ?_) (by rfl) rfl ?_ ?_
         rotate_left
         ·go_simp
          rfl
         refine hK.out _ _ ?_
         clear hK K
         refine done_ (done_of HT_.out (by kernel_rfl)) ?_
         try go_wp2
         go_roundg k1
         case measure => have := HK1.out; omega
         case rel => exact ⟨(wrap64 (x18_1 + 1)), (y296), (.slice (some ⟨go25, 0, none⟩) x294001_1.length co25), (by first | rfl | (simp; done) | (simp [*]; done)), H', ⟨by have := HK1.out; omega⟩, ⟨by (with_reducible repeat (first|apply rA|apply rN|apply rD)); exact Kd.R_mono (Kd.R_far (p := ⟨go25, (x18_1 : Int).toNat, none⟩) (Kd.R_types HO_294000.out GG25.out (by decide)) (fun _ hk => hk.2) (.int .i64 t295)) (fun _ hk => trivial)⟩, ⟨by (with_reducible repeat (first|apply rA|apply rN|apply rD)); exact HQ27.out⟩, ⟨by (with_reducible repeat (first|apply kN|apply kD|apply kA)); refine blk_far ?_ (by have h_ := Kd.R_ne HO_294001.out BK284.out (by decide); intro e_; exact h_ (by rw [e_]; rfl)) _; (with_reducible repeat (first|apply kN|apply kD|apply kA)); exact BK284.out⟩, ⟨by (with_reducible repeat (first|apply kN|apply kD|apply kA)); refine blk_far ?_ (by have h_ := Kd.R_ne HO_294001.out BK285.out (by decide); intro e_; exact h_ (by rw [e_]; rfl)) _; (with_reducible repeat (first|apply kN|apply kD|apply kA)); exact BK285.out⟩, ⟨by (with_reducible repeat (first|apply kN|apply kD|apply kA)); refine blk_far ?_ (by have h_ := Kd.R_ne HO_294001.out BK293.out (by decide); intro e_; exact h_ (by rw [e_]; rfl)) _; (with_reducible repeat (first|apply kN|apply kD|apply kA)); exact BK293.out⟩, ⟨by repeat (first | (with_reducible first|exact HB.out|apply bA|apply bN|apply bD|refine bS ?_ GB25.out|refine bS ?_ GE284.out|refine bS ?_ GE285.out|refine bS ?_ GE293.out)|exact HB.out)⟩⟩
       ·rw [if_neg c24] at H
        exact absurd H (by simp)
      ·rw [if_neg c22] at H
       exact absurd H (by simp)
     ·rw [if_neg c21] at H
      exact absurd H (by simp)
    ·rw [if_neg c20] at H
     have c20b0 : decide (x18_1 < (l0_1.length : Int)) = false := decide_eq_false c20
     clear c20
     as_aux_lemma =>
      simp only [Option.some.injEq, Prod.mk.injEq] at H
      obtain ⟨rfl, rfl, rfl⟩ := H
      have hnb28 := NB293_284.out
      have hnc28 := NB284_293.out
      have hnb29 := NB293_285.out
      have hnc29 := NB285_293.out
      have hcz30_0 : wr.cell? ⟨gb293, 0, none⟩ = some (.slice Ao14 t287.length co14) := (blk_cell BK293.out 0).trans rfl
      have hcz30_1 : wr.cell? ⟨gb293, 1, none⟩ = some (u294001) := (blk_cell BK293.out 1).trans rfl
      have hfz30_0 := blk_frozen BK293.out 0
      have hfz30_1 := blk_frozen BK293.out 1
      have hnb31 := NB285_284.out
      have hnc31 := NB284_285.out
      have hcz32_0 : wr.cell? ⟨gb285, 0, none⟩ = some (.slice none 0 0) := (blk_cell BK285.out 0).trans rfl
      have hcz32_1 : wr.cell? ⟨gb285, 1, none⟩ = some (.slice none 0 0) := (blk_cell BK285.out 1).trans rfl
      have hfz32_0 := blk_frozen BK285.out 0
      have hfz32_1 := blk_frozen BK285.out 1
      obtain ⟨Ao33, co33, eo33⟩ := Kd.R_slice HO_294001.out
      subst eo33
      go_wp2
      refine bodyPost_ret (results_ct rfl _ _ gb285 26 #[.slice Ao14 t287.length co14, .slice Ao33 x294001_1.length co33] (0, 0) _ rfl (by (with_reducible repeat (first|apply kN|apply kD|apply kA)); refine blk_put (cs := #[.slice Ao14 t287.length co14, .slice none 0 0]) ?_ 1 _ rfl; (with_reducible repeat (first|apply kN|apply kD|apply kA)); refine blk_put (cs := #[.slice none 0 0, .slice none 0 0]) ?_ 0 _ rfl; (with_reducible repeat (first|apply kN|apply kD|apply kA)); exact BK285.out) Try.underlying26 rfl (by kernel_rfl)) rfl ?_
      exact ⟨_, _, by first | rfl | (simp [errW_none, errW_some] <;> rfl) | (simp [*, errW_none, errW_some] <;> rfl), by (with_reducible repeat (first|apply rA|apply rN|apply rD)); exact Kd.R_mono (Kd.R_far (p := ⟨gb285, 1, none⟩) (Kd.R_far (p := ⟨gb285, 0, none⟩) (Kd.R_types HO_294000.out BK285.out (by decide)) (fun _ hk => hk.2) (.slice Ao14 t287.length co14)) (fun _ hk => hk.2) (.slice Ao33 x294001_1.length co33)) (fun _ hk => trivial), by (with_reducible repeat (first|apply rA|apply rN|apply rD)); exact Kd.R_mono (Kd.R_far (p := ⟨gb285, 1, none⟩) (Kd.R_far (p := ⟨gb285, 0, none⟩) (Kd.R_types HO_294001.out BK285.out (by decide)) (fun _ hk => hk.2) (.slice Ao14 t287.length co14)) (fun _ hk => hk.2) (.slice Ao33 x294001_1.length co33)) (fun _ hk => trivial), by repeat (first | (with_reducible first|exact HB.out|apply bA|apply bN|apply bD|refine bS ?_ GE284.out|refine bS ?_ GE285.out|refine bS ?_ GE293.out)|exact HB.out)⟩
 ·replace c4 := Bool.eq_false_iff.mpr c4
  subst c4
  have H1 : (some (([] : List Int), ([] : List Int), 20)) = some (r1, r2, r3) := by rw [if_neg (show ¬ (false = true) by decide)] at H; exact H
  clear H
  have H := H1
  clear H1
  as_aux_lemma =>
   simp only [Option.some.injEq, Prod.mk.injEq] at H
   obtain ⟨rfl, rfl, rfl⟩ := H
   go_enter Try.func23, Try.ntmps23
   go_wp2_with (first | ((with_reducible refine gate_dst (N := 2) rfl ?_); refine box_event ?hg (N := 2) ?hd (cs := #[.slice A0_0 l0_0.length c0_0, .slice A0_1 l0_1.length c0_1]) (t := 26) ?hr ?_; (case hd => rfl); (case hg => rfl); (case hr => first | (go_simp; done) | (go_simp; rfl)); intro gb284 hg w34 hbox hb; have n0_ := aM (below_step (by repeat (first | (with_reducible first|exact HB.out|apply bA|apply bN|apply bD)|exact HB.out)) hb); have n1_ := aM (hbox); have n2_ := aM ((by rw [hg]; exact (below_size (by repeat (first | (with_reducible first|exact HB.out|apply bA|apply bN|apply bD)|exact HB.out))) : w.heap.size ≤ gb284)); have n3_ := aM ((by rw [hg]; exact (below_size (by repeat (first | (with_reducible first|exact HB.out|apply bA|apply bN|apply bD)|exact HB.out))) : w.heap.size ≤ gb284)); clear HB; have HB := n0_; have BK284 := n1_; have GW284 := n2_; have GE284 := n3_; clear n0_ n1_ n2_ n3_; clear hb hbox hg) | ((with_reducible refine gate_dst (N := 4) rfl ?_); refine box_event ?hg (N := 4) ?hd (cs := #[.slice none 0 0, .slice none 0 0]) (t := 26) ?hr ?_; (case hd => rfl); (case hg => rfl); (case hr => first | (go_simp; done) | (go_simp; rfl)); intro gb285 hg w35 hbox hb; have n0_ := aM (blk_below (g := gb284) (o := .cells #[.slice A0_0 l0_0.length c0_0, .slice A0_1 l0_1.length c0_1] 26 (0, 0)) (by (with_reducible repeat (first|apply kN|apply kD|apply kA)); exact BK284.out) hb); have n1_ := aM (below_step (by repeat (first | (with_reducible first|exact HB.out|apply bA|apply bN|apply bD|refine bS ?_ GE284.out)|exact HB.out)) hb); have n2_ := aM (hbox); have n3_ := aM ((by rw [hg]; exact (below_size (by repeat (first | (with_reducible first|exact HB.out|apply bA|apply bN|apply bD|refine bS ?_ GE284.out)|exact HB.out))) : w.heap.size ≤ gb285)); have n4_ := aM ((by rw [hg]; exact (below_size (by repeat (first | (with_reducible first|exact HB.out|apply bA|apply bN|apply bD|refine bS ?_ GE284.out)|exact HB.out))) : w.heap.size ≤ gb285)); have n5_ := aM ((by rw [hg]; exact Nat.ne_of_lt (blk_lt (g := gb284) (o := .cells #[.slice A0_0 l0_0.length c0_0, .slice A0_1 l0_1.length c0_1] 26 (0, 0)) (by (with_reducible repeat (first|apply kN|apply kD|apply kA)); exact BK284.out)) : gb284 ≠ gb285)); have n6_ := aM ((by rw [hg]; exact Nat.ne_of_gt (blk_lt (g := gb284) (o := .cells #[.slice A0_0 l0_0.length c0_0, .slice A0_1 l0_1.length c0_1] 26 (0, 0)) (by (with_reducible repeat (first|apply kN|apply kD|apply kA)); exact BK284.out)) : gb285 ≠ gb284)); clear BK284; clear HB; have BK284 := n0_; have HB := n1_; have BK285 := n2_; have GW285 := n3_; have GE285 := n4_; have NB284_285 := n5_; have NB285_284 := n6_; clear n0_ n1_ n2_ n3_ n4_ n5_ n6_; clear hb hbox hg; have hnb36 := NB284_285.out; have hnc36 := NB285_284.out; have hcz37_0 : w35.cell? ⟨gb284, 0, none⟩ = some (.slice A0_0 l0_0.length c0_0) := (blk_cell BK284.out 0).trans rfl; have hcz37_1 : w35.cell? ⟨gb284, 1, none⟩ = some (.slice A0_1 l0_1.length c0_1) := (blk_cell BK284.out 1).trans rfl; have hfz37_0 := blk_frozen BK284.out 0; have hfz37_1 := blk_frozen BK284.out 1) | ((with_reducible refine gate_callee (f := 13) rfl ?_); refine goesL_ (some 10) rfl rfl Try.func13 (by kernel_rfl) rfl #[.agg #[.slice A0_0 l0_0.length c0_0, .slice A0_1 l0_1.length c0_1]] rfl (by (try simp only [List.map_toArray, List.map_cons, List.map_nil]); first | done | rfl | (simp only [List.length_drop, List.length_take]; rfl)) ?_; (with_reducible refine (tensor_Grid_fix_F_Right.calls k _ _ l0_0 _ _ l0_1 false _ ?side1 ?side2 ?side3 ?side4 A3.out).mono ?_); (case side1 => repeat (first|exact (Kd.C_below HR0_0.out HB.out) | with_reducible first|apply cA|apply cN|apply cD)); (case side2 => exact HC0_0.out); (case side3 => repeat (first|exact (Kd.C_below HR0_1.out HB.out) | with_reducible first|apply cA|apply cN|apply cD)); (case side4 => exact HC0_1.out); rintro e w38 ⟨rfl, hb⟩; refine ⟨_, rfl, ?_⟩; have n0_ := aM (blk_below (g := gb284) (o := .cells #[.slice A0_0 l0_0.length c0_0, .slice A0_1 l0_1.length c0_1] 26 (0, 0)) (by (with_reducible repeat (first|apply kN|apply kD|apply kA)); exact BK284.out) hb); have n1_ := aM (blk_below (g := gb285) (o := .cells #[.slice none 0 0, .slice none 0 0] 26 (0, 0)) (by (with_reducible repeat (first|apply kN|apply kD|apply kA)); exact BK285.out) hb); have n2_ := aM (below_step (by repeat (first | (with_reducible first|exact HB.out|apply bA|apply bN|apply bD|refine bS ?_ GE284.out|refine bS ?_ GE285.out)|exact HB.out)) hb); clear BK284; clear BK285; clear HB; have BK284 := n0_; have BK285 := n1_; have HB := n2_; clear n0_ n1_ n2_; (try clear hb); have hcz39_0 : w38.cell? ⟨gb285, 0, none⟩ = some (.slice none 0 0) := (blk_cell BK285.out 0).trans rfl; have hcz39_1 : w38.cell? ⟨gb285, 1, none⟩ = some (.slice none 0 0) := (blk_cell BK285.out 1).trans rfl; have hfz39_0 := blk_frozen BK285.out 0; have hfz39_1 := blk_frozen BK285.out 1))
   refine bodyPost_ret (results_ct rfl _ _ gb285 26 #[.slice none 0 0, .slice none 0 0] (0, 0) _ rfl (by (with_reducible repeat (first|apply kN|apply kD|apply kA)); refine blk_put (cs := #[.slice none 0 0, .slice none 0 0]) ?_ 1 _ rfl; (with_reducible repeat (first|apply kN|apply kD|apply kA)); refine blk_put (cs := #[.slice none 0 0, .slice none 0 0]) ?_ 0 _ rfl; (with_reducible repeat (first|apply kN|apply kD|apply kA)); exact BK285.out) Try.underlying26 rfl (by kernel_rfl)) rfl ?_
   exact ⟨_, _, by first | rfl | (simp [errW_none, errW_some] <;> rfl) | (simp [*, errW_none, errW_some] <;> rfl), by first|exact Kd.R_nil _ _ _ _ _|exact Kd.N_nil _ _ _ _ _|exact Kd.V_nil _ _ _ _ _|exact Kd.Q_nil _ _ _ _ _|exact Kd.S_nil _ _ _ _ _, by first|exact Kd.R_nil _ _ _ _ _|exact Kd.N_nil _ _ _ _ _|exact Kd.V_nil _ _ _ _ _|exact Kd.Q_nil _ _ _ _ _|exact Kd.S_nil _ _ _ _ _, by repeat (first | (with_reducible first|exact HB.out|apply bA|apply bN|apply bD|refine bS ?_ GE284.out|refine bS ?_ GE285.out)|exact HB.out)⟩

end Go.Proofs.Ytmekcfmhaflghaa.PTenS
