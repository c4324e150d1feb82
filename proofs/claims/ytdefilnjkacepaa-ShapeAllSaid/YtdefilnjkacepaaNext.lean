/- What athanorref03.Next answers: the place behind a place. Conditions: at most four sides; indices from 0 to 1024. -/
import Derived.Test.YtdefilnjkacepaaAt
import Derived.Test.YtdefilnjkacepaaAuto
import Derived.Test.YtdefilnjkacepaaAidList
import Derived.Lib.Hide
set_option linter.unusedVariables false
set_option linter.unusedSimpArgs false
namespace Go.Proofs.Ytdefilnjkacepaa.NextW
open Go.RowKit Go.Shelf Go.Proofs Go.Proofs.Ytdefilnjkacepaa.PAll Go.Proofs.Ytdefilnjkacepaa.Auto Go.Proofs.Ytdefilnjkacepaa.Aid Go.Proofs.Ytdefilnjkacepaa.AidList Go.Proofs.YtdefilnjkacepaaW.PrintWords Go.Proofs.YtdefilnjkacepaaW.PrintLast Go.Proofs.YtdefilnjkacepaaW.PrintMore
/-- The place behind a place; true: it was the last one. -/
def inc : List Int → List Int → List Int × Bool
  | x :: s, a :: t => if (inc s t).2 = true then (if a + 1 < x then ((a + 1) :: (inc s t).1, false) else (0 :: (inc s t).1, true)) else (a :: (inc s t).1, false)
  | _, _ => ([], true)
theorem inc_cons (x a : Int) (s t : List Int) : inc (x :: s) (a :: t) = if (inc s t).2 = true then (if a + 1 < x then ((a + 1) :: (inc s t).1, false) else (0 :: (inc s t).1, true)) else (a :: (inc s t).1, false) := rfl
theorem inc_length : ∀ (s t : List Int), s.length = t.length → (inc s t).1.length = t.length := by
  intro s
  induction s with
  | nil => intro t h; cases t <;> simp_all [inc]
  | cons x s ih =>
    intro t h
    cases t with
    | nil => simp at h
    | cons a t =>
      have := ih t (by simpa using h)
      unfold inc
      split
      · split <;> simp [this]
      · simp [this]
theorem inc_prefix : ∀ (p : Nat) (s t : List Int), s.length = t.length → p ≤ s.length → (inc (s.drop p) (t.drop p)).2 = false → inc s t = (t.take p ++ (inc (s.drop p) (t.drop p)).1, false) := by
  intro p
  induction p with
  | zero => intro s t _ _ h; simp only [List.drop_zero] at h ⊢; rw [← h]; simp
  | succ p ih =>
    intro s t hl hp h
    cases s with
    | nil => simp at hp
    | cons x s =>
      cases t with
      | nil => simp at hl
      | cons a t =>
        have h1 := ih s t (by simpa using hl) (by simpa using hp) (by simpa using h)
        rw [inc_cons, h1]
        simp
theorem inc_step (s t : List Int) (p : Nat) (hl : s.length = t.length) (hp : p < s.length) (h : inc (s.drop (p + 1)) (t.drop (p + 1)) = (List.replicate (s.length - (p + 1)) 0, true)) :
    inc (s.drop p) (t.drop p) = if rd t (p : Int) + 1 < rd s (p : Int) then ((rd t (p : Int) + 1) :: List.replicate (s.length - (p + 1)) 0, false) else (List.replicate (s.length - p) 0, true) := by
  rw [List.drop_eq_getElem_cons hp, List.drop_eq_getElem_cons (show p < t.length by omega), rd_nat s p hp, rd_nat t p (by omega)]
  simp only [inc, h, if_true]
  split
  · rfl
  · rw [show s.length - p = (s.length - (p + 1)) + 1 by omega, List.replicate_succ]
def cont (t : List Int) (m k : Nat) : List Int := t.take (m - k) ++ List.replicate k 0
theorem cont_rd (t : List Int) (k p : Nat) (hk : p + 1 + k = t.length) : rd (cont t t.length k) (p : Int) = rd t (p : Int) := by
  rw [rd_nat t p (by omega), rd_nat _ p (by simp [cont]; omega)]
  simp only [cont]
  rw [List.getElem_append_left (by rw [List.length_take]; omega), List.getElem_take]
theorem cont_set (t : List Int) (k p : Nat) (x : Int) (hk : p + 1 + k = t.length) : (cont t t.length k).set p x = t.take p ++ x :: List.replicate k 0 := by
  simp only [cont]
  rw [show t.length - k = p + 1 by omega, List.take_succ_eq_append_getElem (show p < t.length by omega), List.append_assoc, List.set_append_right _ _ (by rw [List.length_take]; omega), List.length_take, show p - min p t.length = 0 by omega]
  rfl
theorem cont_next (t : List Int) (k p : Nat) (hk : p + 1 + k = t.length) : t.take p ++ (0 : Int) :: List.replicate k 0 = cont t t.length (k + 1) := by
  simp only [cont]
  rw [show t.length - (k + 1) = p by omega, List.replicate_succ]
set_option maxRecDepth 100000 in
set_option maxHeartbeats 4000000 in
theorem next_any (A A' : Option Addr) (c c' : Nat) (s t : List Int) (w : World) (hr : Kd.C (Kd.int .i64) w A s.length s) (hc : s.length ≤ c) (hr' : Kd.C (Kd.int .i64) w A' t.length t) (hc' : t.length ≤ c') (hl : s.length = t.length) (h4 : t.length ≤ 4) (hb : ∀ x ∈ t, 0 ≤ x ∧ x ≤ 1024) :
    Calls Try.prog 35 #[.slice A s.length c, .slice A' t.length c'] w fun e w' => ∃ v : Value, e = .returned v ∧ Kd.R (Kd.int .i64) 3 w' w.heap.size (fun _ => True) v (inc s t).1 ∧ Below w.heap.size w w' := by
  have hmx : Try.prog.follows .mixedOrders = true := by kernel_rfl
  have hmk := AtW.make_run t.length h4
  have HL := Aside0.mk (And.intro hl (And.intro h4 hb))
  have HR := Aside0.mk hr
  have HR' := Aside0.mk hr'
  have hmm : (t.length : Int) ≤ 4 := by omega
  have hms : (s.length : Int) ≤ 4 := by omega
  clear hr hr' hl hb hc hc'
  go_enter Try.func35, Try.ntmps35
  go_wp2_with (refine Kd.R_copy (enc := Value.int .i64) (h1 := fun _ => rfl) (0 : Int) (w0 := w) w.heap.size rfl (.tmp 10) (.tmp 11) 22 22 3 rfl Try.underlying22 (by kernel_rfl) (.slice (some ⟨w.heap.size, 0, none⟩) t.length t.length) (List.replicate t.length 0) t A' t.length c' (fun k => k = w.heap.size) rfl rfl (AtW.made_R t.length HL.out.2.1 w w.heap.size (Nat.le_refl _)) (Kd.C_alloc HR'.out _) (belA w _) (by simp) ?_; intro w1 hR1 hB1 hg1)
  have hR2 : Kd.R (Kd.int .i64) 3 w1 w.heap.size (fun k => k = w.heap.size) (.slice (some ⟨w.heap.size, 0, none⟩) t.length t.length) (cont t t.length 0) := by
    have e : List.take (min t.length (List.replicate t.length (0 : Int)).length) t ++ List.drop (min t.length (List.replicate t.length (0 : Int)).length) (List.replicate t.length 0) = cont t t.length 0 := by simp [cont]
    rw [e] at hR1
    exact hR1
  have KW := Aside0.mk (And.intro hR2 hB1)
  clear hR1 hR2 hB1 hg1
  go_loopw [6] (fun i wr => ∃ k : Nat, Aside0 (k ≤ t.length ∧ inc (s.drop (t.length - k)) (t.drop (t.length - k)) = (List.replicate k 0, true)) ∧ i = .int .i64 ((t.length : Int) - 1 - k) ∧
    Aside0 (Kd.R (Kd.int .i64) 3 wr w.heap.size (fun b => b = w.heap.size) (.slice (some ⟨w.heap.size, 0, none⟩) t.length t.length) (cont t t.length k) ∧ Below w.heap.size w wr)) (fun i _ => (intOf i + 1).toNat)
  case atStart => exact ⟨0, ⟨Nat.zero_le _, by rw [Nat.sub_zero, List.drop_eq_nil_of_le (Nat.le_refl _), List.drop_eq_nil_of_le (by rw [HL.out.1]; exact Nat.le_refl _)]; rfl⟩, by have := HL.out.1; rw [this]; simp, KW⟩
  case round =>
    obtain ⟨k, HK, rfl, KR⟩ := hrel
    clear KW
    by_cases hlt : k < t.length
    · obtain ⟨p, hp⟩ : ∃ p, p + 1 + k = t.length := ⟨t.length - 1 - k, by omega⟩
      have hpi : (t.length : Int) - 1 - k = (p : Int) := by omega
      rw [hpi]
      obtain ⟨x, hx⟩ : ∃ x, rd t (p : Int) = x := ⟨_, rfl⟩
      obtain ⟨y, hy⟩ : ∃ y, rd s (p : Int) = y := ⟨_, rfl⟩
      have hx01 : 0 ≤ x ∧ x ≤ 1024 := by rw [← hx, rd_nat t p (by omega)]; exact HL.out.2.2 _ (List.getElem_mem _)
      have hx0 := hx01.1
      have hx1 := hx01.2
      obtain ⟨hcell, hfroz⟩ := Kd.R_celln (0 : Int) KR.out.1 (p : Int) (by omega) (by omega)
      have hcr : rdOf (0 : Int) (cont t t.length k) (p : Int) = x := by rw [← hx]; exact cont_rd t k p hp
      rw [hcr, Int.toNat_natCast] at hcell
      rw [Int.toNat_natCast] at hfroz
      have hRs := Kd.R_putn KR.out.1 (p : Int) (x + 1)
      rw [Int.toNat_natCast, cont_set t k p (x + 1) hp] at hRs
      have hBs := KR.out.2.setCell (p := ⟨w.heap.size, p, none⟩) (Nat.le_refl _) (Value.int .i64 (x + 1))
      have hCs := Kd.C_below HR.out (hBs)
      obtain ⟨ad, eA, hsc⟩ := Kd.at_int hCs (p : Int) (by omega) (by rw [HL.out.1]; omega)
      cases eA
      rw [Int.toNat_natCast, hy] at hsc
      have hsc' := addcell hsc
      have HP := Aside0.mk (And.intro hp (And.intro hx hy))
      have HRS := Aside0.mk (And.intro hRs hBs)
      have hi0 := eq_true (show (0 : Int) ≤ (p : Int) by omega)
      have hi1 := eq_true (show (p : Int) < (t.length : Int) by omega)
      have hi2 := eq_true (show p < t.length by omega)
      have hi3 := eq_true (show (p : Int) < (s.length : Int) by rw [HL.out.1]; omega)
      have hi4 := eq_true (show p < s.length by rw [HL.out.1]; omega)
      have hp4 : (p : Int) ≤ 4 := by omega
      have hic := inc_step s t p HL.out.1 (by rw [HL.out.1]; omega) (by rw [HL.out.1, show t.length - (p + 1) = k by omega, show p + 1 = t.length - k by omega]; exact HK.out.2)
      rw [hx, hy, HL.out.1, show t.length - (p + 1) = k by omega] at hic
      have HIC := Aside0.mk hic
      clear hRs hBs hCs hic hcr hx hy hp hpi hx01 hlt
      by_cases hc : x + 1 < y
      · have hcd : decide (x + 1 < y) = true := decide_eq_true hc
        go_wp2
        refine startO [(0, some 26), (1, some 27), (2, some 28), (3, some 29), (4, some 30), (5, some 31), (6, some 32), (7, some 33), (8, some 34)] (n := 9)
          (S := fun W => W.cell? ⟨w.heap.size, p, none⟩ = some (.int .i64 (x + 1)) ∧ W.cell? (ad.add p) = some (.int .i64 y)) (ds := []) hmx rfl (by kernel_rfl) ⟨by go_simp, hsc⟩ (fun hS => ?_)
        clear hcell hfroz hsc hsc'
        iterate 9 (first
         | (refine pureO rfl rfl (by kernel_rfl) (by exact fun _ _ _ h => h) (Or.inr ⟨by rfl, rfl⟩) (by simp only [Act.put, List.setIfInBounds_toArray, List.set_cons_zero, List.set_cons_succ]; rfl) ?_)
         | (refine pureO rfl rfl (by kernel_rfl) (by exact fun _ _ _ h => h) (Or.inl ⟨by rfl, by intro w_; go_simp; with_reducible rfl⟩) (by simp only [Act.put, List.setIfInBounds_toArray, List.set_cons_zero, List.set_cons_succ]; rfl) ?_)
         | (refine takeO rfl rfl (by kernel_rfl) (by exact fun _ _ _ h => h) hS (Or.inl ⟨by rfl, by rintro w_ ⟨s0_, s1_⟩; go_simp; with_reducible rfl⟩) (by simp only [Act.put, List.setIfInBounds_toArray, List.set_cons_zero, List.set_cons_succ]; rfl) ?_))
        refine doneO (by kernel_rfl) ?_
        clear hS
        go_wp2
        go_ret
        refine ⟨_, rfl, ?_, HRS.out.2.drew⟩
        have h1 := HIC.out
        rw [if_pos hc] at h1
        have h2 := inc_prefix p s t HL.out.1 (by have := HL.out.1; have := HP.out.1; omega) (by rw [h1])
        rw [h2, h1]
        exact Kd.R_mono (Kd.R_drew HRS.out.1) (fun _ _ => trivial)
      · have hcd : decide (x + 1 < y) = false := decide_eq_false hc
        go_wp2
        refine startO [(0, some 26), (1, some 27), (2, some 28), (3, some 29), (4, some 30), (5, some 31), (6, some 32), (7, some 33), (8, some 34)] (n := 9)
          (S := fun W => W.cell? ⟨w.heap.size, p, none⟩ = some (.int .i64 (x + 1)) ∧ W.cell? (ad.add p) = some (.int .i64 y)) (ds := []) hmx rfl (by kernel_rfl) ⟨by go_simp, hsc⟩ (fun hS => ?_)
        clear hcell hfroz hsc hsc'
        iterate 9 (first
         | (refine pureO rfl rfl (by kernel_rfl) (by exact fun _ _ _ h => h) (Or.inr ⟨by rfl, rfl⟩) (by simp only [Act.put, List.setIfInBounds_toArray, List.set_cons_zero, List.set_cons_succ]; rfl) ?_)
         | (refine pureO rfl rfl (by kernel_rfl) (by exact fun _ _ _ h => h) (Or.inl ⟨by rfl, by intro w_; go_simp; with_reducible rfl⟩) (by simp only [Act.put, List.setIfInBounds_toArray, List.set_cons_zero, List.set_cons_succ]; rfl) ?_)
         | (refine takeO rfl rfl (by kernel_rfl) (by exact fun _ _ _ h => h) hS (Or.inl ⟨by rfl, by rintro w_ ⟨s0_, s1_⟩; go_simp; with_reducible rfl⟩) (by simp only [Act.put, List.setIfInBounds_toArray, List.set_cons_zero, List.set_cons_succ]; rfl) ?_))
        refine doneO (by kernel_rfl) ?_
        clear hS
        have hR2 := Kd.R_drew HRS.out.1
        have hB2 := HRS.out.2.drew
        have hic := HIC.out
        rw [if_neg (show ¬ x + 1 < y by omega)] at hic
        generalize (wr.setCell ⟨w.heap.size, p, none⟩ (.int .i64 (x + 1))).drew = W2 at hR2 hB2 ⊢
        obtain ⟨hc2, hf2⟩ := Kd.R_celln (0 : Int) hR2 (p : Int) (by omega) (by have := HP.out.1; omega)
        rw [Int.toNat_natCast] at hc2 hf2
        have hR3 := Kd.R_putn hR2 (p : Int) 0
        have e3 : (t.take p ++ (x + 1) :: List.replicate k (0 : Int)).set p 0 = cont t t.length (k + 1) := by
          rw [List.set_append_right _ _ (by rw [List.length_take]; omega), List.length_take, show p - min p t.length = 0 by have := HP.out.1; omega, List.set_cons_zero]
          exact cont_next t k p HP.out.1
        rw [Int.toNat_natCast, e3] at hR3
        have HW := Aside0.mk (And.intro hR3 (hB2.setCell (p := ⟨w.heap.size, p, none⟩) (Nat.le_refl _) (Value.int .i64 0)))
        have HI := Aside0.mk hic
        clear hR2 hB2 hic hR3 e3
        go_wp2
        go_roundw
        case rel =>
          refine ⟨k + 1, ⟨by have := HP.out.1; omega, ?_⟩, ?_, HW⟩
          · have h1 := HI.out
            have h2 := HP.out.1
            rw [show t.length - p = k + 1 by omega] at h1
            rw [show t.length - (k + 1) = p by omega]
            exact h1
          · have h2 := HP.out.1
            congr 1
            omega
        case measure => simp only [intOf]; omega
    · obtain rfl : k = t.length := by have := HK.out.1; omega
      have hcd : decide ((0 : Int) ≤ (t.length : Int) - 1 - (t.length : Int)) = false := decide_eq_false (by omega)
      go_wp2
      go_ret
      refine ⟨_, rfl, ?_, KR.out.2⟩
      have h1 := HK.out.2
      rw [Nat.sub_self, List.drop_zero, List.drop_zero] at h1
      have h2 := KR.out.1
      rw [h1]
      simp only [cont, Nat.sub_self, List.take_zero, List.nil_append] at h2
      exact Kd.R_mono h2 (fun _ _ => trivial)
end Go.Proofs.Ytdefilnjkacepaa.NextW
