/- What athanorlaw06.fits answers: may a weight, a bias and what comes in be together? Conditions: lists that can be read. -/
import Derived.Test.YtgmgjddfceilhaaPDenx9
import Derived.Test.YtgmgjddfceilhaaAuto
set_option linter.unusedVariables false
set_option linter.unusedSimpArgs false
namespace Go.Proofs.Ytgmgjddfceilhaa.PDen
open Go.RowKit Go.Shelf Go.Proofs Go.Proofs.Ytgmgjddfceilhaa.Auto Go.Proofs.YtgmgjddfceilhaaW.PrintWords Go.Proofs.YtgmgjddfceilhaaW.PrintLast Go.Proofs.YtgmgjddfceilhaaW.PrintMore Go.Proofs.Ytgmgjddfceilhaa.XW
def athanorlaw06_fits.f (k : Nat) (l0 l1 l2 l3 l4 l5 l6 l7 : List Int) : Option Bool := (athanorlaw06_right.f k l0 l1).bind fun a => if a = true then ((athanorlaw06_right.f k l2 l3).bind fun b => if b = true then ((athanorlaw06_right.f k l4 l5).bind fun c => if c = true then (if (l0.length : Int) = 2 then ((athanorref03_Same.f k l2 [rd l0 0]).bind fun d => if d = true then some ((l5.length : Int) == rd l0 1) else some false) else some false) else some false) else some false) else some false
theorem athanorlaw06_fits.mono : ∀ a0 a1 a2 a3 a4 a5 a6 a7 k, LeO (athanorlaw06_fits.f k a0 a1 a2 a3 a4 a5 a6 a7) (athanorlaw06_fits.f (k + 1) a0 a1 a2 a3 a4 a5 a6 a7) := by
  intro a0 a1 a2 a3 a4 a5 a6 a7 k
  unfold athanorlaw06_fits.f
  repeat' first
    | (with_reducible exact athanorlaw06_right.mono _ _ _)
    | (with_reducible exact athanorref03_Same.mono _ _ _)
    | (with_reducible exact LeO.refl _)
    | (with_reducible refine LeO.ite ?_ ?_)
    | (with_reducible refine LeO.bind ?_ (fun _ => ?_))
set_option maxRecDepth 100000 in
set_option maxHeartbeats 8000000 in
theorem athanorlaw06_fits.calls (k : Nat) (A0 : Option Addr) (c0 : Nat) (l0 : List Int) (A1 : Option Addr) (c1 : Nat) (l1 : List Int) (A2 : Option Addr) (c2 : Nat) (l2 : List Int) (A3 : Option Addr) (c3 : Nat) (l3 : List Int) (A4 : Option Addr) (c4 : Nat) (l4 : List Int) (A5 : Option Addr) (c5 : Nat) (l5 : List Int) (A6 : Option Addr) (c6 : Nat) (l6 : List Int) (A7 : Option Addr) (c7 : Nat) (l7 : List Int) (r : Bool) (w : World) (hr0 : Kd.C (Kd.int .i64) w A0 l0.length l0) (hc0 : l0.length ≤ c0) (hr1 : Kd.C (Kd.int .i64) w A1 l1.length l1) (hc1 : l1.length ≤ c1) (hr2 : Kd.C (Kd.int .i64) w A2 l2.length l2) (hc2 : l2.length ≤ c2) (hr3 : Kd.C (Kd.int .i64) w A3 l3.length l3) (hc3 : l3.length ≤ c3) (hr4 : Kd.C (Kd.int .i64) w A4 l4.length l4) (hc4 : l4.length ≤ c4) (hr5 : Kd.C (Kd.int .i64) w A5 l5.length l5) (hc5 : l5.length ≤ c5) (hr6 : Kd.C (Kd.int .i64) w A6 l6.length l6) (hc6 : l6.length ≤ c6) (hr7 : Kd.C (Kd.int .i64) w A7 l7.length l7) (hc7 : l7.length ≤ c7) (h : athanorlaw06_fits.f k l0 l1 l2 l3 l4 l5 l6 l7 = some r) :
    Calls Try.prog 11 #[.agg #[.slice A0 l0.length c0, .slice A1 l1.length c1, .slice A2 l2.length c2, .slice A3 l3.length c3, .slice A4 l4.length c4, .slice A5 l5.length c5, .slice A6 l6.length c6, .slice A7 l7.length c7]] w fun e w' => e = .returned (.bool r) ∧ Below w.heap.size w w' := by
  have hmx : Try.prog.follows .mixedOrders = true := by kernel_rfl
  have hu28 := Try.underlying28
  have hu26 := Try.underlying26
  have H := Aside0.mk h
  have HR := Aside0.mk (And.intro hr0 (And.intro hr1 (And.intro hr2 (And.intro hr3 (And.intro hr4 hr5)))))
  have HC := Aside0.mk (And.intro hc0 (And.intro hc1 (And.intro hc2 (And.intro hc3 (And.intro hc4 hc5)))))
  clear h hr0 hr1 hr2 hr3 hr4 hr5 hr6 hr7 hc0 hc1 hc2 hc3 hc4 hc5 hc6 hc7
  go_enter Try.func11, Try.ntmps11
  go_wp2
  refine startO [(0, some 3), (1, some 4), (2, some 5), (3, some 6), (4, some 7), (5, some 8), (6, some 9), (7, some 10), (8, some 11), (9, some 12), (10, some 13), (11, some 14), (12, some 15), (13, some 16), (14, some 17), (15, some 18), (16, some 19), (17, some 20), (18, some 21), (19, some 22), (20, some 23), (21, some 24), (22, some 25), (23, some 26), (24, some 27), (25, some 28), (26, some 29), (27, some 30), (28, some 31), (29, some 32), (30, some 33), (31, some 34), (32, some 35), (33, some 36), (34, some 37), (35, some 38), (36, some 39), (37, some 40), (38, some 41), (39, some 42), (40, some 43), (41, some 44), (42, some 45), (43, some 46), (44, some 2)]
    (n := 45) (S := fun W => Below w.heap.size w W ∧ W.heap[w.heap.size]? = some (.cells #[.slice A0 l0.length c0, .slice A1 l1.length c1, .slice A2 l2.length c2, .slice A3 l3.length c3, .slice A4 l4.length c4, .slice A5 l5.length c5, .slice A6 l6.length c6, .slice A7 l7.length c7] 28)) (ds := []) hmx rfl (by kernel_rfl) ⟨below_drew1 (belA w _), World.alloc_heap_new w _⟩ (fun hS => ?_)
  iterate 2 (first
   | (refine pureO rfl rfl (by kernel_rfl) (by exact fun _ _ _ h => h) (Or.inr ⟨by rfl, rfl⟩) (by simp only [Act.put, List.setIfInBounds_toArray, List.set_cons_zero, List.set_cons_succ]; rfl) ?_)
   | (refine pureO rfl rfl (by kernel_rfl) (by exact fun _ _ _ h => h) (Or.inl ⟨by rfl, by intro w_; go_simp; with_reducible rfl⟩) (by simp only [Act.put, List.setIfInBounds_toArray, List.set_cons_zero, List.set_cons_succ]; rfl) ?_)
   | (refine takeO rfl rfl (by kernel_rfl) (by exact fun _ _ _ h => h) hS (Or.inl ⟨by rfl, by rintro w_ ⟨_, s_⟩; have sc_ := blk_cell s_; clear s_; go_simp; with_reducible rfl⟩) (by simp only [Act.put, List.setIfInBounds_toArray, List.set_cons_zero, List.set_cons_succ]; rfl) ?_))
  obtain ⟨a, h1, h⟩ := Option.bind_eq_some_iff.1 H.out
  clear H
  refine oneO rfl rfl (by kernel_rfl) (by decide) (fun K hK => ?_)
  refine goes_ Try.func16 (by kernel_rfl) rfl #[.agg #[.slice A0 l0.length c0, .slice A1 l1.length c1]] (by rfl) rfl rfl (by simp only [List.map_toArray, List.map_cons, List.map_nil]; rfl) ?_
  refine (athanorlaw06_right.calls k _ _ _ _ _ _ _ _ (Kd.C_below HR.out.1 hS.1) HC.out.1 (Kd.C_below HR.out.2.1 hS.1) HC.out.2.1 h1).mono ?_
  rintro e w1 ⟨rfl, hb1⟩
  refine ⟨_, rfl, hK.out _ _ (boxB hS hb1) (fun hS1 => ?_)⟩
  clear hK K hS hb1 h1
  cases a with
  | false =>
    obtain rfl : r = false := (Option.some.inj h).symm
    clear h
    iterate 42 (first
     | (refine pureO rfl rfl (by kernel_rfl) (by exact fun _ _ _ h => h) (Or.inr ⟨by rfl, rfl⟩) (by simp only [Act.put, List.setIfInBounds_toArray, List.set_cons_zero, List.set_cons_succ]; rfl) ?_)
     | (refine pureO rfl rfl (by kernel_rfl) (by exact fun _ _ _ h => h) (Or.inl ⟨by rfl, by intro w_; go_simp; with_reducible rfl⟩) (by simp only [Act.put, List.setIfInBounds_toArray, List.set_cons_zero, List.set_cons_succ]; rfl) ?_)
     | (refine takeO rfl rfl (by kernel_rfl) (by exact fun _ _ _ h => h) hS1 (Or.inl ⟨by rfl, by rintro w_ ⟨_, s_⟩; have sc_ := blk_cell s_; clear s_; go_simp; with_reducible rfl⟩) (by simp only [Act.put, List.setIfInBounds_toArray, List.set_cons_zero, List.set_cons_succ]; rfl) ?_))
    refine doneO (by kernel_rfl) ?_
    go_wp2
    go_ret
    exact ⟨rfl, hS1.1⟩
  | true =>
    iterate 3 (first
     | (refine pureO rfl rfl (by kernel_rfl) (by exact fun _ _ _ h => h) (Or.inr ⟨by rfl, rfl⟩) (by simp only [Act.put, List.setIfInBounds_toArray, List.set_cons_zero, List.set_cons_succ]; rfl) ?_)
     | (refine pureO rfl rfl (by kernel_rfl) (by exact fun _ _ _ h => h) (Or.inl ⟨by rfl, by intro w_; go_simp; with_reducible rfl⟩) (by simp only [Act.put, List.setIfInBounds_toArray, List.set_cons_zero, List.set_cons_succ]; rfl) ?_)
     | (refine takeO rfl rfl (by kernel_rfl) (by exact fun _ _ _ h => h) hS1 (Or.inl ⟨by rfl, by rintro w_ ⟨_, s_⟩; have sc_ := blk_cell s_; clear s_; go_simp; with_reducible rfl⟩) (by simp only [Act.put, List.setIfInBounds_toArray, List.set_cons_zero, List.set_cons_succ]; rfl) ?_))
    obtain ⟨b, h1, h⟩ := Option.bind_eq_some_iff.1 h
    refine oneO rfl rfl (by kernel_rfl) (by decide) (fun K hK => ?_)
    refine goes_ Try.func16 (by kernel_rfl) rfl #[.agg #[.slice A2 l2.length c2, .slice A3 l3.length c3]] (by rfl) rfl rfl (by simp only [List.map_toArray, List.map_cons, List.map_nil]; rfl) ?_
    refine (athanorlaw06_right.calls k _ _ _ _ _ _ _ _ (Kd.C_below HR.out.2.2.1 hS1.1) HC.out.2.2.1 (Kd.C_below HR.out.2.2.2.1 hS1.1) HC.out.2.2.2.1 h1).mono ?_
    rintro e w2 ⟨rfl, hb1⟩
    refine ⟨_, rfl, hK.out _ _ (boxB hS1 hb1) (fun hS2 => ?_)⟩
    clear hK K hS1 hb1 h1
    cases b with
    | false =>
      obtain rfl : r = false := (Option.some.inj h).symm
      clear h
      iterate 38 (first
       | (refine pureO rfl rfl (by kernel_rfl) (by exact fun _ _ _ h => h) (Or.inr ⟨by rfl, rfl⟩) (by simp only [Act.put, List.setIfInBounds_toArray, List.set_cons_zero, List.set_cons_succ]; rfl) ?_)
       | (refine pureO rfl rfl (by kernel_rfl) (by exact fun _ _ _ h => h) (Or.inl ⟨by rfl, by intro w_; go_simp; with_reducible rfl⟩) (by simp only [Act.put, List.setIfInBounds_toArray, List.set_cons_zero, List.set_cons_succ]; rfl) ?_)
       | (refine takeO rfl rfl (by kernel_rfl) (by exact fun _ _ _ h => h) hS2 (Or.inl ⟨by rfl, by rintro w_ ⟨_, s_⟩; have sc_ := blk_cell s_; clear s_; go_simp; with_reducible rfl⟩) (by simp only [Act.put, List.setIfInBounds_toArray, List.set_cons_zero, List.set_cons_succ]; rfl) ?_))
      refine doneO (by kernel_rfl) ?_
      go_wp2
      go_ret
      exact ⟨rfl, hS2.1⟩
    | true =>
      iterate 4 (first
       | (refine pureO rfl rfl (by kernel_rfl) (by exact fun _ _ _ h => h) (Or.inr ⟨by rfl, rfl⟩) (by simp only [Act.put, List.setIfInBounds_toArray, List.set_cons_zero, List.set_cons_succ]; rfl) ?_)
       | (refine pureO rfl rfl (by kernel_rfl) (by exact fun _ _ _ h => h) (Or.inl ⟨by rfl, by intro w_; go_simp; with_reducible rfl⟩) (by simp only [Act.put, List.setIfInBounds_toArray, List.set_cons_zero, List.set_cons_succ]; rfl) ?_)
       | (refine takeO rfl rfl (by kernel_rfl) (by exact fun _ _ _ h => h) hS2 (Or.inl ⟨by rfl, by rintro w_ ⟨_, s_⟩; have sc_ := blk_cell s_; clear s_; go_simp; with_reducible rfl⟩) (by simp only [Act.put, List.setIfInBounds_toArray, List.set_cons_zero, List.set_cons_succ]; rfl) ?_))
      obtain ⟨c, h1, h⟩ := Option.bind_eq_some_iff.1 h
      refine oneO rfl rfl (by kernel_rfl) (by decide) (fun K hK => ?_)
      refine goes_ Try.func16 (by kernel_rfl) rfl #[.agg #[.slice A4 l4.length c4, .slice A5 l5.length c5]] (by rfl) rfl rfl (by simp only [List.map_toArray, List.map_cons, List.map_nil]; rfl) ?_
      refine (athanorlaw06_right.calls k _ _ _ _ _ _ _ _ (Kd.C_below HR.out.2.2.2.2.1 hS2.1) HC.out.2.2.2.2.1 (Kd.C_below HR.out.2.2.2.2.2 hS2.1) HC.out.2.2.2.2.2 h1).mono ?_
      rintro e w3 ⟨rfl, hb1⟩
      refine ⟨_, rfl, hK.out _ _ (boxB hS2 hb1) (fun hS3 => ?_)⟩
      clear hK K hS2 hb1 h1
      cases c with
      | false =>
        obtain rfl : r = false := (Option.some.inj h).symm
        clear h
        iterate 33 (first
         | (refine pureO rfl rfl (by kernel_rfl) (by exact fun _ _ _ h => h) (Or.inr ⟨by rfl, rfl⟩) (by simp only [Act.put, List.setIfInBounds_toArray, List.set_cons_zero, List.set_cons_succ]; rfl) ?_)
         | (refine pureO rfl rfl (by kernel_rfl) (by exact fun _ _ _ h => h) (Or.inl ⟨by rfl, by intro w_; go_simp; with_reducible rfl⟩) (by simp only [Act.put, List.setIfInBounds_toArray, List.set_cons_zero, List.set_cons_succ]; rfl) ?_)
         | (refine takeO rfl rfl (by kernel_rfl) (by exact fun _ _ _ h => h) hS3 (Or.inl ⟨by rfl, by rintro w_ ⟨_, s_⟩; have sc_ := blk_cell s_; clear s_; go_simp; with_reducible rfl⟩) (by simp only [Act.put, List.setIfInBounds_toArray, List.set_cons_zero, List.set_cons_succ]; rfl) ?_))
        refine doneO (by kernel_rfl) ?_
        go_wp2
        go_ret
        exact ⟨rfl, hS3.1⟩
      | true =>
        by_cases hl : (l0.length : Int) = 2
        · have cl : ((l0.length : Int) == 2) = true := beq_iff_eq.2 hl
          simp only [hl, if_true] at h
          obtain ⟨ad, rfl, hx0⟩ := Kd.at_int HR.out.1 0 (by omega) (by omega)
          obtain ⟨ad', e, hx1⟩ := Kd.at_int HR.out.1 1 (by omega) (by omega)
          cases e
          simp only [Int.toNat_zero, Int.toNat_one, Addr.add_zero'] at hx0 hx1
          have HX := Aside0.mk (And.intro hx0 (addcell hx1))
          have cj0 := eq_true (show 0 < l0.length by omega)
          have ck0 := eq_true (show (0 : Int) < (l0.length : Int) by omega)
          have cj1 := eq_true (show 1 < l0.length by omega)
          have ck1 := eq_true (show (1 : Int) < (l0.length : Int) by omega)
          clear hx0 hx1 hl
          iterate 17 (first
           | (refine pureO rfl rfl (by kernel_rfl) (by exact fun _ _ _ h => h) (Or.inr ⟨by rfl, rfl⟩) (by simp only [Act.put, List.setIfInBounds_toArray, List.set_cons_zero, List.set_cons_succ]; rfl) ?_)
           | (refine pureO rfl rfl (by kernel_rfl) (by exact fun _ _ _ h => h) (Or.inl ⟨by rfl, by intro w_; go_simp; with_reducible rfl⟩) (by simp only [Act.put, List.setIfInBounds_toArray, List.set_cons_zero, List.set_cons_succ]; rfl) ?_)
           | (refine takeO rfl rfl (by kernel_rfl) (by exact fun _ _ _ h => h) hS3 (Or.inl ⟨by rfl, by rintro w_ ⟨b_, s_⟩; have sc_ := blk_cell s_; have x0_ := cellB b_ HX.out.1; have x1_ := cellB b_ HX.out.2; clear s_ b_; go_simp; with_reducible rfl⟩) (by simp only [Act.put, List.setIfInBounds_toArray, List.set_cons_zero, List.set_cons_succ]; rfl) ?_))
          obtain ⟨d, h1, h⟩ := Option.bind_eq_some_iff.1 h
          refine oneO rfl rfl (by kernel_rfl) (by decide) (fun K hK => ?_)
          refine value_ (w1 := ?_) (v := ?_) (by rfl) rfl ?_ ?_
          rotate_left 2
          · go_simp
            constructor
            · rfl
            · rfl
          refine hK.out _ _ (boxB hS3 (belA _ _)) (fun hS4 => ?_)
          clear hK K
          have hCl := lit_C w3 [rd l0 0] 3 (by simp)
          refine oneO rfl rfl (by kernel_rfl) (by decide) (fun K hK => ?_)
          refine goes_ Try.func17 (by kernel_rfl) rfl #[.slice A2 l2.length c2, .slice (some ⟨w3.heap.size, 0, none⟩) 1 1] (by rfl) rfl rfl (by simp only [List.map_toArray, List.map_cons, List.map_nil]; rfl) ?_
          refine (athanorref03_Same.calls k _ _ _ _ 1 _ _ _ (Kd.C_below HR.out.2.2.1 hS4.1) HC.out.2.2.1 hCl (by simp) h1).mono ?_
          rintro e w4 ⟨rfl, hb1⟩
          refine ⟨_, rfl, hK.out _ _ (boxB hS4 (belD hb1)) (fun hS5 => ?_)⟩
          clear hK K hS3 hS4 hb1 h1 hCl
          cases d with
          | false =>
            obtain rfl : r = false := (Option.some.inj h).symm
            clear h
            iterate 14 (first
             | (refine pureO rfl rfl (by kernel_rfl) (by exact fun _ _ _ h => h) (Or.inr ⟨by rfl, rfl⟩) (by simp only [Act.put, List.setIfInBounds_toArray, List.set_cons_zero, List.set_cons_succ]; rfl) ?_)
             | (refine pureO rfl rfl (by kernel_rfl) (by exact fun _ _ _ h => h) (Or.inl ⟨by rfl, by intro w_; go_simp; with_reducible rfl⟩) (by simp only [Act.put, List.setIfInBounds_toArray, List.set_cons_zero, List.set_cons_succ]; rfl) ?_)
             | (refine takeO rfl rfl (by kernel_rfl) (by exact fun _ _ _ h => h) hS5 (Or.inl ⟨by rfl, by rintro w_ ⟨_, s_⟩; have sc_ := blk_cell s_; clear s_; go_simp; with_reducible rfl⟩) (by simp only [Act.put, List.setIfInBounds_toArray, List.set_cons_zero, List.set_cons_succ]; rfl) ?_))
            refine doneO (by kernel_rfl) ?_
            go_wp2
            go_ret
            exact ⟨rfl, hS5.1⟩
          | true =>
            obtain rfl := Option.some.inj h
            clear h
            iterate 14 (first
             | (refine pureO rfl rfl (by kernel_rfl) (by exact fun _ _ _ h => h) (Or.inr ⟨by rfl, rfl⟩) (by simp only [Act.put, List.setIfInBounds_toArray, List.set_cons_zero, List.set_cons_succ]; rfl) ?_)
             | (refine pureO rfl rfl (by kernel_rfl) (by exact fun _ _ _ h => h) (Or.inl ⟨by rfl, by intro w_; go_simp; with_reducible rfl⟩) (by simp only [Act.put, List.setIfInBounds_toArray, List.set_cons_zero, List.set_cons_succ]; rfl) ?_)
             | (refine takeO rfl rfl (by kernel_rfl) (by exact fun _ _ _ h => h) hS5 (Or.inl ⟨by rfl, by rintro w_ ⟨b_, s_⟩; have sc_ := blk_cell s_; have x0_ := cellB b_ HX.out.1; have x1_ := cellB b_ HX.out.2; clear s_ b_; go_simp; with_reducible rfl⟩) (by simp only [Act.put, List.setIfInBounds_toArray, List.set_cons_zero, List.set_cons_succ]; rfl) ?_))
            refine doneO (by kernel_rfl) ?_
            go_wp2
            go_ret
            exact ⟨rfl, hS5.1⟩
        · have cl : ((l0.length : Int) == 2) = false := beq_eq_false_iff_ne.2 hl
          rw [if_pos rfl, if_neg hl] at h
          obtain rfl : r = false := (Option.some.inj h).symm
          clear h hl
          iterate 33 (first
           | (refine pureO rfl rfl (by kernel_rfl) (by exact fun _ _ _ h => h) (Or.inr ⟨by rfl, rfl⟩) (by simp only [Act.put, List.setIfInBounds_toArray, List.set_cons_zero, List.set_cons_succ]; rfl) ?_)
           | (refine pureO rfl rfl (by kernel_rfl) (by exact fun _ _ _ h => h) (Or.inl ⟨by rfl, by intro w_; go_simp; with_reducible rfl⟩) (by simp only [Act.put, List.setIfInBounds_toArray, List.set_cons_zero, List.set_cons_succ]; rfl) ?_)
           | (refine takeO rfl rfl (by kernel_rfl) (by exact fun _ _ _ h => h) hS3 (Or.inl ⟨by rfl, by rintro w_ ⟨_, s_⟩; have sc_ := blk_cell s_; clear s_; go_simp; with_reducible rfl⟩) (by simp only [Act.put, List.setIfInBounds_toArray, List.set_cons_zero, List.set_cons_succ]; rfl) ?_))
          refine doneO (by kernel_rfl) ?_
          go_wp2
          go_ret
          exact ⟨rfl, hS3.1⟩
end Go.Proofs.Ytgmgjddfceilhaa.PDen
