/- Mixing: the reference's mixing is the program's; each thing is there once. Conditions: those of each lemma. -/
import Derived.Test.YtkbonmhegojfdaaPOrdx3
import Derived.Test.YtkbonmhegojfdaaAidOrder
set_option linter.unusedSimpArgs false
set_option linter.unusedVariables false
namespace Go.Proofs.Ytkbonmhegojfdaa.LawsOrdM
open Go.RowKit Go.Proofs.Ytkbonmhegojfdaa.POrd Go.Proofs.Ytkbonmhegojfdaa.Aid Go.Proofs.Ytkbonmhegojfdaa.AidList Go.Proofs.Ytkbonmhegojfdaa.AidShape Go.Proofs.Ytkbonmhegojfdaa.AidOrder Go.Proofs.YtkbonmhegojfdaaW.PrintWords Go.Proofs.YtkbonmhegojfdaaW.PrintLast Go.Proofs.YtkbonmhegojfdaaW.PrintMore
theorem refLoop (d : List Int) (n : Nat) (hn : n ≤ 1024) (hd : U64 d) : ∀ (a : Nat) (l : List Int) (x7 : Int), l.length = n → (a = 0 ∨ a < n) → (0 < a → x7 = ((n - 1 - a : Nat) : Int)) → Ev (fun k => athanorref25_Mix.l1 k d l x7 (a : Int)) (mixs d n a l) := by
  intro a
  induction a with
  | zero =>
    intro l x7 hl ha _
    refine Ev.step (fun k => ?_) (Ev.now _)
    simp only [athanorref25_Mix.l1]; rw [if_neg (by omega)]; rfl
  | succ a ih =>
    intro l x7 hl ha hx
    have hto := toOf_le d (n - 1 - (a + 1)) (a + 1)
    refine Ev.step (fun k => ?_) (ih (swp l (a + 1) (toOf d (n - 1 - (a + 1)) (a + 1))) (wrap64 (x7 + 1)) (by rw [swp_length]; exact hl) (by omega) (fun h => ?_))
    · rw [hx (by omega)]
      simp only [athanorref25_Mix.l1]
      have e2 : wrap64 (((a + 1 : Nat) : Int) + 1) = ((a + 1 : Nat) : Int) + 1 := w64 (by omega) (by omega)
      have e3 : IntKind.u64.wrap (((a + 1 : Nat) : Int) + 1) = ((a + 1 : Nat) : Int) + 1 := wu64 (by omega) (by omega)
      have e4 : wrap64 (((a + 1 : Nat) : Int) - 1) = (a : Int) := by rw [w64 (by omega) (by omega)]; omega
      rw [if_pos (show ((a + 1 : Nat) : Int) ≥ 1 by omega), e2, e3, e4, toOf_tmod hd _ _ (by omega)]
      by_cases c : n - 1 - (a + 1) < d.length
      · rw [if_pos (by omega), if_pos (by omega), if_neg (by omega), if_pos (by omega), if_pos (by omega), if_pos (by omega), if_pos (by omega), Int.toNat_natCast, Int.toNat_natCast]
        rfl
      · have e5 : toOf d (n - 1 - (a + 1)) (a + 1) = 0 := by unfold toOf; rw [rd_out (by omega)]; simp
        rw [if_neg (by omega), if_neg (by omega), if_pos (by omega), if_pos (by omega), if_pos (by omega), e5, Int.toNat_natCast]
        rfl
    · rw [hx (by omega), w64 (by omega) (by omega)]; omega
theorem refFill (d : List Int) (n : Nat) (hn : n ≤ 1024) {r : List Int} (hK : Ev (fun k => athanorref25_Mix.l1 k d (iota n) 0 (wrap64 ((n : Int) - 1))) r) : ∀ m i : Nat, i + m = n → Ev (fun k => athanorref25_Mix.l0 k (n : Int) d (iota i) (i : Int)) r := by
  intro m
  induction m with
  | zero =>
    intro i hi
    refine Ev.step (fun k => ?_) hK
    simp only [athanorref25_Mix.l0]
    rw [if_neg (by omega), show i = n by omega]
  | succ m ih =>
    intro i hi
    refine Ev.step (fun k => ?_) (ih (i + 1) (by omega))
    simp only [athanorref25_Mix.l0]
    rw [if_pos (by omega), if_pos (by rw [iota_length]; omega), iota_succ, w64s (n := n) (by omega) (by omega)]
theorem ref_ev (d : List Int) (n : Nat) (hn : n ≤ 1024) (hd : U64 d) : Ev (fun k => athanorref25_Mix.f k (n : Int) d) (mixOf d n) := by
  unfold athanorref25_Mix.f
  refine refFill d n hn ?_ n 0 (by omega)
  rcases Nat.eq_zero_or_pos n with h0 | h0
  · subst h0
    refine Ev.step (fun k => ?_) (Ev.now _)
    simp only [athanorref25_Mix.l1]; rw [if_neg (by rw [w64 (by omega) (by omega)]; omega)]; rfl
  · rw [show wrap64 ((n : Int) - 1) = ((n - 1 : Nat) : Int) by rw [w64 (by omega) (by omega)]; omega]
    exact refLoop d n hn hd (n - 1) _ 0 (iota_length n) (by omega) (fun _ => by omega)
theorem countLoop (l : List Int) (n : Nat) (hl : l.length ≤ 140737488351232) (hnl : n < l.length) {r : Bool} : ∀ (t : List Int) (i many : Nat), l.drop i = t → many ≤ i →
    Ev (fun k => if ((many + t.count (n : Int) : Nat) : Int) = 1 then athanorref25_Whole.l0 k l ((n + 1 : Nat) : Int) else some false) r → Ev (fun k => athanorref25_Whole.l1 k l (n : Int) (many : Int) (i : Int)) r := by
  intro t
  induction t with
  | nil =>
    intro i many h hm hK
    have h1 := drop_nil h
    refine Ev.step (fun k => ?_) hK
    simp only [athanorref25_Whole.l1, List.count_nil, Nat.add_zero]
    rw [if_neg (by omega), w64s hnl hl]
    rfl
  | cons x t ih =>
    intro i many h hm hK
    obtain ⟨g1, g2, g3⟩ := drop_cons h
    by_cases c : x = (n : Int)
    · refine Ev.step (fun k => ?_) (ih (i + 1) (many + 1) g3 (by omega) ?_)
      · simp only [athanorref25_Whole.l1]
        rw [if_pos (by omega), if_pos (by omega), g2, if_pos c, w64s g1 hl, w64s (n := l.length) (by omega) hl]
      · rw [c, List.count_cons_self] at hK
        rw [show many + 1 + t.count (n : Int) = many + (t.count (n : Int) + 1) by omega]
        exact hK
    · refine Ev.step (fun k => ?_) (ih (i + 1) many g3 (by omega) ?_)
      · simp only [athanorref25_Whole.l1]
        rw [if_pos (by omega), if_pos (by omega), g2, if_neg c, w64s g1 hl]
      · rw [List.count_cons_of_ne c] at hK
        exact hK
def Whole (l : List Int) : Prop := ∀ i : Nat, i < l.length → l.count (i : Int) = 1
theorem wholeLoop (l : List Int) (hl : l.length ≤ 140737488351232) : ∀ (m i : Nat), i + m = l.length → 
    ((∀ j : Nat, i ≤ j → j < l.length → l.count (j : Int) = 1) → Ev (fun k => athanorref25_Whole.l0 k l (i : Int)) true) ∧ ((¬ ∀ j : Nat, i ≤ j → j < l.length → l.count (j : Int) = 1) → Ev (fun k => athanorref25_Whole.l0 k l (i : Int)) false) := by
  intro m
  induction m with
  | zero =>
    intro i hi
    refine ⟨fun _ => Ev.step (fun k => ?_) (Ev.now _), fun h => absurd (fun j h1 h2 => by omega) h⟩
    simp only [athanorref25_Whole.l0]; rw [if_neg (by omega)]
  | succ m ih =>
    intro i hi
    obtain ⟨i1, i2⟩ := ih (i + 1) (by omega)
    have st : ∀ {r : Bool}, Ev (fun k => if ((0 + l.count (i : Int) : Nat) : Int) = 1 then athanorref25_Whole.l0 k l ((i + 1 : Nat) : Int) else some false) r → Ev (fun k => athanorref25_Whole.l0 k l (i : Int)) r := fun h =>
      Ev.step (fun k => by simp only [athanorref25_Whole.l0]; rw [if_pos (by omega)]; rfl) (countLoop l i hl (by omega) l 0 0 rfl (by omega) h)
    by_cases c : l.count (i : Int) = 1
    · have c1 : ((0 + l.count (i : Int) : Nat) : Int) = 1 := by omega
      refine ⟨fun h => st ?_, fun h => st ?_⟩
      · simp only [c1, if_true]; exact i1 (fun j h1 h2 => h j (by omega) h2)
      · simp only [c1, if_true]
        refine i2 (fun h' => h (fun j h1 h2 => ?_))
        rcases Nat.eq_or_lt_of_le h1 with e | e
        · rw [← e]; exact c
        · exact h' j e h2
    · have c1 : ¬ ((0 + l.count (i : Int) : Nat) : Int) = 1 := by omega
      refine ⟨fun h => absurd (h i (Nat.le_refl _) (by omega)) c, fun h => st ?_⟩
      simp only [c1, if_false]; exact Ev.now _
theorem whole_ev (l : List Int) (hl : l.length ≤ 140737488351232) (h : Whole l) : Ev (fun k => athanorref25_Whole.f k l) true :=
  (wholeLoop l hl l.length 0 (by omega)).1 (fun j _ hj => h j hj)
theorem notwhole_ev (l : List Int) (hl : l.length ≤ 140737488351232) (h : ¬ Whole l) : Ev (fun k => athanorref25_Whole.f k l) false :=
  (wholeLoop l hl l.length 0 (by omega)).2 (fun h' => h (fun j hj => h' j (Nat.zero_le _) hj))
theorem whole_perm {l : List Int} {n : Nat} (h : l.Perm (iota n)) : Whole l := by
  have hl : l.length = n := by rw [h.length_eq, iota_length]
  intro i hi
  rw [h.count_eq]
  exact iota_count (by omega)
theorem need_ (n : Nat) (hn : n ≤ 1024) : order_Need.f (n : Int) = some (mx (wrap64 ((n : Int) - 1)) 0) := rfl
theorem OrderMixes : athanorlaw25_OrderMixes.Pure := by
  intro a0 d h0 h1 h2 hd
  have hd' : U64 d := U64.of hd
  refine Ev.rounds (g := fun k => athanorlaw25_OrderMixes.f k a0 d) ?_
  unfold athanorlaw25_OrderMixes.f
  have aw : athanorlaw25_awake.f = some true := rfl
  have big : Ev (fun k => athanorlaw25_OrderMixes.j0 k a0 d true) true := Ev.step (fun k => by simp only [athanorlaw25_OrderMixes.j0, if_true, aw, Option.bind_some]) (Ev.now _)
  have main : (a0 ≤ 300 ∨ a0 > 1024) → Ev (fun k => athanorlaw25_OrderMixes.j0 k a0 d false) true := by
    intro hc
    by_cases c : a0 < 0 ∨ a0 > 1024
    · have bad : Ev (fun k => athanorlaw25_OrderMixes.j1 k a0 d [] 11 true) true := Ev.step (fun k => by simp only [athanorlaw25_OrderMixes.j1, if_true, aw, Option.bind_some]; rfl) (Ev.now _)
      refine Ev.step (fun k => by simp only [athanorlaw25_OrderMixes.j0, Bool.false_eq_true, if_false]; rfl) (Ev.bind (mixbad_ev d a0 c) ?_)
      by_cases c1 : a0 < 0
      · simp only [c1, if_true]; exact bad
      · have c2 : a0 > 1024 := by omega
        simp only [c1, c2, if_false, decide_true]; exact bad
    · obtain ⟨n, rfl⟩ : ∃ n : Nat, a0 = (n : Int) := ⟨a0.toNat, by omega⟩
      have hn : n ≤ 300 := by omega
      have hlen : (mixOf d n).length = n := by rw [(mixOf_perm d n).length_eq, iota_length]
      refine Ev.step (fun k => by simp only [athanorlaw25_OrderMixes.j0, Bool.false_eq_true, if_false]; rfl) (Ev.bind (mix_ev d n (by omega) hd') ?_)
      have c1 : ¬ ((n : Int) < 0) := by omega
      have c2 : ¬ ((n : Int) > 1024) := by omega
      simp only [c1, c2, if_false, decide_false]
      refine Ev.step (fun k => by simp only [athanorlaw25_OrderMixes.j1, Bool.false_eq_true, if_false, if_true]; rfl) (Ev.bind (ref_ev d n (by omega) hd') (Ev.bind (same_ev (mixOf d n) (mixOf d n) (by omega)) ?_))
      simp only [decide_true, if_true]
      refine Ev.bind (whole_ev _ (by omega) (whole_perm (mixOf_perm d n))) ?_
      simp only [if_true, hlen, need_ n (by omega), Option.bind_some, aw]
      exact Ev.now _
  by_cases c : a0 > 300
  · by_cases c1 : a0 ≤ 1024
    · simp only [c, c1, if_true]; exact big
    · simp only [c, c1, if_true, if_false]
      by_cases c2 : ((d.length : Nat) : Int) > 400
      · rw [decide_eq_true c2]; exact big
      · rw [decide_eq_false c2]; exact main (by omega)
  · simp only [c, if_false]
    by_cases c2 : ((d.length : Nat) : Int) > 400
    · rw [decide_eq_true c2]; exact big
    · rw [decide_eq_false c2]; exact main (by omega)
end Go.Proofs.Ytkbonmhegojfdaa.LawsOrdM
