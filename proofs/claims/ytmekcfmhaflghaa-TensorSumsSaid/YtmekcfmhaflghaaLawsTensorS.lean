/- Law TensorSums of package tensor, on the printed functions. Conditions: those of the printed statements (numbers of 64 bits; lists of at most 2^47 - 4096 bytes). -/
import Derived.Test.YtmekcfmhaflghaaPTenSx8
import Derived.Test.YtmekcfmhaflghaaAidTensor
import Derived.Test.YtmekcfmhaflghaaAidNum
import Derived.Test.YtmekcfmhaflghaaAidSame
import Derived.Test.YtmekcfmhaflghaaAidList
set_option linter.unusedSimpArgs false
set_option linter.unusedVariables false
set_option linter.unusedSectionVars false
namespace Go.Proofs.Ytmekcfmhaflghaa.LawsTensorS
open Go.RowKit Go.Proofs.Ytmekcfmhaflghaa.PTenS Go.Proofs.Ytmekcfmhaflghaa.Aid Go.Proofs.Ytmekcfmhaflghaa.AidList Go.Proofs.Ytmekcfmhaflghaa.AidFix Go.Proofs.Ytmekcfmhaflghaa.AidNum Go.Proofs.Ytmekcfmhaflghaa.AidShape Go.Proofs.Ytmekcfmhaflghaa.AidTensor Go.Proofs.YtmekcfmhaflghaaW.PrintWords Go.Proofs.YtmekcfmhaflghaaW.PrintLast Go.Proofs.YtmekcfmhaflghaaW.PrintMore
theorem awake_ev : Ev (fun k => athanorlaw04_awake.f k) true := Ev.of (fun k => athanorlaw04_awake.mono k) (k := 60) (by decide +kernel)
theorem aw : Ev (fun k => (athanorlaw04_awake.f k).bind fun t => some t) true := Ev.bind awake_ev (Ev.now _)
theorem small_f (s c : List Int) : athanorlaw04_small.f s c = some (decide (s.length ≤ 50 ∧ c.length ≤ 600)) := by
  unfold athanorlaw04_small.f
  by_cases h : (s.length : Int) ≤ 50
  · rw [if_pos h]; congr 1; rw [decide_eq_decide]; omega
  · rw [if_neg h, decide_eq_false (by omega)]
/-- Both right, and of one shape. -/
def alikeT (s c s' c' : List Int) : Bool := rightT s c && rightT s' c' && decide (s = s')
theorem alike_ev (s c s' c' : List Int) (hs : s.length ≤ 140737488351232) (hs' : s'.length ≤ 140737488351232) : Ev (fun k => tensor_alike.f k s c s' c') (alikeT s c s' c') := by
  unfold tensor_alike.f alikeT
  refine Ev.bind (rightT_ev s c hs) ?_
  cases rightT s c with
  | false => simp only [Bool.false_eq_true, if_false, Bool.false_and]; exact Ev.now _
  | true =>
    simp only [if_true, Bool.true_and]
    refine Ev.bind (rightT_ev s' c' hs') ?_
    cases rightT s' c' with
    | false => simp only [Bool.false_eq_true, if_false, Bool.false_and]; exact Ev.now _
    | true => simp only [if_true, Bool.true_and]; exact Ev.bind (equal_ev s s' hs) (Ev.now _)
theorem alikeT_true {s c s' c' : List Int} (h : alikeT s c s' c' = true) : s = s' ∧ c.length = c'.length ∧ rightT s c = true ∧ rightT s' c' = true := by
  unfold alikeT at h
  rw [Bool.and_eq_true, Bool.and_eq_true, decide_eq_true_eq] at h
  obtain ⟨⟨h1, h2⟩, h3⟩ := h
  have e1 := (rightT_true h1).2
  have e2 := (rightT_true h2).2
  rw [h3] at e1
  exact ⟨h3, by omega, h1, h2⟩
theorem addLoop (a b s : List Int) (hl : a.length = b.length) (hn : b.length ≤ 140737488351232) (ha : All64 a) (hb : All64 b) : ∀ (d i : Nat), i + d = b.length →
    Ev (fun k => tensor_Add.l0 k b (b.length : Int) (i : Int) s (mixL (List.zipWith addS a b) a i)) (s, List.zipWith addS a b, 0) := by
  have hz : (List.zipWith addS a b).length = a.length := by simp; omega
  intro d
  induction d with
  | zero =>
    intro i h
    refine Ev.step (fun k => ?_) (Ev.now _)
    simp only [tensor_Add.l0]; rw [if_neg (by omega), mixL_end hz (by omega)]
  | succ d ih =>
    intro i h
    have hia : i < a.length := by omega
    have hib : i < b.length := by omega
    refine Ev.step (f := fun k => (fix_F_Add.f k (rd a (i : Int)) (rd b (i : Int))).bind fun t => tensor_Add.l0 k b (b.length : Int) ((i + 1 : Nat) : Int) s ((mixL (List.zipWith addS a b) a i).set i t)) (fun k => ?_) (Ev.bind (add_ev _ _ (at64 ha hia) (at64 hb hib)) ?_)
    · simp only [tensor_Add.l0, Int.toNat_natCast]; rw [if_pos (by omega), if_pos (by omega), if_pos (by omega), if_pos (by rw [mixL_length hz]; omega), w64s hib hn, mixL_rd hz hia]
    · rw [← rd_zip addS a b hia hib, mixL_set hz hia]
      exact ih (i + 1) (by omega)
def addT (s c s' c' : List Int) : List Int × List Int × Int := if alikeT s c s' c' = true then (s, List.zipWith addS c c', 0) else ([], [], 20)
theorem addT_ev (s c s' c' : List Int) (hs : s.length < 17592186044416) (hs' : s'.length < 17592186044416) (hc : c.length < 17592186044416) (h1 : All64 c) (h2 : All64 c') : Ev (fun k => tensor_Add.f k s c s' c') (addT s c s' c') := by
  unfold tensor_Add.f addT
  refine Ev.bind (alike_ev s c s' c' (by omega) (by omega)) ?_
  cases e : alikeT s c s' c' with
  | false => simp only [Bool.false_eq_true, if_false]; exact Ev.now _
  | true =>
    obtain ⟨k1, k2, _, _⟩ := alikeT_true e
    simp only [if_true, copyT_f s c hs hc, Option.bind_some]
    have := addLoop c c' s k2 (by omega) h1 h2 c'.length 0 (by omega)
    rw [mixL_zero] at this
    exact this
theorem scaleLoop (x : Int) (a s : List Int) (hn : a.length ≤ 140737488351232) (ha : All64 a) (hx : I64 x) : ∀ (d i : Nat), i + d = a.length →
    Ev (fun k => tensor_Scale.l0 k x a (a.length : Int) (i : Int) s (mixL (a.map fun y => mulS y x) a i)) (s, a.map (fun y => mulS y x), 0) := by
  have hz : (a.map fun y => mulS y x).length = a.length := by simp
  intro d
  induction d with
  | zero =>
    intro i h
    refine Ev.step (fun k => ?_) (Ev.now _)
    simp only [tensor_Scale.l0]; rw [if_neg (by omega), mixL_end hz (by omega)]
  | succ d ih =>
    intro i h
    have hia : i < a.length := by omega
    refine Ev.step (f := fun k => (fix_F_Mul.f k (rd a (i : Int)) x).bind fun t => tensor_Scale.l0 k x a (a.length : Int) ((i + 1 : Nat) : Int) s ((mixL (a.map fun y => mulS y x) a i).set i t)) (fun k => ?_) (Ev.bind (mul_ev _ _ (at64 ha hia) hx) ?_)
    · simp only [tensor_Scale.l0, Int.toNat_natCast]; rw [if_pos (by omega), if_pos (by omega), if_pos (by omega)]; simp only [mixL_length hz, show ((i : Int) < (a.length : Int)) by omega, if_true, w64s hia hn]
    · rw [← rd_map (fun y => mulS y x) a hia, mixL_set hz hia]
      exact ih (i + 1) (by omega)
def scaleT (s c : List Int) (x : Int) : List Int × List Int × Int := if rightT s c = true then (s, c.map (fun y => mulS y x), 0) else ([], [], 20)
theorem scaleT_ev (s c : List Int) (x : Int) (hs : s.length < 17592186044416) (hc : c.length < 17592186044416) (h1 : All64 c) (hx : I64 x) : Ev (fun k => tensor_Scale.f k s c x) (scaleT s c x) := by
  unfold tensor_Scale.f scaleT
  refine Ev.bind (rightT_ev s c (by omega)) ?_
  cases e : rightT s c with
  | false => simp only [Bool.false_eq_true, if_false]; exact Ev.now _
  | true =>
    simp only [if_true, copyT_f s c hs hc, Option.bind_some]
    have := scaleLoop x c s (by omega) h1 hx c.length 0 (by omega)
    rw [mixL_zero] at this
    exact this
def dotT (s c s' c' : List Int) : Int × Int := if alikeT s c s' c' = true then (dotL 0 c c', 0) else (0, 20)
theorem dotT_ev (s c s' c' : List Int) (hs : s.length < 17592186044416) (hs' : s'.length < 17592186044416) (hc : c.length < 17592186044416) (h1 : All64 c) (h2 : All64 c') : Ev (fun k => tensor_Dot.f k s c s' c') (dotT s c s' c') := by
  unfold tensor_Dot.f dotT
  refine Ev.bind (alike_ev s c s' c' (by omega) (by omega)) ?_
  cases e : alikeT s c s' c' with
  | false => simp only [Bool.false_eq_true, if_false]; exact Ev.now _
  | true =>
    obtain ⟨k1, k2, _, _⟩ := alikeT_true e
    simp only [if_true]
    unfold fix_Dot.f
    have e : mn (c.length : Int) (c'.length : Int) = ((min c.length c'.length : Nat) : Int) := by unfold mn; split <;> omega
    rw [e]
    exact Ev.bind (dot_ev c c' (by omega) (by omega) h1 h2 _ rfl c c' 0 0 (by unfold I64; omega) rfl rfl) (Ev.now _)
section
variable (s c s' c' : List Int) (p q r x : Int) (hs : s.length ≤ 50) (hs' : s'.length ≤ 50) (hc : c.length ≤ 600) (hc' : c'.length ≤ 600) (h1 : All64 c) (h2 : All64 c') (hx : I64 x)
include hs hs' hc hc' h1 h2 hx
theorem l1Loop (e : alikeT s c s' c' = true) : ∀ (t u : List Int) (i : Nat) (d : Int), I64 d → c.drop i = t → c'.drop i = u → dotL d t u = dotL 0 c c' →
    Ev (fun k => athanorlaw04_TensorSums.l1 k 0 (dotL 0 c c') 0 d (c.length : Int) (i : Int) s c s' c' p q r s (List.zipWith addS c c')) true := by
  obtain ⟨k1, k2, k3, k4⟩ := alikeT_true e
  have hz : (List.zipWith addS c c').length = c.length := by simp; omega
  intro t
  induction t with
  | nil =>
    intro u i d hd h h' hdot
    have := drop_nil h
    have e0 : dotL 0 c c' = d := by rw [← hdot]; unfold dotL; rfl
    refine Ev.step (f := fun k => (shape_Shape_Equal.f k s s).bind fun t435 => (if t435 = true then ((athanorlaw04_awake.f k).bind fun t436 => (some t436)) else (none))) (fun k => ?_) (Ev.bind (equal_ev s s (by omega)) ?_)
    · simp only [athanorlaw04_TensorSums.l1]; rw [if_neg (by omega)]; simp only [if_true, e0]
    · simp only [decide_true, if_true]; exact aw
  | cons y t ih =>
    intro u i d hd h h' hdot
    obtain ⟨g1, g2, g3⟩ := drop_cons h
    cases u with
    | nil => have := drop_nil h'; omega
    | cons z u =>
      obtain ⟨m1, m2, m3⟩ := drop_cons h'
      have hy := at64 h1 g1
      have hz' := at64 h2 m1
      refine Ev.step (f := fun k => (athanorref01_Mul.f k (rd c (i : Int)) (rd c' (i : Int))).bind fun t439 => ((athanorref01_Add.f k d t439).bind fun t440 => ((athanorref01_Add.f k (rd c (i : Int)) (rd c' (i : Int))).bind fun t444 => (if (rd (List.zipWith addS c c') (i : Int)) = t444 then (athanorlaw04_TensorSums.l1 k 0 (dotL 0 c c') 0 t440 (c.length : Int) ((i + 1 : Nat) : Int) s c s' c' p q r s (List.zipWith addS c c')) else none)))) (fun k => ?_) ?_
      · simp only [athanorlaw04_TensorSums.l1]; rw [if_pos (by omega), if_pos (by omega), if_pos (by omega), if_pos (by omega)]; simp only [hz, show ((i : Int) < (c.length : Int)) by omega, if_true, w64s g1 (show c.length ≤ 140737488351232 by omega)]
      · refine Ev.bind (refMul_ev _ _ hy hz') (Ev.bind (refAdd_ev d _ hd (mulS_I64 _ _)) (Ev.bind (refAdd_ev _ _ hy hz') ?_))
        simp only [rd_zip addS c c' g1 m1, if_true]
        refine ih u (i + 1) _ (addS_I64 _ _) g3 m3 ?_
        rw [g2, m2]; exact hdot
theorem tailS : Ev (fun k => (athanorlaw04_right.f k s c).bind fun t431 => (if t431 = true then ((athanorlaw04_right.f k s' c').bind fun t432 => (if t432 = true then ((athanorref03_Same.f k s s').bind fun t433 => (athanorlaw04_TensorSums.j3 k (addT s c s' c').2.2 (dotT s c s' c').1 (dotT s c s' c').2 (!t433) s c s' c' p q r (addT s c s' c').1 (addT s c s' c').2.1 (scaleT s c x).1 (scaleT s c x).2.1)) else (athanorlaw04_TensorSums.j3 k (addT s c s' c').2.2 (dotT s c s' c').1 (dotT s c s' c').2 true s c s' c' p q r (addT s c s' c').1 (addT s c s' c').2.1 (scaleT s c x).1 (scaleT s c x).2.1))) else (athanorlaw04_TensorSums.j3 k (addT s c s' c').2.2 (dotT s c s' c').1 (dotT s c s' c').2 true s c s' c' p q r (addT s c s' c').1 (addT s c s' c').2.1 (scaleT s c x).1 (scaleT s c x).2.1))) true := by
  have no : alikeT s c s' c' = false → Ev (fun k => athanorlaw04_TensorSums.j3 k (addT s c s' c').2.2 (dotT s c s' c').1 (dotT s c s' c').2 true s c s' c' p q r (addT s c s' c').1 (addT s c s' c').2.1 (scaleT s c x).1 (scaleT s c x).2.1) true := by
    intro e
    have e1 : addT s c s' c' = ([], [], 20) := by unfold addT; rw [e]; rfl
    have e2 : dotT s c s' c' = (0, 20) := by unfold dotT; rw [e]; rfl
    rw [e1, e2]
    refine Ev.step (fun k => ?_) aw
    simp only [athanorlaw04_TensorSums.j3, if_true, List.length_nil]; rfl
  refine Ev.bind (rightL_ev s c) ?_
  cases f1 : rightT s c with
  | false =>
    simp only [Bool.false_eq_true, if_false]
    exact no (by unfold alikeT; rw [f1]; rfl)
  | true =>
    simp only [if_true]
    refine Ev.bind (rightL_ev s' c') ?_
    cases f2 : rightT s' c' with
    | false =>
      simp only [Bool.false_eq_true, if_false]
      exact no (by unfold alikeT; rw [f1, f2]; rfl)
    | true =>
      simp only [if_true]
      refine Ev.bind (same_ev s s' (by omega)) ?_
      by_cases f3 : s = s'
      · have e : alikeT s c s' c' = true := by unfold alikeT; rw [f1, f2]; simp [f3]
        obtain ⟨k1, k2, _, _⟩ := alikeT_true e
        have e1 : addT s c s' c' = (s, List.zipWith addS c c', 0) := by unfold addT; rw [e]; rfl
        have e2 : dotT s c s' c' = (dotL 0 c c', 0) := by unfold dotT; rw [e]; rfl
        have e3 : scaleT s c x = (s, c.map (fun y => mulS y x), 0) := by unfold scaleT; rw [f1]; rfl
        have hz : (List.zipWith addS c c').length = c.length := by simp; omega
        rw [e1, e2, e3, decide_eq_true f3]
        refine Ev.step (f := fun k => athanorlaw04_TensorSums.j4 k 0 (dotL 0 c c') 0 0 false s c s' c' p q r s (List.zipWith addS c c')) (fun k => ?_) (Ev.step (fun k => ?_) (l1Loop s c s' c' p q r x hs hs' hc hc' h1 h2 hx e c c' 0 0 (by unfold I64; omega) rfl rfl rfl))
        · simp only [athanorlaw04_TensorSums.j3, Bool.not_true, Bool.false_eq_true, if_false, hz, List.length_map, if_true, bne_self_eq_false]
        · simp only [athanorlaw04_TensorSums.j4, Bool.false_eq_true, if_false, hz]; rfl
      · rw [decide_eq_false f3]
        exact no (by unfold alikeT; rw [f1, f2, decide_eq_false f3]; rfl)
theorem l0Loop : ∀ (d i : Nat), i + d = (scaleT s c x).2.1.length →
    Ev (fun k => athanorlaw04_TensorSums.l0 k x (addT s c s' c').2.2 (dotT s c s' c').1 (dotT s c s' c').2 ((scaleT s c x).2.1.length : Int) (i : Int) s c s' c' p q r (addT s c s' c').1 (addT s c s' c').2.1 (scaleT s c x).1 (scaleT s c x).2.1) true := by
  have tail := tailS s c s' c' p q r x hs hs' hc hc' h1 h2 hx
  intro d
  induction d with
  | zero =>
    intro i h
    refine Ev.step (fun k => ?_) tail
    simp only [athanorlaw04_TensorSums.l0]; rw [if_neg (by omega)]
  | succ d ih =>
    intro i h
    cases f1 : rightT s c with
    | false =>
      have e3 : scaleT s c x = ([], [], 20) := by unfold scaleT; rw [f1]; rfl
      rw [e3] at h; simp at h
    | true =>
      have e3 : scaleT s c x = (s, c.map (fun y => mulS y x), 0) := by unfold scaleT; rw [f1]; rfl
      have hl : (scaleT s c x).2.1.length = c.length := by rw [e3]; simp
      have hi : i < c.length := by omega
      refine Ev.step (f := fun k => (athanorref01_Mul.f k (rd c (i : Int)) x).bind fun t430 => (if (rd (scaleT s c x).2.1 (i : Int)) = t430 then (athanorlaw04_TensorSums.l0 k x (addT s c s' c').2.2 (dotT s c s' c').1 (dotT s c s' c').2 ((scaleT s c x).2.1.length : Int) ((i + 1 : Nat) : Int) s c s' c' p q r (addT s c s' c').1 (addT s c s' c').2.1 (scaleT s c x).1 (scaleT s c x).2.1) else (none))) (fun k => ?_) (Ev.bind (refMul_ev _ _ (at64 h1 hi) hx) ?_)
      · simp only [athanorlaw04_TensorSums.l0, hl]
        rw [if_pos (by omega), if_neg (by omega), if_pos (by omega), if_pos (by omega), if_pos (by omega), w64s hi (by omega)]
      · have er : rd (scaleT s c x).2.1 (i : Int) = mulS (rd c (i : Int)) x := by rw [e3]; exact rd_map (fun y => mulS y x) c hi
        simp only [er, if_true]
        exact ih (i + 1) (by omega)
end
theorem TensorSums : athanorlaw04_TensorSums.Pure := by
  intro z x hz hx
  obtain ⟨⟨s, c⟩, ⟨s', c'⟩, p, q, r⟩ := z
  have hx' : I64 x := wf64 hx
  refine Ev.rounds (g := fun k => athanorlaw04_TensorSums.f k s c s' c' p q r x) ?_
  unfold athanorlaw04_TensorSums.f
  simp only [small_f, Option.bind_some, decide_eq_true_eq]
  have big : Ev (fun k => athanorlaw04_TensorSums.j0 k x true s c s' c' p q r) true := Ev.step (fun k => by simp only [athanorlaw04_TensorSums.j0, if_true]) aw
  by_cases h : s.length ≤ 50 ∧ c.length ≤ 600
  · simp only [h, and_self, if_true]
    by_cases h' : s'.length ≤ 50 ∧ c'.length ≤ 600
    · rw [decide_eq_true h']
      have h1 : All64 c := hz.1.2.2
      have h2 : All64 c' := hz.2.1.2.2
      refine Ev.step (fun k => by simp only [athanorlaw04_TensorSums.j0, Bool.not_true, Bool.false_eq_true, if_false]; rfl) (Ev.bind (addT_ev s c s' c' (by omega) (by omega) (by omega) h1 h2) (Ev.bind (scaleT_ev s c x (by omega) (by omega) h1 hx') (Ev.bind (dotT_ev s c s' c' (by omega) (by omega) (by omega) h1 h2) (Ev.bind (rightL_ev s c) ?_))))
      have main := l0Loop s c s' c' p q r x h.1 h'.1 h.2 h'.2 h1 h2 hx' (scaleT s c x).2.1.length 0 (by omega)
      have go : Ev (fun k => athanorlaw04_TensorSums.j1 k x (addT s c s' c').2.2 (dotT s c s' c').1 (dotT s c s' c').2 false s c s' c' p q r (addT s c s' c').1 (addT s c s' c').2.1 (scaleT s c x).1 (scaleT s c x).2.1) true :=
        Ev.step (fun k => by simp only [athanorlaw04_TensorSums.j1, Bool.false_eq_true, if_false]; rfl) main
      cases f1 : rightT s c with
      | false =>
        have e3 : scaleT s c x = ([], [], 20) := by unfold scaleT; rw [f1]; rfl
        rw [e3] at go ⊢
        simpa using go
      | true =>
        have e3 : scaleT s c x = (s, c.map (fun y => mulS y x), 0) := by unfold scaleT; rw [f1]; rfl
        rw [e3] at go ⊢
        simpa using go
    · rw [decide_eq_false h']; exact big
  · simp only [h, if_false]; exact big
end Go.Proofs.Ytmekcfmhaflghaa.LawsTensorS
