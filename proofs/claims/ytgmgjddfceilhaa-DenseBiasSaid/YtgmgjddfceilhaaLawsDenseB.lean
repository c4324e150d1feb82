/- A dense layer: its answer, what goes back, and a bias that is added, on the printed functions. Conditions: those of the printed statements (numbers of 64 bits; lists that can be read). -/
import Derived.Test.YtgmgjddfceilhaaPDenx18
import Derived.Test.YtgmgjddfceilhaaLawsDense
import Derived.Test.YtgmgjddfceilhaaAidNum
import Derived.Test.YtgmgjddfceilhaaAidSame
set_option linter.unusedSimpArgs false
set_option linter.unusedVariables false
namespace Go.Proofs.Ytgmgjddfceilhaa.LawsDenseB
open Go.RowKit Go.Proofs.Ytgmgjddfceilhaa.PDen Go.Proofs.Ytgmgjddfceilhaa.Aid Go.Proofs.Ytgmgjddfceilhaa.AidList Go.Proofs.Ytgmgjddfceilhaa.AidFix Go.Proofs.Ytgmgjddfceilhaa.AidNum Go.Proofs.Ytgmgjddfceilhaa.AidShape Go.Proofs.Ytgmgjddfceilhaa.LawsDense Go.Proofs.YtgmgjddfceilhaaW.PrintWords Go.Proofs.YtgmgjddfceilhaaW.PrintLast Go.Proofs.YtgmgjddfceilhaaW.PrintMore
theorem rightT_true {s c : List Int} (h : rightT s c = true) : rightS s = true ∧ prod s = (c.length : Int) := by
  unfold rightT at h; rwa [Bool.and_eq_true, decide_eq_true_eq] at h
theorem copyT_f (s c : List Int) (hs : s.length < 17592186044416) (hc : c.length < 17592186044416) : tensor_Grid_fix_F_Copy.f s c = some (s, c) := by
  unfold tensor_Grid_fix_F_Copy.f
  rw [copy_f s hs, Option.bind_some, cloneF_f c hc]; rfl
theorem sameCells (s a b : List Int) (hl : a.length = b.length) (hn : a.length ≤ 140737488351232) : ∀ (t u : List Int) (i : Nat), a.drop i = t → b.drop i = u →
    Ev (fun k => athanorlaw06_same.l0 k b (b.length : Int) (i : Int) s a) (decide (t = u)) := by
  intro t
  induction t with
  | nil =>
    intro u i h h'
    have h1 := drop_nil h
    have h2 : u = [] := by rw [← h']; exact List.drop_eq_nil_of_le (by omega)
    subst h2
    refine Ev.step (fun k => ?_) (Ev.now _)
    simp only [athanorlaw06_same.l0]; rw [if_neg (by omega)]; rfl
  | cons x t ih =>
    intro u i h h'
    obtain ⟨g1, g2, g3⟩ := drop_cons h
    cases u with
    | nil => have := drop_nil h'; omega
    | cons y u =>
      obtain ⟨k1, k2, k3⟩ := drop_cons h'
      by_cases c : x = y
      · rw [show decide (x :: t = y :: u) = decide (t = u) by simp [c]]
        refine Ev.step (fun k => ?_) (ih u (i + 1) g3 k3)
        simp only [athanorlaw06_same.l0]; rw [if_pos (by omega), if_pos (by omega), if_pos (by omega), if_pos (by omega), g2, k2, if_pos c, w64s k1 (by omega)]
      · rw [show decide (x :: t = y :: u) = false by simp [c]]
        refine Ev.step (fun k => ?_) (Ev.now _)
        simp only [athanorlaw06_same.l0]; rw [if_pos (by omega), if_pos (by omega), if_pos (by omega), if_pos (by omega), g2, k2, if_neg c]
theorem sameT_ev (s a s' b : List Int) (hs : s.length ≤ 140737488351232) (hn : a.length ≤ 140737488351232) : Ev (fun k => athanorlaw06_same.f k s a s' b) (decide (s = s' ∧ a = b)) := by
  unfold athanorlaw06_same.f
  refine Ev.bind (same_ev s s' hs) ?_
  by_cases e : s = s'
  · simp only [e, decide_true, if_true, true_and]
    by_cases c : (a.length : Int) = (b.length : Int)
    · rw [show ((a.length : Int) != (b.length : Int)) = false by simp [c]]
      exact Ev.step (fun k => by simp only [athanorlaw06_same.j0, Bool.false_eq_true, if_false]; rfl) (sameCells s' a b (by omega) hn a b 0 rfl rfl)
    · rw [show ((a.length : Int) != (b.length : Int)) = true by simp; omega, show decide (a = b) = false by rw [decide_eq_false_iff_not]; intro h; rw [h] at c; exact c rfl]
      exact Ev.step (fun k => by simp only [athanorlaw06_same.j0, if_true]) (Ev.now _)
  · simp only [e, decide_false, Bool.false_eq_true, if_false, false_and]
    exact Ev.step (fun k => by simp only [athanorlaw06_same.j0, if_true]) (Ev.now _)
def alikeT (s c s' c' : List Int) : Bool := rightT s c && rightT s' c' && decide (s = s')
theorem alike_ev (s c s' c' : List Int) (hs : s.length ≤ 140737488351232) (hs' : s'.length ≤ 140737488351232) : Ev (fun k => tensor_alike.f k s c s' c') (alikeT s c s' c') := by
  unfold tensor_alike.f alikeT
  refine Ev.bind (rightT_ev s c hs) ?_
  cases rightT s c with
  | false => simp only [Bool.false_eq_true, if_false, Bool.false_and]; exact Ev.now _
  | true =>
    simp only [if_true, Bool.true_and]
    refine Ev.bind (rightT_ev s' c' hs') ?_
    cases rightT s' c' with
    | false => simp only [Bool.false_eq_true, if_false, Bool.false_and]; exact Ev.now _
    | true => simp only [if_true, Bool.true_and]; exact Ev.bind (equal_ev s s' hs) (Ev.now _)
theorem alikeT_true {s c s' c' : List Int} (h : alikeT s c s' c' = true) : s = s' ∧ c.length = c'.length := by
  unfold alikeT at h
  rw [Bool.and_eq_true, Bool.and_eq_true, decide_eq_true_eq] at h
  obtain ⟨⟨h1, h2⟩, h3⟩ := h
  have e1 := (rightT_true h1).2
  have e2 := (rightT_true h2).2
  rw [h3] at e1
  exact ⟨h3, by omega⟩
theorem addLoop (a b s : List Int) (hl : a.length = b.length) (hn : b.length ≤ 140737488351232) (ha : All64 a) (hb : All64 b) : ∀ (d i : Nat), i + d = b.length →
    Ev (fun k => tensor_Add.l0 k b (b.length : Int) (i : Int) s (mixL (List.zipWith addS a b) a i)) (s, List.zipWith addS a b, 0) := by
  have hz : (List.zipWith addS a b).length = a.length := by simp; omega
  intro d
  induction d with
  | zero =>
    intro i h
    refine Ev.step (fun k => ?_) (Ev.now _)
    simp only [tensor_Add.l0]; rw [if_neg (by omega), mixL_end hz (by omega)]
  | succ d ih =>
    intro i h
    have hia : i < a.length := by omega
    have hib : i < b.length := by omega
    refine Ev.step (f := fun k => (fix_F_Add.f k (rd a (i : Int)) (rd b (i : Int))).bind fun t => tensor_Add.l0 k b (b.length : Int) ((i + 1 : Nat) : Int) s ((mixL (List.zipWith addS a b) a i).set i t)) (fun k => ?_) (Ev.bind (add_ev _ _ (at64 ha hia) (at64 hb hib)) ?_)
    · simp only [tensor_Add.l0, Int.toNat_natCast]; rw [if_pos (by omega), if_pos (by omega), if_pos (by omega), if_pos (by rw [mixL_length hz]; omega), w64s hib hn, mixL_rd hz hia]
    · rw [← rd_zip addS a b hia hib, mixL_set hz hia]
      exact ih (i + 1) (by omega)
def addT (s c s' c' : List Int) : List Int × List Int × Int := if alikeT s c s' c' = true then (s, List.zipWith addS c c', 0) else ([], [], 20)
theorem bias_ev (s c s' c' : List Int) (hs : s.length < 17592186044416) (hs' : s'.length < 17592186044416) (hc' : c'.length < 17592186044416) (h1 : All64 c) (h2 : All64 c') : Ev (fun k => dense_Bias.f k s c s' c') (addT s' c' s c) := by
  unfold dense_Bias.f
  have key : Ev (fun k => tensor_Add.f k s' c' s c) (addT s' c' s c) := by
    unfold tensor_Add.f addT
    refine Ev.bind (alike_ev s' c' s c (by omega) (by omega)) ?_
    cases e : alikeT s' c' s c with
    | false => simp only [Bool.false_eq_true, if_false]; exact Ev.now _
    | true =>
      obtain ⟨k1, k2⟩ := alikeT_true e
      simp only [if_true, copyT_f s' c' hs' hc', Option.bind_some]
      have := addLoop c' c s' k2 (by omega) h2 h1 c.length 0 (by omega)
      rw [mixL_zero] at this
      exact this
  exact Ev.bind key (Ev.now _)
theorem biasLoop (s c s' c' p q : List Int) (hl : c.length = c'.length) (hc : c.length ≤ 400) (h1 : All64 c) (h2 : All64 c') (hp : p = s') (hq : q = List.zipWith addS c' c) (hs : s'.length ≤ 9) : ∀ (d i : Nat), i + d = c.length →
    Ev (fun k => athanorlaw06_DenseBias.l0 k 0 ((List.zipWith addS c' c).take i) (c.length : Int) (i : Int) s c s' c' p q) true := by
  have hz : (List.zipWith addS c' c).length = c.length := by simp; omega
  intro d
  induction d with
  | zero =>
    intro i h
    rw [List.take_of_length_le (by omega)]
    refine Ev.step (f := fun k => (athanorlaw06_same.f k p q s' (List.zipWith addS c' c)).bind fun t493 => (if t493 = true then ((athanorlaw06_awake.f).bind fun t494 => (some t494)) else (none))) (fun k => ?_) (Ev.bind (sameT_ev _ _ _ _ (by rw [hp]; omega) (by rw [hq, hz]; omega)) ?_)
    · simp only [athanorlaw06_DenseBias.l0]; rw [if_neg (by omega), if_pos trivial]
    · simp only [hp, hq, and_self, decide_true, if_true, aw, Option.bind_some]; exact Ev.now _
  | succ d ih =>
    intro i h
    have hi : i < c.length := by omega
    have hi' : i < c'.length := by omega
    refine Ev.step (f := fun k => (athanorref01_Add.f k (rd c' (i : Int)) (rd c (i : Int))).bind fun t => athanorlaw06_DenseBias.l0 k 0 ((List.zipWith addS c' c).take i ++ [t]) (c.length : Int) ((i + 1 : Nat) : Int) s c s' c' p q) (fun k => ?_) (Ev.bind (refAdd_ev _ _ (at64 h2 hi') (at64 h1 hi)) ?_)
    · simp only [athanorlaw06_DenseBias.l0]; rw [if_pos (by omega), if_pos (by omega), if_pos (by omega), if_pos (by omega), w64s hi (by omega)]
      congr 1; funext t; rw [if_pos (by rw [List.length_take]; omega)]
    · rw [← rd_zip addS c' c hi' hi, rd_nat _ i (by rw [hz]; exact hi), ← List.take_succ_eq_append_getElem]
      exact ih (i + 1) (by omega)
theorem DenseBias : athanorlaw06_DenseBias.Pure := by
  intro x0 x1 g0 g1
  obtain ⟨s, c⟩ := x0
  obtain ⟨s', c'⟩ := x1
  have h1 : All64 c := g0.2.2
  have h2 : All64 c' := g1.2.2
  refine Ev.rounds (g := fun k => athanorlaw06_DenseBias.f k s c s' c') ?_
  unfold athanorlaw06_DenseBias.f
  have big : Ev (fun k => athanorlaw06_DenseBias.j0 k true s c s' c') true := Ev.step (fun k => by simp only [athanorlaw06_DenseBias.j0, if_true, aw, Option.bind_some]) (Ev.now _)
  by_cases b1 : ((c.length : Nat) : Int) > 400
  · simp only [b1, if_true]; exact big
  by_cases b2 : ((c'.length : Nat) : Int) > 400
  · simp only [b1, b2, if_true, if_false]; exact big
  by_cases b3 : ((s.length : Nat) : Int) > 9
  · simp only [b1, b2, b3, if_true, if_false]; exact big
  simp only [b1, b2, b3, if_false]
  by_cases b4 : ((s'.length : Nat) : Int) > 9
  · rw [decide_eq_true b4]; exact big
  rw [decide_eq_false b4]
  refine Ev.step (fun k => by simp only [athanorlaw06_DenseBias.j0, Bool.false_eq_true, if_false]; rfl) (Ev.bind (bias_ev s c s' c' (by omega) (by omega) (by omega) h1 h2) ?_)
  have no : alikeT s' c' s c = false → Ev (fun k => athanorlaw06_DenseBias.j1 k (addT s' c' s c).2.2 true s c s' c' (addT s' c' s c).1 (addT s' c' s c).2.1) true := fun e => by
    have e1 : addT s' c' s c = ([], [], 20) := by unfold addT; rw [e]; rfl
    rw [e1]
    exact Ev.step (fun k => by simp only [athanorlaw06_DenseBias.j1, if_true, List.length_nil, aw, Option.bind_some]; rfl) (Ev.now _)
  refine Ev.bind (rightL_ev s c) ?_
  cases f1 : rightT s c with
  | false => simp only [Bool.false_eq_true, if_false]; exact no (by unfold alikeT; rw [f1]; simp)
  | true =>
    simp only [if_true]
    refine Ev.bind (rightL_ev s' c') ?_
    cases f2 : rightT s' c' with
    | false => simp only [Bool.false_eq_true, if_false]; exact no (by unfold alikeT; rw [f2]; simp)
    | true =>
      simp only [if_true]
      refine Ev.bind (same_ev s s' (by omega)) ?_
      by_cases f3 : s = s'
      · have e : alikeT s' c' s c = true := by unfold alikeT; rw [f1, f2]; simp [f3]
        obtain ⟨_, k2⟩ := alikeT_true e
        have e1 : addT s' c' s c = (s', List.zipWith addS c' c, 0) := by unfold addT; rw [e]; rfl
        rw [e1, decide_eq_true f3]
        refine Ev.step (fun k => by simp only [athanorlaw06_DenseBias.j1, Bool.not_true, Bool.false_eq_true, if_false]; rfl) ?_
        have := biasLoop s c s' c' s' (List.zipWith addS c' c) k2.symm (by omega) h1 h2 rfl rfl (by omega) c.length 0 (by omega)
        simpa using this
      · rw [decide_eq_false f3]
        exact no (by unfold alikeT; rw [decide_eq_false (fun h => f3 h.symm)]; simp)
end Go.Proofs.Ytgmgjddfceilhaa.LawsDenseB
