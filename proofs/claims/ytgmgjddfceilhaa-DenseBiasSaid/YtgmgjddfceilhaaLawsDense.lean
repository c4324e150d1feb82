/- Rows and columns of a grid with two sides. Conditions: those of each lemma. -/
import Derived.Test.YtgmgjddfceilhaaPDenAw
import Derived.Test.YtgmgjddfceilhaaPDenx9
import Derived.Test.YtgmgjddfceilhaaPDenx6
import Derived.Test.YtgmgjddfceilhaaAidList
import Derived.Test.YtgmgjddfceilhaaAidShape
set_option linter.unusedSimpArgs false
set_option linter.unusedVariables false
namespace Go.Proofs.Ytgmgjddfceilhaa.LawsDense
open Go.RowKit Go.Proofs.Ytgmgjddfceilhaa.PDen Go.Proofs.Ytgmgjddfceilhaa.Aid Go.Proofs.Ytgmgjddfceilhaa.AidList Go.Proofs.Ytgmgjddfceilhaa.AidShape Go.Proofs.YtgmgjddfceilhaaW.PrintWords Go.Proofs.YtgmgjddfceilhaaW.PrintLast Go.Proofs.YtgmgjddfceilhaaW.PrintMore
theorem aw : athanorlaw06_awake.f = some true := rfl
def rightT (s c : List Int) : Bool := rightS s && decide (prod s = (c.length : Int))
theorem rightT_ev (s c : List Int) (hn : s.length ≤ 140737488351232) : Ev (fun k => tensor_Grid_fix_F_Right.f k s c) (rightT s c) := by
  unfold tensor_Grid_fix_F_Right.f rightT
  refine Ev.bind (size_ev s hn) ?_
  unfold sizeS
  cases e : rightS s with
  | true => simp only [if_true, Bool.true_and]; rw [show (prod s == (c.length : Int)) = decide (prod s = (c.length : Int)) from rfl]; exact Ev.now _
  | false => simp only [Bool.false_eq_true, if_false, Bool.false_and]; rw [if_neg (by omega)]; exact Ev.now _
theorem rightL_ev (s c : List Int) : Ev (fun k => athanorlaw06_right.f k s c) (rightT s c) := by
  unfold athanorlaw06_right.f rightT
  refine Ev.bind (refRight_ev s) ?_
  cases e : rightS s with
  | false => simp only [Bool.false_eq_true, if_false, Bool.false_and]; exact Ev.now _
  | true =>
    obtain ⟨h1, h2, h3, h4, h5⟩ := rightS_true e
    simp only [if_true, Bool.true_and]
    refine Ev.bind (refSize_ev s h2 h3) ?_
    rw [show ((c.length : Int) == prod s) = decide (prod s = (c.length : Int)) by rw [show ((c.length : Int) == prod s) = decide ((c.length : Int) = prod s) from rfl, decide_eq_decide]; exact eq_comm]
    exact Ev.now _
theorem cloneF_f (l : List Int) (h : l.length < 17592186044416) : slices_Clone_fix_F_fix_F.f l = some l := by
  unfold slices_Clone_fix_F_fix_F.f; simp only [Option.bind_some, List.length_nil, List.nil_append]; rw [if_pos (by omega)]
/-- A right grid of two sides. -/
def mat (s c : List Int) : Bool := rightT s c && ((s.length : Int) == 2)
theorem matrix_ev (s c : List Int) (hn : s.length ≤ 140737488351232) : Ev (fun k => dense_matrix.f k s c) (mat s c) := by
  unfold dense_matrix.f mat
  refine Ev.bind (rightT_ev s c hn) ?_
  cases e : rightT s c with
  | true => simp only [if_true, Bool.true_and]; exact Ev.now _
  | false => simp only [Bool.false_eq_true, if_false, Bool.false_and]; exact Ev.now _
theorem mat_true {s c : List Int} (h : mat s c = true) : ∃ m n : Nat, s = [(m : Int), (n : Int)] ∧ 1 ≤ m ∧ 1 ≤ n ∧ m ≤ 1024 ∧ n ≤ 1024 ∧ m * n = c.length := by
  unfold mat rightT at h
  rw [Bool.and_eq_true, Bool.and_eq_true, decide_eq_true_eq, beq_iff_eq] at h
  obtain ⟨⟨h1, h2⟩, h3⟩ := h
  obtain ⟨_, _, h4, _, _⟩ := rightS_true h1
  match s, h3, h4, h2 with
  | [a, b], _, h4, h2 =>
    have ha := h4 a (by simp)
    have hb := h4 b (by simp)
    obtain ⟨m, rfl⟩ : ∃ m : Nat, a = (m : Int) := ⟨a.toNat, by omega⟩
    obtain ⟨n, rfl⟩ : ∃ n : Nat, b = (n : Int) := ⟨b.toNat, by omega⟩
    refine ⟨m, n, rfl, by omega, by omega, by omega, by omega, ?_⟩
    simp only [prod, Int.mul_one] at h2
    exact_mod_cast h2
  | [], h3, _, _ => simp at h3
  | [_], h3, _, _ => simp at h3
  | _ :: _ :: _ :: _, h3, _, _ => simp at h3; omega
def rowD (s c : List Int) (i : Int) : List Int := if mat s c = true then (if 0 ≤ i ∧ i < rd s 0 then (c.take (((i + 1) * rd s 1).toNat)).drop ((i * rd s 1).toNat) else []) else []
def colD (s c : List Int) (j : Int) : List Int := if mat s c = true then (if 0 ≤ j ∧ j < rd s 1 then (List.range (rd s 0).toNat).map (fun i : Nat => rd c ((i : Int) * rd s 1 + j)) else []) else []
theorem row_ev (s c : List Int) (i : Int) (hn : s.length ≤ 50) (hc : c.length ≤ 1000000) (hi : -9223372036854775808 ≤ i ∧ i ≤ 9223372036854775807) : Ev (fun k => dense_Row.f k s c i) (rowD s c i) := by
  unfold dense_Row.f rowD
  refine Ev.bind (matrix_ev s c (by omega)) ?_
  cases e : mat s c with
  | false => simp only [Bool.false_eq_true, if_false]; exact Ev.now _
  | true =>
    obtain ⟨m, n, rfl, h1, h2, h3, h4, h5⟩ := mat_true e
    have r0 : rd [(m : Int), (n : Int)] 0 = (m : Int) := rfl
    have r1 : rd [(m : Int), (n : Int)] 1 = (n : Int) := rfl
    simp only [if_true, r0, r1, List.length_cons, List.length_nil]
    by_cases a : i < 0
    · rw [if_neg (show ¬ (0 ≤ i ∧ i < (m : Int)) by omega)]; simp only [a, if_true]; exact Ev.now _
    · by_cases b : i ≥ (m : Int)
      · rw [if_neg (show ¬ (0 ≤ i ∧ i < (m : Int)) by omega)]; simp only [a, b, if_true, if_false, show (0 : Int) < ((0 + 1 + 1 : Nat) : Int) by decide]; exact Ev.now _
      · obtain ⟨x, rfl⟩ : ∃ x : Nat, i = (x : Int) := ⟨i.toNat, by omega⟩
        have hx : x < m := by omega
        have hb1 : (x + 1) * n ≤ m * n := Nat.mul_le_mul_right _ hx
        have hb2 : x * n ≤ (x + 1) * n := Nat.mul_le_mul_right _ (by omega)
        have e0 : (x : Int) * (n : Int) = ((x * n : Nat) : Int) := by simp
        have e1 : ((x : Int) + 1) * (n : Int) = (((x + 1) * n : Nat) : Int) := by simp
        rw [if_pos (show 0 ≤ (x : Int) ∧ (x : Int) < (m : Int) by omega)]
        simp only [a, b, if_true, if_false, show (0 : Int) < ((0 + 1 + 1 : Nat) : Int) by decide, show (1 : Int) < ((0 + 1 + 1 : Nat) : Int) by decide]
        rw [w64 (x := (x : Int) + 1) (by omega) (by omega), e0, e1, w64 (by omega) (by omega), w64 (by omega) (by omega), if_pos (by omega), if_pos (by omega), if_pos (by omega), cloneF_f _ (by simp; omega)]
        exact Ev.now _
theorem colLoop (c : List Int) (m n : Nat) (x : Nat) (hx : x < n) (hm : m ≤ 1024) (hn : n ≤ 1024) (hc : m * n = c.length) (hcl : c.length ≤ 1000000) : ∀ d i : Nat, i + d = m →
    Ev (fun k => dense_Column.l0 k (x : Int) ((List.range i).map (fun i : Nat => rd c ((i : Int) * (n : Int) + (x : Int)))) (m : Int) (i : Int) [(m : Int), (n : Int)] c) ((List.range m).map (fun i : Nat => rd c ((i : Int) * (n : Int) + (x : Int)))) := by
  intro d
  induction d with
  | zero =>
    intro i hi
    refine Ev.step (fun k => ?_) (Ev.now _)
    simp only [dense_Column.l0]
    rw [if_neg (by omega), show i = m by omega]
  | succ d ih =>
    intro i hi
    have h1 : (i + 1) * n ≤ m * n := Nat.mul_le_mul_right _ (by omega)
    rw [Nat.add_mul, Nat.one_mul] at h1
    have e0 : (i : Int) * (n : Int) = ((i * n : Nat) : Int) := by simp
    have r1 : rd [(m : Int), (n : Int)] 1 = (n : Int) := rfl
    refine Ev.step (fun k => ?_) (ih (i + 1) (by omega))
    simp only [dense_Column.l0, r1]
    rw [if_pos (by omega), if_pos (by simp), w64 (x := (i : Int) * (n : Int)) (by omega) (by omega), w64 (x := (i : Int) * (n : Int) + (x : Int)) (by omega) (by omega), if_pos (by omega), if_pos (by omega), if_pos (by simp; omega), w64s (n := m) (by omega) (by omega), List.range_succ, List.map_append]
    rfl
theorem col_ev (s c : List Int) (j : Int) (hn : s.length ≤ 50) (hc : c.length ≤ 1000000) : Ev (fun k => dense_Column.f k s c j) (colD s c j) := by
  unfold dense_Column.f colD
  refine Ev.bind (matrix_ev s c (by omega)) ?_
  have bad : Ev (fun k => dense_Column.j0 k j true s c) [] := Ev.step (fun k => by simp only [dense_Column.j0, if_true]) (Ev.now _)
  cases e : mat s c with
  | false => simp only [Bool.false_eq_true, if_false]; exact bad
  | true =>
    obtain ⟨m, n, rfl, h1, h2, h3, h4, h5⟩ := mat_true e
    have r0 : rd [(m : Int), (n : Int)] 0 = (m : Int) := rfl
    have r1 : rd [(m : Int), (n : Int)] 1 = (n : Int) := rfl
    simp only [if_true, r0, r1, List.length_cons, List.length_nil]
    by_cases a : j < 0
    · rw [if_neg (show ¬ (0 ≤ j ∧ j < (n : Int)) by omega)]; simp only [a, if_true]; exact bad
    · by_cases b : j ≥ (n : Int)
      · rw [if_neg (show ¬ (0 ≤ j ∧ j < (n : Int)) by omega)]; simp only [a, b, if_false, if_true, decide_true, show (1 : Int) < ((0 + 1 + 1 : Nat) : Int) by decide]; exact bad
      · obtain ⟨x, rfl⟩ : ∃ x : Nat, j = (x : Int) := ⟨j.toNat, by omega⟩
        rw [if_pos (show 0 ≤ (x : Int) ∧ (x : Int) < (n : Int) by omega), Int.toNat_natCast]
        simp only [a, b, if_false, if_true, decide_false, show (1 : Int) < ((0 + 1 + 1 : Nat) : Int) by decide]
        refine Ev.step (fun k => ?_) (colLoop c m n x (by omega) h3 h4 h5 hc m 0 (by omega))
        simp only [dense_Column.j0, Bool.false_eq_true, if_false, r0, List.range_zero, List.map_nil]
        rw [if_pos (by simp)]
        rfl
end Go.Proofs.Ytgmgjddfceilhaa.LawsDense
