/- A dense layer: its answer, what goes back, and a bias that is added, on the printed functions. Conditions: those of the printed statements (numbers of 64 bits; lists that can be read). -/
import Derived.Test.YtgmgjddfceilhaaPDenx13
import Derived.Test.YtgmgjddfceilhaaLawsDense
import Derived.Test.YtgmgjddfceilhaaAidNum
import Derived.Test.YtgmgjddfceilhaaAidSame
set_option linter.unusedSimpArgs false
set_option linter.unusedVariables false
namespace Go.Proofs.Ytgmgjddfceilhaa.LawsDenseG
open Go.RowKit Go.Proofs.Ytgmgjddfceilhaa.PDen Go.Proofs.Ytgmgjddfceilhaa.Aid Go.Proofs.Ytgmgjddfceilhaa.AidList Go.Proofs.Ytgmgjddfceilhaa.AidFix Go.Proofs.Ytgmgjddfceilhaa.AidNum Go.Proofs.Ytgmgjddfceilhaa.AidShape Go.Proofs.Ytgmgjddfceilhaa.LawsDense Go.Proofs.YtgmgjddfceilhaaW.PrintWords Go.Proofs.YtgmgjddfceilhaaW.PrintLast Go.Proofs.YtgmgjddfceilhaaW.PrintMore
theorem rightT_true {s c : List Int} (h : rightT s c = true) : rightS s = true ∧ prod s = (c.length : Int) := by
  unfold rightT at h; rwa [Bool.and_eq_true, decide_eq_true_eq] at h
theorem copyT_f (s c : List Int) (hs : s.length < 17592186044416) (hc : c.length < 17592186044416) : tensor_Grid_fix_F_Copy.f s c = some (s, c) := by
  unfold tensor_Grid_fix_F_Copy.f
  rw [copy_f s hs, Option.bind_some, cloneF_f c hc]; rfl
theorem sameCells (s a b : List Int) (hl : a.length = b.length) (hn : a.length ≤ 140737488351232) : ∀ (t u : List Int) (i : Nat), a.drop i = t → b.drop i = u →
    Ev (fun k => athanorlaw06_same.l0 k b (b.length : Int) (i : Int) s a) (decide (t = u)) := by
  intro t
  induction t with
  | nil =>
    intro u i h h'
    have h1 := drop_nil h
    have h2 : u = [] := by rw [← h']; exact List.drop_eq_nil_of_le (by omega)
    subst h2
    refine Ev.step (fun k => ?_) (Ev.now _)
    simp only [athanorlaw06_same.l0]; rw [if_neg (by omega)]; rfl
  | cons x t ih =>
    intro u i h h'
    obtain ⟨g1, g2, g3⟩ := drop_cons h
    cases u with
    | nil => have := drop_nil h'; omega
    | cons y u =>
      obtain ⟨k1, k2, k3⟩ := drop_cons h'
      by_cases c : x = y
      · rw [show decide (x :: t = y :: u) = decide (t = u) by simp [c]]
        refine Ev.step (fun k => ?_) (ih u (i + 1) g3 k3)
        simp only [athanorlaw06_same.l0]; rw [if_pos (by omega), if_pos (by omega), if_pos (by omega), if_pos (by omega), g2, k2, if_pos c, w64s k1 (by omega)]
      · rw [show decide (x :: t = y :: u) = false by simp [c]]
        refine Ev.step (fun k => ?_) (Ev.now _)
        simp only [athanorlaw06_same.l0]; rw [if_pos (by omega), if_pos (by omega), if_pos (by omega), if_pos (by omega), g2, k2, if_neg c]
theorem sameT_ev (s a s' b : List Int) (hs : s.length ≤ 140737488351232) (hn : a.length ≤ 140737488351232) : Ev (fun k => athanorlaw06_same.f k s a s' b) (decide (s = s' ∧ a = b)) := by
  unfold athanorlaw06_same.f
  refine Ev.bind (same_ev s s' hs) ?_
  by_cases e : s = s'
  · simp only [e, decide_true, if_true, true_and]
    by_cases c : (a.length : Int) = (b.length : Int)
    · rw [show ((a.length : Int) != (b.length : Int)) = false by simp [c]]
      exact Ev.step (fun k => by simp only [athanorlaw06_same.j0, Bool.false_eq_true, if_false]; rfl) (sameCells s' a b (by omega) hn a b 0 rfl rfl)
    · rw [show ((a.length : Int) != (b.length : Int)) = true by simp; omega, show decide (a = b) = false by rw [decide_eq_false_iff_not]; intro h; rw [h] at c; exact c rfl]
      exact Ev.step (fun k => by simp only [athanorlaw06_same.j0, if_true]) (Ev.now _)
  · simp only [e, decide_false, Bool.false_eq_true, if_false, false_and]
    exact Ev.step (fun k => by simp only [athanorlaw06_same.j0, if_true]) (Ev.now _)
theorem cellsLoop (s c : List Int) (hc : c.length ≤ 1000000) : ∀ (d i : Nat), i + d = c.length → Ev (fun k => athanorlaw06_cells.l0 k (c.take i) c (c.length : Int) (i : Int)) c := by
  intro d
  induction d with
  | zero =>
    intro i h
    refine Ev.step (fun k => ?_) (Ev.now _)
    simp only [athanorlaw06_cells.l0]; rw [if_neg (by omega), List.take_of_length_le (by omega)]
  | succ d ih =>
    intro i h
    have hi : i < c.length := by omega
    refine Ev.step (fun k => ?_) (ih (i + 1) (by omega))
    simp only [athanorlaw06_cells.l0]; rw [if_pos (by omega), if_pos (by omega), if_pos (by omega), if_pos (by rw [List.length_take]; omega), w64s hi (by omega), rd_nat c i hi, ← List.take_succ_eq_append_getElem]
theorem cells_ev (s c : List Int) (hc : c.length ≤ 1000000) : Ev (fun k => athanorlaw06_cells.f k s c) c := by
  unfold athanorlaw06_cells.f
  have := cellsLoop s c hc c.length 0 (by omega)
  simpa using this
/-- May a weight, a bias and what comes in be together? -/
def fitsB (s c sb cb sx cx : List Int) : Bool := rightT s c && rightT sb cb && rightT sx cx && ((s.length : Int) == 2) && decide (sb = [rd s 0]) && ((cx.length : Int) == rd s 1)
theorem line_ev (sb cb : List Int) (a : Int) (hb : sb.length ≤ 140737488351232) : Ev (fun k => dense_line.f k sb cb a) (rightT sb cb && decide (sb = [a])) := by
  unfold dense_line.f
  refine Ev.bind (rightT_ev sb cb hb) ?_
  cases rightT sb cb with
  | false => simp only [Bool.false_and, Bool.false_eq_true, if_false]; exact Ev.now _
  | true => simp only [Bool.true_and, if_true]; exact Ev.bind (equal_ev _ _ hb) (Ev.now _)
theorem fitsD_ev (s c sb cb sx cx : List Int) (hs : s.length ≤ 9) (hb : sb.length ≤ 9) (hx : sx.length ≤ 9) : Ev (fun k => dense_fits.f k s c sb cb sx cx) (fitsB s c sb cb sx cx) := by
  unfold dense_fits.f fitsB
  refine Ev.bind (matrix_ev s c (by omega)) ?_
  unfold mat
  cases f1 : rightT s c with
  | false => simp only [Bool.false_and, Bool.false_eq_true, if_false]; exact Ev.now _
  | true =>
    simp only [Bool.true_and]
    cases f2 : ((s.length : Int) == 2) with
    | false => simp only [Bool.false_eq_true, if_false, Bool.and_false, Bool.false_and]; exact Ev.now _
    | true =>
      have hl : (s.length : Int) = 2 := beq_iff_eq.1 f2
      simp only [if_true, Bool.and_true]
      simp only [show (0 : Int) < (s.length : Int) by omega, show (1 : Int) < (s.length : Int) by omega, if_true]
      refine Ev.bind (line_ev sb cb (rd s 0) (by omega)) ?_
      cases f3 : rightT sb cb with
      | false => simp only [Bool.false_and, Bool.false_eq_true, if_false]; exact Ev.now _
      | true =>
        simp only [Bool.true_and]
        by_cases f4 : sb = [rd s 0]
        · rw [decide_eq_true f4]
          simp only [if_true, Bool.true_and, Bool.and_true]
          refine Ev.bind (rightT_ev sx cx (by omega)) ?_
          cases f5 : rightT sx cx with
          | false => simp only [Bool.false_and, Bool.false_eq_true, if_false]; exact Ev.now _
          | true => simp only [Bool.true_and, if_true]; exact Ev.now _
        · rw [decide_eq_false f4]
          simp only [Bool.false_eq_true, if_false, Bool.and_false, Bool.false_and]; exact Ev.now _
theorem fitsL_ev (s c sb cb sx cx sg cg : List Int) (hb : sb.length ≤ 9) : Ev (fun k => athanorlaw06_fits.f k s c sb cb sx cx sg cg) (fitsB s c sb cb sx cx) := by
  unfold athanorlaw06_fits.f fitsB
  refine Ev.bind (rightL_ev s c) ?_
  cases f1 : rightT s c with
  | false => simp only [Bool.false_and, Bool.false_eq_true, if_false]; exact Ev.now _
  | true =>
    simp only [Bool.true_and, if_true]
    refine Ev.bind (rightL_ev sb cb) ?_
    cases f2 : rightT sb cb with
    | false => simp only [Bool.false_and, Bool.false_eq_true, if_false]; exact Ev.now _
    | true =>
      simp only [Bool.true_and, if_true]
      refine Ev.bind (rightL_ev sx cx) ?_
      cases f3 : rightT sx cx with
      | false => simp only [Bool.false_and, Bool.false_eq_true, if_false]; exact Ev.now _
      | true =>
        simp only [Bool.true_and, if_true]
        by_cases hl : (s.length : Int) = 2
        · simp only [hl, if_true, beq_self_eq_true, Bool.true_and]
          refine Ev.bind (same_ev sb [rd s 0] (by omega)) ?_
          by_cases f4 : sb = [rd s 0]
          · rw [decide_eq_true f4]; simp only [if_true, Bool.true_and]; exact Ev.now _
          · rw [decide_eq_false f4]; simp only [Bool.false_eq_true, if_false, Bool.false_and]; exact Ev.now _
        · rw [beq_eq_false_iff_ne.2 hl]; simp only [hl, if_false, Bool.false_and]; exact Ev.now _
theorem fitsB_true {s c sb cb sx cx : List Int} (h : fitsB s c sb cb sx cx = true) : ∃ m n : Nat, s = [(m : Int), (n : Int)] ∧ 1 ≤ m ∧ 1 ≤ n ∧ m ≤ 1024 ∧ n ≤ 1024 ∧ m * n = c.length ∧ sb = [(m : Int)] ∧ cb.length = m ∧ cx.length = n ∧ mat s c = true ∧ rightT sb cb = true := by
  unfold fitsB at h
  simp only [Bool.and_eq_true, decide_eq_true_eq, beq_iff_eq] at h
  obtain ⟨⟨⟨⟨⟨h1, h2⟩, h3⟩, h4⟩, h5⟩, h6⟩ := h
  have hm : mat s c = true := by unfold mat; rw [h1, Bool.true_and, beq_iff_eq]; exact h4
  obtain ⟨m, n, rfl, a1, a2, a3, a4, a5⟩ := mat_true hm
  have r0 : rd [(m : Int), (n : Int)] 0 = (m : Int) := rfl
  have r1 : rd [(m : Int), (n : Int)] 1 = (n : Int) := rfl
  rw [r0] at h5
  rw [r1] at h6
  have hp := (rightT_true h2).2
  rw [h5] at hp
  simp only [prod, Int.mul_one] at hp
  exact ⟨m, n, rfl, a1, a2, a3, a4, a5, h5, by omega, by omega, hm, h2⟩
theorem small_f (s c sb cb sx cx sg cg : List Int) : athanorlaw06_small.f s c sb cb sx cx sg cg = some (decide (c.length ≤ 400 ∧ cb.length ≤ 100 ∧ cx.length ≤ 100 ∧ cg.length ≤ 100 ∧ s.length ≤ 9 ∧ sb.length ≤ 9 ∧ sx.length ≤ 9 ∧ sg.length ≤ 9)) := by
  unfold athanorlaw06_small.f
  repeat' split
  all_goals first
    | (congr 1; rw [decide_eq_decide]; omega)
    | (congr 1; symm; rw [decide_eq_false_iff_not]; omega)
theorem all_row {c : List Int} (h : All64 c) (s : List Int) (i : Int) : All64 (rowD s c i) := by
  intro x hx
  unfold rowD at hx
  split at hx
  · split at hx
    · exact h x (List.mem_of_mem_take (List.mem_of_mem_drop hx))
    · cases hx
  · cases hx
theorem row_at {c : List Int} {m n i : Nat} (hm : mat [(m : Int), (n : Int)] c = true) (hi : i < m) (hc : m * n = c.length) : (rowD [(m : Int), (n : Int)] c (i : Int)).length = n ∧ ∀ j : Nat, j < n → rd (rowD [(m : Int), (n : Int)] c (i : Int)) (j : Int) = rd c ((i * n + j : Nat) : Int) := by
  have r0 : rd [(m : Int), (n : Int)] 0 = (m : Int) := rfl
  have r1 : rd [(m : Int), (n : Int)] 1 = (n : Int) := rfl
  have hb1 : (i + 1) * n ≤ m * n := Nat.mul_le_mul_right _ hi
  have e0 : (i : Int) * (n : Int) = ((i * n : Nat) : Int) := by simp
  have e1 : ((i : Int) + 1) * (n : Int) = (((i + 1) * n : Nat) : Int) := by simp
  have hs : (i + 1) * n = i * n + n := by rw [Nat.add_mul, Nat.one_mul]
  unfold rowD
  rw [if_pos hm, r0, r1, if_pos ⟨by omega, by omega⟩, e0, e1, Int.toNat_natCast, Int.toNat_natCast]
  have hl : ((c.take ((i + 1) * n)).drop (i * n)).length = n := by rw [List.length_drop, List.length_take]; omega
  refine ⟨hl, fun j hj => ?_⟩
  rw [rd_nat _ j (by omega), rd_nat c (i * n + j) (by omega), List.getElem_drop, List.getElem_take]
theorem dotF_ev (a b : List Int) (ha : a.length ≤ 1000000) (hb : b.length ≤ 1000000) (h1 : All64 a) (h2 : All64 b) : Ev (fun k => fix_Dot.f k a b) (dotL 0 a b) := by
  unfold fix_Dot.f
  have e : mn (a.length : Int) (b.length : Int) = ((min a.length b.length : Nat) : Int) := by unfold mn; split <;> omega
  rw [e]
  exact dot_ev a b (by omega) (by omega) h1 h2 _ rfl a b 0 0 (by unfold I64; omega) rfl rfl
theorem dotL_I64 : ∀ (a b : List Int) (s : Int), I64 s → I64 (dotL s a b)
  | [], _, s, h => by unfold dotL; exact h
  | _ :: _, [], s, h => by unfold dotL; exact h
  | x :: t, y :: u, s, h => by unfold dotL; exact dotL_I64 t u _ (addS_I64 _ _)
theorem zero64 : I64 0 := by unfold I64; omega
def goT (s c cb cx : List Int) : List Int := (List.range cb.length).map fun i : Nat => addS (dotL 0 (rowD s c (i : Int)) cx) (rd cb (i : Int))
theorem goLoop (s c sb cb sx cx : List Int) (hs : s.length ≤ 9) (hc : c.length ≤ 400) (hb : cb.length ≤ 100) (hx : cx.length ≤ 100) (h1 : All64 c) (h2 : All64 cb) (h3 : All64 cx) : ∀ (d i : Nat), i + d = cb.length →
    Ev (fun k => dense_Go.l0 k cb (cb.length : Int) (i : Int) s c sx cx sb (mixL (goT s c cb cx) cb i)) (sb, goT s c cb cx, 0) := by
  have hz : (goT s c cb cx).length = cb.length := by simp [goT]
  intro d
  induction d with
  | zero =>
    intro i h
    refine Ev.step (fun k => ?_) (Ev.now _)
    simp only [dense_Go.l0]; rw [if_neg (by omega), mixL_end hz (by omega)]
  | succ d ih =>
    intro i h
    have hi : i < cb.length := by omega
    have hrl : (rowD s c (i : Int)).length ≤ 400 := by
      unfold rowD; split
      · split
        · rw [List.length_drop, List.length_take]; omega
        · simp
      · simp
    refine Ev.step (f := fun k => (dense_Row.f k s c (i : Int)).bind fun t203 => ((fix_Dot.f k t203 cx).bind fun t206 => ((fix_F_Add.f k t206 (rd cb (i : Int))).bind fun t207 => dense_Go.l0 k cb (cb.length : Int) ((i + 1 : Nat) : Int) s c sx cx sb ((mixL (goT s c cb cx) cb i).set i t207)))) (fun k => ?_) (Ev.bind (row_ev s c (i : Int) (by omega) (by omega) (by omega)) (Ev.bind (dotF_ev _ _ (by omega) (by omega) (all_row h1 s _) h3) (Ev.bind (add_ev _ _ (dotL_I64 _ _ _ zero64) (at64 h2 hi)) ?_)))
    · simp only [dense_Go.l0, Int.toNat_natCast]; rw [if_pos (by omega), if_pos (by omega), if_pos (by omega)]; simp only [mixL_length hz, show ((i : Int) < (cb.length : Int)) by omega, if_true, w64s hi (show cb.length ≤ 140737488351232 by omega)]
    · have e : addS (dotL 0 (rowD s c (i : Int)) cx) (rd cb (i : Int)) = rd (goT s c cb cx) (i : Int) := by rw [rd_nat (goT s c cb cx) i (by omega)]; simp [goT]
      rw [e, mixL_set hz hi]
      exact ih (i + 1) (by omega)
theorem go_ev (s c sb cb sx cx : List Int) (hs : s.length ≤ 9) (hsb : sb.length ≤ 9) (hsx : sx.length ≤ 9) (hc : c.length ≤ 400) (hb : cb.length ≤ 100) (hx : cx.length ≤ 100) (h1 : All64 c) (h2 : All64 cb) (h3 : All64 cx) :
    Ev (fun k => dense_Go.f k s c sb cb sx cx) (if fitsB s c sb cb sx cx = true then (sb, goT s c cb cx, 0) else ([], [], 20)) := by
  unfold dense_Go.f
  refine Ev.bind (fitsD_ev s c sb cb sx cx hs hsb hsx) ?_
  cases fitsB s c sb cb sx cx with
  | false => simp only [Bool.false_eq_true, if_false]; exact Ev.now _
  | true =>
    simp only [if_true, copyT_f sb cb (by omega) (by omega), Option.bind_some]
    have := goLoop s c sb cb sx cx hs hc hb hx h1 h2 h3 cb.length 0 (by omega)
    rw [mixL_zero] at this
    exact this
theorem refGoIn (c cb cx T : List Int) (m n i : Nat) (hm : mat [(m : Int), (n : Int)] c = true) (hi : i < m) (hmn : m * n = c.length) (hc : c.length ≤ 400) (hx : cx.length = n) (hb : cb.length = m) (h1 : All64 c) (h2 : All64 cb) (h3 : All64 cx) (hT : T = goT [(m : Int), (n : Int)] c cb cx)
    (hE : Ev (fun k => athanorref06_Go.l0 k (m : Int) c cb cx (n : Int) (T.take (i + 1)) ((i + 1 : Nat) : Int)) T) : ∀ (t u : List Int) (j : Nat) (a : Int), I64 a → (rowD [(m : Int), (n : Int)] c (i : Int)).drop j = t → cx.drop j = u → dotL a t u = dotL 0 (rowD [(m : Int), (n : Int)] c (i : Int)) cx →
    Ev (fun k => athanorref06_Go.l1 k (m : Int) c cb cx (n : Int) (T.take i) (i : Int) a (j : Int)) T := by
  obtain ⟨r1, r2⟩ := row_at hm hi hmn
  have hTl : T.length = m := by rw [hT]; simp [goT, hb]
  have hm1 : (i + 1) * n ≤ m * n := Nat.mul_le_mul_right _ hi
  have hm2 : (i + 1) * n = i * n + n := by rw [Nat.add_mul, Nat.one_mul]
  have hmle : m ≤ 1024 := by obtain ⟨m', n', e, _, _, e3, _⟩ := mat_true hm; injection e with e1 _; omega
  intro t
  induction t with
  | nil =>
    intro u j a ha h h' hd
    have hj := drop_nil h
    have e0 : a = dotL 0 (rowD [(m : Int), (n : Int)] c (i : Int)) cx := by rw [← hd]; unfold dotL; rfl
    refine Ev.step (f := fun k => (athanorref01_Add.f k a (rd cb (i : Int))).bind fun t => athanorref06_Go.l0 k (m : Int) c cb cx (n : Int) (T.take i ++ [t]) ((i + 1 : Nat) : Int)) (fun k => ?_) (Ev.bind (refAdd_ev _ _ ha (at64 h2 (by omega))) ?_)
    · simp only [athanorref06_Go.l1]; rw [if_neg (by omega), if_pos (by omega), if_pos (by omega), w64s (n := m) hi (by omega)]
      congr 1; funext t; rw [if_pos (by rw [List.length_take]; omega)]
    · have e : addS a (rd cb (i : Int)) = T[i]'(by omega) := by rw [e0]; simp [hT, goT]
      rw [e, ← List.take_succ_eq_append_getElem]; exact hE
  | cons x t ih =>
    intro u j a ha h h' hd
    obtain ⟨g1, g2, g3⟩ := drop_cons h
    cases u with
    | nil => have := drop_nil h'; omega
    | cons y u =>
      obtain ⟨k1, k2, k3⟩ := drop_cons h'
      have e0 : (i : Int) * (n : Int) = ((i * n : Nat) : Int) := by simp
      have ec : rd c ((i * n : Nat) + (j : Int)) = x := by rw [← g2, r2 j (by omega)]; congr 1
      have hx1 : I64 x := by rw [← g2]; exact at64 (all_row h1 _ _) g1
      have hy1 : I64 y := by rw [← k2]; exact at64 h3 k1
      refine Ev.step (f := fun k => (athanorref01_Mul.f k x y).bind fun t315 => ((athanorref01_Add.f k a t315).bind fun t316 => (athanorref06_Go.l1 k (m : Int) c cb cx (n : Int) (T.take i) (i : Int) t316 ((j + 1 : Nat) : Int)))) (fun k => ?_) (Ev.bind (refMul_ev _ _ hx1 hy1) (Ev.bind (refAdd_ev _ _ ha (mulS_I64 _ _)) (ih u (j + 1) _ (addS_I64 _ _) g3 k3 ?_)))
      · simp only [athanorref06_Go.l1]
        rw [if_pos (by omega), w64 (x := (i : Int) * (n : Int)) (by omega) (by omega), e0, w64 (x := ((i * n : Nat) : Int) + (j : Int)) (by omega) (by omega), if_pos (by omega), if_pos (by omega), if_pos (by omega), if_pos (by omega), ec, k2, w64s (n := n) (by omega) (by omega)]
      · rw [← hd]; conv => rhs; unfold dotL
theorem refGoLoop (c cb cx T : List Int) (m n : Nat) (hm : mat [(m : Int), (n : Int)] c = true) (hmn : m * n = c.length) (hc : c.length ≤ 400) (hx : cx.length = n) (hb : cb.length = m) (h1 : All64 c) (h2 : All64 cb) (h3 : All64 cx) (hT : T = goT [(m : Int), (n : Int)] c cb cx) : ∀ (d i : Nat), i + d = m →
    Ev (fun k => athanorref06_Go.l0 k (m : Int) c cb cx (n : Int) (T.take i) (i : Int)) T := by
  have hTl : T.length = m := by rw [hT]; simp [goT, hb]
  intro d
  induction d with
  | zero =>
    intro i h
    refine Ev.step (fun k => ?_) (Ev.now _)
    simp only [athanorref06_Go.l0]; rw [if_neg (by omega), List.take_of_length_le (by omega)]
  | succ d ih =>
    intro i h
    refine Ev.step (fun k => ?_) (refGoIn c cb cx T m n i hm (by omega) hmn hc hx hb h1 h2 h3 hT (ih (i + 1) (by omega)) _ cx 0 0 zero64 rfl rfl rfl)
    simp only [athanorref06_Go.l0]; rw [if_pos (by omega)]; rfl
theorem DenseGoes : athanorlaw06_DenseGoes.Pure := by
  intro z hz
  obtain ⟨⟨s, c⟩, ⟨sb, cb⟩, ⟨sx, cx⟩, ⟨sg, cg⟩⟩ := z
  have h1 : All64 c := hz.1.2.2
  have h2 : All64 cb := hz.2.1.2.2
  have h3 : All64 cx := hz.2.2.1.2.2
  refine Ev.rounds (g := fun k => athanorlaw06_DenseGoes.f k s c sb cb sx cx sg cg) ?_
  unfold athanorlaw06_DenseGoes.f
  simp only [small_f, Option.bind_some, decide_eq_true_eq, aw]
  by_cases h : c.length ≤ 400 ∧ cb.length ≤ 100 ∧ cx.length ≤ 100 ∧ cg.length ≤ 100 ∧ s.length ≤ 9 ∧ sb.length ≤ 9 ∧ sx.length ≤ 9 ∧ sg.length ≤ 9
  · simp only [h, and_self, if_true]
    obtain ⟨a1, a2, a3, a4, a5, a6, a7, a8⟩ := h
    refine Ev.bind (go_ev s c sb cb sx cx a5 a6 a7 a1 a2 a3 h1 h2 h3) (Ev.bind (fitsL_ev s c sb cb sx cx sg cg a6) ?_)
    cases e : fitsB s c sb cb sx cx with
    | false => simp only [Bool.false_eq_true, if_false, if_true, List.length_nil]; exact Ev.now _
    | true =>
      obtain ⟨m, n, rfl, b1, b2, b3, b4, b5, rfl, b6, b7, b8, b9⟩ := fitsB_true e
      simp only [if_true, show (0 : Int) < (([(m : Int), (n : Int)] : List Int).length : Int) by simp]
      refine Ev.bind (cells_ev _ c (by omega)) (Ev.bind (cells_ev _ cb (by omega)) (Ev.bind (cells_ev _ cx (by omega)) ?_))
      have r0 : rd [(m : Int), (n : Int)] 0 = (m : Int) := rfl
      have hg : Ev (fun k => athanorref06_Go.f k (rd [(m : Int), (n : Int)] 0) c cb cx) (goT [(m : Int), (n : Int)] c cb cx) := by
        unfold athanorref06_Go.f
        have := refGoLoop c cb cx _ m n b8 b5 a1 b7 b6 h1 h2 h3 rfl m 0 (by omega)
        rw [r0, b7]
        simpa using this
      refine Ev.bind hg (Ev.bind (sameT_ev _ _ _ _ (by simp) (by simp [goT]; omega)) ?_)
      simp only [and_self, decide_true, if_true]; exact Ev.now _
  · simp only [h, if_false]; exact Ev.now _
end Go.Proofs.Ytgmgjddfceilhaa.LawsDenseG
