/- What the printed sums of package fix and of its reference answer. Conditions: numbers of 64 bits. -/
import Derived.Test.YtgmgjddfceilhaaPDenx4
import Derived.Test.YtgmgjddfceilhaaPDenx12
import Derived.Test.YtgmgjddfceilhaaAidFix
set_option linter.unusedSimpArgs false
set_option linter.unusedVariables false
namespace Go.Proofs.Ytgmgjddfceilhaa.AidNum
open Go.RowKit Go.Proofs.Ytgmgjddfceilhaa.PDen Go.Proofs.Ytgmgjddfceilhaa.Aid Go.Proofs.Ytgmgjddfceilhaa.AidFix Go.Proofs.YtgmgjddfceilhaaW.PrintWords Go.Proofs.YtgmgjddfceilhaaW.PrintLast Go.Proofs.YtgmgjddfceilhaaW.PrintMore
/-- Held within bounds. -/
def clampI (z : Int) : Int := if z < -9223372036854775808 then -9223372036854775808 else if z > 9223372036854775807 then 9223372036854775807 else z
theorem clampI_I64 (z : Int) : I64 (clampI z) := by unfold clampI I64; split <;> (try split) <;> omega
theorem satI_I64 (neg : Bool) (N : Nat) : I64 (satI neg N) := by unfold satI I64; split <;> split <;> omega
theorem mulS_I64 (x y : Int) : I64 (mulS x y) := satI_I64 _ _
def addS (x y : Int) : Int := clampI (x + y)
def subS (x y : Int) : Int := clampI (x - y)
theorem satb_over (neg : Bool) : satb 0 true neg = if neg = true then -9223372036854775808 else 9223372036854775807 := by cases neg <;> rfl
theorem add_ev (x y : Int) (hx : I64 x) (hy : I64 y) : Ev (fun k => fix_F_Add.f k x y) (addS x y) := by
  unfold I64 at hx hy
  unfold fix_F_Add.f addS clampI
  have hs := Ev.bind (signed_ev 0 true (decide (x < 0)) (by omega) (by omega)) (f := fun _ t => some t) (Ev.now _)
  rw [satb_over] at hs
  by_cases c1 : ((decide (x < 0)) == (decide (y < 0))) = true
  · simp only [c1, if_true]
    by_cases c2 : ((decide ((wrap64 (x + y)) < 0)) != (decide (x < 0))) = true
    · simp only [c2, if_true]
      have e : (if decide (x < 0) = true then -9223372036854775808 else (9223372036854775807 : Int)) = (if x + y < -9223372036854775808 then -9223372036854775808 else if x + y > 9223372036854775807 then 9223372036854775807 else x + y) := by
        simp only [bne_iff_ne, beq_iff_eq, ne_eq, decide_eq_decide, decide_eq_true_eq] at c1 c2 ⊢
        unfold wrap64 at c2
        by_cases h : x < 0
        · rw [if_pos h, if_pos (by omega)]
        · rw [if_neg h, if_neg (by omega), if_pos (by omega)]
      rw [← e]; exact hs
    · simp only [c2]
      have e : wrap64 (x + y) = (if x + y < -9223372036854775808 then -9223372036854775808 else if x + y > 9223372036854775807 then 9223372036854775807 else x + y) := by
        simp only [bne_iff_ne, beq_iff_eq, ne_eq, decide_eq_decide, Classical.not_not] at c1 c2
        unfold wrap64 at c2 ⊢
        rw [if_neg (by omega), if_neg (by omega)]; omega
      rw [← e]; exact Ev.now _
  · simp only [c1]
    have e : wrap64 (x + y) = (if x + y < -9223372036854775808 then -9223372036854775808 else if x + y > 9223372036854775807 then 9223372036854775807 else x + y) := by
      simp only [beq_iff_eq, decide_eq_decide] at c1
      unfold wrap64
      rw [if_neg (by omega), if_neg (by omega)]; omega
    rw [← e]; exact Ev.now _
theorem refAdd_ev (x y : Int) (hx : I64 x) (hy : I64 y) : Ev (fun k => athanorref01_Add.f k x y) (addS x y) := by
  unfold I64 at hx hy
  unfold athanorref01_Add.f addS clampI
  by_cases c : x > 0
  · simp only [c, if_true]
    refine Ev.step (fun k => ?_) (Ev.now _)
    simp only [athanorref01_Add.j0]
    by_cases d : y > 9223372036854775807 - x
    · rw [w64 (by omega) (by omega), if_pos (by simpa using d), if_neg (by omega), if_pos (by omega)]
    · rw [w64 (x := 9223372036854775807 - x) (by omega) (by omega), if_neg (by simpa using d), if_neg (by omega), if_neg (by omega), if_neg (by omega), w64 (by omega) (by omega)]
  · simp only [c, if_false]
    refine Ev.step (fun k => ?_) (Ev.now _)
    simp only [athanorref01_Add.j0, Bool.false_eq_true, if_false]
    by_cases d : x < 0
    · rw [if_pos d, w64 (x := -9223372036854775808 - x) (by omega) (by omega)]
      by_cases e : y < -9223372036854775808 - x
      · rw [if_pos e, if_pos (by omega)]
      · rw [if_neg e, if_neg (by omega), if_neg (by omega), w64 (by omega) (by omega)]
    · rw [if_neg d, if_neg (by omega), if_neg (by omega), w64 (by omega) (by omega)]
def sumL (s : Int) : List Int → Int
  | [] => s
  | x :: t => sumL (addS s x) t
def dotL (s : Int) : List Int → List Int → Int
  | x :: t, y :: u => dotL (addS s (mulS x y)) t u
  | _, _ => s
theorem I64_of {l : List Int} (h : ∀ x ∈ l, (Lit.int .i64 x).wf = true) {t : List Int} {i : Nat} {x : Int} (hd : l.drop i = x :: t) : I64 x :=
  wf64 (h x (List.mem_of_mem_drop (by rw [hd]; exact List.mem_cons_self)))
theorem addS_I64 (x y : Int) : I64 (addS x y) := clampI_I64 _
theorem dot_ev (a b : List Int) (hn : a.length ≤ 140737488351232) (hm : b.length ≤ 140737488351232) (ha : ∀ x ∈ a, (Lit.int .i64 x).wf = true) (hb : ∀ x ∈ b, (Lit.int .i64 x).wf = true) (m : Nat) (hm' : m = min a.length b.length) :
    ∀ (t u : List Int) (i : Nat) (s : Int), I64 s → a.drop i = t → b.drop i = u →
    Ev (fun k => fix_Dot.l0 k a b s (m : Int) (i : Int)) (dotL s t u) := by
  intro t
  induction t with
  | nil =>
    intro u i s hs h h'
    have := drop_nil h
    refine Ev.step (fun k => ?_) (Ev.now _)
    simp only [fix_Dot.l0]; rw [if_neg (by omega)]; unfold dotL; rfl
  | cons x t ih =>
    intro u i s hs h h'
    obtain ⟨g1, g2, g3⟩ := drop_cons h
    have hx := I64_of ha h
    cases u with
    | nil =>
      have := drop_nil h'
      refine Ev.step (fun k => ?_) (Ev.now _)
      simp only [fix_Dot.l0]; rw [if_neg (by omega)]; unfold dotL; rfl
    | cons y u =>
      obtain ⟨k1, k2, k3⟩ := drop_cons h'
      have hy := I64_of hb h'
      refine Ev.step (f := fun k => (fix_F_Mul.f k x y).bind fun t207 => ((fix_F_Add.f k s t207).bind fun t208 => (fix_Dot.l0 k a b t208 (m : Int) ((i + 1 : Nat) : Int)))) (fun k => ?_) (Ev.bind (mul_ev x y hx hy) (Ev.bind (add_ev s _ hs (mulS_I64 _ _)) (ih u (i + 1) _ (addS_I64 _ _) g3 k3)))
      simp only [fix_Dot.l0]; rw [if_pos (by omega), if_pos (by omega), if_pos (by omega), if_pos (by omega), g2, k2, w64s g1 hn]
end Go.Proofs.Ytgmgjddfceilhaa.AidNum
