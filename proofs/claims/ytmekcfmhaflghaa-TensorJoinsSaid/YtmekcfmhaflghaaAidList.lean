/- Lists that a loop fills from the first place on; what is known of their numbers. Conditions: those of each lemma. -/
import Derived.Test.YtmekcfmhaflghaaAid
set_option linter.unusedSimpArgs false
set_option linter.unusedVariables false
namespace Go.Proofs.Ytmekcfmhaflghaa.AidList
open Go.RowKit Go.Proofs.Ytmekcfmhaflghaa.Aid Go.Proofs.YtmekcfmhaflghaaW.PrintWords Go.Proofs.YtmekcfmhaflghaaW.PrintLast Go.Proofs.YtmekcfmhaflghaaW.PrintMore
/-- The first i places are T's already, the others A's still. -/
def mixL (T A : List Int) (i : Nat) : List Int := T.take i ++ A.drop i
theorem mixL_length {T A : List Int} (h : T.length = A.length) (i : Nat) : (mixL T A i).length = A.length := by
  unfold mixL; rw [List.length_append, List.length_take, List.length_drop]; omega
theorem mixL_zero (T A : List Int) : mixL T A 0 = A := by simp [mixL]
theorem mixL_end {T A : List Int} (h : T.length = A.length) {i : Nat} (hi : A.length ≤ i) : mixL T A i = T := by
  unfold mixL; rw [List.take_of_length_le (by omega), List.drop_eq_nil_of_le hi, List.append_nil]
theorem mixL_rd {T A : List Int} (h : T.length = A.length) {i : Nat} (hi : i < A.length) : rd (mixL T A i) (i : Int) = rd A (i : Int) := by
  rw [rd_nat _ _ (by rw [mixL_length h]; exact hi), rd_nat _ _ hi]
  unfold mixL
  rw [List.getElem_append_right (by rw [List.length_take]; omega)]
  simp only [List.length_take, List.getElem_drop]
  congr 1; omega
theorem mixL_set {T A : List Int} (h : T.length = A.length) {i : Nat} (hi : i < A.length) : (mixL T A i).set i (rd T (i : Int)) = mixL T A (i + 1) := by
  rw [rd_nat T i (by omega)]
  unfold mixL
  rw [List.set_append_right _ _ (by rw [List.length_take]; omega), List.length_take, show i - min i T.length = 0 by omega, List.drop_eq_getElem_cons hi, List.set_cons_zero, List.take_succ_eq_append_getElem (by omega), List.append_assoc]
  rfl
theorem rd_map (f : Int → Int) (l : List Int) {i : Nat} (hi : i < l.length) : rd (l.map f) (i : Int) = f (rd l (i : Int)) := by
  rw [rd_nat _ _ (by simpa using hi), rd_nat _ _ hi, List.getElem_map]
theorem rd_zip (f : Int → Int → Int) (l m : List Int) {i : Nat} (hi : i < l.length) (hj : i < m.length) : rd (List.zipWith f l m) (i : Int) = f (rd l (i : Int)) (rd m (i : Int)) := by
  rw [rd_nat _ _ (by simp; omega), rd_nat _ _ hi, rd_nat _ _ hj, List.getElem_zipWith]
def All64 (l : List Int) : Prop := ∀ x ∈ l, (Lit.int .i64 x).wf = true
theorem at64 {l : List Int} (h : All64 l) {i : Nat} (hi : i < l.length) : -9223372036854775808 ≤ rd l (i : Int) ∧ rd l (i : Int) ≤ 9223372036854775807 := by
  rw [rd_nat l i hi]; exact wf64 (h _ (List.getElem_mem hi))
theorem ext_rd {a b : List Int} (h : a.length = b.length) (hr : ∀ i : Nat, i < a.length → rd a (i : Int) = rd b (i : Int)) : a = b := by
  apply List.ext_getElem h
  intro i h1 h2
  have := hr i h1
  rwa [rd_nat a i h1, rd_nat b i h2] at this
end Go.Proofs.Ytmekcfmhaflghaa.AidList
