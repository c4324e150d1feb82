/- Plain lemmas on numbers, lists and rounds that the pure statements of this seat share. Conditions: those of each lemma. -/
import Derived.Test.YtmekcfmhaflghaaVWMore
import Derived.WalkKit
namespace Go.Proofs.Ytmekcfmhaflghaa.Aid
open Go.RowKit Go.Proofs.YtmekcfmhaflghaaW.PrintWords Go.Proofs.YtmekcfmhaflghaaW.PrintLast Go.Proofs.YtmekcfmhaflghaaW.PrintMore
theorem w64 {x : Int} (h0 : -9223372036854775808 ≤ x) (h1 : x ≤ 9223372036854775807) : wrap64 x = x := by unfold wrap64; omega
theorem w64s {i n : Nat} (h : i < n) (hn : n ≤ 140737488351232) : wrap64 ((i : Int) + 1) = ((i + 1 : Nat) : Int) := by unfold wrap64; omega
theorem wu64 {x : Int} (h0 : 0 ≤ x) (h1 : x ≤ 18446744073709551615) : IntKind.u64.wrap x = x := by
  have h : x % (2 ^ 64 : Int) = x := Int.emod_eq_of_lt h0 (by omega)
  simp [IntKind.wrap, IntKind.bits, IntKind.signed] at h ⊢
  omega
theorem wu64_mod (x : Int) : IntKind.u64.wrap x = x % 18446744073709551616 := by
  simp [IntKind.wrap, IntKind.bits, IntKind.signed]
theorem wf64 {x : Int} (h : (Lit.int .i64 x).wf = true) : -9223372036854775808 ≤ x ∧ x ≤ 9223372036854775807 := by
  simp [Lit.wf, IntKind.min, IntKind.max, IntKind.signed, IntKind.bits] at h
  omega
theorem rd_nat (l : List Int) (i : Nat) (h : i < l.length) : rd l (i : Int) = l[i] := by
  simp [rd, List.getD_eq_getElem?_getD, h]
theorem drop_cons {l : List Int} {i : Nat} {x : Int} {t : List Int} (h : l.drop i = x :: t) : i < l.length ∧ rd l (i : Int) = x ∧ l.drop (i + 1) = t := by
  have hi : i < l.length := by
    apply Nat.lt_of_not_le; intro hle
    rw [List.drop_eq_nil_of_le hle] at h; cases h
  rw [List.drop_eq_getElem_cons hi] at h
  injection h with h1 h2
  exact ⟨hi, by rw [rd_nat l i hi]; exact h1, h2⟩
theorem drop_nil {l : List Int} {i : Nat} (h : l.drop i = []) : l.length ≤ i := by simpa using h
theorem Ev.mono_of {α : Type} {g : Nat → Option α} {r : α} (h : Ev g r) (k : Nat → Nat) (hk : ∀ n, n ≤ k n) : Ev (fun n => g (k n)) r := by
  obtain ⟨K, hK⟩ := h
  exact ⟨K, fun n hn => hK _ (Nat.le_trans hn (hk n))⟩
theorem tdiv_pos {a b : Int} (h : 0 ≤ a) : Int.tdiv a b = a / b := Int.tdiv_eq_ediv_of_nonneg h
end Go.Proofs.Ytmekcfmhaflghaa.Aid
