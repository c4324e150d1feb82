/- Words of this project's own print (wip/tools/xp.py): lemmas that its walks use beside the kit's. Conditions: each lemma's own. -/
import Derived.Test.YtkbonmhegojfdaaWMore
import Derived.Lib.SliceRun
import Derived.WalkSpells
namespace Go.Proofs.Ytkbonmhegojfdaa.XW
open Go.RowKit Go.Proofs.YtkbonmhegojfdaaW.PrintWords Go.Proofs.YtkbonmhegojfdaaW.PrintLast Go.Proofs.YtkbonmhegojfdaaW.PrintMore
theorem C_isNil {α : Type} {d : Kd α} {w : World} {A : Option Addr} {n : Nat} {xs : List α} (h : Kd.C d w A n xs) (hA : A.isNone = true) : xs = [] := by
  obtain ⟨h1, _, h3⟩ := h
  cases xs with
  | nil => rfl
  | cons x t =>
    simp at h1
    obtain ⟨ad, e, _⟩ := h3 (by omega)
    rw [e] at hA; cases hA
theorem max_five (ats : Array TypeId) (ty : TypeId) (a b c d e : Value) : Builtin.max_ ats ty #[a, b, c, d, e] = (Builtin.max2 a b >>= fun s => Builtin.max2 s c >>= fun s => Builtin.max2 s d >>= fun s => Builtin.max2 s e >>= fun s => pure s) := by simp only [Builtin.max_, List.foldlM_cons, List.foldlM_nil]
theorem min_five (ats : Array TypeId) (ty : TypeId) (a b c d e : Value) : Builtin.min_ ats ty #[a, b, c, d, e] = (Builtin.min2 a b >>= fun s => Builtin.min2 s c >>= fun s => Builtin.min2 s d >>= fun s => Builtin.min2 s e >>= fun s => pure s) := by simp only [Builtin.min_, List.foldlM_cons, List.foldlM_nil]
end Go.Proofs.Ytkbonmhegojfdaa.XW
