/- Words of this project's own print (wip/tools/xp.py): lemmas that its walks use beside the kit's. Conditions: each lemma's own. -/
import Derived.Test.YtmekcfmhaflghaaVWMore
import Derived.Lib.SliceRun
import Derived.WalkSpells
namespace Go.Proofs.Ytmekcfmhaflghaa.XW
open Go.RowKit Go.Proofs.YtmekcfmhaflghaaW.PrintWords Go.Proofs.YtmekcfmhaflghaaW.PrintLast Go.Proofs.YtmekcfmhaflghaaW.PrintMore
theorem C_isNil {α : Type} {d : Kd α} {w : World} {A : Option Addr} {n : Nat} {xs : List α} (h : Kd.C d w A n xs) (hA : A.isNone = true) : xs = [] := by
  obtain ⟨h1, _, h3⟩ := h
  cases xs with
  | nil => rfl
  | cons x t =>
    simp at h1
    obtain ⟨ad, e, _⟩ := h3 (by omega)
    rw [e] at hA; cases hA
theorem max_five (ats : Array TypeId) (ty : TypeId) (a b c d e : Value) : Builtin.max_ ats ty #[a, b, c, d, e] = (Builtin.max2 a b >>= fun s => Builtin.max2 s c >>= fun s => Builtin.max2 s d >>= fun s => Builtin.max2 s e >>= fun s => pure s) := by simp only [Builtin.max_, List.foldlM_cons, List.foldlM_nil]
theorem min_five (ats : Array TypeId) (ty : TypeId) (a b c d e : Value) : Builtin.min_ ats ty #[a, b, c, d, e] = (Builtin.min2 a b >>= fun s => Builtin.min2 s c >>= fun s => Builtin.min2 s d >>= fun s => Builtin.min2 s e >>= fun s => pure s) := by simp only [Builtin.min_, List.foldlM_cons, List.foldlM_nil]
/- Short names, for what is printed. -/
theorem rA : type_of% @Kd.R_alloc := @Kd.R_alloc
theorem rN : type_of% @Kd.R_drewN := @Kd.R_drewN
theorem rD : type_of% @Kd.R_drew := @Kd.R_drew
theorem cA : type_of% @Kd.C_alloc := @Kd.C_alloc
theorem cN : type_of% @Kd.C_drewN := @Kd.C_drewN
theorem cD : type_of% @Kd.C_drew := @Kd.C_drew
theorem kA : type_of% @blk_alloc := @blk_alloc
theorem kN : type_of% @blk_drewN := @blk_drewN
theorem kD : type_of% @blk_drew := @blk_drew
theorem bA : type_of% @below_alloc := @below_alloc
theorem bN : type_of% @pw_below_drewN := @pw_below_drewN
theorem bD : type_of% @below_drew1 := @below_drew1
theorem bS : type_of% @below_set := @below_set
theorem aM {p : Prop} (h : p) : Aside0 p := ⟨h⟩
end Go.Proofs.Ytmekcfmhaflghaa.XW
