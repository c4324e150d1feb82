/- A region that draws its order, walked in one order that is told as a list: what is left of it tells what has come up. Conditions: those of each lemma. -/
import Derived.Test.YtmekcfmhaflghaaVWMore
import Derived.Laws.AppendOwn
import Derived.RangeFuncBox
set_option linter.unusedVariables false
namespace Go.Proofs.Ytmekcfmhaflghaa.Auto
open Go.RowKit Go.Proofs.YtmekcfmhaflghaaW.PrintWords Go.Proofs.YtmekcfmhaflghaaW.PrintLast Go.Proofs.YtmekcfmhaflghaaW.PrintMore
section
variable {P : Program} {ops : Array Oper} {Q : Exit → Act → World → Prop} {md : Region.Mode} {S : World → Prop} {ds : List Nat}
/-- What has come up of n operations where those of o are left. -/
def lst (n : Nat) (o : List (Nat × Option Tmp)) : Array Bool := ((List.range n).map fun j => !o.any fun p => p.1 == j).toArray
theorem startO (o : List (Nat × Option Tmp)) {id n : Nat} {a : Act} {w : World} (hm : P.follows .mixedOrders = true) (hn : ops.size = n) (hl : Array.replicate n false = lst n o) (hS : S w.drew)
    (h : S w.drew → wpAnyLast P .any ops Q S ds n (lst n o) a w.drew) : (Code.region id ops true).wp P Q a w := start_ _ hm hn hl hS h
theorem takeO {n i : Nat} {o : List (Nat × Option Tmp)} {m : Nat} {N : Option Tmp} {oi : Oper} {v : Value} {a a' : Act} {w : World} (hi : ops[i]? = some oi) (hN : oi.dst = N) (hc : takeB md ops ds (lst n ((i, N) :: o)) (lst n o) i = true)
    (hQ : ∀ c a w, Q (.panic c) (a.put oi.dst v) w → Q (.panic c) a w) (hS : S w) (hy : YieldsIf P ops S oi v a) (ha : a.put N v = a') (h : wpAnyLast P md ops Q S ds m (lst n o) a' w) : wpAnyLast P md ops Q S ds (m + 1) (lst n ((i, N) :: o)) a w :=
  take_ (lst n o) hi hN hc hQ hy hS ha h
theorem pureO {n i : Nat} {o : List (Nat × Option Tmp)} {m : Nat} {N : Option Tmp} {oi : Oper} {v : Value} {a a' : Act} {w : World} (hi : ops[i]? = some oi) (hN : oi.dst = N) (hc : anyB md ops (lst n ((i, N) :: o)) (lst n o) i = true)
    (hQ : ∀ c a w, Q (.panic c) (a.put oi.dst v) w → Q (.panic c) a w) (hy : Yields P ops oi v a) (ha : a.put N v = a') (h : wpAnyLast P md ops Q S ds m (lst n o) a' w) : wpAnyLast P md ops Q S ds (m + 1) (lst n ((i, N) :: o)) a w :=
  pure_ (lst n o) hi hN hc hQ hy ha h
theorem oneO {n i : Nat} {o : List (Nat × Option Tmp)} {m : Nat} {N : Option Tmp} {oi : Oper} {a : Act} {w : World} (hi : ops[i]? = some oi) (hN : oi.dst = N) (hc : readyB md ops (lst n ((i, N) :: o)) (lst n o) i = true) (hd : i ∉ ds)
    (h : ∀ K : Act → World → Prop, Shut (∀ a' w', S w' → (S w' → wpAnyLast P md ops Q S ds m (lst n o) a' w') → K a' w') → if Region.wanted oi (yielded ops a.tmps) = true then Oper.wp P oi a w K Q else K (a.put N undef) w) : wpAnyLast P md ops Q S ds (m + 1) (lst n ((i, N) :: o)) a w :=
  one_ (lst n o) hi hN hc hd h
theorem lastO {n i : Nat} {o : List (Nat × Option Tmp)} {m : Nat} {N : Option Tmp} {oi : Oper} {a : Act} {w : World} (hi : ops[i]? = some oi) (hN : oi.dst = N) (hc : readyB md ops (lst n ((i, N) :: o)) (lst n o) i = true) (hd : i ∈ ds)
    (h : ∀ K : Act → World → Prop, Shut (∀ a' w', wpAnyLast P md ops Q S ds m (lst n o) a' w' → K a' w') → if Region.wanted oi (yielded ops a.tmps) = true then Oper.wp P oi a w K Q else K (a.put N undef) w) : wpAnyLast P md ops Q S ds (m + 1) (lst n ((i, N) :: o)) a w :=
  last_ (lst n o) hi hN hc hd h
theorem doneO {n m : Nat} {a : Act} {w : World} (hr : (Region.ready md ops (lst n []) == []) = true) (h : Q .normal a w) : wpAnyLast P md ops Q S ds m (lst n []) a w := done_ hr h
end
/-- A variable's block lies on where only new memory was made. -/
theorem boxB {w W W' : World} {g : Nat} {o : Obj} (hS : Below w.heap.size w W ∧ W.heap[g]? = some o) (hb : Below W.heap.size W W') : Below w.heap.size w W' ∧ W'.heap[g]? = some o :=
  ⟨below_step hS.1 hb, (hb.block _ (Array.getElem?_eq_some_iff.1 hS.2).1).trans hS.2⟩
theorem belA (w : World) (o : Obj) : Below w.heap.size w (w.alloc o) := below_alloc (Below.refl _ _) _
theorem cellB {w w1 : World} (hb : Below w.heap.size w w1) {p : Addr} {v : Value} (h : w.cell? p = some v) : w1.cell? p = some v := by
  have hl := World.block_lt_of_cell? w _ h
  rw [← h]; exact hb.cell hl
theorem belN (w : World) (n : Nat) : Below w.heap.size w (w.drewN n) := pw_below_drewN (Below.refl _ _) n
theorem belD {w w' : World} (h : Drawn0 w w') : Below w.heap.size w w' := by obtain ⟨n, rfl⟩ := h.out; exact belN w n
theorem lit_cell (w : World) (cs : Array Value) (t : Nat) (j : Nat) (v : Value) (h : cs[j]? = some v) : (w.alloc (.cells cs t)).cell? ((⟨w.heap.size, 0, none⟩ : Addr).add j) = some v := by
  have e : ((⟨w.heap.size, 0, none⟩ : Addr).add j) = ⟨w.heap.size, j, none⟩ := by unfold Addr.add; split <;> simp_all
  rw [e]
  unfold World.cell?
  rw [World.alloc_heap_new]
  exact h
theorem addcell {w : World} {ad : Addr} {n : Nat} {v : Value} (h : w.cell? (ad.add n) = some v) : w.cell? ⟨ad.block, ad.off + n, none⟩ = some v := by
  unfold Addr.add at h
  split at h <;> first | exact h | (unfold World.cell? at h ⊢; split at h <;> simp_all)
theorem lit_C (w : World) (l : List Int) (t : Nat) (hl : l.length ≤ 9223372036854775807) : (Kd.int .i64).C (w.alloc (.cells (l.map (Value.int .i64)).toArray t)) (some ⟨w.heap.size, 0, none⟩) l.length l := by
  refine ⟨rfl, hl, fun _ => ⟨_, rfl, fun j p hp => ⟨[Value.int .i64 p], rfl, rfl, fun i u hu => ?_⟩⟩⟩
  cases i with
  | succ i => simp at hu
  | zero =>
    simp at hu; subst hu
    have := lit_cell w (l.map (Value.int .i64)).toArray t j (.int .i64 p) (by simp [hp])
    simpa [Kd.int, Kd.scalar] using this
theorem lit_R (W : World) (l : List Int) (e base : Nat) (hb : base ≤ W.heap.size) (hm : l.length ≤ 100) : Kd.R (Kd.int .i64) e (W.alloc (.cells (l.map (Value.int .i64)).toArray e)) base (fun k => k = W.heap.size) (.slice (some ⟨W.heap.size, 0, none⟩) l.length l.length) l := by
  refine ⟨fun k hk => by simpa [Value.ownBlock] using hk.symm, l.map (Value.int .i64), ?_, ⟨by simp [Kd.int, Kd.scalar], fun j p hp => ?_⟩⟩
  · have h2 := World.ownsRow_lit (base := base) (e := e) (size := 1) W (l.map (Value.int .i64)).toArray l.length hb (by simp [maxLen]; omega) (by simp)
    exact h2
  · have : ((l.map (Value.int .i64)).drop (j * 1)).take 1 = [Value.int .i64 p] := by
      have hj : j < l.length := (List.getElem?_eq_some_iff.1 hp).1
      rw [Nat.mul_one, List.drop_eq_getElem_cons (by simpa using hj), List.take_succ_cons, List.take_zero]
      simp only [List.getElem_map]
      rw [(List.getElem?_eq_some_iff.1 hp).2]
    exact this
end Go.Proofs.Ytmekcfmhaflghaa.Auto
