/- How an argument that reads as data is opened: its pure value, and what is known of it. Conditions: each lemma's own. -/
import Derived.Test.YtmekcfmhaflghaaXWords
import Derived.SizedLaws
import Derived.DataElems
import Derived.ChangeSlices
import Derived.WideShapes
namespace Go.Proofs.Ytmekcfmhaflghaa.XO
open Go.RowKit Go.ChangeShapes Go.WideShapes Go.Proofs.YtmekcfmhaflghaaW.PrintWords Go.Proofs.YtmekcfmhaflghaaW.PrintLast Go.Proofs.YtmekcfmhaflghaaW.PrintMore
/-- Whatever cells read as data of type t are those of a pure value of kind d, of which G holds. -/
def Opens {α : Type} (P : Program) (d : Kd α) (t : TypeId) (G : α → Prop) : Prop :=
  ∀ (H : Type) (enc : TypeId × Value → H) (w : World) (spare : Nat → Bool) (held : Bool) (fuel : Nat) (cs : List Value) (y : DataW H × List MemPlace),
    DataW.trod enc P w 0 spare held fuel t cs = some y → (y.1.weights P t).all (· ≤ reachBytes) = true → ∃ x, d.K w x cs ∧ G x
theorem opens_int {P : Program} {t : TypeId} {k : IntKind} (ht : P.underlying t = some (.int k)) : Opens P (Kd.int k) t (fun n => (Lit.int k n).wf = true) := by
  intro H enc w spare held fuel cs y h _
  have key : ∃ n, cs = [.int k n] ∧ (Lit.int k n).wf = true := by
    cases fuel with
    | zero => simp [DataW.trod] at h
    | succ n =>
      unfold DataW.trod at h
      rw [ht] at h
      split at h <;> simp_all
  obtain ⟨n, rfl, hn⟩ := key
  exact ⟨n, rfl, hn⟩
theorem opens_bool {P : Program} {t : TypeId} (ht : P.underlying t = some .bool) : Opens P Kd.bool t (fun _ => True) := by
  intro H enc w spare held fuel cs y h _
  have key : ∃ b : Bool, cs = [.bool b] := by
    cases fuel with
    | zero => simp [DataW.trod] at h
    | succ n =>
      unfold DataW.trod at h
      rw [ht] at h
      split at h <;> first | exact ⟨_, rfl⟩ | (exfalso; simp_all)
  obtain ⟨b, rfl⟩ := key
  exact ⟨b, rfl, trivial⟩
theorem weightsAll_mem {H : Type} {P : Program} {e : TypeId} {l : List (DataW H)} (h : (DataW.weightsAll P e l).all (· ≤ reachBytes) = true) {d : DataW H} (hd : d ∈ l) : (d.weights P e).all (· ≤ reachBytes) = true := by
  induction l with
  | nil => cases hd
  | cons x r ih =>
    rw [DataW.weightsAll, List.all_append, Bool.and_eq_true] at h
    rcases List.mem_cons.1 hd with rfl | hd
    · exact h.1
    · exact ih h.2 hd
theorem opens_slice {α : Type} {P : Program} {d : Kd α} {t e : TypeId} {G : α → Prop} {B : Nat} (ht : P.underlying t = some (.slice e)) (hd : Opens P d e G) (hc : P.cellsOf e = d.sz) (hB : P.bytesOf e = B) :
    Opens P (Kd.slice e d) t (fun xs => xs.length * B ≤ 140737488351232 ∧ ∀ x ∈ xs, G x) := by
  intro H enc w spare held fuel cs y h hw
  rcases DataW.trod_slice ht h with ⟨rfl, rfl⟩ | ⟨a, len, cap, elems, rest, n, _, rfl, rfl, hb, hl, hm, hlen, hel, hsp, hns⟩
  · exact ⟨[], ⟨none, 0, rfl, Nat.le_refl _, Kd.C_nil d w⟩, by simp, fun x hx => by cases hx⟩
  · simp only [DataW.weights, ht, List.all_cons, List.all_append, Bool.and_eq_true, decide_eq_true_eq] at hw
    obtain ⟨hw1, hw2, _⟩ := hw
    have each : ∀ i, i < len → ∃ x c, d.K w x c ∧ G x ∧ c.length = d.sz ∧ ∀ j u, c[j]? = some u → w.cell? (a.add (i * d.sz + j)) = some u := by
      intro i hi
      have hb' := hel i hi
      have hlt : i < elems.length := by omega
      rw [List.getElem?_eq_getElem hlt] at hb'
      rw [Option.bind_eq_some_iff] at hb'
      obtain ⟨c, hcs, htr⟩ := hb'
      have hwi : ((elems[i]).1.weights P e).all (· ≤ reachBytes) = true := weightsAll_mem hw2 (List.mem_map_of_mem (List.getElem_mem hlt))
      obtain ⟨x, hK, hG⟩ := hd H enc w spare held n c _ htr hwi
      have hsome := World.cells?_some hcs
      refine ⟨x, c, hK, hG, by rw [hsome.2.1, hc], fun j u hu => ?_⟩
      have hj : j < c.length := by
        rcases Nat.lt_or_ge j c.length with h | h
        · exact h
        · rw [List.getElem?_eq_none h] at hu; cases hu
      have := hsome.2.2 j (by rw [← hsome.2.1]; exact hj)
      rw [← hu, ← this, hc, Go.Addr.add_add]
    have hall : ∃ xs : List α, xs.length = len ∧ ∀ i x, xs[i]? = some x → G x ∧ ∃ c, c.length = d.sz ∧ d.K w x c ∧ ∀ j u, c[j]? = some u → w.cell? (a.add (i * d.sz + j)) = some u := by
      have : ∀ m, m ≤ len → ∃ xs : List α, xs.length = m ∧ ∀ i x, xs[i]? = some x → G x ∧ ∃ c, c.length = d.sz ∧ d.K w x c ∧ ∀ j u, c[j]? = some u → w.cell? (a.add (i * d.sz + j)) = some u := by
        intro m
        induction m with
        | zero => intro _; exact ⟨[], rfl, fun i x h => by simp at h⟩
        | succ m ih =>
          intro hm
          obtain ⟨xs, h1, h2⟩ := ih (by omega)
          obtain ⟨x, c, g1, g2, g3, g4⟩ := each m (by omega)
          refine ⟨xs ++ [x], by simp [h1], fun i z hz => ?_⟩
          rcases Nat.lt_trichotomy i m with hi | hi | hi
          · rw [List.getElem?_append_left (by omega)] at hz; exact h2 i z hz
          · subst hi
            rw [List.getElem?_append_right (by omega), h1, Nat.sub_self] at hz
            cases hz
            exact ⟨g2, c, g3, g1, g4⟩
          · rw [List.getElem?_eq_none (by simp; omega)] at hz; cases hz
      exact this len (Nat.le_refl _)
    obtain ⟨xs, hx1, hx2⟩ := hall
    refine ⟨xs, ⟨some a, cap, by rw [hx1], by omega, rfl, by rw [hx1]; exact Nat.le_trans hl hm, fun _ => ⟨a, rfl, fun j p hp => ?_⟩⟩, ?_, fun x hx => ?_⟩
    · obtain ⟨_, c, h1, h2, h3⟩ := hx2 j p hp
      exact ⟨c, h1, h2, h3⟩
    · have e1 : reachBytes = 140737488351232 := rfl
      rw [e1] at hw1
      have : xs.length ≤ elems.length + rest.length := by omega
      have h2 := Nat.mul_le_mul_right B this
      simp only [List.length_map] at hw1
      rw [hB] at hw1
      exact Nat.le_trans h2 hw1
    · obtain ⟨i, hi, rfl⟩ := List.getElem_of_mem hx
      exact (hx2 i _ (List.getElem?_eq_getElem hi)).1
theorem weightsEach_head {H : Type} {P : Program} {t : TypeId} {ts : List TypeId} {d : DataW H} {ds : List (DataW H)} (h : (DataW.weightsEach P (t :: ts) (d :: ds)).all (· ≤ reachBytes) = true) :
    (d.weights P t).all (· ≤ reachBytes) = true ∧ (DataW.weightsEach P ts ds).all (· ≤ reachBytes) = true := by
  rw [DataW.weightsEach, List.all_append, Bool.and_eq_true] at h; exact h
/-- The fields of a struct, one behind the other. -/
def OpensSeq {α : Type} (P : Program) (d : Kd α) (ts : List TypeId) (G : α → Prop) : Prop :=
  ∀ (H : Type) (enc : TypeId × Value → H) (w : World) (spare : Nat → Bool) (held : Bool) (fuel : Nat) (cs : List Value) (xs : List (DataW H × List MemPlace)) (o : Nat) (all : List Value),
    xs.length = ts.length → all.drop o = cs → cs.length = (ts.map P.cellsOf).sum →
    (∀ (i : Nat) t, ts[i]? = some t → DataW.trod enc P w 0 spare held fuel t ((all.drop (o + ((ts.take i).map P.cellsOf).sum)).take (P.cellsOf t)) = xs[i]?) →
    (DataW.weightsEach P ts (xs.map (·.1))).all (· ≤ reachBytes) = true → ∃ x, d.K w x cs ∧ G x
theorem opensSeq_one {α : Type} {P : Program} {d : Kd α} {t : TypeId} {G : α → Prop} (h : Opens P d t G) : OpensSeq P d [t] G := by
  intro H enc w spare held fuel cs xs o all hl hd hs hx hw
  match xs, hl with
  | [y], _ =>
    have h0 := hx 0 t rfl
    simp only [List.take_zero, List.map_nil, List.sum_nil, Nat.add_zero] at h0
    rw [hd, List.take_of_length_le (by rw [hs]; simp)] at h0
    exact h H enc w spare held fuel cs y h0 (weightsEach_head hw).1
theorem opensSeq_cons {α β : Type} {P : Program} {d : Kd α} {d' : Kd β} {t : TypeId} {ts : List TypeId} {G : α → Prop} {G' : β → Prop} (h : Opens P d t G) (hr : OpensSeq P d' ts G') :
    OpensSeq P (Kd.pair d d') (t :: ts) (fun x => G x.1 ∧ G' x.2) := by
  intro H enc w spare held fuel cs xs o all hl hd hs hx hw
  match xs, hl with
  | y :: ys, hl =>
    have hw' := weightsEach_head hw
    have h0 := hx 0 t rfl
    simp only [List.take_zero, List.map_nil, List.sum_nil, Nat.add_zero] at h0
    rw [hd] at h0
    obtain ⟨x, k1, g1⟩ := h H enc w spare held fuel _ y h0 hw'.1
    have hs' : cs.length = P.cellsOf t + (ts.map P.cellsOf).sum := by rw [hs]; simp
    obtain ⟨x', k2, g2⟩ := hr H enc w spare held fuel (cs.drop (P.cellsOf t)) ys (o + P.cellsOf t) all (by simpa using hl) (by rw [← hd, List.drop_drop]) (by rw [List.length_drop, hs']; omega) (fun i t' ht' => by
      have := hx (i + 1) t' ht'
      simp only [List.take_succ_cons, List.map_cons, List.sum_cons] at this
      rw [← Nat.add_assoc] at this
      exact this) hw'.2
    refine ⟨(x, x'), ⟨cs.take (P.cellsOf t), cs.drop (P.cellsOf t), by rw [List.take_append_drop], k1, k2⟩, g1, g2⟩
theorem opens_struct {α β : Type} {P : Program} {d : Kd β} {t : TypeId} {fs : Array Field} {ts : List TypeId} {G : β → Prop} {f : α → β} {g : β → α} (ht : P.underlying t = some (.struct fs)) (hts : fs.toList.map (·.type) = ts)
    (hof : fs.toList.map (·.offset) = (List.range fs.toList.length).map (fun i => ((ts.take i).map P.cellsOf).sum)) (hsum : P.cellsOf t = (ts.map P.cellsOf).sum) (hfg : ∀ x, f (g x) = x)
    (h : OpensSeq P d ts G) : Opens P (Kd.iso d f) t (fun x => G (f x)) := by
  intro H enc w spare held fuel cs y htr hw
  obtain ⟨xs, n, _, rfl, hl, hlen, hf⟩ := DataW.trod_struct ht htr
  simp only [DataW.weights, ht, hts] at hw
  have hoff : ∀ i, (h : i < fs.toList.length) → (fs.toList[i]).offset = ((ts.take i).map P.cellsOf).sum := by
    intro i hi
    have h1 : (fs.toList.map (·.offset))[i]? = some (fs.toList[i]).offset := by rw [List.getElem?_map, List.getElem?_eq_getElem hi]; rfl
    rw [hof, List.getElem?_map, List.getElem?_range hi] at h1
    exact (Option.some.inj h1).symm
  have hlt : xs.length = ts.length := by rw [hlen, ← hts]; simp
  obtain ⟨x, k, gx⟩ := h H enc w spare held n cs xs 0 cs hlt rfl (by rw [hl, hsum]) (fun i t' ht' => by
    have hi : i < fs.toList.length := by
      rcases Nat.lt_or_ge i fs.toList.length with hh | hh
      · exact hh
      · rw [← hts, List.getElem?_eq_none (by simpa using hh)] at ht'; cases ht'
    have e := hf i (fs.toList[i]) (by simp at hi ⊢)
    rw [← hts, List.getElem?_map, List.getElem?_eq_getElem hi] at ht'
    cases ht'
    rw [hoff i hi] at e
    rw [Nat.zero_add]; exact e) hw
  exact ⟨g x, by show d.K w (f (g x)) cs; rw [hfg]; exact k, by show G (f (g x)); rw [hfg]; exact gx⟩
theorem weights_at {H : Type} {P : Program} : ∀ {ts : List TypeId} {ds : List (DataW H)} {j : Nat} {t : TypeId} {d : DataW H}, (DataW.weightsEach P ts ds).all (· ≤ reachBytes) = true → ts[j]? = some t → ds[j]? = some d → (d.weights P t).all (· ≤ reachBytes) = true
  | [], _, _, _, _, _, ht, _ => by simp at ht
  | _ :: _, [], _, _, _, _, _, hd => by simp at hd
  | t :: ts, d :: ds, 0, _, _, h, ht, hd => by
    simp at ht hd; subst ht; subst hd
    exact (weightsEach_head h).1
  | t :: ts, d :: ds, j + 1, _, _, h, ht, hd => weights_at (weightsEach_head h).2 (by simpa using ht) (by simpa using hd)
theorem agg_of {cs : Array Value} {l : List Value} (h : cs.toList = l) : cs = l.toArray := by subst h; simp
end Go.Proofs.Ytmekcfmhaflghaa.XO
