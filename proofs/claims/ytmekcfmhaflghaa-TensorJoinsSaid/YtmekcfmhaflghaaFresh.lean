/- A range over a function whose every round is handed new memory: two laws (outermost, and within a round). Conditions: those of each lemma. -/
import Derived.RangeFuncNested
import Derived.RangeFuncBound
set_option linter.unusedVariables false
set_option linter.unusedSimpArgs false
namespace Go.Proofs.Ytmekcfmhaflghaa.Fresh
open Go Go.RowKit
variable {F : Fence} {n m : Nat} {P : Program} {α : Type}
/-- What a round keeps: below B all but what M names; from B on whatever is no cells. -/
structure Kps (B : Nat) (M : Nat → Prop) (W W' : World) : Prop where
  size : W.heap.size ≤ W'.heap.size
  low : ∀ b, b < B → ¬ M b → W'.heap[b]? = W.heap[b]?
  rest : ∀ b o, B ≤ b → W.heap[b]? = some o → o.isCells = false → W'.heap[b]? = some o
theorem Kps.refl (B : Nat) (M : Nat → Prop) (W : World) : Kps B M W W := ⟨Nat.le_refl _, fun _ _ _ => rfl, fun _ _ _ h _ => h⟩
theorem Kps.trans {B : Nat} {M : Nat → Prop} {X Y Z : World} (h : Kps B M X Y) (k : Kps B M Y Z) : Kps B M X Z :=
  ⟨Nat.le_trans h.size k.size, fun b h1 h2 => (k.low b h1 h2).trans (h.low b h1 h2), fun b o h1 h2 h3 => k.rest b o h1 (h.rest b o h1 h2 h3) h3⟩
/-- New blocks alone. -/
theorem Kps.grown {B : Nat} {M : Nat → Prop} {X Y : World} (h : X.grownBy Y none) (hB : B ≤ X.heap.size) : Kps B M X Y :=
  ⟨h.size, fun b hb _ => h.block b (by omega) (by simp), fun b o _ ho _ => (h.block b (Array.getElem?_eq_some_iff.1 ho).1 (by simp)).trans ho⟩
theorem grown_below {X Y : World} (h : Below X.heap.size X Y) : X.grownBy Y none := ⟨h.os, h.tape, h.output, h.size, fun k hk _ => h.block k hk⟩
theorem below_grown {X Y : World} (h : X.grownBy Y none) : Below X.heap.size X Y := ⟨h.os, h.tape, h.output, h.size, fun k hk => h.block k hk (by simp)⟩
theorem Kps.below {B : Nat} {M : Nat → Prop} {X Y : World} (h : Below X.heap.size X Y) (hB : B ≤ X.heap.size) : Kps B M X Y := .grown (grown_below h) hB
theorem Kps.alloc {B : Nat} {M : Nat → Prop} (X : World) (o : Obj) (hB : B ≤ X.heap.size) : Kps B M X (X.alloc o) := .grown (World.grownBy_alloc X o none) hB
theorem Kps.set {B : Nat} {M : Nat → Prop} (X : World) (a : Addr) (v : Value) (h : B ≤ a.block ∨ M a.block) : Kps B M X (X.setCell a v) := by
  refine ⟨by show X.heap.size ≤ (X.heap.modify _ _).size; rw [Array.size_modify]; exact Nat.le_refl _, fun b hb hm => Below.heap_setCell X a v b (fun e => ?_), fun b o hb ho hc => ?_⟩
  · subst e; exact h.elim (fun h => by omega) hm
  · by_cases e : b = a.block
    · subst e
      obtain ⟨hlt, hk⟩ := Array.getElem?_eq_some_iff.1 ho
      show (X.heap.modify a.block _)[a.block]? = some o
      rw [Array.getElem?_eq_getElem (by rw [Array.size_modify]; exact hlt), Array.getElem_modify_self, hk]
      cases o <;> first | rfl | (simp [Obj.isCells] at hc)
    · exact (Below.heap_setCell X a v b e).trans ho
theorem Kps.drew {B : Nat} {M : Nat → Prop} (X : World) : Kps B M X X.drew := ⟨Nat.le_refl _, fun _ _ _ => rfl, fun _ _ _ h _ => h⟩
/-- How a round's body may be left. -/
def rpost (B : Nat) (M : Nat → Prop) (I : World → Prop) (Ix : Code → World → Prop) (W : World) : Exit → Act → World → Prop
  | .normal, _, W' => Kps B M W W' ∧ I W'
  | .ret, _, W' => Kps B M W W' ∧ Ix .ret W'
  | .exit id, _, W' => Kps B M W W' ∧ Ix (.exit id) W'
  | .goto t, _, W' => Kps B M W W' ∧ Ix (.goto t) W'
  | .panic _, _, _ => False
  | .outgrown, _, _ => False
/-- One yield: the round of the loop whose record is at l. E: what else must lie as it lay. -/
theorem round_at {B l D : Nat} {M : Nat → Prop} {fn : FuncId} {tmps : Array Value} {ps : Array Tmp} {assign body : Code} {rec : LoopState → Option Code → Loop}
    (hrec : rec = fun st pe => { state := st, pending := pe, fn, tmps, params := ps, assign, body, defers := D }) (hfn : F.fn fn) (hB : B ≤ l)
    {E I : World → Prop} {Ix : Code → World → Prop} {Ax : Act → World → Prop} (hE1 : ∀ X Y, E X → Kps B M X Y → E Y) (hE2 : ∀ X o, E X → E (X.putObj l o))
    (hI : ∀ X o o', I X → X.heap[l]? = some o → o.isCells = false → I (X.putObj l o')) (hIx : ∀ c X o o', Ix c X → X.heap[l]? = some o → o.isCells = false → Ix c (X.putObj l o'))
    (hAx : ∀ a' X o o', Ax a' X → X.heap[l]? = some o → o.isCells = false → Ax a' (X.putObj l o'))
    {args : Array Value} (hsz : args.size = ps.size) {Y : World} (hl : Y.heap[l]? = some (.loop (rec .ready none))) (hE : E Y)
    (hassign : ∀ K : Act → World → Prop, (∀ a' W', Kps B M Y W' → Ax a' W' → K a' W') →
      assign.wpIn (F.inRound l) m P (Exit.then K (fun _ _ _ => False)) { tmps := (ps.zip args).foldl (fun t (p, v) => t.setIfInBounds p v) tmps, defers := [] } Y)
    (hbody : ∀ a' W, (∃ r, W.heap[l]? = some (.loop r)) → Ax a' W → body.wpIn (F.inRound l) m P (rpost B M I Ix W) a' W) :
    YieldAt F m P l args Y fun e W' => (e = .returned (.bool true) ∧ (I W' ∧ W'.heap[l]? = some (.loop (rec .ready none)) ∧ E W') ∧ Y.heap.size ≤ W'.heap.size ∧ ∀ b, b < B → ¬ M b → W'.heap[b]? = Y.heap[b]?) ∨
      (e = .returned (.bool false) ∧ ∃ c, Ix c W' ∧ W'.heap[l]? = some (.loop (rec .done (some c))) ∧ E W') := by
  have put : ∀ (X : World) (o : Obj), X.heap.size ≤ (X.putObj l o).heap.size ∧ ∀ b, b < B → (X.putObj l o).heap[b]? = X.heap[b]? := fun X o => ⟨by simp, fun b hb => World.putObj_heap_other (by omega)⟩
  have hy := run_yield (P := P) (args := args) hl (by rw [hrec]; exact hsz)
  rw [hrec] at hy
  refine ⟨fn, _, assign, body, hy, roundIn_of_wpIn hfn (hassign _ fun a' X hkX hax => ?_)⟩
  have hlX := hkX.rest l _ hB hl rfl
  refine ⟨_, run_beginRound hlX (by simp only [hrec]), ?_⟩
  generalize hZ : X.putObj l (.loop { rec .ready none with state := .busy }) = Z
  have hlZ : Z.heap[l]? = some (.loop { rec .ready none with state := .busy }) := by rw [← hZ]; exact World.putObj_heap_same (Array.getElem?_eq_some_iff.1 hlX).1
  have hEZ : E Z := by rw [← hZ]; exact hE2 _ _ (hE1 _ _ hE hkX)
  have hsZ : Y.heap.size ≤ Z.heap.size ∧ ∀ b, b < B → ¬ M b → Z.heap[b]? = Y.heap[b]? := by
    rw [← hZ]; exact ⟨Nat.le_trans hkX.size (put X _).1, fun b hb hm => ((put X _).2 b hb).trans (hkX.low b hb hm)⟩
  refine wpIn_mono (hbody a' Z ⟨_, hlZ⟩ (by rw [← hZ]; exact hAx _ _ _ _ hax hlX rfl)) ?_
  -- what the end of a round does to the record
  have fin : ∀ (jump : Option Code) (V : World), Kps B M Z V →
      (Instr.endRound l jump).run P V = .ok (.bool jump.isNone) (V.putObj l (.loop (rec (if jump.isNone then .ready else .done) jump))) ∧ V.heap[l]? = some (.loop { rec .ready none with state := .busy }) ∧
      (V.putObj l (.loop (rec (if jump.isNone then .ready else .done) jump))).heap[l]? = some (.loop (rec (if jump.isNone then .ready else .done) jump)) ∧ E (V.putObj l (.loop (rec (if jump.isNone then .ready else .done) jump))) := by
    intro jump V hk
    have hlV := hk.rest l _ hB hlZ rfl
    have he := run_endRound (P := P) jump hlV
    refine ⟨?_, hlV, World.putObj_heap_same (Array.getElem?_eq_some_iff.1 hlV).1, hE2 _ _ (hE1 _ _ hEZ hk)⟩
    rw [he]; simp only [hrec]
  have stop : ∀ (c : Code) (V : World), Kps B M Z V → Ix c V → ∃ v w', (Instr.endRound l (some c)).run P V = .ok v w' ∧ ((Ending.returned v = .returned (.bool true) ∧ (I w' ∧ w'.heap[l]? = some (.loop (rec .ready none)) ∧ E w') ∧ Y.heap.size ≤ w'.heap.size ∧ ∀ b, b < B → ¬ M b → w'.heap[b]? = Y.heap[b]?) ∨
      (Ending.returned v = .returned (.bool false) ∧ ∃ c, Ix c w' ∧ w'.heap[l]? = some (.loop (rec .done (some c))) ∧ E w')) := by
    intro c V hk hi
    obtain ⟨h1, h2, h3, h4⟩ := fin (some c) V hk
    exact ⟨_, _, h1, .inr ⟨rfl, c, hIx c _ _ _ hi h2 rfl, h3, h4⟩⟩
  intro e a3 V hp
  cases e with
  | normal =>
    obtain ⟨hk, hi⟩ := hp
    obtain ⟨h1, h2, h3, h4⟩ := fin none V hk
    exact ⟨_, _, h1, .inl ⟨rfl, ⟨hI _ _ _ hi h2 rfl, h3, h4⟩, Nat.le_trans hsZ.1 (Nat.le_trans hk.size (put V _).1), fun b hb hm => ((put V _).2 b hb).trans ((hk.low b hb hm).trans (hsZ.2 b hb hm))⟩⟩
  | ret => exact stop _ V hp.1 hp.2
  | exit id => exact stop _ V hp.1 hp.2
  | goto t => exact stop _ V hp.1 hp.2
  | panic ch => exact hp.elim
  | outgrown => exact hp.elim
/-- An iterator that hands over new memory: ahead of round k it makes only new blocks (X to Y), 'Pre k x X Y' tells of them; below B it needs what M does not name. -/
def Seqs (F : Fence) (n : Nat) (P : Program) (g : Nat) (lb : Array Value) (encs : α → Array Value) (Pre : Nat → α → World → World → Prop) (B : Nat) (M : Nat → Prop) (S Sp : Nat → Prop) (w : World) : Prop :=
  ∀ (l : Nat) (J Jx : Nat → World → Prop) (W : World), w.grownBy W none → (∀ k X Y, J k X → X.grownBy Y none → J k Y) →
    (∀ k x X Y, J k X → Pre k x X Y → YieldAt F (n - 1) P l (encs x) Y fun e W' => (e = .returned (.bool true) ∧ J (k + 1) W' ∧ Y.heap.size ≤ W'.heap.size ∧ ∀ b, b < B → ¬ M b → W'.heap[b]? = Y.heap[b]?) ∨ (e = .returned (.bool false) ∧ Jx (k + 1) W')) →
    J 0 W →
    CallsIn F n P g (#[.func (.yield l) #[] #[]] ++ lb) W fun e W' => (∃ v, e = .returned v) ∧ ((∃ k, S k ∧ J k W') ∨ (∃ k, Sp k ∧ Jx k W'))
/-- The statement, outermost. -/
theorem range_out {g : Operand} {ps : Array Tmp} {assign body : Code} {Q : Exit → Act → World → Prop} {a : Act} {w : World}
    (hro : F.round = none) (h1 : 1 ≤ n) {gf : Nat} {lb : Array Value} (hg : a.eval g = .func (.func gf) #[] lb) (hFg : F.fn gf) (eg : ∀ args w, (callFunc gf args).run P w = .ok (.enter gf args) w)
    {encs : α → Array Value} {Pre : Nat → α → World → World → Prop} {M S Sp : Nat → Prop} (hseq : Seqs F (n - 1) P gf lb encs Pre w.heap.size M S Sp w) (hps : ∀ x, (encs x).size = ps.size) (hPg : ∀ k x X Y, Pre k x X Y → X.grownBy Y none)
    (I : Nat → World → Prop) (Ix : Code → Nat → World → Prop) (Ax : Nat → α → Act → World → Prop) (hI : OwnFrom w.heap.size I) (hIx : ∀ c, OwnFrom w.heap.size (Ix c)) (hAx : ∀ k x a', OwnFrom w.heap.size (fun (_ : Unit) W => Ax k x a' W)) (h0 : I 0 w)
    (hassign : ∀ (l k : Nat) (x : α) (X Y : World) (K : Act → World → Prop), I k X → Pre k x X Y → w.heap.size ≤ X.heap.size → (∀ a' W', Kps w.heap.size M Y W' → Ax k x a' W' → K a' W') →
      assign.wpIn (F.inRound l) (n - 1 - 1) P (Exit.then K (fun _ _ _ => False)) { tmps := (ps.zip (encs x)).foldl (fun t (p, v) => t.setIfInBounds p v) a.tmps, defers := [] } Y)
    (hbody : ∀ (l k : Nat) (x : α) (a' : Act) (W : World), w.heap.size ≤ l → (∃ r, W.heap[l]? = some (.loop r)) → Ax k x a' W → body.wpIn (F.inRound l) (n - 1 - 1) P (rpost w.heap.size M (I (k + 1)) (fun c => Ix c (k + 1)) W) a' W)
    (hdone : ∀ (D k : Nat) (W : World), w.heap.size ≤ D → S k → I k W → W.heap[D]? = some (.deferred (some [])) → Q .normal { a with defers := { target := .collected D, args := #[] } :: a.defers } W)
    (hstop : ∀ (D : Nat) (c : Code) (k : Nat) (W : World), w.heap.size ≤ D → Sp k → Ix c k W → W.heap[D]? = some (.deferred (some [])) → c.wpIn F n P Q { a with defers := { target := .collected D, args := #[] } :: a.defers } W) :
    (Code.rangeFunc g ps assign body).wpIn F n P Q a w := by
  refine wpIn_rangeFunc fun fn hfn => ?_
  rw [hro]
  obtain ⟨rec, hrec⟩ : ∃ rec : LoopState → Option Code → Loop, rec = fun st pe => { state := st, pending := pe, fn, tmps := a.tmps, params := ps, assign, body, defers := w.heap.size } := ⟨_, rfl⟩
  have hrun := run_enterLoop_outer (P := P) (w := w) fn a.tmps ps assign body
  rw [show ({ state := .ready, pending := none, fn, tmps := a.tmps, params := ps, assign, body, defers := w.heap.size } : Loop) = rec .ready none by rw [hrec]] at hrun
  have hsz : (w.alloc (.deferred (some []))).heap.size = w.heap.size + 1 := World.size_alloc _ _
  have hg1 := World.grownBy_alloc w (.deferred (some [])) none
  have hg2 := World.grownBy_alloc (w.alloc (.deferred (some []))) (.loop (rec .ready none)) none
  have hL := World.alloc_heap_new (w.alloc (.deferred (some []))) (.loop (rec .ready none))
  have hD := (hg2.block w.heap.size (by omega) (by simp)).trans (World.alloc_heap_new w (.deferred (some [])))
  rw [hsz] at hL
  generalize hW1 : (w.alloc (.deferred (some []))).alloc (.loop (rec .ready none)) = W1 at hrun hg2 hL hD
  have hg : w.grownBy W1 none ∧ I 0 W1 := ⟨⟨hg2.os.trans hg1.os, hg2.tape.trans hg1.tape, hg2.output.trans hg1.output, Nat.le_trans hg1.size hg2.size, fun k hk _ => (hg2.block k (by omega) (by simp)).trans (hg1.block k hk (by simp))⟩, hI _ _ _ none (hI _ _ _ none h0 hg1 (by simp)) hg2 (by simp)⟩
  refine ⟨w.heap.size + 1, _, W1, { target := .fn (.func gf) lb, args := #[.func (.yield (w.heap.size + 1)) #[] #[]] }, W1, gf, #[.func (.yield (w.heap.size + 1)) #[] #[]] ++ lb, W1, hrun, ?_, ?_, ?_, fun _ => h1, ?_⟩
  · simp only [resolve, ‹a.eval g = _›]; simp [go_sem]
  · intro f' hf'; simp [Target.leads] at hf'; subst hf'; exact hFg
  · simp [invoke, go_sem, eg]
  · refine (hseq (w.heap.size + 1) (fun k W => w.heap.size ≤ W.heap.size ∧ I k W ∧ W.heap[w.heap.size + 1]? = some (.loop (rec .ready none)) ∧ W.heap[w.heap.size]? = some (.deferred (some [])))
      (fun k W => ∃ c, Ix c k W ∧ W.heap[w.heap.size + 1]? = some (.loop (rec .done (some c))) ∧ W.heap[w.heap.size]? = some (.deferred (some [])))
      W1 hg.1 (fun k X Y h hXY => ⟨Nat.le_trans h.1 hXY.size, hI _ _ _ none h.2.1 hXY (by simp), (hXY.block _ (Array.getElem?_eq_some_iff.1 h.2.2.1).1 (by simp)).trans h.2.2.1, (hXY.block _ (Array.getElem?_eq_some_iff.1 h.2.2.2).1 (by simp)).trans h.2.2.2⟩) ?_ ⟨hg.1.size, hg.2, hL, hD⟩).mono ?_
    · rintro k x X Y ⟨hs, hi, hl, hd⟩ hp
      have hXY := hPg k x X Y hp
      have hr := round_at (F := F) (m := n - 1 - 1) (P := P) (B := w.heap.size) (l := w.heap.size + 1) (M := M) hrec hfn (by omega) (E := fun W => W.heap[w.heap.size]? = some (.deferred (some []))) (I := I (k + 1)) (Ix := fun c => Ix c (k + 1)) (Ax := Ax k x)
        (fun X Y h hk => hk.rest _ _ (Nat.le_refl _) h rfl) (fun X o h => (World.putObj_heap_other (by omega)).trans h)
        (fun X o o' h ho hc => OwnFrom.putObj hI o' h (by omega) ho hc) (fun c X o o' h ho hc => OwnFrom.putObj (hIx c) o' h (by omega) ho hc) (fun a' X o o' h ho hc => OwnFrom.putObj (s := ()) (hAx k x a') o' h (by omega) ho hc)
        (hps x) (Y := Y) ((hXY.block _ (Array.getElem?_eq_some_iff.1 hl).1 (by simp)).trans hl) ((hXY.block _ (Array.getElem?_eq_some_iff.1 hd).1 (by simp)).trans hd)
        (fun K hK => hassign _ k x X Y K hi hp hs hK) (fun a' W hw hax => hbody _ k x a' W (by omega) hw hax)
      refine YieldAt.mono hr ?_
      rintro e W' (⟨rfl, ⟨h2, h3, h4⟩, h5, h6⟩ | ⟨rfl, h2⟩)
      · exact .inl ⟨rfl, ⟨Nat.le_trans hs (Nat.le_trans hXY.size h5), h2, h3, h4⟩, h5, h6⟩
      · exact .inr ⟨rfl, h2⟩
    · rintro e W2 ⟨⟨v, rfl⟩, (⟨k, hS, _, hi, hl, hd⟩ | ⟨k, hSp, c, hi, hl, hd⟩)⟩
      · have he := run_endLoop (P := P) hl (by rw [hrec]; simp)
        exact ⟨none, _, by rw [he, hrec], hdone _ k _ (Nat.le_refl _) hS (OwnFrom.putObj hI _ hi (by omega) hl rfl) ((World.putObj_heap_other (by omega)).trans hd)⟩
      · have he := run_endLoop (P := P) hl (by rw [hrec]; simp)
        exact ⟨some c, _, by rw [he, hrec], hstop _ c k _ (Nat.le_refl _) hSp (OwnFrom.putObj (hIx c) _ hi (by omega) hl rfl) ((World.putObj_heap_other (by omega)).trans hd)⟩
/-- The statement within a round of the loop at l₀. -/
theorem range_in {g : Operand} {ps : Array Tmp} {assign body : Code} {Q : Exit → Act → World → Prop} {a : Act} {w : World}
    {l₀ : Nat} {r₀ : Loop} (hro : F.round = some l₀) (hl₀ : w.heap[l₀]? = some (.loop r₀)) (h1 : 1 ≤ n) {gf : Nat} {lb : Array Value} (hg : a.eval g = .func (.func gf) #[] lb) (hFg : F.fn gf) (eg : ∀ args w, (callFunc gf args).run P w = .ok (.enter gf args) w)
    {encs : α → Array Value} {Pre : Nat → α → World → World → Prop} {M S Sp : Nat → Prop} (hseq : Seqs F (n - 1) P gf lb encs Pre w.heap.size M S Sp w) (hps : ∀ x, (encs x).size = ps.size) (hPg : ∀ k x X Y, Pre k x X Y → X.grownBy Y none)
    (I : Nat → World → Prop) (Ix : Code → Nat → World → Prop) (Ax : Nat → α → Act → World → Prop) (hI : OwnFrom w.heap.size I) (hIx : ∀ c, OwnFrom w.heap.size (Ix c)) (hAx : ∀ k x a', OwnFrom w.heap.size (fun (_ : Unit) W => Ax k x a' W)) (h0 : I 0 w)
    (hassign : ∀ (l k : Nat) (x : α) (X Y : World) (K : Act → World → Prop), I k X → Pre k x X Y → w.heap.size ≤ X.heap.size → (∀ a' W', Kps w.heap.size M Y W' → Ax k x a' W' → K a' W') →
      assign.wpIn (F.inRound l) (n - 1 - 1) P (Exit.then K (fun _ _ _ => False)) { tmps := (ps.zip (encs x)).foldl (fun t (p, v) => t.setIfInBounds p v) a.tmps, defers := [] } Y)
    (hbody : ∀ (l k : Nat) (x : α) (a' : Act) (W : World), w.heap.size ≤ l → (∃ r, W.heap[l]? = some (.loop r)) → Ax k x a' W → body.wpIn (F.inRound l) (n - 1 - 1) P (rpost w.heap.size M (I (k + 1)) (fun c => Ix c (k + 1)) W) a' W)
    (hdone : ∀ (k : Nat) (W : World), S k → I k W → Q .normal a W)
    (hstop : ∀ (c : Code) (k : Nat) (W : World), Sp k → Ix c k W → c.wpIn F n P Q a W) :
    (Code.rangeFunc g ps assign body).wpIn F n P Q a w := by
  refine wpIn_rangeFunc fun fn hfn => ?_
  rw [hro]
  obtain ⟨rec, hrec⟩ : ∃ rec : LoopState → Option Code → Loop, rec = fun st pe => { state := st, pending := pe, fn, tmps := a.tmps, params := ps, assign, body, defers := r₀.defers } := ⟨_, rfl⟩
  have hrun := run_enterLoop_inner (P := P) hl₀ fn a.tmps ps assign body
  rw [show ({ state := .ready, pending := none, fn, tmps := a.tmps, params := ps, assign, body, defers := r₀.defers } : Loop) = rec .ready none by rw [hrec]] at hrun
  have hg2 := World.grownBy_alloc w (.loop (rec .ready none)) none
  have hL := World.alloc_heap_new w (.loop (rec .ready none))
  generalize hW1 : w.alloc (.loop (rec .ready none)) = W1 at hrun hg2 hL
  have hi1 := hI _ _ _ none h0 hg2 (by simp)
  refine ⟨w.heap.size, [], W1, { target := .fn (.func gf) lb, args := #[.func (.yield w.heap.size) #[] #[]] }, W1, gf, #[.func (.yield w.heap.size) #[] #[]] ++ lb, W1, hrun, ?_, ?_, ?_, fun _ => h1, ?_⟩
  · simp only [resolve, hg]; simp [go_sem]
  · intro f' hf'; simp [Target.leads] at hf'; subst hf'; exact hFg
  · simp [invoke, go_sem, eg]
  · refine (hseq w.heap.size (fun k W => w.heap.size ≤ W.heap.size ∧ I k W ∧ W.heap[w.heap.size]? = some (.loop (rec .ready none)))
      (fun k W => ∃ c, Ix c k W ∧ W.heap[w.heap.size]? = some (.loop (rec .done (some c))))
      W1 hg2 (fun k X Y h hXY => ⟨Nat.le_trans h.1 hXY.size, hI _ _ _ none h.2.1 hXY (by simp), (hXY.block _ (Array.getElem?_eq_some_iff.1 h.2.2).1 (by simp)).trans h.2.2⟩) ?_ ⟨hg2.size, hi1, hL⟩).mono ?_
    · rintro k x X Y ⟨hs, hi, hl⟩ hp
      have hXY := hPg k x X Y hp
      have hr := round_at (F := F) (m := n - 1 - 1) (P := P) (B := w.heap.size) (l := w.heap.size) (M := M) hrec hfn (Nat.le_refl _) (E := fun _ => True) (I := I (k + 1)) (Ix := fun c => Ix c (k + 1)) (Ax := Ax k x)
        (fun _ _ _ _ => trivial) (fun _ _ _ => trivial)
        (fun X o o' h ho hc => OwnFrom.putObj hI o' h (Nat.le_refl _) ho hc) (fun c X o o' h ho hc => OwnFrom.putObj (hIx c) o' h (Nat.le_refl _) ho hc) (fun a' X o o' h ho hc => OwnFrom.putObj (s := ()) (hAx k x a') o' h (Nat.le_refl _) ho hc)
        (hps x) (Y := Y) ((hXY.block _ (Array.getElem?_eq_some_iff.1 hl).1 (by simp)).trans hl) trivial
        (fun K hK => hassign _ k x X Y K hi hp hs hK) (fun a' W hw hax => hbody _ k x a' W (Nat.le_refl _) hw hax)
      refine YieldAt.mono hr ?_
      rintro e W' (⟨rfl, ⟨h2, h3, _⟩, h5, h6⟩ | ⟨rfl, c, h2, h3, _⟩)
      · exact .inl ⟨rfl, ⟨Nat.le_trans hs (Nat.le_trans hXY.size h5), h2, h3⟩, h5, h6⟩
      · exact .inr ⟨rfl, c, h2, h3⟩
    · rintro e W2 ⟨⟨v, rfl⟩, (⟨k, hS, _, hi, hl⟩ | ⟨k, hSp, c, hi, hl⟩)⟩
      · have he := run_endLoop (P := P) hl (by rw [hrec]; simp)
        exact ⟨none, _, by rw [he, hrec], hdone k _ hS (OwnFrom.putObj hI _ hi (Nat.le_refl _) hl rfl)⟩
      · have he := run_endLoop (P := P) hl (by rw [hrec]; simp)
        exact ⟨some c, _, by rw [he, hrec], hstop c k _ hSp (OwnFrom.putObj (hIx c) _ hi (Nat.le_refl _) hl rfl)⟩
end Go.Proofs.Ytmekcfmhaflghaa.Fresh
