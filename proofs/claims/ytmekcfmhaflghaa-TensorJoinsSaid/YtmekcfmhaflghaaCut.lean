/- What tensor.Cut answers: a part of a side, cell by cell. Conditions: at most 50 sides and 2000 cells; numbers of 64 bits. -/
import Derived.Test.YtmekcfmhaflghaaAll
import Derived.Test.YtmekcfmhaflghaaAidDigs
import Derived.Test.YtmekcfmhaflghaaAidCut
set_option linter.unusedVariables false
set_option linter.unusedSimpArgs false
namespace Go.Proofs.Ytmekcfmhaflghaa.CutW
open Go.RowKit Go.Shelf Go.Proofs Go.Proofs.Ytmekcfmhaflghaa.PJoi Go.Proofs.Ytmekcfmhaflghaa.Fresh Go.Proofs.Ytmekcfmhaflghaa.Auto Go.Proofs.Ytmekcfmhaflghaa.Aid Go.Proofs.Ytmekcfmhaflghaa.AllW Go.Proofs.Ytmekcfmhaflghaa.AidShape Go.Proofs.Ytmekcfmhaflghaa.AidTensor Go.Proofs.Ytmekcfmhaflghaa.AidDigs Go.Proofs.Ytmekcfmhaflghaa.AidCut Go.Proofs.Ytmekcfmhaflghaa.AidRound Go.Proofs.YtmekcfmhaflghaaW.PrintWords Go.Proofs.YtmekcfmhaflghaaW.PrintLast Go.Proofs.YtmekcfmhaflghaaW.PrintMore
attribute [local go_sem] Oper.semAt_some
def cutF (s c : List Int) (side a b : Int) : Option (List Int × List Int × Int) := if s.length ≤ 50 ∧ c.length ≤ 2000 ∧ (-9223372036854775808 ≤ side ∧ side ≤ 9223372036854775807) ∧ (-9223372036854775808 ≤ a ∧ a ≤ 9223372036854775807) ∧ (-9223372036854775808 ≤ b ∧ b ≤ 9223372036854775807) then some (cutT s c side a b) else none
/-- What the loop's rounds find: the tensor, the side, where the part begins, the result, and what has been cut. -/
structure IC (w : World) (A0 A1 As : Option Addr) (c0 c1 cs go B : Nat) (s c s' : List Int) (side a : Int) (f : Nat → Int) (k : Nat) (W : World) : Prop where
  bg : W.heap[w.heap.size]? = some (.cells #[.slice A0 s.length c0, .slice A1 c.length c1] 26 (0, 0))
  bs : Boxed W (w.heap.size + 1) 3 (.int .i64 side)
  bf : Boxed W (w.heap.size + 1 + 1) 3 (.int .i64 a)
  br : W.heap[w.heap.size + 1 + 1 + 1]? = some (.cells #[.slice none 0 0, .slice none 0 0] 26 (0, 0))
  below : Below w.heap.size w W
  gob : w.heap.size + 4 ≤ go ∧ go < B ∧ B ≤ W.heap.size
  rs : Kd.R (Kd.int .i64) 3 W w.heap.size (fun b => w.heap.size + 4 ≤ b ∧ b < go) (.slice As s'.length cs) s'
  bo : ∃ A cc, W.heap[go]? = some (.cells #[.slice As s'.length cs, .slice A k cc] 26 (0, 0)) ∧ Kd.R (Kd.int .i64) 27 W w.heap.size (fun b => B ≤ b) (.slice A k cc) ((List.range k).map f)
section
variable {w : World} {A0 A1 As : Option Addr} {c0 c1 cs go B : Nat} {s c s' : List Int} {side a : Int} {f : Nat → Int} {k : Nat} {W W' : World}
theorem IC.step (h : IC w A0 A1 As c0 c1 cs go B s c s' side a f k W) (hb : Below W.heap.size W W') : IC w A0 A1 As c0 c1 cs go B s c s' side a f k W' := by
  obtain ⟨A, cc, h1, h2⟩ := h.bo
  exact ⟨blk_below h.bg hb, (hb.block _ h.bs.lt).trans h.bs, (hb.block _ h.bf.lt).trans h.bf, blk_below h.br hb, below_step h.below hb, ⟨h.gob.1, h.gob.2.1, Nat.le_trans h.gob.2.2 hb.size⟩, Kd.R_below h.rs hb, A, cc, blk_below h1 hb, Kd.R_below h2 hb⟩
theorem R_own {e : Nat} {ok : Nat → Prop} {v : Value} {xs : List Int} {row : Option Nat} {base : Nat} (h : Kd.R (Kd.int .i64) e W base ok v xs) (hg : W.grownBy W' row) (hr : ∀ r, row = some r → ∃ o : Obj, W.heap[r]? = some o ∧ o.isCells = false) : Kd.R (Kd.int .i64) e W' base ok v xs := by
  refine Kd.R_mono (Kd.R_move (Kd.R_bound h) (fun k hk' => ?_)) (fun _ hk' => hk'.1)
  obtain ⟨_, _, _, q, _, cells, hc⟩ := hk'
  exact AtW.cells_kept hg hr hc
theorem IC.own (B' : Nat) (hB : w.heap.size ≤ B') : OwnFrom B' (IC w A0 A1 As c0 c1 cs go B s c s' side a f) := by
  intro k W W' row h hg hr
  have hk := fun r e => (hr r e).2
  obtain ⟨A, cc, h1, h2⟩ := h.bo
  exact ⟨(AtW.cells_kept hg hk h.bg).trans h.bg, (AtW.cells_kept hg hk h.bs).trans h.bs, (AtW.cells_kept hg hk h.bf).trans h.bf, (AtW.cells_kept hg hk h.br).trans h.br, ownFrom_below (β := Unit) (Nat.le_refl _) hB () W W' row h.below hg hr, ⟨h.gob.1, h.gob.2.1, Nat.le_trans h.gob.2.2 hg.size⟩, R_own h.rs hg hk, A, cc, (AtW.cells_kept hg hk h1).trans h1, R_own h2 hg hk⟩
/-- A place that was handed over is written. -/
theorem IC.far {ba p : Nat} {x : Value} {cells : Array Value} (h : IC w A0 A1 As c0 c1 cs go B s c s' side a f k W) (hb : B ≤ ba) (hc : W.heap[ba]? = some (.cells cells 3 (0, 0))) : IC w A0 A1 As c0 c1 cs go B s c s' side a f k (W.setCell ⟨ba, p, none⟩ x) := by
  obtain ⟨A, cc, h1, h2⟩ := h.bo
  have hg := h.gob
  have far : ∀ b o, b < ba → W.heap[b]? = some o → (W.setCell ⟨ba, p, none⟩ x).heap[b]? = some o := fun b o hb ho => (Below.heap_setCell W ⟨ba, p, none⟩ _ b (by show b ≠ ba; omega)).trans ho
  refine ⟨far _ _ (by omega) h.bg, far _ _ (by omega) h.bs, far _ _ (by omega) h.bf, far _ _ (by omega) h.br, h.below.setCell (by show w.heap.size ≤ ba; omega) _, ⟨hg.1, hg.2.1, by simp only [World.setCell, Array.size_modify]; exact hg.2.2⟩, Kd.R_far h.rs (fun b hb => by show b ≠ ba; omega) _, A, cc, far _ _ (by omega) h1, Kd.R_set h2 hc (fun q hq => ?_) _ _⟩
  simp only [Kd.int, Kd.scalar, List.mem_cons, List.not_mem_nil, or_false] at hq
  subst hq
  decide
/-- How a round leaves the memory: a store into the place that was handed over, the append, and the store into the box. -/
theorem IC.next {ba p : Nat} {x : Value} {cells : Array Value} {Ao A2 : Option Addr} {co c2 : Nat} {W1 W2 : World} (h : IC w A0 A1 As c0 c1 cs go B s c s' side a f k W) (hba : B ≤ ba) (hc : W.heap[ba]? = some (.cells cells 3 (0, 0)))
    (hW1 : Below (W.setCell ⟨ba, p, none⟩ x).heap.size (W.setCell ⟨ba, p, none⟩ x) W1) (hRo : Kd.R (Kd.int .i64) 27 W1 w.heap.size (fun b => B ≤ b) (.slice Ao k co) ((List.range k).map f))
    (hg : W1.grownBy W2 (Value.slice Ao k co).ownBlock) (hR : Kd.R (Kd.int .i64) 27 W2 w.heap.size (fun b => B ≤ b) (.slice A2 (k + 1) c2) ((List.range k).map f ++ [f k])) :
    IC w A0 A1 As c0 c1 cs go B s c s' side a f (k + 1) (W2.setCell ⟨go, 1, none⟩ (.slice A2 (k + 1) c2)) ∧ Kps B (fun b => b = go) W (W2.setCell ⟨go, 1, none⟩ (.slice A2 (k + 1) c2)) := by
  have hgo := h.gob
  have hIk := (h.far (p := p) (x := x) hba hc).step hW1
  have hrow : ∀ b, (Value.slice Ao k co).ownBlock = some b → B ≤ b ∧ ∃ cells, W1.heap[b]? = some (.cells cells 27 (0, 0)) := fun b e => by
    obtain ⟨inner, ho⟩ := Kd.R_own hRo
    exact ⟨hRo.1 b e, own_typed ho b e⟩
  have kept : ∀ b o, b < B → W1.heap[b]? = some o → W2.heap[b]? = some o := fun b o hb ho => (hg.block b (Array.getElem?_eq_some_iff.1 ho).1 (fun e => by have := (hrow b e.symm).1; omega)).trans ho
  obtain ⟨A, cc, h1, _⟩ := hIk.bo
  have h2 := kept _ _ (by omega) h1
  have far : ∀ b o, b < B → b ≠ go → W1.heap[b]? = some o → (W2.setCell ⟨go, 1, none⟩ (.slice A2 (k + 1) c2)).heap[b]? = some o := fun b o hb hne ho => (Below.heap_setCell W2 ⟨go, 1, none⟩ _ b hne).trans (kept b o hb ho)
  have hsz : W2.heap.size = (W2.setCell ⟨go, 1, none⟩ (.slice A2 (k + 1) c2)).heap.size := by simp [World.setCell]
  refine ⟨⟨far _ _ (by omega) (by omega) hIk.bg, far _ _ (by omega) (by omega) hIk.bs, far _ _ (by omega) (by omega) hIk.bf, far _ _ (by omega) (by omega) hIk.br, ?_, ⟨hgo.1, hgo.2.1, by rw [← hsz]; exact Nat.le_trans hIk.gob.2.2 hg.size⟩, ?_, A2, c2, ?_, ?_⟩, ?_⟩
  · exact (hIk.below.grown hg hIk.below.size (fun b e => by have := (hrow b e).1; omega)).setCell (by show w.heap.size ≤ go; omega) _
  · refine Kd.R_move hIk.rs (fun b hb => ?_)
    refine (Below.heap_setCell W2 ⟨go, 1, none⟩ _ b (by show b ≠ go; omega)).trans ?_
    exact hg.block b (by have := hIk.gob.2; omega) (fun e => by have := (hrow b e.symm).1; omega)
  · exact blk_put h2 1 _ rfl
  · rw [List.range_succ, List.map_append]
    exact Kd.R_far hR (fun b hb => by show b ≠ go; omega) _
  · have k1 : Kps B (fun b => b = go) W (W.setCell ⟨ba, p, none⟩ x) := Kps.set _ _ _ (.inl hba)
    have k2 : Kps B (fun b => b = go) (W.setCell ⟨ba, p, none⟩ x) W1 := Kps.below hW1 (Nat.le_trans hgo.2.2 k1.size)
    have k3 : Kps B (fun b => b = go) W1 W2 := by
      refine ⟨hg.size, fun b hb hm => ?_, fun b o hb ho hc => ?_⟩
      · exact hg.block b (by have := k1.size; have := k2.size; omega) (fun e => by have := (hrow b e.symm).1; omega)
      · refine (hg.block b (Array.getElem?_eq_some_iff.1 ho).1 (fun e => ?_)).trans ho
        obtain ⟨_, cells, h3⟩ := hrow b e.symm
        rw [ho] at h3; cases h3; cases hc
    exact ((k1.trans k2).trans k3).trans (Kps.set _ _ _ (.inr rfl))
end
/-- What holds ahead of the loop. -/
structure I0 (w : World) (A0 A1 : Option Addr) (c0 c1 : Nat) (s c : List Int) (side a : Int) (W : World) : Prop where
  bg : W.heap[w.heap.size]? = some (.cells #[.slice A0 s.length c0, .slice A1 c.length c1] 26 (0, 0))
  bs : Boxed W (w.heap.size + 1) 3 (.int .i64 side)
  bf : Boxed W (w.heap.size + 1 + 1) 3 (.int .i64 a)
  br : W.heap[w.heap.size + 1 + 1 + 1]? = some (.cells #[.slice none 0 0, .slice none 0 0] 26 (0, 0))
  below : Below w.heap.size w W
theorem I0.step {w : World} {A0 A1 : Option Addr} {c0 c1 : Nat} {s c : List Int} {side a : Int} {W W' : World} (h : I0 w A0 A1 c0 c1 s c side a W) (hb : Below W.heap.size W W') : I0 w A0 A1 c0 c1 s c side a W' :=
  ⟨blk_below h.bg hb, (hb.block _ h.bs.lt).trans h.bs, (hb.block _ h.bf.lt).trans h.bf, blk_below h.br hb, below_step h.below hb⟩
theorem I0.start (w : World) (A0 A1 : Option Addr) (c0 c1 : Nat) (s c : List Int) (side a : Int) : I0 w A0 A1 c0 c1 s c side a ((((w.alloc (.cells #[.slice A0 s.length c0, .slice A1 c.length c1] 26)).alloc (.cells #[.int .i64 side] 3)).alloc (.cells #[.int .i64 a] 3)).alloc (.cells #[.slice none 0 0, .slice none 0 0] 26)) := by
  have q1 := blk_new w (.cells #[.slice A0 s.length c0, .slice A1 c.length c1] 26)
  have q2 := Boxed.new (w.alloc (.cells #[.slice A0 s.length c0, .slice A1 c.length c1] 26)) 3 (.int .i64 side)
  have q3 := Boxed.new ((w.alloc (.cells #[.slice A0 s.length c0, .slice A1 c.length c1] 26)).alloc (.cells #[.int .i64 side] 3)) 3 (.int .i64 a)
  have q4 := blk_new (((w.alloc (.cells #[.slice A0 s.length c0, .slice A1 c.length c1] 26)).alloc (.cells #[.int .i64 side] 3)).alloc (.cells #[.int .i64 a] 3)) (.cells #[.slice none 0 0, .slice none 0 0] 26)
  simp only [World.size_alloc] at q2 q3 q4
  exact ⟨blk_alloc (blk_alloc (blk_alloc q1 _) _) _, (q2.alloc _).alloc _, q3.alloc _, q4, below_alloc (below_alloc (below_alloc (below_alloc (Below.refl _ _) _) _) _) _⟩
/-- How the function ends where it answers no tensor. -/
theorem end_none {w W : World} {A0 A1 : Option Addr} {c0 c1 : Nat} {s c : List Int} {side a : Int} (h : I0 w A0 A1 c0 c1 s c side a W) :
    ((W.setCell ⟨w.heap.size + 1 + 1 + 1, 0, none⟩ (.slice none 0 0)).setCell ⟨w.heap.size + 1 + 1 + 1, 1, none⟩ (.slice none 0 0)).heap[w.heap.size + 1 + 1 + 1]? = some (.cells #[.slice none 0 0, .slice none 0 0] 26 (0, 0)) ∧ Below w.heap.size w ((W.setCell ⟨w.heap.size + 1 + 1 + 1, 0, none⟩ (.slice none 0 0)).setCell ⟨w.heap.size + 1 + 1 + 1, 1, none⟩ (.slice none 0 0)) :=
  ⟨blk_put (blk_put h.br 0 _ rfl) 1 _ rfl, (h.below.setCell (by show w.heap.size ≤ w.heap.size + 1 + 1 + 1; omega) _).setCell (by show w.heap.size ≤ w.heap.size + 1 + 1 + 1; omega) _⟩
set_option maxRecDepth 100000 in
set_option maxHeartbeats 8000000 in
theorem cut_calls (A0 : Option Addr) (c0 : Nat) (l0 : List Int) (A1 : Option Addr) (c1 : Nat) (l1 : List Int) (side a b : Int) (r1 r2 : List Int) (r3 : Int) (w : World) (hr0 : Kd.C (Kd.int .i64) w A0 l0.length l0) (hc0 : l0.length ≤ c0) (hr1 : Kd.C (Kd.int .i64) w A1 l1.length l1) (hc1 : l1.length ≤ c1) (h : cutF l0 l1 side a b = some (r1, r2, r3)) :
    Calls Try.prog 28 #[.agg #[.slice A0 l0.length c0, .slice A1 l1.length c1], .int .i64 side, .int .i64 a, .int .i64 b] w fun e w' => ∃ v0_ v1_ : Value, e = .returned (.tuple #[.agg #[v0_, v1_], .int .i64 r3]) ∧ Kd.R (Kd.int .i64) 3 w' w.heap.size (fun _ => True) v0_ r1 ∧ Kd.R (Kd.int .i64) 27 w' w.heap.size (fun _ => True) v1_ r2 ∧ Below w.heap.size w w' := by
  have hmx : Try.prog.follows .mixedOrders = true := by kernel_rfl
  have huG := Try.underlying26
  unfold cutF at h
  split at h
  case isFalse => cases h
  case isTrue hk =>
  obtain ⟨hk1, hk2, hk3, hk4, hk5⟩ := hk
  obtain ⟨KR, hKR⟩ := rightT_ev l0 l1 (by omega)
  replace hKR := hKR KR (Nat.le_refl _)
  obtain ⟨KC, hKC⟩ := cut_ev l0 side a b (by omega)
  replace hKC := hKC KC (Nat.le_refl _)
  have h' := Option.some.inj h
  clear h
  have HR := Aside0.mk (And.intro hr0 (And.intro hc0 (And.intro hr1 hc1)))
  have HK := Aside0.mk (And.intro hk1 (And.intro hk2 (And.intro hk3 (And.intro hk4 hk5))))
  clear hr0 hc0 hr1 hc1 hk1 hk2 hk3 hk4 hk5
  refine (callsIn_wide (n := 4)).1 ?_
  refine callsIn_of_wp_marks Try.func28 rfl trivial ?_ rfl
  simp only [Try.ntmps28, List.size_toArray, List.length_cons, List.length_nil, Nat.reduceAdd, Nat.reduceSub, Array.replicate_succ, Array.replicate_zero, List.push_toArray, List.append_toArray, List.nil_append, List.cons_append]
  have H0 := Aside0.mk (I0.start w A0 A1 c0 c1 l0 l1 side a)
  by_cases e1 : rightT l0 l1 = true
  · rw [e1] at hKR
    obtain ⟨s', e0, hcs⟩ : ∃ s' e0, cutS l0 side a b = (s', e0) := ⟨_, _, rfl⟩
    rw [hcs] at hKC
    have HKR := Aside0.mk (And.intro hKR hKC)
    have ht : cutT l0 l1 side a b = if e0 = 0 then (s', (List.range (prod s').toNat).map (cutC l0 l1 s' side a), 0) else ([], [], e0) := by unfold cutT; rw [if_pos e1, hcs]
    rw [ht] at h'
    have HCS := Aside0.mk (And.intro e1 hcs)
    clear hKR hKC e1 hcs ht
    by_cases e2 : e0 = 0
    · subst e2
      rw [if_pos rfl] at h'
      injection h' with q1 q2
      injection q2 with q2 q3
      subst q1 q2 q3
      obtain ⟨hrS, n, hsn, hn, ha0, hbr, hab, hs'⟩ := cutS_true (l := l0) (i := side) (a := a) (b := b) (by rw [HCS.out.2])
      subst hsn
      rw [HCS.out.2] at hs'
      change s' = _ at hs'
      have hrS' : rightS s' = true := by rw [hs']; exact cut_right hrS hn (by omega) (by omega)
      obtain ⟨fuel, N, hN, hN1, hN2, hat, hend⟩ := at_all s' hrS'
      have hlen : s'.length = l0.length := by rw [hs', List.length_set]
      have hl4 : l0.length ≤ 4 := (rightS_true hrS).2.1
      obtain ⟨wl, hwl⟩ : ∃ wl : Nat → List Int, wl = fun k : Nat => (digs s' (k : Int)).1 := ⟨_, rfl⟩
      obtain ⟨f, hf⟩ : ∃ f : Nat → Int, f = cutC l0 l1 s' (n : Int) a := ⟨_, rfl⟩
      rw [← hf]
      have HN := Aside0.mk (And.intro (show s'.length ≤ 4 by omega) (And.intro hN (And.intro hN1 (And.intro hN2 (And.intro hat hend)))))
      have HW := Aside0.mk (And.intro hwl (And.intro hf (And.intro hlen (And.intro hn (And.intro hl4 (And.intro hrS (And.intro ha0 (And.intro hbr (And.intro hab hs')))))))))
      clear hrS hrS' hN hN1 hN2 hat hend hlen hl4 hwl hf hn ha0 hbr hab hs'
      gi_wp2_with (first
        | (refine ⟨trivial, ?_⟩; gi_at_call 13; refine (callsIn_wide.2 (tensor_Grid_fix_F_Right.calls KR A0 c0 l0 A1 c1 l1 true _ (Kd.C_below HR.out.1 H0.out.below) HR.out.2.1 (Kd.C_below HR.out.2.2.1 H0.out.below) HR.out.2.2.2 HKR.out.1)).mono ?_; rintro e w1 ⟨rfl, hb1⟩; have H1 := Aside0.mk (H0.out.step hb1); have g0 := blk_cell H1.out.bg 0; have g1 := blk_cell H1.out.bg 1; have s0 := H1.out.bs.cell; have s1 := H1.out.bf.cell; clear hb1)
        | (refine ⟨trivial, ?_⟩; gi_at_call 29; refine (callsIn_wide.2 (shape_Shape_Cut.calls KC A0 c0 l0 (n : Int) a b s' 0 _ (Kd.C_below HR.out.1 H1.out.below) HR.out.2.1 HKR.out.2)).mono ?_; rintro e w2 ⟨v2, rfl, hR2, hb2⟩; obtain ⟨As, cs, rfl⟩ := Kd.R_slice hR2; have H2 := Aside0.mk (H1.out.step hb2); have HR2 := Aside0.mk (And.intro hR2 (And.intro hb2.size H1.out.br)); clear hb2 hR2 g0 g1 s0 s1)
        | (refine ⟨trivial, ?_⟩; gi_at_call 51; refine (callsIn_wide.2 (all_any As cs s' _ (Kd.C_below (Kd.R_reads' HR2.out.1).2.2 (belA w2 _)) (Kd.R_reads' HR2.out.1).2.1 (by have := HN.out.1; omega))).mono ?_; rintro e w3 ⟨Bs, A3, c3, rfl, hB0, hB1, hc3, hR3, hb3⟩))
      have hsz : (w2.alloc (.cells #[.slice As s'.length cs, .slice none 0 0] 26)).heap.size = w2.heap.size + 1 := World.size_alloc _ _
      rw [hsz] at hB0
      have hb3s : w2.heap.size + 1 ≤ w3.heap.size := by have := hb3.size; omega
      have hI0 : IC w A0 A1 As c0 c1 cs w2.heap.size w3.heap.size l0 l1 s' (n : Int) a f 0 w3 := by
        have h1 := HR2.out.2.2
        have h2 := (H2.out.step (belA w2 (.cells #[.slice As s'.length cs, .slice none 0 0] 26))).step hb3
        have h3 := (Array.getElem?_eq_some_iff.1 h1).1
        refine ⟨h2.bg, h2.bs, h2.bf, h2.br, h2.below, ⟨by have := HR2.out.2.1; omega, by omega, Nat.le_refl _⟩, ?_, none, 0, blk_below (blk_new w2 _) hb3, Kd.R_nil _ _ _ _ _⟩
        refine Kd.R_lower (Kd.R_mono (Kd.R_below (Kd.R_alloc (Kd.R_bound HR2.out.1) _) hb3) (fun b hb => ?_)) H1.out.below.size
        have := hb.2.1; have := hb.2.2.1; exact ⟨by omega, by omega⟩
      have hcs := Kd.R_reads' hR3
      have hbase := Kd.R_base hR3
      have HI := Aside0.mk hI0
      clear hI0 hb3
      refine range_out (n := 4) (α := Nat × Value) rfl (by omega) (gf := 66) (lb := #[.pointer (some ⟨Bs, 0, none⟩)]) rfl trivial (enters_of Try.func66 (by kernel_rfl) rfl)
        (all_seq 3 (by omega) fuel N wl 11 (by decide) HN.out.2.2.2.1 w3.heap.size Bs A3 c3 s' (fun b => b = w2.heap.size) w3 hB1 hcs.2.2 hc3 hB1.lt (by omega) (fun ad e hp => ⟨C_lt hcs.2.2 ad e hp, ?own⟩) (fun k hk => by rw [HW.out.1]; exact HN.out.2.2.2.2.1 k hk) HN.out.2.2.2.2.2)
        (fun _ => rfl) (fun k x X Y h => h.grown)
        (IC w A0 A1 As c0 c1 cs w2.heap.size w3.heap.size l0 l1 s' (n : Int) a f) (fun _ _ _ => False)
        (fun k x a' W => IC w A0 A1 As c0 c1 cs w2.heap.size w3.heap.size l0 l1 s' (n : Int) a f k W ∧ k < N ∧ ∃ Av cv, x.2 = .slice Av (wl k).length cv ∧ (wl k).length ≤ cv ∧ Kd.R (Kd.int .i64) 3 W w3.heap.size (fun _ => True) (.slice Av (wl k).length cv) (wl k) ∧ a' = { tmps := #[.agg #[.slice A0 l0.length c0, .slice A1 l1.length c1], .int .i64 (n : Int), .int .i64 a, .int .i64 b, .pointer (some ⟨w.heap.size, 0, none⟩), .pointer (some ⟨w.heap.size + 1, 0, none⟩), .pointer (some ⟨w.heap.size + 1 + 1, 0, none⟩), undef, .pointer (some ⟨w.heap.size + 1 + 1 + 1, 0, none⟩), .int .i64 0, .slice As s'.length cs, .int .i64 0, .pointer (some ⟨w2.heap.size, 0, none⟩), undef, .slice Av (wl k).length cv, undef, undef, .agg #[.slice A0 l0.length c0, .slice A1 l1.length c1], .bool true, .bool false, undef, .tuple #[.slice As s'.length cs, .int .i64 0], .pointer (some ⟨w.heap.size, 0, none⟩), .slice A0 l0.length c0, .int .i64 (n : Int), .int .i64 a, .int .i64 b, .tuple #[.slice As s'.length cs, .int .i64 0], .slice As s'.length cs, .int .i64 0, .int .i64 0, .bool false, undef, undef, .slice As s'.length cs, .agg #[.slice As s'.length cs, .slice none 0 0], .slice As s'.length cs, .func (.func 66) #[] #[.pointer (some ⟨Bs, 0, none⟩)], .int .i64 (k : Int), .slice Av (wl k).length cv, undef, undef, undef, undef, undef, undef, undef, undef, undef, undef, undef, undef, undef, undef, undef, undef, undef, undef, undef, undef, undef, undef, undef, undef, undef], defers := [] })
        ?oI ?oX ?oA HI.out ?assign ?body ?done ?stop
      case own =>
        rintro hm
        have h1 := hbase ad.block (by rw [e]; rfl)
        rw [hsz] at h1
        omega
      case oI => exact IC.own _ (by have := HI.out.below.size; omega)
      case oX => exact fun _ _ _ _ _ h _ _ => h
      case oA =>
        rintro k x a' _ W W' row ⟨h1, h3, Av, cv, h5, h6, h7, h8⟩ hg hr
        exact ⟨IC.own _ (by have := HI.out.below.size; omega) k W W' row h1 hg hr, h3, Av, cv, h5, h6, R_own h7 hg (fun r e => (hr r e).2), h8⟩
      case assign =>
        rintro l k ⟨i, v⟩ X Y K hI ⟨hi, hkN, hb, hR⟩ hX hK
        obtain rfl : i = k := hi
        change Kd.R _ _ Y _ _ v _ at hR
        obtain ⟨Av, cv, rfl⟩ := Kd.R_slice hR
        have hK' := Aside0.mk (hK _ _ (Kps.refl _ _ _) ⟨hI.step hb, hkN, Av, cv, rfl, (Kd.R_reads' hR).2.1, Kd.R_lower hR hX, rfl⟩)
        clear hK hI hR
        simp only [AllW.encs]
        gi_wp2
        exact hK'.out
      case body =>
        rintro l k x a' W hl _ ⟨hI, hkN, Av, cv, hx2, hcv, hRv, rfl⟩
        have hwll : (wl k).length = l0.length := by rw [HW.out.1]; show (digs s' (k : Int)).1.length = _; rw [digs_length]; exact HW.out.2.2.1
        obtain ⟨g, cap, hv, hgb, hgl, gcells, hgc⟩ := Kd.R_form hRv (by have := HW.out.2.2.2.1; omega)
        cases hv
        obtain ⟨q, hq⟩ : ∃ q, rd (wl k) (n : Int) = q := ⟨_, rfl⟩
        have hnw : n < (wl k).length := by have := HW.out.2.2.2.1; omega
        obtain ⟨hcell, hfroz⟩ := Kd.R_cell (0 : Int) hRv (n : Int) (by omega) (by omega)
        rw [show rdOf (0 : Int) (wl k) (n : Int) = q from hq, Int.toNat_natCast] at hcell
        rw [Int.toNat_natCast] at hfroz
        have hpl := cut_place (s := l0) (s' := s') (n := n) (a := a) (b := b) (k := (k : Int)) HW.out.2.2.2.2.2.1 HW.out.2.2.2.1 HW.out.2.2.2.2.2.2.1 HW.out.2.2.2.2.2.2.2.1 HW.out.2.2.2.2.2.2.2.2.1 HW.out.2.2.2.2.2.2.2.2.2
        rw [show (digs s' (k : Int)).1 = wl k by rw [HW.out.1], hq] at hpl
        have hca : (wl k).set n (q + a) = cutA s' (n : Int) a (k : Int) := by unfold cutA; rw [show (digs s' (k : Int)).1 = wl k by rw [HW.out.1], hq, Int.toNat_natCast]
        have hbd := (rightS_true HW.out.2.2.2.2.2.1).2.2.1 _ (rd_mem (l := l0) (i := (n : Int)) (by omega) (by have := HW.out.2.2.2.1; omega))
        have hqa : 0 ≤ q ∧ 0 ≤ a ∧ q + a ≤ 1024 := by have := HW.out.2.2.2.2.2.2.1; have := HW.out.2.2.2.2.2.2.2.1; omega
        have hw : IntKind.i64.wrap (q + a) = q + a := by rw [i64_w]; unfold wrap64; omega
        have c1 := hI.bs.cell
        have c2 := hI.bf.cell
        have hi0 := eq_true (show (0 : Int) ≤ (n : Int) by omega)
        have hi1 := eq_true (show (n : Int) < ((wl k).length : Int) by omega)
        have hi2 := eq_true (show n < (wl k).length by omega)
        have hn4 : (n : Int) ≤ 4 := by have := HW.out.2.2.2.1; have := HW.out.2.2.2.2.1; omega
        have HP := Aside0.mk (And.intro hpl (And.intro hca (And.intro hwll (And.intro hgb hgc))))
        have HB := Aside0.mk (And.intro hI (And.intro hkN (And.intro hcv hRv)))
        clear hpl hca hwll hgb hgc hI hkN hcv hRv hq hbd hx2
        gi_wp2
        refine start_roundN (n := 8) (S := fun V => Below W.heap.size W V ∧ V.cell? ⟨w.heap.size + 1, 0, none⟩ = some (.int .i64 (n : Int)) ∧ V.cell? ⟨w.heap.size + 1 + 1, 0, none⟩ = some (.int .i64 a) ∧ V.cell? ⟨g, n, none⟩ = some (.int .i64 q)) (ds := [7])
          (lst 8 [(0, some 40), (1, some 41), (2, some 42), (3, some 43), (4, some 44), (5, some 45), (6, some 46), (7, none)]) hmx rfl (by kernel_rfl) (by kernel_rfl) ⟨below_drew1 (Below.refl _ _), c1, c2, hcell⟩ (fun hS => ?_)
        clear c1 c2 hcell hfroz
        iterate 7 (first
         | (refine pureO rfl rfl (by kernel_rfl) (by exact fun _ _ _ h => h) (Or.inr ⟨by rfl, rfl⟩) (by simp only [Act.put, List.setIfInBounds_toArray, List.set_cons_zero, List.set_cons_succ]; rfl) ?_)
         | (refine pureO rfl rfl (by kernel_rfl) (by exact fun _ _ _ h => h) (Or.inl ⟨by rfl, by intro w_; go_simp; with_reducible rfl⟩) (by simp only [Act.put, List.setIfInBounds_toArray, List.set_cons_zero, List.set_cons_succ]; rfl) ?_)
         | (refine takeO rfl rfl (by kernel_rfl) (by exact fun _ _ _ h => h) hS (Or.inl ⟨by rfl, by rintro w_ ⟨_, s0_, s1_, s2_⟩; go_simp; with_reducible rfl⟩) (by simp only [Act.put, List.setIfInBounds_toArray, List.set_cons_zero, List.set_cons_succ]; rfl) ?_))
        have hbk := blk_below HP.out.2.2.2.2 hS.1
        have hfz := blk_frozen hbk n
        have hcl := hS.2.2.2
        refine lastO rfl rfl (by kernel_rfl) (by decide) (fun K hK => ?_)
        refine skip_ (w1 := ?_) (by rfl) rfl ?_ ?_
        rotate_left
        · go_simp
          rfl
        refine hK.out _ _ ?_
        clear hK K
        refine done_N (by kernel_rfl) ?_
        have hIf := HB.out.1.far (p := n) (x := .int .i64 (q + a)) HP.out.2.2.2.1 HP.out.2.2.2.2
        have hR1 := (Kd.R_put HB.out.2.2.2 (n : Int) (q + a)).1
        rw [Int.toNat_natCast, HP.out.2.1, show (wl k).length = (cutA s' (n : Int) a (k : Int)).length by rw [HP.out.1.1, HP.out.2.2.1]] at hR1
        have g0 := blk_cell hIf.bg 0
        have g1 := blk_cell hIf.bg 1
        have I1 := Aside0.mk (hIf.step (below_drew1 (Below.refl _ _)))
        have HX := Aside0.mk (Kd.R_drew hR1)
        obtain ⟨KP, hKP⟩ := place_ev l0 (cutA s' (n : Int) a (k : Int)) (by have := HW.out.2.2.2.2.1; omega)
        replace hKP := hKP KP (Nat.le_refl _)
        have hpS := placeS_ok HP.out.1.2.1
        obtain ⟨pk, hpk⟩ := Int.eq_ofNat_of_zero_le hpS.2.1
        rw [hpk] at hpS
        have hpe : placeS l0 (cutA s' (n : Int) a (k : Int)) = ((pk : Int), 0) := Prod.ext hpk HP.out.1.2.1
        have hpl1 : pk < l1.length := by have h1 := (rightT_true HCS.out.1).2; have h2 := hpS.2.2; omega
        rw [hpe] at hKP
        have hll : (wl k).length = (cutA s' (n : Int) a (k : Int)).length := by rw [HP.out.1.1, HP.out.2.2.1]
        rw [hll]
        have HPK := Aside0.mk (And.intro hKP (And.intro hpk (And.intro hpl1 (show (cutA s' (n : Int) a (k : Int)).length ≤ cv by rw [← hll]; exact HB.out.2.2.1))))
        clear hKP hpk hpS hpe hpl1 hR1 hIf hbk hfz hcl hS hw hqa hi0 hi1 hi2 hn4 hnw hll
        gi_wp2_with (refine ⟨trivial, ?_⟩; gi_at_call 21; refine (CallsIn.inRound l (callsIn_wide.2 (shape_Shape_Place.calls KP A0 c0 l0 (some ⟨g, 0, none⟩) cv (cutA s' (n : Int) a (k : Int)) (pk : Int) 0 _ (Kd.C_below HR.out.1 I1.out.below) HR.out.2.1 (Kd.R_reads' HX.out).2.2 HPK.out.2.2.2 HPK.out.1))).mono ?_; rintro e W2 ⟨rfl, hd⟩; have I2 := Aside0.mk (I1.out.step (belD hd)); have HD := Aside0.mk (belD hd); clear hd g0 g1)
        obtain ⟨Ao, co, hgo, hRo⟩ := I2.out.bo
        have b1 : W2.cell? ⟨w2.heap.size, 1, none⟩ = some (.slice Ao k co) := blk_cell hgo 1
        have b2 : W2.cell? ⟨w.heap.size, 1, none⟩ = some (.slice A1 l1.length c1) := blk_cell I2.out.bg 1
        obtain ⟨ad, eA, hsc⟩ := Kd.at_int (Kd.C_below HR.out.2.2.1 I2.out.below) (pk : Int) (by omega) (by have := HPK.out.2.2.1; omega)
        have hfk : f k = rd l1 (pk : Int) := by rw [HW.out.2.1]; unfold cutC; rw [HPK.out.2.1]
        rw [Int.toNat_natCast, ← hfk] at hsc
        obtain ⟨y, hy⟩ : ∃ y, f k = y := ⟨_, rfl⟩
        rw [hy] at hsc
        cases eA
        have hi0 := eq_true (show (0 : Int) ≤ (pk : Int) by omega)
        have hi1 := eq_true (show (pk : Int) < (l1.length : Int) by have := HPK.out.2.2.1; omega)
        have hi2 := eq_true (show pk < l1.length from HPK.out.2.2.1)
        have hp4 : (pk : Int) ≤ 2000 := by have := HPK.out.2.2.1; have := HK.out.2.1; omega
        have HGO := Aside0.mk (And.intro hgo (And.intro hRo hy))
        clear hgo hRo hy hfk
        refine start_roundN (n := 11) (S := fun V => V.cell? ⟨w2.heap.size, 1, none⟩ = some (.slice Ao k co) ∧ V.cell? ⟨w.heap.size, 1, none⟩ = some (.slice (some ad) l1.length c1) ∧ V.cell? (ad.add pk) = some (.int .i64 y)) (ds := [10])
          (lst 11 [(0, some 54), (1, some 55), (2, some 56), (3, some 57), (4, some 58), (5, some 59), (6, some 60), (7, some 61), (8, some 62), (9, some 63), (10, none)]) hmx rfl (by kernel_rfl) (by kernel_rfl) ⟨b1, b2, hsc⟩ (fun hS => ?_)
        clear b1 b2 hsc
        iterate 7 (first
         | (refine pureO rfl rfl (by kernel_rfl) (by exact fun _ _ _ h => h) (Or.inr ⟨by rfl, rfl⟩) (by simp only [Act.put, List.setIfInBounds_toArray, List.set_cons_zero, List.set_cons_succ]; rfl) ?_)
         | (refine pureO rfl rfl (by kernel_rfl) (by exact fun _ _ _ h => h) (Or.inl ⟨by rfl, by intro w_; go_simp; with_reducible rfl⟩) (by simp only [Act.put, List.setIfInBounds_toArray, List.set_cons_zero, List.set_cons_succ]; rfl) ?_)
         | (refine takeO rfl rfl (by kernel_rfl) (by exact fun _ _ _ h => h) hS (Or.inl ⟨by rfl, by rintro w_ ⟨s0_, s1_, s2_⟩; go_simp; with_reducible rfl⟩) (by simp only [Act.put, List.setIfInBounds_toArray, List.set_cons_zero, List.set_cons_succ]; rfl) ?_))
        refine oneO rfl rfl (by kernel_rfl) (by decide) (fun K hK => ?_)
        refine value_ (w1 := ?_) (v := ?_) (by rfl) rfl ?_ ?_
        rotate_left 2
        · go_simp
          constructor <;> rfl
        refine hK.out _ _ ⟨cellB (belA _ _) hS.1, cellB (belA _ _) hS.2.1, cellB (belA _ _) hS.2.2⟩ (fun hS1 => ?_)
        clear hK K
        refine oneO rfl rfl (by kernel_rfl) (by decide) (fun K hK => ?_)
        refine Kd.R_append_step (Kd.int .i64) (w0 := w) w.heap.size (by rfl) (.tmp 55) (.tmp 61) 24 27 (.int .i64 0) 8 rfl Try.underlying24 info27 rfl (by decide) (by omega) (.slice Ao k co) ((List.range k).map f) y [.int .i64 y] (fun b => w3.heap.size ≤ b) (fun _ => False) (by rfl) (by rfl) rfl (fun _ hk => hk.elim) ?aF (Kd.R_drew HGO.out.2.1) (below_drew1 I2.out.below) ?aB ?aL ?_
        case aF => have := I2.out.gob.2.2; intro k hk; exact Nat.le_trans this hk
        case aB => exact (below_drew1 I2.out.below).size
        case aL => rw [List.length_map, List.length_range]; have := HB.out.2.1; have := HN.out.2.2.2.1; omega
        intro v5 W5 hR5 hB5 hg5 _
        obtain ⟨A5, c5, hv5⟩ := Kd.R_slice hR5
        rw [show ((List.range k).map f ++ [y]).length = k + 1 by simp] at hv5
        subst hv5
        have hown : ∀ b, (Value.slice Ao k co).ownBlock = some b → w3.heap.size ≤ b := HGO.out.2.1.1
        have hkeep : ∀ b o, b < w3.heap.size → W2.heap[b]? = some o → W5.heap[b]? = some o := fun b o hb ho => (hg5.block b (Array.getElem?_eq_some_iff.1 ho).1 (fun e => by have := hown b e.symm; omega)).trans ho
        have hgo5 := hkeep _ _ hb3s HGO.out.1
        have hbg5 := hkeep _ _ (by have := I2.out.gob; omega) I2.out.bg
        obtain ⟨ad', eA', hsc5⟩ := Kd.at_int (Kd.C_below HR.out.2.2.1 hB5) (pk : Int) (by omega) (by have := HPK.out.2.2.1; omega)
        cases eA'
        rw [Int.toNat_natCast, show rd l1 (pk : Int) = y by rw [← HGO.out.2.2, HW.out.2.1]; unfold cutC; rw [HPK.out.2.1]] at hsc5
        have hnx := IC.next (p := n) (x := .int .i64 (q + a)) HB.out.1 HP.out.2.2.2.1 HP.out.2.2.2.2 (below_drew1 (below_step (below_drew1 (Below.refl _ _)) HD.out)) (Kd.R_drew HGO.out.2.1) hg5 (by rw [HGO.out.2.2]; exact hR5)
        have HNX := Aside0.mk hnx
        have b1 : W5.cell? ⟨w2.heap.size, 1, none⟩ = some (.slice Ao k co) := blk_cell hgo5 1
        have b2 : W5.cell? ⟨w.heap.size, 1, none⟩ = some (.slice (some ad) l1.length c1) := blk_cell hbg5 1
        have b3 := blk_frozen hgo5 1
        refine hK.out _ _ ⟨b1, b2, hsc5⟩ (fun hS2 => ?_)
        clear hK K hS hS1 b2 hsc5 hnx hgo5 hbg5 hkeep hown hR5 hB5 hg5 hi0 hi1 hi2
        iterate 1 (first
         | (refine pureO rfl rfl (by kernel_rfl) (by exact fun _ _ _ h => h) (Or.inr ⟨by rfl, rfl⟩) (by simp only [Act.put, List.setIfInBounds_toArray, List.set_cons_zero, List.set_cons_succ]; rfl) ?_)
         | (refine pureO rfl rfl (by kernel_rfl) (by exact fun _ _ _ h => h) (Or.inl ⟨by rfl, by intro w_; go_simp; with_reducible rfl⟩) (by simp only [Act.put, List.setIfInBounds_toArray, List.set_cons_zero, List.set_cons_succ]; rfl) ?_)
         | (refine takeO rfl rfl (by kernel_rfl) (by exact fun _ _ _ h => h) hS2 (Or.inl ⟨by rfl, by rintro w_ ⟨s0_, s1_, s2_⟩; go_simp; with_reducible rfl⟩) (by simp only [Act.put, List.setIfInBounds_toArray, List.set_cons_zero, List.set_cons_succ]; rfl) ?_))
        clear hS2
        refine lastO rfl rfl (by kernel_rfl) (by decide) (fun K hK => ?_)
        refine skip_ (w1 := ?_) (by rfl) rfl ?_ ?_
        rotate_left
        · go_simp
          rfl
        refine hK.out _ _ ?_
        clear hK K
        refine done_N (by kernel_rfl) ?_
        exact ⟨HNX.out.2, HNX.out.1⟩
      case done =>
        rintro D k W hD rfl hI hW
        obtain ⟨A, cc, hgo, hRo⟩ := hI.bo
        have q0 := blk_cell hI.br 0
        have q1 := blk_cell hI.br 1
        have f0 := blk_frozen hI.br 0
        have f1 := blk_frozen hI.br 1
        have d0 := blk_cell hgo 0
        have d1 := blk_cell hgo 1
        have HT := Aside0.mk (And.intro hI (And.intro hD (And.intro hW (And.intro hgo hRo))))
        clear hI hgo hRo hD hW hR3 hcs hbase hB0 hB1 hc3
        gi_wp2
        obtain ⟨hI, hD, hW, hgo, hRo⟩ := HT.out
        have hgob := hI.gob
        have hX : ((W.setCell ⟨w.heap.size + 1 + 1 + 1, 0, none⟩ (.slice As s'.length cs)).setCell ⟨w.heap.size + 1 + 1 + 1, 1, none⟩ (.slice A k cc)).heap[w.heap.size + 1 + 1 + 1]? = some (.cells #[.slice As s'.length cs, .slice A k cc] 26 (0, 0)) := blk_put (blk_put hI.br 0 _ rfl) 1 _ rfl
        have hXr := Kd.R_far (Kd.R_far hI.rs (p := ⟨w.heap.size + 1 + 1 + 1, 0, none⟩) (fun b hb => by show b ≠ w.heap.size + 1 + 1 + 1; omega) (.slice As s'.length cs)) (p := ⟨w.heap.size + 1 + 1 + 1, 1, none⟩) (fun b hb => by show b ≠ w.heap.size + 1 + 1 + 1; omega) (.slice A k cc)
        have hXo := Kd.R_far (Kd.R_far hRo (p := ⟨w.heap.size + 1 + 1 + 1, 0, none⟩) (fun b hb => by show b ≠ w.heap.size + 1 + 1 + 1; omega) (.slice As s'.length cs)) (p := ⟨w.heap.size + 1 + 1 + 1, 1, none⟩) (fun b hb => by show b ≠ w.heap.size + 1 + 1 + 1; omega) (.slice A k cc)
        have hXb := (hI.below.setCell (p := ⟨w.heap.size + 1 + 1 + 1, 0, none⟩) (by show w.heap.size ≤ w.heap.size + 1 + 1 + 1; omega) (.slice As s'.length cs)).setCell (p := ⟨w.heap.size + 1 + 1 + 1, 1, none⟩) (by show w.heap.size ≤ w.heap.size + 1 + 1 + 1; omega) (.slice A k cc)
        have hXD := (Below.heap_setCell _ ⟨w.heap.size + 1 + 1 + 1, 1, none⟩ (.slice A k cc) D (by show D ≠ w.heap.size + 1 + 1 + 1; omega)).trans ((Below.heap_setCell W ⟨w.heap.size + 1 + 1 + 1, 0, none⟩ (.slice As s'.length cs) D (by show D ≠ w.heap.size + 1 + 1 + 1; omega)).trans hW)
        generalize ((W.setCell ⟨w.heap.size + 1 + 1 + 1, 0, none⟩ (.slice As s'.length cs)).setCell ⟨w.heap.size + 1 + 1 + 1, 1, none⟩ (.slice A k cc)) = X at hX hXr hXo hXb hXD ⊢
        have hno : ∀ r, (some D : Option Nat) = some r → ∃ o : Obj, X.heap[r]? = some o ∧ o.isCells = false := fun r e => by cases e; exact ⟨_, hXD, rfl⟩
        refine ⟨by simp, .inl ⟨_, _, rfl, run_takeDeferred hXD, ?_⟩⟩
        refine ⟨_, results_ct rfl _ _ (w.heap.size + 1 + 1 + 1) 26 #[.slice As s'.length cs, .slice A k cc] (0, 0) _ rfl ((World.putObj_heap_other (by omega)).trans hX) huG rfl (by kernel_rfl), _, _, rfl, ?_, ?_, ?_⟩
        · exact Kd.R_mono (R_own hXr (grownBy_putObj' _ D _) hno) (fun _ _ => trivial)
        · rw [show (prod s').toNat = k by have := HN.out.2.1; omega]
          exact Kd.R_mono (R_own hXo (grownBy_putObj' _ D _) hno) (fun _ _ => trivial)
        · exact hXb.grown (grownBy_putObj' _ D _) hXb.size (fun b e => by cases e; omega)
      case stop =>
        rintro D c k W _ _ h _
        exact h.elim
    · rw [if_neg e2] at h'
      injection h' with q1 q2
      injection q2 with q2 q3
      subst q1 q2 q3
      have e2b : (e0 != 0) = true := bne_iff_ne.2 e2
      clear e2
      gi_wp2_with (first
        | (refine ⟨trivial, ?_⟩; gi_at_call 13; refine (callsIn_wide.2 (tensor_Grid_fix_F_Right.calls KR A0 c0 l0 A1 c1 l1 true _ (Kd.C_below HR.out.1 H0.out.below) HR.out.2.1 (Kd.C_below HR.out.2.2.1 H0.out.below) HR.out.2.2.2 HKR.out.1)).mono ?_; rintro e w1 ⟨rfl, hb1⟩; have H1 := Aside0.mk (H0.out.step hb1); have g0 := blk_cell H1.out.bg 0; have g1 := blk_cell H1.out.bg 1; have s0 := H1.out.bs.cell; have s1 := H1.out.bf.cell; clear hb1)
        | (refine ⟨trivial, ?_⟩; gi_at_call 29; refine (callsIn_wide.2 (shape_Shape_Cut.calls KC A0 c0 l0 side a b s' e0 _ (Kd.C_below HR.out.1 H1.out.below) HR.out.2.1 HKR.out.2)).mono ?_; rintro e w2 ⟨v2, rfl, hR2, hb2⟩; have H2 := Aside0.mk (H1.out.step hb2); have q0 := blk_cell H2.out.br 0; have q1 := blk_cell H2.out.br 1; have f0 := blk_frozen H2.out.br 0; have f1 := blk_frozen H2.out.br 1; clear hb2 hR2 g0 g1 s0 s1))
      have hE := end_none H2.out
      exact ⟨_, results_ct rfl _ _ (w.heap.size + 1 + 1 + 1) 26 #[.slice none 0 0, .slice none 0 0] (0, 0) _ rfl hE.1 huG rfl (by kernel_rfl), _, _, rfl, Kd.R_nil _ _ _ _ _, Kd.R_nil _ _ _ _ _, hE.2⟩
  · rw [show rightT l0 l1 = false by simpa using e1] at hKR
    have e3 : cutT l0 l1 side a b = ([], [], 20) := by unfold cutT; rw [if_neg e1]
    rw [e3] at h'
    cases h'
    have HKR := Aside0.mk hKR
    clear hKR hKC e1 e3
    gi_wp2_with (refine ⟨trivial, ?_⟩; gi_at_call 13; refine (callsIn_wide.2 (tensor_Grid_fix_F_Right.calls KR A0 c0 l0 A1 c1 l1 false _ (Kd.C_below HR.out.1 H0.out.below) HR.out.2.1 (Kd.C_below HR.out.2.2.1 H0.out.below) HR.out.2.2.2 HKR.out)).mono ?_; rintro e w1 ⟨rfl, hb1⟩; have H1 := Aside0.mk (H0.out.step hb1); have q0 := blk_cell H1.out.br 0; have q1 := blk_cell H1.out.br 1; have f0 := blk_frozen H1.out.br 0; have f1 := blk_frozen H1.out.br 1; have g0 := blk_cell H1.out.bg 0; have g1 := blk_cell H1.out.bg 1; have s0 := H1.out.bs.cell; have s1 := H1.out.bf.cell; clear hb1)
    have hE := end_none H1.out
    exact ⟨_, results_ct rfl _ _ (w.heap.size + 1 + 1 + 1) 26 #[.slice none 0 0, .slice none 0 0] (0, 0) _ rfl hE.1 huG rfl (by kernel_rfl), _, _, rfl, Kd.R_nil _ _ _ _ _, Kd.R_nil _ _ _ _ _, hE.2⟩
end Go.Proofs.Ytmekcfmhaflghaa.CutW
