/- What tensor.Join answers: two tensors put together at a side, cell by cell. Conditions: at most 50 sides and 600 cells each; numbers of 64 bits. -/
import Derived.Test.YtmekcfmhaflghaaCut
import Derived.Test.YtmekcfmhaflghaaAidJoin
set_option linter.unusedVariables false
set_option linter.unusedSimpArgs false
namespace Go.Proofs.Ytmekcfmhaflghaa.JoinW
open Go.RowKit Go.Shelf Go.Proofs Go.Proofs.Ytmekcfmhaflghaa.PJoi Go.Proofs.Ytmekcfmhaflghaa.Fresh Go.Proofs.Ytmekcfmhaflghaa.Auto Go.Proofs.Ytmekcfmhaflghaa.Aid Go.Proofs.Ytmekcfmhaflghaa.AllW Go.Proofs.Ytmekcfmhaflghaa.CutW Go.Proofs.Ytmekcfmhaflghaa.AidShape Go.Proofs.Ytmekcfmhaflghaa.AidTensor Go.Proofs.Ytmekcfmhaflghaa.AidDigs Go.Proofs.Ytmekcfmhaflghaa.AidCut Go.Proofs.Ytmekcfmhaflghaa.AidJoin Go.Proofs.Ytmekcfmhaflghaa.AidRound Go.Proofs.YtmekcfmhaflghaaW.PrintWords Go.Proofs.YtmekcfmhaflghaaW.PrintLast Go.Proofs.YtmekcfmhaflghaaW.PrintMore
attribute [local go_sem] Oper.semAt_some
/-- What has come up, by the bits of a number. -/
def bA (n m : Nat) : Array Bool := ((List.range n).map fun j => m.testBit j).toArray
def joinF (s c t d : List Int) (side : Int) : Option (List Int × List Int × Int) := if (s.length ≤ 50 ∧ c.length ≤ 600) ∧ (t.length ≤ 50 ∧ d.length ≤ 600) then some (joinT s c t d side) else none
/-- What the loop's rounds find: the tensors, the side, the result, and what has been joined. -/
structure IJ (w : World) (A0 A1 B0 B1 As : Option Addr) (c0 c1 d0 d1 cs go B : Nat) (s c t d s' : List Int) (side : Int) (f : Nat → Int) (k : Nat) (W : World) : Prop where
  ba : W.heap[w.heap.size]? = some (.cells #[.slice A0 s.length c0, .slice A1 c.length c1] 26 (0, 0))
  bb : W.heap[w.heap.size + 1]? = some (.cells #[.slice B0 t.length d0, .slice B1 d.length d1] 26 (0, 0))
  bs : Boxed W (w.heap.size + 1 + 1) 3 (.int .i64 side)
  br : W.heap[w.heap.size + 1 + 1 + 1]? = some (.cells #[.slice none 0 0, .slice none 0 0] 26 (0, 0))
  below : Below w.heap.size w W
  gob : w.heap.size + 4 ≤ go ∧ go < B ∧ B ≤ W.heap.size
  rs : Kd.R (Kd.int .i64) 3 W w.heap.size (fun b => w.heap.size + 4 ≤ b ∧ b < go) (.slice As s'.length cs) s'
  bo : ∃ A cc, W.heap[go]? = some (.cells #[.slice As s'.length cs, .slice A k cc] 26 (0, 0)) ∧ Kd.R (Kd.int .i64) 27 W w.heap.size (fun b => B ≤ b) (.slice A k cc) ((List.range k).map f)
section
variable {w : World} {A0 A1 B0 B1 As : Option Addr} {c0 c1 d0 d1 cs go B : Nat} {s c t d s' : List Int} {side : Int} {f : Nat → Int} {k : Nat} {W W' : World}
theorem IJ.step (h : IJ w A0 A1 B0 B1 As c0 c1 d0 d1 cs go B s c t d s' side f k W) (hb : Below W.heap.size W W') : IJ w A0 A1 B0 B1 As c0 c1 d0 d1 cs go B s c t d s' side f k W' := by
  obtain ⟨A, cc, h1, h2⟩ := h.bo
  exact ⟨blk_below h.ba hb, blk_below h.bb hb, (hb.block _ h.bs.lt).trans h.bs, blk_below h.br hb, below_step h.below hb, ⟨h.gob.1, h.gob.2.1, Nat.le_trans h.gob.2.2 hb.size⟩, Kd.R_below h.rs hb, A, cc, blk_below h1 hb, Kd.R_below h2 hb⟩
theorem IJ.drew (h : IJ w A0 A1 B0 B1 As c0 c1 d0 d1 cs go B s c t d s' side f k W) : IJ w A0 A1 B0 B1 As c0 c1 d0 d1 cs go B s c t d s' side f k W.drew := h.step (below_drew1 (Below.refl _ _))
theorem IJ.own (B' : Nat) (hB : w.heap.size ≤ B') : OwnFrom B' (IJ w A0 A1 B0 B1 As c0 c1 d0 d1 cs go B s c t d s' side f) := by
  intro k W W' row h hg hr
  have hk := fun r e => (hr r e).2
  obtain ⟨A, cc, h1, h2⟩ := h.bo
  exact ⟨(AtW.cells_kept hg hk h.ba).trans h.ba, (AtW.cells_kept hg hk h.bb).trans h.bb, (AtW.cells_kept hg hk h.bs).trans h.bs, (AtW.cells_kept hg hk h.br).trans h.br, ownFrom_below (β := Unit) (Nat.le_refl _) hB () W W' row h.below hg hr, ⟨h.gob.1, h.gob.2.1, Nat.le_trans h.gob.2.2 hg.size⟩, R_own h.rs hg hk, A, cc, (AtW.cells_kept hg hk h1).trans h1, R_own h2 hg hk⟩
/-- A block of the round's own is written. -/
theorem IJ.far {ba p : Nat} {x : Value} {tt : Nat} {cells : Array Value} (h : IJ w A0 A1 B0 B1 As c0 c1 d0 d1 cs go B s c t d s' side f k W) (hb : B ≤ ba) (hc : W.heap[ba]? = some (.cells cells tt (0, 0))) (ht : (27 : Nat) ≠ tt) : IJ w A0 A1 B0 B1 As c0 c1 d0 d1 cs go B s c t d s' side f k (W.setCell ⟨ba, p, none⟩ x) := by
  obtain ⟨A, cc, h1, h2⟩ := h.bo
  have hg := h.gob
  have far : ∀ b o, b < ba → W.heap[b]? = some o → (W.setCell ⟨ba, p, none⟩ x).heap[b]? = some o := fun b o hb ho => (Below.heap_setCell W ⟨ba, p, none⟩ _ b (by show b ≠ ba; omega)).trans ho
  refine ⟨far _ _ (by omega) h.ba, far _ _ (by omega) h.bb, far _ _ (by omega) h.bs, far _ _ (by omega) h.br, h.below.setCell (by show w.heap.size ≤ ba; omega) _, ⟨hg.1, hg.2.1, by simp only [World.setCell, Array.size_modify]; exact hg.2.2⟩, Kd.R_far h.rs (fun b hb => by show b ≠ ba; omega) _, A, cc, far _ _ (by omega) h1, Kd.R_set h2 hc (fun q hq => ?_) _ _⟩
  simp only [Kd.int, Kd.scalar, List.mem_cons, List.not_mem_nil, or_false] at hq
  subst hq
  exact ht
/-- How a round leaves the memory: the append, and the store into the box. -/
theorem IJ.next {Ao A2 : Option Addr} {co c2 : Nat} {W1 W2 : World} (hIk : IJ w A0 A1 B0 B1 As c0 c1 d0 d1 cs go B s c t d s' side f k W1) (hk : Kps B (fun b => b = go) W W1) (hRo : Kd.R (Kd.int .i64) 27 W1 w.heap.size (fun b => B ≤ b) (.slice Ao k co) ((List.range k).map f))
    (hg : W1.grownBy W2 (Value.slice Ao k co).ownBlock) (hR : Kd.R (Kd.int .i64) 27 W2 w.heap.size (fun b => B ≤ b) (.slice A2 (k + 1) c2) ((List.range k).map f ++ [f k])) :
    IJ w A0 A1 B0 B1 As c0 c1 d0 d1 cs go B s c t d s' side f (k + 1) (W2.setCell ⟨go, 1, none⟩ (.slice A2 (k + 1) c2)) ∧ Kps B (fun b => b = go) W (W2.setCell ⟨go, 1, none⟩ (.slice A2 (k + 1) c2)) := by
  have hgo := hIk.gob
  have hrow : ∀ b, (Value.slice Ao k co).ownBlock = some b → B ≤ b ∧ ∃ cells, W1.heap[b]? = some (.cells cells 27 (0, 0)) := fun b e => by
    obtain ⟨inner, ho⟩ := Kd.R_own hRo
    exact ⟨hRo.1 b e, own_typed ho b e⟩
  have kept : ∀ b o, b < B → W1.heap[b]? = some o → W2.heap[b]? = some o := fun b o hb ho => (hg.block b (Array.getElem?_eq_some_iff.1 ho).1 (fun e => by have := (hrow b e.symm).1; omega)).trans ho
  obtain ⟨A, cc, h1, _⟩ := hIk.bo
  have h2 := kept _ _ (by omega) h1
  have far : ∀ b o, b < B → b ≠ go → W1.heap[b]? = some o → (W2.setCell ⟨go, 1, none⟩ (.slice A2 (k + 1) c2)).heap[b]? = some o := fun b o hb hne ho => (Below.heap_setCell W2 ⟨go, 1, none⟩ _ b hne).trans (kept b o hb ho)
  have hsz : W2.heap.size = (W2.setCell ⟨go, 1, none⟩ (.slice A2 (k + 1) c2)).heap.size := by simp [World.setCell]
  refine ⟨⟨far _ _ (by omega) (by omega) hIk.ba, far _ _ (by omega) (by omega) hIk.bb, far _ _ (by omega) (by omega) hIk.bs, far _ _ (by omega) (by omega) hIk.br, ?_, ⟨hgo.1, hgo.2.1, by rw [← hsz]; exact Nat.le_trans hIk.gob.2.2 hg.size⟩, ?_, A2, c2, ?_, ?_⟩, ?_⟩
  · exact (hIk.below.grown hg hIk.below.size (fun b e => by have := (hrow b e).1; omega)).setCell (by show w.heap.size ≤ go; omega) _
  · refine Kd.R_move hIk.rs (fun b hb => ?_)
    refine (Below.heap_setCell W2 ⟨go, 1, none⟩ _ b (by show b ≠ go; omega)).trans ?_
    exact hg.block b (by have := hIk.gob.2; omega) (fun e => by have := (hrow b e.symm).1; omega)
  · exact blk_put h2 1 _ rfl
  · rw [List.range_succ, List.map_append]
    exact Kd.R_far hR (fun b hb => by show b ≠ go; omega) _
  · have k3 : Kps B (fun b => b = go) W1 W2 := by
      refine ⟨hg.size, fun b hb hm => ?_, fun b o hb ho hc => ?_⟩
      · exact hg.block b (by omega) (fun e => by have := (hrow b e.symm).1; omega)
      · refine (hg.block b (Array.getElem?_eq_some_iff.1 ho).1 (fun e => ?_)).trans ho
        obtain ⟨_, cells, h3⟩ := hrow b e.symm
        rw [ho] at h3; cases h3; cases hc
    exact (hk.trans k3).trans (Kps.set _ _ _ (.inr rfl))
end
/-- What holds ahead of the loop. -/
structure J0 (w : World) (A0 A1 B0 B1 : Option Addr) (c0 c1 d0 d1 : Nat) (s c t d : List Int) (side : Int) (W : World) : Prop where
  ba : W.heap[w.heap.size]? = some (.cells #[.slice A0 s.length c0, .slice A1 c.length c1] 26 (0, 0))
  bb : W.heap[w.heap.size + 1]? = some (.cells #[.slice B0 t.length d0, .slice B1 d.length d1] 26 (0, 0))
  bs : Boxed W (w.heap.size + 1 + 1) 3 (.int .i64 side)
  br : W.heap[w.heap.size + 1 + 1 + 1]? = some (.cells #[.slice none 0 0, .slice none 0 0] 26 (0, 0))
  below : Below w.heap.size w W
theorem J0.step {w : World} {A0 A1 B0 B1 : Option Addr} {c0 c1 d0 d1 : Nat} {s c t d : List Int} {side : Int} {W W' : World} (h : J0 w A0 A1 B0 B1 c0 c1 d0 d1 s c t d side W) (hb : Below W.heap.size W W') : J0 w A0 A1 B0 B1 c0 c1 d0 d1 s c t d side W' :=
  ⟨blk_below h.ba hb, blk_below h.bb hb, (hb.block _ h.bs.lt).trans h.bs, blk_below h.br hb, below_step h.below hb⟩
theorem J0.start (w : World) (A0 A1 B0 B1 : Option Addr) (c0 c1 d0 d1 : Nat) (s c t d : List Int) (side : Int) : J0 w A0 A1 B0 B1 c0 c1 d0 d1 s c t d side ((((w.alloc (.cells #[.slice A0 s.length c0, .slice A1 c.length c1] 26)).alloc (.cells #[.slice B0 t.length d0, .slice B1 d.length d1] 26)).alloc (.cells #[.int .i64 side] 3)).alloc (.cells #[.slice none 0 0, .slice none 0 0] 26)) := by
  have q1 := blk_new w (.cells #[.slice A0 s.length c0, .slice A1 c.length c1] 26)
  have q2 := blk_new (w.alloc (.cells #[.slice A0 s.length c0, .slice A1 c.length c1] 26)) (.cells #[.slice B0 t.length d0, .slice B1 d.length d1] 26)
  have q3 := Boxed.new ((w.alloc (.cells #[.slice A0 s.length c0, .slice A1 c.length c1] 26)).alloc (.cells #[.slice B0 t.length d0, .slice B1 d.length d1] 26)) 3 (.int .i64 side)
  have q4 := blk_new (((w.alloc (.cells #[.slice A0 s.length c0, .slice A1 c.length c1] 26)).alloc (.cells #[.slice B0 t.length d0, .slice B1 d.length d1] 26)).alloc (.cells #[.int .i64 side] 3)) (.cells #[.slice none 0 0, .slice none 0 0] 26)
  simp only [World.size_alloc] at q2 q3 q4
  exact ⟨blk_alloc (blk_alloc (blk_alloc q1 _) _) _, blk_alloc (blk_alloc q2 _) _, q3.alloc _, q4, below_alloc (below_alloc (below_alloc (below_alloc (Below.refl _ _) _) _) _) _⟩
/-- How the function ends where it answers no tensor. -/
theorem end_no {w W : World} {A0 A1 B0 B1 : Option Addr} {c0 c1 d0 d1 : Nat} {s c t d : List Int} {side : Int} (h : J0 w A0 A1 B0 B1 c0 c1 d0 d1 s c t d side W) :
    ((W.setCell ⟨w.heap.size + 1 + 1 + 1, 0, none⟩ (.slice none 0 0)).setCell ⟨w.heap.size + 1 + 1 + 1, 1, none⟩ (.slice none 0 0)).heap[w.heap.size + 1 + 1 + 1]? = some (.cells #[.slice none 0 0, .slice none 0 0] 26 (0, 0)) ∧ Below w.heap.size w ((W.setCell ⟨w.heap.size + 1 + 1 + 1, 0, none⟩ (.slice none 0 0)).setCell ⟨w.heap.size + 1 + 1 + 1, 1, none⟩ (.slice none 0 0)) :=
  ⟨blk_put (blk_put h.br 0 _ rfl) 1 _ rfl, (h.below.setCell (by show w.heap.size ≤ w.heap.size + 1 + 1 + 1; omega) _).setCell (by show w.heap.size ≤ w.heap.size + 1 + 1 + 1; omega) _⟩
set_option maxRecDepth 100000 in
set_option maxHeartbeats 16000000 in
theorem join_calls (A0 : Option Addr) (c0 : Nat) (l0 : List Int) (A1 : Option Addr) (c1 : Nat) (l1 : List Int) (B0 : Option Addr) (d0 : Nat) (m0 : List Int) (B1 : Option Addr) (d1 : Nat) (m1 : List Int) (side : Int) (r1 r2 : List Int) (r3 : Int) (w : World) (hr0 : Kd.C (Kd.int .i64) w A0 l0.length l0) (hc0 : l0.length ≤ c0) (hr1 : Kd.C (Kd.int .i64) w A1 l1.length l1) (hc1 : l1.length ≤ c1) (hr2 : Kd.C (Kd.int .i64) w B0 m0.length m0) (hc2 : m0.length ≤ d0) (hr3 : Kd.C (Kd.int .i64) w B1 m1.length m1) (hc3 : m1.length ≤ d1) (h : joinF l0 l1 m0 m1 side = some (r1, r2, r3)) :
    Calls Try.prog 33 #[.agg #[.slice A0 l0.length c0, .slice A1 l1.length c1], .agg #[.slice B0 m0.length d0, .slice B1 m1.length d1], .int .i64 side] w fun e w' => ∃ v0_ v1_ : Value, e = .returned (.tuple #[.agg #[v0_, v1_], .int .i64 r3]) ∧ Kd.R (Kd.int .i64) 3 w' w.heap.size (fun _ => True) v0_ r1 ∧ Kd.R (Kd.int .i64) 27 w' w.heap.size (fun _ => True) v1_ r2 ∧ Below w.heap.size w w' := by
  have hmx : Try.prog.follows .mixedOrders = true := by kernel_rfl
  have huG := Try.underlying26
  unfold joinF at h
  split at h
  case isFalse => cases h
  case isTrue hk =>
  obtain ⟨⟨hk1, hk2⟩, hk3, hk4⟩ := hk
  obtain ⟨KR, hKR⟩ := rightT_ev l0 l1 (by omega)
  replace hKR := hKR KR (Nat.le_refl _)
  obtain ⟨KR2, hKR2⟩ := rightT_ev m0 m1 (by omega)
  replace hKR2 := hKR2 KR2 (Nat.le_refl _)
  obtain ⟨KC, hKC⟩ := join_ev l0 m0 side (by omega) (by omega)
  replace hKC := hKC KC (Nat.le_refl _)
  have h' := Option.some.inj h
  clear h
  have HR := Aside0.mk (And.intro hr0 (And.intro hc0 (And.intro hr1 (And.intro hc1 (And.intro hr2 (And.intro hc2 (And.intro hr3 hc3)))))))
  have HK := Aside0.mk (And.intro hk1 (And.intro hk2 (And.intro hk3 hk4)))
  clear hr0 hc0 hr1 hc1 hr2 hc2 hr3 hc3 hk1 hk2 hk3 hk4
  refine (callsIn_wide (n := 4)).1 ?_
  refine callsIn_of_wp_marks Try.func33 rfl trivial ?_ rfl
  simp only [Try.ntmps33, List.size_toArray, List.length_cons, List.length_nil, Nat.reduceAdd, Nat.reduceSub, Array.replicate_succ, Array.replicate_zero, List.push_toArray, List.append_toArray, List.nil_append, List.cons_append]
  have H0 := Aside0.mk (J0.start w A0 A1 B0 B1 c0 c1 d0 d1 l0 l1 m0 m1 side)
  by_cases e1 : rightT l0 l1 = true
  · rw [e1] at hKR
    by_cases e1' : rightT m0 m1 = true
    · rw [e1'] at hKR2
      obtain ⟨s', e0, hcs⟩ : ∃ s' e0, joinS l0 m0 side = (s', e0) := ⟨_, _, rfl⟩
      rw [hcs] at hKC
      have HKR := Aside0.mk (And.intro hKR (And.intro hKR2 hKC))
      have ht : joinT l0 l1 m0 m1 side = if e0 = 0 then (s', (List.range (prod s').toNat).map (joinC l0 l1 m0 m1 s' side), 0) else ([], [], e0) := by unfold joinT; rw [if_pos (by rw [e1, e1']; rfl), hcs]
      rw [ht] at h'
      have HCS := Aside0.mk (And.intro e1 (And.intro e1' hcs))
      clear hKR hKR2 hKC e1 e1' hcs ht
      by_cases e2 : e0 = 0
      · subst e2
        rw [if_pos rfl] at h'
        injection h' with q1 q2
        injection q2 with q2 q3
        subst q1 q2 q3
        obtain ⟨hrS, hrT, hlT, n, hsn, hn, hrJ, hst, hs'⟩ := joinS_true (l := l0) (m := m0) (i := side) (by rw [HCS.out.2.2])
        subst hsn
        rw [HCS.out.2.2] at hs'
        change s' = _ at hs'
        have hrS' : rightS s' = true := by rw [hs']; exact hrJ
        obtain ⟨fuel, N, hN, hN1, hN2, hat, hend⟩ := at_all s' hrS'
        have hlen : s'.length = l0.length := by rw [hs', List.length_set]
        have hl4 : l0.length ≤ 4 := (rightS_true hrS).2.1
        have hxb := (rightS_true hrS).2.2.1 _ (rd_mem (l := l0) (i := (n : Int)) (by omega) (by omega))
        have hzb := (rightS_true hrT).2.2.1 _ (rd_mem (l := m0) (i := (n : Int)) (by omega) (by omega))
        obtain ⟨wl, hwl⟩ : ∃ wl : Nat → List Int, wl = fun k : Nat => (digs s' (k : Int)).1 := ⟨_, rfl⟩
        obtain ⟨f, hf⟩ : ∃ f : Nat → Int, f = joinC l0 l1 m0 m1 s' (n : Int) := ⟨_, rfl⟩
        obtain ⟨x, hx⟩ : ∃ x, rd l0 (n : Int) = x := ⟨_, rfl⟩
        rw [← hf]
        have HN := Aside0.mk (And.intro (show s'.length ≤ 4 by omega) (And.intro hN (And.intro hN1 (And.intro hN2 (And.intro hat hend)))))
        have hjp := fun k : Nat => join_place (k := (k : Int)) hrS hrT hlT hn hst hs'
        have HW := Aside0.mk (And.intro hwl (And.intro hf (And.intro hlen (And.intro hn (And.intro hl4 (And.intro hlT (And.intro hx (And.intro hjp (And.intro hxb hzb)))))))))
        clear hrS hrT hlT hrJ hst hrS' hN hN1 hN2 hat hend hlen hl4 hwl hf hn hs' hx hjp hxb hzb
        gi_wp2_with (first
          | (refine ⟨trivial, ?_⟩; gi_at_call 13; refine (callsIn_wide.2 (tensor_Grid_fix_F_Right.calls KR2 B0 d0 m0 B1 d1 m1 true _ (Kd.C_below HR.out.2.2.2.2.1 H1.out.below) HR.out.2.2.2.2.2.1 (Kd.C_below HR.out.2.2.2.2.2.2.1 H1.out.below) HR.out.2.2.2.2.2.2.2 HKR.out.2.1)).mono ?_; rintro e w2 ⟨rfl, hb2⟩; have H2 := Aside0.mk (H1.out.step hb2); clear x0 x1 y0 y1 z0 q0 q1 f0 f1; have x0 := blk_cell H2.out.ba 0; have x1 := blk_cell H2.out.ba 1; have y0 := blk_cell H2.out.bb 0; have y1 := blk_cell H2.out.bb 1; have z0 := H2.out.bs.cell; have q0 := blk_cell H2.out.br 0; have q1 := blk_cell H2.out.br 1; have f0 := blk_frozen H2.out.br 0; have f1 := blk_frozen H2.out.br 1; clear hb2)
          | (refine ⟨trivial, ?_⟩; gi_at_call 13; refine (callsIn_wide.2 (tensor_Grid_fix_F_Right.calls KR A0 c0 l0 A1 c1 l1 true _ (Kd.C_below HR.out.1 H0.out.below) HR.out.2.1 (Kd.C_below HR.out.2.2.1 H0.out.below) HR.out.2.2.2.1 HKR.out.1)).mono ?_; rintro e w1 ⟨rfl, hb1⟩; have H1 := Aside0.mk (H0.out.step hb1); have x0 := blk_cell H1.out.ba 0; have x1 := blk_cell H1.out.ba 1; have y0 := blk_cell H1.out.bb 0; have y1 := blk_cell H1.out.bb 1; have z0 := H1.out.bs.cell; have q0 := blk_cell H1.out.br 0; have q1 := blk_cell H1.out.br 1; have f0 := blk_frozen H1.out.br 0; have f1 := blk_frozen H1.out.br 1; clear hb1)
          | (refine ⟨trivial, ?_⟩; gi_at_call 34; refine (callsIn_wide.2 (shape_Shape_Join.calls KC A0 c0 l0 B0 d0 m0 (n : Int) s' 0 _ (Kd.C_below HR.out.1 H2.out.below) HR.out.2.1 (Kd.C_below HR.out.2.2.2.2.1 H2.out.below) HR.out.2.2.2.2.2.1 HKR.out.2.2)).mono ?_; rintro e w3 ⟨v3, rfl, hR3, hb3⟩; obtain ⟨As, cs, rfl⟩ := Kd.R_slice hR3; have H3 := Aside0.mk (H2.out.step hb3); have HR2 := Aside0.mk (And.intro hR3 (And.intro hb3.size H2.out.br)); clear x0 x1 y0 y1 z0 q0 q1 f0 f1; clear hb3 hR3)
          | (refine ⟨trivial, ?_⟩; gi_at_call 51; refine (callsIn_wide.2 (all_any As cs s' _ (Kd.C_below (Kd.R_reads' HR2.out.1).2.2 (belA w3 _)) (Kd.R_reads' HR2.out.1).2.1 (by have := HN.out.1; omega))).mono ?_; rintro e w4 ⟨Bs, A3, c3, rfl, hB0, hB1, hc3, hR4, hb4⟩))
        have hsz : (w3.alloc (.cells #[.slice As s'.length cs, .slice none 0 0] 26)).heap.size = w3.heap.size + 1 := World.size_alloc _ _
        rw [hsz] at hB0
        have hb3s : w3.heap.size + 1 ≤ w4.heap.size := by have := hb4.size; omega
        have hI0 : IJ w A0 A1 B0 B1 As c0 c1 d0 d1 cs w3.heap.size w4.heap.size l0 l1 m0 m1 s' (n : Int) f 0 w4 := by
          have h1 := HR2.out.2.2
          have h2 := (H3.out.step (belA w3 (.cells #[.slice As s'.length cs, .slice none 0 0] 26))).step hb4
          have h3 := (Array.getElem?_eq_some_iff.1 h1).1
          refine ⟨h2.ba, h2.bb, h2.bs, h2.br, h2.below, ⟨by have := HR2.out.2.1; omega, by omega, Nat.le_refl _⟩, ?_, none, 0, blk_below (blk_new w3 _) hb4, Kd.R_nil _ _ _ _ _⟩
          refine Kd.R_lower (Kd.R_mono (Kd.R_below (Kd.R_alloc (Kd.R_bound HR2.out.1) _) hb4) (fun b hb => ?_)) H2.out.below.size
          have := hb.2.1; have := hb.2.2.1; exact ⟨by omega, by omega⟩
        have hcs := Kd.R_reads' hR4
        have hbase := Kd.R_base hR4
        have HI := Aside0.mk hI0
        clear hI0 hb4
        refine range_out (n := 4) (α := Nat × Value) rfl (by omega) (gf := 66) (lb := #[.pointer (some ⟨Bs, 0, none⟩)]) rfl trivial (enters_of Try.func66 (by kernel_rfl) rfl)
          (all_seq 3 (by omega) fuel N wl 11 (by decide) HN.out.2.2.2.1 w4.heap.size Bs A3 c3 s' (fun b => b = w3.heap.size) w4 hB1 hcs.2.2 hc3 hB1.lt (by omega) (fun ad e hp => ⟨C_lt hcs.2.2 ad e hp, ?own⟩) (fun k hk => by rw [HW.out.1]; exact HN.out.2.2.2.2.1 k hk) HN.out.2.2.2.2.2)
          (fun _ => rfl) (fun k x X Y h => h.grown)
          (IJ w A0 A1 B0 B1 As c0 c1 d0 d1 cs w3.heap.size w4.heap.size l0 l1 m0 m1 s' (n : Int) f) (fun _ _ _ => False)
          (fun k x a' W => IJ w A0 A1 B0 B1 As c0 c1 d0 d1 cs w3.heap.size w4.heap.size l0 l1 m0 m1 s' (n : Int) f k W ∧ k < N ∧ ∃ Av cv, x.2 = .slice Av (wl k).length cv ∧ (wl k).length ≤ cv ∧ Kd.R (Kd.int .i64) 3 W w4.heap.size (fun _ => True) (.slice Av (wl k).length cv) (wl k) ∧ a' = { tmps := #[.agg #[.slice A0 l0.length c0, .slice A1 l1.length c1], .agg #[.slice B0 m0.length d0, .slice B1 m1.length d1], .int .i64 (n : Int), .pointer (some ⟨w.heap.size, 0, none⟩), .pointer (some ⟨w.heap.size + 1, 0, none⟩), .pointer (some ⟨w.heap.size + 1 + 1, 0, none⟩), .pointer (some ⟨w.heap.size + 1 + 1 + 1, 0, none⟩), .int .i64 0, .slice As s'.length cs, .int .i64 0, .pointer (some ⟨w3.heap.size, 0, none⟩), undef, .slice Av (wl k).length cv, undef, undef, undef, .agg #[.slice A0 l0.length c0, .slice A1 l1.length c1], .bool true, .bool false, .bool false, .agg #[.slice B0 m0.length d0, .slice B1 m1.length d1], .bool true, .bool false, .bool false, undef, .tuple #[.slice As s'.length cs, .int .i64 0], .pointer (some ⟨w.heap.size, 0, none⟩), .slice A0 l0.length c0, .pointer (some ⟨w.heap.size + 1, 0, none⟩), .slice B0 m0.length d0, .int .i64 (n : Int), .tuple #[.slice As s'.length cs, .int .i64 0], .slice As s'.length cs, .int .i64 0, .int .i64 0, .bool false, undef, undef, .slice As s'.length cs, .agg #[.slice As s'.length cs, .slice none 0 0], .slice As s'.length cs, .func (.func 66) #[] #[.pointer (some ⟨Bs, 0, none⟩)], .int .i64 (k : Int), .slice Av (wl k).length cv, undef, undef, undef, undef, undef, undef, undef, undef, undef, undef, undef, undef, undef, undef, undef, undef, undef, undef, undef, undef, undef, undef, undef, undef, undef, undef, undef, undef, undef, undef, undef, undef, undef, undef, undef, undef, undef, undef, undef, undef, undef], defers := [] })
          ?oI ?oX ?oA HI.out ?assign ?body ?done ?stop
        case own =>
          rintro hm
          have h1 := hbase ad.block (by rw [e]; rfl)
          rw [hsz] at h1
          omega
        case oI => exact IJ.own _ (by have := HI.out.below.size; omega)
        case oX => exact fun _ _ _ _ _ h _ _ => h
        case oA =>
          rintro k x a' _ W W' row ⟨h1, h3, Av, cv, h5, h6, h7, h8⟩ hg hr
          exact ⟨IJ.own _ (by have := HI.out.below.size; omega) k W W' row h1 hg hr, h3, Av, cv, h5, h6, R_own h7 hg (fun r e => (hr r e).2), h8⟩
        case assign =>
          rintro l k ⟨i, v⟩ X Y K hI ⟨hi, hkN, hb, hR⟩ hX hK
          obtain rfl : i = k := hi
          change Kd.R _ _ Y _ _ v _ at hR
          obtain ⟨Av, cv, rfl⟩ := Kd.R_slice hR
          have hK' := Aside0.mk (hK _ _ (Kps.refl _ _ _) ⟨hI.step hb, hkN, Av, cv, rfl, (Kd.R_reads' hR).2.1, Kd.R_lower hR hX, rfl⟩)
          clear hK hI hR
          simp only [AllW.encs]
          gi_wp2
          exact hK'.out
        case body =>
          rintro l k x' a' W hl _ ⟨hI, hkN, Av, cv, hx2, hcv, hRv, rfl⟩
          have hwll : (wl k).length = l0.length := by rw [HW.out.1]; show (digs s' (k : Int)).1.length = _; rw [digs_length]; exact HW.out.2.2.1
          obtain ⟨g, cap, hv, hgb, hgl, gcells, hgc⟩ := Kd.R_form hRv (by have := HW.out.2.2.2.1; omega)
          cases hv
          obtain ⟨q, hq⟩ : ∃ q, rd (wl k) (n : Int) = q := ⟨_, rfl⟩
          have hnw : n < (wl k).length := by have := HW.out.2.2.2.1; omega
          obtain ⟨hcell, hfroz⟩ := Kd.R_cell (0 : Int) hRv (n : Int) (by omega) (by omega)
          rw [show rdOf (0 : Int) (wl k) (n : Int) = q from hq, Int.toNat_natCast] at hcell
          rw [Int.toNat_natCast] at hfroz
          have hdw : (digs s' (k : Int)).1 = wl k := by rw [HW.out.1]
          have hjp := HW.out.2.2.2.2.2.2.2.1 k
          rw [hdw, hq, HW.out.2.2.2.2.2.2.1] at hjp
          have hxb := HW.out.2.2.2.2.2.2.2.2.1
          have hzb := HW.out.2.2.2.2.2.2.2.2.2
          rw [HW.out.2.2.2.2.2.2.1] at hxb
          obtain ⟨ad0, eA0, hs0⟩ := Kd.at_int (Kd.C_below HR.out.1 hI.below) (n : Int) (by omega) (by have := HW.out.2.2.2.1; omega)
          subst eA0
          rw [Int.toNat_natCast, HW.out.2.2.2.2.2.2.1] at hs0
          have hqa : 0 ≤ q ∧ q ≤ 2048 ∧ 1 ≤ x ∧ x ≤ 1024 := by have := hjp.2.1; have := hjp.2.2.1; omega
          have hw : IntKind.i64.wrap (q - x) = q - x := by rw [i64_w]; unfold wrap64; omega
          have hRw := Kd.R_mono (Kd.R_bound hRv) (fun b hb => (hb.2.2.1 : b < W.heap.size))
          have b0 : W.cell? ⟨w.heap.size, 0, none⟩ = some (.slice (some ad0) l0.length c0) := blk_cell hI.ba 0
          have b1 : W.cell? ⟨w.heap.size, 1, none⟩ = some (.slice A1 l1.length c1) := blk_cell hI.ba 1
          have b2 := hI.bs.cell
          have i0 := hI.step (belA W (.cells #[.slice (some ad0) l0.length c0, .slice A1 l1.length c1] 26))
          have fr0 := blk_new W (.cells #[.slice (some ad0) l0.length c0, .slice A1 l1.length c1] 26)
          have gc0 := blk_alloc hgc (.cells #[.slice (some ad0) l0.length c0, .slice A1 l1.length c1] 26)
          have k0 : Kps w4.heap.size (fun b => b = w3.heap.size) W (W.alloc (.cells #[.slice (some ad0) l0.length c0, .slice A1 l1.length c1] 26)) := Kps.alloc W _ hI.gob.2.2
          have hi0 := eq_true (show (0 : Int) ≤ (n : Int) by omega)
          have hi1 := eq_true (show (n : Int) < ((wl k).length : Int) by omega)
          have hi2 := eq_true (show n < (wl k).length by omega)
          have hi3 := eq_true (show (n : Int) < (l0.length : Int) by omega)
          have hi4 := eq_true (show n < l0.length by omega)
          have hn4 : (n : Int) ≤ 4 := by have := HW.out.2.2.2.1; have := HW.out.2.2.2.2.1; omega
          have HB := Aside0.mk (And.intro hI (And.intro hkN (And.intro hcv hRw)))
          have HP := Aside0.mk (And.intro hjp (And.intro hwll (And.intro hgb (And.intro hgc (And.intro hq (And.intro hdw hgl))))))
          have HI0 := Aside0.mk (And.intro i0 (And.intro fr0 (And.intro gc0 k0)))
          have hfz := blk_frozen gc0 n
          have e1 := cellB (belA W (.cells #[.slice (some ad0) l0.length c0, .slice A1 l1.length c1] 26)) b0
          have e2 := cellB (belA W (.cells #[.slice (some ad0) l0.length c0, .slice A1 l1.length c1] 26)) b2
          have e3 := cellB (belA W (.cells #[.slice (some ad0) l0.length c0, .slice A1 l1.length c1] 26)) hs0
          have e4 := cellB (belA W (.cells #[.slice (some ad0) l0.length c0, .slice A1 l1.length c1] 26)) hcell
          have HE := Aside0.mk (And.intro e2 (And.intro e1 (And.intro e3 (And.intro e4 hfz))))
          clear hI hkN hcv hRv hRw hjp hwll hgb hgc hq hdw hgl i0 fr0 gc0 k0 hxb hzb hx2 hs0 hcell hfroz e1 e2 e3 e4 hfz
          by_cases hqx : x ≤ q
          · have hqd : decide (x ≤ q) = true := decide_eq_true hqx
            have HQ := Aside0.mk hqx
            clear hqx
            gi_wp2
            refine start_roundN (n := 10) (S := fun V => V.cell? ⟨w.heap.size + 1 + 1, 0, none⟩ = some (.int .i64 (n : Int)) ∧ V.cell? ⟨w.heap.size, 0, none⟩ = some (.slice (some ad0) l0.length c0) ∧ V.cell? (ad0.add n) = some (.int .i64 x) ∧ V.cell? ⟨g, n, none⟩ = some (.int .i64 q)) (ds := [])
              (lst 10 [(0, some 45), (1, some 46), (2, some 47), (3, some 48), (4, some 49), (5, some 50), (6, some 51), (7, some 52), (8, some 53), (9, some 54)]) hmx rfl (by kernel_rfl) (by kernel_rfl) ⟨HE.out.1, HE.out.2.1, HE.out.2.2.1, HE.out.2.2.2.1⟩ (fun hS => ?_)
            clear b0 b1 b2
            iterate 10 (first
             | (refine pureO rfl rfl (by kernel_rfl) (by exact fun _ _ _ h => h) (Or.inr ⟨by rfl, rfl⟩) (by simp only [Act.put, List.setIfInBounds_toArray, List.set_cons_zero, List.set_cons_succ]; rfl) ?_)
             | (refine pureO rfl rfl (by kernel_rfl) (by exact fun _ _ _ h => h) (Or.inl ⟨by rfl, by intro w_; go_simp; with_reducible rfl⟩) (by simp only [Act.put, List.setIfInBounds_toArray, List.set_cons_zero, List.set_cons_succ]; rfl) ?_)
             | (refine takeO rfl rfl (by kernel_rfl) (by exact fun _ _ _ h => h) hS (Or.inl ⟨by rfl, by rintro w_ ⟨s0_, s1_, s2_, s3_⟩; go_simp; with_reducible rfl⟩) (by simp only [Act.put, List.setIfInBounds_toArray, List.set_cons_zero, List.set_cons_succ]; rfl) ?_))
            refine done_N (by kernel_rfl) ?_
            clear hS
            clear hqd
            gi_wp2
            refine start_roundN (n := 12) (S := fun V => V.cell? ⟨w.heap.size + 1 + 1, 0, none⟩ = some (.int .i64 (n : Int)) ∧ V.cell? ⟨w.heap.size, 0, none⟩ = some (.slice (some ad0) l0.length c0) ∧ V.cell? (ad0.add n) = some (.int .i64 x) ∧ V.cell? ⟨g, n, none⟩ = some (.int .i64 q)) (ds := [11])
              (lst 12 [(0, some 55), (1, some 56), (2, some 57), (3, some 58), (4, some 59), (5, some 60), (6, some 61), (7, some 62), (8, some 63), (9, some 64), (10, some 65), (11, none)]) hmx rfl (by kernel_rfl) (by kernel_rfl) ⟨HE.out.1, HE.out.2.1, HE.out.2.2.1, HE.out.2.2.2.1⟩ (fun hS => ?_)
            iterate 11 (first
             | (refine pureO rfl rfl (by kernel_rfl) (by exact fun _ _ _ h => h) (Or.inr ⟨by rfl, rfl⟩) (by simp only [Act.put, List.setIfInBounds_toArray, List.set_cons_zero, List.set_cons_succ]; rfl) ?_)
             | (refine pureO rfl rfl (by kernel_rfl) (by exact fun _ _ _ h => h) (Or.inl ⟨by rfl, by intro w_; go_simp; with_reducible rfl⟩) (by simp only [Act.put, List.setIfInBounds_toArray, List.set_cons_zero, List.set_cons_succ]; rfl) ?_)
             | (refine takeO rfl rfl (by kernel_rfl) (by exact fun _ _ _ h => h) hS (Or.inl ⟨by rfl, by rintro w_ ⟨s0_, s1_, s2_, s3_⟩; go_simp; with_reducible rfl⟩) (by simp only [Act.put, List.setIfInBounds_toArray, List.set_cons_zero, List.set_cons_succ]; rfl) ?_))
            have hcl := HE.out.2.2.2.1
            have hfz := HE.out.2.2.2.2
            refine lastO rfl rfl (by kernel_rfl) (by decide) (fun K hK => ?_)
            refine skip_ (w1 := ?_) (by rfl) rfl ?_ ?_
            rotate_left
            · go_simp
              rfl
            refine hK.out _ _ ?_
            clear hK K
            refine done_N (by kernel_rfl) ?_
            clear hS hcl hfz
            have hne : W.heap.size ≠ g := by have := HP.out.2.2.2.2.2.2; omega
            have hBW := HB.out.1.gob.2.2
            have i1 := HI0.out.1.far (p := n) (x := .int .i64 (q - x)) HP.out.2.2.1 HI0.out.2.2.1 (by decide)
            have fr1 := blk_far HI0.out.2.1 (p := ⟨g, n, none⟩) (by show W.heap.size ≠ g; exact hne) (.int .i64 (q - x))
            have i2 := i1.far (p := 0) (x := .slice B0 m0.length d0) hBW fr1 (by decide)
            have fr2 := blk_put fr1 0 (.slice B0 m0.length d0) rfl
            have i3 := i2.far (p := 1) (x := .slice B1 m1.length d1) hBW fr2 (by decide)
            have fr3 := blk_put fr2 1 (.slice B1 m1.length d1) rfl
            have hR1 := (Kd.R_put (Kd.R_alloc HB.out.2.2.2 (.cells #[.slice (some ad0) l0.length c0, .slice A1 l1.length c1] 26)) (n : Int) (q - x)).1
            rw [Int.toNat_natCast] at hR1
            have hR3 := Kd.R_far (Kd.R_far hR1 (p := ⟨W.heap.size, 0, none⟩) (fun b hb => by show b ≠ W.heap.size; omega) (.slice B0 m0.length d0)) (p := ⟨W.heap.size, 1, none⟩) (fun b hb => by show b ≠ W.heap.size; omega) (.slice B1 m1.length d1)
            have k3 := ((HI0.out.2.2.2.trans (Kps.set _ ⟨g, n, none⟩ (.int .i64 (q - x)) (.inl HP.out.2.2.1))).trans (Kps.set _ ⟨W.heap.size, 0, none⟩ (.slice B0 m0.length d0) (.inl hBW))).trans (Kps.set _ ⟨W.heap.size, 1, none⟩ (.slice B1 m1.length d1) (.inl hBW))
            have y0 := blk_cell i1.bb 0
            have y1 := blk_cell i1.bb 1
            have z0 := blk_cell fr1 0
            have z1 := blk_cell fr1 1
            have zf0 := blk_frozen fr1 0
            have zf1 := blk_frozen fr1 1
            have u0 := blk_cell fr3 0
            have hpS := placeS_ok (HP.out.1.2.2.2.2 HQ.out)
            obtain ⟨AL, hAL⟩ : ∃ AL, AL = (wl k).set n (q - x) := ⟨_, rfl⟩
            have hll : (wl k).length = AL.length := by rw [hAL, List.length_set]
            rw [← hAL, hll] at hR3
            rw [← hAL] at hpS
            rw [hll]
            have hp2 := HP.out.1.2.2.2.2 HQ.out
            rw [← hAL] at hp2
            obtain ⟨KP, hKP⟩ := place_ev m0 AL (by have := HK.out; omega)
            replace hKP := hKP KP (Nat.le_refl _)
            obtain ⟨pk, hpk⟩ := Int.eq_ofNat_of_zero_le hpS.2.1
            rw [hpk] at hpS
            rw [show placeS m0 AL = ((pk : Int), 0) from Prod.ext hpk hp2] at hKP
            have hpl1 : pk < m1.length := by have h1 := (rightT_true HCS.out.2.1).2; have h2 := hpS.2.2; omega
            have I3 := Aside0.mk i3
            have HK3 := Aside0.mk k3
            have HF3 := Aside0.mk fr3
            have HX := Aside0.mk hR3
            have HPK := Aside0.mk (And.intro hKP (And.intro hpk (And.intro hpl1 (And.intro (show AL.length ≤ cv by rw [← hll]; exact HB.out.2.2.1) hAL))))
            clear hKP hpk hpS hp2 hpl1 hAL hll i3 k3 fr3 hR3 hw hqa hi0 hi1 hi2 hi3 hi4 hn4 hnw
            gi_wp2_with (refine ⟨trivial, ?_⟩; gi_at_call 21; refine (CallsIn.inRound l (callsIn_wide.2 (shape_Shape_Place.calls KP B0 d0 m0 (some ⟨g, 0, none⟩) cv AL (pk : Int) 0 _ (by exact Kd.C_below HR.out.2.2.2.2.1 (by repeat (first | exact I3.out.below | refine below_drew1 ?_))) HR.out.2.2.2.2.2.1 (by exact (Kd.R_reads' HX.out).2.2) HPK.out.2.2.2.1 HPK.out.1))).mono ?_; rintro e W2 ⟨rfl, hd⟩; have I2 : Aside0 (IJ w (some ad0) A1 B0 B1 As c0 c1 d0 d1 cs w3.heap.size w4.heap.size l0 l1 m0 m1 s' (n : Int) f k W2) := Aside0.mk (IJ.step (by repeat (first | exact I3.out | refine IJ.drew ?_)) (belD hd)); have HK2 : Aside0 (Kps w4.heap.size (fun b => b = w3.heap.size) W W2) := Aside0.mk (Kps.trans (by repeat (first | exact HK3.out | refine Kps.trans ?_ (Kps.drew _))) (Kps.below (B := w4.heap.size) (M := fun b => b = w3.heap.size) (belD hd) (by exact I3.out.gob.2.2))); have HF2 := Aside0.mk (blk_below (by exact HF3.out) (belD hd)); clear hd)
            have hfk : f k = rd m1 (pk : Int) := by rw [HW.out.2.1]; unfold joinC; rw [HP.out.2.2.2.2.2.1, HP.out.2.2.2.2.1, HW.out.2.2.2.2.2.2.1, if_pos HQ.out, Int.toNat_natCast, ← HPK.out.2.2.2.2, HPK.out.2.1]
            obtain ⟨Ao, co, hgo, hRo⟩ := I2.out.bo
            have b1 : W2.cell? ⟨w3.heap.size, 1, none⟩ = some (.slice Ao k co) := blk_cell hgo 1
            have b2 : W2.cell? ⟨W.heap.size, 1, none⟩ = some (.slice B1 m1.length d1) := blk_cell HF2.out 1
            obtain ⟨ad, eA, hsc⟩ := Kd.at_int (Kd.C_below HR.out.2.2.2.2.2.2.1 I2.out.below) (pk : Int) (by omega) (by have := HPK.out.2.2.1; omega)
            rw [Int.toNat_natCast, ← hfk] at hsc
            obtain ⟨y, hy⟩ : ∃ y, f k = y := ⟨_, rfl⟩
            rw [hy] at hsc
            subst eA
            have hi0 := eq_true (show (0 : Int) ≤ (pk : Int) by omega)
            have hi1 := eq_true (show (pk : Int) < (m1.length : Int) by have := HPK.out.2.2.1; omega)
            have hi2 := eq_true (show pk < m1.length from HPK.out.2.2.1)
            have hp4 : (pk : Int) ≤ 600 := by have := HPK.out.2.2.1; have := HK.out.2.2.2; omega
            have HGO := Aside0.mk (And.intro hgo (And.intro hRo (And.intro hy hfk)))
            clear hgo hRo hy hfk
            refine start_roundN (n := 11) (S := fun V => V.cell? ⟨w3.heap.size, 1, none⟩ = some (.slice Ao k co) ∧ V.cell? ⟨W.heap.size, 1, none⟩ = some (.slice (some ad) m1.length d1) ∧ V.cell? (ad.add pk) = some (.int .i64 y)) (ds := [10])
              (lst 11 [(0, some 74), (1, some 75), (2, some 76), (3, some 77), (4, some 78), (5, some 79), (6, some 80), (7, some 81), (8, some 82), (9, some 83), (10, none)]) hmx rfl (by kernel_rfl) (by kernel_rfl) ⟨b1, b2, hsc⟩ (fun hS => ?_)
            clear b1 b2 hsc
            iterate 7 (first
             | (refine pureO rfl rfl (by kernel_rfl) (by exact fun _ _ _ h => h) (Or.inr ⟨by rfl, rfl⟩) (by simp only [Act.put, List.setIfInBounds_toArray, List.set_cons_zero, List.set_cons_succ]; rfl) ?_)
             | (refine pureO rfl rfl (by kernel_rfl) (by exact fun _ _ _ h => h) (Or.inl ⟨by rfl, by intro w_; go_simp; with_reducible rfl⟩) (by simp only [Act.put, List.setIfInBounds_toArray, List.set_cons_zero, List.set_cons_succ]; rfl) ?_)
             | (refine takeO rfl rfl (by kernel_rfl) (by exact fun _ _ _ h => h) hS (Or.inl ⟨by rfl, by rintro w_ ⟨s0_, s1_, s2_⟩; go_simp; with_reducible rfl⟩) (by simp only [Act.put, List.setIfInBounds_toArray, List.set_cons_zero, List.set_cons_succ]; rfl) ?_))
            refine oneO rfl rfl (by kernel_rfl) (by decide) (fun K hK => ?_)
            refine value_ (w1 := ?_) (v := ?_) (by rfl) rfl ?_ ?_
            rotate_left 2
            · go_simp
              constructor <;> rfl
            refine hK.out _ _ ⟨cellB (belA _ _) hS.1, cellB (belA _ _) hS.2.1, cellB (belA _ _) hS.2.2⟩ (fun hS1 => ?_)
            clear hK K
            refine oneO rfl rfl (by kernel_rfl) (by decide) (fun K hK => ?_)
            refine Kd.R_append_step (Kd.int .i64) (w0 := w) w.heap.size (by rfl) (.tmp 75) (.tmp 81) 24 27 (.int .i64 0) 8 rfl Try.underlying24 info27 rfl (by decide) (by omega) (.slice Ao k co) ((List.range k).map f) y [.int .i64 y] (fun b => w4.heap.size ≤ b) (fun _ => False) (by rfl) (by rfl) rfl (fun _ hk => hk.elim) ?aF (Kd.R_drew HGO.out.2.1) (below_drew1 I2.out.below) ?aB ?aL ?_
            case aF => have := I2.out.gob.2.2; intro k hk; exact Nat.le_trans this hk
            case aB => exact (below_drew1 I2.out.below).size
            case aL => rw [List.length_map, List.length_range]; have := HB.out.2.1; have := HN.out.2.2.2.1; omega
            intro v5 W5 hR5 hB5 hg5 _
            obtain ⟨A5, c5, hv5⟩ := Kd.R_slice hR5
            rw [show ((List.range k).map f ++ [y]).length = k + 1 by simp] at hv5
            subst hv5
            have hown : ∀ b, (Value.slice Ao k co).ownBlock = some b → w4.heap.size ≤ b := HGO.out.2.1.1
            have hgo5 := (hg5.block _ (Array.getElem?_eq_some_iff.1 HGO.out.1).1 (fun e => by have := hown _ e.symm; omega)).trans HGO.out.1
            have hfr5 := (hg5.block _ (Array.getElem?_eq_some_iff.1 HF2.out).1 (fun e => by
              obtain ⟨inner, ho⟩ := Kd.R_own HGO.out.2.1
              obtain ⟨cells', hc'⟩ := own_typed ho _ e.symm
              have h2 := HF2.out
              rw [hc'] at h2
              injection h2 with h2
              injection h2 with _ h2
              exact absurd h2 (by decide))).trans HF2.out
            obtain ⟨ad', eA', hsc5⟩ := Kd.at_int (Kd.C_below HR.out.2.2.2.2.2.2.1 hB5) (pk : Int) (by omega) (by have := HPK.out.2.2.1; omega)
            cases eA'
            rw [Int.toNat_natCast, ← HGO.out.2.2.2, HGO.out.2.2.1] at hsc5
            have hnx := IJ.next (W := W) (IJ.drew I2.out) (HK2.out.trans (Kps.drew _)) (Kd.R_drew HGO.out.2.1) hg5 (by rw [HGO.out.2.2.1]; exact hR5)
            have HNX := Aside0.mk hnx
            have b1 : W5.cell? ⟨w3.heap.size, 1, none⟩ = some (.slice Ao k co) := blk_cell hgo5 1
            have b2 : W5.cell? ⟨W.heap.size, 1, none⟩ = some (.slice (some ad) m1.length d1) := blk_cell hfr5 1
            have b3 := blk_frozen hgo5 1
            refine hK.out _ _ ⟨b1, b2, hsc5⟩ (fun hS2 => ?_)
            clear hK K hS hS1 b2 hsc5 hnx hgo5 hfr5 hown hR5 hB5 hg5 hi0 hi1 hi2
            iterate 1 (first
             | (refine pureO rfl rfl (by kernel_rfl) (by exact fun _ _ _ h => h) (Or.inr ⟨by rfl, rfl⟩) (by simp only [Act.put, List.setIfInBounds_toArray, List.set_cons_zero, List.set_cons_succ]; rfl) ?_)
             | (refine pureO rfl rfl (by kernel_rfl) (by exact fun _ _ _ h => h) (Or.inl ⟨by rfl, by intro w_; go_simp; with_reducible rfl⟩) (by simp only [Act.put, List.setIfInBounds_toArray, List.set_cons_zero, List.set_cons_succ]; rfl) ?_)
             | (refine takeO rfl rfl (by kernel_rfl) (by exact fun _ _ _ h => h) hS2 (Or.inl ⟨by rfl, by rintro w_ ⟨s0_, s1_, s2_⟩; go_simp; with_reducible rfl⟩) (by simp only [Act.put, List.setIfInBounds_toArray, List.set_cons_zero, List.set_cons_succ]; rfl) ?_))
            clear hS2
            refine lastO rfl rfl (by kernel_rfl) (by decide) (fun K hK => ?_)
            refine skip_ (w1 := ?_) (by rfl) rfl ?_ ?_
            rotate_left
            · go_simp
              rfl
            refine hK.out _ _ ?_
            clear hK K
            refine done_N (by kernel_rfl) ?_
            exact ⟨HNX.out.2, HNX.out.1⟩
          · have hqd : decide (x ≤ q) = false := decide_eq_false hqx
            have HQ := Aside0.mk hqx
            clear hqx
            gi_wp2
            refine start_roundN (n := 10) (S := fun V => V.cell? ⟨w.heap.size + 1 + 1, 0, none⟩ = some (.int .i64 (n : Int)) ∧ V.cell? ⟨w.heap.size, 0, none⟩ = some (.slice (some ad0) l0.length c0) ∧ V.cell? (ad0.add n) = some (.int .i64 x) ∧ V.cell? ⟨g, n, none⟩ = some (.int .i64 q)) (ds := [])
              (lst 10 [(0, some 45), (1, some 46), (2, some 47), (3, some 48), (4, some 49), (5, some 50), (6, some 51), (7, some 52), (8, some 53), (9, some 54)]) hmx rfl (by kernel_rfl) (by kernel_rfl) ⟨HE.out.1, HE.out.2.1, HE.out.2.2.1, HE.out.2.2.2.1⟩ (fun hS => ?_)
            clear b0 b1 b2
            iterate 10 (first
             | (refine pureO rfl rfl (by kernel_rfl) (by exact fun _ _ _ h => h) (Or.inr ⟨by rfl, rfl⟩) (by simp only [Act.put, List.setIfInBounds_toArray, List.set_cons_zero, List.set_cons_succ]; rfl) ?_)
             | (refine pureO rfl rfl (by kernel_rfl) (by exact fun _ _ _ h => h) (Or.inl ⟨by rfl, by intro w_; go_simp; with_reducible rfl⟩) (by simp only [Act.put, List.setIfInBounds_toArray, List.set_cons_zero, List.set_cons_succ]; rfl) ?_)
             | (refine takeO rfl rfl (by kernel_rfl) (by exact fun _ _ _ h => h) hS (Or.inl ⟨by rfl, by rintro w_ ⟨s0_, s1_, s2_, s3_⟩; go_simp; with_reducible rfl⟩) (by simp only [Act.put, List.setIfInBounds_toArray, List.set_cons_zero, List.set_cons_succ]; rfl) ?_))
            refine done_N (by kernel_rfl) ?_
            clear hS
            clear hqd
            have i3 := HI0.out.1
            have fr3 := HI0.out.2.1
            have hR3 := Kd.R_alloc HB.out.2.2.2 (.cells #[.slice (some ad0) l0.length c0, .slice A1 l1.length c1] 26)
            have k3 := HI0.out.2.2.2
            have u0 := blk_cell fr3 0
            have hpS := placeS_ok (HP.out.1.2.2.2.1 HQ.out)
            have hp2 := HP.out.1.2.2.2.1 HQ.out
            obtain ⟨AL, hAL⟩ : ∃ AL, AL = wl k := ⟨_, rfl⟩
            rw [← hAL] at hR3 hpS hp2 ⊢
            have hll : (wl k).length = AL.length := by rw [hAL]
            obtain ⟨KP, hKP⟩ := place_ev l0 AL (by have := HK.out; omega)
            replace hKP := hKP KP (Nat.le_refl _)
            obtain ⟨pk, hpk⟩ := Int.eq_ofNat_of_zero_le hpS.2.1
            rw [hpk] at hpS
            rw [show placeS l0 AL = ((pk : Int), 0) from Prod.ext hpk hp2] at hKP
            have hpl1 : pk < l1.length := by have h1 := (rightT_true HCS.out.1).2; have h2 := hpS.2.2; omega
            have I3 := Aside0.mk i3
            have HK3 := Aside0.mk k3
            have HF3 := Aside0.mk fr3
            have HX := Aside0.mk hR3
            have HPK := Aside0.mk (And.intro hKP (And.intro hpk (And.intro hpl1 (And.intro (show AL.length ≤ cv by rw [← hll]; exact HB.out.2.2.1) hAL))))
            clear hKP hpk hpS hp2 hpl1 hAL hll i3 k3 fr3 hR3 hw hqa hi0 hi1 hi2 hi3 hi4 hn4 hnw
            gi_wp2_with (refine ⟨trivial, ?_⟩; gi_at_call 21; refine (CallsIn.inRound l (callsIn_wide.2 (shape_Shape_Place.calls KP (some ad0) c0 l0 (some ⟨g, 0, none⟩) cv AL (pk : Int) 0 _ (by exact Kd.C_below HR.out.1 (by repeat (first | exact I3.out.below | refine below_drew1 ?_))) HR.out.2.1 (by exact (Kd.R_reads' HX.out).2.2) HPK.out.2.2.2.1 HPK.out.1))).mono ?_; rintro e W2 ⟨rfl, hd⟩; have I2 : Aside0 (IJ w (some ad0) A1 B0 B1 As c0 c1 d0 d1 cs w3.heap.size w4.heap.size l0 l1 m0 m1 s' (n : Int) f k W2) := Aside0.mk (IJ.step (by repeat (first | exact I3.out | refine IJ.drew ?_)) (belD hd)); have HK2 : Aside0 (Kps w4.heap.size (fun b => b = w3.heap.size) W W2) := Aside0.mk (Kps.trans (by repeat (first | exact HK3.out | refine Kps.trans ?_ (Kps.drew _))) (Kps.below (B := w4.heap.size) (M := fun b => b = w3.heap.size) (belD hd) (by exact I3.out.gob.2.2))); have HF2 := Aside0.mk (blk_below (by exact HF3.out) (belD hd)); clear hd)
            have hfk : f k = rd l1 (pk : Int) := by rw [HW.out.2.1]; unfold joinC; rw [HP.out.2.2.2.2.2.1, HP.out.2.2.2.2.1, HW.out.2.2.2.2.2.2.1, if_neg (by have := HQ.out; omega), ← HPK.out.2.2.2.2, HPK.out.2.1]
            obtain ⟨Ao, co, hgo, hRo⟩ := I2.out.bo
            have b1 : W2.cell? ⟨w3.heap.size, 1, none⟩ = some (.slice Ao k co) := blk_cell hgo 1
            have b2 : W2.cell? ⟨W.heap.size, 1, none⟩ = some (.slice A1 l1.length c1) := blk_cell HF2.out 1
            obtain ⟨ad, eA, hsc⟩ := Kd.at_int (Kd.C_below HR.out.2.2.1 I2.out.below) (pk : Int) (by omega) (by have := HPK.out.2.2.1; omega)
            rw [Int.toNat_natCast, ← hfk] at hsc
            obtain ⟨y, hy⟩ : ∃ y, f k = y := ⟨_, rfl⟩
            rw [hy] at hsc
            subst eA
            have hi0 := eq_true (show (0 : Int) ≤ (pk : Int) by omega)
            have hi1 := eq_true (show (pk : Int) < (l1.length : Int) by have := HPK.out.2.2.1; omega)
            have hi2 := eq_true (show pk < l1.length from HPK.out.2.2.1)
            have hp4 : (pk : Int) ≤ 600 := by have := HPK.out.2.2.1; have := HK.out.2.1; omega
            have HGO := Aside0.mk (And.intro hgo (And.intro hRo (And.intro hy hfk)))
            clear hgo hRo hy hfk
            refine start_roundN (n := 11) (S := fun V => V.cell? ⟨w3.heap.size, 1, none⟩ = some (.slice Ao k co) ∧ V.cell? ⟨W.heap.size, 1, none⟩ = some (.slice (some ad) l1.length c1) ∧ V.cell? (ad.add pk) = some (.int .i64 y)) (ds := [10])
              (lst 11 [(0, some 74), (1, some 75), (2, some 76), (3, some 77), (4, some 78), (5, some 79), (6, some 80), (7, some 81), (8, some 82), (9, some 83), (10, none)]) hmx rfl (by kernel_rfl) (by kernel_rfl) ⟨b1, b2, hsc⟩ (fun hS => ?_)
            clear b1 b2 hsc
            iterate 7 (first
             | (refine pureO rfl rfl (by kernel_rfl) (by exact fun _ _ _ h => h) (Or.inr ⟨by rfl, rfl⟩) (by simp only [Act.put, List.setIfInBounds_toArray, List.set_cons_zero, List.set_cons_succ]; rfl) ?_)
             | (refine pureO rfl rfl (by kernel_rfl) (by exact fun _ _ _ h => h) (Or.inl ⟨by rfl, by intro w_; go_simp; with_reducible rfl⟩) (by simp only [Act.put, List.setIfInBounds_toArray, List.set_cons_zero, List.set_cons_succ]; rfl) ?_)
             | (refine takeO rfl rfl (by kernel_rfl) (by exact fun _ _ _ h => h) hS (Or.inl ⟨by rfl, by rintro w_ ⟨s0_, s1_, s2_⟩; go_simp; with_reducible rfl⟩) (by simp only [Act.put, List.setIfInBounds_toArray, List.set_cons_zero, List.set_cons_succ]; rfl) ?_))
            refine oneO rfl rfl (by kernel_rfl) (by decide) (fun K hK => ?_)
            refine value_ (w1 := ?_) (v := ?_) (by rfl) rfl ?_ ?_
            rotate_left 2
            · go_simp
              constructor <;> rfl
            refine hK.out _ _ ⟨cellB (belA _ _) hS.1, cellB (belA _ _) hS.2.1, cellB (belA _ _) hS.2.2⟩ (fun hS1 => ?_)
            clear hK K
            refine oneO rfl rfl (by kernel_rfl) (by decide) (fun K hK => ?_)
            refine Kd.R_append_step (Kd.int .i64) (w0 := w) w.heap.size (by rfl) (.tmp 75) (.tmp 81) 24 27 (.int .i64 0) 8 rfl Try.underlying24 info27 rfl (by decide) (by omega) (.slice Ao k co) ((List.range k).map f) y [.int .i64 y] (fun b => w4.heap.size ≤ b) (fun _ => False) (by rfl) (by rfl) rfl (fun _ hk => hk.elim) ?aF (Kd.R_drew HGO.out.2.1) (below_drew1 I2.out.below) ?aB ?aL ?_
            case aF => have := I2.out.gob.2.2; intro k hk; exact Nat.le_trans this hk
            case aB => exact (below_drew1 I2.out.below).size
            case aL => rw [List.length_map, List.length_range]; have := HB.out.2.1; have := HN.out.2.2.2.1; omega
            intro v5 W5 hR5 hB5 hg5 _
            obtain ⟨A5, c5, hv5⟩ := Kd.R_slice hR5
            rw [show ((List.range k).map f ++ [y]).length = k + 1 by simp] at hv5
            subst hv5
            have hown : ∀ b, (Value.slice Ao k co).ownBlock = some b → w4.heap.size ≤ b := HGO.out.2.1.1
            have hgo5 := (hg5.block _ (Array.getElem?_eq_some_iff.1 HGO.out.1).1 (fun e => by have := hown _ e.symm; omega)).trans HGO.out.1
            have hfr5 := (hg5.block _ (Array.getElem?_eq_some_iff.1 HF2.out).1 (fun e => by
              obtain ⟨inner, ho⟩ := Kd.R_own HGO.out.2.1
              obtain ⟨cells', hc'⟩ := own_typed ho _ e.symm
              have h2 := HF2.out
              rw [hc'] at h2
              injection h2 with h2
              injection h2 with _ h2
              exact absurd h2 (by decide))).trans HF2.out
            obtain ⟨ad', eA', hsc5⟩ := Kd.at_int (Kd.C_below HR.out.2.2.1 hB5) (pk : Int) (by omega) (by have := HPK.out.2.2.1; omega)
            cases eA'
            rw [Int.toNat_natCast, ← HGO.out.2.2.2, HGO.out.2.2.1] at hsc5
            have hnx := IJ.next (W := W) (IJ.drew I2.out) (HK2.out.trans (Kps.drew _)) (Kd.R_drew HGO.out.2.1) hg5 (by rw [HGO.out.2.2.1]; exact hR5)
            have HNX := Aside0.mk hnx
            have b1 : W5.cell? ⟨w3.heap.size, 1, none⟩ = some (.slice Ao k co) := blk_cell hgo5 1
            have b2 : W5.cell? ⟨W.heap.size, 1, none⟩ = some (.slice (some ad) l1.length c1) := blk_cell hfr5 1
            have b3 := blk_frozen hgo5 1
            refine hK.out _ _ ⟨b1, b2, hsc5⟩ (fun hS2 => ?_)
            clear hK K hS hS1 b2 hsc5 hnx hgo5 hfr5 hown hR5 hB5 hg5 hi0 hi1 hi2
            iterate 1 (first
             | (refine pureO rfl rfl (by kernel_rfl) (by exact fun _ _ _ h => h) (Or.inr ⟨by rfl, rfl⟩) (by simp only [Act.put, List.setIfInBounds_toArray, List.set_cons_zero, List.set_cons_succ]; rfl) ?_)
             | (refine pureO rfl rfl (by kernel_rfl) (by exact fun _ _ _ h => h) (Or.inl ⟨by rfl, by intro w_; go_simp; with_reducible rfl⟩) (by simp only [Act.put, List.setIfInBounds_toArray, List.set_cons_zero, List.set_cons_succ]; rfl) ?_)
             | (refine takeO rfl rfl (by kernel_rfl) (by exact fun _ _ _ h => h) hS2 (Or.inl ⟨by rfl, by rintro w_ ⟨s0_, s1_, s2_⟩; go_simp; with_reducible rfl⟩) (by simp only [Act.put, List.setIfInBounds_toArray, List.set_cons_zero, List.set_cons_succ]; rfl) ?_))
            clear hS2
            refine lastO rfl rfl (by kernel_rfl) (by decide) (fun K hK => ?_)
            refine skip_ (w1 := ?_) (by rfl) rfl ?_ ?_
            rotate_left
            · go_simp
              rfl
            refine hK.out _ _ ?_
            clear hK K
            refine done_N (by kernel_rfl) ?_
            exact ⟨HNX.out.2, HNX.out.1⟩
        case done =>
          rintro D k W hD rfl hI hW
          obtain ⟨A, cc, hgo, hRo⟩ := hI.bo
          have q0 := blk_cell hI.br 0
          have q1 := blk_cell hI.br 1
          have f0 := blk_frozen hI.br 0
          have f1 := blk_frozen hI.br 1
          have y0 := blk_cell hgo 0
          have y1 := blk_cell hgo 1
          have HT := Aside0.mk (And.intro hI (And.intro hD (And.intro hW (And.intro hgo hRo))))
          clear hI hgo hRo hD hW hR4 hcs hbase hB0 hB1 hc3
          gi_wp2
          obtain ⟨hI, hD, hW, hgo, hRo⟩ := HT.out
          have hgob := hI.gob
          have hX : ((W.setCell ⟨w.heap.size + 1 + 1 + 1, 0, none⟩ (.slice As s'.length cs)).setCell ⟨w.heap.size + 1 + 1 + 1, 1, none⟩ (.slice A k cc)).heap[w.heap.size + 1 + 1 + 1]? = some (.cells #[.slice As s'.length cs, .slice A k cc] 26 (0, 0)) := blk_put (blk_put hI.br 0 _ rfl) 1 _ rfl
          have hXr := Kd.R_far (Kd.R_far hI.rs (p := ⟨w.heap.size + 1 + 1 + 1, 0, none⟩) (fun b hb => by show b ≠ w.heap.size + 1 + 1 + 1; omega) (.slice As s'.length cs)) (p := ⟨w.heap.size + 1 + 1 + 1, 1, none⟩) (fun b hb => by show b ≠ w.heap.size + 1 + 1 + 1; omega) (.slice A k cc)
          have hXo := Kd.R_far (Kd.R_far hRo (p := ⟨w.heap.size + 1 + 1 + 1, 0, none⟩) (fun b hb => by show b ≠ w.heap.size + 1 + 1 + 1; omega) (.slice As s'.length cs)) (p := ⟨w.heap.size + 1 + 1 + 1, 1, none⟩) (fun b hb => by show b ≠ w.heap.size + 1 + 1 + 1; omega) (.slice A k cc)
          have hXb := (hI.below.setCell (p := ⟨w.heap.size + 1 + 1 + 1, 0, none⟩) (by show w.heap.size ≤ w.heap.size + 1 + 1 + 1; omega) (.slice As s'.length cs)).setCell (p := ⟨w.heap.size + 1 + 1 + 1, 1, none⟩) (by show w.heap.size ≤ w.heap.size + 1 + 1 + 1; omega) (.slice A k cc)
          have hXD := (Below.heap_setCell _ ⟨w.heap.size + 1 + 1 + 1, 1, none⟩ (.slice A k cc) D (by show D ≠ w.heap.size + 1 + 1 + 1; omega)).trans ((Below.heap_setCell W ⟨w.heap.size + 1 + 1 + 1, 0, none⟩ (.slice As s'.length cs) D (by show D ≠ w.heap.size + 1 + 1 + 1; omega)).trans hW)
          generalize ((W.setCell ⟨w.heap.size + 1 + 1 + 1, 0, none⟩ (.slice As s'.length cs)).setCell ⟨w.heap.size + 1 + 1 + 1, 1, none⟩ (.slice A k cc)) = X at hX hXr hXo hXb hXD ⊢
          have hno : ∀ r, (some D : Option Nat) = some r → ∃ o : Obj, X.heap[r]? = some o ∧ o.isCells = false := fun r e => by cases e; exact ⟨_, hXD, rfl⟩
          refine ⟨by simp, .inl ⟨_, _, rfl, run_takeDeferred hXD, ?_⟩⟩
          refine ⟨_, results_ct rfl _ _ (w.heap.size + 1 + 1 + 1) 26 #[.slice As s'.length cs, .slice A k cc] (0, 0) _ rfl ((World.putObj_heap_other (by omega)).trans hX) huG rfl (by kernel_rfl), _, _, rfl, ?_, ?_, ?_⟩
          · exact Kd.R_mono (R_own hXr (grownBy_putObj' _ D _) hno) (fun _ _ => trivial)
          · rw [show (prod s').toNat = k by have := HN.out.2.1; omega]
            exact Kd.R_mono (R_own hXo (grownBy_putObj' _ D _) hno) (fun _ _ => trivial)
          · exact hXb.grown (grownBy_putObj' _ D _) hXb.size (fun b e => by cases e; omega)
        case stop =>
          rintro D c k W _ _ h _
          exact h.elim
      · rw [if_neg e2] at h'
        injection h' with q1 q2
        injection q2 with q2 q3
        subst q1 q2 q3
        have e2b : (e0 != 0) = true := bne_iff_ne.2 e2
        clear e2
        gi_wp2_with (first
          | (refine ⟨trivial, ?_⟩; gi_at_call 13; refine (callsIn_wide.2 (tensor_Grid_fix_F_Right.calls KR2 B0 d0 m0 B1 d1 m1 true _ (Kd.C_below HR.out.2.2.2.2.1 H1.out.below) HR.out.2.2.2.2.2.1 (Kd.C_below HR.out.2.2.2.2.2.2.1 H1.out.below) HR.out.2.2.2.2.2.2.2 HKR.out.2.1)).mono ?_; rintro e w2 ⟨rfl, hb2⟩; have H2 := Aside0.mk (H1.out.step hb2); clear x0 x1 y0 y1 z0 q0 q1 f0 f1; have x0 := blk_cell H2.out.ba 0; have x1 := blk_cell H2.out.ba 1; have y0 := blk_cell H2.out.bb 0; have y1 := blk_cell H2.out.bb 1; have z0 := H2.out.bs.cell; have q0 := blk_cell H2.out.br 0; have q1 := blk_cell H2.out.br 1; have f0 := blk_frozen H2.out.br 0; have f1 := blk_frozen H2.out.br 1; clear hb2)
          | (refine ⟨trivial, ?_⟩; gi_at_call 13; refine (callsIn_wide.2 (tensor_Grid_fix_F_Right.calls KR A0 c0 l0 A1 c1 l1 true _ (Kd.C_below HR.out.1 H0.out.below) HR.out.2.1 (Kd.C_below HR.out.2.2.1 H0.out.below) HR.out.2.2.2.1 HKR.out.1)).mono ?_; rintro e w1 ⟨rfl, hb1⟩; have H1 := Aside0.mk (H0.out.step hb1); have x0 := blk_cell H1.out.ba 0; have x1 := blk_cell H1.out.ba 1; have y0 := blk_cell H1.out.bb 0; have y1 := blk_cell H1.out.bb 1; have z0 := H1.out.bs.cell; have q0 := blk_cell H1.out.br 0; have q1 := blk_cell H1.out.br 1; have f0 := blk_frozen H1.out.br 0; have f1 := blk_frozen H1.out.br 1; clear hb1)
          | (refine ⟨trivial, ?_⟩; gi_at_call 34; refine (callsIn_wide.2 (shape_Shape_Join.calls KC A0 c0 l0 B0 d0 m0 side s' e0 _ (Kd.C_below HR.out.1 H2.out.below) HR.out.2.1 (Kd.C_below HR.out.2.2.2.2.1 H2.out.below) HR.out.2.2.2.2.2.1 HKR.out.2.2)).mono ?_; rintro e w3 ⟨v3, rfl, hR3, hb3⟩; obtain ⟨As, cs, rfl⟩ := Kd.R_slice hR3; have H3 := Aside0.mk (H2.out.step hb3); have HR2 := Aside0.mk (And.intro hR3 (And.intro hb3.size H2.out.br)); clear x0 x1 y0 y1 z0 q0 q1 f0 f1; have x0 := blk_cell H3.out.ba 0; have x1 := blk_cell H3.out.ba 1; have y0 := blk_cell H3.out.bb 0; have y1 := blk_cell H3.out.bb 1; have z0 := H3.out.bs.cell; have q0 := blk_cell H3.out.br 0; have q1 := blk_cell H3.out.br 1; have f0 := blk_frozen H3.out.br 0; have f1 := blk_frozen H3.out.br 1; clear hb3 hR3))
        have hE := end_no H3.out
        exact ⟨_, results_ct rfl _ _ (w.heap.size + 1 + 1 + 1) 26 #[.slice none 0 0, .slice none 0 0] (0, 0) _ rfl hE.1 huG rfl (by kernel_rfl), _, _, rfl, Kd.R_nil _ _ _ _ _, Kd.R_nil _ _ _ _ _, hE.2⟩
    · rw [show rightT m0 m1 = false by simpa using e1'] at hKR2
      have e3 : joinT l0 l1 m0 m1 side = ([], [], 20) := by unfold joinT; rw [if_neg (by rw [e1, show rightT m0 m1 = false by simpa using e1']; simp)]
      rw [e3] at h'
      injection h' with q1 q2
      injection q2 with q2 q3
      subst q1 q2 q3
      have HKR := Aside0.mk (And.intro hKR (And.intro hKR2 trivial))
      clear hKR hKR2 hKC e1 e1' e3
      gi_wp2_with (first
        | (refine ⟨trivial, ?_⟩; gi_at_call 13; refine (callsIn_wide.2 (tensor_Grid_fix_F_Right.calls KR2 B0 d0 m0 B1 d1 m1 false _ (Kd.C_below HR.out.2.2.2.2.1 H1.out.below) HR.out.2.2.2.2.2.1 (Kd.C_below HR.out.2.2.2.2.2.2.1 H1.out.below) HR.out.2.2.2.2.2.2.2 HKR.out.2.1)).mono ?_; rintro e w2 ⟨rfl, hb2⟩; have H2 := Aside0.mk (H1.out.step hb2); clear x0 x1 y0 y1 z0 q0 q1 f0 f1; have x0 := blk_cell H2.out.ba 0; have x1 := blk_cell H2.out.ba 1; have y0 := blk_cell H2.out.bb 0; have y1 := blk_cell H2.out.bb 1; have z0 := H2.out.bs.cell; have q0 := blk_cell H2.out.br 0; have q1 := blk_cell H2.out.br 1; have f0 := blk_frozen H2.out.br 0; have f1 := blk_frozen H2.out.br 1; clear hb2)
        | (refine ⟨trivial, ?_⟩; gi_at_call 13; refine (callsIn_wide.2 (tensor_Grid_fix_F_Right.calls KR A0 c0 l0 A1 c1 l1 true _ (Kd.C_below HR.out.1 H0.out.below) HR.out.2.1 (Kd.C_below HR.out.2.2.1 H0.out.below) HR.out.2.2.2.1 HKR.out.1)).mono ?_; rintro e w1 ⟨rfl, hb1⟩; have H1 := Aside0.mk (H0.out.step hb1); have x0 := blk_cell H1.out.ba 0; have x1 := blk_cell H1.out.ba 1; have y0 := blk_cell H1.out.bb 0; have y1 := blk_cell H1.out.bb 1; have z0 := H1.out.bs.cell; have q0 := blk_cell H1.out.br 0; have q1 := blk_cell H1.out.br 1; have f0 := blk_frozen H1.out.br 0; have f1 := blk_frozen H1.out.br 1; clear hb1))
      have hE := end_no H2.out
      exact ⟨_, results_ct rfl _ _ (w.heap.size + 1 + 1 + 1) 26 #[.slice none 0 0, .slice none 0 0] (0, 0) _ rfl hE.1 huG rfl (by kernel_rfl), _, _, rfl, Kd.R_nil _ _ _ _ _, Kd.R_nil _ _ _ _ _, hE.2⟩
  · rw [show rightT l0 l1 = false by simpa using e1] at hKR
    have e3 : joinT l0 l1 m0 m1 side = ([], [], 20) := by unfold joinT; rw [if_neg (by rw [show rightT l0 l1 = false by simpa using e1]; simp)]
    rw [e3] at h'
    injection h' with q1 q2
    injection q2 with q2 q3
    subst q1 q2 q3
    have HKR := Aside0.mk (And.intro hKR trivial)
    clear hKR hKR2 hKC e1 e3
    gi_wp2_with (first
      | (refine ⟨trivial, ?_⟩; gi_at_call 13; refine (callsIn_wide.2 (tensor_Grid_fix_F_Right.calls KR A0 c0 l0 A1 c1 l1 false _ (Kd.C_below HR.out.1 H0.out.below) HR.out.2.1 (Kd.C_below HR.out.2.2.1 H0.out.below) HR.out.2.2.2.1 HKR.out.1)).mono ?_; rintro e w1 ⟨rfl, hb1⟩; have H1 := Aside0.mk (H0.out.step hb1); have x0 := blk_cell H1.out.ba 0; have x1 := blk_cell H1.out.ba 1; have y0 := blk_cell H1.out.bb 0; have y1 := blk_cell H1.out.bb 1; have z0 := H1.out.bs.cell; have q0 := blk_cell H1.out.br 0; have q1 := blk_cell H1.out.br 1; have f0 := blk_frozen H1.out.br 0; have f1 := blk_frozen H1.out.br 1; clear hb1)
      | (refine ⟨trivial, ?_⟩))
    have hE := end_no H1.out
    exact ⟨_, results_ct rfl _ _ (w.heap.size + 1 + 1 + 1) 26 #[.slice none 0 0, .slice none 0 0] (0, 0) _ rfl hE.1 huG rfl (by kernel_rfl), _, _, rfl, Kd.R_nil _ _ _ _ _, Kd.R_nil _ _ _ _ _, hE.2⟩
end Go.Proofs.Ytmekcfmhaflghaa.JoinW
