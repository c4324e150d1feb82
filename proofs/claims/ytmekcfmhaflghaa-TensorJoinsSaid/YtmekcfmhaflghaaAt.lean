/- What shape.At answers: the indices of a place, from the last side on. Conditions: at most four sides from 1 to 1024. -/
import Derived.Test.YtmekcfmhaflghaaPJoix2
import Derived.Test.YtmekcfmhaflghaaAidRound
import Derived.Lib.Hide
set_option linter.unusedVariables false
set_option linter.unusedSimpArgs false
namespace Go.Proofs.Ytmekcfmhaflghaa.AtW
open Go.RowKit Go.Shelf Go.Proofs Go.Proofs.Ytmekcfmhaflghaa.PJoi Go.Proofs.Ytmekcfmhaflghaa.AidRound Go.Proofs.YtmekcfmhaflghaaW.PrintWords Go.Proofs.YtmekcfmhaflghaaW.PrintLast Go.Proofs.YtmekcfmhaflghaaW.PrintMore
attribute [local go_sem] Oper.semAt_some
/-- What a round keeps: all below n₀ but what M names. -/
def KpM (n₀ : Nat) (M : Nat → Prop) (W W' : World) : Prop := W.heap.size ≤ W'.heap.size ∧ ∀ b, b < n₀ → ¬ M b → W'.heap[b]? = W.heap[b]?
theorem KpM.refl (n₀ : Nat) (M : Nat → Prop) (W : World) : KpM n₀ M W W := ⟨Nat.le_refl _, fun _ _ _ => rfl⟩
theorem KpM.trans {n₀ : Nat} {M : Nat → Prop} {A B C : World} (h : KpM n₀ M A B) (k : KpM n₀ M B C) : KpM n₀ M A C := ⟨Nat.le_trans h.1 k.1, fun b h1 h2 => (k.2 b h1 h2).trans (h.2 b h1 h2)⟩
theorem KpM.cell {n₀ : Nat} {M : Nat → Prop} {A B : World} (h : KpM n₀ M A B) {p : Addr} (h1 : p.block < n₀) (h2 : ¬ M p.block) : B.cell? p = A.cell? p := by
  unfold World.cell?; rw [h.2 _ h1 h2]
set_option maxHeartbeats 1000000 in
theorem back_any (A : Option Addr) (len cap : Nat) (w : World) :
    Calls Try.prog 72 #[.slice A len cap] w fun e w' => e = .returned (.func (.func 77) #[] #[.pointer (some ⟨w.heap.size, 0, none⟩)]) ∧ w.alloc (.cells #[.slice A len cap] 23) = w' := by
  go_enter Try.func72, Try.ntmps72
  go_wp2
  go_ret
  exact ⟨rfl, rfl⟩
/-- What is yielded in round x: the place from behind, and its side. -/
def encs (l : List Int) (x : Nat) : Array Value := #[.int .i64 ((l.length - 1 - x : Nat) : Int), .int .i64 (rd l ((l.length - 1 - x : Nat) : Int))]
set_option maxRecDepth 100000 in
set_option maxHeartbeats 4000000 in
theorem back1_in (n : Nat) (hn : 1 ≤ n) (lp Bs n₀ : Nat) (M : Nat → Prop) (A : Option Addr) (cap : Nat) (l : List Int) (hlen : l.length ≤ 4) (hcap : l.length ≤ cap) (hB0 : Bs < n₀) (hB1 : ¬ M Bs) (hA : ∀ W' W'' : World, KpM n₀ M W' W'' → (Kd.int .i64).C W' A l.length l → (Kd.int .i64).C W'' A l.length l) (J Jx : List Nat → World → Prop)
    (hY : ∀ pre x W, J pre W → pre.length < l.length → YieldAt Fence.wide (n - 1) Try.prog lp (encs l x) W fun e W' =>
      (e = .returned (.bool true) ∧ J (pre ++ [x]) W' ∧ KpM n₀ M W W') ∨ (e = .returned (.bool false) ∧ Jx (pre ++ [x]) W'))
    (W : World) (hBs : W.cell? ⟨Bs, 0, none⟩ = some (.slice A l.length cap)) (hC : (Kd.int .i64).C W A l.length l) (h0 : J [] W) :
    CallsIn Fence.wide n Try.prog 77 #[.func (.yield lp) #[] #[], .pointer (some ⟨Bs, 0, none⟩)] W fun e W' => (∃ v, e = .returned v) ∧
      ((∃ ys, ys = List.range l.length ∧ J ys W') ∨ (∃ pre, True ∧ Jx pre W')) := by
  refine callsIn_of_wp Try.func77 rfl trivial ?_ rfl
  simp only [Try.ntmps77, List.size_toArray, List.length_cons, List.length_nil, Nat.reduceAdd, Nat.reduceSub, Array.replicate_succ, Array.replicate_zero, List.push_toArray, List.append_toArray, List.nil_append, List.cons_append]
  have e0 : wrap64 ((l.length : Int) - 1) = (l.length : Int) - 1 := by unfold wrap64; omega
  gi_wp2
  gi_loopw [3] (fun i wr => ∃ k : Nat, Aside0 (k ≤ l.length) ∧ i = .int .i64 ((l.length : Int) - 1 - k) ∧ J (List.range k) wr ∧ KpM n₀ M W wr)
    (fun i _ => (intOf i + 1).toNat)
  case atStart => exact ⟨0, ⟨Nat.zero_le _⟩, by simp [e0], h0, KpM.refl _ _ _⟩
  case round =>
    obtain ⟨k, HK, rfl, hJs, hnx⟩ := hrel
    have hb1 : wr.cell? ⟨Bs, 0, none⟩ = some (.slice A l.length cap) := (hnx.cell (p := ⟨Bs, 0, none⟩) hB0 hB1).trans hBs
    have hC1 := hA _ _ hnx hC
    clear hBs h0
    by_cases hlt : k < l.length
    · obtain ⟨m, hm⟩ : ∃ m, m = l.length - 1 - k := ⟨_, rfl⟩
      have hmi : (l.length : Int) - 1 - k = (m : Int) := by omega
      rw [hmi]
      have HM := Aside0.mk hm
      have ci : (m : Int) < (l.length : Int) := by omega
      have p0 : (0 : Int) ≤ (m : Int) := by omega
      obtain ⟨ad, eA, hx⟩ := Kd.at_int hC1 (m : Int) p0 ci
      cases eA
      rw [Int.toNat_natCast] at hx
      have cb : decide ((0 : Int) ≤ (m : Int)) = true := decide_eq_true p0
      have E9 := Aside0.mk (show wrap64 ((m : Int) - 1) = (m : Int) - 1 by unfold wrap64; omega)
      have hy0 := hY (List.range k) k wr hJs (by rw [List.length_range]; exact hlt)
      unfold encs at hy0
      rw [← hm] at hy0
      obtain ⟨fn, tmps, assign, body, hy, hR⟩ := hy0
      clear hC hC1 hmi hm
      replace ci := eq_true ci
      replace p0 := eq_true p0
      gi_wp2
      refine hR.mono ?_
      rintro e W3 (⟨rfl, hJ3, hk3⟩ | ⟨rfl, hJx3⟩)
      · clear hb1 hx
        gi_wp2
        go_roundw
        case rel =>
          refine ⟨k + 1, ⟨by omega⟩, ?_, by rw [List.range_succ]; exact hJ3, hnx.trans hk3⟩
          have h1 := E9.out
          have h2 := HM.out
          rw [h1]
          congr 1
          omega
        case measure => have h1 := E9.out; simp only [intOf]; rw [h1]; omega
      · gi_wp2
        refine bodyPost_ret (results_none rfl _ _ _) rfl ?_
        exact ⟨⟨_, rfl⟩, .inr ⟨_, trivial, hJx3⟩⟩
    · have hk : k = l.length := by have := HK.out; omega
      have hc : decide (0 ≤ (l.length : Int) - 1 - k) = false := decide_eq_false (by omega)
      gi_wp2
      go_end0
      exact ⟨⟨_, rfl⟩, .inl ⟨_, congrArg List.range hk, hJs⟩⟩
theorem keepC {w : World} {A : Option Addr} {l : List Int} (h0 : (Kd.int .i64).C w A l.length l) {n₀ : Nat} {M : Nat → Prop} (hn : w.heap.size ≤ n₀) (hM : ∀ b, M b → w.heap.size ≤ b) (W' W'' : World) (hk : KpM n₀ M W' W'') (h : (Kd.int .i64).C W' A l.length l) : (Kd.int .i64).C W'' A l.length l := by
  refine ⟨rfl, h.2.1, fun hp => ?_⟩
  obtain ⟨ad, e, hc⟩ := h.2.2 hp
  obtain ⟨ad0, e0, hc0⟩ := h0.2.2 hp
  rw [e] at e0
  cases e0
  refine ⟨ad, e, fun j p hj => ?_⟩
  obtain ⟨c, h1, h2, h3⟩ := hc j p hj
  obtain ⟨c', h1', h2', h3'⟩ := hc0 j p hj
  refine ⟨c, h1, h2, fun i u hu => ?_⟩
  have h4 := h3 i u hu
  have hi : i < c'.length := by rw [h1', ← h1]; exact (List.getElem?_eq_some_iff.1 hu).1
  have h5 := World.block_lt_of_cell? w _ (h3' i _ (List.getElem?_eq_getElem hi))
  rw [← h4]
  exact hk.cell (by omega) (fun hm => by have := hM _ hm; omega)
theorem back_stops (n : Nat) (hn : 1 ≤ n) (Bs n₀ : Nat) (M : Nat → Prop) (A : Option Addr) (cap : Nat) (l : List Int) (hlen : l.length ≤ 4) (hcap : l.length ≤ cap) (hB0 : Bs < n₀) (hB1 : ¬ M Bs) (w0 : World) (hw0 : w0.heap.size ≤ n₀) (hM : ∀ b, M b → w0.heap.size ≤ b) (hC0 : (Kd.int .i64).C w0 A l.length l)
    (w : World) (hw : n₀ ≤ w.heap.size) (hb : Below w0.heap.size w0 w) (hBs : w.cell? ⟨Bs, 0, none⟩ = some (.slice A l.length cap)) :
    SeqStopsK Fence.wide n Try.prog 77 #[.pointer (some ⟨Bs, 0, none⟩)] (encs l) (KpM n₀ M) (fun ys => ys = List.range l.length) (fun _ => True) l.length w := fun lp J Jx W hW hJ _ hY h0 => by
  have h1 := (hW.cell (p := ⟨Bs, 0, none⟩) (show Bs < w.heap.size by omega)).trans hBs
  have h2 := Kd.C_below hC0 (hb.trans (hW.mono hb.size))
  exact back1_in n hn lp Bs n₀ M A cap l hlen hcap hB0 hB1 (keepC hC0 hw0 hM) J Jx hY W h1 h2 h0
def AtPost (w : World) (r : List Int) (e : Ending) (w' : World) : Prop :=
  ∃ v : Value, e = .returned (.tuple #[v, .int .i64 0]) ∧ Kd.R (Kd.int .i64) 3 w' w.heap.size (fun _ => True) v r ∧ Below w.heap.size w w'
def step (l0 : List Int) (st : List Int × Int) (x : Nat) : List Int × Int := (st.1.set (l0.length - 1 - x) (Int.tmod st.2 (rd l0 ((l0.length - 1 - x : Nat) : Int))), wrap64 (Int.tdiv st.2 (rd l0 ((l0.length - 1 - x : Nat) : Int))))
def st (l : List Int) (a : Int) (pre : List Nat) : List Int × Int := pre.foldl (step l) (List.replicate l.length 0, a)
theorem make_run (m : Nat) (hm : m ≤ 4) (W : World) : (Instr.makeSlice 22 (.int .i64 (m : Int)) (.int .i64 (m : Int))).run Try.prog W = .ok (.slice (some ⟨W.heap.size, 0, none⟩) m m) (W.alloc (.cells (madeCells (Value.int .i64 0).cells (m * 1)) 3)) := by
  obtain ⟨i0, hi, hzz⟩ := Option.map_eq_some_iff.1 info3
  simp only [Prod.mk.injEq] at hzz
  obtain ⟨hz0, hz1, hz2⟩ := hzz
  have hr := run_make (P := Try.prog) W 22 3 i0 (.int .i64 0) Try.underlying22 hi hz0 .i64 .i64 (m : Int) (m : Int) (by omega) (by omega) (by rw [hz2]; omega) (by omega)
  simp only [Int.toNat_natCast] at hr
  rw [hz1] at hr
  exact hr
theorem made_R (m : Nat) (hm : m ≤ 4) (W : World) (base : Nat) (hb : base ≤ W.heap.size) : Kd.R (Kd.int .i64) 3 (W.alloc (.cells (madeCells #[Value.int .i64 0] m) 3)) base (fun k => k = W.heap.size) (.slice (some ⟨W.heap.size, 0, none⟩) m m) (List.replicate m 0) := by
  have hrep := Kd.reps_made (R := (Kd.int .i64).M (W.alloc (.cells (madeCells #[Value.int .i64 0] m) 3)) base (fun k => k = W.heap.size ∧ some k ≠ (Value.slice (some ⟨W.heap.size, 0, none⟩) m m).ownBlock)) (z := Value.int .i64 0) (size := 1) (z0 := (0 : Int)) rfl (by decide) rfl m
  rw [Nat.mul_one] at hrep
  refine ⟨fun k hk => ?_, (madeCells #[Value.int .i64 0] m).toList, ?_, hrep⟩
  · simpa [Value.ownBlock] using hk.symm
  · have h2 := World.ownsRow_lit (base := base) (e := 3) (size := 1) W (madeCells #[Value.int .i64 0] m) m hb (by simp [maxLen]; omega) (by simp [size_madeCells])
    rw [List.length_replicate]
    exact h2
theorem cells_kept {W W' : World} {row : Option Nat} (hg : W.grownBy W' row) (hr : ∀ r, row = some r → ∃ o : Obj, W.heap[r]? = some o ∧ o.isCells = false) {k : Nat} {cells : Array Value} {t : TypeId} {fr : Nat × Nat} (h : W.heap[k]? = some (.cells cells t fr)) : W'.heap[k]? = W.heap[k]? := by
  refine hg.block k (Array.getElem?_eq_some_iff.1 h).1 (fun e => ?_)
  obtain ⟨o, ho, hc⟩ := hr k e.symm
  rw [h] at ho; cases ho; cases hc
/-- The row of the answer. -/
def row (w : World) (l : List Int) : Value := .slice (some ⟨w.heap.size + 1, 0, none⟩) l.length l.length
def Inv (w : World) (l : List Int) (a : Int) (pre : List Nat) (W : World) : Prop :=
  Boxed W (w.heap.size + 1 + 1) 22 (row w l) ∧ Kd.R (Kd.int .i64) 3 W w.heap.size (fun k => k = w.heap.size + 1) (row w l) (st l a pre).1 ∧ Boxed W w.heap.size 3 (.int .i64 (st l a pre).2) ∧ Below w.heap.size w W ∧ w.heap.size + 4 ≤ W.heap.size ∧ 0 ≤ (st l a pre).2 ∧ (st l a pre).2 ≤ 9223372036854775807
theorem inv_own (w : World) (l : List Int) (a : Int) (B : Nat) (hB : w.heap.size ≤ B) : OwnFrom B (Inv w l a) := by
  rintro pre W W' rw_ ⟨h1, h2, h3, h4, h5, h6⟩ hg hr
  have hk := fun r e => (hr r e).2
  refine ⟨(cells_kept hg hk h1).trans h1, ?_, (cells_kept hg hk h3).trans h3, h4.grown hg h4.size (fun k e => Nat.le_trans hB (hr k e).1), Nat.le_trans h5 hg.size, h6⟩
  refine Kd.R_mono (Kd.R_move (Kd.R_bound h2) (fun k hk' => ?_)) (fun _ hk' => hk'.1)
  obtain ⟨_, _, _, q, _, cells, hc⟩ := hk'
  exact cells_kept hg hk hc
theorem boxed_at {W W' : World} {B : Nat} {t : TypeId} {v : Value} (h : Boxed W B t v) (hb : Below W.heap.size W W') : Boxed W' B t v := (hb.block B h.lt).trans h
theorem st_snoc (l : List Int) (a : Int) (pre : List Nat) (x : Nat) : st l a (pre ++ [x]) = step l (st l a pre) x := by simp [st]
theorem step_length (l : List Int) : ∀ (pre : List Nat) (s : List Int × Int), (pre.foldl (step l) s).1.length = s.1.length := by
  intro pre
  induction pre with
  | nil => intro s; rfl
  | cons x t ih => intro s; rw [List.foldl_cons, ih]; simp [step]
theorem st_length (l : List Int) (a : Int) (pre : List Nat) : (st l a pre).1.length = l.length := by
  unfold st; rw [step_length]; simp
/-- How a round ends. -/
theorem round_end {w W : World} {l : List Int} {a : Int} {pre : List Nat} {x m : Nat} {r s : Int} (hI : Inv w l a pre W) (hm : l.length - 1 - x = m) (hr : (st l a pre).2 = r) (hs : rd l (m : Int) = s) (hs1 : 1 ≤ s) :
    KeepsFrom (w.heap.size + 4) W ((W.drew.setCell ⟨w.heap.size + 1, m, none⟩ (.int .i64 (Int.tmod r s))).setCell ⟨w.heap.size, 0, none⟩ (.int .i64 (wrap64 (Int.tdiv r s)))) ∧
      KpM (w.heap.size + 4) (fun b => b = w.heap.size ∨ b = w.heap.size + 1) W ((W.drew.setCell ⟨w.heap.size + 1, m, none⟩ (.int .i64 (Int.tmod r s))).setCell ⟨w.heap.size, 0, none⟩ (.int .i64 (wrap64 (Int.tdiv r s)))) ∧
      Inv w l a (pre ++ [x]) ((W.drew.setCell ⟨w.heap.size + 1, m, none⟩ (.int .i64 (Int.tmod r s))).setCell ⟨w.heap.size, 0, none⟩ (.int .i64 (wrap64 (Int.tdiv r s)))) := by
  obtain ⟨h1, h2, h3, h4, h5, h6, h7⟩ := hI
  have hset : ∀ k, k ≠ w.heap.size → k ≠ w.heap.size + 1 → ((W.drew.setCell ⟨w.heap.size + 1, m, none⟩ (.int .i64 (Int.tmod r s))).setCell ⟨w.heap.size, 0, none⟩ (.int .i64 (wrap64 (Int.tdiv r s)))).heap[k]? = W.heap[k]? := fun k hk hk' =>
    (Below.heap_setCell _ ⟨w.heap.size, 0, none⟩ _ k hk).trans (Below.heap_setCell W.drew ⟨w.heap.size + 1, m, none⟩ _ k hk')
  have hsz : ((W.drew.setCell ⟨w.heap.size + 1, m, none⟩ (.int .i64 (Int.tmod r s))).setCell ⟨w.heap.size, 0, none⟩ (.int .i64 (wrap64 (Int.tdiv r s)))).heap.size = W.heap.size := by first | (simp [World.setCell]; done) | (simp [World.setCell]; rfl)
  rw [hr] at h6 h7
  have ht : wrap64 (Int.tdiv r s) = Int.tdiv r s ∧ 0 ≤ Int.tdiv r s ∧ Int.tdiv r s ≤ r := by
    rw [Int.tdiv_eq_ediv_of_nonneg h6]
    have e1 := Int.ediv_nonneg h6 (show 0 ≤ s by omega)
    have e2 := Int.ediv_le_self s h6
    refine ⟨?_, e1, e2⟩
    unfold wrap64; omega
  refine ⟨⟨by rw [hsz]; exact Nat.le_refl _, fun k o hB hk ho => (hset k (by omega) (by omega)).trans hk⟩, ⟨by rw [hsz]; exact Nat.le_refl _, fun b hb hne => hset b (fun e => hne (.inl e)) (fun e => hne (.inr e))⟩, (hset _ (by omega) (by omega)).trans h1, ?_, ?_, ((h4.drew).setCell (by show w.heap.size ≤ w.heap.size + 1; omega) _).setCell (Nat.le_refl _) _, by rw [hsz]; exact h5, ?_, ?_⟩
  · rw [st_snoc]
    unfold step
    rw [hm, hs, hr]
    unfold row at h2 ⊢
    have hp := Kd.R_putn (Kd.R_drew h2) (m : Int) (Int.tmod r s)
    rw [Int.toNat_natCast] at hp
    exact Kd.R_far (p := ⟨w.heap.size, 0, none⟩) hp (fun k hk => by show k ≠ w.heap.size; omega) _
  · rw [st_snoc]
    unfold step
    rw [hm, hs, hr]
    refine Boxed.set (v := .int .i64 r) _ ?_
    rw [hr] at h3
    exact (Below.heap_setCell W.drew ⟨w.heap.size + 1, m, none⟩ _ _ (by show w.heap.size ≠ w.heap.size + 1; omega)).trans h3
  · rw [st_snoc]; unfold step; rw [hm, hs, hr]; show 0 ≤ wrap64 _; rw [ht.1]; exact ht.2.1
  · rw [st_snoc]; unfold step; rw [hm, hs, hr]; show wrap64 _ ≤ _; rw [ht.1]; have := ht.2.2; omega
set_option maxRecDepth 100000 in
set_option maxHeartbeats 4000000 in
theorem at_good (k : Nat) (A : Option Addr) (cap : Nat) (l : List Int) (a n : Int) (w : World) (hC : (Kd.int .i64).C w A l.length l) (hcap : l.length ≤ cap) (hS : shape_Shape_Size.f k l = some (n, 0)) (ha0 : 0 ≤ a) (ha1 : a < n) (hn64 : a ≤ 9223372036854775807) (hl : l.length ≤ 4) (hs : ∀ s ∈ l, 1 ≤ s ∧ s ≤ 1024) :
    Calls Try.prog 67 #[.slice A l.length cap, .int .i64 a] w (AtPost w (st l a (List.range l.length)).1) := by
  have hmx : Try.prog.follows .mixedOrders = true := by kernel_rfl
  have hd1 : decide (a < 0) = false := decide_eq_false (by omega)
  have hd2 : decide (n ≤ a) = false := decide_eq_false (by omega)
  have hd3 : decide (a ≥ n) = false := decide_eq_false (by omega)
  have hmk := make_run l.length hl
  refine (callsIn_wide (n := 4)).1 ?_
  refine callsIn_of_wp_marks Try.func67 rfl trivial ?_ rfl
  simp only [Try.ntmps67, List.size_toArray, List.length_cons, List.length_nil, Nat.reduceAdd, Nat.reduceSub, Array.replicate_succ, Array.replicate_zero, List.push_toArray, List.append_toArray, List.nil_append, List.cons_append]
  gi_wp2_with (first | (refine ⟨trivial, ?_⟩; gi_at_call 36; refine (callsIn_wide.2 (shape_Shape_Size.calls k A cap l n 0 _ (Kd.C_alloc hC _) hcap hS)).mono ?_; rintro e w' ⟨rfl, ⟨nd, rfl⟩⟩) | (refine ⟨trivial, ?_⟩; gi_at_call 72; refine (callsIn_wide.2 (back_any _ _ _ _)).mono ?_; rintro e w' ⟨rfl, rfl⟩))
  have hC4 : (((((w.alloc (.cells #[.int .i64 a] 3)).drewN nd).alloc (.cells (madeCells #[Value.int .i64 0] l.length) 3)).alloc (.cells #[.slice (some ⟨w.heap.size + 1, 0, none⟩) l.length l.length] 22)).alloc (.cells #[.slice A l.length cap] 23)).heap.size = w.heap.size + 4 := by simp
  have hB1 : Below w.heap.size w ((w.alloc (.cells #[.int .i64 a] 3)).drewN nd) := pw_below_drewN (below_alloc (Below.refl _ _) _) _
  have hB0 : Below w.heap.size w (((((w.alloc (.cells #[.int .i64 a] 3)).drewN nd).alloc (.cells (madeCells #[Value.int .i64 0] l.length) 3)).alloc (.cells #[.slice (some ⟨w.heap.size + 1, 0, none⟩) l.length l.length] 22)).alloc (.cells #[.slice A l.length cap] 23)) := below_alloc (below_alloc (below_alloc hB1 _) _) _
  have bP : Boxed (((((w.alloc (.cells #[.int .i64 a] 3)).drewN nd).alloc (.cells (madeCells #[Value.int .i64 0] l.length) 3)).alloc (.cells #[.slice (some ⟨w.heap.size + 1, 0, none⟩) l.length l.length] 22)).alloc (.cells #[.slice A l.length cap] 23)) w.heap.size 3 (.int .i64 a) := (((show Boxed ((w.alloc (.cells #[.int .i64 a] 3)).drewN nd) w.heap.size 3 (.int .i64 a) from Boxed.new w 3 (.int .i64 a)).alloc _).alloc _).alloc _
  have bO := (Boxed.new (((w.alloc (.cells #[.int .i64 a] 3)).drewN nd).alloc (.cells (madeCells #[Value.int .i64 0] l.length) 3)) 22 (.slice (some ⟨w.heap.size + 1, 0, none⟩) l.length l.length)).alloc (.cells #[.slice A l.length cap] 23)
  have bS := Boxed.new ((((w.alloc (.cells #[.int .i64 a] 3)).drewN nd).alloc (.cells (madeCells #[Value.int .i64 0] l.length) 3)).alloc (.cells #[.slice (some ⟨w.heap.size + 1, 0, none⟩) l.length l.length] 22)) 23 (.slice A l.length cap)
  have hR := Kd.R_alloc (Kd.R_alloc (made_R l.length hl ((w.alloc (.cells #[.int .i64 a] 3)).drewN nd) w.heap.size (below_size hB1)) (.cells #[.slice (some ⟨w.heap.size + 1, 0, none⟩) l.length l.length] 22)) (.cells #[.slice A l.length cap] 23)
  have hsz1 : ((w.alloc (.cells #[.int .i64 a] 3)).drewN nd).heap.size = w.heap.size + 1 := by simp
  rw [hsz1] at hR
  simp only [World.size_alloc, hsz1] at bO bS
  refine wpIn_rangeFunc_ownG (n := 4) (N := l.length) (S := fun ys => ys = List.range l.length) (Sp := fun _ => True) rfl (by omega) (gf := 77) (lb := #[.pointer (some ⟨w.heap.size + 1 + 1 + 1, 0, none⟩)]) rfl trivial (enters_of Try.func77 (by kernel_rfl) rfl)
    (back_stops (4 - 1) (by omega) (w.heap.size + 1 + 1 + 1) (w.heap.size + 4) (fun b => b = w.heap.size ∨ b = w.heap.size + 1) A cap l hl hcap (by omega) (by omega) w (by omega) (fun b hb => by omega) hC _ (by rw [hC4]; omega) hB0 bS.cell)
    (fun h k => KpM.trans h k) (fun W' l' o o' hl' _ _ _ => ⟨by simp, fun b hb _ => World.putObj_heap_other (by rw [hC4] at hl'; omega)⟩) (Below.refl _ _) (fun _ => rfl)
    (Inv w l a) (fun _ _ _ => False) (inv_own w l a _ (by rw [hC4]; omega)) (fun _ _ _ _ _ hs _ _ => hs)
    ⟨bO, hR, bP, hB0, by rw [hC4]; omega, ha0, by show a ≤ _; have := hn64; omega⟩
    (fun x => { tmps := #[.slice A l.length cap, .int .i64 a, undef, .pointer (some ⟨w.heap.size, 0, none⟩), .slice none 0 0, .int .i64 0, .int .i64 n, .int .i64 0, .pointer (some ⟨w.heap.size + 1 + 1, 0, none⟩), .int .i64 ((l.length - 1 - x : Nat) : Int), .int .i64 (rd l ((l.length - 1 - x : Nat) : Int)), .tuple #[.int .i64 n, .int .i64 0], .slice A l.length cap, .tuple #[.int .i64 n, .int .i64 0], .int .i64 n, .int .i64 0, .bool false, .int .i64 0, .bool false, undef, .bool false, .int .i64 a, .bool false, .bool false, .int .i64 a, .int .i64 n, .bool false, .bool false, .slice A l.length cap, .int .i64 (l.length : Int), .slice (some ⟨w.heap.size + 1, 0, none⟩) l.length l.length, .slice A l.length cap, .func (.func 77) #[] #[.pointer (some ⟨w.heap.size + 1 + 1 + 1, 0, none⟩)], .int .i64 ((l.length - 1 - x : Nat) : Int), .int .i64 (rd l ((l.length - 1 - x : Nat) : Int)), undef, undef, undef, undef, undef, undef, undef, undef, undef, undef], defers := [] }) ?assign ?body ?done ?stop
  case assign =>
    intro l' x W K hK
    unfold encs
    gi_wp2
    exact hK
  case body =>
    intro l' pre x W hI hlt
    have hI' := hI
    obtain ⟨hO, hRr, hP, hB, hsz, hr0, hr1⟩ := hI'
    rw [hC4]
    obtain ⟨m, hm⟩ : ∃ m, l.length - 1 - x = m := ⟨_, rfl⟩
    obtain ⟨r, hr⟩ : ∃ r, (st l a pre).2 = r := ⟨_, rfl⟩
    obtain ⟨s, hss⟩ : ∃ s, rd l (m : Int) = s := ⟨_, rfl⟩
    have hml : m < l.length := by omega
    have hs1 : 1 ≤ s ∧ s ≤ 1024 := by
      rw [← hss]
      simp only [rd, Int.toNat_natCast, List.getD_eq_getElem?_getD, List.getElem?_eq_getElem hml, Option.getD_some]
      exact hs _ (List.getElem_mem hml)
    rw [hm, hss]
    rw [hr] at hP
    have HRE := Aside0.mk (round_end (x := x) hI hm hr hss hs1.1)
    have HO := Aside0.mk hO
    have HP := Aside0.mk hP
    have HM := Aside0.mk hml
    have HS := Aside0.mk hs1
    have HSZ := Aside0.mk hsz
    have HRR := Aside0.mk hRr
    clear hI hO hRr hP hB hsz hr0 hr1 hlt hm hr hss hml hs1 hB0 hB1 bP bO bS hR hC4 hC hmk hS hs
    unfold row at HO
    gi_wp2
    refine start_round (n := 7) (S := fun w' => w'.cell? ⟨w.heap.size + 1 + 1, 0, none⟩ = some (.slice (some ⟨w.heap.size + 1, 0, none⟩) l.length l.length) ∧ w'.cell? ⟨w.heap.size, 0, none⟩ = some (.int .i64 r)) (ds := [6]) #[false, false, false, false, false, false, false] hmx rfl rfl (by rintro ⟨a, w', h⟩; exact h) (by kernel_rfl) ⟨HO.out.cell, HP.out.cell⟩ (fun hHeld => ?_)
    refine take_ (i := 0) (N := some 35) (v := ?_) (a' := ?_) #[true, false, false, false, false, false, false] rfl rfl (by kernel_rfl) (fun _ _ _ h => h) (Or.inl ⟨by rfl, ?_⟩) hHeld ?_ ?_
    rotate_left
    · rintro w' ⟨s0, s1⟩
      go_simp
      with_reducible rfl
    rotate_left
    · simp only [Act.put, List.setIfInBounds_toArray, List.set_cons_zero, List.set_cons_succ]
      rfl
    refine pure_ (i := 1) (N := some 36) (v := ?_) (a' := ?_) #[true, true, false, false, false, false, false] rfl rfl (by kernel_rfl) (fun _ _ _ h => h) (Or.inl ⟨by rfl, ?_⟩) ?_ ?_
    rotate_left
    · intro w'
      go_simp
      with_reducible rfl
    rotate_left
    · simp only [Act.put, List.setIfInBounds_toArray, List.set_cons_zero, List.set_cons_succ]
      rfl
    refine take_ (i := 2) (N := some 37) (v := ?_) (a' := ?_) #[true, true, true, false, false, false, false] rfl rfl (by kernel_rfl) (fun _ _ _ h => h) (Or.inl ⟨by rfl, ?_⟩) hHeld ?_ ?_
    rotate_left
    · rintro w' ⟨s0, s1⟩
      go_simp
      with_reducible rfl
    rotate_left
    · simp only [Act.put, List.setIfInBounds_toArray, List.set_cons_zero, List.set_cons_succ]
      rfl
    refine pure_ (i := 3) (N := some 38) (v := ?_) (a' := ?_) #[true, true, true, true, false, false, false] rfl rfl (by kernel_rfl) (fun _ _ _ h => h) (Or.inl ⟨by rfl, ?_⟩) ?_ ?_
    rotate_left
    · intro w'
      go_simp
      with_reducible rfl
    rotate_left
    · simp only [Act.put, List.setIfInBounds_toArray, List.set_cons_zero, List.set_cons_succ]
      rfl
    have hs0 : s ≠ 0 := by have := HS.out.1; omega
    have hs0b : (s == 0) = false := by rw [beq_eq_false_iff_ne]; exact hs0
    have hmi : (m : Int) < (l.length : Int) := by have := HM.out; omega
    have hmn : m < l.length := HM.out
    refine pure_ (i := 4) (N := some 39) (v := ?_) (a' := ?_) #[true, true, true, true, true, false, false] rfl rfl (by kernel_rfl) (fun _ _ _ h => h) (Or.inl ⟨by rfl, ?_⟩) ?_ ?_
    rotate_left
    · intro w'
      go_simp
      with_reducible rfl
    rotate_left
    · simp only [Act.put, List.setIfInBounds_toArray, List.set_cons_zero, List.set_cons_succ]
      rfl
    refine pure_ (i := 5) (N := some 40) (v := ?_) (a' := ?_) #[true, true, true, true, true, true, false] rfl rfl (by kernel_rfl) (fun _ _ _ h => h) (Or.inl ⟨by rfl, ?_⟩) ?_ ?_
    rotate_left
    · intro w'
      go_simp
      with_reducible rfl
    rotate_left
    · simp only [Act.put, List.setIfInBounds_toArray, List.set_cons_zero, List.set_cons_succ]
      rfl
    refine last_ (i := 6) (N := none) #[true, true, true, true, true, true, true] rfl rfl (by kernel_rfl) (by decide) (fun K hK => ?_)
    have hrr := HRR.out
    unfold row at hrr
    obtain ⟨hx0, hf0⟩ := Kd.R_celln 0 (Kd.R_drew hrr) (m : Int) (by omega) hmi
    rw [Int.toNat_natCast] at hx0 hf0
    refine skip_ (w1 := ?_) (by rfl) rfl ?_ ?_
    rotate_left
    · go_simp
      rfl
    refine hK.out _ _ ?_
    clear hK K
    refine done_ (by kernel_rfl) ?_
    have hp1 : (W.drew.setCell ⟨w.heap.size + 1, m, none⟩ (.int .i64 (Int.tmod r s))).cell? ⟨w.heap.size, 0, none⟩ = some (.int .i64 r) := by
      have h1 := HP.out.cell
      unfold World.cell? at h1 ⊢
      rw [Below.heap_setCell W.drew ⟨w.heap.size + 1, m, none⟩ _ _ (by show w.heap.size ≠ w.heap.size + 1; omega)]
      exact h1
    have hf1 : (W.drew.setCell ⟨w.heap.size + 1, m, none⟩ (.int .i64 (Int.tmod r s))).frozen? ⟨w.heap.size, 0, none⟩ = false := by
      have h1 := HP.out.frozen
      unfold World.frozen? at h1 ⊢
      rw [Below.heap_setCell W.drew ⟨w.heap.size + 1, m, none⟩ _ _ (by show w.heap.size ≠ w.heap.size + 1; omega)]
      exact h1
    clear hx0 hf0 hrr hHeld
    have hre := HRE.out
    rw [show (W.setCell ⟨w.heap.size + 1, m, none⟩ (.int .i64 (Int.tmod r s))).drew = W.drew.setCell ⟨w.heap.size + 1, m, none⟩ (.int .i64 (Int.tmod r s)) from by first | rfl | simp]
    generalize W.drew.setCell ⟨w.heap.size + 1, m, none⟩ (.int .i64 (Int.tmod r s)) = W1 at hp1 hf1 hre ⊢
    have HRE1 := Aside0.mk hre
    clear hre HRE
    gi_wp2
    exact HRE1.out
  case done =>
    rintro D ys W hD rfl ⟨h1, h2, h3, h4, h5, _⟩ hK
    have hc := h1.cell
    rw [hC4] at hD
    have HR := Aside0.mk h2
    have HB := Aside0.mk h4
    have HK := Aside0.mk hK
    have HD := Aside0.mk hD
    unfold row at hc
    clear h1 h2 h3 h4 hD hB0 hB1 bP bO bS hR hC hmk
    gi_wp2
    refine ⟨by simp, .inl ⟨_, _, rfl, run_takeDeferred HK.out, ?_⟩⟩
    refine ⟨_, results_tmp2 rfl _ _ _, row w l, rfl, ?_, ?_⟩
    · refine Kd.R_mono (Kd.R_move (Kd.R_bound HR.out) (fun k hk => ?_)) (fun _ _ => trivial)
      obtain ⟨_, _, _, q, _, cells, hcc⟩ := hk
      refine World.putObj_heap_other (fun e => ?_)
      subst e
      rw [HK.out] at hcc; cases hcc
    · exact HB.out.trans (belowK_b (w := w) (Nat.le_refl _) W D _ _ (by have := HD.out; omega) HK.out rfl rfl)
  case stop =>
    rintro D c pre W _ _ h _
    exact h.elim
set_option maxRecDepth 100000 in
set_option maxHeartbeats 4000000 in
theorem at_err (k : Nat) (A : Option Addr) (cap : Nat) (l : List Int) (a n e : Int) (w : World) (hC : (Kd.int .i64).C w A l.length l) (hcap : l.length ≤ cap) (hS : shape_Shape_Size.f k l = some (n, e)) (he : e ≠ 0) :
    Calls Try.prog 67 #[.slice A l.length cap, .int .i64 a] w fun e' w' => e' = .returned (.tuple #[.slice none 0 0, .int .i64 e]) ∧ Below w.heap.size w w' := by
  have c0 : (e != 0) = true := bne_iff_ne.2 he
  go_enter Try.func67, Try.ntmps67
  go_wp2_with ((go_at_call 36; refine (shape_Shape_Size.calls k A cap l n e _ (by first | exact hC | exact Kd.C_alloc hC _) hcap hS).mono ?_; rintro e_ w_ ⟨rfl, ⟨nd, rfl⟩⟩))
  refine bodyPost_ret (results_tmp2 rfl _ _ _) rfl ?_
  exact ⟨rfl, by repeat (first | (with_reducible first | exact Below.refl _ _ | apply below_alloc | apply pw_below_drewN | apply below_drew1) | exact Below.refl _ _)⟩
set_option maxRecDepth 100000 in
set_option maxHeartbeats 4000000 in
theorem at_less (k : Nat) (A : Option Addr) (cap : Nat) (l : List Int) (a n e : Int) (w : World) (hC : (Kd.int .i64).C w A l.length l) (hcap : l.length ≤ cap) (hS : shape_Shape_Size.f k l = some (n, e)) (he : e = 0) (ha : a < 0) :
    Calls Try.prog 67 #[.slice A l.length cap, .int .i64 a] w fun e' w' => e' = .returned (.tuple #[.slice none 0 0, .int .i64 11]) ∧ Below w.heap.size w w' := by
  have c0 : (e != 0) = false := by rw [bne_eq_false_iff_eq]; exact he
  have c1 : decide (a < 0) = true := decide_eq_true ha
  go_enter Try.func67, Try.ntmps67
  go_wp2_with ((go_at_call 36; refine (shape_Shape_Size.calls k A cap l n e _ (by first | exact hC | exact Kd.C_alloc hC _) hcap hS).mono ?_; rintro e_ w_ ⟨rfl, ⟨nd, rfl⟩⟩))
  refine bodyPost_ret (results_tmp2 rfl _ _ _) rfl ?_
  exact ⟨rfl, by repeat (first | (with_reducible first | exact Below.refl _ _ | apply below_alloc | apply pw_below_drewN | apply below_drew1) | exact Below.refl _ _)⟩
set_option maxRecDepth 100000 in
set_option maxHeartbeats 4000000 in
theorem at_more (k : Nat) (A : Option Addr) (cap : Nat) (l : List Int) (a n e : Int) (w : World) (hC : (Kd.int .i64).C w A l.length l) (hcap : l.length ≤ cap) (hS : shape_Shape_Size.f k l = some (n, e)) (he : e = 0) (ha : ¬ a < 0) (hn : n ≤ a) :
    Calls Try.prog 67 #[.slice A l.length cap, .int .i64 a] w fun e' w' => e' = .returned (.tuple #[.slice none 0 0, .int .i64 11]) ∧ Below w.heap.size w w' := by
  have c0 : (e != 0) = false := by rw [bne_eq_false_iff_eq]; exact he
  have c1 : decide (a < 0) = false := decide_eq_false ha
  have c2 : decide (n ≤ a) = true := decide_eq_true hn
  go_enter Try.func67, Try.ntmps67
  go_wp2_with ((go_at_call 36; refine (shape_Shape_Size.calls k A cap l n e _ (by first | exact hC | exact Kd.C_alloc hC _) hcap hS).mono ?_; rintro e_ w_ ⟨rfl, ⟨nd, rfl⟩⟩))
  refine bodyPost_ret (results_tmp2 rfl _ _ _) rfl ?_
  exact ⟨rfl, by repeat (first | (with_reducible first | exact Below.refl _ _ | apply below_alloc | apply pw_below_drewN | apply below_drew1) | exact Below.refl _ _)⟩
def f (k : Nat) (l0 : List Int) (a1 : Int) : Option (List Int × Int) := (shape_Shape_Size.f k l0).bind fun t => if t.2 = 0 then (if a1 < 0 then some ([], 11) else (if t.1 ≤ a1 then some ([], 11) else (if l0.length ≤ 4 ∧ (∀ s ∈ l0, 1 ≤ s ∧ s ≤ 1024) ∧ t.1 ≤ 65536 then some ((st l0 a1 (List.range l0.length)).1, 0) else none))) else some ([], t.2)
theorem mono : ∀ a0 a1 k, LeO (f k a0 a1) (f (k + 1) a0 a1) := by
  intro a0 a1 k r h
  unfold f at h ⊢
  obtain ⟨t, h1, h2⟩ := Option.bind_eq_some_iff.1 h
  exact Option.bind_eq_some_iff.2 ⟨t, shape_Shape_Size.mono _ _ _ h1, h2⟩
theorem calls (k : Nat) (A0 : Option Addr) (c0 : Nat) (l0 : List Int) (a1 : Int) (r1 : List Int) (r2 : Int) (w : World) (hr0 : Kd.C (Kd.int .i64) w A0 l0.length l0) (hc0 : l0.length ≤ c0) (h : f k l0 a1 = some (r1, r2)) :
    Calls Try.prog 67 #[.slice A0 l0.length c0, .int .i64 a1] w fun e w' => ∃ v0_ : Value, e = .returned (.tuple #[v0_, .int .i64 r2]) ∧ Kd.R (Kd.int .i64) 3 w' w.heap.size (fun _ => True) v0_ r1 ∧ Below w.heap.size w w' := by
  unfold f at h
  obtain ⟨⟨n, e⟩, h1, h2⟩ := Option.bind_eq_some_iff.1 h
  have nil : ∀ {x : Int}, (Calls Try.prog 67 #[.slice A0 l0.length c0, .int .i64 a1] w fun e' w' => e' = .returned (.tuple #[.slice none 0 0, .int .i64 x]) ∧ Below w.heap.size w w') → Calls Try.prog 67 #[.slice A0 l0.length c0, .int .i64 a1] w fun e w' => ∃ v0_ : Value, e = .returned (.tuple #[v0_, .int .i64 x]) ∧ Kd.R (Kd.int .i64) 3 w' w.heap.size (fun _ => True) v0_ [] ∧ Below w.heap.size w w' := fun hx => by
    refine hx.mono ?_
    rintro e' w' ⟨rfl, hb⟩
    exact ⟨_, rfl, Kd.R_nil _ _ _ _ _, hb⟩
  by_cases he : e = 0
  · rw [if_pos he] at h2
    by_cases ha : a1 < 0
    · rw [if_pos ha] at h2
      cases h2
      exact nil (at_less k A0 c0 l0 a1 n e w hr0 hc0 h1 he ha)
    · rw [if_neg ha] at h2
      by_cases hn : n ≤ a1
      · rw [if_pos hn] at h2
        cases h2
        exact nil (at_more k A0 c0 l0 a1 n e w hr0 hc0 h1 he ha hn)
      · rw [if_neg hn] at h2
        by_cases hk : l0.length ≤ 4 ∧ (∀ s ∈ l0, 1 ≤ s ∧ s ≤ 1024) ∧ n ≤ 65536
        · rw [if_pos hk] at h2
          cases h2
          subst he
          refine (at_good k A0 c0 l0 a1 n w hr0 hc0 h1 (by omega) (by omega) (by omega) hk.1 hk.2.1).mono ?_
          rintro e' w' ⟨v, rfl, hr, hb⟩
          exact ⟨v, rfl, hr, hb⟩
        · rw [if_neg hk] at h2
          cases h2
  · rw [if_neg he] at h2
    cases h2
    exact nil (at_err k A0 c0 l0 a1 n e w hr0 hc0 h1 he)
end Go.Proofs.Ytmekcfmhaflghaa.AtW
