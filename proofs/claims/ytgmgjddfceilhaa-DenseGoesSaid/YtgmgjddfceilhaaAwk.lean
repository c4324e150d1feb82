/- The fixed answer of layer 6 is true: the walk, by hand. -/
import Derived.Test.YtgmgjddfceilhaaPDenx5
import Derived.Test.YtgmgjddfceilhaaPDenx7
import Derived.Test.YtgmgjddfceilhaaPDenx8
import Derived.RangeFuncBox
set_option linter.unusedVariables false
set_option linter.unusedSimpArgs false
namespace Go.Proofs.Ytgmgjddfceilhaa.Awk
open Go.RowKit Go.Shelf Go.Proofs Go.Proofs.Ytgmgjddfceilhaa.PDen Go.Proofs.YtgmgjddfceilhaaW.PrintWords Go.Proofs.YtgmgjddfceilhaaW.PrintLast Go.Proofs.YtgmgjddfceilhaaW.PrintMore Go.Proofs.Ytgmgjddfceilhaa.XW
attribute [local go_sem] max2_int min2_int max_two min_two max_three min_three max_four min_four max_five min_five
theorem lit_cell (w : World) (cs : Array Value) (t : Nat) (j : Nat) (v : Value) (h : cs[j]? = some v) : (w.alloc (.cells cs t)).cell? ((⟨w.heap.size, 0, none⟩ : Addr).add j) = some v := by
  have e : ((⟨w.heap.size, 0, none⟩ : Addr).add j) = ⟨w.heap.size, j, none⟩ := by unfold Addr.add; split <;> simp_all
  rw [e]
  unfold World.cell?
  rw [World.alloc_heap_new]
  exact h
theorem lit_C (w : World) (l : List Int) (t : Nat) (hl : l.length ≤ 9223372036854775807) : (Kd.int .i64).C (w.alloc (.cells (l.map (Value.int .i64)).toArray t)) (some ⟨w.heap.size, 0, none⟩) l.length l := by
  refine ⟨rfl, hl, fun _ => ⟨_, rfl, fun j p hp => ⟨[Value.int .i64 p], rfl, rfl, fun i u hu => ?_⟩⟩⟩
  cases i with
  | succ i => simp at hu
  | zero =>
    simp at hu; subst hu
    have := lit_cell w (l.map (Value.int .i64)).toArray t j (.int .i64 p) (by simp [hp])
    simpa [Kd.int, Kd.scalar] using this
theorem lit_R (W : World) (l : List Int) (base : Nat) (hb : base ≤ W.heap.size) (hm : l.length ≤ 100) : Kd.R (Kd.int .i64) 3 (W.alloc (.cells (l.map (Value.int .i64)).toArray 3)) base (fun k => k = W.heap.size) (.slice (some ⟨W.heap.size, 0, none⟩) l.length l.length) l := by
  refine ⟨fun k hk => by simpa [Value.ownBlock] using hk.symm, l.map (Value.int .i64), ?_, ⟨by simp [Kd.int, Kd.scalar], fun j p hp => ?_⟩⟩
  · have h2 := World.ownsRow_lit (base := base) (e := 3) (size := 1) W (l.map (Value.int .i64)).toArray l.length hb (by simp [maxLen]; omega) (by simp)
    exact h2
  · have : ((l.map (Value.int .i64)).drop (j * 1)).take 1 = [Value.int .i64 p] := by
      have hj : j < l.length := (List.getElem?_eq_some_iff.1 hp).1
      rw [Nat.mul_one, List.drop_eq_getElem_cons (by simpa using hj), List.take_succ_cons, List.take_zero]
      simp only [List.getElem_map]
      rw [(List.getElem?_eq_some_iff.1 hp).2]
    exact this
theorem belA (w : World) (o : Obj) : Below w.heap.size w (w.alloc o) := below_alloc (Below.refl _ _) _
theorem belT {b : Nat} {w w1 w2 : World} (h : Below b w w1) (k : Below w1.heap.size w1 w2) (hb : b ≤ w1.heap.size) : Below b w w2 := h.trans ⟨k.os, k.tape, k.output, k.size, fun i hi => k.block i (by omega)⟩
theorem C_at {W W' : World} {B : Nat} {l : List Int} (h : (Kd.int .i64).C W (some ⟨B, 0, none⟩) l.length l) (hk : W'.heap[B]? = W.heap[B]?) : (Kd.int .i64).C W' (some ⟨B, 0, none⟩) l.length l := by
  refine ⟨rfl, h.2.1, fun hp => ?_⟩
  obtain ⟨ad, e, hc⟩ := h.2.2 hp
  cases e
  refine ⟨_, rfl, fun j p hj => ?_⟩
  obtain ⟨c, h1, h2, h3⟩ := hc j p hj
  refine ⟨c, h1, h2, fun i u hu => ?_⟩
  have h4 := h3 i u hu
  rw [← h4]
  unfold World.cell?
  have e : ∀ n, ((⟨B, 0, none⟩ : Addr).add n).block = B := fun n => by unfold Addr.add; split <;> rfl
  rw [e, hk]
/-- A tensor of two literals (shape at block B, numbers at block B2), whatever was made between. -/
theorem of_any (W0 W : World) (B B2 : Nat) (s l r2 : List Int) (hB0 : Below W0.heap.size W0 W) (hRs : Kd.R (Kd.int .i64) 3 W W0.heap.size (fun k => k = B) (.slice (some ⟨B, 0, none⟩) s.length s.length) s) (hCl : (Kd.int .i64).C W (some ⟨B2, 0, none⟩) l.length l) (hne : B2 ≠ B) (hlt : B2 < W.heap.size) (h : athanorlaw06_of.f 30 s l = some (s, r2)) :
    Calls Try.prog 26 #[.slice (some ⟨B, 0, none⟩) s.length s.length, .slice (some ⟨B2, 0, none⟩) l.length l.length] W fun e w' => ∃ v0 v1 : Value, e = .returned (.agg #[v0, v1]) ∧ Kd.R (Kd.int .i64) 3 w' W0.heap.size (fun _ => True) v0 s ∧ Kd.R (Kd.int .i64) 47 w' W0.heap.size (fun _ => True) v1 r2 ∧ Below W0.heap.size W0 w' ∧ Kept W w' (fun k => k = B) := by
  refine (athanorlaw06_of.calls 30 (fun k => k = B) _ s (some ⟨B2, 0, none⟩) l.length l s r2 W0 W hB0 hRs (fun W_ hk => C_at hCl (hk.2 B2 hlt hne)) (Nat.le_refl _) h).mono ?_
  rintro e w' ⟨v0, v1, rfl, h0, h1, h2, h3⟩
  exact ⟨v0, v1, rfl, Kd.R_mono h0 (fun _ _ => trivial), Kd.R_mono h1 (fun _ _ => trivial), h2, h3⟩
/-- The two literals one behind the other. -/
theorem of_lits (W : World) (s l r2 : List Int) (hs : s.length ≤ 100) (hl : l.length ≤ 100) (h : athanorlaw06_of.f 30 s l = some (s, r2)) :
    Calls Try.prog 26 #[.slice (some ⟨W.heap.size, 0, none⟩) s.length s.length, .slice (some ⟨W.heap.size + 1, 0, none⟩) l.length l.length] ((W.alloc (.cells (s.map (Value.int .i64)).toArray 3)).alloc (.cells (l.map (Value.int .i64)).toArray 3)) fun e w' => ∃ v0 v1 : Value, e = .returned (.agg #[v0, v1]) ∧ Kd.R (Kd.int .i64) 3 w' W.heap.size (fun _ => True) v0 s ∧ Kd.R (Kd.int .i64) 47 w' W.heap.size (fun _ => True) v1 r2 ∧ Below W.heap.size W w' := by
  have hC := lit_C (W.alloc (.cells (s.map (Value.int .i64)).toArray 3)) l 3 (by omega)
  have hz : (W.alloc (.cells (s.map (Value.int .i64)).toArray 3)).heap.size = W.heap.size + 1 := by simp
  rw [hz] at hC
  refine (of_any W _ W.heap.size (W.heap.size + 1) s l r2 (below_alloc (belA W _) _) (Kd.R_alloc (lit_R W s W.heap.size (Nat.le_refl _) hs) _) hC (by omega) (by simp) h).mono ?_
  rintro e w' ⟨v0, v1, rfl, h0, h1, h2, _⟩
  exact ⟨v0, v1, rfl, h0, h1, h2⟩
theorem of1 : athanorlaw06_of.f 30 [2, 2] [1, 2, 3, 4] = some ([2, 2], [4294967296, 8589934592, 12884901888, 17179869184]) := by kernel_rfl
theorem of2 : athanorlaw06_of.f 30 [2] [0, 1] = some ([2], [0, 4294967296]) := by kernel_rfl
theorem of3 : athanorlaw06_of.f 30 [1, 2] [1, 1] = some ([1, 2], [4294967296, 4294967296]) := by kernel_rfl
theorem of4 : athanorlaw06_of.f 30 [2] [3, 8] = some ([2], [12884901888, 34359738368]) := by kernel_rfl
theorem of5 : athanorlaw06_of.f 30 [1, 2] [27, 38] = some ([1, 2], [115964116992, 163208757248]) := by kernel_rfl
theorem go1 : dense_Go.f 90 [2, 2] [4294967296, 8589934592, 12884901888, 17179869184] [2] [0, 4294967296] [1, 2] [4294967296, 4294967296] = some ([2], [12884901888, 34359738368], 0) := by kernel_rfl
theorem go2 : dense_Go.f 90 [2] [0, 4294967296] [2] [0, 4294967296] [1, 2] [4294967296, 4294967296] = some ([], [], 20) := by kernel_rfl
theorem back1 : dense_Back.f 90 [2, 2] [4294967296, 8589934592, 12884901888, 17179869184] [2] [0, 4294967296] [1, 2] [4294967296, 4294967296] [2] [12884901888, 34359738368] = some ([2, 2], [12884901888, 12884901888, 34359738368, 34359738368], [2], [12884901888, 34359738368], [1, 2], [115964116992, 163208757248], 0) := by kernel_rfl
theorem eq1 : tensor_Equal_fix_F.f 90 [2] [12884901888, 34359738368] [2] [12884901888, 34359738368] = some true := by kernel_rfl
theorem eq2 : tensor_Equal_fix_F.f 90 [1, 2] [115964116992, 163208757248] [1, 2] [115964116992, 163208757248] = some true := by kernel_rfl
theorem go_ok {W : World} {b : Nat} {w0 w1 b_0 b_1 x0 x1 : Value} (hW0 : (Kd.R (Kd.int .i64) 3 W b (fun _ => True) w0 [2, 2])) (hW1 : (Kd.R (Kd.int .i64) 47 W b (fun _ => True) w1 [4294967296, 8589934592, 12884901888, 17179869184])) (hB0 : (Kd.R (Kd.int .i64) 3 W b (fun _ => True) b_0 [2])) (hB1 : (Kd.R (Kd.int .i64) 47 W b (fun _ => True) b_1 [0, 4294967296])) (hX0 : (Kd.R (Kd.int .i64) 3 W b (fun _ => True) x0 [1, 2])) (hX1 : (Kd.R (Kd.int .i64) 47 W b (fun _ => True) x1 [4294967296, 4294967296])) : Calls Try.prog 10 #[.agg #[w0, w1], .agg #[b_0, b_1], .agg #[x0, x1]] W fun e w' => ∃ v0_ v1_ : Value, e = .returned (.tuple #[.agg #[v0_, v1_], .int .i64 0]) ∧ Kd.R (Kd.int .i64) 3 w' W.heap.size (fun _ => True) v0_ [2] ∧ Kd.R (Kd.int .i64) 47 w' W.heap.size (fun _ => True) v1_ [12884901888, 34359738368] ∧ Below W.heap.size W w' := by
  obtain ⟨AW0, cW0, rfl⟩ := Kd.R_slice hW0
  obtain ⟨AW1, cW1, rfl⟩ := Kd.R_slice hW1
  obtain ⟨AB0, cB0, rfl⟩ := Kd.R_slice hB0
  obtain ⟨AB1, cB1, rfl⟩ := Kd.R_slice hB1
  obtain ⟨AX0, cX0, rfl⟩ := Kd.R_slice hX0
  obtain ⟨AX1, cX1, rfl⟩ := Kd.R_slice hX1
  exact dense_Go.calls 90 _ _ _ _ _ _ _ _ _ _ _ _ _ _ _ _ _ _ _ _ _ W (Kd.R_reads' hW0).2.2 (Kd.R_reads' hW0).2.1 (Kd.R_reads' hW1).2.2 (Kd.R_reads' hW1).2.1 (Kd.R_reads' hB0).2.2 (Kd.R_reads' hB0).2.1 (Kd.R_reads' hB1).2.2 (Kd.R_reads' hB1).2.1 (Kd.R_reads' hX0).2.2 (Kd.R_reads' hX0).2.1 (Kd.R_reads' hX1).2.2 (Kd.R_reads' hX1).2.1 go1
theorem go_bad {W : World} {b : Nat} {b_0 b_1 x0 x1 : Value} (hB0 : (Kd.R (Kd.int .i64) 3 W b (fun _ => True) b_0 [2])) (hB1 : (Kd.R (Kd.int .i64) 47 W b (fun _ => True) b_1 [0, 4294967296])) (hX0 : (Kd.R (Kd.int .i64) 3 W b (fun _ => True) x0 [1, 2])) (hX1 : (Kd.R (Kd.int .i64) 47 W b (fun _ => True) x1 [4294967296, 4294967296])) : Calls Try.prog 10 #[.agg #[b_0, b_1], .agg #[b_0, b_1], .agg #[x0, x1]] W fun e w' => ∃ v0_ v1_ : Value, e = .returned (.tuple #[.agg #[v0_, v1_], .int .i64 20]) ∧ Kd.R (Kd.int .i64) 3 w' W.heap.size (fun _ => True) v0_ [] ∧ Kd.R (Kd.int .i64) 47 w' W.heap.size (fun _ => True) v1_ [] ∧ Below W.heap.size W w' := by
  obtain ⟨AB0, cB0, rfl⟩ := Kd.R_slice hB0
  obtain ⟨AB1, cB1, rfl⟩ := Kd.R_slice hB1
  obtain ⟨AX0, cX0, rfl⟩ := Kd.R_slice hX0
  obtain ⟨AX1, cX1, rfl⟩ := Kd.R_slice hX1
  exact dense_Go.calls 90 _ _ _ _ _ _ _ _ _ _ _ _ _ _ _ _ _ _ _ _ _ W (Kd.R_reads' hB0).2.2 (Kd.R_reads' hB0).2.1 (Kd.R_reads' hB1).2.2 (Kd.R_reads' hB1).2.1 (Kd.R_reads' hB0).2.2 (Kd.R_reads' hB0).2.1 (Kd.R_reads' hB1).2.2 (Kd.R_reads' hB1).2.1 (Kd.R_reads' hX0).2.2 (Kd.R_reads' hX0).2.1 (Kd.R_reads' hX1).2.2 (Kd.R_reads' hX1).2.1 go2
theorem back_ok {W : World} {b : Nat} {w0 w1 b_0 b_1 x0 x1 y0 y1 : Value} (hW0 : (Kd.R (Kd.int .i64) 3 W b (fun _ => True) w0 [2, 2])) (hW1 : (Kd.R (Kd.int .i64) 47 W b (fun _ => True) w1 [4294967296, 8589934592, 12884901888, 17179869184])) (hB0 : (Kd.R (Kd.int .i64) 3 W b (fun _ => True) b_0 [2])) (hB1 : (Kd.R (Kd.int .i64) 47 W b (fun _ => True) b_1 [0, 4294967296])) (hX0 : (Kd.R (Kd.int .i64) 3 W b (fun _ => True) x0 [1, 2])) (hX1 : (Kd.R (Kd.int .i64) 47 W b (fun _ => True) x1 [4294967296, 4294967296])) (hY0 : (Kd.R (Kd.int .i64) 3 W b (fun _ => True) y0 [2])) (hY1 : (Kd.R (Kd.int .i64) 47 W b (fun _ => True) y1 [12884901888, 34359738368])) : Calls Try.prog 15 #[.agg #[w0, w1], .agg #[b_0, b_1], .agg #[x0, x1], .agg #[y0, y1]] W fun e w' => ∃ v0 v1 v2 v3 v4 v5 : Value, e = .returned (.tuple #[.agg #[v0, v1, v2, v3, v4, v5], .int .i64 0]) ∧ (Kd.R (Kd.int .i64) 3 w' W.heap.size (fun _ => True) v0 [2, 2]) ∧ (Kd.R (Kd.int .i64) 47 w' W.heap.size (fun _ => True) v1 [12884901888, 12884901888, 34359738368, 34359738368]) ∧ (Kd.R (Kd.int .i64) 3 w' W.heap.size (fun _ => True) v2 [2]) ∧ (Kd.R (Kd.int .i64) 47 w' W.heap.size (fun _ => True) v3 [12884901888, 34359738368]) ∧ (Kd.R (Kd.int .i64) 3 w' W.heap.size (fun _ => True) v4 [1, 2]) ∧ (Kd.R (Kd.int .i64) 47 w' W.heap.size (fun _ => True) v5 [115964116992, 163208757248]) ∧ Below W.heap.size W w' := by
  obtain ⟨AW0, cW0, rfl⟩ := Kd.R_slice hW0
  obtain ⟨AW1, cW1, rfl⟩ := Kd.R_slice hW1
  obtain ⟨AB0, cB0, rfl⟩ := Kd.R_slice hB0
  obtain ⟨AB1, cB1, rfl⟩ := Kd.R_slice hB1
  obtain ⟨AX0, cX0, rfl⟩ := Kd.R_slice hX0
  obtain ⟨AX1, cX1, rfl⟩ := Kd.R_slice hX1
  obtain ⟨AY0, cY0, rfl⟩ := Kd.R_slice hY0
  obtain ⟨AY1, cY1, rfl⟩ := Kd.R_slice hY1
  refine (dense_Back.calls 90 _ _ _ _ _ _ _ _ _ _ _ _ _ _ _ _ _ _ _ _ _ _ _ _ _ _ _ _ _ _ _ W (Kd.R_reads' hW0).2.2 (Kd.R_reads' hW0).2.1 (Kd.R_reads' hW1).2.2 (Kd.R_reads' hW1).2.1 (Kd.R_reads' hB0).2.2 (Kd.R_reads' hB0).2.1 (Kd.R_reads' hB1).2.2 (Kd.R_reads' hB1).2.1 (Kd.R_reads' hX0).2.2 (Kd.R_reads' hX0).2.1 (Kd.R_reads' hX1).2.2 (Kd.R_reads' hX1).2.1 (Kd.R_reads' hY0).2.2 (Kd.R_reads' hY0).2.1 (Kd.R_reads' hY1).2.2 (Kd.R_reads' hY1).2.1 back1).mono ?_
  rintro e w' ⟨v0, v1, v2, v3, v4, v5, rfl, h0, h1, h2, h3, h4, h5, hb⟩
  exact ⟨v0, v1, v2, v3, v4, v5, rfl, Kd.R_mono h0 (fun _ _ => trivial), Kd.R_mono h1 (fun _ _ => trivial), Kd.R_mono h2 (fun _ _ => trivial), Kd.R_mono h3 (fun _ _ => trivial), Kd.R_mono h4 (fun _ _ => trivial), Kd.R_mono h5 (fun _ _ => trivial), hb⟩
theorem eq_y {W : World} {b b' : Nat} {v0 v1 u0 u1 : Value} (h0 : (Kd.R (Kd.int .i64) 3 W b (fun _ => True) v0 [2])) (h1 : (Kd.R (Kd.int .i64) 47 W b (fun _ => True) v1 [12884901888, 34359738368])) (g0 : (Kd.R (Kd.int .i64) 3 W b' (fun _ => True) u0 [2])) (g1 : (Kd.R (Kd.int .i64) 47 W b' (fun _ => True) u1 [12884901888, 34359738368])) : Calls Try.prog 25 #[.agg #[v0, v1], .agg #[u0, u1]] W fun e w' => e = .returned (.bool true) ∧ Below W.heap.size W w' := by
  obtain ⟨A0, c0, rfl⟩ := Kd.R_slice h0
  obtain ⟨A1, c1, rfl⟩ := Kd.R_slice h1
  obtain ⟨A2, c2, rfl⟩ := Kd.R_slice g0
  obtain ⟨A3, c3, rfl⟩ := Kd.R_slice g1
  exact tensor_Equal_fix_F.calls 90 _ _ _ _ _ _ _ _ _ _ _ _ _ W (Kd.R_reads' h0).2.2 (Kd.R_reads' h0).2.1 (Kd.R_reads' h1).2.2 (Kd.R_reads' h1).2.1 (Kd.R_reads' g0).2.2 (Kd.R_reads' g0).2.1 (Kd.R_reads' g1).2.2 (Kd.R_reads' g1).2.1 eq1
theorem eq_g {W : World} {b b' : Nat} {v0 v1 u0 u1 : Value} (h0 : (Kd.R (Kd.int .i64) 3 W b (fun _ => True) v0 [1, 2])) (h1 : (Kd.R (Kd.int .i64) 47 W b (fun _ => True) v1 [115964116992, 163208757248])) (g0 : (Kd.R (Kd.int .i64) 3 W b' (fun _ => True) u0 [1, 2])) (g1 : (Kd.R (Kd.int .i64) 47 W b' (fun _ => True) u1 [115964116992, 163208757248])) : Calls Try.prog 25 #[.agg #[v0, v1], .agg #[u0, u1]] W fun e w' => e = .returned (.bool true) ∧ Below W.heap.size W w' := by
  obtain ⟨A0, c0, rfl⟩ := Kd.R_slice h0
  obtain ⟨A1, c1, rfl⟩ := Kd.R_slice h1
  obtain ⟨A2, c2, rfl⟩ := Kd.R_slice g0
  obtain ⟨A3, c3, rfl⟩ := Kd.R_slice g1
  exact tensor_Equal_fix_F.calls 90 _ _ _ _ _ _ _ _ _ _ _ _ _ W (Kd.R_reads' h0).2.2 (Kd.R_reads' h0).2.1 (Kd.R_reads' h1).2.2 (Kd.R_reads' h1).2.1 (Kd.R_reads' g0).2.2 (Kd.R_reads' g0).2.1 (Kd.R_reads' g1).2.2 (Kd.R_reads' g1).2.1 eq2
theorem of_w (W : World) : Calls Try.prog 26 #[.slice (some ⟨W.heap.size, 0, none⟩) 2 2, .slice (some ⟨W.heap.size + 1, 0, none⟩) 4 4] ((W.alloc (.cells #[.int .i64 2, .int .i64 2] 3)).alloc (.cells #[.int .i64 1, .int .i64 2, .int .i64 3, .int .i64 4] 3)) fun e w' => ∃ v0 v1 : Value, e = .returned (.agg #[v0, v1]) ∧ Kd.R (Kd.int .i64) 3 w' W.heap.size (fun _ => True) v0 [2, 2] ∧ Kd.R (Kd.int .i64) 47 w' W.heap.size (fun _ => True) v1 [4294967296, 8589934592, 12884901888, 17179869184] ∧ Below W.heap.size W w' :=
  of_lits W [2, 2] [1, 2, 3, 4] _ (by decide) (by decide) of1
theorem of_b (W : World) : Calls Try.prog 26 #[.slice (some ⟨W.heap.size, 0, none⟩) 1 1, .slice (some ⟨W.heap.size + 1, 0, none⟩) 2 2] ((W.alloc (.cells #[.int .i64 2] 3)).alloc (.cells #[.int .i64 0, .int .i64 1] 3)) fun e w' => ∃ v0 v1 : Value, e = .returned (.agg #[v0, v1]) ∧ Kd.R (Kd.int .i64) 3 w' W.heap.size (fun _ => True) v0 [2] ∧ Kd.R (Kd.int .i64) 47 w' W.heap.size (fun _ => True) v1 [0, 4294967296] ∧ Below W.heap.size W w' :=
  of_lits W [2] [0, 1] _ (by decide) (by decide) of2
theorem of_x (W : World) : Calls Try.prog 26 #[.slice (some ⟨W.heap.size, 0, none⟩) 2 2, .slice (some ⟨W.heap.size + 1, 0, none⟩) 2 2] ((W.alloc (.cells #[.int .i64 1, .int .i64 2] 3)).alloc (.cells #[.int .i64 1, .int .i64 1] 3)) fun e w' => ∃ v0 v1 : Value, e = .returned (.agg #[v0, v1]) ∧ Kd.R (Kd.int .i64) 3 w' W.heap.size (fun _ => True) v0 [1, 2] ∧ Kd.R (Kd.int .i64) 47 w' W.heap.size (fun _ => True) v1 [4294967296, 4294967296] ∧ Below W.heap.size W w' :=
  of_lits W [1, 2] [1, 1] _ (by decide) (by decide) of3
theorem rowN {w : World} {b e : Nat} {v : Value} {l : List Int} {k : Nat} (h : Kd.R (Kd.int .i64) e w b (fun _ => True) v l) (hk : l.length = k) : ∃ A c, v = .slice A k c := by
  obtain ⟨A, c, rfl⟩ := Kd.R_slice h
  exact ⟨A, c, by rw [hk]⟩
/-- A tensor in a variable: its two cells. -/
def Box (W : World) (g : Nat) (u v : Value) : Prop := W.heap[g]? = some (.cells #[u, v] 26)
theorem Box.cells {W : World} {g : Nat} {u v : Value} (h : Box W g u v) : W.cell? ⟨g, 0, none⟩ = some u ∧ W.cell? ⟨g, 1, none⟩ = some v := by
  unfold Box at h
  unfold World.cell?
  rw [h]
  exact ⟨rfl, rfl⟩
theorem Box.below {W W' : World} {g : Nat} {u v : Value} (h : Box W g u v) (hb : Below W.heap.size W W') : Box W' g u v := (hb.block g (Array.getElem?_eq_some_iff.1 h).1).trans h
theorem box3 (W : World) (a b c d e f : Value) : Box (((W.alloc (.cells #[a, b] 26)).alloc (.cells #[c, d] 26)).alloc (.cells #[e, f] 26)) W.heap.size a b ∧ Box (((W.alloc (.cells #[a, b] 26)).alloc (.cells #[c, d] 26)).alloc (.cells #[e, f] 26)) (W.heap.size + 1) c d ∧ Box (((W.alloc (.cells #[a, b] 26)).alloc (.cells #[c, d] 26)).alloc (.cells #[e, f] 26)) (W.heap.size + 1 + 1) e f := by
  have h1 := World.alloc_heap_new W (.cells #[a, b] 26)
  have h2 := World.alloc_heap_new (W.alloc (.cells #[a, b] 26)) (.cells #[c, d] 26)
  have h3 := World.alloc_heap_new ((W.alloc (.cells #[a, b] 26)).alloc (.cells #[c, d] 26)) (.cells #[e, f] 26)
  rw [World.size_alloc] at h2
  rw [World.size_alloc, World.size_alloc] at h3
  have n1 : ∀ (X : World) (o : Obj) (g : Nat), g < X.heap.size → (X.alloc o).heap[g]? = X.heap[g]? := fun X o g hg => (belA X o).block g hg
  refine ⟨?_, ?_, h3⟩
  · unfold Box; rw [n1 _ _ _ (by simp; omega), n1 _ _ _ (by simp)]; exact h1
  · unfold Box; rw [n1 _ _ _ (by simp)]; exact h2
theorem box1 (W : World) (a b : Value) : Box (W.alloc (.cells #[a, b] 26)) W.heap.size a b := World.alloc_heap_new W _
/-- What goes back, in a variable: its six cells. -/
def Box6 (W : World) (g : Nat) (a b c d e f : Value) : Prop := W.heap[g]? = some (.cells #[a, b, c, d, e, f] 39)
theorem Box6.cells {W : World} {g : Nat} {a b c d e f : Value} (h : Box6 W g a b c d e f) : W.cell? ⟨g, 2, none⟩ = some c ∧ W.cell? ⟨g, 3, none⟩ = some d ∧ W.cell? ⟨g, 4, none⟩ = some e ∧ W.cell? ⟨g, 5, none⟩ = some f := by
  unfold Box6 at h
  unfold World.cell?
  rw [h]
  exact ⟨rfl, rfl, rfl, rfl⟩
theorem Box6.below {W W' : World} {g : Nat} {a b c d e f : Value} (h : Box6 W g a b c d e f) (hb : Below W.heap.size W W') : Box6 W' g a b c d e f := (hb.block g (Array.getElem?_eq_some_iff.1 h).1).trans h
theorem box6 (W : World) (a b c d e f : Value) : Box6 (W.alloc (.cells #[a, b, c, d, e, f] 39)) W.heap.size a b c d e f := World.alloc_heap_new W _
theorem cellB {w w' : World} (hb : Below w.heap.size w w') {p : Addr} {v : Value} (h : w.cell? p = some v) : w'.cell? p = some v := by
  have hl := World.block_lt_of_cell? w _ h
  unfold World.cell? at h ⊢
  rw [hb.block _ hl]
  exact h
/-- What the region's loads read. -/
def Held (p q : Nat) (y0 y1 g2 g3 g4 g5 : Value) (w' : World) : Prop := w'.cell? ⟨p, 0, none⟩ = some y0 ∧ w'.cell? ⟨p, 1, none⟩ = some y1 ∧ w'.cell? ⟨q, 2, none⟩ = some g2 ∧ w'.cell? ⟨q, 3, none⟩ = some g3 ∧ w'.cell? ⟨q, 4, none⟩ = some g4 ∧ w'.cell? ⟨q, 5, none⟩ = some g5
theorem Held.below {p q : Nat} {y0 y1 g2 g3 g4 g5 : Value} {W W' : World} (h : Held p q y0 y1 g2 g3 g4 g5 W) (hb : Below W.heap.size W W') : Held p q y0 y1 g2 g3 g4 g5 W' := ⟨cellB hb h.1, cellB hb h.2.1, cellB hb h.2.2.1, cellB hb h.2.2.2.1, cellB hb h.2.2.2.2.1, cellB hb h.2.2.2.2.2⟩
/-- Two literals, made in either order: a shape at B, numbers at B2. -/
def Two (w W : World) (s l : List Int) (B B2 : Nat) (W' : World) : Prop := Below W.heap.size W W' ∧ Kd.R (Kd.int .i64) 3 W' w.heap.size (fun k => k = B) (.slice (some ⟨B, 0, none⟩) s.length s.length) s ∧ (Kd.int .i64).C W' (some ⟨B2, 0, none⟩) l.length l ∧ B2 ≠ B ∧ B2 < W'.heap.size ∧ W.heap.size ≤ B
theorem two_a (w W : World) (s l : List Int) (hw : w.heap.size ≤ W.heap.size) (hs : s.length ≤ 100) (hl : l.length ≤ 100) : Two w W s l W.heap.size (W.heap.size + 1) ((W.alloc (.cells (s.map (Value.int .i64)).toArray 3)).alloc (.cells (l.map (Value.int .i64)).toArray 3)) := by
  have hC := lit_C (W.alloc (.cells (s.map (Value.int .i64)).toArray 3)) l 3 (by omega)
  have hz : (W.alloc (.cells (s.map (Value.int .i64)).toArray 3)).heap.size = W.heap.size + 1 := by simp
  rw [hz] at hC
  exact ⟨below_alloc (belA W _) _, Kd.R_alloc (lit_R W s w.heap.size hw hs) _, hC, by omega, by simp, Nat.le_refl _⟩
theorem two_b (w W : World) (s l : List Int) (hw : w.heap.size ≤ W.heap.size) (hs : s.length ≤ 100) (hl : l.length ≤ 100) : Two w W s l (W.heap.size + 1) W.heap.size ((W.alloc (.cells (l.map (Value.int .i64)).toArray 3)).alloc (.cells (s.map (Value.int .i64)).toArray 3)) := by
  have hC := lit_C W l 3 (by omega)
  have hz : (W.alloc (.cells (l.map (Value.int .i64)).toArray 3)).heap.size = W.heap.size + 1 := by simp
  have hR := lit_R (W.alloc (.cells (l.map (Value.int .i64)).toArray 3)) s w.heap.size (by rw [hz]; omega) hs
  rw [hz] at hR
  exact ⟨below_alloc (belA W _) _, hR, Kd.C_alloc hC _, by omega, by simp; omega, by omega⟩
theorem of_y {w W W' : World} {B B2 : Nat} (hT : Two w W [2] [3, 8] B B2 W') (hb : Below w.heap.size w W) : Calls Try.prog 26 #[.slice (some ⟨B, 0, none⟩) 1 1, .slice (some ⟨B2, 0, none⟩) 2 2] W' fun e w' => ∃ v0 v1 : Value, e = .returned (.agg #[v0, v1]) ∧ Kd.R (Kd.int .i64) 3 w' w.heap.size (fun _ => True) v0 [2] ∧ Kd.R (Kd.int .i64) 47 w' w.heap.size (fun _ => True) v1 [12884901888, 34359738368] ∧ Below W.heap.size W w' := by
  obtain ⟨h1, h2, h3, h4, h5, h6⟩ := hT
  refine (of_any w W' B B2 [2] [3, 8] _ (belT hb h1 (below_size hb)) h2 h3 h4 h5 of4).mono ?_
  rintro e w' ⟨v0, v1, rfl, r0, r1, hb', hk⟩
  refine ⟨v0, v1, rfl, r0, r1, hb'.os.trans hb.os.symm, hb'.tape.trans hb.tape.symm, hb'.output.trans hb.output.symm, Nat.le_trans h1.size hk.1, fun i hi => ?_⟩
  exact (hk.2 i (Nat.lt_of_lt_of_le hi h1.size) (by omega)).trans (h1.block i hi)
theorem of_g {w W W' : World} {B B2 : Nat} (hT : Two w W [1, 2] [27, 38] B B2 W') (hb : Below w.heap.size w W) : Calls Try.prog 26 #[.slice (some ⟨B, 0, none⟩) 2 2, .slice (some ⟨B2, 0, none⟩) 2 2] W' fun e w' => ∃ v0 v1 : Value, e = .returned (.agg #[v0, v1]) ∧ Kd.R (Kd.int .i64) 3 w' w.heap.size (fun _ => True) v0 [1, 2] ∧ Kd.R (Kd.int .i64) 47 w' w.heap.size (fun _ => True) v1 [115964116992, 163208757248] ∧ Below W.heap.size W w' := by
  obtain ⟨h1, h2, h3, h4, h5, h6⟩ := hT
  refine (of_any w W' B B2 [1, 2] [27, 38] _ (belT hb h1 (below_size hb)) h2 h3 h4 h5 of5).mono ?_
  rintro e w' ⟨v0, v1, rfl, r0, r1, hb', hk⟩
  refine ⟨v0, v1, rfl, r0, r1, hb'.os.trans hb.os.symm, hb'.tape.trans hb.tape.symm, hb'.output.trans hb.output.symm, Nat.le_trans h1.size hk.1, fun i hi => ?_⟩
  exact (hk.2 i (Nat.lt_of_lt_of_le hi h1.size) (by omega)).trans (h1.block i hi)
set_option maxRecDepth 100000 in
set_option maxHeartbeats 8000000 in
theorem walk (w : World) : Calls Try.prog 9 #[] w fun e w' => e = .returned (.bool true) ∧ Below w.heap.size w w' := by
  have HB := Aside0.mk (Below.refl w.heap.size w)
  go_enter Try.func9, Try.ntmps9
  go_wp2_with ((go_at_call 26; (with_reducible refine (of_w w).mono ?_); rintro e w1 ⟨w0, w1_, rfl, h0, h1, hb⟩; obtain ⟨Aw0, cw0, e0⟩ := rowN (k := 2) h0 rfl; obtain ⟨Aw1, cw1, e1⟩ := rowN (k := 4) h1 rfl; subst e0 e1; have HW0 := Aside0.mk h0; have HW1 := Aside0.mk h1; have HB1 := Aside0.mk hb; clear h0 h1 hb HB))
  go_wp2_with ((go_at_call 26; (with_reducible refine (of_b w1).mono ?_); rintro e w2 ⟨b0, b1_, rfl, h0, h1, hb⟩; obtain ⟨Ab0, cb0, e0⟩ := rowN (k := 1) h0 rfl; obtain ⟨Ab1, cb1, e1⟩ := rowN (k := 2) h1 rfl; subst e0 e1; have HV0 := Aside0.mk (Kd.R_below HW0.out hb); have HV1 := Aside0.mk (Kd.R_below HW1.out hb); have HC0 := Aside0.mk (Kd.R_lower h0 (below_size HB1.out)); have HC1 := Aside0.mk (Kd.R_lower h1 (below_size HB1.out)); have HB := Aside0.mk (below_step HB1.out hb); clear h0 h1 hb HB1 HW0 HW1))
  go_wp2_with ((go_at_call 26; (with_reducible refine (of_x w2).mono ?_); rintro e w3 ⟨x0, x1_, rfl, h0, h1, hb⟩; obtain ⟨Ax0, cx0, e0⟩ := rowN (k := 2) h0 rfl; obtain ⟨Ax1, cx1, e1⟩ := rowN (k := 2) h1 rfl; subst e0 e1; have HW0 := Aside0.mk (Kd.R_below HV0.out hb); have HW1 := Aside0.mk (Kd.R_below HV1.out hb); have HD0 := Aside0.mk (Kd.R_below HC0.out hb); have HD1 := Aside0.mk (Kd.R_below HC1.out hb); have HX0 := Aside0.mk (Kd.R_lower h0 (below_size HB.out)); have HX1 := Aside0.mk (Kd.R_lower h1 (below_size HB.out)); have HB1 := Aside0.mk (below_step HB.out hb); clear h0 h1 hb HB HV0 HV1 HC0 HC1) )
  have HBX := Aside0.mk (box3 w3 (.slice Aw0 2 cw0) (.slice Aw1 4 cw1) (.slice Ab0 1 cb0) (.slice Ab1 2 cb1) (.slice Ax0 2 cx0) (.slice Ax1 2 cx1))
  have HBA := Aside0.mk (below_alloc (below_alloc (below_alloc HB1.out (.cells #[.slice Aw0 2 cw0, .slice Aw1 4 cw1] 26)) (.cells #[.slice Ab0 1 cb0, .slice Ab1 2 cb1] 26)) (.cells #[.slice Ax0 2 cx0, .slice Ax1 2 cx1] 26))
  (with_reducible refine (go_ok (Kd.R_alloc (Kd.R_alloc (Kd.R_alloc HW0.out _) _) _) (Kd.R_alloc (Kd.R_alloc (Kd.R_alloc HW1.out _) _) _) (Kd.R_alloc (Kd.R_alloc (Kd.R_alloc HD0.out _) _) _) (Kd.R_alloc (Kd.R_alloc (Kd.R_alloc HD1.out _) _) _) (Kd.R_alloc (Kd.R_alloc (Kd.R_alloc HX0.out _) _) _) (Kd.R_alloc (Kd.R_alloc (Kd.R_alloc HX1.out _) _) _)).mono ?_)
  rintro e w4 ⟨y0, y1, rfl, h0, h1, hb⟩
  obtain ⟨Ay0, cy0, e0⟩ := rowN (k := 1) h0 rfl
  obtain ⟨Ay1, cy1, e1⟩ := rowN (k := 2) h1 rfl
  subst e0 e1
  have GW0 := Aside0.mk (Kd.R_below (Kd.R_alloc (Kd.R_alloc (Kd.R_alloc HW0.out _) _) _) hb)
  have GW1 := Aside0.mk (Kd.R_below (Kd.R_alloc (Kd.R_alloc (Kd.R_alloc HW1.out _) _) _) hb)
  have GB0 := Aside0.mk (Kd.R_below (Kd.R_alloc (Kd.R_alloc (Kd.R_alloc HD0.out _) _) _) hb)
  have GB1 := Aside0.mk (Kd.R_below (Kd.R_alloc (Kd.R_alloc (Kd.R_alloc HD1.out _) _) _) hb)
  have GX0 := Aside0.mk (Kd.R_below (Kd.R_alloc (Kd.R_alloc (Kd.R_alloc HX0.out _) _) _) hb)
  have GX1 := Aside0.mk (Kd.R_below (Kd.R_alloc (Kd.R_alloc (Kd.R_alloc HX1.out _) _) _) hb)
  have GY0 := Aside0.mk (Kd.R_lower h0 (below_size HBA.out))
  have GY1 := Aside0.mk (Kd.R_lower h1 (below_size HBA.out))
  have HB := Aside0.mk (below_step HBA.out hb)
  have KW := Aside0.mk (HBX.out.1.below hb)
  have KB := Aside0.mk (HBX.out.2.1.below hb)
  have KX := Aside0.mk (HBX.out.2.2.below hb)
  obtain ⟨hw0, hw1⟩ := KW.out.cells
  obtain ⟨hb0, hb1⟩ := KB.out.cells
  obtain ⟨hx0, hx1⟩ := KX.out.cells
  have hz : w3.heap.size + 1 + 1 + 1 ≤ w4.heap.size := by have := hb.size; simpa using this
  have hl0 : w3.heap.size < w4.heap.size := by omega
  have hl1 : w3.heap.size + 1 < w4.heap.size := by omega
  have hl2 : w3.heap.size + 1 + 1 < w4.heap.size := by omega
  clear hz
  clear h0 h1 hb HBX HBA HB1 HW0 HW1 HD0 HD1 HX0 HX1
  dsimp only
  go_wp2_with (fail)
  have KY0 := Aside0.mk (box1 w4 (.slice Ay0 1 cy0) (.slice Ay1 2 cy1))
  have HBA := Aside0.mk (below_alloc HB.out (.cells #[.slice Ay0 1 cy0, .slice Ay1 2 cy1] 26))
  (with_reducible refine (back_ok (Kd.R_alloc GW0.out _) (Kd.R_alloc GW1.out _) (Kd.R_alloc GB0.out _) (Kd.R_alloc GB1.out _) (Kd.R_alloc GX0.out _) (Kd.R_alloc GX1.out _) (Kd.R_alloc GY0.out _) (Kd.R_alloc GY1.out _)).mono ?_)
  rintro e w5 ⟨g0, g1, g2, g3, g4, g5, rfl, q0, q1, q2, q3, q4, q5, hb⟩
  obtain ⟨Ag0, cg0, e0⟩ := rowN (k := 2) q0 rfl
  obtain ⟨Ag1, cg1, e1⟩ := rowN (k := 4) q1 rfl
  obtain ⟨Ag2, cg2, e2⟩ := rowN (k := 1) q2 rfl
  obtain ⟨Ag3, cg3, e3⟩ := rowN (k := 2) q3 rfl
  obtain ⟨Ag4, cg4, e4⟩ := rowN (k := 2) q4 rfl
  obtain ⟨Ag5, cg5, e5⟩ := rowN (k := 2) q5 rfl
  subst e0 e1 e2 e3 e4 e5
  have FB0 := Aside0.mk (Kd.R_below (Kd.R_alloc GB0.out _) hb)
  have FB1 := Aside0.mk (Kd.R_below (Kd.R_alloc GB1.out _) hb)
  have FX0 := Aside0.mk (Kd.R_below (Kd.R_alloc GX0.out _) hb)
  have FX1 := Aside0.mk (Kd.R_below (Kd.R_alloc GX1.out _) hb)
  have FY0 := Aside0.mk (Kd.R_below (Kd.R_alloc GY0.out _) hb)
  have FY1 := Aside0.mk (Kd.R_below (Kd.R_alloc GY1.out _) hb)
  have FG2 := Aside0.mk (Kd.R_lower q2 (below_size HBA.out))
  have FG3 := Aside0.mk (Kd.R_lower q3 (below_size HBA.out))
  have FG4 := Aside0.mk (Kd.R_lower q4 (below_size HBA.out))
  have FG5 := Aside0.mk (Kd.R_lower q5 (below_size HBA.out))
  have HB5 := Aside0.mk (below_step HBA.out hb)
  have JB := Aside0.mk ((KB.out.below (belA w4 _)).below hb)
  have JX := Aside0.mk ((KX.out.below (belA w4 _)).below hb)
  have JY := Aside0.mk (KY0.out.below hb)
  have hz : w4.heap.size + 1 ≤ w5.heap.size := by have := hb.size; simpa using this
  clear hw0 hw1 hb0 hb1 hx0 hx1
  obtain ⟨hb0, hb1⟩ := JB.out.cells
  obtain ⟨hx0, hx1⟩ := JX.out.cells
  have hk1 : w3.heap.size + 1 < w5.heap.size := by omega
  have hk2 : w3.heap.size + 1 + 1 < w5.heap.size := by omega
  clear hz hl0 hl1 hl2 q0 q1 q2 q3 q4 q5 hb HBA HB KY0 KW KB KX GW0 GW1 GB0 GB1 GX0 GX1 GY0 GY1
  dsimp only
  go_wp2_with (fail)
  have KG0 := Aside0.mk (box6 w5 (.slice Ag0 2 cg0) (.slice Ag1 4 cg1) (.slice Ag2 1 cg2) (.slice Ag3 2 cg3) (.slice Ag4 2 cg4) (.slice Ag5 2 cg5))
  have HBA := Aside0.mk (below_alloc HB5.out (.cells #[.slice Ag0 2 cg0, .slice Ag1 4 cg1, .slice Ag2 1 cg2, .slice Ag3 2 cg3, .slice Ag4 2 cg4, .slice Ag5 2 cg5] 39))
  (with_reducible refine (go_bad (Kd.R_alloc FB0.out _) (Kd.R_alloc FB1.out _) (Kd.R_alloc FX0.out _) (Kd.R_alloc FX1.out _)).mono ?_)
  rintro e w6 ⟨z0, z1, rfl, q0, q1, hb⟩
  obtain ⟨Az0, cz0, e0⟩ := rowN (k := 0) q0 rfl
  obtain ⟨Az1, cz1, e1⟩ := rowN (k := 0) q1 rfl
  subst e0 e1
  have GY0 := Aside0.mk (Kd.R_below (Kd.R_alloc FY0.out _) hb)
  have GY1 := Aside0.mk (Kd.R_below (Kd.R_alloc FY1.out _) hb)
  have GG2 := Aside0.mk (Kd.R_below (Kd.R_alloc FG2.out _) hb)
  have GG3 := Aside0.mk (Kd.R_below (Kd.R_alloc FG3.out _) hb)
  have GG4 := Aside0.mk (Kd.R_below (Kd.R_alloc FG4.out _) hb)
  have GG5 := Aside0.mk (Kd.R_below (Kd.R_alloc FG5.out _) hb)
  have HB := Aside0.mk (below_step HBA.out hb)
  have KY := Aside0.mk ((JY.out.below (belA w5 _)).below hb)
  have KG := Aside0.mk (KG0.out.below hb)
  clear hb0 hb1 hx0 hx1 hk1 hk2 q0 q1 hb HBA HB5 KG0 JB JX JY FB0 FB1 FX0 FX1 FY0 FY1 FG2 FG3 FG4 FG5
  dsimp only
  go_wp2_with (fail)
  have HB7 := Aside0.mk (below_alloc HB.out (.cells #[.slice Az0 0 cz0, .slice Az1 0 cz1] 26))
  obtain ⟨hy0, hy1⟩ := (KY.out.below (belA w6 (.cells #[.slice Az0 0 cz0, .slice Az1 0 cz1] 26))).cells
  obtain ⟨hg2, hg3, hg4, hg5⟩ := (KG.out.below (belA w6 (.cells #[.slice Az0 0 cz0, .slice Az1 0 cz1] 26))).cells
  have hmx : Try.prog.follows .mixedOrders = true := by kernel_rfl
  refine start_ (n := 32) (S := Held w4.heap.size w5.heap.size (.slice Ay0 1 cy0) (.slice Ay1 2 cy1) (.slice Ag2 1 cg2) (.slice Ag3 2 cg3) (.slice Ag4 2 cg4) (.slice Ag5 2 cg5)) (ds := []) #[false, false, false, false, false, false, false, false, false, false, false, false, false, false, false, false, false, false, false, false, false, false, false, false, false, false, false, false, false, false, false, false] hmx rfl rfl ⟨hy0, hy1, hg2, hg3, hg4, hg5⟩ (fun hHeld => ?_)
  refine pure_ (i := 0) (N := some 41) (v := ?_) (a' := ?_) #[true, false, false, false, false, false, false, false, false, false, false, false, false, false, false, false, false, false, false, false, false, false, false, false, false, false, false, false, false, false, false, false] rfl rfl (by kernel_rfl) (fun _ _ _ h => h) (Or.inl ⟨by rfl, ?_⟩) ?_ ?_
  rotate_left
  · intro w'
    go_simp
    with_reducible rfl
  rotate_left
  · simp only [Act.put, List.setIfInBounds_toArray, List.set_cons_zero, List.set_cons_succ]
    rfl
  refine pure_ (i := 1) (N := some 42) (v := ?_) (a' := ?_) #[true, true, false, false, false, false, false, false, false, false, false, false, false, false, false, false, false, false, false, false, false, false, false, false, false, false, false, false, false, false, false, false] rfl rfl (by kernel_rfl) (fun _ _ _ h => h) (Or.inl ⟨by rfl, ?_⟩) ?_ ?_
  rotate_left
  · intro w'
    go_simp
    with_reducible rfl
  rotate_left
  · simp only [Act.put, List.setIfInBounds_toArray, List.set_cons_zero, List.set_cons_succ]
    rfl
  refine pure_ (i := 2) (N := some 43) (v := ?_) (a' := ?_) #[true, true, true, false, false, false, false, false, false, false, false, false, false, false, false, false, false, false, false, false, false, false, false, false, false, false, false, false, false, false, false, false] rfl rfl (by kernel_rfl) (fun _ _ _ h => h) (Or.inl ⟨by rfl, ?_⟩) ?_ ?_
  rotate_left
  · intro w'
    go_simp
    with_reducible rfl
  rotate_left
  · simp only [Act.put, List.setIfInBounds_toArray, List.set_cons_zero, List.set_cons_succ]
    rfl
  refine pure_ (i := 3) (N := some 44) (v := ?_) (a' := ?_) #[true, true, true, true, false, false, false, false, false, false, false, false, false, false, false, false, false, false, false, false, false, false, false, false, false, false, false, false, false, false, false, false] rfl rfl (by kernel_rfl) (fun _ _ _ h => h) (Or.inl ⟨by rfl, ?_⟩) ?_ ?_
  rotate_left
  · intro w'
    go_simp
    with_reducible rfl
  rotate_left
  · simp only [Act.put, List.setIfInBounds_toArray, List.set_cons_zero, List.set_cons_succ]
    rfl
  refine pure_ (i := 4) (N := some 45) (v := ?_) (a' := ?_) #[true, true, true, true, true, false, false, false, false, false, false, false, false, false, false, false, false, false, false, false, false, false, false, false, false, false, false, false, false, false, false, false] rfl rfl (by kernel_rfl) (fun _ _ _ h => h) (Or.inl ⟨by rfl, ?_⟩) ?_ ?_
  rotate_left
  · intro w'
    go_simp
    with_reducible rfl
  rotate_left
  · simp only [Act.put, List.setIfInBounds_toArray, List.set_cons_zero, List.set_cons_succ]
    rfl
  refine pure_ (i := 5) (N := some 46) (v := ?_) (a' := ?_) #[true, true, true, true, true, true, false, false, false, false, false, false, false, false, false, false, false, false, false, false, false, false, false, false, false, false, false, false, false, false, false, false] rfl rfl (by kernel_rfl) (fun _ _ _ h => h) (Or.inl ⟨by rfl, ?_⟩) ?_ ?_
  rotate_left
  · intro w'
    go_simp
    with_reducible rfl
  rotate_left
  · simp only [Act.put, List.setIfInBounds_toArray, List.set_cons_zero, List.set_cons_succ]
    rfl
  refine pure_ (i := 6) (N := some 47) (v := ?_) (a' := ?_) #[true, true, true, true, true, true, true, false, false, false, false, false, false, false, false, false, false, false, false, false, false, false, false, false, false, false, false, false, false, false, false, false] rfl rfl (by kernel_rfl) (fun _ _ _ h => h) (Or.inl ⟨by rfl, ?_⟩) ?_ ?_
  rotate_left
  · intro w'
    go_simp
    with_reducible rfl
  rotate_left
  · simp only [Act.put, List.setIfInBounds_toArray, List.set_cons_zero, List.set_cons_succ]
    rfl
  refine pure_ (i := 7) (N := some 48) (v := ?_) (a' := ?_) #[true, true, true, true, true, true, true, true, false, false, false, false, false, false, false, false, false, false, false, false, false, false, false, false, false, false, false, false, false, false, false, false] rfl rfl (by kernel_rfl) (fun _ _ _ h => h) (Or.inl ⟨by rfl, ?_⟩) ?_ ?_
  rotate_left
  · intro w'
    go_simp
    with_reducible rfl
  rotate_left
  · simp only [Act.put, List.setIfInBounds_toArray, List.set_cons_zero, List.set_cons_succ]
    rfl
  refine pure_ (i := 8) (N := some 49) (v := ?_) (a' := ?_) #[true, true, true, true, true, true, true, true, true, false, false, false, false, false, false, false, false, false, false, false, false, false, false, false, false, false, false, false, false, false, false, false] rfl rfl (by kernel_rfl) (fun _ _ _ h => h) (Or.inl ⟨by rfl, ?_⟩) ?_ ?_
  rotate_left
  · intro w'
    go_simp
    with_reducible rfl
  rotate_left
  · simp only [Act.put, List.setIfInBounds_toArray, List.set_cons_zero, List.set_cons_succ]
    rfl
  refine pure_ (i := 9) (N := some 50) (v := ?_) (a' := ?_) #[true, true, true, true, true, true, true, true, true, true, false, false, false, false, false, false, false, false, false, false, false, false, false, false, false, false, false, false, false, false, false, false] rfl rfl (by kernel_rfl) (fun _ _ _ h => h) (Or.inl ⟨by rfl, ?_⟩) ?_ ?_
  rotate_left
  · intro w'
    go_simp
    with_reducible rfl
  rotate_left
  · simp only [Act.put, List.setIfInBounds_toArray, List.set_cons_zero, List.set_cons_succ]
    rfl
  refine pure_ (i := 10) (N := some 51) (v := ?_) (a' := ?_) #[true, true, true, true, true, true, true, true, true, true, true, false, false, false, false, false, false, false, false, false, false, false, false, false, false, false, false, false, false, false, false, false] rfl rfl (by kernel_rfl) (fun _ _ _ h => h) (Or.inl ⟨by rfl, ?_⟩) ?_ ?_
  rotate_left
  · intro w'
    go_simp
    with_reducible rfl
  rotate_left
  · simp only [Act.put, List.setIfInBounds_toArray, List.set_cons_zero, List.set_cons_succ]
    rfl
  refine take_ (i := 11) (N := some 52) (v := ?_) (a' := ?_) #[true, true, true, true, true, true, true, true, true, true, true, true, false, false, false, false, false, false, false, false, false, false, false, false, false, false, false, false, false, false, false, false] rfl rfl (by kernel_rfl) (fun _ _ _ h => h) (Or.inl ⟨by rfl, ?_⟩) hHeld ?_ ?_
  rotate_left
  · rintro w' ⟨s0, s1, s2, s3, s4, s5⟩
    go_simp
    with_reducible rfl
  rotate_left
  · simp only [Act.put, List.setIfInBounds_toArray, List.set_cons_zero, List.set_cons_succ]
    rfl
  have FY0 := Aside0.mk (Kd.R_drew (Kd.R_alloc GY0.out (.cells #[.slice Az0 0 cz0, .slice Az1 0 cz1] 26)))
  have FY1 := Aside0.mk (Kd.R_drew (Kd.R_alloc GY1.out (.cells #[.slice Az0 0 cz0, .slice Az1 0 cz1] 26)))
  have FG2 := Aside0.mk (Kd.R_drew (Kd.R_alloc GG2.out (.cells #[.slice Az0 0 cz0, .slice Az1 0 cz1] 26)))
  have FG3 := Aside0.mk (Kd.R_drew (Kd.R_alloc GG3.out (.cells #[.slice Az0 0 cz0, .slice Az1 0 cz1] 26)))
  have FG4 := Aside0.mk (Kd.R_drew (Kd.R_alloc GG4.out (.cells #[.slice Az0 0 cz0, .slice Az1 0 cz1] 26)))
  have FG5 := Aside0.mk (Kd.R_drew (Kd.R_alloc GG5.out (.cells #[.slice Az0 0 cz0, .slice Az1 0 cz1] 26)))
  have HB8 := Aside0.mk (HB7.out.drew)
  clear GY0 GY1 GG2 GG3 GG4 GG5 HB HB7 KY KG hy0 hy1 hg2 hg3 hg4 hg5
  generalize (w6.alloc (.cells #[.slice Az0 0 cz0, .slice Az1 0 cz1] 26)).drew = W0 at hHeld FY0 FY1 FG2 FG3 FG4 FG5 HB8 ⊢
  refine join_ (σ := Nat × Nat) 18 #[true, true, true, true, true, true, true, true, true, true, true, true, true, true, false, false, false, false, false, false, false, false, false, false, false, false, false, false, false, false, false, false] (fun s => [(53, .slice (some ⟨s.1, 0, none⟩) 1 1), (54, .slice (some ⟨s.2, 0, none⟩) 2 2)]) (fun s W' => Two w W0 [2] [3, 8] s.1 s.2 W') ?contA (fun hj => ?_)
  rotate_left
  · refine two_ (i := 12) (j := 13) (Ni := some 53) (Nj := some 54) #[true, true, true, true, true, true, true, true, true, true, true, true, true, false, false, false, false, false, false, false, false, false, false, false, false, false, false, false, false, false, false, false] #[true, true, true, true, true, true, true, true, true, true, true, true, false, true, false, false, false, false, false, false, false, false, false, false, false, false, false, false, false, false, false, false] rfl rfl rfl rfl (by kernel_rfl) (by decide) (by decide) (fun K hK => ?_) (fun K hK => ?_)
    · refine value_ (w1 := ?_) (v := ?_) (by rfl) rfl ?_ ?_
      rotate_left 2
      · go_simp
        constructor
        · rfl
        · rfl
      refine hK.out _ _ (Held.below hHeld (belA _ _)) (fun hHeld1 => ?_)
      clear hK K
      refine one_ (i := 13) (N := some 54) #[true, true, true, true, true, true, true, true, true, true, true, true, true, true, false, false, false, false, false, false, false, false, false, false, false, false, false, false, false, false, false, false] rfl rfl (by kernel_rfl) (by decide) (fun K hK => ?_)
      refine value_ (w1 := ?_) (v := ?_) (by rfl) rfl ?_ ?_
      rotate_left 2
      · go_simp
        constructor
        · rfl
        · rfl
      refine hK.out _ _ (Held.below hHeld1 (belA _ _)) (fun hHeld2 => ?_)
      clear hK K
      refine norm_ ?_ (hj (W0.heap.size, W0.heap.size + 1) _ (two_a w W0 [2] [3, 8] (below_size HB8.out) (by decide) (by decide)))
      simp only [putAll, List.foldl_cons, List.foldl_nil, Act.put, List.setIfInBounds_toArray, List.set_cons_zero, List.set_cons_succ]
    · refine value_ (w1 := ?_) (v := ?_) (by rfl) rfl ?_ ?_
      rotate_left 2
      · go_simp
        constructor
        · rfl
        · rfl
      refine hK.out _ _ (Held.below hHeld (belA _ _)) (fun hHeld1 => ?_)
      clear hK K
      refine one_ (i := 12) (N := some 53) #[true, true, true, true, true, true, true, true, true, true, true, true, true, true, false, false, false, false, false, false, false, false, false, false, false, false, false, false, false, false, false, false] rfl rfl (by kernel_rfl) (by decide) (fun K hK => ?_)
      refine value_ (w1 := ?_) (v := ?_) (by rfl) rfl ?_ ?_
      rotate_left 2
      · go_simp
        constructor
        · rfl
        · rfl
      refine hK.out _ _ (Held.below hHeld1 (belA _ _)) (fun hHeld2 => ?_)
      clear hK K
      refine norm_ ?_ (hj (W0.heap.size + 1, W0.heap.size) _ (two_b w W0 [2] [3, 8] (below_size HB8.out) (by decide) (by decide)))
      simp only [putAll, List.foldl_cons, List.foldl_nil, Act.put, List.setIfInBounds_toArray, List.set_cons_zero, List.set_cons_succ]
  case contA =>
    rintro ⟨B, B2⟩ W' hT
    refine norm_ (a' := ?_) ?_ ?_
    rotate_left
    · simp only [putAll, List.foldl_cons, List.foldl_nil, Act.put, List.setIfInBounds_toArray, List.set_cons_zero, List.set_cons_succ]
      rfl
    refine one_ (i := 14) (N := some 55) #[true, true, true, true, true, true, true, true, true, true, true, true, true, true, true, false, false, false, false, false, false, false, false, false, false, false, false, false, false, false, false, false] rfl rfl (by kernel_rfl) (by decide) (fun K hK => ?_)
    refine goes_ Try.func26 (by kernel_rfl) rfl #[.slice (some ⟨B, 0, none⟩) 1 1, .slice (some ⟨B2, 0, none⟩) 2 2] (by rfl) rfl rfl (by simp only [List.map_toArray, List.map_cons, List.map_nil]; rfl) ?_
    with_reducible refine (of_y hT HB8.out).mono ?_
    rintro e w7 ⟨u0, u1, rfl, r0, r1, hb⟩
    refine ⟨_, rfl, ?_⟩
    refine hK.out _ _ (hHeld.below hb) (fun hH => ?_)
    clear hK K hHeld
    have hHeld := hH
    clear hH
    refine norm_ (a' := ?_) ?_ ?_
    rotate_left
    · show Act.put _ (some 55) _ = _
      simp only [Act.put, List.setIfInBounds_toArray, List.set_cons_zero, List.set_cons_succ]
      rfl
    have HU0 := Aside0.mk r0
    have HU1 := Aside0.mk r1
    have FY0a := Aside0.mk (Kd.R_below FY0.out hb)
    have FY1a := Aside0.mk (Kd.R_below FY1.out hb)
    have FG2a := Aside0.mk (Kd.R_below FG2.out hb)
    have FG3a := Aside0.mk (Kd.R_below FG3.out hb)
    have FG4a := Aside0.mk (Kd.R_below FG4.out hb)
    have FG5a := Aside0.mk (Kd.R_below FG5.out hb)
    have HB9 := Aside0.mk (belT HB8.out hb (below_size HB8.out))
    clear FY0 FY1 FG2 FG3 FG4 FG5 hb
    clear r0 r1 hT HB8
    refine one_ (i := 15) (N := some 56) #[true, true, true, true, true, true, true, true, true, true, true, true, true, true, true, true, false, false, false, false, false, false, false, false, false, false, false, false, false, false, false, false] rfl rfl (by kernel_rfl) (by decide) (fun K hK => ?_)
    refine goes_ Try.func25 (by kernel_rfl) rfl #[.agg #[.slice Ay0 1 cy0, .slice Ay1 2 cy1], .agg #[u0, u1]] (by rfl) rfl rfl (by simp only [List.map_toArray, List.map_cons, List.map_nil]; rfl) ?_
    with_reducible refine (eq_y FY0a.out FY1a.out HU0.out HU1.out).mono ?_
    rintro e w8 ⟨rfl, hb⟩
    refine ⟨_, rfl, ?_⟩
    refine hK.out _ _ (hHeld.below hb) (fun hH => ?_)
    clear hK K hHeld
    have hHeld := hH
    clear hH
    refine norm_ (a' := ?_) ?_ ?_
    rotate_left
    · show Act.put _ (some 56) _ = _
      simp only [Act.put, List.setIfInBounds_toArray, List.set_cons_zero, List.set_cons_succ]
      rfl
    have FY0 := Aside0.mk (Kd.R_below FY0a.out hb)
    have FY1 := Aside0.mk (Kd.R_below FY1a.out hb)
    have FG2 := Aside0.mk (Kd.R_below FG2a.out hb)
    have FG3 := Aside0.mk (Kd.R_below FG3a.out hb)
    have FG4 := Aside0.mk (Kd.R_below FG4a.out hb)
    have FG5 := Aside0.mk (Kd.R_below FG5a.out hb)
    have HB8 := Aside0.mk (belT HB9.out hb (below_size HB9.out))
    clear FY0a FY1a FG2a FG3a FG4a FG5a hb
    clear HU0 HU1 HB9
    refine pure_ (i := 16) (N := some 57) (v := ?_) (a' := ?_) #[true, true, true, true, true, true, true, true, true, true, true, true, true, true, true, true, true, false, false, false, false, false, false, false, false, false, false, false, false, false, false, false] rfl rfl (by kernel_rfl) (fun _ _ _ h => h) (Or.inl ⟨by rfl, ?_⟩) ?_ ?_
    rotate_left
    · intro w'
      go_simp
      with_reducible rfl
    rotate_left
    · simp only [Act.put, List.setIfInBounds_toArray, List.set_cons_zero, List.set_cons_succ]
      rfl
    refine pure_ (i := 17) (N := some 58) (v := ?_) (a' := ?_) #[true, true, true, true, true, true, true, true, true, true, true, true, true, true, true, true, true, true, false, false, false, false, false, false, false, false, false, false, false, false, false, false] rfl rfl (by kernel_rfl) (fun _ _ _ h => h) (Or.inl ⟨by rfl, ?_⟩) ?_ ?_
    rotate_left
    · intro w'
      go_simp
      with_reducible rfl
    rotate_left
    · simp only [Act.put, List.setIfInBounds_toArray, List.set_cons_zero, List.set_cons_succ]
      rfl
    refine pure_ (i := 18) (N := some 59) (v := ?_) (a' := ?_) #[true, true, true, true, true, true, true, true, true, true, true, true, true, true, true, true, true, true, true, false, false, false, false, false, false, false, false, false, false, false, false, false] rfl rfl (by kernel_rfl) (fun _ _ _ h => h) (Or.inl ⟨by rfl, ?_⟩) ?_ ?_
    rotate_left
    · intro w'
      go_simp
      with_reducible rfl
    rotate_left
    · simp only [Act.put, List.setIfInBounds_toArray, List.set_cons_zero, List.set_cons_succ]
      rfl
    refine take_ (i := 19) (N := some 60) (v := ?_) (a' := ?_) #[true, true, true, true, true, true, true, true, true, true, true, true, true, true, true, true, true, true, true, true, false, false, false, false, false, false, false, false, false, false, false, false] rfl rfl (by kernel_rfl) (fun _ _ _ h => h) (Or.inl ⟨by rfl, ?_⟩) hHeld ?_ ?_
    rotate_left
    · rintro w' ⟨s0, s1, s2, s3, s4, s5⟩
      go_simp
      with_reducible rfl
    rotate_left
    · simp only [Act.put, List.setIfInBounds_toArray, List.set_cons_zero, List.set_cons_succ]
      rfl
    refine join_ (σ := Nat × Nat) 10 #[true, true, true, true, true, true, true, true, true, true, true, true, true, true, true, true, true, true, true, true, true, true, false, false, false, false, false, false, false, false, false, false] (fun s => [(61, .slice (some ⟨s.1, 0, none⟩) 2 2), (62, .slice (some ⟨s.2, 0, none⟩) 2 2)]) (fun s W' => Two w w8 [1, 2] [27, 38] s.1 s.2 W') ?contB (fun hj => ?_)
    rotate_left
    · refine two_ (i := 20) (j := 21) (Ni := some 61) (Nj := some 62) #[true, true, true, true, true, true, true, true, true, true, true, true, true, true, true, true, true, true, true, true, true, false, false, false, false, false, false, false, false, false, false, false] #[true, true, true, true, true, true, true, true, true, true, true, true, true, true, true, true, true, true, true, true, false, true, false, false, false, false, false, false, false, false, false, false] rfl rfl rfl rfl (by kernel_rfl) (by decide) (by decide) (fun K hK => ?_) (fun K hK => ?_)
      · refine value_ (w1 := ?_) (v := ?_) (by rfl) rfl ?_ ?_
        rotate_left 2
        · go_simp
          constructor
          · rfl
          · rfl
        refine hK.out _ _ (Held.below hHeld (belA _ _)) (fun hHeld1 => ?_)
        clear hK K
        refine one_ (i := 21) (N := some 62) #[true, true, true, true, true, true, true, true, true, true, true, true, true, true, true, true, true, true, true, true, true, true, false, false, false, false, false, false, false, false, false, false] rfl rfl (by kernel_rfl) (by decide) (fun K hK => ?_)
        refine value_ (w1 := ?_) (v := ?_) (by rfl) rfl ?_ ?_
        rotate_left 2
        · go_simp
          constructor
          · rfl
          · rfl
        refine hK.out _ _ (Held.below hHeld1 (belA _ _)) (fun hHeld2 => ?_)
        clear hK K
        refine norm_ ?_ (hj (w8.heap.size, w8.heap.size + 1) _ (two_a w w8 [1, 2] [27, 38] (below_size HB8.out) (by decide) (by decide)))
        simp only [putAll, List.foldl_cons, List.foldl_nil, Act.put, List.setIfInBounds_toArray, List.set_cons_zero, List.set_cons_succ]
      · refine value_ (w1 := ?_) (v := ?_) (by rfl) rfl ?_ ?_
        rotate_left 2
        · go_simp
          constructor
          · rfl
          · rfl
        refine hK.out _ _ (Held.below hHeld (belA _ _)) (fun hHeld1 => ?_)
        clear hK K
        refine one_ (i := 20) (N := some 61) #[true, true, true, true, true, true, true, true, true, true, true, true, true, true, true, true, true, true, true, true, true, true, false, false, false, false, false, false, false, false, false, false] rfl rfl (by kernel_rfl) (by decide) (fun K hK => ?_)
        refine value_ (w1 := ?_) (v := ?_) (by rfl) rfl ?_ ?_
        rotate_left 2
        · go_simp
          constructor
          · rfl
          · rfl
        refine hK.out _ _ (Held.below hHeld1 (belA _ _)) (fun hHeld2 => ?_)
        clear hK K
        refine norm_ ?_ (hj (w8.heap.size + 1, w8.heap.size) _ (two_b w w8 [1, 2] [27, 38] (below_size HB8.out) (by decide) (by decide)))
        simp only [putAll, List.foldl_cons, List.foldl_nil, Act.put, List.setIfInBounds_toArray, List.set_cons_zero, List.set_cons_succ]
    case contB =>
      rintro ⟨B, B2⟩ W' hT
      refine norm_ (a' := ?_) ?_ ?_
      rotate_left
      · simp only [putAll, List.foldl_cons, List.foldl_nil, Act.put, List.setIfInBounds_toArray, List.set_cons_zero, List.set_cons_succ]
        rfl
      refine one_ (i := 22) (N := some 63) #[true, true, true, true, true, true, true, true, true, true, true, true, true, true, true, true, true, true, true, true, true, true, true, false, false, false, false, false, false, false, false, false] rfl rfl (by kernel_rfl) (by decide) (fun K hK => ?_)
      refine goes_ Try.func26 (by kernel_rfl) rfl #[.slice (some ⟨B, 0, none⟩) 2 2, .slice (some ⟨B2, 0, none⟩) 2 2] (by rfl) rfl rfl (by simp only [List.map_toArray, List.map_cons, List.map_nil]; rfl) ?_
      with_reducible refine (of_g hT HB8.out).mono ?_
      rintro e w9 ⟨u0, u1, rfl, r0, r1, hb⟩
      refine ⟨_, rfl, ?_⟩
      refine hK.out _ _ (hHeld.below hb) (fun hH => ?_)
      clear hK K hHeld
      have hHeld := hH
      clear hH
      refine norm_ (a' := ?_) ?_ ?_
      rotate_left
      · show Act.put _ (some 63) _ = _
        simp only [Act.put, List.setIfInBounds_toArray, List.set_cons_zero, List.set_cons_succ]
        rfl
      have HU0 := Aside0.mk r0
      have HU1 := Aside0.mk r1
      have FY0a := Aside0.mk (Kd.R_below FY0.out hb)
      have FY1a := Aside0.mk (Kd.R_below FY1.out hb)
      have FG2a := Aside0.mk (Kd.R_below FG2.out hb)
      have FG3a := Aside0.mk (Kd.R_below FG3.out hb)
      have FG4a := Aside0.mk (Kd.R_below FG4.out hb)
      have FG5a := Aside0.mk (Kd.R_below FG5.out hb)
      have HB9 := Aside0.mk (belT HB8.out hb (below_size HB8.out))
      clear FY0 FY1 FG2 FG3 FG4 FG5 hb
      clear r0 r1 hT HB8
      refine one_ (i := 23) (N := some 64) #[true, true, true, true, true, true, true, true, true, true, true, true, true, true, true, true, true, true, true, true, true, true, true, true, false, false, false, false, false, false, false, false] rfl rfl (by kernel_rfl) (by decide) (fun K hK => ?_)
      refine goes_ Try.func25 (by kernel_rfl) rfl #[.agg #[.slice Ag4 2 cg4, .slice Ag5 2 cg5], .agg #[u0, u1]] (by rfl) rfl rfl (by simp only [List.map_toArray, List.map_cons, List.map_nil]; rfl) ?_
      with_reducible refine (eq_g FG4a.out FG5a.out HU0.out HU1.out).mono ?_
      rintro e w10 ⟨rfl, hb⟩
      refine ⟨_, rfl, ?_⟩
      refine hK.out _ _ (hHeld.below hb) (fun hH => ?_)
      clear hK K hHeld
      have hHeld := hH
      clear hH
      refine norm_ (a' := ?_) ?_ ?_
      rotate_left
      · show Act.put _ (some 64) _ = _
        simp only [Act.put, List.setIfInBounds_toArray, List.set_cons_zero, List.set_cons_succ]
        rfl
      have FY0 := Aside0.mk (Kd.R_below FY0a.out hb)
      have FY1 := Aside0.mk (Kd.R_below FY1a.out hb)
      have FG2 := Aside0.mk (Kd.R_below FG2a.out hb)
      have FG3 := Aside0.mk (Kd.R_below FG3a.out hb)
      have FG4 := Aside0.mk (Kd.R_below FG4a.out hb)
      have FG5 := Aside0.mk (Kd.R_below FG5a.out hb)
      have HB8 := Aside0.mk (belT HB9.out hb (below_size HB9.out))
      clear FY0a FY1a FG2a FG3a FG4a FG5a hb
      clear HU0 HU1 HB9
      refine pure_ (i := 24) (N := some 65) (v := ?_) (a' := ?_) #[true, true, true, true, true, true, true, true, true, true, true, true, true, true, true, true, true, true, true, true, true, true, true, true, true, false, false, false, false, false, false, false] rfl rfl (by kernel_rfl) (fun _ _ _ h => h) (Or.inl ⟨by rfl, ?_⟩) ?_ ?_
      rotate_left
      · intro w'
        go_simp
        with_reducible rfl
      rotate_left
      · simp only [Act.put, List.setIfInBounds_toArray, List.set_cons_zero, List.set_cons_succ]
        rfl
      refine pure_ (i := 25) (N := some 66) (v := ?_) (a' := ?_) #[true, true, true, true, true, true, true, true, true, true, true, true, true, true, true, true, true, true, true, true, true, true, true, true, true, true, false, false, false, false, false, false] rfl rfl (by kernel_rfl) (fun _ _ _ h => h) (Or.inl ⟨by rfl, ?_⟩) ?_ ?_
      rotate_left
      · intro w'
        go_simp
        with_reducible rfl
      rotate_left
      · simp only [Act.put, List.setIfInBounds_toArray, List.set_cons_zero, List.set_cons_succ]
        rfl
      refine pure_ (i := 26) (N := some 67) (v := ?_) (a' := ?_) #[true, true, true, true, true, true, true, true, true, true, true, true, true, true, true, true, true, true, true, true, true, true, true, true, true, true, true, false, false, false, false, false] rfl rfl (by kernel_rfl) (fun _ _ _ h => h) (Or.inl ⟨by rfl, ?_⟩) ?_ ?_
      rotate_left
      · intro w'
        go_simp
        with_reducible rfl
      rotate_left
      · simp only [Act.put, List.setIfInBounds_toArray, List.set_cons_zero, List.set_cons_succ]
        rfl
      refine take_ (i := 27) (N := some 68) (v := ?_) (a' := ?_) #[true, true, true, true, true, true, true, true, true, true, true, true, true, true, true, true, true, true, true, true, true, true, true, true, true, true, true, true, false, false, false, false] rfl rfl (by kernel_rfl) (fun _ _ _ h => h) (Or.inl ⟨by rfl, ?_⟩) hHeld ?_ ?_
      rotate_left
      · rintro w' ⟨s0, s1, s2, s3, s4, s5⟩
        go_simp
        with_reducible rfl
      rotate_left
      · simp only [Act.put, List.setIfInBounds_toArray, List.set_cons_zero, List.set_cons_succ]
        rfl
      refine take_ (i := 28) (N := some 69) (v := ?_) (a' := ?_) #[true, true, true, true, true, true, true, true, true, true, true, true, true, true, true, true, true, true, true, true, true, true, true, true, true, true, true, true, true, false, false, false] rfl rfl (by kernel_rfl) (fun _ _ _ h => h) (Or.inl ⟨by rfl, ?_⟩) hHeld ?_ ?_
      rotate_left
      · rintro w' ⟨s0, s1, s2, s3, s4, s5⟩
        go_simp
        with_reducible rfl
      rotate_left
      · simp only [Act.put, List.setIfInBounds_toArray, List.set_cons_zero, List.set_cons_succ]
        rfl
      refine one_ (i := 29) (N := some 70) #[true, true, true, true, true, true, true, true, true, true, true, true, true, true, true, true, true, true, true, true, true, true, true, true, true, true, true, true, true, true, false, false] rfl rfl (by kernel_rfl) (by decide) (fun K hK => ?_)
      refine goes_ Try.func25 (by kernel_rfl) rfl #[.agg #[.slice Ag2 1 cg2, .slice Ag3 2 cg3], .agg #[.slice Ay0 1 cy0, .slice Ay1 2 cy1]] (by rfl) rfl rfl (by simp only [List.map_toArray, List.map_cons, List.map_nil]; rfl) ?_
      with_reducible refine (eq_y FG2.out FG3.out FY0.out FY1.out).mono ?_
      rintro e w11 ⟨rfl, hb⟩
      refine ⟨_, rfl, ?_⟩
      refine hK.out _ _ (hHeld.below hb) (fun hH => ?_)
      clear hK K hHeld
      have hHeld := hH
      clear hH
      refine norm_ (a' := ?_) ?_ ?_
      rotate_left
      · show Act.put _ (some 70) _ = _
        simp only [Act.put, List.setIfInBounds_toArray, List.set_cons_zero, List.set_cons_succ]
        rfl
      have HB9 := Aside0.mk (belT HB8.out hb (below_size HB8.out))
      clear hb HB8
      refine pure_ (i := 30) (N := some 71) (v := ?_) (a' := ?_) #[true, true, true, true, true, true, true, true, true, true, true, true, true, true, true, true, true, true, true, true, true, true, true, true, true, true, true, true, true, true, true, false] rfl rfl (by kernel_rfl) (fun _ _ _ h => h) (Or.inl ⟨by rfl, ?_⟩) ?_ ?_
      rotate_left
      · intro w'
        go_simp
        with_reducible rfl
      rotate_left
      · simp only [Act.put, List.setIfInBounds_toArray, List.set_cons_zero, List.set_cons_succ]
        rfl
      refine pure_ (i := 31) (N := some 0) (v := ?_) (a' := ?_) #[true, true, true, true, true, true, true, true, true, true, true, true, true, true, true, true, true, true, true, true, true, true, true, true, true, true, true, true, true, true, true, true] rfl rfl (by kernel_rfl) (fun _ _ _ h => h) (Or.inl ⟨by rfl, ?_⟩) ?_ ?_
      rotate_left
      · intro w'
        go_simp
        with_reducible rfl
      rotate_left
      · simp only [Act.put, List.setIfInBounds_toArray, List.set_cons_zero, List.set_cons_succ]
        rfl
      refine done_ (by kernel_rfl) ?_
      go_wp2
      go_ret
      exact ⟨rfl, HB9.out⟩
end Go.Proofs.Ytgmgjddfceilhaa.Awk
