/- What a range over shape.All is handed: the places of a shape in order, each in new memory. Conditions: a shape that can be read. -/
import Derived.Test.YtmekcfmhaflghaaAt
import Derived.Test.YtmekcfmhaflghaaFresh
import Derived.Test.YtmekcfmhaflghaaAuto
import Derived.Lib.Hide
set_option linter.unusedVariables false
set_option linter.unusedSimpArgs false
namespace Go.Proofs.Ytmekcfmhaflghaa.AllW
open Go.RowKit Go.Shelf Go.Proofs Go.Proofs.Ytmekcfmhaflghaa.PJoi Go.Proofs.Ytmekcfmhaflghaa.Fresh Go.Proofs.Ytmekcfmhaflghaa.Auto Go.Proofs.YtmekcfmhaflghaaW.PrintWords Go.Proofs.YtmekcfmhaflghaaW.PrintLast Go.Proofs.YtmekcfmhaflghaaW.PrintMore
attribute [local go_sem] Oper.semAt_some
set_option maxHeartbeats 1000000 in
/-- The function that is ranged over, with its own copy of the shape in block Bs. -/
theorem all_any (A : Option Addr) (c : Nat) (l : List Int) (w : World) (hr : Kd.C (Kd.int .i64) w A l.length l) (hc : l.length ≤ c) (hl : l.length < 17592186044416) :
    Calls Try.prog 51 #[.slice A l.length c] w fun e w' => ∃ (Bs : Nat) (A' : Option Addr) (c' : Nat), e = .returned (.func (.func 66) #[] #[.pointer (some ⟨Bs, 0, none⟩)]) ∧ w.heap.size ≤ Bs ∧ Boxed w' Bs 23 (.slice A' l.length c') ∧ l.length ≤ c' ∧ Kd.R (Kd.int .i64) 3 w' w.heap.size (fun k => k ≠ Bs) (.slice A' l.length c') l ∧ Below w.heap.size w w' := by
  have hcp : shape_Shape_Copy.f l = some l := by unfold shape_Shape_Copy.f slices_Clone_shape_Shape_int.f; simp; omega
  go_enter Try.func51, Try.ntmps51
  go_wp2_with ((go_at_call 37; refine (shape_Shape_Copy.calls A c l l _ hr hc hcp).mono ?_; rintro e w1 ⟨v, rfl, hR, hb⟩; obtain ⟨A', c', rfl⟩ := Kd.R_slice hR))
  go_ret
  refine ⟨w1.heap.size, A', c', rfl, hb.size, Boxed.new _ _ _, (Kd.R_reads' hR).2.1, ?_, below_alloc hb _⟩
  exact Kd.R_mono (Kd.R_alloc (Kd.R_bound hR) _) (fun k hk => by have := hk.2.2.1; omega)
/-- What is yielded: the number of a place, and the place. -/
def encs (x : Nat × Value) : Array Value := #[.int .i64 (x.1 : Int), x.2]
/-- Ahead of round k the place number k is made, in new memory. -/
structure Pre (N : Nat) (pl : Nat → List Int) (k : Nat) (x : Nat × Value) (X Y : World) : Prop where
  num : x.1 = k
  lt : k < N
  below : Below X.heap.size X Y
  row : Kd.R (Kd.int .i64) 3 Y X.heap.size (fun _ => True) x.2 (pl k)
theorem Pre.grown {N : Nat} {pl : Nat → List Int} {k : Nat} {x : Nat × Value} {X Y : World} (h : Pre N pl k x X Y) : X.grownBy Y none := grown_below h.below
/-- Rows of numbers lie on where their blocks do. -/
theorem C_same {w W : World} {A : Option Addr} {l : List Int} (h : (Kd.int .i64).C w A l.length l) (hk : ∀ ad, A = some ad → 0 < l.length → W.heap[ad.block]? = w.heap[ad.block]?) : (Kd.int .i64).C W A l.length l := by
  refine ⟨rfl, h.2.1, fun hp => ?_⟩
  obtain ⟨ad, e, hc⟩ := h.2.2 hp
  have hk' := hk ad e hp
  refine ⟨ad, e, fun j p hj => ?_⟩
  obtain ⟨c, h1, h2, h3⟩ := hc j p hj
  refine ⟨c, h1, h2, fun i u hu => ?_⟩
  have h4 := h3 i u hu
  rw [← h4]
  unfold World.cell?
  have e : ∀ n, (ad.add n).block = ad.block := fun n => by unfold Addr.add; split <;> rfl
  rw [e, hk']
theorem C_lt {w : World} {A : Option Addr} {l : List Int} (h : (Kd.int .i64).C w A l.length l) : ∀ ad, A = some ad → 0 < l.length → ad.block < w.heap.size := fun ad e hp => by
  obtain ⟨ad', e', hc⟩ := h.2.2 hp
  rw [e] at e'; cases e'
  obtain ⟨c, h1, h2, h3⟩ := hc 0 l[0] (by simp)
  have h1' : c.length = 1 := h1
  have h4 := h3 0 (c[0]'(by omega)) (by simp)
  have h5 := World.block_lt_of_cell? w _ h4
  have e : ∀ n, (ad.add n).block = ad.block := fun n => by unfold Addr.add; split <;> rfl
  rwa [e] at h5
set_option maxRecDepth 100000 in
set_option maxHeartbeats 4000000 in
/-- The contract of the function that is ranged over. -/
theorem all_seq (n : Nat) (hn : 2 ≤ n) (fuel N : Nat) (pl : Nat → List Int) (e0 : Int) (he : e0 ≠ 0) (hN : N ≤ 65536) (B Bs : Nat) (A : Option Addr) (c : Nat) (l : List Int) (M : Nat → Prop) (w : World)
    (hBs : Boxed w Bs 23 (.slice A l.length c)) (hC : Kd.C (Kd.int .i64) w A l.length l) (hc : l.length ≤ c) (hB : Bs < B) (hM : ¬ M Bs) (hA : ∀ ad, A = some ad → 0 < l.length → ad.block < B ∧ ¬ M ad.block)
    (hat : ∀ k, k < N → AtW.f fuel l (k : Int) = some (pl k, 0)) (hend : AtW.f fuel l (N : Int) = some ([], e0)) :
    Seqs Fence.wide n Try.prog 66 #[.pointer (some ⟨Bs, 0, none⟩)] encs (Pre N pl) B M (fun k => k = N) (fun k => 1 ≤ k ∧ k ≤ N) w := by
  intro lp J Jx W hW hJ hY h0
  have HAT := Aside0.mk (And.intro hat hend)
  have HCC := Aside0.mk hc
  have HAB := Aside0.mk hA
  have KW : Aside0 (W.heap[Bs]? = w.heap[Bs]? ∧ (Kd.int .i64).C W A l.length l) := ⟨hW.block _ hBs.lt (by simp), Kd.C_below hC (below_grown hW)⟩
  have HB0 := Aside0.mk hBs
  clear hat hend hc hA hC hBs
  refine callsIn_of_wp Try.func66 rfl trivial ?_ rfl
  simp only [Try.ntmps66, List.size_toArray, List.length_cons, List.length_nil, Nat.reduceAdd, Nat.reduceSub, Array.replicate_succ, Array.replicate_zero, List.push_toArray, List.append_toArray, List.nil_append, List.cons_append]
  gi_wp2
  gi_loopw [3] (fun i wr => ∃ k : Nat, Aside0 (k ≤ N) ∧ i = .int .i64 (k : Int) ∧ J k wr ∧ Aside0 (wr.heap[Bs]? = w.heap[Bs]? ∧ (Kd.int .i64).C wr A l.length l)) (fun i _ => N - (intOf i).toNat)
  case atStart => exact ⟨0, ⟨Nat.zero_le _⟩, rfl, h0, KW⟩
  case round =>
    obtain ⟨k, HK, rfl, hJk, KR⟩ := hrel
    clear h0 KW
    have hb1 : wr.cell? ⟨Bs, 0, none⟩ = some (.slice A l.length c) := (show Boxed wr Bs _ _ from KR.out.1.trans HB0.out).cell
    by_cases hlt : k < N
    · have HLT := Aside0.mk hlt
      have kk : (k : Int) ≤ 70000 := by omega
      gi_wp2_with (refine ⟨trivial, fun _ => by omega, ?_⟩; gi_at_call 67; refine (callsIn_wide.2 (AtW.calls fuel A c l (k : Int) (pl k) 0 wr KR.out.2 HCC.out (HAT.out.1 k HLT.out))).mono ?_; rintro e w1 ⟨v, rfl, hR, hb⟩; have HY := hY k (k, v) wr w1 hJk ⟨rfl, HLT.out, hb, hR⟩; simp only [encs] at HY; obtain ⟨fn, tmps, assign, body, hy, hRd⟩ := HY; have HR := Aside0.mk hR; have HBL := Aside0.mk hb; clear hR hb)
      refine ⟨fun _ => by omega, hRd.mono ?_⟩
      rintro e W3 (⟨rfl, hJ3, hs3, hk3⟩ | ⟨rfl, hJx3⟩)
      · have KR3 : Aside0 (W3.heap[Bs]? = w.heap[Bs]? ∧ (Kd.int .i64).C W3 A l.length l) := by
          have hlt1 : ∀ b, b < wr.heap.size → w1.heap[b]? = wr.heap[b]? := fun b hb => HBL.out.block b hb
          have hBl : Bs < wr.heap.size := (show Boxed wr Bs _ _ from KR.out.1.trans HB0.out).lt
          refine ⟨(hk3 Bs hB hM).trans ((hlt1 Bs hBl).trans KR.out.1), C_same KR.out.2 (fun ad e hp => ?_)⟩
          have h1 := HAB.out ad e hp
          exact (hk3 _ h1.1 h1.2).trans (hlt1 _ (C_lt KR.out.2 ad e hp))
        clear hb1 hk3 hs3 hJk hy KR HB0
        gi_wp2
        go_roundw
        case rel => exact ⟨k + 1, ⟨HLT.out⟩, by go_num, hJ3, KR3⟩
        case measure => have := HLT.out; simp only [intOf]; omega
      · clear hb1 hJk hy KR HB0
        gi_wp2
        refine bodyPost_ret (results_none rfl _ _ _) rfl ?_
        exact ⟨⟨_, rfl⟩, .inr ⟨k + 1, ⟨by omega, HLT.out⟩, hJx3⟩⟩
    · obtain rfl : k = N := by have := HK.out; omega
      have hne : (e0 != 0) = true := bne_iff_ne.2 he
      have HJ0 := Aside0.mk hJk
      clear hJk
      gi_wp2_with (refine ⟨trivial, fun _ => by omega, ?_⟩; gi_at_call 67; refine (callsIn_wide.2 (AtW.calls fuel A c l (k : Int) [] e0 wr KR.out.2 HCC.out HAT.out.2)).mono ?_; rintro e w1 ⟨v, rfl, hR, hb⟩; have HBL := Aside0.mk hb; clear hR hb)
      refine ⟨fun f h => (nomatch h), ?_⟩
      gi_wp2
      refine bodyPost_ret (results_none rfl _ _ _) rfl ?_
      exact ⟨⟨_, rfl⟩, .inl ⟨k, rfl, hJ k wr w1 HJ0.out (grown_below HBL.out)⟩⟩
end Go.Proofs.Ytmekcfmhaflghaa.AllW
