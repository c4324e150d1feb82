/- What athanorref04.Parts answers: how many places there are ahead of a side, and behind it. Conditions: a side that there is. -/
import Derived.Test.YtmekcfmhaflghaaPJoix5
import Derived.Test.YtmekcfmhaflghaaAuto
set_option linter.unusedVariables false
set_option linter.unusedSimpArgs false
namespace Go.Proofs.Ytmekcfmhaflghaa.PartsW
open Go.RowKit Go.Shelf Go.Proofs Go.Proofs.Ytmekcfmhaflghaa.PJoi Go.Proofs.Ytmekcfmhaflghaa.Auto Go.Proofs.YtmekcfmhaflghaaW.PrintWords Go.Proofs.YtmekcfmhaflghaaW.PrintLast Go.Proofs.YtmekcfmhaflghaaW.PrintMore
def f (k : Nat) (l0 : List Int) (a1 : Int) : Option (Int × Int) := if 0 ≤ a1 ∧ a1 < (l0.length : Int) ∧ l0.length ≤ 1000000 then ((athanorref03_Size.f k (l0.take a1.toNat)).bind fun t => (athanorref03_Size.f k (l0.drop (a1 + 1).toNat)).bind fun u => some (t, u)) else none
theorem mono : ∀ a0 a1 k, LeO (f k a0 a1) (f (k + 1) a0 a1) := by
  intro a0 a1 k
  unfold f
  repeat' first
    | (with_reducible exact athanorref03_Size.mono _ _)
    | (with_reducible exact LeO.refl _)
    | (with_reducible refine LeO.ite ?_ ?_)
    | (with_reducible refine LeO.bind ?_ (fun _ => ?_))
set_option maxRecDepth 100000 in
set_option maxHeartbeats 8000000 in
theorem calls (k : Nat) (A0 : Option Addr) (c0 : Nat) (l0 : List Int) (a1 : Int) (r1 : Int) (r2 : Int) (w : World) (hr0 : Kd.C (Kd.int .i64) w A0 l0.length l0) (hc0 : l0.length ≤ c0) (h : f k l0 a1 = some (r1, r2)) :
    Calls Try.prog 54 #[.slice A0 l0.length c0, .int .i64 a1] w fun e w' => e = .returned (.tuple #[.int .i64 r1, .int .i64 r2]) ∧ Below w.heap.size w w' := by
  have hmx : Try.prog.follows .mixedOrders = true := by kernel_rfl
  unfold f at h
  split at h
  case isFalse => cases h
  case isTrue hk =>
  obtain ⟨t, h1, h'⟩ := Option.bind_eq_some_iff.1 h
  clear h
  obtain ⟨u, h2, h⟩ := Option.bind_eq_some_iff.1 h'
  clear h'
  simp only [Option.some.injEq, Prod.mk.injEq] at h
  obtain ⟨rfl, rfl⟩ := h
  obtain ⟨i0, hi0, _, hsz0, _⟩ := info_parts info3
  obtain ⟨hcut, hA, hC⟩ := print_take_of (P := Try.prog) (Value.int .i64) 0 22 3 .i64 Try.underlying22 hi0 hsz0 A0 c0 l0 a1 hk.1 (by omega) hc0
  obtain ⟨A', hcut', hA', hC'⟩ := print_drop_of (P := Try.prog) (Value.int .i64) 0 22 3 .i64 Try.underlying22 hi0 hsz0 A0 c0 l0 (a1 + 1) (by omega) (by omega) hc0
  generalize l0.take a1.toNat = T at hcut hA hC h1
  generalize l0.drop (a1 + 1).toNat = U at hcut' hA' hC' h2
  have HR := Aside0.mk (And.intro (Kd.C_of_reads (h1 := fun _ => rfl) (hA w (Kd.reads_of_C hr0))) (Kd.C_of_reads (h1 := fun _ => rfl) (hA' w (Kd.reads_of_C hr0))))
  have HC := Aside0.mk (And.intro hC (And.intro hC' (And.intro h1 h2)))
  have b0 : 0 ≤ a1 := hk.1
  have b1 : a1 ≤ 1000000 := by omega
  clear hA hA' hC hC' hr0 hc0 h1 h2 hk hi0 hsz0
  go_enter Try.func54, Try.ntmps54
  go_wp2
  refine startO [(0, some 6), (1, some 7), (2, some 8), (4, some 10), (5, some 11), (6, some 12), (7, some 13), (3, some 9), (8, some 14), (9, some 4), (10, some 5)] (n := 11) (S := fun W => Below w.heap.size w W) (ds := []) hmx rfl (by kernel_rfl) (below_drew1 (Below.refl _ _)) (fun hS => ?_)
  have hw : IntKind.i64.wrap (a1 + 1) = a1 + 1 := by rw [i64_w]; unfold wrap64; omega
  iterate 7 (first
   | (refine pureO rfl rfl (by kernel_rfl) (by exact fun _ _ _ h => h) (Or.inr ⟨by rfl, rfl⟩) (by simp only [Act.put, List.setIfInBounds_toArray, List.set_cons_zero, List.set_cons_succ]; rfl) ?_)
   | (refine pureO rfl rfl (by kernel_rfl) (by exact fun _ _ _ h => h) (Or.inl ⟨by rfl, by intro w_; go_simp; with_reducible rfl⟩) (by simp only [Act.put, List.setIfInBounds_toArray, List.set_cons_zero, List.set_cons_succ]; rfl) ?_)
   | (refine takeO rfl rfl (by kernel_rfl) (by exact fun _ _ _ h => h) hS (Or.inl ⟨by rfl, by rintro w_ _; go_simp; with_reducible rfl⟩) (by simp only [Act.put, List.setIfInBounds_toArray, List.set_cons_zero, List.set_cons_succ]; rfl) ?_))
  refine oneO rfl rfl (by kernel_rfl) (by decide) (fun K hK => ?_)
  refine goes_ Try.func17 (by kernel_rfl) rfl #[.slice A0 T.length c0] (by rfl) rfl rfl (by simp only [List.map_toArray, List.map_cons, List.map_nil]; rfl) ?_
  refine (athanorref03_Size.calls k _ _ _ _ _ (Kd.C_below HR.out.1 hS) HC.out.1 HC.out.2.2.1).mono ?_
  rintro e w1 ⟨rfl, hd⟩
  refine ⟨_, rfl, hK.out _ _ (below_step hS (belD hd)) (fun hS1 => ?_)⟩
  clear hK K hS hd
  refine oneO rfl rfl (by kernel_rfl) (by decide) (fun K hK => ?_)
  refine goes_ Try.func17 (by kernel_rfl) rfl #[.slice A' U.length (c0 - (a1 + 1).toNat)] (by rfl) rfl rfl (by simp only [List.map_toArray, List.map_cons, List.map_nil]; rfl) ?_
  refine (athanorref03_Size.calls k _ _ _ _ _ (Kd.C_below HR.out.2 hS1) HC.out.2.1 HC.out.2.2.2).mono ?_
  rintro e w2 ⟨rfl, hd⟩
  refine ⟨_, rfl, hK.out _ _ (below_step hS1 (belD hd)) (fun hS2 => ?_)⟩
  clear hK K hS1 hd
  iterate 2 (first
   | (refine pureO rfl rfl (by kernel_rfl) (by exact fun _ _ _ h => h) (Or.inr ⟨by rfl, rfl⟩) (by simp only [Act.put, List.setIfInBounds_toArray, List.set_cons_zero, List.set_cons_succ]; rfl) ?_)
   | (refine pureO rfl rfl (by kernel_rfl) (by exact fun _ _ _ h => h) (Or.inl ⟨by rfl, by intro w_; go_simp; with_reducible rfl⟩) (by simp only [Act.put, List.setIfInBounds_toArray, List.set_cons_zero, List.set_cons_succ]; rfl) ?_)
   | (refine takeO rfl rfl (by kernel_rfl) (by exact fun _ _ _ h => h) hS2 (Or.inl ⟨by rfl, by rintro w_ _; go_simp; with_reducible rfl⟩) (by simp only [Act.put, List.setIfInBounds_toArray, List.set_cons_zero, List.set_cons_succ]; rfl) ?_))
  refine doneO (by kernel_rfl) ?_
  go_wp2
  go_ret2
  exact ⟨rfl, hS2⟩
end Go.Proofs.Ytmekcfmhaflghaa.PartsW
