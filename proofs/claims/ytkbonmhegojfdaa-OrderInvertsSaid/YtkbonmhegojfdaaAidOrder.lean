/- What mixing by draws answers, and what an order is. Conditions: at most 1024 things; draws are of 64 bits without sign. -/
import Derived.Test.YtkbonmhegojfdaaPOrdx1
import Derived.Test.YtkbonmhegojfdaaAidList
import Derived.Test.YtkbonmhegojfdaaAidSame
set_option linter.unusedSimpArgs false
set_option linter.unusedVariables false
namespace Go.Proofs.Ytkbonmhegojfdaa.AidOrder
open Go.RowKit Go.Proofs.Ytkbonmhegojfdaa.POrd Go.Proofs.Ytkbonmhegojfdaa.Aid Go.Proofs.Ytkbonmhegojfdaa.AidList Go.Proofs.Ytkbonmhegojfdaa.AidShape Go.Proofs.YtkbonmhegojfdaaW.PrintWords Go.Proofs.YtkbonmhegojfdaaW.PrintLast Go.Proofs.YtkbonmhegojfdaaW.PrintMore
def swp (l : List Int) (p q : Nat) : List Int := (l.set p (rd l (q : Int))).set q (rd l (p : Int))
theorem swp_length (l : List Int) (p q : Nat) : (swp l p q).length = l.length := by simp [swp]
theorem swp_perm {l : List Int} {p q : Nat} (hp : p < l.length) (hq : q < l.length) : (swp l p q).Perm l := by
  unfold swp; rw [rd_nat l q hq, rd_nat l p hp]; exact List.set_set_perm hp hq
def iota (n : Nat) : List Int := (List.range n).map fun i : Nat => (i : Int)
theorem iota_length (n : Nat) : (iota n).length = n := by simp [iota]
theorem iota_rd {n i : Nat} (h : i < n) : rd (iota n) (i : Int) = (i : Int) := by rw [rd_nat _ _ (by rw [iota_length]; exact h)]; simp [iota]
theorem iota_succ (n : Nat) : iota (n + 1) = iota n ++ [(n : Int)] := by simp [iota, List.range_succ]
theorem iota_mem {n : Nat} {x : Int} : x ∈ iota n ↔ 0 ≤ x ∧ x < n := by
  simp only [iota, List.mem_map, List.mem_range]
  constructor
  · rintro ⟨i, h, rfl⟩; omega
  · rintro ⟨h0, h1⟩; exact ⟨x.toNat, by omega, by omega⟩
theorem iota_nodup (n : Nat) : (iota n).Nodup := by
  unfold iota List.Nodup
  rw [List.pairwise_map]
  exact List.Pairwise.imp (fun h e => h (by omega)) (List.nodup_range (n := n))
theorem iota_count {n i : Nat} (h : i < n) : (iota n).count (i : Int) = 1 := by
  rw [(iota_nodup n).count, if_pos (iota_mem.2 ⟨by omega, by omega⟩)]
def U64 (d : List Int) : Prop := ∀ x ∈ d, 0 ≤ x ∧ x ≤ 18446744073709551615
theorem U64.of {d : List Int} (h : ∀ x ∈ d, (Lit.int .u64 x).wf = true) : U64 d := fun x hx => by
  have := h x hx
  simp [Lit.wf, IntKind.min, IntKind.max, IntKind.signed, IntKind.bits] at this
  omega
theorem U64.rd {d : List Int} (h : U64 d) (i : Nat) : 0 ≤ rd d (i : Int) ∧ rd d (i : Int) ≤ 18446744073709551615 := by
  rcases Nat.lt_or_ge i d.length with hi | hi
  · rw [rd_nat d i hi]; exact h _ (List.getElem_mem hi)
  · have : Go.Proofs.YtkbonmhegojfdaaW.PrintWords.rd d (i : Int) = 0 := by simp [Go.Proofs.YtkbonmhegojfdaaW.PrintWords.rd, List.getD_eq_getElem?_getD, List.getElem?_eq_none hi]
    rw [this]; omega
theorem rd_out {d : List Int} {i : Nat} (hi : d.length ≤ i) : rd d (i : Int) = 0 := by simp [rd, List.getD_eq_getElem?_getD, List.getElem?_eq_none hi]
def toOf (d : List Int) (k a : Nat) : Nat := (rd d (k : Int) % ((a : Int) + 1)).toNat
theorem toOf_le (d : List Int) (k a : Nat) : toOf d k a ≤ a := by
  unfold toOf
  have h := Int.emod_lt_of_pos (rd d (k : Int)) (show 0 < (a : Int) + 1 by omega)
  omega
def mixs (d : List Int) (n : Nat) : Nat → List Int → List Int
  | 0, l => l
  | a + 1, l => mixs d n a (swp l (a + 1) (toOf d (n - 1 - (a + 1)) (a + 1)))
theorem mixs_perm (d : List Int) (n : Nat) : ∀ (a : Nat) (l : List Int), l.length = n → (a = 0 ∨ a < n) → (mixs d n a l).Perm l := by
  intro a
  induction a with
  | zero => intro l _ _; exact .refl _
  | succ a ih =>
    intro l hl ha
    have h1 := toOf_le d (n - 1 - (a + 1)) (a + 1)
    exact (ih _ (by rw [swp_length]; exact hl) (by omega)).trans (swp_perm (by omega) (by omega))
theorem mixs_congr {d e : List Int} (n : Nat) : ∀ (a : Nat) (l : List Int), (∀ k b, k + b + 1 = n → 0 < b → b ≤ a → toOf d k b = toOf e k b) → (a = 0 ∨ a < n) → mixs d n a l = mixs e n a l := by
  intro a
  induction a with
  | zero => intro l _ _; rfl
  | succ a ih =>
    intro l h ha
    simp only [mixs]
    rw [h (n - 1 - (a + 1)) (a + 1) (by omega) (by omega) (by omega)]
    exact ih _ (fun k b hk hb hb' => h k b hk hb (by omega)) (by omega)
theorem toOf_tmod {d : List Int} (hd : U64 d) (k a : Nat) (ha : a ≤ 1024) : wrap64 (Int.tmod (rd d (k : Int)) ((a : Int) + 1)) = ((toOf d k a : Nat) : Int) := by
  have h := hd.rd k
  have h1 := Int.emod_lt_of_pos (rd d (k : Int)) (show 0 < (a : Int) + 1 by omega)
  have h2 := Int.emod_nonneg (rd d (k : Int)) (show (a : Int) + 1 ≠ 0 by omega)
  rw [Int.tmod_eq_emod_of_nonneg h.1, w64 (by omega) (by omega)]
  unfold toOf
  omega
theorem mixLoop (d : List Int) (n : Nat) (hn : n ≤ 1024) (hd : U64 d) : ∀ (a : Nat) (l : List Int), l.length = n → (a = 0 ∨ a < n) → Ev (fun k => order_Mix.l1 k (n : Int) d l (a : Int)) (mixs d n a l, 0) := by
  intro a
  induction a with
  | zero =>
    intro l hl ha
    refine Ev.step (fun k => ?_) (Ev.now _)
    simp only [order_Mix.l1]; rw [if_neg (by omega)]; rfl
  | succ a ih =>
    intro l hl ha
    have hto := toOf_le d (n - 1 - (a + 1)) (a + 1)
    refine Ev.step (fun k => ?_) (ih (swp l (a + 1) (toOf d (n - 1 - (a + 1)) (a + 1))) (by rw [swp_length]; exact hl) (by omega))
    simp only [order_Mix.l1]
    have e1 : wrap64 ((wrap64 ((n : Int) - 1)) - ((a + 1 : Nat) : Int)) = ((n - 1 - (a + 1) : Nat) : Int) := by
      rw [w64 (x := (n : Int) - 1) (by omega) (by omega), w64 (by omega) (by omega)]; omega
    have e2 : wrap64 (((a + 1 : Nat) : Int) + 1) = ((a + 1 : Nat) : Int) + 1 := w64 (by omega) (by omega)
    have e3 : IntKind.u64.wrap (((a + 1 : Nat) : Int) + 1) = ((a + 1 : Nat) : Int) + 1 := wu64 (by omega) (by omega)
    have e4 : wrap64 (((a + 1 : Nat) : Int) - 1) = (a : Int) := by rw [w64 (by omega) (by omega)]; omega
    rw [if_pos (show ((a + 1 : Nat) : Int) > 0 by omega), e1, e2, e3, e4, toOf_tmod hd _ _ (by omega)]
    by_cases c : n - 1 - (a + 1) < d.length
    · rw [if_pos (by omega), if_pos (by omega), if_neg (by omega), if_pos (by omega), if_pos (by omega), if_pos (by omega), if_pos (by omega), Int.toNat_natCast, Int.toNat_natCast]
      rfl
    · have e5 : toOf d (n - 1 - (a + 1)) (a + 1) = 0 := by unfold toOf; rw [rd_out (by omega)]; simp
      rw [if_neg (by omega), if_neg (by omega), if_pos (by omega), if_pos (by omega), if_pos (by omega), e5, Int.toNat_natCast]
      rfl
theorem fillLoop (d : List Int) (n : Nat) (hn : n ≤ 1024) {r : List Int × Int} (hK : Ev (fun k => order_Mix.l1 k (n : Int) d (iota n) (wrap64 ((n : Int) - 1))) r) : ∀ m i : Nat, i + m = n → Ev (fun k => order_Mix.l0 k (n : Int) d (mixL (iota n) (List.replicate n 0) i) (n : Int) (i : Int)) r := by
  have hT : (iota n).length = (List.replicate n (0 : Int)).length := by rw [iota_length, List.length_replicate]
  intro m
  induction m with
  | zero =>
    intro i hi
    refine Ev.step (fun k => ?_) hK
    simp only [order_Mix.l0]
    rw [if_neg (by omega), mixL_end hT (by rw [List.length_replicate]; omega)]
  | succ m ih =>
    intro i hi
    refine Ev.step (fun k => ?_) (ih (i + 1) (by omega))
    have hl := mixL_length hT i
    rw [List.length_replicate] at hl
    have hs := mixL_set hT (i := i) (by rw [List.length_replicate]; omega)
    rw [iota_rd (by omega)] at hs
    simp only [order_Mix.l0]
    rw [if_pos (by omega), if_pos (by omega), if_pos (by omega), Int.toNat_natCast, hs, w64s (n := n) (by omega) (by omega)]
def mixOf (d : List Int) (n : Nat) : List Int := mixs d n (n - 1) (iota n)
theorem mixOf_perm (d : List Int) (n : Nat) : (mixOf d n).Perm (iota n) := mixs_perm d n _ _ (iota_length n) (by omega)
theorem mix_ev (d : List Int) (n : Nat) (hn : n ≤ 1024) (hd : U64 d) : Ev (fun k => order_Mix.f k (n : Int) d) (mixOf d n, 0) := by
  unfold order_Mix.f
  have c0 : ¬ ((n : Int) < 0) := by omega
  have c1 : ¬ ((n : Int) > 1024) := by omega
  simp only [c0, c1, if_false, decide_false]
  refine Ev.step (f := fun k => order_Mix.l0 k (n : Int) d (List.replicate n 0) (n : Int) 0) (fun k => ?_) ?_
  · simp only [order_Mix.j0]
    rw [if_neg (by decide), if_pos (by omega), if_pos (by omega), Option.bind_some, Int.toNat_natCast, List.length_replicate]
  · have h := fillLoop d n hn (r := (mixOf d n, 0)) ?_ n 0 (by omega)
    · rw [mixL_zero] at h; exact h
    · rcases Nat.eq_zero_or_pos n with h0 | h0
      · subst h0
        refine Ev.step (fun k => ?_) (Ev.now _)
        simp only [order_Mix.l1]; rw [if_neg (by rw [w64 (by omega) (by omega)]; omega)]; rfl
      · rw [show wrap64 ((n : Int) - 1) = ((n - 1 : Nat) : Int) by rw [w64 (by omega) (by omega)]; omega]
        exact mixLoop d n hn hd (n - 1) _ (iota_length n) (by omega)
theorem mixbad_ev (d : List Int) (n : Int) (hn : n < 0 ∨ n > 1024) : Ev (fun k => order_Mix.f k n d) ([], 11) := by
  unfold order_Mix.f
  have h : Ev (fun k => order_Mix.j0 k n d true) ([], 11) := Ev.step (fun k => by simp only [order_Mix.j0]; rfl) (Ev.now _)
  by_cases c : n < 0
  · simp only [c, if_true]; exact h
  · have c1 : n > 1024 := by omega
    simp only [c, c1, if_false, decide_true]; exact h
end Go.Proofs.Ytkbonmhegojfdaa.AidOrder
