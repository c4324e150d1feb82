/- What order.Take answers. Conditions: the channel is nil or holds what was fed and is shut. -/
import Derived.Test.YtkbonmhegojfdaaPOrdx0
import Derived.Test.YtkbonmhegojfdaaChan
set_option linter.unusedVariables false
set_option linter.unusedSimpArgs false
namespace Go.Proofs.Ytkbonmhegojfdaa.Chan
open Go.RowKit Go.Proofs Go.Proofs.Ytkbonmhegojfdaa.POrd Go.Proofs.YtkbonmhegojfdaaW.PrintWords Go.Proofs.YtkbonmhegojfdaaW.PrintLast Go.Proofs.YtkbonmhegojfdaaW.PrintMore
/-- All is as it was, but for the channel. -/
def OffC (cb : Nat) (w w' : World) : Prop := Below cb w w' ∧ w.heap.size ≤ w'.heap.size ∧ ∀ b, b < w.heap.size → b ≠ cb → w'.heap[b]? = w.heap[b]?
theorem OffC.refl (cb : Nat) (w : World) : OffC cb w w := ⟨Below.refl _ _, Nat.le_refl _, fun _ _ _ => rfl⟩
theorem OffC.chan {cb : Nat} {w w1 : World} (h : OffC cb w w1) (cap : Nat) (buf : Array Value) (cl : Bool) (s r : Nat) (tm : Bool) : OffC cb w (w1.setChan cb cap buf cl s r tm) :=
  ⟨Go.Conc.below_setChan h.1 (Nat.le_refl _) _ _ _ _ _ _, by rw [Go.Conc.size_setChan]; exact h.2.1, fun b hb hne => by
    rw [← h.2.2 b hb hne]
    simp only [World.setChan]; rw [Array.getElem?_setIfInBounds_ne (by omega)]⟩
theorem OffC.then {cb : Nat} {w w1 w2 : World} (h : OffC cb w w1) (hb : Below w.heap.size w1 w2) (hc : cb < w.heap.size) : OffC cb w w2 :=
  ⟨h.1.trans ⟨hb.os, hb.tape, hb.output, hb.size, fun i hi => hb.block i (by omega)⟩, Nat.le_trans h.2.1 hb.size, fun b hb' hne => (hb.block b hb').trans (h.2.2 b hb' hne)⟩
set_option maxRecDepth 100000 in
theorem take_nil (w : World) (n : Int) : Calls Try.prog 17 #[.chan none, .int .i64 n] w fun e w' => e = .returned (.slice none 0 0) ∧ w = w' := by
  by_cases hn : 0 < n
  · go_enter Try.func17, Try.ntmps17
    go_wp2
    go_loop [5] (fun v5 => v5 = .slice none 0 0) (fun _ => 0)
    case atStart => exact rfl
    case round =>
      subst hrel
      go_wp2_with (go_at_call 21; refine (one_nil _).mono ?_; rintro e w' ⟨rfl, rfl⟩)
      go_ret
      exact ⟨rfl, rfl⟩
  · go_enter Try.func17, Try.ntmps17
    go_wp2
    go_loop [5] (fun v5 => v5 = .slice none 0 0) (fun _ => 0)
    case atStart => exact rfl
    case round =>
      subst hrel
      go_wp2_with (go_at_call 21; refine (one_nil _).mono ?_; rintro e w' ⟨rfl, rfl⟩)
      go_ret
      exact ⟨rfl, rfl⟩
theorem R_chan {wr w1 : World} {base cb cap s r : Nat} {buf : Array Value} {cl tm : Bool} {v : Value} {xs : List Int} (h : Kd.R (Kd.int .u64) 41 wr base (fun _ => True) v xs) (e : wr.setChan cb cap buf cl s r tm = w1) (hcb : cb < base) : Kd.R (Kd.int .u64) 41 w1 base (fun _ => True) v xs := by
  subst e
  refine Kd.R_mono (Kd.R_move (Kd.R_bound h) (fun k hk => ?_)) (fun _ _ => trivial)
  have h2 := hk.2.1
  simp only [World.setChan]; rw [Array.getElem?_setIfInBounds_ne (by omega)]
def TakePost (w : World) (cb cap s : Nat) (tm : Bool) (l : List Int) (n : Int) (e : Ending) (w' : World) : Prop :=
  ∃ (v : Value) (m r1 : Nat), e = .returned v ∧ m = min n.toNat l.length ∧ Kd.R (Kd.int .u64) 41 w' w.heap.size (fun _ => True) v (l.take m) ∧ w'.heap[cb]? = some (.chan cap ((l.drop m).map (Value.int .u64)).toArray true s r1 tm) ∧ OffC cb w w'
theorem info41 : (Try.prog.info? 41).map (fun i => (i.zero, i.size, i.bytes)) = some (some (.int .u64 0), 1, 8) := by kernel_rfl
set_option maxRecDepth 100000 in
set_option maxHeartbeats 2000000 in
theorem take_some (w : World) (cb cap s r : Nat) (tm : Bool) (l : List Int) (n : Int) (hl : l.length < 17592186044416) (hc : w.heap[cb]? = some (.chan cap (l.map (Value.int .u64)).toArray true s r tm)) :
    Calls Try.prog 17 #[.chan (some cb), .int .i64 n] w (TakePost w cb cap s tm l n) := by
  have hcb : cb < w.heap.size := (Array.getElem?_eq_some_iff.1 hc).1
  have HL := Aside0.mk hl
  have HC0 := Aside0.mk hc
  have HCB := Aside0.mk hcb
  clear hl hc hcb
  go_enter Try.func17, Try.ntmps17
  go_wp2
  go_loopw [5] (fun v5 wr => ∃ (xs ys : List Int) (r1 : Nat), Aside0 (l = xs ++ ys) ∧ Aside0 (xs = [] ∨ (xs.length : Int) ≤ n) ∧ Aside0 (Kd.R (Kd.int .u64) 41 wr w.heap.size (fun _ => True) v5 xs) ∧ Aside0 (wr.heap[cb]? = some (.chan cap (ys.map (Value.int .u64)).toArray true s r1 tm)) ∧ Aside0 (OffC cb w wr)) (fun v5 _ => l.length - (match v5 with | .slice _ k _ => k | _ => 0))
  case atStart => exact ⟨[], l, r, ⟨rfl⟩, ⟨.inl rfl⟩, ⟨Kd.R_nil _ _ _ _ _⟩, HC0, ⟨OffC.refl _ _⟩⟩
  case round =>
    clear HC0
    obtain ⟨xs, ys, r1, HX, HN, HR, HC, HO⟩ := hrel
    obtain ⟨A5, c5, e5⟩ := Kd.R_slice HR.out
    subst e5
    by_cases hlt : (xs.length : Int) < n
    · have hlt0 : decide ((xs.length : Int) < n) = true := decide_eq_true hlt
      have HLT := Aside0.mk hlt
      clear hlt
      cases ys with
      | nil =>
        have hc1 := HC.out
        rw [List.map_nil] at hc1
        have HC1 := Aside0.mk hc1
        clear hc1
        go_wp2_with (go_at_call 21; refine (one_shut _ _ _ _ _ _ HC1.out).mono ?_; rintro e w' ⟨rfl, rfl⟩)
        go_ret
        have hx := HX.out
        rw [List.append_nil] at hx
        subst hx
        have := HLT.out
        refine ⟨_, l.length, r1, rfl, by omega, ?_, ?_, HO.out⟩
        · rw [List.take_length]; exact HR.out
        · rw [List.drop_length]; exact HC.out
      | cons x t =>
        have hw1 : cb < wr.heap.size := (Array.getElem?_eq_some_iff.1 HC.out).1
        have HW1 := Aside0.mk hw1
        clear hw1
        have hxl : xs.length < 17592186044416 := by
          have h1 := HL.out
          rw [HX.out, List.length_append, List.length_cons] at h1
          omega
        have LM := Aside0.mk hxl
        clear hxl
        have hsz : w.heap.size ≤ wr.heap.size := HO.out.2.1
        have HSZ := Aside0.mk hsz
        clear hsz
        go_wp2_with (first | (go_at_call 21; refine (one_some _ _ _ _ _ _ _ _ _ HC.out).mono ?_; rintro e w1 ⟨rfl, hw1⟩; have HW := Aside0.mk hw1; clear hw1; have HR1 := Aside0.mk (R_chan HR.out HW.out HCB.out); have HS1 := Aside0.mk (show w.heap.size ≤ w1.heap.size by rw [← HW.out, Go.Conc.size_setChan]; exact HSZ.out)) | ((with_reducible refine gate_builtin (b := .append) (xs := #[.tmp 19, .tmp 21]) rfl ?_); at_builtin; refine Kd.R_append (Kd.int .u64) (w0 := w1) w.heap.size rfl (.tmp 19) (.tmp 21) 22 41 (.int .u64 0) 8 rfl Try.underlying22 info41 rfl (by decide) (by omega) (.slice A5 xs.length c5) xs x [.int .u64 x] (fun _ => True) (fun _ => False) rfl rfl ?aP (fun _ hk => hk.elim) ?aF ?aO ?aB ?aS ?aL ?_; (case aP => exact rfl); (case aB => exact Below.refl _ _); (case aF => exact (fun _ _ => trivial)); (case aO => exact HR1.out); (case aS => exact HS1.out); (case aL => have := LM.out; omega); intro v134 w5 ho hb hg hat; have HB5 := Aside0.mk hb; have HO5 := Aside0.mk ho; clear ho hb hg hat))
        go_roundw
        case measure =>
          obtain ⟨A6, c6, e6⟩ := Kd.R_slice HO5.out
          subst e6
          have h1 := HX.out
          rw [h1]; simp; omega
        case rel =>
          have hx2 : l = (xs ++ [x]) ++ t := by rw [HX.out]; simp
          refine ⟨xs ++ [x], t, r1 + 1, ⟨hx2⟩, ⟨.inr ?_⟩, HO5, ⟨?_⟩, ⟨?_⟩⟩
          · have := HLT.out; simp; omega
          · have h2 := HB5.out
            rw [h2.block cb HCB.out, ← HW.out]
            exact Go.Conc.heap_setChan _ _ _ _ _ _ _ _ HW1.out
          · refine OffC.then (w1 := w1) ?_ HB5.out HCB.out
            rw [← HW.out]
            exact OffC.chan HO.out _ _ _ _ _ _
    · have hlt0 : decide ((xs.length : Int) < n) = false := decide_eq_false hlt
      have HLT := Aside0.mk hlt
      clear hlt
      go_wp2
      go_ret
      have hx := HX.out
      have h1 := HLT.out
      have h2 := HN.out
      have h3 : xs.length = min n.toNat l.length := by
        rw [hx, List.length_append]
        rcases h2 with h2 | h2
        · subst h2; simp at h1 ⊢; omega
        · omega
      refine ⟨_, xs.length, r1, rfl, h3, ?_, ?_, HO.out⟩
      · rw [hx, List.take_left' rfl]; exact HR.out
      · rw [hx, List.drop_left' rfl]; exact HC.out
end Go.Proofs.Ytkbonmhegojfdaa.Chan
