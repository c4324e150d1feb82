/- The channel functions of package order: what one, Feed and Take answer. Conditions: the channel is nil or holds what was fed. -/
import Derived.Test.YtkbonmhegojfdaaProg
import Derived.Conc.LoneSelect
import Derived.KernelRfl
import Derived.Laws.Rows
namespace Go.Proofs.Ytkbonmhegojfdaa.Chan
open Go.Conc Go.RowKit Go.Proofs

set_option maxRecDepth 100000 in
theorem one_nil (w : World) : Calls Try.prog 21 #[.chan none] w fun e w' => e = .returned (.tuple #[.int .u64 0, .bool false]) ∧ w = w' := by
  refine calls_of_loneTo fun cs => ?_
  have e : Frame.enter Try.prog 21 #[.chan none] .normal = (base 21).at ⟨#[.chan none, undef, undef, undef, undef, undef, undef, undef, undef, undef, undef, undef, undef, undef], []⟩ [.code (Try.f21.body.getD .skip)] := by
    simp [Frame.enter, Frame.at, Try.func21, base, Try.f21]
  rw [e]
  refine LoneTo.goes (n := 11) ?_
  simp only [Try.f21, Option.getD_some]
  s_c stepG_seq
  s_reg
  s_op
  s_op
  s_c stepG_region_end
  s_c stepG_seq
  s_reg
  s_op
  s_c stepG_region_end
  s_c stepG_seq
  s_reg
  s_stop
  refine LoneTo.step (step_lone_select_recv_nil (z := .int .u64 0) (stepG_comm (cases := #[rcaseNil (.int .u64 0)]) (blocking := false) (shape := .select) (w' := w) rfl rfl (by decide) (by simp [go_sem, execOp, rcaseNil, Act.eval]))) ?_
  rw [Frame.finish_at]
  walk_nrm
  refine LoneTo.goes (n := 11) ?_
  s_op
  s_op
  s_c stepG_region_end
  s_c stepG_block
  s_cond false
  s_c stepG_seq
  s_reg
  s_op
  s_op
  s_c stepG_region_end
  s_c stepG_ret'
  s_stop
  exact LoneTo.done ⟨.returned (.tuple #[.int .u64 0, .bool false]), _, rfl, ⟨rfl, rfl⟩, rfl, rfl, rfl, rfl, _, Try.func21, by simp [results, Try.f21, Frame.at]⟩

set_option maxRecDepth 100000 in
theorem one_shut (w : World) (c cap s r : Nat) (tm : Bool) (hc : w.heap[c]? = some (.chan cap #[] true s r tm)) : Calls Try.prog 21 #[.chan (some c)] w fun e w' => e = .returned (.tuple #[.int .u64 0, .bool false]) ∧ w = w' := by
  refine calls_of_loneTo fun cs => ?_
  have e : Frame.enter Try.prog 21 #[.chan (some c)] .normal = (base 21).at ⟨#[.chan (some c), undef, undef, undef, undef, undef, undef, undef, undef, undef, undef, undef, undef, undef], []⟩ [.code (Try.f21.body.getD .skip)] := by
    simp [Frame.enter, Frame.at, Try.func21, base, Try.f21]
  rw [e]
  refine LoneTo.goes (n := 11) ?_
  simp only [Try.f21, Option.getD_some]
  s_c stepG_seq
  s_reg
  s_op
  s_op
  s_c stepG_region_end
  s_c stepG_seq
  s_reg
  s_op
  s_c stepG_region_end
  s_c stepG_seq
  s_reg
  s_stop
  refine LoneTo.step (step_lone_select_recv_shut (c := c) (z := .int .u64 0) (stepG_comm (cases := #[rcase c (.int .u64 0)]) (blocking := false) (shape := .select) (w' := w) rfl rfl (by decide) (by simp [go_sem, execOp, rcase, Act.eval])) hc) ?_
  rw [Frame.finish_at]
  walk_nrm
  refine LoneTo.goes (n := 20) ?_
  s_op
  s_op
  s_c stepG_region_end
  s_c stepG_block
  s_cond true
  s_c stepG_seq
  s_reg
  s_op
  s_op
  s_op
  s_op
  s_c stepG_region_end
  s_c stepG_seq
  s_reg
  s_op
  s_op
  s_op
  s_op
  s_c stepG_region_end
  s_c stepG_ret'
  s_stop
  exact LoneTo.done ⟨.returned (.tuple #[.int .u64 0, .bool false]), _, rfl, ⟨rfl, rfl⟩, rfl, rfl, rfl, rfl, _, Try.func21, by simp [results, Try.f21, Frame.at]⟩

set_option maxRecDepth 100000 in
theorem one_some (w : World) (c cap s r : Nat) (tm cl : Bool) (x : Int) (l : List Int) (hc : w.heap[c]? = some (.chan cap ((x :: l).map (Value.int .u64)).toArray cl s r tm)) : Calls Try.prog 21 #[.chan (some c)] w fun e w' => e = .returned (.tuple #[.int .u64 x, .bool true]) ∧ w.setChan c cap (l.map (Value.int .u64)).toArray cl s (r + 1) tm = w' := by
  refine calls_of_loneTo fun cs => ?_
  have e : Frame.enter Try.prog 21 #[.chan (some c)] .normal = (base 21).at ⟨#[.chan (some c), undef, undef, undef, undef, undef, undef, undef, undef, undef, undef, undef, undef, undef], []⟩ [.code (Try.f21.body.getD .skip)] := by
    simp [Frame.enter, Frame.at, Try.func21, base, Try.f21]
  rw [e]
  refine LoneTo.goes (n := 11) ?_
  simp only [Try.f21, Option.getD_some]
  s_c stepG_seq
  s_reg
  s_op
  s_op
  s_c stepG_region_end
  s_c stepG_seq
  s_reg
  s_op
  s_c stepG_region_end
  s_c stepG_seq
  s_reg
  s_stop
  refine LoneTo.step (step_lone_select_recv_buf (c := c) (z := .int .u64 0) (stepG_comm (cases := #[rcase c (.int .u64 0)]) (blocking := false) (shape := .select) (w' := w) rfl rfl (by decide) (by simp [go_sem, execOp, rcase, Act.eval])) hc (by simp)) ?_
  rw [Frame.finish_at]
  walk_nrm
  refine LoneTo.goes (n := 20) ?_
  s_op
  s_op
  s_c stepG_region_end
  s_c stepG_block
  s_cond true
  s_c stepG_seq
  s_reg
  s_op
  s_op
  s_op
  s_op
  s_c stepG_region_end
  s_c stepG_seq
  s_reg
  s_op
  s_op
  s_op
  s_op
  s_c stepG_region_end
  s_c stepG_ret'
  s_stop
  refine LoneTo.done ⟨.returned (.tuple #[.int .u64 x, .bool true]), _, rfl, ⟨rfl, ?_⟩, rfl, rfl, rfl, rfl, _, Try.func21, by simp [results, Try.f21, Frame.at]⟩
  rw [List.take_of_length_le (by simp)]
theorem bytes41 : ∃ i, Try.prog.info? 41 = some i ∧ i.bytes = 8 := by
  have h : (Try.prog.info? 41).map (·.bytes) = some 8 := by kernel_rfl
  obtain ⟨i, hi, hb⟩ := Option.map_eq_some_iff.1 h
  exact ⟨i, hi, hb⟩
theorem mkc (n : Nat) (hn : n ≤ 17592186044415) (w : World) : (Instr.makeChan 48 (.int .i64 (n : Int))).run Try.prog w = .ok (.chan (some w.heap.size)) (w.alloc (.chan n #[] false 0 0 false)) := by
  obtain ⟨i, hi, hb⟩ := bytes41
  simpa using run_makeChan (P := Try.prog) (w := w) Try.underlying48 hi .i64 n (by omega) (by rw [hb]; omega)
def FeedQ (w : World) (l : List Int) (cs : List Frame) : Goroutine → World → Prop := fun g' w' => ∃ e fr, g' = G fr cs ∧ (e = .returned (.chan (some w.heap.size)) ∧ w'.heap[w.heap.size]? = some (.chan l.length (l.map (Value.int .u64)).toArray true l.length 0 false) ∧ Below w.heap.size w w') ∧ fr.fn = 16 ∧ fr.leaving Try.prog w' e
set_option maxRecDepth 100000 in
theorem feed_any (w : World) (A : Option Addr) (cap : Nat) (l : List Int) (hl : l.length ≤ 17592186044415) (hA : 0 < l.length → ∃ ad, A = some ad ∧ ∀ j, j < l.length → w.cell? (ad.add j) = some (.int .u64 (l.getD j 0))) :
    Calls Try.prog 16 #[.slice A l.length cap] w fun e w' => e = .returned (.chan (some w.heap.size)) ∧ w'.heap[w.heap.size]? = some (.chan l.length (l.map (Value.int .u64)).toArray true l.length 0 false) ∧ Below w.heap.size w w' := by
  refine calls_of_loneTo fun cs => ?_
  have e : Frame.enter Try.prog 16 #[.slice A l.length cap] .normal = (base 16).at ⟨#[.slice A l.length cap, undef, undef, undef, undef, undef, undef, undef, undef, undef, undef, undef, undef, undef, undef, undef, undef, undef, undef, undef], []⟩ [.code (Try.f16.body.getD .skip)] := by
    simp [Frame.enter, Frame.at, Try.func16, base, Try.f16]
  rw [e]
  clear e
  have hmc := mkc l.length hl
  refine LoneTo.goes (n := 20) ?_
  simp only [Try.f16, Option.getD_some]
  s_c stepG_seq
  s_reg
  s_op
  s_c stepG_region_end
  s_c stepG_seq
  s_reg
  s_op
  s_op
  s_op
  s_op
  s_c stepG_region_end
  s_c stepG_seq
  s_c stepG_seq
  s_reg
  s_op
  s_op
  s_op
  s_c stepG_region_end
  s_c stepG_block
  s_c stepG_loop
  s_stop
  clear hmc
  show LoneTo Try.prog (FeedQ w l cs) _ _
  generalize hB : [Item.code _, Item.inLoop _, Item.inBlock 0, Item.code _] = B
  have key : ∀ (d i : Nat) (x5 x12 x13 x14 x15 x16 x17 : Value) (wi : World), i + d = l.length → wi.heap[w.heap.size]? = some (.chan l.length ((l.take i).map (Value.int .u64)).toArray false i 0 false) → Below w.heap.size w wi →
      LoneTo Try.prog (FeedQ w l cs) (G ((base 16).at ⟨#[.slice A l.length cap, undef, .chan none, .chan (some w.heap.size), undef, x5, .slice A l.length cap, .int .i64 l.length, .chan (some w.heap.size), .slice A l.length cap, .int .i64 l.length, .int .i64 (i : Int), x12, x13, x14, x15, x16, x17, undef, undef], []⟩ B) cs) wi := by
    intro d
    induction d with
    | zero =>
      intro i x5 x12 x13 x14 x15 x16 x17 wi hi hc hb
      subst hB
      obtain rfl : i = l.length := by omega
      have hcl := fun ats ty => run_close_open (P := Try.prog) (w := wi) ats ty hc
      refine LoneTo.goes (n := 40) ?_
      s_c stepG_seq
      s_reg
      s_op
      s_c stepG_region_end
      s_c stepG_seq
      s_cond false
      s_exit
      s_c stepG_seq
      s_reg
      s_op
      s_op
      s_c stepG_region_end
      s_c stepG_seq
      s_reg
      s_op
      s_op
      s_c stepG_region_end
      s_c stepG_ret'
      s_stop
      refine LoneTo.done ⟨.returned (.chan (some w.heap.size)), _, rfl, ⟨rfl, ?_, ?_⟩, rfl, rfl, rfl, rfl, _, Try.func16, by simp [results, Try.f16, Frame.at]⟩
      · exact heap_setChan wi w.heap.size l.length _ true l.length 0 false (Array.getElem?_eq_some_iff.1 hc).1
      · exact below_setChan hb (Nat.le_refl _) _ _ _ _ _ _
    | succ d ih =>
      intro i x5 x12 x13 x14 x15 x16 x17 wi hi hc hb
      have ih' := ih (i + 1)
      subst hB
      obtain ⟨ad, rfl, hcell⟩ := hA (by omega)
      have hcl := hcell i (by omega)
      have hcl' := (hb.cell (World.block_lt_of_cell? w _ hcl)).trans hcl
      have hlt : decide (i < l.length) = true := by simp; omega
      have hlt2 : i < l.length := by omega
      have htake : (l.take (i + 1)).map (Value.int .u64) = (l.take i).map (Value.int .u64) ++ [.int .u64 (l.getD i 0)] := by
        rw [List.take_succ_eq_append_getElem hlt2, List.map_append, List.getD_eq_getElem?_getD, List.getElem?_eq_getElem hlt2]; rfl
      generalize l.getD i 0 = x at hcl' htake
      clear hcl hcell
      refine LoneTo.goes (n := 18) ?_
      s_c stepG_seq
      s_reg
      s_op
      s_c stepG_region_end
      s_c stepG_seq
      s_cond true
      s_c stepG_skip
      s_c stepG_seq
      s_c stepG_block
      s_c stepG_seq
      s_reg
      s_op
      s_op
      s_op
      s_c stepG_region_end
      s_reg
      s_op
      s_op
      s_stop
      refine LoneTo.step (step_lone_send_room (c := w.heap.size) (cap := l.length) (buf := ((l.take i).map (Value.int .u64)).toArray) (s := i) (r := 0) (tm := false) (stepG_comm (cases := #[scase w.heap.size (.int .u64 x) (.tuple #[])]) (blocking := true) (shape := .send) (w' := wi) rfl rfl (by decide) (by simp [execOp, scase, Act.eval])) hc (by simp; omega)) ?_
      rw [Frame.finish_at]
      walk_nrm
      refine LoneTo.goes (n := 7) ?_
      s_c stepG_region_end
      s_c stepG_inBlock
      s_reg
      s_op
      s_op
      s_c stepG_region_end
      s_c stepG_inLoop
      have hw1 : IntKind.i64.wrap ((i : Int) + 1) = ((i + 1 : Nat) : Int) := by rw [IntKind.wrap_i64]; omega
      simp only [hw1]
      s_stop
      refine ih' _ _ _ _ _ _ _ _ (by omega) ?_ (below_setChan hb (Nat.le_refl _) _ _ _ _ _ _)
      rw [heap_setChan _ _ _ _ _ _ _ _ (Array.getElem?_eq_some_iff.1 hc).1, htake]
      simp
  exact key l.length 0 _ _ _ _ _ _ _ _ (by omega) (heap_alloc_new _ _) ((Below.refl _ w).alloc (Nat.le_refl _) _)
end Go.Proofs.Ytkbonmhegojfdaa.Chan
