/- Batches are all things in order, each batch of its own memory: the walk of OrderBatches, by hand. Conditions: those of the row. -/
import Derived.Test.YtkbonmhegojfdaaPOrdAw
import Derived.Test.YtkbonmhegojfdaaBat2
import Derived.Test.YtkbonmhegojfdaaAidSame
set_option linter.unusedVariables false
set_option linter.unusedSimpArgs false
namespace Go.Proofs.Ytkbonmhegojfdaa.Batches
open Go.RowKit Go.Shelf Go.Proofs Go.Proofs.Ytkbonmhegojfdaa.POrd Go.Proofs.Ytkbonmhegojfdaa.Bat2 Go.Proofs.Ytkbonmhegojfdaa.Awk Go.Proofs.YtkbonmhegojfdaaW.PrintWords Go.Proofs.YtkbonmhegojfdaaW.PrintLast Go.Proofs.YtkbonmhegojfdaaW.PrintMore Go.Proofs.Ytkbonmhegojfdaa.XW
theorem bad_size (A : Option Addr) (n cap : Nat) (sz : Int) (h : sz < 1 ∨ 64 < sz) (w : World) : Calls Try.prog 15 #[.slice A n cap, .int .i64 sz] w fun e w' => e = .returned (.tuple #[.slice none 0 0, .int .i64 11]) ∧ Below w.heap.size w w' := by
  by_cases c : sz < 1
  · have c0 : decide (sz < 1) = true := decide_eq_true c
    go_enter Try.func15, Try.ntmps15
    go_wp2
    refine bodyPost_ret (results_tmp2 rfl _ _ _) rfl ?_
    exact ⟨rfl, by repeat (first | (with_reducible first | exact Below.refl _ _ | apply below_alloc | apply pw_below_drewN | apply below_drew1) | exact Below.refl _ _)⟩
  · have c0 : decide (sz < 1) = false := decide_eq_false c
    have c1 : decide (64 < sz) = true := decide_eq_true (by omega)
    go_enter Try.func15, Try.ntmps15
    go_wp2
    refine bodyPost_ret (results_tmp2 rfl _ _ _) rfl ?_
    exact ⟨rfl, by repeat (first | (with_reducible first | exact Below.refl _ _ | apply below_alloc | apply pw_below_drewN | apply below_drew1) | exact Below.refl _ _)⟩
/-- How many parts. -/
def many (n sz : Nat) : Nat := (n + sz - 1) / sz
theorem many_le {n sz : Nat} (h : 1 ≤ sz) : many n sz * sz ≤ n + sz - 1 := Nat.div_mul_le_self _ _
theorem many_ge {n sz : Nat} (h : 1 ≤ sz) : n ≤ many n sz * sz := by
  have h1 := Nat.div_add_mod (n + sz - 1) sz
  have h2 := Nat.mod_lt (n + sz - 1) (show 0 < sz by omega)
  unfold many
  rw [Nat.mul_comm] at h1
  omega
theorem part_len {l : List Int} {sz i : Nat} (h : 1 ≤ sz) (hi : i < many l.length sz) : 1 ≤ (Bat.part l sz i).length ∧ (Bat.part l sz i).length ≤ sz ∧ (i + 1 < many l.length sz → (Bat.part l sz i).length = sz) := by
  rw [Bat.part_length]
  have h1 := many_le (n := l.length) h
  have h2 : (i + 1) * sz ≤ many l.length sz * sz := Nat.mul_le_mul_right _ hi
  rw [Nat.add_mul, Nat.one_mul] at h2
  refine ⟨by omega, by omega, fun h3 => ?_⟩
  have h4 : (i + 2) * sz ≤ many l.length sz * sz := Nat.mul_le_mul_right _ h3
  rw [Nat.add_mul] at h4
  omega
theorem parts_at {l : List Int} {sz i : Nat} (hi : i < many l.length sz) : (Bat.parts l sz)[i]? = some (Bat.part l sz i) := by
  unfold Bat.parts many at *
  rw [List.getElem?_map, List.getElem?_range hi]; rfl
theorem parts_length (l : List Int) (sz : Nat) : (Bat.parts l sz).length = many l.length sz := by simp [Bat.parts, many]
theorem flat_succ (l : List Int) (sz i : Nat) : l.take (i * sz) ++ Bat.part l sz i = l.take ((i + 1) * sz) := by
  unfold Bat.part; rw [Nat.add_mul, Nat.one_mul, List.take_add]
set_option maxRecDepth 100000 in
set_option maxHeartbeats 4000000 in
theorem walk_big (w : World) (A : Option Addr) (cap : Nat) (l : List Int) (n : Int) (c : 300 < (l.length : Int)) : Calls Try.prog 5 #[.slice A l.length cap, .int .i64 n] w fun e w' => e = .returned (.bool true) ∧ Below w.heap.size w w' := by
  have HB := Aside0.mk (Below.refl w.heap.size w)
  have cb0 : decide (300 < (l.length : Int)) = true := decide_eq_true c
  clear c
  go_enter Try.func5, Try.ntmps5
  go_wp2_with ((go_at_call 8; (with_reducible refine (Awk.walk _).mono ?_); rintro e w1 ⟨rfl, hb⟩; have HB1 := Aside0.mk (below_step HB.out hb)))
  go_ret
  exact ⟨rfl, HB1.out⟩
set_option maxRecDepth 100000 in
set_option maxHeartbeats 4000000 in
theorem walk_bad (w : World) (A : Option Addr) (cap : Nat) (l : List Int) (n : Int) (c : ¬ 300 < (l.length : Int)) (h : n < 1 ∨ 64 < n) : Calls Try.prog 5 #[.slice A l.length cap, .int .i64 n] w fun e w' => e = .returned (.bool true) ∧ Below w.heap.size w w' := by
  have HB := Aside0.mk (Below.refl w.heap.size w)
  have HN := Aside0.mk h
  have cb0 : decide (300 < (l.length : Int)) = false := decide_eq_false c
  clear c
  by_cases c1 : n < 1
  · have cb1 : decide (n < 1) = true := decide_eq_true c1
    clear c1 h
    go_enter Try.func5, Try.ntmps5
    go_wp2_with (first | ((go_at_call 15; (with_reducible refine (bad_size _ _ _ _ HN.out _).mono ?_); rintro e w1 ⟨rfl, hb⟩; have HB1 := Aside0.mk (below_step HB.out hb); clear HB hb)) | ((go_at_call 8; (with_reducible refine (Awk.walk _).mono ?_); rintro e w2 ⟨rfl, hb⟩; have HB := Aside0.mk (below_step HB1.out hb))))
    go_ret
    exact ⟨rfl, HB.out⟩
  · have cb1 : decide (n < 1) = false := decide_eq_false c1
    have cb2 : decide (64 < n) = true := decide_eq_true (by omega)
    clear c1 h
    go_enter Try.func5, Try.ntmps5
    go_wp2_with (first | ((go_at_call 15; (with_reducible refine (bad_size _ _ _ _ HN.out _).mono ?_); rintro e w1 ⟨rfl, hb⟩; have HB1 := Aside0.mk (below_step HB.out hb); clear HB hb)) | ((go_at_call 8; (with_reducible refine (Awk.walk _).mono ?_); rintro e w2 ⟨rfl, hb⟩; have HB := Aside0.mk (below_step HB1.out hb))))
    go_ret
    exact ⟨rfl, HB.out⟩
theorem addr0 (g n : Nat) : ((⟨g, 0, none⟩ : Addr).add n) = ⟨g, n, none⟩ := by unfold Addr.add; split <;> simp_all
theorem v8_kept {w w1 : World} {b g : Nat} {v : Value} {l : List Int} (h : (Kd.R (Kd.int .i64) 3) w b (fun k => some k = v.ownBlock) v l) (hg : w.grownBy w1 (some g)) (hne : some g ≠ v.ownBlock) : (Kd.R (Kd.int .i64) 3) w1 b (fun k => some k = v.ownBlock) v l :=
  Kd.R_mono (Kd.R_move (Kd.R_bound h) (fun k hk => hg.block k hk.2.2.1 (fun e => hne (by rw [← e]; exact hk.1)))) (fun _ hk => hk.1)
theorem grown_cell {W W' : World} {row : Option Nat} (hg : W.grownBy W' row) {g n : Nat} {v : Value} (h : W.cell? ⟨g, n, none⟩ = some v) (hne : True ∧ some g ≠ row) : W'.cell? ⟨g, n, none⟩ = some v := by
  have hl := World.block_lt_of_cell? W _ h
  unfold World.cell? at h ⊢
  rw [hg.block g hl hne.2]
  exact h
theorem rowI {w : World} {b : Nat} {ok : Nat → Prop} {v : Value} {l : List Int} {k : Nat} (h : (Kd.int .i64).R 3 w b ok v l) (hk : l.length = k) : ∃ A c, v = .slice A k c ∧ k ≤ c := by
  obtain ⟨A, c, rfl⟩ := Kd.R_slice h
  exact ⟨A, c, by rw [hk], by rw [← hk]; exact (Kd.R_reads' h).2.1⟩
set_option maxRecDepth 100000 in
set_option maxHeartbeats 8000000 in
theorem walk_good (w : World) (A : Option Addr) (cap : Nat) (l : List Int) (sz : Nat) (c : ¬ 300 < (l.length : Int)) (hsz1 : 1 ≤ sz) (hsz2 : sz ≤ 64) (hC : (Kd.int .i64).C w A l.length l) (hcap : l.length ≤ cap) : Calls Try.prog 5 #[.slice A l.length cap, .int .i64 (sz : Int)] w fun e w' => e = .returned (.bool true) ∧ Below w.heap.size w w' := by
  have HB := Aside0.mk (Below.refl w.heap.size w)
  have HC0 := Aside0.mk hC
  have HL := Aside0.mk (show l.length ≤ 300 by omega)
  have HCAP := Aside0.mk hcap
  have HZ1 := Aside0.mk hsz1
  have HZ2 := Aside0.mk hsz2
  have cb0 : decide (300 < (l.length : Int)) = false := decide_eq_false c
  have cb1 : decide ((sz : Int) < 1) = false := decide_eq_false (by omega)
  have cb2 : decide (64 < (sz : Int)) = false := decide_eq_false (by omega)
  obtain ⟨N, hN⟩ : ∃ N, N = many l.length sz := ⟨_, rfl⟩
  have HN := Aside0.mk hN
  have HNL := Aside0.mk (show N ≤ 400 by
    have h1 := many_le (n := l.length) hsz1
    rw [← hN] at h1
    have := Nat.le_mul_of_pos_right N hsz1
    omega)
  clear c hsz1 hsz2 hC hcap hN
  go_enter Try.func5, Try.ntmps5
  go_wp2_with ((go_at_call 15; (with_reducible refine (batches_some A cap l sz HZ1.out HZ2.out (by have := HL.out; omega) HCAP.out w HC0.out).mono ?_); rintro e w1 ⟨v1, rfl, ho, hb⟩; have HB1 := Aside0.mk hb; have HO1 := Aside0.mk ho; clear HB ho hb; obtain ⟨Av, cv, ev⟩ := Kd.S_slice HO1.out; rw [parts_length, ← HN.out] at ev; subst ev))
  go_loopw [7, 41] (fun v7 v41 wr => ∃ (x : Int) (xs : List (List Int)), v41 = .int .i64 x ∧ Aside0 (0 ≤ x ∧ x ≤ (N : Int)) ∧ Aside0 (xs.length = N) ∧ Aside0 (∀ j : Nat, x ≤ (j : Int) → j < N → xs[j]? = some (Bat.part l sz j)) ∧ Aside0 ((Kd.S (Kd.slice 3 (Kd.int .i64)) 24) wr w.heap.size (fun k => True ∧ some k ≠ v7.ownBlock) (.slice Av N cv) xs) ∧ Aside0 ((Kd.R (Kd.int .i64) 3) wr w.heap.size (fun _ => True) v7 (l.take (x.toNat * sz))) ∧ Aside0 (Below w.heap.size w wr)) (fun _ v41 _ => N - (intOf v41).toNat)
  case atStart => exact ⟨0, Bat.parts l sz, rfl, ⟨by omega⟩, ⟨by rw [parts_length, ← HN.out]⟩, ⟨fun j _ hj => parts_at (by rw [← HN.out]; exact hj)⟩, ⟨Kd.S_apart_nil HO1.out⟩, ⟨by simp only [Int.toNat_zero, Nat.zero_mul, List.take_zero]; exact Kd.R_nil _ _ _ _ _⟩, HB1⟩
  case round =>
    clear HO1 HB1
    obtain ⟨x, xs, rfl, HX, HXL, HXS, HS, HR, HB⟩ := hrel
    by_cases ci : x < (N : Int)
    · have cb3 : decide (x < (N : Int)) = true := decide_eq_true ci
      have p0 : 0 ≤ x := HX.out.1
      have HI1 := Aside0.mk ci
      have E8 := Aside0.mk (show wrap64 (x + 1) = x + 1 by have := HNL.out; unfold wrap64; omega)
      obtain ⟨q, hq⟩ : ∃ q, (Bat.part l sz x.toNat).length = q := ⟨_, rfl⟩
      have hpl := part_len (l := l) (sz := sz) (i := x.toNat) HZ1.out (by rw [← HN.out]; omega)
      rw [hq, ← HN.out] at hpl
      have HPL := Aside0.mk hpl
      have HQ := Aside0.mk hq
      have hget : xs.getD x.toNat [] = Bat.part l sz x.toNat := by
        rw [List.getD_eq_getElem?_getD, HXS.out x.toNat (by omega) (by omega)]; rfl
      have HG := Aside0.mk hget
      obtain ⟨g, cap', eA, gb, gl, gc⟩ := Kd.S_form HS.out (by rw [HXL.out]; omega)
      injection eA with eA1 eA2 eA3
      subst eA1 eA3
      clear eA2 gb gc
      obtain ⟨cc, hc1, hM, hc3⟩ := Kd.S_get HS.out [] x p0 ci
      obtain ⟨vx, rfl, hRx⟩ := hM
      rw [hget] at hRx
      obtain ⟨Ax, cx, ex, hcx⟩ := rowI (k := q) hRx hq
      subst ex
      have hcell := hc3 0 _ rfl
      have hcell2 : wr.cell? ⟨g, x.toNat, none⟩ = some (.slice Ax q cx) := by
        have h1 := hcell
        rwa [show x.toNat * (Kd.slice 3 (Kd.int .i64)).sz + 0 = x.toNat from Nat.mul_one _, addr0] at h1
      have HCELL := Aside0.mk hcell2
      have HRX := Aside0.mk hRx
      have HGL := Aside0.mk gl
      have d1 : decide ((q : Int) < 1) = false := decide_eq_false (by omega)
      have d2 : decide ((sz : Int) < (q : Int)) = false := decide_eq_false (by omega)
      have d2n : decide (sz < q) = false := decide_eq_false (by omega)
      have d1n : decide (q < 1) = false := decide_eq_false (by omega)
      have e9 : wrap64 ((N : Int) - 1) = (N : Int) - 1 := by have := HNL.out; unfold wrap64; omega
      obtain ⟨b, hb⟩ : ∃ b, decide (x < (N : Int) - 1) = b := ⟨_, rfl⟩
      have d4 : b = true → ((q : Int) != (sz : Int)) = false := by
        intro hb'
        rw [hb'] at hb
        have h1 := of_decide_eq_true hb
        have h2 := hpl.2.2 (by omega)
        rw [bne_eq_false_iff_eq]; omega
      have d3 : decide (x < wrap64 ((N : Int) - 1)) = b := by rw [e9]; exact hb
      have HLT := Aside0.mk (show (l.take (x.toNat * sz)).length ≤ 300 by rw [List.length_take]; have := HL.out; omega)
      clear hc1 hc3 hcell hRx gl hpl hq hget hb e9
      replace p0 := eq_true p0
      replace ci := eq_true ci
      cases b
      all_goals
        first | (replace d4 := d4 rfl) | clear d4
        go_wp2_with ((with_reducible refine gate_builtin (b := .append) (xs := #[.tmp 68, .tmp 69]) rfl ?_); at_builtin; refine Kd.R_append_rows (Kd.int .i64) (w0 := w) w.heap.size rfl (.tmp 68) (.tmp 69) 24 3 (.int .i64 0) 8 rfl Try.underlying24 info3 rfl (by decide) (by omega) u7 (l.take (x.toNat * sz)) (Bat.part l sz x.toNat) _ _ _ (fun _ => True) (fun _ => False) rfl rfl ?aO ?aR (fun _ _ h => h) (fun _ h => h.elim) ?aF ?aB ?aS ?aL ?_; (case aR => have hx := (Kd.R_reads' HRX.out).2.2; rw [HQ.out] at hx; exact hx); (case aB => exact HB.out); (case aF => exact (fun _ _ => trivial)); (case aO => exact HR.out); (case aS => exact below_size HB.out); (case aL => have h1 := HLT.out; have h2 := HPL.out.2.1; have h3 := HZ2.out; omega); intro v8 w5 ho hb hg hat; have HAP := Aside0.mk (Kd.S_after HS.out hg hat); have hcl2 := grown_cell hg HCELL.out (by exact (Kd.S_R HS.out).1 g (by simp [Value.ownBlock])); have HCELL2 := Aside0.mk hcl2; rw [flat_succ] at ho; have HV0 := Aside0.mk (Kd.R_tight rfl ho); have HB1 := Aside0.mk hb; clear HS HR HB HRX hcell2 HCELL ho hb hg hat hcl2)
        obtain ⟨oki, cc, hc1, hM, hc3, hok, hH⟩ := Kd.S_lend HAP.out [] x HX.out.1 HI1.out
        obtain ⟨vx, rfl, hRx⟩ := hM
        have hvx : vx = .slice Ax q cx := by
          have h1 := hc3 0 _ rfl
          rw [show x.toNat * (Kd.slice 3 (Kd.int .i64)).sz + 0 = x.toNat from Nat.mul_one _, HCELL2.out] at h1
          exact (Option.some.inj h1).symm
        subst hvx
        rw [HG.out] at hRx
        obtain ⟨gx, cx', eX, hgb, hgl, cellsx, hcx2⟩ := Kd.R_form hRx (by rw [HQ.out]; exact HPL.out.1)
        injection eX with eX1 eX2 eX3
        subst eX1 eX3
        clear eX2
        have HGX := Aside0.mk hcx2
        have HGB := Aside0.mk hgb
        have HOK := Aside0.mk (hRx.1 gx (by simp [Value.ownBlock]))
        have HNE := Aside0.mk (show some gx ≠ v8.ownBlock from (hok gx HOK.out).1.2)
        have HH0 := Aside0.mk hH
        have HY0 := Aside0.mk hRx
        clear hc1 hc3 hok hH hRx hgb hgl hcx2 HAP HCELL2
        go_loopw [73] (fun v73 wr2 => ∃ (y : Int) (ys : List Int), v73 = .int .i64 y ∧ Aside0 (0 ≤ y ∧ y ≤ (q : Int)) ∧ Aside0 (ys.length = q) ∧ Aside0 ((Kd.R (Kd.int .i64) 3) wr2 w.heap.size oki (.slice (some ⟨gx, 0, none⟩) q cx) ys) ∧ Aside0 (Kd.H (Kd.slice 3 (Kd.int .i64)) 24 wr2 w.heap.size (fun k => True ∧ some k ≠ v8.ownBlock) (.slice (some ⟨g, 0, none⟩) N cv) xs x oki [.slice (some ⟨gx, 0, none⟩) q cx]) ∧ Aside0 ((Kd.R (Kd.int .i64) 3) wr2 w.heap.size (fun k => some k = v8.ownBlock) v8 (l.take ((x.toNat + 1) * sz))) ∧ Aside0 (Below w.heap.size w wr2)) (fun v73 _ => q - (intOf v73).toNat)
        case atStart => exact ⟨0, Bat.part l sz x.toNat, rfl, ⟨by omega⟩, HQ, HY0, HH0, HV0, HB1⟩
        case round =>
          clear HY0 HH0 HV0 HB1
          obtain ⟨y, ys, rfl, HY2, HYL, HY, HH, HV, HB⟩ := hrel
          by_cases cy : y < (q : Int)
          · have cb4 : decide (y < (q : Int)) = true := decide_eq_true cy
            have py : 0 ≤ y := HY2.out.1
            have E9 := Aside0.mk (show wrap64 (y + 1) = y + 1 by have h1 := HPL.out.2.1; have h2 := HZ2.out; unfold wrap64; omega)
            obtain ⟨hx0, hf0⟩ := Kd.R_celln 0 HY.out y py cy
            have HP := Kd.R_putg HY.out y (wrap64 (rd ys y + 1))
            have HI2 := Aside0.mk cy
            replace py := eq_true py
            replace cy := eq_true cy
            as_aux_lemma =>
              go_wp2_with (((with_reducible refine gate_store (t := 3) (p := 81) rfl ?_); refine store_event (t := 3) (p := 81) (v := ?vo_w16) (w1 := (wr.setCell ⟨gx, y.toNat, none⟩ (.int .i64 (wrap64 (rd ys y + 1))))) ?hg ?ho ?hn ?hr ?_; (case ho => rfl); (case hg => rfl); (case hn => rfl); (case hr => first | (go_simp; done) | (go_simp; rfl)); intro w16 hw; have hg2 : wr.grownBy w16 (some gx) := (by rw [hw]; exact HP.2); have HY1 := Aside0.mk (show (Kd.R (Kd.int .i64) 3) w16 w.heap.size oki (.slice (some ⟨gx, 0, none⟩) q cx) (ys.set y.toNat (wrap64 (rd ys y + 1))) by rw [hw]; exact HP.1); have HH1 := Aside0.mk (Kd.H_grown HH.out hg2 (fun k hk => by cases hk; exact HOK.out)); have HV1 := Aside0.mk (v8_kept HV.out hg2 HNE.out); have HB1 := Aside0.mk (show Below w.heap.size w w16 by rw [hw]; exact below_set HB.out HGB.out); clear HP hg2 hw HY HH HV HB))
              go_roundw
              case measure => have h1 := HI2.out; have h2 := HY2.out; have h3 := E9.out; simp only [intOf]; rw [h3]; omega
              case rel => exact ⟨wrap64 (y + 1), ys.set y.toNat (wrap64 (rd ys y + 1)), rfl, ⟨by have h1 := HI2.out; have h2 := HY2.out; rw [E9.out]; omega⟩, ⟨by rw [List.length_set]; exact HYL.out⟩, HY1, HH1, HV1, HB1⟩
          · have cb4 : decide (y < (q : Int)) = false := decide_eq_false cy
            clear cy
            as_aux_lemma =>
              go_wp2
              go_roundw
              case measure => have h1 := HI1.out; have h2 := HX.out; have h3 := E8.out; simp only [intOf]; rw [h3]; omega
              case rel => exact ⟨wrap64 (x + 1), xs.set x.toNat ys, rfl, ⟨by have h1 := HI1.out; have h2 := HX.out; rw [E8.out]; omega⟩, ⟨by rw [List.length_set]; exact HXL.out⟩, ⟨fun j h1 h2 => by rw [E8.out] at h1; have h3 := HX.out; rw [List.getElem?_set_ne (by omega)]; exact HXS.out j (by omega) h2⟩, ⟨Kd.H_back HH.out (Kd.M_row HY.out) (fun _ h => h)⟩, ⟨by have h3 := HX.out; rw [E8.out, show (x + 1).toNat = x.toNat + 1 by omega]; exact Kd.R_mono HV.out (fun _ _ => trivial)⟩, HB⟩
    · have cb3 : decide (x < (N : Int)) = false := decide_eq_false ci
      have hx : x.toNat = N := by have := HX.out; omega
      have hr := HR.out
      have hge := many_ge (n := l.length) HZ1.out
      rw [hx, List.take_of_length_le (by rw [HN.out]; exact hge)] at hr
      obtain ⟨A7, c7, e7, hc7⟩ := rowI (k := l.length) hr rfl
      subst e7
      have HR0 := Aside0.mk hr
      obtain ⟨kf, hkf⟩ := (AidShape.same_ev l l (by have := HL.out; omega)).rounds
      rw [decide_eq_true rfl] at hkf
      have HKF := Aside0.mk hkf
      clear hr hge hx ci hkf
      as_aux_lemma =>
        go_wp2_with (first | ((go_at_call 15; (with_reducible refine (batches_some A cap l sz HZ1.out HZ2.out (by have := HL.out; omega) HCAP.out wr (Kd.C_below HC0.out HB.out)).mono ?_); rintro e w2 ⟨v2, rfl, ho, hb⟩; have HR1 := Aside0.mk (Kd.R_below HR0.out hb); have HB1 := Aside0.mk (below_step HB.out hb); obtain ⟨A2, c2, ev⟩ := Kd.S_slice ho; rw [parts_length, ← HN.out] at ev; subst ev; clear HB HR0 ho hb)) | ((go_at_call 10; refine (athanorref03_Same.calls kf A7 c7 l A cap l true _ (Kd.R_reads' HR1.out).2.2 (Kd.R_reads' HR1.out).2.1 (Kd.C_below HC0.out HB1.out) HCAP.out HKF.out).mono ?_; rintro e w3 ⟨rfl, ⟨nd, rfl⟩⟩)) | ((go_at_call 8; (with_reducible refine (Awk.walk _).mono ?_); rintro e w4 ⟨rfl, hb⟩; have HB := Aside0.mk (below_step (pw_below_drewN HB1.out _) hb); clear hb)))
        go_ret
        exact ⟨rfl, HB.out⟩
theorem walk (w : World) (A : Option Addr) (cap : Nat) (l : List Int) (n : Int) (hC : (Kd.int .i64).C w A l.length l) (hcap : l.length ≤ cap) : Calls Try.prog 5 #[.slice A l.length cap, .int .i64 n] w fun e w' => e = .returned (.bool true) ∧ Below w.heap.size w w' := by
  by_cases c : 300 < (l.length : Int)
  · exact walk_big w A cap l n c
  · by_cases h : n < 1 ∨ 64 < n
    · exact walk_bad w A cap l n c h
    · obtain ⟨sz, rfl⟩ : ∃ sz : Nat, n = (sz : Int) := ⟨n.toNat, by omega⟩
      exact walk_good w A cap l sz c (by omega) (by omega) hC hcap
end Go.Proofs.Ytkbonmhegojfdaa.Batches
