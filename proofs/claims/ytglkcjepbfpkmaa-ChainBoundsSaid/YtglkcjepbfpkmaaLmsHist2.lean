/- Layer 14, LmsHistory: what it learned stands in its history: the walk. -/
import Derived.Test.YtglkcjepbfpkmaaLmsHistory
namespace Go.Proofs.Ytglkcjepbfpkmaa.PAll
open Go Go.RowKit Go.Proofs.YtglkcjepbfpkmaaW.PrintWords Go.Proofs.YtglkcjepbfpkmaaW.PrintMore Go.Proofs.YtglkcjepbfpkmaaW.PrintLast
set_option linter.unusedVariables false
set_option linter.unusedSimpArgs false
attribute [-go_sem] Instr.loadAt Instr.storeAt
attribute [local go_sem high] shut16 set16_0 set16_1 set16_2 set16_3 set16_4 set16_5 set16_6 set16_7 set16_8 set16_9 set16_10 set16_11 set16_12 set16_13 set16_14 set16_15 equal_lms2 load_new_lms store_new_lms load_word store_word
attribute [local go_sem] max2_int min2_int max_two min_two

theorem cell_alloc {w : World} {p : Addr} {v : Value} (h : w.cell? p = some v) (o : Obj) : (w.alloc o).cell? p = some v := by
  rw [World.cell?_alloc_lt _ _ _ (World.block_lt_of_cell? w _ h)]; exact h
theorem cell_below {w w' : World} {p : Addr} {v : Value} (h : w.cell? p = some v) (hb : Below w.heap.size w w') : w'.cell? p = some v :=
  (hb.cell (p := p) (World.block_lt_of_cell? w _ h)).trans h
set_option maxHeartbeats 16000000 in
theorem history_calls (a : Option Addr) (len cap : Nat) (zs : List Int) (W : World) (hz : Ints W a len cap zs) (hlen : len * 8 ≤ 140737488351232) : Calls Try.prog 5 #[.slice a len cap] W fun e W' => e = .returned (.bool true) ∧ Below W.heap.size W W' := by
  have Hz := Lib.hid hz
  clear hz
  obtain ⟨K0, hK⟩ : ∃ K0 : Nat, (if (30 : Int) < (len : Int) then (30 : Int) else (len : Int)) = (K0 : Int) ∧ K0 ≤ len ∧ K0 ≤ 30 := ⟨min len 30, by split <;> omega, by omega, by omega⟩
  obtain ⟨hK, hK1, hK2⟩ := hK
  go_enter Try.func5, Try.ntmps5
  go_wp2_with fail
  refine (awake14_calls _).mono ?_
  rintro e w1 ⟨rfl, hb1⟩
  have H1 := Lib.hid (below_step (Below.refl W.heap.size W) hb1)
  clear hb1
  go_wp2_with fail
  have B2 := Lib.hid (blk_new w1 (.cells lmsZero.c 24))
  have H2 := Lib.hid (below_alloc H1.out (.cells lmsZero.c 24))
  obtain ⟨n, hn⟩ : ∃ n, n = w1.heap.size := ⟨_, rfl⟩
  have hWn : W.heap.size ≤ n := hn ▸ H1.out.size
  simp only [← hn] at B2 ⊢
  clear hn H1 hK
  go_loopw [5] (fun i wr => ∃ (k : Nat) (c : Lms), k ≤ K0 ∧ i = .int .i64 k ∧ Hid (His zs c k) ∧ Hid (wr.heap[n]? = some (.cells c.c 24 (0, 0))) ∧ Hid (Below W.heap.size W wr)) (fun i _ => K0 - (intOf i).toNat)
  case atStart => exact ⟨0, lmsZero, by omega, rfl, Lib.hid (his_zero zs), B2, H2⟩
  case round =>
    obtain ⟨k, c, hk, rfl, hR, bk, hB⟩ := hrel
    have z3 : n < wr.heap.size := blk_lt bk.out
    by_cases hlt : k < K0
    · obtain ⟨x, rfl, hxb, hc⟩ := ints_below Hz.out hB.out (show k < len by omega)
      obtain ⟨z, hz⟩ : ∃ z, z = zs.getD k 0 := ⟨_, rfl⟩
      rw [← hz] at hc
      have hm : bits .and .i64 z 65535 = z % 65536 := Num.and_mask _ 65535 16 (by omega) (by rfl)
      obtain ⟨r, hr⟩ : ∃ r, r = z % 65536 := ⟨_, rfl⟩
      have r1 : 0 ≤ r ∧ r < 65536 := by omega
      rw [← hr] at hm
      have hv1 : hv zs k = r - 30000 := by unfold hv; rw [← hz, ← hr]
      have hR1 := his_step hR.out
      rw [hv1] at hR1
      have hR2 := Lib.hid hR1.1
      have he0 := hR1.2
      obtain ⟨p, hp⟩ : ∃ p, (lmsLearn c (r - 30000)).1 = p := ⟨_, rfl⟩
      rw [hp] at hR2
      obtain ⟨r1, r2⟩ := r1
      have hn2 : n < wr.heap.size := z3
      have hkl : k < len := by omega
      have hwr := Lib.hid (Num.w64 (n := r - 30000) (by omega) (by omega))
      clear hr hz hv1 hR1
      go_wp2_with fail
      refine start_ (n := 14) (S := fun w' => w'.heap[n]? = some (.cells c.c 24 (0, 0)) ∧ w'.cell? (x.add k) = some (.int .i64 z)) (ds := [12]) #[false, false, false, false, false, false, false, false, false, false, false, false, false, false] (by kernel_rfl) rfl rfl (⟨bk.out, hc⟩) (fun hHeld => ?_)
      refine take_ (i := 0) (N := some 21) (v := ?_) (a' := ?_) #[true, false, false, false, false, false, false, false, false, false, false, false, false, false] rfl rfl (by kernel_rfl) (fun _ _ _ h => h) (Or.inl ⟨by rfl, ?_⟩) hHeld ?_ ?_
      rotate_left
      · rintro w' ⟨s0, s1⟩
        have ld := load_lms s0
        go_simp
        with_reducible rfl
      rotate_left
      · simp only [Act.put, List.setIfInBounds_toArray, List.set_cons_zero, List.set_cons_succ, i64_w, i32_w]
        rfl
      refine pure_ (i := 1) (N := some 22) (v := ?_) (a' := ?_) #[true, true, false, false, false, false, false, false, false, false, false, false, false, false] rfl rfl (by kernel_rfl) (fun _ _ _ h => h) (Or.inl ⟨by rfl, ?_⟩) ?_ ?_
      rotate_left
      · intro w'
        go_simp
        with_reducible rfl
      rotate_left
      · simp only [Act.put, List.setIfInBounds_toArray, List.set_cons_zero, List.set_cons_succ, i64_w, i32_w]
        rfl
      refine pure_ (i := 2) (N := some 23) (v := ?_) (a' := ?_) #[true, true, true, false, false, false, false, false, false, false, false, false, false, false] rfl rfl (by kernel_rfl) (fun _ _ _ h => h) (Or.inl ⟨by rfl, ?_⟩) ?_ ?_
      rotate_left
      · intro w'
        go_simp
        with_reducible rfl
      rotate_left
      · simp only [Act.put, List.setIfInBounds_toArray, List.set_cons_zero, List.set_cons_succ, i64_w, i32_w]
        rfl
      refine pure_ (i := 3) (N := some 24) (v := ?_) (a' := ?_) #[true, true, true, true, false, false, false, false, false, false, false, false, false, false] rfl rfl (by kernel_rfl) (fun _ _ _ h => h) (Or.inl ⟨by rfl, ?_⟩) ?_ ?_
      rotate_left
      · intro w'
        go_simp
        with_reducible rfl
      rotate_left
      · simp only [Act.put, List.setIfInBounds_toArray, List.set_cons_zero, List.set_cons_succ, i64_w, i32_w]
        rfl
      refine take_ (i := 4) (N := some 25) (v := ?_) (a' := ?_) #[true, true, true, true, true, false, false, false, false, false, false, false, false, false] rfl rfl (by kernel_rfl) (fun _ _ _ h => h) (Or.inl ⟨by rfl, ?_⟩) hHeld ?_ ?_
      rotate_left
      · rintro w' ⟨s0, s1⟩
        go_simp
        with_reducible rfl
      rotate_left
      · simp only [Act.put, List.setIfInBounds_toArray, List.set_cons_zero, List.set_cons_succ, i64_w, i32_w]
        rfl
      refine pure_ (i := 5) (N := some 26) (v := ?_) (a' := ?_) #[true, true, true, true, true, true, false, false, false, false, false, false, false, false] rfl rfl (by kernel_rfl) (fun _ _ _ h => h) (Or.inl ⟨by rfl, ?_⟩) ?_ ?_
      rotate_left
      · intro w'
        go_simp
        with_reducible rfl
      rotate_left
      · simp only [Act.put, List.setIfInBounds_toArray, List.set_cons_zero, List.set_cons_succ, i64_w, i32_w]
        rfl
      refine pure_ (i := 6) (N := some 27) (v := ?_) (a' := ?_) #[true, true, true, true, true, true, true, false, false, false, false, false, false, false] rfl rfl (by kernel_rfl) (fun _ _ _ h => h) (Or.inl ⟨by rfl, ?_⟩) ?_ ?_
      rotate_left
      · intro w'
        go_simp
        with_reducible rfl
      rotate_left
      · simp only [Act.put, List.setIfInBounds_toArray, List.set_cons_zero, List.set_cons_succ, i64_w, i32_w]
        rfl
      refine two_ (i := 7) (j := 11) (Ni := some 28) (Nj := some 6) #[true, true, true, true, true, true, true, true, false, false, false, false, false, false] #[true, true, true, true, true, true, true, false, false, false, false, true, false, false] rfl rfl rfl rfl (by kernel_rfl) (by decide) (by decide) (fun K hK => ?_) (fun K hK => ?_)
      · refine goes_ Try.func16 (by kernel_rfl) rfl #[.agg c.c, .int .i64 _] (by rfl) rfl rfl (by (try simp only [List.map_toArray, List.map_cons, List.map_nil]); rfl) ?_
        rw [hwr.out]
        refine (learn_c c (r - 30000) _).mono ?_
        rintro e w2 ⟨rfl, hb2⟩
        rw [hp, he0]
        refine ⟨_, rfl, ?_⟩
        refine hK.out _ _ (⟨blk_below hHeld.1 hb2, cell_below hHeld.2 hb2⟩) (fun hHeld2 => ?_)
        clear hK K
        have hne : w2.heap.size ≠ n := by have := blk_lt hHeld2.1; omega
        have B3 := Lib.hid (blk_alloc hHeld2.1 (.cells p.c 24))
        have P3 := Lib.hid (blk_new w2 (.cells p.c 24))
        have H3 := Lib.hid (below_alloc (below_step (hB.out.drew) hb2) (.cells p.c 24))
        refine norm_ (a' := ?_) ?_ ?_
        rotate_left
        · show Act.put _ (some 28) _ = _
          simp only [Act.put, List.setIfInBounds_toArray, List.set_cons_zero, List.set_cons_succ, i64_w, i32_w]
          rfl
        refine pure_ (i := 8) (N := some 20) (v := ?_) (a' := ?_) #[true, true, true, true, true, true, true, true, true, false, false, false, false, false] rfl rfl (by kernel_rfl) (fun _ _ _ h => h) (Or.inl ⟨by rfl, ?_⟩) ?_ ?_
        rotate_left
        · intro w'
          go_simp
          with_reducible rfl
        rotate_left
        · simp only [Act.put, List.setIfInBounds_toArray, List.set_cons_zero, List.set_cons_succ, i64_w, i32_w]
          rfl
        refine pure_ (i := 9) (N := some 29) (v := ?_) (a' := ?_) #[true, true, true, true, true, true, true, true, true, true, false, false, false, false] rfl rfl (by kernel_rfl) (fun _ _ _ h => h) (Or.inl ⟨by rfl, ?_⟩) ?_ ?_
        rotate_left
        · intro w'
          go_simp
          with_reducible rfl
        rotate_left
        · simp only [Act.put, List.setIfInBounds_toArray, List.set_cons_zero, List.set_cons_succ, i64_w, i32_w]
          rfl
        refine pure_ (i := 10) (N := some 30) (v := ?_) (a' := ?_) #[true, true, true, true, true, true, true, true, true, true, true, false, false, false] rfl rfl (by kernel_rfl) (fun _ _ _ h => h) (Or.inl ⟨by rfl, ?_⟩) ?_ ?_
        rotate_left
        · intro w'
          go_simp
          with_reducible rfl
        rotate_left
        · simp only [Act.put, List.setIfInBounds_toArray, List.set_cons_zero, List.set_cons_succ, i64_w, i32_w]
          rfl
        refine one_ (i := 11) (N := some 6) #[true, true, true, true, true, true, true, true, true, true, true, true, false, false] rfl rfl (by kernel_rfl) (by decide) (fun K hK => ?_)
        refine value_ (w1 := w2.alloc (.cells lmsZero.c 24)) (v := .pointer (some ⟨w2.heap.size, 0, none⟩)) (by rfl) rfl (by go_simp; try rfl) ?_
        refine hK.out _ _ (⟨blk_alloc hHeld2.1 _, cell_alloc hHeld2.2 _⟩) (fun hHeld => ?_)
        clear hK K
        refine norm_ (a' := ?_) ?_ ?_
        rotate_left
        · show Act.put _ (some 6) _ = _
          simp only [Act.put, List.setIfInBounds_toArray, List.set_cons_zero, List.set_cons_succ, i64_w, i32_w]
          rfl
        refine last_ (i := 12) (N := none) #[true, true, true, true, true, true, true, true, true, true, true, true, true, false] rfl rfl (by kernel_rfl) (by decide) (fun K hK => ?_)
        refine skip_ (w1 := w2.alloc (.cells p.c 24)) (by rfl) rfl (by go_simp; try rfl) ?_
        refine hK.out _ _ ?_
        clear hK K hHeld hHeld2 hb2 bk hB hc
        refine pure_ (i := 13) (N := some 7) (v := ?_) (a' := ?_) #[true, true, true, true, true, true, true, true, true, true, true, true, true, true] rfl rfl (by kernel_rfl) (fun _ _ _ h => h) (Or.inl ⟨by rfl, ?_⟩) ?_ ?_
        rotate_left
        · intro w'
          go_simp
          with_reducible rfl
        rotate_left
        · simp only [Act.put, List.setIfInBounds_toArray, List.set_cons_zero, List.set_cons_succ, i64_w, i32_w]
          rfl
        refine done_ (by kernel_rfl) ?_
        have l3 := load_lms P3.out
        go_wp2_with (go_at_call 18; refine (num_calls _ _).mono ?_; rintro e w' ⟨rfl, rfl⟩)
        refine (may_c p _).mono ?_
        rintro e w4 ⟨rfl, hb4⟩
        rw [hR2.out.1]
        have B5 := Lib.hid (blk_below B3.out hb4)
        have P5 := Lib.hid (blk_below P3.out hb4)
        have H5 := Lib.hid (below_step H3.out hb4)
        clear hb4 B3 P3 H3 l3
        have l5 := load_lms P5.out
        have s5 := store_lms B5.out p
        go_wp2_with fail
        go_roundw
        case rel => exact ⟨k + 1, p, by omega, by go_num, hR2, Lib.hid (blk_row B5.out _), Lib.hid (below_row H5.out hWn _)⟩
        case measure => simp [intOf]; omega
      · refine value_ (w1 := wr.drew.alloc (.cells lmsZero.c 24)) (v := .pointer (some ⟨wr.heap.size, 0, none⟩)) (by rfl) rfl (by go_simp; try rfl) ?_
        refine hK.out _ _ (⟨blk_alloc (blk_drew bk.out) _, cell_alloc hc _⟩) (fun hHeld2 => ?_)
        clear hK K
        refine norm_ (a' := ?_) ?_ ?_
        rotate_left
        · show Act.put _ (some 6) _ = _
          simp only [Act.put, List.setIfInBounds_toArray, List.set_cons_zero, List.set_cons_succ, i64_w, i32_w]
          rfl
        refine one_ (i := 7) (N := some 28) #[true, true, true, true, true, true, true, true, false, false, false, true, false, false] rfl rfl (by kernel_rfl) (by decide) (fun K hK => ?_)
        refine goes_ Try.func16 (by kernel_rfl) rfl #[.agg c.c, .int .i64 _] (by rfl) rfl rfl (by (try simp only [List.map_toArray, List.map_cons, List.map_nil]); rfl) ?_
        rw [hwr.out]
        refine (learn_c c (r - 30000) _).mono ?_
        rintro e w2 ⟨rfl, hb2⟩
        rw [hp, he0]
        refine ⟨_, rfl, ?_⟩
        refine hK.out _ _ (⟨blk_below hHeld2.1 hb2, cell_below hHeld2.2 hb2⟩) (fun hHeld3 => ?_)
        clear hK K
        refine norm_ (a' := ?_) ?_ ?_
        rotate_left
        · show Act.put _ (some 28) _ = _
          simp only [Act.put, List.setIfInBounds_toArray, List.set_cons_zero, List.set_cons_succ, i64_w, i32_w]
          rfl
        refine pure_ (i := 8) (N := some 20) (v := ?_) (a' := ?_) #[true, true, true, true, true, true, true, true, true, false, false, true, false, false] rfl rfl (by kernel_rfl) (fun _ _ _ h => h) (Or.inl ⟨by rfl, ?_⟩) ?_ ?_
        rotate_left
        · intro w'
          go_simp
          with_reducible rfl
        rotate_left
        · simp only [Act.put, List.setIfInBounds_toArray, List.set_cons_zero, List.set_cons_succ, i64_w, i32_w]
          rfl
        refine pure_ (i := 9) (N := some 29) (v := ?_) (a' := ?_) #[true, true, true, true, true, true, true, true, true, true, false, true, false, false] rfl rfl (by kernel_rfl) (fun _ _ _ h => h) (Or.inl ⟨by rfl, ?_⟩) ?_ ?_
        rotate_left
        · intro w'
          go_simp
          with_reducible rfl
        rotate_left
        · simp only [Act.put, List.setIfInBounds_toArray, List.set_cons_zero, List.set_cons_succ, i64_w, i32_w]
          rfl
        refine pure_ (i := 10) (N := some 30) (v := ?_) (a' := ?_) #[true, true, true, true, true, true, true, true, true, true, true, true, false, false] rfl rfl (by kernel_rfl) (fun _ _ _ h => h) (Or.inl ⟨by rfl, ?_⟩) ?_ ?_
        rotate_left
        · intro w'
          go_simp
          with_reducible rfl
        rotate_left
        · simp only [Act.put, List.setIfInBounds_toArray, List.set_cons_zero, List.set_cons_succ, i64_w, i32_w]
          rfl
        have P2 : w2.heap[wr.heap.size]? = some (.cells lmsZero.c 24 (0, 0)) := blk_below (blk_new wr.drew (.cells lmsZero.c 24)) hb2
        have st := store_lms P2 p
        refine last_ (i := 12) (N := none) #[true, true, true, true, true, true, true, true, true, true, true, true, true, false] rfl rfl (by kernel_rfl) (by decide) (fun K hK => ?_)
        refine skip_ (w1 := w2.setRow wr.heap.size p.c) (by rfl) rfl (by go_simp; try rfl) ?_
        refine hK.out _ _ ?_
        clear hK K
        have hne : wr.heap.size ≠ n := by have := blk_lt bk.out; omega
        have B3 := Lib.hid (blk_row_far hHeld3.1 hne.symm p.c)
        have P3 := Lib.hid (blk_row P2 p.c)
        have H3 := Lib.hid (below_row (below_step (below_alloc (hB.out.drew) (.cells lmsZero.c 24)) hb2) (show W.heap.size ≤ wr.heap.size from hB.out.size) p.c)
        clear st P2 hHeld hHeld2 hHeld3 hb2 bk hB hc
        refine pure_ (i := 13) (N := some 7) (v := ?_) (a' := ?_) #[true, true, true, true, true, true, true, true, true, true, true, true, true, true] rfl rfl (by kernel_rfl) (fun _ _ _ h => h) (Or.inl ⟨by rfl, ?_⟩) ?_ ?_
        rotate_left
        · intro w'
          go_simp
          with_reducible rfl
        rotate_left
        · simp only [Act.put, List.setIfInBounds_toArray, List.set_cons_zero, List.set_cons_succ, i64_w, i32_w]
          rfl
        refine done_ (by kernel_rfl) ?_
        have l3 := load_lms P3.out
        go_wp2_with (go_at_call 18; refine (num_calls _ _).mono ?_; rintro e w' ⟨rfl, rfl⟩)
        refine (may_c p _).mono ?_
        rintro e w4 ⟨rfl, hb4⟩
        rw [hR2.out.1]
        have B5 := Lib.hid (blk_below B3.out hb4)
        have P5 := Lib.hid (blk_below P3.out hb4)
        have H5 := Lib.hid (below_step H3.out hb4)
        clear hb4 B3 P3 H3 l3
        have l5 := load_lms P5.out
        have s5 := store_lms B5.out p
        go_wp2_with fail
        go_roundw
        case rel => exact ⟨k + 1, p, by omega, by go_num, hR2, Lib.hid (blk_row B5.out _), Lib.hid (below_row H5.out hWn _)⟩
        case measure => simp [intOf]; omega
    · obtain rfl : k = K0 := by omega
      go_wp2_with fail
      go_loopw [8] (fun i wx => ∃ (j : Nat), j ≤ 8 ∧ i = .int .i64 j ∧ Hid (wx.heap[n]? = some (.cells c.c 24 (0, 0))) ∧ Hid (Below W.heap.size W wx)) (fun i _ => 8 - (intOf i).toNat)
      case atStart => exact ⟨0, by omega, rfl, bk, hB⟩
      case round =>
        obtain ⟨j, hj, rfl, bj, hC⟩ := hrel
        by_cases hlt : j < 8
        · have c1 := (blk_cell bj.out (8 + j)).trans (c_h c hlt)
          rw [hR.out.2 j hlt] at c1
          by_cases hjk : j < k
          · rw [if_pos hjk] at c1
            obtain ⟨x, rfl, hxb, hc⟩ := ints_below Hz.out hC.out (show k - 1 - j < len by omega)
            obtain ⟨z, hz⟩ : ∃ z, z = zs.getD (k - 1 - j) 0 := ⟨_, rfl⟩
            rw [← hz] at hc
            have hm : bits .and .i64 z 65535 = z % 65536 := Num.and_mask _ 65535 16 (by omega) (by rfl)
            obtain ⟨r, hr⟩ : ∃ r, r = z % 65536 := ⟨_, rfl⟩
            have r1 : 0 ≤ r ∧ r < 65536 := by omega
            rw [← hr] at hm
            have hv1 : hv zs (k - 1 - j) = r - 30000 := by unfold hv; rw [← hz, ← hr]
            rw [hv1] at c1
            obtain ⟨r1, r2⟩ := r1
            clear hr hz hv1
            go_wp2_with fail
            go_roundw
            case rel => exact ⟨j + 1, by omega, by go_num, bj, hC⟩
            case measure => simp [intOf]; omega
          · rw [if_neg hjk] at c1
            go_wp2_with fail
            go_roundw
            case rel => exact ⟨j + 1, by omega, by go_num, bj, hC⟩
            case measure => simp [intOf]; omega
        · go_wp2_with fail
          go_ret
          exact ⟨rfl, hC.out⟩
end Go.Proofs.Ytglkcjepbfpkmaa.PAll
