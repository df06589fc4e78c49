/- Layer 16, the document's PutLine and GetLine: what they answer. -/
import Derived.Test.YtpojgfpfkfjegaaLine
namespace Go.Proofs.Ytpojgfpfkfjegaa.PAll
open Go Go.RowKit Go.Proofs.YtpojgfpfkfjegaaW.PrintWords Go.Proofs.YtpojgfpfkfjegaaW.PrintMore Go.Proofs.YtpojgfpfkfjegaaW.PrintLast
set_option linter.unusedVariables false
set_option linter.unusedSimpArgs false
attribute [-go_sem] Instr.loadAt Instr.storeAt Instr.build
attribute [local go_sem high] shut33 shut16 ch_set0 equal_lms2 equal_ch2 load_new_lms store_new_lms load_new_ch store_new_ch load_word store_word build_ch0 build_ch1 build_ch3

set_option maxHeartbeats 16000000 in
theorem refPutLine_c (A : Option Addr) (c0 : Nat) (xs : List Int) (W : World) (hr : (Kd.int .i64).C W A xs.length xs) (hc : xs.length ≤ c0) : Calls Try.prog 10 #[.slice A xs.length c0] W fun e W' => ∃ v, e = .returned (.tuple #[v, .int .i64 (lineOf putOne xs).2]) ∧ RI W' W.heap.size v (lineOf putOne xs).1 ∧ Below W.heap.size W W' := by
  have Hr := Lib.hid hr
  clear hr
  by_cases hl : xs.length ≤ 256
  · have d1 : decide ((xs.length : Int) > 256) = false := decide_eq_false (by omega)
    go_enter Try.func10, Try.ntmps10
    go_wp2_with fail
    have B2 := Lib.hid (blk_new W (.cells chZero.c 43))
    have H2 := Lib.hid (below_alloc (Below.refl W.heap.size W) (.cells chZero.c 43))
    have R2 : Hid (RI (W.alloc (.cells chZero.c 43)) W.heap.size (.slice none 0 0) []) := Lib.hid (Kd.R_nil _ _ _ _ _)
    obtain ⟨n, hn⟩ : ∃ n, n = W.heap.size := ⟨_, rfl⟩
    have hWn : W.heap.size ≤ n := by omega
    simp only [← hn] at B2 ⊢
    clear hn
    go_loopw [5, 6] (fun u i wr => ∃ (k : Nat) (c : Chain) (out : List Int), k ≤ xs.length ∧ i = .int .i64 k ∧ Hid (turnL putOne xs chZero [] = turnL putOne (xs.drop k) c out) ∧ out.length = k ∧ Hid (RI wr W.heap.size u out) ∧ Hid (wr.heap[n]? = some (.cells c.c 43 (0, 0))) ∧ Hid (Below W.heap.size W wr)) (fun _ i _ => xs.length - (intOf i).toNat)
    case atStart => exact ⟨0, chZero, [], by omega, rfl, Lib.hid rfl, rfl, R2, B2, H2⟩
    case round =>
      obtain ⟨k, c, out, hk, rfl, hT, hol, hR, bk, hB⟩ := hrel
      have z3 : n < wr.heap.size := blk_lt bk.out
      by_cases hlt : k < xs.length
      · obtain ⟨ad, rfl, hx⟩ := elem_at Hr.out hB.out hlt
        have hT2 := hT.out
        rw [drop_at xs hlt] at hT2
        obtain ⟨x, hxe⟩ : ∃ x, x = rd xs (k : Int) := ⟨_, rfl⟩
        rw [← hxe] at hx hT2
        have HT := Lib.hid hT2
        clear hxe hT hT2
        have k1 := load_ch bk.out
        go_wp2_with fail
        refine (refChGuess_c c _).mono ?_
        rintro e w3 ⟨rfl, hb⟩
        have B3 := Lib.hid (blk_below bk.out hb)
        have H3 := Lib.hid (below_step hB.out hb)
        have R3 := Lib.hid (Kd.R_below hR.out hb)
        have hx3 := cell_below hx hb
        have Ty := fun h => HT.out.trans (turn_yes (one := putOne) (x := x) (c := c) h (inB_iff.2 (by have h9 : -131072 ≤ x ∧ x ≤ 131072 := learn_ok_in h; omega)))
        have Tn := fun h => HT.out.trans (turn_no (one := putOne) (x := x) (c := c) h)
        obtain ⟨g, hg⟩ : ∃ g, g = (chGuess c).1 := ⟨_, rfl⟩
        rw [← hg] at Ty Tn ⊢
        have HTy : Hid ((chLearn c x).2 = 0 → turnL putOne xs chZero [] = turnL putOne (xs.drop (k + 1)) (chLearn c x).1 (out ++ [wrap64 (x - g)])) := Lib.hid Ty
        have HTn : Hid (¬ ((chLearn c x).2 = 0 ∧ inB x 16777216 = true) → turnL putOne xs chZero [] = none) := Lib.hid Tn
        clear hb bk hB hR k1 hx hg HT Ty Tn
        have k3 := load_ch B3.out
        have z4 : n < w3.heap.size := blk_lt B3.out
        go_wp2_with fail
        refine start_ (n := 12) (S := fun w' => w'.heap[n]? = some (.cells c.c 43 (0, 0)) ∧ w'.cell? (ad.add k) = some (.int .i64 x)) (ds := [10]) #[false, false, false, false, false, false, false, false, false, false, false, false] (by kernel_rfl) rfl rfl (⟨B3.out, hx3⟩) (fun hHeld => ?_)
        refine take_ (i := 0) (N := some 26) (v := ?_) (a' := ?_) #[true, false, false, false, false, false, false, false, false, false, false, false] rfl rfl (by kernel_rfl) (fun _ _ _ h => h) (Or.inl ⟨by rfl, ?_⟩) hHeld ?_ ?_
        rotate_left
        · rintro w' ⟨s0, s1⟩
          have ld := load_ch s0
          go_simp
          with_reducible rfl
        rotate_left
        · simp only [Act.put, List.setIfInBounds_toArray, List.set_cons_zero, List.set_cons_succ, i64_w, i32_w]
          rfl
        refine pure_ (i := 1) (N := some 27) (v := ?_) (a' := ?_) #[true, true, false, false, false, false, false, false, false, false, false, false] rfl rfl (by kernel_rfl) (fun _ _ _ h => h) (Or.inl ⟨by rfl, ?_⟩) ?_ ?_
        rotate_left
        · intro w'
          go_simp
          with_reducible rfl
        rotate_left
        · simp only [Act.put, List.setIfInBounds_toArray, List.set_cons_zero, List.set_cons_succ, i64_w, i32_w]
          rfl
        refine pure_ (i := 2) (N := some 28) (v := ?_) (a' := ?_) #[true, true, true, false, false, false, false, false, false, false, false, false] rfl rfl (by kernel_rfl) (fun _ _ _ h => h) (Or.inl ⟨by rfl, ?_⟩) ?_ ?_
        rotate_left
        · intro w'
          go_simp
          with_reducible rfl
        rotate_left
        · simp only [Act.put, List.setIfInBounds_toArray, List.set_cons_zero, List.set_cons_succ, i64_w, i32_w]
          rfl
        refine pure_ (i := 3) (N := some 29) (v := ?_) (a' := ?_) #[true, true, true, true, false, false, false, false, false, false, false, false] rfl rfl (by kernel_rfl) (fun _ _ _ h => h) (Or.inl ⟨by rfl, ?_⟩) ?_ ?_
        rotate_left
        · intro w'
          go_simp
          with_reducible rfl
        rotate_left
        · simp only [Act.put, List.setIfInBounds_toArray, List.set_cons_zero, List.set_cons_succ, i64_w, i32_w]
          rfl
        refine take_ (i := 4) (N := some 30) (v := ?_) (a' := ?_) #[true, true, true, true, true, false, false, false, false, false, false, false] rfl rfl (by kernel_rfl) (fun _ _ _ h => h) (Or.inl ⟨by rfl, ?_⟩) hHeld ?_ ?_
        rotate_left
        · rintro w' ⟨s0, s1⟩
          go_simp
          with_reducible rfl
        rotate_left
        · simp only [Act.put, List.setIfInBounds_toArray, List.set_cons_zero, List.set_cons_succ, i64_w, i32_w]
          rfl
        refine two_ (i := 5) (j := 9) (Ni := some 31) (Nj := some 9) #[true, true, true, true, true, true, false, false, false, false, false, false] #[true, true, true, true, true, false, false, false, false, true, false, false] rfl rfl rfl rfl (by kernel_rfl) (by decide) (by decide) (fun K hK => ?_) (fun K hK => ?_)
        · refine goes_ Try.func22 (by kernel_rfl) rfl #[.agg c.c, .int .i64 _] (by rfl) rfl rfl (by (try simp only [List.map_toArray, List.map_cons, List.map_nil]); rfl) ?_
          refine (refChLearn_c c x _).mono ?_
          rintro e w4 ⟨rfl, hb⟩
          obtain ⟨m, hm⟩ : ∃ m, m = (chLearn c x).1 := ⟨_, rfl⟩
          rw [← hm]
          have Hm := Lib.hid hm
          clear hm
          refine ⟨_, rfl, ?_⟩
          refine hK.out _ _ (⟨blk_below hHeld.1 hb, cell_below hHeld.2 hb⟩) (fun hHeld2 => ?_)
          clear hK K
          have hne : w4.heap.size ≠ n := by have := blk_lt hHeld2.1; omega
          have B5 := Lib.hid (blk_alloc hHeld2.1 (.cells m.c 43))
          have M5 := Lib.hid (blk_new w4 (.cells m.c 43))
          have X5 := Lib.hid (cell_alloc hHeld2.2 (.cells m.c 43))
          have H5 := Lib.hid (below_alloc (below_step (H3.out.drew) hb) (.cells m.c 43))
          have R5 := Lib.hid (Kd.R_below (Kd.R_below (Kd.R_drew R3.out) hb) (below_alloc (Below.refl w4.heap.size w4) (.cells m.c 43)))
          refine norm_ (a' := ?_) ?_ ?_
          rotate_left
          · show Act.put _ (some 31) _ = _
            simp only [Act.put, List.setIfInBounds_toArray, List.set_cons_zero, List.set_cons_succ, i64_w, i32_w]
            rfl
          refine pure_ (i := 6) (N := some 25) (v := ?_) (a' := ?_) #[true, true, true, true, true, true, true, false, false, false, false, false] rfl rfl (by kernel_rfl) (fun _ _ _ h => h) (Or.inl ⟨by rfl, ?_⟩) ?_ ?_
          rotate_left
          · intro w'
            go_simp
            with_reducible rfl
          rotate_left
          · simp only [Act.put, List.setIfInBounds_toArray, List.set_cons_zero, List.set_cons_succ, i64_w, i32_w]
            rfl
          refine pure_ (i := 7) (N := some 32) (v := ?_) (a' := ?_) #[true, true, true, true, true, true, true, true, false, false, false, false] rfl rfl (by kernel_rfl) (fun _ _ _ h => h) (Or.inl ⟨by rfl, ?_⟩) ?_ ?_
          rotate_left
          · intro w'
            go_simp
            with_reducible rfl
          rotate_left
          · simp only [Act.put, List.setIfInBounds_toArray, List.set_cons_zero, List.set_cons_succ, i64_w, i32_w]
            rfl
          refine pure_ (i := 8) (N := some 33) (v := ?_) (a' := ?_) #[true, true, true, true, true, true, true, true, true, false, false, false] rfl rfl (by kernel_rfl) (fun _ _ _ h => h) (Or.inl ⟨by rfl, ?_⟩) ?_ ?_
          rotate_left
          · intro w'
            go_simp
            with_reducible rfl
          rotate_left
          · simp only [Act.put, List.setIfInBounds_toArray, List.set_cons_zero, List.set_cons_succ, i64_w, i32_w]
            rfl
          refine one_ (i := 9) (N := some 9) #[true, true, true, true, true, true, true, true, true, true, false, false] rfl rfl (by kernel_rfl) (by decide) (fun K hK => ?_)
          refine value_ (w1 := w4.alloc (.cells chZero.c 43)) (v := .pointer (some ⟨w4.heap.size, 0, none⟩)) (by rfl) rfl (by go_simp; try rfl) ?_
          refine hK.out _ _ (⟨blk_alloc hHeld2.1 _, cell_alloc hHeld2.2 _⟩) (fun hHeld => ?_)
          clear hK K
          refine norm_ (a' := ?_) ?_ ?_
          rotate_left
          · show Act.put _ (some 9) _ = _
            simp only [Act.put, List.setIfInBounds_toArray, List.set_cons_zero, List.set_cons_succ, i64_w, i32_w]
            rfl
          refine last_ (i := 10) (N := none) #[true, true, true, true, true, true, true, true, true, true, true, false] rfl rfl (by kernel_rfl) (by decide) (fun K hK => ?_)
          refine skip_ (w1 := w4.alloc (.cells m.c 43)) (by rfl) rfl (by go_simp; try rfl) ?_
          refine hK.out _ _ ?_
          clear hK K
          clear hHeld hHeld2 hb B3 H3 R3 hx3
          refine pure_ (i := 11) (N := some 10) (v := ?_) (a' := ?_) #[true, true, true, true, true, true, true, true, true, true, true, true] rfl rfl (by kernel_rfl) (fun _ _ _ h => h) (Or.inl ⟨by rfl, ?_⟩) ?_ ?_
          rotate_left
          · intro w'
            go_simp
            with_reducible rfl
          rotate_left
          · simp only [Act.put, List.setIfInBounds_toArray, List.set_cons_zero, List.set_cons_succ, i64_w, i32_w]
            rfl
          refine done_ (by kernel_rfl) ?_
          generalize w4.alloc (.cells m.c 43) = w5 at B5 M5 X5 H5 R5 ⊢
          obtain ⟨np, hnp⟩ : ∃ np, np = w4.heap.size := ⟨_, rfl⟩
          simp only [← hnp] at M5 hne ⊢
          clear hnp
          by_cases hok : (chLearn c x).2 = 0
          · have HT3 := Lib.hid (HTy.out hok)
            rw [hok]
            have x5 := X5.out
            have z5 : np < w5.heap.size := blk_lt M5.out
            clear HTn
            go_wp2_with (first | ((with_reducible refine gate_builtin (b := .append) (xs := #[.tmp 36, .tmp 43]) rfl ?_); at_builtin; refine Kd.R_append (Kd.int .i64) (w0 := W) (W := w5) W.heap.size rfl (.tmp 36) (.tmp 43) 22 3 (.int .i64 0) 8 rfl Try.underlying22 infoI rfl (by decide) (by omega) u5 out (wrap64 (x - g)) [.int .i64 (wrap64 (x - g))] (fun _ => True) (fun _ => False) rfl rfl ?aP (fun _ hk => hk.elim) ?aF ?aO ?aB ?aS ?aL ?_; (case aP => exact rfl); (case aF => exact (fun _ _ => trivial)); (case aO => exact R5.out); (case aB => exact H5.out); (case aS => exact H5.out.size); (case aL => have := hol; omega); intro v1 w6 ho hb hg hat; have B6 := Lib.hid (blk_grown B5.out hg (ri_ne R5.out B5.out)); have M6 := Lib.hid (blk_grown M5.out hg (ri_ne R5.out M5.out)); have R6 := Lib.hid (ri_row ho B6.out m.c); have H6 := Lib.hid (below_row hb hWn m.c); have l6 := load_ch M6.out; have s6 := store_ch B6.out m))
            go_roundw
            case rel => exact ⟨k + 1, m, out ++ [wrap64 (x - g)], by omega, by go_num, by rw [Hm.out]; exact HT3, by rw [List.length_append, hol]; rfl, R6, Lib.hid (blk_row B6.out _), H6⟩
            case measure => simp [intOf]; omega
          · have h15 := (learn_two c x).resolve_left hok
            have HN := line_none hl (HTn.out (fun h => hok h.1))
            rw [h15]
            clear HTy HTn
            go_wp2_with fail
            go_ret2
            exact ⟨_, by rw [HN]; rfl, by rw [HN]; exact Kd.R_nil _ _ _ _ _, H5.out⟩
        · refine value_ (w1 := w3.drew.alloc (.cells chZero.c 43)) (v := .pointer (some ⟨w3.heap.size, 0, none⟩)) (by rfl) rfl (by go_simp; try rfl) ?_
          refine hK.out _ _ (⟨blk_alloc (blk_drew B3.out) _, cell_alloc hx3 _⟩) (fun hHeld2 => ?_)
          clear hK K
          refine norm_ (a' := ?_) ?_ ?_
          rotate_left
          · show Act.put _ (some 9) _ = _
            simp only [Act.put, List.setIfInBounds_toArray, List.set_cons_zero, List.set_cons_succ, i64_w, i32_w]
            rfl
          refine one_ (i := 5) (N := some 31) #[true, true, true, true, true, true, false, false, false, true, false, false] rfl rfl (by kernel_rfl) (by decide) (fun K hK => ?_)
          refine goes_ Try.func22 (by kernel_rfl) rfl #[.agg c.c, .int .i64 _] (by rfl) rfl rfl (by (try simp only [List.map_toArray, List.map_cons, List.map_nil]); rfl) ?_
          refine (refChLearn_c c x _).mono ?_
          rintro e w4 ⟨rfl, hb⟩
          obtain ⟨m, hm⟩ : ∃ m, m = (chLearn c x).1 := ⟨_, rfl⟩
          rw [← hm]
          have Hm := Lib.hid hm
          clear hm
          refine ⟨_, rfl, ?_⟩
          refine hK.out _ _ (⟨blk_below hHeld2.1 hb, cell_below hHeld2.2 hb⟩) (fun hHeld3 => ?_)
          clear hK K
          refine norm_ (a' := ?_) ?_ ?_
          rotate_left
          · show Act.put _ (some 31) _ = _
            simp only [Act.put, List.setIfInBounds_toArray, List.set_cons_zero, List.set_cons_succ, i64_w, i32_w]
            rfl
          refine pure_ (i := 6) (N := some 25) (v := ?_) (a' := ?_) #[true, true, true, true, true, true, true, false, false, true, false, false] rfl rfl (by kernel_rfl) (fun _ _ _ h => h) (Or.inl ⟨by rfl, ?_⟩) ?_ ?_
          rotate_left
          · intro w'
            go_simp
            with_reducible rfl
          rotate_left
          · simp only [Act.put, List.setIfInBounds_toArray, List.set_cons_zero, List.set_cons_succ, i64_w, i32_w]
            rfl
          refine pure_ (i := 7) (N := some 32) (v := ?_) (a' := ?_) #[true, true, true, true, true, true, true, true, false, true, false, false] rfl rfl (by kernel_rfl) (fun _ _ _ h => h) (Or.inl ⟨by rfl, ?_⟩) ?_ ?_
          rotate_left
          · intro w'
            go_simp
            with_reducible rfl
          rotate_left
          · simp only [Act.put, List.setIfInBounds_toArray, List.set_cons_zero, List.set_cons_succ, i64_w, i32_w]
            rfl
          refine pure_ (i := 8) (N := some 33) (v := ?_) (a' := ?_) #[true, true, true, true, true, true, true, true, true, true, false, false] rfl rfl (by kernel_rfl) (fun _ _ _ h => h) (Or.inl ⟨by rfl, ?_⟩) ?_ ?_
          rotate_left
          · intro w'
            go_simp
            with_reducible rfl
          rotate_left
          · simp only [Act.put, List.setIfInBounds_toArray, List.set_cons_zero, List.set_cons_succ, i64_w, i32_w]
            rfl
          have P2 : w4.heap[w3.heap.size]? = some (.cells chZero.c 43 (0, 0)) := blk_below (blk_new w3.drew (.cells chZero.c 43)) hb
          have st := store_ch P2 m
          refine last_ (i := 10) (N := none) #[true, true, true, true, true, true, true, true, true, true, true, false] rfl rfl (by kernel_rfl) (by decide) (fun K hK => ?_)
          refine skip_ (w1 := w4.setRow w3.heap.size m.c) (by rfl) rfl (by go_simp; try rfl) ?_
          refine hK.out _ _ ?_
          clear hK K
          have hne : w3.heap.size ≠ n := by have := blk_lt B3.out; omega
          have B5 := Lib.hid (blk_row_far hHeld3.1 hne.symm m.c)
          have M5 := Lib.hid (blk_row P2 m.c)
          have X5 := Lib.hid (show (w4.setRow w3.heap.size m.c).cell? (ad.add k) = some (.int .i64 x) from (cell_setRow_other w4 w3.heap.size m.c (ad.add k) (by have := World.block_lt_of_cell? w3 _ hx3; omega)).trans hHeld3.2)
          have H5 := Lib.hid (below_row (below_step (below_alloc (H3.out.drew) (.cells chZero.c 43)) hb) (show W.heap.size ≤ w3.heap.size from H3.out.size) m.c)
          have R5 := Lib.hid (ri_row (Kd.R_below (Kd.R_below (Kd.R_drew R3.out) (below_alloc (Below.refl w3.drew.heap.size w3.drew) (.cells chZero.c 43))) hb) P2 m.c)
          clear st P2 hHeld hHeld2 hHeld3 hb B3 H3 R3 hx3
          refine pure_ (i := 11) (N := some 10) (v := ?_) (a' := ?_) #[true, true, true, true, true, true, true, true, true, true, true, true] rfl rfl (by kernel_rfl) (fun _ _ _ h => h) (Or.inl ⟨by rfl, ?_⟩) ?_ ?_
          rotate_left
          · intro w'
            go_simp
            with_reducible rfl
          rotate_left
          · simp only [Act.put, List.setIfInBounds_toArray, List.set_cons_zero, List.set_cons_succ, i64_w, i32_w]
            rfl
          refine done_ (by kernel_rfl) ?_
          generalize w4.setRow w3.heap.size m.c = w5 at B5 M5 X5 H5 R5 ⊢
          obtain ⟨np, hnp⟩ : ∃ np, np = w3.heap.size := ⟨_, rfl⟩
          simp only [← hnp] at M5 hne ⊢
          clear hnp
          by_cases hok : (chLearn c x).2 = 0
          · have HT3 := Lib.hid (HTy.out hok)
            rw [hok]
            have x5 := X5.out
            have z5 : np < w5.heap.size := blk_lt M5.out
            clear HTn
            go_wp2_with (first | ((with_reducible refine gate_builtin (b := .append) (xs := #[.tmp 36, .tmp 43]) rfl ?_); at_builtin; refine Kd.R_append (Kd.int .i64) (w0 := W) (W := w5) W.heap.size rfl (.tmp 36) (.tmp 43) 22 3 (.int .i64 0) 8 rfl Try.underlying22 infoI rfl (by decide) (by omega) u5 out (wrap64 (x - g)) [.int .i64 (wrap64 (x - g))] (fun _ => True) (fun _ => False) rfl rfl ?aP (fun _ hk => hk.elim) ?aF ?aO ?aB ?aS ?aL ?_; (case aP => exact rfl); (case aF => exact (fun _ _ => trivial)); (case aO => exact R5.out); (case aB => exact H5.out); (case aS => exact H5.out.size); (case aL => have := hol; omega); intro v1 w6 ho hb hg hat; have B6 := Lib.hid (blk_grown B5.out hg (ri_ne R5.out B5.out)); have M6 := Lib.hid (blk_grown M5.out hg (ri_ne R5.out M5.out)); have R6 := Lib.hid (ri_row ho B6.out m.c); have H6 := Lib.hid (below_row hb hWn m.c); have l6 := load_ch M6.out; have s6 := store_ch B6.out m))
            go_roundw
            case rel => exact ⟨k + 1, m, out ++ [wrap64 (x - g)], by omega, by go_num, by rw [Hm.out]; exact HT3, by rw [List.length_append, hol]; rfl, R6, Lib.hid (blk_row B6.out _), H6⟩
            case measure => simp [intOf]; omega
          · have h15 := (learn_two c x).resolve_left hok
            have HN := line_none hl (HTn.out (fun h => hok h.1))
            rw [h15]
            clear HTy HTn
            go_wp2_with fail
            go_ret2
            exact ⟨_, by rw [HN]; rfl, by rw [HN]; exact Kd.R_nil _ _ _ _ _, H5.out⟩
      · obtain rfl : k = xs.length := by omega
        have HT2 := hT.out
        rw [List.drop_length] at HT2
        have HN := line_some hl (HT2.trans rfl)
        go_wp2_with fail
        go_ret2
        exact ⟨_, by rw [HN]; rfl, by rw [HN]; exact hR.out, hB.out⟩
  · have d1 : decide ((xs.length : Int) > 256) = true := decide_eq_true (by omega)
    have HN := line_long (one := putOne) hl
    go_enter Try.func10, Try.ntmps10
    go_wp2_with fail
    go_ret2
    exact ⟨_, by rw [HN]; rfl, by rw [HN]; exact Kd.R_nil _ _ _ _ _, Below.refl _ _⟩

set_option maxHeartbeats 16000000 in
theorem refGetLine_c (A : Option Addr) (c0 : Nat) (xs : List Int) (W : World) (hr : (Kd.int .i64).C W A xs.length xs) (hc : xs.length ≤ c0) : Calls Try.prog 12 #[.slice A xs.length c0] W fun e W' => ∃ v, e = .returned (.tuple #[v, .int .i64 (lineOf getOne xs).2]) ∧ RI W' W.heap.size v (lineOf getOne xs).1 ∧ Below W.heap.size W W' := by
  have Hr := Lib.hid hr
  clear hr
  by_cases hl : xs.length ≤ 256
  · have d1 : decide ((xs.length : Int) > 256) = false := decide_eq_false (by omega)
    go_enter Try.func12, Try.ntmps12
    go_wp2_with fail
    have B2 := Lib.hid (blk_new W (.cells chZero.c 43))
    have H2 := Lib.hid (below_alloc (Below.refl W.heap.size W) (.cells chZero.c 43))
    have R2 : Hid (RI (W.alloc (.cells chZero.c 43)) W.heap.size (.slice none 0 0) []) := Lib.hid (Kd.R_nil _ _ _ _ _)
    obtain ⟨n, hn⟩ : ∃ n, n = W.heap.size := ⟨_, rfl⟩
    have hWn : W.heap.size ≤ n := by omega
    simp only [← hn] at B2 ⊢
    clear hn
    go_loopw [5, 6] (fun u i wr => ∃ (k : Nat) (c : Chain) (out : List Int), k ≤ xs.length ∧ i = .int .i64 k ∧ Hid (turnL getOne xs chZero [] = turnL getOne (xs.drop k) c out) ∧ out.length = k ∧ Hid (RI wr W.heap.size u out) ∧ Hid (wr.heap[n]? = some (.cells c.c 43 (0, 0))) ∧ Hid (Below W.heap.size W wr)) (fun _ i _ => xs.length - (intOf i).toNat)
    case atStart => exact ⟨0, chZero, [], by omega, rfl, Lib.hid rfl, rfl, R2, B2, H2⟩
    case round =>
      obtain ⟨k, c, out, hk, rfl, hT, hol, hR, bk, hB⟩ := hrel
      have z3 : n < wr.heap.size := blk_lt bk.out
      by_cases hlt : k < xs.length
      · obtain ⟨ad, rfl, hx⟩ := elem_at Hr.out hB.out hlt
        have hT2 := hT.out
        rw [drop_at xs hlt] at hT2
        obtain ⟨x, hxe⟩ : ∃ x, x = rd xs (k : Int) := ⟨_, rfl⟩
        rw [← hxe] at hx hT2
        have HT := Lib.hid hT2
        clear hxe hT hT2
        have k1 := load_ch bk.out
        go_wp2_with fail
        refine (refChGuess_c c _).mono ?_
        rintro e w3 ⟨rfl, hb⟩
        have B3 := Lib.hid (blk_below bk.out hb)
        have H3 := Lib.hid (below_step hB.out hb)
        have R3 := Lib.hid (Kd.R_below hR.out hb)
        have hx3 := cell_below hx hb
        have Ty := fun h h2 => HT.out.trans (turn_yes (one := getOne) (x := x) (c := c) h h2)
        have Tn := fun h => HT.out.trans (turn_no (one := getOne) (x := x) (c := c) h)
        obtain ⟨g, hg⟩ : ∃ g, g = (chGuess c).1 := ⟨_, rfl⟩
        rw [← hg] at Ty Tn ⊢
        have HTy0 : Hid ((chLearn c (wrap64 (x + g))).2 = 0 → inB x 16777216 = true → turnL getOne xs chZero [] = turnL getOne (xs.drop (k + 1)) (chLearn c (wrap64 (x + g))).1 (out ++ [wrap64 (x + g)])) := Lib.hid Ty
        have HTn : Hid (¬ ((chLearn c (wrap64 (x + g))).2 = 0 ∧ inB x 16777216 = true) → turnL getOne xs chZero [] = none) := Lib.hid Tn
        clear hb bk hB hR k1 hx hg HT Ty Tn
        have k3 := load_ch B3.out
        have z4 : n < w3.heap.size := blk_lt B3.out
        cases hN : inB x 16777216
        · have HN := line_none hl (HTn.out (fun h => by rw [hN] at h; exact absurd h.2 (by decide)))
          have hN2 : decide (-16777216 ≤ x ∧ x ≤ 16777216) = false := hN
          go_wp2_with (go_at_call 24; refine (refUpTo_calls _ _ _ _).mono ?_; rintro e w' ⟨rfl, hw⟩; have hw := hw.symm; subst hw)
          go_ret2
          exact ⟨_, by rw [HN]; rfl, by rw [HN]; exact Kd.R_nil _ _ _ _ _, H3.out⟩
        have HTy := Lib.hid (fun h => HTy0.out h hN)
        have hN2 : decide (-16777216 ≤ x ∧ x ≤ 16777216) = true := hN
        clear HTy0 hN
        go_wp2_with (go_at_call 24; refine (refUpTo_calls _ _ _ _).mono ?_; rintro e w' ⟨rfl, hw⟩; have hw := hw.symm; subst hw)
        refine start_ (n := 14) (S := fun w' => w'.heap[n]? = some (.cells c.c 43 (0, 0)) ∧ w'.cell? (ad.add k) = some (.int .i64 x)) (ds := [12]) #[false, false, false, false, false, false, false, false, false, false, false, false, false, false] (by kernel_rfl) rfl rfl (⟨B3.out, hx3⟩) (fun hHeld => ?_)
        refine take_ (i := 0) (N := some 32) (v := ?_) (a' := ?_) #[true, false, false, false, false, false, false, false, false, false, false, false, false, false] rfl rfl (by kernel_rfl) (fun _ _ _ h => h) (Or.inl ⟨by rfl, ?_⟩) hHeld ?_ ?_
        rotate_left
        · rintro w' ⟨s0, s1⟩
          have ld := load_ch s0
          go_simp
          with_reducible rfl
        rotate_left
        · simp only [Act.put, List.setIfInBounds_toArray, List.set_cons_zero, List.set_cons_succ, i64_w, i32_w]
          rfl
        refine pure_ (i := 1) (N := some 33) (v := ?_) (a' := ?_) #[true, true, false, false, false, false, false, false, false, false, false, false, false, false] rfl rfl (by kernel_rfl) (fun _ _ _ h => h) (Or.inl ⟨by rfl, ?_⟩) ?_ ?_
        rotate_left
        · intro w'
          go_simp
          with_reducible rfl
        rotate_left
        · simp only [Act.put, List.setIfInBounds_toArray, List.set_cons_zero, List.set_cons_succ, i64_w, i32_w]
          rfl
        refine pure_ (i := 2) (N := some 34) (v := ?_) (a' := ?_) #[true, true, true, false, false, false, false, false, false, false, false, false, false, false] rfl rfl (by kernel_rfl) (fun _ _ _ h => h) (Or.inl ⟨by rfl, ?_⟩) ?_ ?_
        rotate_left
        · intro w'
          go_simp
          with_reducible rfl
        rotate_left
        · simp only [Act.put, List.setIfInBounds_toArray, List.set_cons_zero, List.set_cons_succ, i64_w, i32_w]
          rfl
        refine pure_ (i := 3) (N := some 35) (v := ?_) (a' := ?_) #[true, true, true, true, false, false, false, false, false, false, false, false, false, false] rfl rfl (by kernel_rfl) (fun _ _ _ h => h) (Or.inl ⟨by rfl, ?_⟩) ?_ ?_
        rotate_left
        · intro w'
          go_simp
          with_reducible rfl
        rotate_left
        · simp only [Act.put, List.setIfInBounds_toArray, List.set_cons_zero, List.set_cons_succ, i64_w, i32_w]
          rfl
        refine take_ (i := 4) (N := some 36) (v := ?_) (a' := ?_) #[true, true, true, true, true, false, false, false, false, false, false, false, false, false] rfl rfl (by kernel_rfl) (fun _ _ _ h => h) (Or.inl ⟨by rfl, ?_⟩) hHeld ?_ ?_
        rotate_left
        · rintro w' ⟨s0, s1⟩
          go_simp
          with_reducible rfl
        rotate_left
        · simp only [Act.put, List.setIfInBounds_toArray, List.set_cons_zero, List.set_cons_succ, i64_w, i32_w]
          rfl
        refine pure_ (i := 5) (N := some 37) (v := ?_) (a' := ?_) #[true, true, true, true, true, true, false, false, false, false, false, false, false, false] rfl rfl (by kernel_rfl) (fun _ _ _ h => h) (Or.inl ⟨by rfl, ?_⟩) ?_ ?_
        rotate_left
        · intro w'
          go_simp
          with_reducible rfl
        rotate_left
        · simp only [Act.put, List.setIfInBounds_toArray, List.set_cons_zero, List.set_cons_succ, i64_w, i32_w]
          rfl
        refine pure_ (i := 6) (N := some 38) (v := ?_) (a' := ?_) #[true, true, true, true, true, true, true, false, false, false, false, false, false, false] rfl rfl (by kernel_rfl) (fun _ _ _ h => h) (Or.inl ⟨by rfl, ?_⟩) ?_ ?_
        rotate_left
        · intro w'
          go_simp
          with_reducible rfl
        rotate_left
        · simp only [Act.put, List.setIfInBounds_toArray, List.set_cons_zero, List.set_cons_succ, i64_w, i32_w]
          rfl
        refine two_ (i := 7) (j := 11) (Ni := some 39) (Nj := some 9) #[true, true, true, true, true, true, true, true, false, false, false, false, false, false] #[true, true, true, true, true, true, true, false, false, false, false, true, false, false] rfl rfl rfl rfl (by kernel_rfl) (by decide) (by decide) (fun K hK => ?_) (fun K hK => ?_)
        · refine goes_ Try.func22 (by kernel_rfl) rfl #[.agg c.c, .int .i64 _] (by rfl) rfl rfl (by (try simp only [List.map_toArray, List.map_cons, List.map_nil]); rfl) ?_
          refine (refChLearn_c c (wrap64 (x + g)) _).mono ?_
          rintro e w4 ⟨rfl, hb⟩
          obtain ⟨m, hm⟩ : ∃ m, m = (chLearn c (wrap64 (x + g))).1 := ⟨_, rfl⟩
          rw [← hm]
          have Hm := Lib.hid hm
          clear hm
          refine ⟨_, rfl, ?_⟩
          refine hK.out _ _ (⟨blk_below hHeld.1 hb, cell_below hHeld.2 hb⟩) (fun hHeld2 => ?_)
          clear hK K
          have hne : w4.heap.size ≠ n := by have := blk_lt hHeld2.1; omega
          have B5 := Lib.hid (blk_alloc hHeld2.1 (.cells m.c 43))
          have M5 := Lib.hid (blk_new w4 (.cells m.c 43))
          have X5 := Lib.hid (cell_alloc hHeld2.2 (.cells m.c 43))
          have H5 := Lib.hid (below_alloc (below_step (H3.out.drew) hb) (.cells m.c 43))
          have R5 := Lib.hid (Kd.R_below (Kd.R_below (Kd.R_drew R3.out) hb) (below_alloc (Below.refl w4.heap.size w4) (.cells m.c 43)))
          refine norm_ (a' := ?_) ?_ ?_
          rotate_left
          · show Act.put _ (some 39) _ = _
            simp only [Act.put, List.setIfInBounds_toArray, List.set_cons_zero, List.set_cons_succ, i64_w, i32_w]
            rfl
          refine pure_ (i := 8) (N := some 31) (v := ?_) (a' := ?_) #[true, true, true, true, true, true, true, true, true, false, false, false, false, false] rfl rfl (by kernel_rfl) (fun _ _ _ h => h) (Or.inl ⟨by rfl, ?_⟩) ?_ ?_
          rotate_left
          · intro w'
            go_simp
            with_reducible rfl
          rotate_left
          · simp only [Act.put, List.setIfInBounds_toArray, List.set_cons_zero, List.set_cons_succ, i64_w, i32_w]
            rfl
          refine pure_ (i := 9) (N := some 40) (v := ?_) (a' := ?_) #[true, true, true, true, true, true, true, true, true, true, false, false, false, false] rfl rfl (by kernel_rfl) (fun _ _ _ h => h) (Or.inl ⟨by rfl, ?_⟩) ?_ ?_
          rotate_left
          · intro w'
            go_simp
            with_reducible rfl
          rotate_left
          · simp only [Act.put, List.setIfInBounds_toArray, List.set_cons_zero, List.set_cons_succ, i64_w, i32_w]
            rfl
          refine pure_ (i := 10) (N := some 41) (v := ?_) (a' := ?_) #[true, true, true, true, true, true, true, true, true, true, true, false, false, false] rfl rfl (by kernel_rfl) (fun _ _ _ h => h) (Or.inl ⟨by rfl, ?_⟩) ?_ ?_
          rotate_left
          · intro w'
            go_simp
            with_reducible rfl
          rotate_left
          · simp only [Act.put, List.setIfInBounds_toArray, List.set_cons_zero, List.set_cons_succ, i64_w, i32_w]
            rfl
          refine one_ (i := 11) (N := some 9) #[true, true, true, true, true, true, true, true, true, true, true, true, false, false] rfl rfl (by kernel_rfl) (by decide) (fun K hK => ?_)
          refine value_ (w1 := w4.alloc (.cells chZero.c 43)) (v := .pointer (some ⟨w4.heap.size, 0, none⟩)) (by rfl) rfl (by go_simp; try rfl) ?_
          refine hK.out _ _ (⟨blk_alloc hHeld2.1 _, cell_alloc hHeld2.2 _⟩) (fun hHeld => ?_)
          clear hK K
          refine norm_ (a' := ?_) ?_ ?_
          rotate_left
          · show Act.put _ (some 9) _ = _
            simp only [Act.put, List.setIfInBounds_toArray, List.set_cons_zero, List.set_cons_succ, i64_w, i32_w]
            rfl
          refine last_ (i := 12) (N := none) #[true, true, true, true, true, true, true, true, true, true, true, true, true, false] rfl rfl (by kernel_rfl) (by decide) (fun K hK => ?_)
          refine skip_ (w1 := w4.alloc (.cells m.c 43)) (by rfl) rfl (by go_simp; try rfl) ?_
          refine hK.out _ _ ?_
          clear hK K
          clear hHeld hHeld2 hb B3 H3 R3 hx3
          refine pure_ (i := 13) (N := some 10) (v := ?_) (a' := ?_) #[true, true, true, true, true, true, true, true, true, true, true, true, true, true] rfl rfl (by kernel_rfl) (fun _ _ _ h => h) (Or.inl ⟨by rfl, ?_⟩) ?_ ?_
          rotate_left
          · intro w'
            go_simp
            with_reducible rfl
          rotate_left
          · simp only [Act.put, List.setIfInBounds_toArray, List.set_cons_zero, List.set_cons_succ, i64_w, i32_w]
            rfl
          refine done_ (by kernel_rfl) ?_
          generalize w4.alloc (.cells m.c 43) = w5 at B5 M5 X5 H5 R5 ⊢
          obtain ⟨np, hnp⟩ : ∃ np, np = w4.heap.size := ⟨_, rfl⟩
          simp only [← hnp] at M5 hne ⊢
          clear hnp
          by_cases hok : (chLearn c (wrap64 (x + g))).2 = 0
          · have HT3 := Lib.hid (HTy.out hok)
            rw [hok]
            have x5 := X5.out
            have z5 : np < w5.heap.size := blk_lt M5.out
            clear HTn
            go_wp2_with (first | ((with_reducible refine gate_builtin (b := .append) (xs := #[.tmp 44, .tmp 51]) rfl ?_); at_builtin; refine Kd.R_append (Kd.int .i64) (w0 := W) (W := w5) W.heap.size rfl (.tmp 44) (.tmp 51) 22 3 (.int .i64 0) 8 rfl Try.underlying22 infoI rfl (by decide) (by omega) u5 out (wrap64 (x + g)) [.int .i64 (wrap64 (x + g))] (fun _ => True) (fun _ => False) rfl rfl ?aP (fun _ hk => hk.elim) ?aF ?aO ?aB ?aS ?aL ?_; (case aP => exact rfl); (case aF => exact (fun _ _ => trivial)); (case aO => exact R5.out); (case aB => exact H5.out); (case aS => exact H5.out.size); (case aL => have := hol; omega); intro v1 w6 ho hb hg hat; have B6 := Lib.hid (blk_grown B5.out hg (ri_ne R5.out B5.out)); have M6 := Lib.hid (blk_grown M5.out hg (ri_ne R5.out M5.out)); have R6 := Lib.hid (ri_row ho B6.out m.c); have H6 := Lib.hid (below_row hb hWn m.c); have l6 := load_ch M6.out; have s6 := store_ch B6.out m))
            go_roundw
            case rel => exact ⟨k + 1, m, out ++ [wrap64 (x + g)], by omega, by go_num, by rw [Hm.out]; exact HT3, by rw [List.length_append, hol]; rfl, R6, Lib.hid (blk_row B6.out _), H6⟩
            case measure => simp [intOf]; omega
          · have h15 := (learn_two c (wrap64 (x + g))).resolve_left hok
            have HN := line_none hl (HTn.out (fun h => hok h.1))
            rw [h15]
            clear HTy HTn
            go_wp2_with fail
            go_ret2
            exact ⟨_, by rw [HN]; rfl, by rw [HN]; exact Kd.R_nil _ _ _ _ _, H5.out⟩
        · refine value_ (w1 := w3.drew.alloc (.cells chZero.c 43)) (v := .pointer (some ⟨w3.heap.size, 0, none⟩)) (by rfl) rfl (by go_simp; try rfl) ?_
          refine hK.out _ _ (⟨blk_alloc (blk_drew B3.out) _, cell_alloc hx3 _⟩) (fun hHeld2 => ?_)
          clear hK K
          refine norm_ (a' := ?_) ?_ ?_
          rotate_left
          · show Act.put _ (some 9) _ = _
            simp only [Act.put, List.setIfInBounds_toArray, List.set_cons_zero, List.set_cons_succ, i64_w, i32_w]
            rfl
          refine one_ (i := 7) (N := some 39) #[true, true, true, true, true, true, true, true, false, false, false, true, false, false] rfl rfl (by kernel_rfl) (by decide) (fun K hK => ?_)
          refine goes_ Try.func22 (by kernel_rfl) rfl #[.agg c.c, .int .i64 _] (by rfl) rfl rfl (by (try simp only [List.map_toArray, List.map_cons, List.map_nil]); rfl) ?_
          refine (refChLearn_c c (wrap64 (x + g)) _).mono ?_
          rintro e w4 ⟨rfl, hb⟩
          obtain ⟨m, hm⟩ : ∃ m, m = (chLearn c (wrap64 (x + g))).1 := ⟨_, rfl⟩
          rw [← hm]
          have Hm := Lib.hid hm
          clear hm
          refine ⟨_, rfl, ?_⟩
          refine hK.out _ _ (⟨blk_below hHeld2.1 hb, cell_below hHeld2.2 hb⟩) (fun hHeld3 => ?_)
          clear hK K
          refine norm_ (a' := ?_) ?_ ?_
          rotate_left
          · show Act.put _ (some 39) _ = _
            simp only [Act.put, List.setIfInBounds_toArray, List.set_cons_zero, List.set_cons_succ, i64_w, i32_w]
            rfl
          refine pure_ (i := 8) (N := some 31) (v := ?_) (a' := ?_) #[true, true, true, true, true, true, true, true, true, false, false, true, false, false] rfl rfl (by kernel_rfl) (fun _ _ _ h => h) (Or.inl ⟨by rfl, ?_⟩) ?_ ?_
          rotate_left
          · intro w'
            go_simp
            with_reducible rfl
          rotate_left
          · simp only [Act.put, List.setIfInBounds_toArray, List.set_cons_zero, List.set_cons_succ, i64_w, i32_w]
            rfl
          refine pure_ (i := 9) (N := some 40) (v := ?_) (a' := ?_) #[true, true, true, true, true, true, true, true, true, true, false, true, false, false] rfl rfl (by kernel_rfl) (fun _ _ _ h => h) (Or.inl ⟨by rfl, ?_⟩) ?_ ?_
          rotate_left
          · intro w'
            go_simp
            with_reducible rfl
          rotate_left
          · simp only [Act.put, List.setIfInBounds_toArray, List.set_cons_zero, List.set_cons_succ, i64_w, i32_w]
            rfl
          refine pure_ (i := 10) (N := some 41) (v := ?_) (a' := ?_) #[true, true, true, true, true, true, true, true, true, true, true, true, false, false] rfl rfl (by kernel_rfl) (fun _ _ _ h => h) (Or.inl ⟨by rfl, ?_⟩) ?_ ?_
          rotate_left
          · intro w'
            go_simp
            with_reducible rfl
          rotate_left
          · simp only [Act.put, List.setIfInBounds_toArray, List.set_cons_zero, List.set_cons_succ, i64_w, i32_w]
            rfl
          have P2 : w4.heap[w3.heap.size]? = some (.cells chZero.c 43 (0, 0)) := blk_below (blk_new w3.drew (.cells chZero.c 43)) hb
          have st := store_ch P2 m
          refine last_ (i := 12) (N := none) #[true, true, true, true, true, true, true, true, true, true, true, true, true, false] rfl rfl (by kernel_rfl) (by decide) (fun K hK => ?_)
          refine skip_ (w1 := w4.setRow w3.heap.size m.c) (by rfl) rfl (by go_simp; try rfl) ?_
          refine hK.out _ _ ?_
          clear hK K
          have hne : w3.heap.size ≠ n := by have := blk_lt B3.out; omega
          have B5 := Lib.hid (blk_row_far hHeld3.1 hne.symm m.c)
          have M5 := Lib.hid (blk_row P2 m.c)
          have X5 := Lib.hid (show (w4.setRow w3.heap.size m.c).cell? (ad.add k) = some (.int .i64 x) from (cell_setRow_other w4 w3.heap.size m.c (ad.add k) (by have := World.block_lt_of_cell? w3 _ hx3; omega)).trans hHeld3.2)
          have H5 := Lib.hid (below_row (below_step (below_alloc (H3.out.drew) (.cells chZero.c 43)) hb) (show W.heap.size ≤ w3.heap.size from H3.out.size) m.c)
          have R5 := Lib.hid (ri_row (Kd.R_below (Kd.R_below (Kd.R_drew R3.out) (below_alloc (Below.refl w3.drew.heap.size w3.drew) (.cells chZero.c 43))) hb) P2 m.c)
          clear st P2 hHeld hHeld2 hHeld3 hb B3 H3 R3 hx3
          refine pure_ (i := 13) (N := some 10) (v := ?_) (a' := ?_) #[true, true, true, true, true, true, true, true, true, true, true, true, true, true] rfl rfl (by kernel_rfl) (fun _ _ _ h => h) (Or.inl ⟨by rfl, ?_⟩) ?_ ?_
          rotate_left
          · intro w'
            go_simp
            with_reducible rfl
          rotate_left
          · simp only [Act.put, List.setIfInBounds_toArray, List.set_cons_zero, List.set_cons_succ, i64_w, i32_w]
            rfl
          refine done_ (by kernel_rfl) ?_
          generalize w4.setRow w3.heap.size m.c = w5 at B5 M5 X5 H5 R5 ⊢
          obtain ⟨np, hnp⟩ : ∃ np, np = w3.heap.size := ⟨_, rfl⟩
          simp only [← hnp] at M5 hne ⊢
          clear hnp
          by_cases hok : (chLearn c (wrap64 (x + g))).2 = 0
          · have HT3 := Lib.hid (HTy.out hok)
            rw [hok]
            have x5 := X5.out
            have z5 : np < w5.heap.size := blk_lt M5.out
            clear HTn
            go_wp2_with (first | ((with_reducible refine gate_builtin (b := .append) (xs := #[.tmp 44, .tmp 51]) rfl ?_); at_builtin; refine Kd.R_append (Kd.int .i64) (w0 := W) (W := w5) W.heap.size rfl (.tmp 44) (.tmp 51) 22 3 (.int .i64 0) 8 rfl Try.underlying22 infoI rfl (by decide) (by omega) u5 out (wrap64 (x + g)) [.int .i64 (wrap64 (x + g))] (fun _ => True) (fun _ => False) rfl rfl ?aP (fun _ hk => hk.elim) ?aF ?aO ?aB ?aS ?aL ?_; (case aP => exact rfl); (case aF => exact (fun _ _ => trivial)); (case aO => exact R5.out); (case aB => exact H5.out); (case aS => exact H5.out.size); (case aL => have := hol; omega); intro v1 w6 ho hb hg hat; have B6 := Lib.hid (blk_grown B5.out hg (ri_ne R5.out B5.out)); have M6 := Lib.hid (blk_grown M5.out hg (ri_ne R5.out M5.out)); have R6 := Lib.hid (ri_row ho B6.out m.c); have H6 := Lib.hid (below_row hb hWn m.c); have l6 := load_ch M6.out; have s6 := store_ch B6.out m))
            go_roundw
            case rel => exact ⟨k + 1, m, out ++ [wrap64 (x + g)], by omega, by go_num, by rw [Hm.out]; exact HT3, by rw [List.length_append, hol]; rfl, R6, Lib.hid (blk_row B6.out _), H6⟩
            case measure => simp [intOf]; omega
          · have h15 := (learn_two c (wrap64 (x + g))).resolve_left hok
            have HN := line_none hl (HTn.out (fun h => hok h.1))
            rw [h15]
            clear HTy HTn
            go_wp2_with fail
            go_ret2
            exact ⟨_, by rw [HN]; rfl, by rw [HN]; exact Kd.R_nil _ _ _ _ _, H5.out⟩
      · obtain rfl : k = xs.length := by omega
        have HT2 := hT.out
        rw [List.drop_length] at HT2
        have HN := line_some hl (HT2.trans rfl)
        go_wp2_with fail
        go_ret2
        exact ⟨_, by rw [HN]; rfl, by rw [HN]; exact hR.out, hB.out⟩
  · have d1 : decide ((xs.length : Int) > 256) = true := decide_eq_true (by omega)
    have HN := line_long (one := getOne) hl
    go_enter Try.func12, Try.ntmps12
    go_wp2_with fail
    go_ret2
    exact ⟨_, by rw [HN]; rfl, by rw [HN]; exact Kd.R_nil _ _ _ _ _, Below.refl _ _⟩
end Go.Proofs.Ytpojgfpfkfjegaa.PAll
