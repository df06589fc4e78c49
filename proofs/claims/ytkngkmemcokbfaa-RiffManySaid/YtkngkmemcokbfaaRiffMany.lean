/- Layer 20, RiffMany: the walk. -/
import Derived.Test.YtkngkmemcokbfaaRiffMany0
import Derived.Test.YtkngkmemcokbfaaPAllx8
import Derived.Test.YtkngkmemcokbfaaPAllx6
import Derived.Outline
namespace Go.Proofs.Ytkngkmemcokbfaa.PAll
open Go Go.RowKit Go.Proofs.YtkngkmemcokbfaaW.PrintWords Go.Proofs.YtkngkmemcokbfaaW.PrintMore Go.Proofs.YtkngkmemcokbfaaW.PrintLast
set_option linter.unusedVariables false
set_option linter.unusedSimpArgs false
def many13T : Bool × List (List Nat × List Nat) := (true, [([], []), ([0], [0]), ([], []), ([2], [2]), ([3], [3]), ([4], [4]), ([1, 5], [1, 5]), ([], []), ([7], [7]), ([6, 8], [6, 8]), ([9, 0, 1, 2, 3, 4, 5, 6, 7, 8, 9], [0, 9])])
def many13B : List Nat := [0, 1, 0, 4, 12, 28, 63, 0, 128, 511, 1023]
theorem many13_tab : rtab .any (opsOf Try.f6 13) = many13T := by kernel_rfl
theorem many13_bits : waitsOk many13T.2 many13B = true := by kernel_rfl
set_option maxHeartbeats 16000000 in
theorem many_calls (many : Int) (A0 : Option Addr) (c0 : Nat) (zs : List Int) (w : World) (h0 : (Kd.int .i64).C w A0 zs.length zs) (hc0 : zs.length ≤ c0) (l0 : zs.length * 8 ≤ 140737488351232) :
    Calls Try.prog 6 #[.int .i64 many, .slice A0 zs.length c0] w fun e w' => e = .returned (.bool true) ∧ Below w.heap.size w w' := by
  have hm : Go.bits .and .i64 many 127 = many % 128 := Num.and_mask _ 127 7 (by omega) (by rfl)
  obtain ⟨n, hn⟩ : ∃ n : Nat, many % 128 = n := ⟨(many % 128).toNat, by omega⟩
  have hn7 : n ≤ 127 := by omega
  rw [hn] at hm
  clear hn
  have H0 := Lib.hid h0
  clear h0
  go_enter Try.func6, Try.ntmps6
  go_wp2_with fail
  refine (descantlaw20_awake.calls (0 + 200) true _ (awake20 0)).mono ?_
  rintro e w1 ⟨rfl, hb⟩
  have B1 := Lib.hid hb
  clear hb
  go_wp2_with fail
  go_loopw [6, 7, 8] (fun v6 v7 v8 w' => ∃ (i : Nat), v6 = .string (sAt zs i) ∧ v8 = .int .i64 i ∧ i ≤ n ∧ Hid (Kd.R k34 34 w' w.heap.size (fun _ => True) v7 (wAt zs i)) ∧ Hid (Below w.heap.size w w')) (fun v6 v7 v8 _ => n - (intOf v8).toNat)
  case atStart => exact ⟨0, rfl, rfl, by omega, Lib.hid (Kd.R_nil _ _ _ _ _), B1⟩
  case round =>
    obtain ⟨i, rfl, rfl, hi, hR, hB⟩ := hrel
    by_cases hlt : i < n
    · have ts := sAt_size zs i
      obtain ⟨T, hT⟩ : ∃ T, T = sAt zs i := ⟨_, rfl⟩
      have WL := wAt_length zs i
      obtain ⟨L, hL⟩ : ∃ L, L = wAt zs i := ⟨_, rfl⟩
      rw [← hT] at ts ⊢
      rw [← hL] at hR WL
      have HT := Lib.hid hT
      have HL := Lib.hid hL
      clear hT hL
      have hw1 : wrap64 (4 + (T.size : Int)) = 4 + T.size := Num.w64 (by omega) (by omega)
      have hw2 : wrap64 (4 + (T.size : Int) + 12) = 4 + T.size + 12 := Num.w64 (by omega) (by omega)
      have hw3 : wrap64 ((i : Int) + 1) = (i : Int) + 1 := Num.w64 (by omega) (by omega)
      have hsz := sz_range zs i
      have hs1 : (9223372036854775807 < T.size + 4) = False := eq_false (by omega)
      have hin : (i : Int) < n := by omega
      by_cases hz : i < zs.length
      · obtain ⟨ad, e1, hx⟩ := Kd.at_int H0.out (i : Int) (by omega) (by omega)
        subst e1
        rw [Int.toNat_natCast] at hx
        obtain ⟨z, hzz⟩ : ∃ z, z = szOf zs i := ⟨_, rfl⟩
        rw [← hzz] at hsz
        have hu : Go.bits .and .i64 (rd zs (i : Int)) 7 = z := by rw [hzz]; unfold szOf; rw [if_pos hz]
        obtain ⟨z0, z7⟩ := hsz
        have HZ := Lib.hid hzz
        clear hzz
        have hxb := (hB.out.cell (World.block_lt_of_cell? w _ hx)).trans hx
        have hzi : (i : Int) < zs.length := by omega
        have hi0 : (0 : Int) ≤ i := by omega
        have hpz : Go.bits .and .i64 z 1 = z % 2 := Num.and_mask _ 1 1 (by omega) (by rfl)
        rcases (show z % 2 = 1 ∨ z % 2 = 0 by omega) with hpar | hpar
        · rw [hpar] at hpz
          have HPAR := Lib.hid hpar
          clear hpar
          go_wp2_with (first | ((with_reducible refine gate_builtin (b := .append) (xs := #[.tmp 31, .tmp 38]) rfl ?_); at_builtin; refine Kd.R_append k34 (w0 := w) w.heap.size rfl (.tmp 31) (.tmp 38) 22 34 (.agg #[(.string ⟨#[]⟩), (.int .i64 0), (.int .i64 0)]) 32 rfl Try.underlying22 info34 rfl (by decide) (by omega) u7 L (⟨(⟨#[97, 98, 99, 100]⟩ : ByteArray), 4 + (T.size : Int) + 12, z⟩ : S34) [.string (⟨#[97, 98, 99, 100]⟩ : ByteArray), .int .i64 (4 + (T.size : Int) + 12), .int .i64 z] (fun _ => True) (fun _ => False) rfl rfl ?aP (fun _ hk => hk.elim) ?aF ?aO ?aB ?aS ?aL ?_; (case aP => exact k34_mkM _ _ _ (⟨(⟨#[97, 98, 99, 100]⟩ : ByteArray), 4 + (T.size : Int) + 12, z⟩ : S34)); (case aB => exact (by repeat (first | (with_reducible first | exact hB.out | apply below_alloc | apply pw_below_drewN | apply below_drew1) | exact hB.out))); (case aF => exact (fun _ _ => trivial)); (case aO => exact (by (with_reducible repeat (first | apply Kd.R_alloc | apply Kd.R_drewN | apply Kd.R_drew)); exact hR.out)); (case aS => exact (below_size (by repeat (first | (with_reducible first | exact hB.out | apply below_alloc | apply pw_below_drewN | apply below_drew1) | exact hB.out)))); (case aL => omega); intro v147 w17 ho hb hg hat; have HB2 := Lib.hid hb; have HO2 := Lib.hid ho; clear hB hR ho hb hg hat))
          have R3 := Lib.hid (Kd.R_drew HO2.out)
          have B3 := Lib.hid (below_drew1 HB2.out)
          clear HO2 HB2
          obtain ⟨Y, hY⟩ : ∃ Y : List Int, Y = [z % 256, 0, 0, 0] := ⟨_, rfl⟩
          have hys : (strOfNums Y).size = 4 := by rw [nums_size, hY]; rfl
          have NY := Lib.hid hY
          clear hY
          have hq0 : T.size + 4 ≤ 9223372036854775807 := by omega
          have hqb0 : decide (T.size + 4 ≤ 9223372036854775807) = true := decide_eq_true hq0
          have hqc0 : (9223372036854775807 < T.size + 4) = False := eq_false (Nat.not_lt.2 hq0)
          have hq1 : T.size + 4 + (strOfNums Y).size ≤ 9223372036854775807 := by omega
          have hqb1 : decide (T.size + 4 + (strOfNums Y).size ≤ 9223372036854775807) = true := decide_eq_true hq1
          have hqc1 : (9223372036854775807 < T.size + 4 + (strOfNums Y).size) = False := eq_false (Nat.not_lt.2 hq1)
          have hq2 : T.size + 4 + (strOfNums Y).size + z.toNat ≤ 9223372036854775807 := by omega
          have hqb2 : decide (T.size + 4 + (strOfNums Y).size + z.toNat ≤ 9223372036854775807) = true := decide_eq_true hq2
          have hqc2 : (9223372036854775807 < T.size + 4 + (strOfNums Y).size + z.toNat) = False := eq_false (Nat.not_lt.2 hq2)
          have hq3 : T.size + 4 + (strOfNums Y).size + z.toNat + 1 ≤ 9223372036854775807 := by omega
          have hqb3 : decide (T.size + 4 + (strOfNums Y).size + z.toNat + 1 ≤ 9223372036854775807) = true := decide_eq_true hq3
          have hqc3 : (9223372036854775807 < T.size + 4 + (strOfNums Y).size + z.toNat + 1) = False := eq_false (Nat.not_lt.2 hq3)
          clear hys
          refine start_ (n := 11) (S := fun w' => True) (ds := []) #[false, false, false, false, false, false, false, false, false, false, false] (by kernel_rfl) rfl rfl trivial (fun hHeld => ?_)
          refine with_tabW many13_tab many13_bits (fun HT_ HW_ => ?_)
          generalize w17.drew = w18 at R3 B3 hHeld ⊢
          refine pure_ (i := 0) (N := some 40) (v := ?_) (a' := ?_) #[true, false, false, false, false, false, false, false, false, false, false] rfl rfl (any_of HT_.out (by kernel_rfl)) (fun _ _ _ h => h) (Or.inl ⟨by rfl, ?_⟩) ?_ ?_
          rotate_left
          · intro w'
            go_simp
            with_reducible rfl
          rotate_left
          · simp only [Act.put, List.setIfInBounds_toArray, List.set_cons_zero, List.set_cons_succ, i64_w, i32_w]
            rfl
          refine pure_ (i := 1) (N := some 41) (v := ?_) (a' := ?_) #[true, true, false, false, false, false, false, false, false, false, false] rfl rfl (any_of HT_.out (by kernel_rfl)) (fun _ _ _ h => h) (Or.inl ⟨by rfl, ?_⟩) ?_ ?_
          rotate_left
          · intro w'
            go_simp
            with_reducible rfl
          rotate_left
          · simp only [Act.put, List.setIfInBounds_toArray, List.set_cons_zero, List.set_cons_succ, i64_w, i32_w]
            rfl
          refine pure_ (i := 2) (N := some 42) (v := ?_) (a' := ?_) #[true, true, true, false, false, false, false, false, false, false, false] rfl rfl (any_of HT_.out (by kernel_rfl)) (fun _ _ _ h => h) (Or.inl ⟨by rfl, ?_⟩) ?_ ?_
          rotate_left
          · intro w'
            go_simp
            with_reducible rfl
          rotate_left
          · simp only [Act.put, List.setIfInBounds_toArray, List.set_cons_zero, List.set_cons_succ, i64_w, i32_w]
            rfl
          refine pure_ (i := 3) (N := some 43) (v := ?_) (a' := ?_) #[true, true, true, true, false, false, false, false, false, false, false] rfl rfl (any_of HT_.out (by kernel_rfl)) (fun _ _ _ h => h) (Or.inl ⟨by rfl, ?_⟩) ?_ ?_
          rotate_left
          · intro w'
            go_simp
            with_reducible rfl
          rotate_left
          · simp only [Act.put, List.setIfInBounds_toArray, List.set_cons_zero, List.set_cons_succ, i64_w, i32_w]
            rfl
          refine pure_ (i := 7) (N := some 47) (v := ?_) (a' := ?_) #[true, true, true, true, false, false, false, true, false, false, false] rfl rfl (any_of HT_.out (by kernel_rfl)) (fun _ _ _ h => h) (Or.inl ⟨by rfl, ?_⟩) ?_ ?_
          rotate_left
          · intro w'
            go_simp
            with_reducible rfl
          rotate_left
          · simp only [Act.put, List.setIfInBounds_toArray, List.set_cons_zero, List.set_cons_succ, i64_w, i32_w]
            rfl
          refine pure_ (i := 8) (N := some 48) (v := ?_) (a' := ?_) #[true, true, true, true, false, false, false, true, true, false, false] rfl rfl (any_of HT_.out (by kernel_rfl)) (fun _ _ _ h => h) (Or.inl ⟨by rfl, ?_⟩) ?_ ?_
          rotate_left
          · intro w'
            go_simp
            with_reducible rfl
          rotate_left
          · simp only [Act.put, List.setIfInBounds_toArray, List.set_cons_zero, List.set_cons_succ, i64_w, i32_w]
            rfl
          refine one_ (i := 4) (N := some 44) #[true, true, true, true, true, false, false, true, true, false, false] rfl rfl (one_of HT_.out (by kernel_rfl)) (by decide) (fun K hK => ?_)
          refine Kd.R_lit_step (Kd.int .u8) _ 5 ?hg (N := 44) ?hd (xs := ([z % 256, 0, 0, 0] : List Int)) (inner := [.int .u8 (z % 256), .int .u8 0, .int .u8 0, .int .u8 0]) (ok := fun _ => True) (okp := fun _ => True) ?hr ?hp (fun _ hk => hk) trivial (Below.refl _ _) (Nat.le_refl _) (by simp) ?_; (case hd => rfl); (case hg => rfl); (case hr => first | (go_simp; done) | (go_simp; rfl)); (case hp => exact (Reps.one (show Kd.M (Kd.int .u8) _ _ _ (z % 256) [.int .u8 (z % 256)] from rfl) (Reps.one (show Kd.M (Kd.int .u8) _ _ _ 0 [.int .u8 0] from rfl) (Reps.one (show Kd.M (Kd.int .u8) _ _ _ 0 [.int .u8 0] from rfl) (Reps.one (show Kd.M (Kd.int .u8) _ _ _ 0 [.int .u8 0] from rfl) (Reps.none _ _))))))
          intro v150 w19 ho20 hb hg_ hnew_
          clear hg_ hnew_
          rw [← NY.out] at ho20
          have R4 := Lib.hid (Kd.R_below R3.out hb)
          have Y4 := Lib.hid ho20
          have B4 := Lib.hid (below_step B3.out hb)
          clear hb ho20 R3 B3
          refine hK.out _ _ trivial (fun hHeld => ?_)
          clear hK K
          refine norm_ (a' := ?_) ?_ ?_
          rotate_left
          · show Act.put _ (some 44) _ = _
            simp only [Act.put, List.setIfInBounds_toArray, List.set_cons_zero, List.set_cons_succ, i64_w, i32_w]
            rfl
          refine one_ (i := 5) (N := some 45) #[true, true, true, true, true, true, false, true, true, false, false] rfl rfl (one_of HT_.out (by kernel_rfl)) (by decide) (fun K hK => ?_)
          have hcv := own_string (P := Try.prog) Try.underlying38 Try.underlying5 Try.underlying9 (Kd.own_of_R Y4.out)
          refine value_ (w1 := ?_) (v := ?_) (by rfl) rfl ?_ ?_
          rotate_left 2
          · go_simp
            constructor
            · rfl
            · rfl
          clear hcv
          refine hK.out _ _ trivial (fun hHeld => ?_)
          clear hK K
          refine norm_ (a' := ?_) ?_ ?_
          rotate_left
          · show Act.put _ (some 45) _ = _
            simp only [Act.put, List.setIfInBounds_toArray, List.set_cons_zero, List.set_cons_succ, i64_w, i32_w]
            rfl
          refine pure_ (i := 6) (N := some 46) (v := ?_) (a' := ?_) #[true, true, true, true, true, true, true, true, true, false, false] rfl rfl (any_of HT_.out (by kernel_rfl)) (fun _ _ _ h => h) (Or.inl ⟨by rfl, ?_⟩) ?_ ?_
          rotate_left
          · intro w'
            go_simp
            with_reducible rfl
          rotate_left
          · simp only [Act.put, List.setIfInBounds_toArray, List.set_cons_zero, List.set_cons_succ, i64_w, i32_w]
            rfl
          refine pure_ (i := 9) (N := some 49) (v := ?_) (a' := ?_) #[true, true, true, true, true, true, true, true, true, true, false] rfl rfl (any_of HT_.out (by kernel_rfl)) (fun _ _ _ h => h) (Or.inl ⟨by rfl, ?_⟩) ?_ ?_
          rotate_left
          · intro w'
            go_simp
            with_reducible rfl
          rotate_left
          · simp only [Act.put, List.setIfInBounds_toArray, List.set_cons_zero, List.set_cons_succ, i64_w, i32_w]
            rfl
          refine pure_ (i := 10) (N := some 6) (v := ?_) (a' := ?_) #[true, true, true, true, true, true, true, true, true, true, true] rfl rfl (any_of HT_.out (by kernel_rfl)) (fun _ _ _ h => h) (Or.inl ⟨by rfl, ?_⟩) ?_ ?_
          rotate_left
          · intro w'
            go_simp
            with_reducible rfl
          rotate_left
          · simp only [Act.put, List.setIfInBounds_toArray, List.set_cons_zero, List.set_cons_succ, i64_w, i32_w]
            rfl
          refine done_ (done_of HT_.out (by kernel_rfl)) ?_
          go_wp2_with fail
          go_roundw
          case measure => simp [intOf]; omega
          case rel =>
           refine ⟨i + 1, ?_, rfl, by omega, Lib.hid ?_, B4⟩
           · show Value.string _ = Value.string (stepT (sAt zs i) (szOf zs i))
             rw [← HT.out, ← HZ.out]
             unfold stepT stepU
             rw [if_pos HPAR.out, NY.out]
           · show Kd.R _ _ _ _ _ _ (wAt zs i ++ [_])
             rw [← HL.out, ← HT.out, ← HZ.out]
             exact R4.out
        · rw [hpar] at hpz
          have HPAR := Lib.hid hpar
          clear hpar
          go_wp2_with (first | ((with_reducible refine gate_builtin (b := .append) (xs := #[.tmp 31, .tmp 38]) rfl ?_); at_builtin; refine Kd.R_append k34 (w0 := w) w.heap.size rfl (.tmp 31) (.tmp 38) 22 34 (.agg #[(.string ⟨#[]⟩), (.int .i64 0), (.int .i64 0)]) 32 rfl Try.underlying22 info34 rfl (by decide) (by omega) u7 L (⟨(⟨#[97, 98, 99, 100]⟩ : ByteArray), 4 + (T.size : Int) + 12, z⟩ : S34) [.string (⟨#[97, 98, 99, 100]⟩ : ByteArray), .int .i64 (4 + (T.size : Int) + 12), .int .i64 z] (fun _ => True) (fun _ => False) rfl rfl ?aP (fun _ hk => hk.elim) ?aF ?aO ?aB ?aS ?aL ?_; (case aP => exact k34_mkM _ _ _ (⟨(⟨#[97, 98, 99, 100]⟩ : ByteArray), 4 + (T.size : Int) + 12, z⟩ : S34)); (case aB => exact (by repeat (first | (with_reducible first | exact hB.out | apply below_alloc | apply pw_below_drewN | apply below_drew1) | exact hB.out))); (case aF => exact (fun _ _ => trivial)); (case aO => exact (by (with_reducible repeat (first | apply Kd.R_alloc | apply Kd.R_drewN | apply Kd.R_drew)); exact hR.out)); (case aS => exact (below_size (by repeat (first | (with_reducible first | exact hB.out | apply below_alloc | apply pw_below_drewN | apply below_drew1) | exact hB.out)))); (case aL => omega); intro v147 w17 ho hb hg hat; have HB2 := Lib.hid hb; have HO2 := Lib.hid ho; clear hB hR ho hb hg hat))
          have R3 := Lib.hid (Kd.R_drew HO2.out)
          have B3 := Lib.hid (below_drew1 HB2.out)
          clear HO2 HB2
          obtain ⟨Y, hY⟩ : ∃ Y : List Int, Y = [z % 256, 0, 0, 0] := ⟨_, rfl⟩
          have hys : (strOfNums Y).size = 4 := by rw [nums_size, hY]; rfl
          have NY := Lib.hid hY
          clear hY
          have hq0 : T.size + 4 ≤ 9223372036854775807 := by omega
          have hqb0 : decide (T.size + 4 ≤ 9223372036854775807) = true := decide_eq_true hq0
          have hqc0 : (9223372036854775807 < T.size + 4) = False := eq_false (Nat.not_lt.2 hq0)
          have hq1 : T.size + 4 + (strOfNums Y).size ≤ 9223372036854775807 := by omega
          have hqb1 : decide (T.size + 4 + (strOfNums Y).size ≤ 9223372036854775807) = true := decide_eq_true hq1
          have hqc1 : (9223372036854775807 < T.size + 4 + (strOfNums Y).size) = False := eq_false (Nat.not_lt.2 hq1)
          have hq2 : T.size + 4 + (strOfNums Y).size + z.toNat ≤ 9223372036854775807 := by omega
          have hqb2 : decide (T.size + 4 + (strOfNums Y).size + z.toNat ≤ 9223372036854775807) = true := decide_eq_true hq2
          have hqc2 : (9223372036854775807 < T.size + 4 + (strOfNums Y).size + z.toNat) = False := eq_false (Nat.not_lt.2 hq2)
          have hq3 : T.size + 4 + (strOfNums Y).size + z.toNat + 1 ≤ 9223372036854775807 := by omega
          have hqb3 : decide (T.size + 4 + (strOfNums Y).size + z.toNat + 1 ≤ 9223372036854775807) = true := decide_eq_true hq3
          have hqc3 : (9223372036854775807 < T.size + 4 + (strOfNums Y).size + z.toNat + 1) = False := eq_false (Nat.not_lt.2 hq3)
          clear hys
          refine start_ (n := 11) (S := fun w' => True) (ds := []) #[false, false, false, false, false, false, false, false, false, false, false] (by kernel_rfl) rfl rfl trivial (fun hHeld => ?_)
          refine with_tabW many13_tab many13_bits (fun HT_ HW_ => ?_)
          generalize w17.drew = w18 at R3 B3 hHeld ⊢
          refine pure_ (i := 0) (N := some 40) (v := ?_) (a' := ?_) #[true, false, false, false, false, false, false, false, false, false, false] rfl rfl (any_of HT_.out (by kernel_rfl)) (fun _ _ _ h => h) (Or.inl ⟨by rfl, ?_⟩) ?_ ?_
          rotate_left
          · intro w'
            go_simp
            with_reducible rfl
          rotate_left
          · simp only [Act.put, List.setIfInBounds_toArray, List.set_cons_zero, List.set_cons_succ, i64_w, i32_w]
            rfl
          refine pure_ (i := 1) (N := some 41) (v := ?_) (a' := ?_) #[true, true, false, false, false, false, false, false, false, false, false] rfl rfl (any_of HT_.out (by kernel_rfl)) (fun _ _ _ h => h) (Or.inl ⟨by rfl, ?_⟩) ?_ ?_
          rotate_left
          · intro w'
            go_simp
            with_reducible rfl
          rotate_left
          · simp only [Act.put, List.setIfInBounds_toArray, List.set_cons_zero, List.set_cons_succ, i64_w, i32_w]
            rfl
          refine pure_ (i := 2) (N := some 42) (v := ?_) (a' := ?_) #[true, true, true, false, false, false, false, false, false, false, false] rfl rfl (any_of HT_.out (by kernel_rfl)) (fun _ _ _ h => h) (Or.inl ⟨by rfl, ?_⟩) ?_ ?_
          rotate_left
          · intro w'
            go_simp
            with_reducible rfl
          rotate_left
          · simp only [Act.put, List.setIfInBounds_toArray, List.set_cons_zero, List.set_cons_succ, i64_w, i32_w]
            rfl
          refine pure_ (i := 3) (N := some 43) (v := ?_) (a' := ?_) #[true, true, true, true, false, false, false, false, false, false, false] rfl rfl (any_of HT_.out (by kernel_rfl)) (fun _ _ _ h => h) (Or.inl ⟨by rfl, ?_⟩) ?_ ?_
          rotate_left
          · intro w'
            go_simp
            with_reducible rfl
          rotate_left
          · simp only [Act.put, List.setIfInBounds_toArray, List.set_cons_zero, List.set_cons_succ, i64_w, i32_w]
            rfl
          refine pure_ (i := 7) (N := some 47) (v := ?_) (a' := ?_) #[true, true, true, true, false, false, false, true, false, false, false] rfl rfl (any_of HT_.out (by kernel_rfl)) (fun _ _ _ h => h) (Or.inl ⟨by rfl, ?_⟩) ?_ ?_
          rotate_left
          · intro w'
            go_simp
            with_reducible rfl
          rotate_left
          · simp only [Act.put, List.setIfInBounds_toArray, List.set_cons_zero, List.set_cons_succ, i64_w, i32_w]
            rfl
          refine pure_ (i := 8) (N := some 48) (v := ?_) (a' := ?_) #[true, true, true, true, false, false, false, true, true, false, false] rfl rfl (any_of HT_.out (by kernel_rfl)) (fun _ _ _ h => h) (Or.inl ⟨by rfl, ?_⟩) ?_ ?_
          rotate_left
          · intro w'
            go_simp
            with_reducible rfl
          rotate_left
          · simp only [Act.put, List.setIfInBounds_toArray, List.set_cons_zero, List.set_cons_succ, i64_w, i32_w]
            rfl
          refine one_ (i := 4) (N := some 44) #[true, true, true, true, true, false, false, true, true, false, false] rfl rfl (one_of HT_.out (by kernel_rfl)) (by decide) (fun K hK => ?_)
          refine Kd.R_lit_step (Kd.int .u8) _ 5 ?hg (N := 44) ?hd (xs := ([z % 256, 0, 0, 0] : List Int)) (inner := [.int .u8 (z % 256), .int .u8 0, .int .u8 0, .int .u8 0]) (ok := fun _ => True) (okp := fun _ => True) ?hr ?hp (fun _ hk => hk) trivial (Below.refl _ _) (Nat.le_refl _) (by simp) ?_; (case hd => rfl); (case hg => rfl); (case hr => first | (go_simp; done) | (go_simp; rfl)); (case hp => exact (Reps.one (show Kd.M (Kd.int .u8) _ _ _ (z % 256) [.int .u8 (z % 256)] from rfl) (Reps.one (show Kd.M (Kd.int .u8) _ _ _ 0 [.int .u8 0] from rfl) (Reps.one (show Kd.M (Kd.int .u8) _ _ _ 0 [.int .u8 0] from rfl) (Reps.one (show Kd.M (Kd.int .u8) _ _ _ 0 [.int .u8 0] from rfl) (Reps.none _ _))))))
          intro v150 w19 ho20 hb hg_ hnew_
          clear hg_ hnew_
          rw [← NY.out] at ho20
          have R4 := Lib.hid (Kd.R_below R3.out hb)
          have Y4 := Lib.hid ho20
          have B4 := Lib.hid (below_step B3.out hb)
          clear hb ho20 R3 B3
          refine hK.out _ _ trivial (fun hHeld => ?_)
          clear hK K
          refine norm_ (a' := ?_) ?_ ?_
          rotate_left
          · show Act.put _ (some 44) _ = _
            simp only [Act.put, List.setIfInBounds_toArray, List.set_cons_zero, List.set_cons_succ, i64_w, i32_w]
            rfl
          refine one_ (i := 5) (N := some 45) #[true, true, true, true, true, true, false, true, true, false, false] rfl rfl (one_of HT_.out (by kernel_rfl)) (by decide) (fun K hK => ?_)
          have hcv := own_string (P := Try.prog) Try.underlying38 Try.underlying5 Try.underlying9 (Kd.own_of_R Y4.out)
          refine value_ (w1 := ?_) (v := ?_) (by rfl) rfl ?_ ?_
          rotate_left 2
          · go_simp
            constructor
            · rfl
            · rfl
          clear hcv
          refine hK.out _ _ trivial (fun hHeld => ?_)
          clear hK K
          refine norm_ (a' := ?_) ?_ ?_
          rotate_left
          · show Act.put _ (some 45) _ = _
            simp only [Act.put, List.setIfInBounds_toArray, List.set_cons_zero, List.set_cons_succ, i64_w, i32_w]
            rfl
          refine pure_ (i := 6) (N := some 46) (v := ?_) (a' := ?_) #[true, true, true, true, true, true, true, true, true, false, false] rfl rfl (any_of HT_.out (by kernel_rfl)) (fun _ _ _ h => h) (Or.inl ⟨by rfl, ?_⟩) ?_ ?_
          rotate_left
          · intro w'
            go_simp
            with_reducible rfl
          rotate_left
          · simp only [Act.put, List.setIfInBounds_toArray, List.set_cons_zero, List.set_cons_succ, i64_w, i32_w]
            rfl
          refine pure_ (i := 9) (N := some 49) (v := ?_) (a' := ?_) #[true, true, true, true, true, true, true, true, true, true, false] rfl rfl (any_of HT_.out (by kernel_rfl)) (fun _ _ _ h => h) (Or.inl ⟨by rfl, ?_⟩) ?_ ?_
          rotate_left
          · intro w'
            go_simp
            with_reducible rfl
          rotate_left
          · simp only [Act.put, List.setIfInBounds_toArray, List.set_cons_zero, List.set_cons_succ, i64_w, i32_w]
            rfl
          refine pure_ (i := 10) (N := some 6) (v := ?_) (a' := ?_) #[true, true, true, true, true, true, true, true, true, true, true] rfl rfl (any_of HT_.out (by kernel_rfl)) (fun _ _ _ h => h) (Or.inl ⟨by rfl, ?_⟩) ?_ ?_
          rotate_left
          · intro w'
            go_simp
            with_reducible rfl
          rotate_left
          · simp only [Act.put, List.setIfInBounds_toArray, List.set_cons_zero, List.set_cons_succ, i64_w, i32_w]
            rfl
          refine done_ (done_of HT_.out (by kernel_rfl)) ?_
          go_wp2_with fail
          go_roundw
          case measure => simp [intOf]; omega
          case rel =>
           refine ⟨i + 1, ?_, rfl, by omega, Lib.hid ?_, B4⟩
           · show Value.string _ = Value.string (stepT (sAt zs i) (szOf zs i))
             rw [← HT.out, ← HZ.out]
             unfold stepT stepU
             rw [if_neg (by rw [HPAR.out]; decide), NY.out]
           · show Kd.R _ _ _ _ _ _ (wAt zs i ++ [_])
             rw [← HL.out, ← HT.out, ← HZ.out]
             exact R4.out
      · have HZ : Hid ((0 : Int) = szOf zs i) := Lib.hid (by unfold szOf; rw [if_neg hz])
        have hpz : Go.bits .and .i64 0 1 = 0 := by rfl
        have hzi : ((i : Int) < zs.length) = False := eq_false (by omega)
        have hzb : decide ((i : Int) < zs.length) = false := decide_eq_false (by omega)
        clear hsz hz
        go_wp2_with (first | ((with_reducible refine gate_builtin (b := .append) (xs := #[.tmp 31, .tmp 38]) rfl ?_); at_builtin; refine Kd.R_append k34 (w0 := w) w.heap.size rfl (.tmp 31) (.tmp 38) 22 34 (.agg #[(.string ⟨#[]⟩), (.int .i64 0), (.int .i64 0)]) 32 rfl Try.underlying22 info34 rfl (by decide) (by omega) u7 L (⟨(⟨#[97, 98, 99, 100]⟩ : ByteArray), 4 + (T.size : Int) + 12, 0⟩ : S34) [.string (⟨#[97, 98, 99, 100]⟩ : ByteArray), .int .i64 (4 + (T.size : Int) + 12), .int .i64 0] (fun _ => True) (fun _ => False) rfl rfl ?aP (fun _ hk => hk.elim) ?aF ?aO ?aB ?aS ?aL ?_; (case aP => exact k34_mkM _ _ _ (⟨(⟨#[97, 98, 99, 100]⟩ : ByteArray), 4 + (T.size : Int) + 12, 0⟩ : S34)); (case aB => exact (by repeat (first | (with_reducible first | exact hB.out | apply below_alloc | apply pw_below_drewN | apply below_drew1) | exact hB.out))); (case aF => exact (fun _ _ => trivial)); (case aO => exact (by (with_reducible repeat (first | apply Kd.R_alloc | apply Kd.R_drewN | apply Kd.R_drew)); exact hR.out)); (case aS => exact (below_size (by repeat (first | (with_reducible first | exact hB.out | apply below_alloc | apply pw_below_drewN | apply below_drew1) | exact hB.out)))); (case aL => omega); intro v147 w17 ho hb hg hat; have HB2 := Lib.hid hb; have HO2 := Lib.hid ho; clear hB hR ho hb hg hat))
        have R3 := Lib.hid (Kd.R_drew HO2.out)
        have B3 := Lib.hid (below_drew1 HB2.out)
        clear HO2 HB2
        obtain ⟨Y, hY⟩ : ∃ Y : List Int, Y = [0, 0, 0, 0] := ⟨_, rfl⟩
        have hys : (strOfNums Y).size = 4 := by rw [nums_size, hY]; rfl
        have NY := Lib.hid hY
        clear hY
        have hq0 : T.size + 4 ≤ 9223372036854775807 := by omega
        have hqb0 : decide (T.size + 4 ≤ 9223372036854775807) = true := decide_eq_true hq0
        have hqc0 : (9223372036854775807 < T.size + 4) = False := eq_false (Nat.not_lt.2 hq0)
        have hq1 : T.size + 4 + (strOfNums Y).size ≤ 9223372036854775807 := by omega
        have hqb1 : decide (T.size + 4 + (strOfNums Y).size ≤ 9223372036854775807) = true := decide_eq_true hq1
        have hqc1 : (9223372036854775807 < T.size + 4 + (strOfNums Y).size) = False := eq_false (Nat.not_lt.2 hq1)
        have hq2 : T.size + 4 + (strOfNums Y).size ≤ 9223372036854775807 := by omega
        have hqb2 : decide (T.size + 4 + (strOfNums Y).size ≤ 9223372036854775807) = true := decide_eq_true hq2
        have hqc2 : (9223372036854775807 < T.size + 4 + (strOfNums Y).size) = False := eq_false (Nat.not_lt.2 hq2)
        have hq3 : T.size + 4 + (strOfNums Y).size + 1 ≤ 9223372036854775807 := by omega
        have hqb3 : decide (T.size + 4 + (strOfNums Y).size + 1 ≤ 9223372036854775807) = true := decide_eq_true hq3
        have hqc3 : (9223372036854775807 < T.size + 4 + (strOfNums Y).size + 1) = False := eq_false (Nat.not_lt.2 hq3)
        clear hys
        refine start_ (n := 11) (S := fun w' => True) (ds := []) #[false, false, false, false, false, false, false, false, false, false, false] (by kernel_rfl) rfl rfl trivial (fun hHeld => ?_)
        refine with_tabW many13_tab many13_bits (fun HT_ HW_ => ?_)
        generalize w17.drew = w18 at R3 B3 hHeld ⊢
        refine pure_ (i := 0) (N := some 40) (v := ?_) (a' := ?_) #[true, false, false, false, false, false, false, false, false, false, false] rfl rfl (any_of HT_.out (by kernel_rfl)) (fun _ _ _ h => h) (Or.inl ⟨by rfl, ?_⟩) ?_ ?_
        rotate_left
        · intro w'
          go_simp
          with_reducible rfl
        rotate_left
        · simp only [Act.put, List.setIfInBounds_toArray, List.set_cons_zero, List.set_cons_succ, i64_w, i32_w]
          rfl
        refine pure_ (i := 1) (N := some 41) (v := ?_) (a' := ?_) #[true, true, false, false, false, false, false, false, false, false, false] rfl rfl (any_of HT_.out (by kernel_rfl)) (fun _ _ _ h => h) (Or.inl ⟨by rfl, ?_⟩) ?_ ?_
        rotate_left
        · intro w'
          go_simp
          with_reducible rfl
        rotate_left
        · simp only [Act.put, List.setIfInBounds_toArray, List.set_cons_zero, List.set_cons_succ, i64_w, i32_w]
          rfl
        refine pure_ (i := 2) (N := some 42) (v := ?_) (a' := ?_) #[true, true, true, false, false, false, false, false, false, false, false] rfl rfl (any_of HT_.out (by kernel_rfl)) (fun _ _ _ h => h) (Or.inl ⟨by rfl, ?_⟩) ?_ ?_
        rotate_left
        · intro w'
          go_simp
          with_reducible rfl
        rotate_left
        · simp only [Act.put, List.setIfInBounds_toArray, List.set_cons_zero, List.set_cons_succ, i64_w, i32_w]
          rfl
        refine pure_ (i := 3) (N := some 43) (v := ?_) (a' := ?_) #[true, true, true, true, false, false, false, false, false, false, false] rfl rfl (any_of HT_.out (by kernel_rfl)) (fun _ _ _ h => h) (Or.inl ⟨by rfl, ?_⟩) ?_ ?_
        rotate_left
        · intro w'
          go_simp
          with_reducible rfl
        rotate_left
        · simp only [Act.put, List.setIfInBounds_toArray, List.set_cons_zero, List.set_cons_succ, i64_w, i32_w]
          rfl
        refine pure_ (i := 7) (N := some 47) (v := ?_) (a' := ?_) #[true, true, true, true, false, false, false, true, false, false, false] rfl rfl (any_of HT_.out (by kernel_rfl)) (fun _ _ _ h => h) (Or.inl ⟨by rfl, ?_⟩) ?_ ?_
        rotate_left
        · intro w'
          go_simp
          with_reducible rfl
        rotate_left
        · simp only [Act.put, List.setIfInBounds_toArray, List.set_cons_zero, List.set_cons_succ, i64_w, i32_w]
          rfl
        refine pure_ (i := 8) (N := some 48) (v := ?_) (a' := ?_) #[true, true, true, true, false, false, false, true, true, false, false] rfl rfl (any_of HT_.out (by kernel_rfl)) (fun _ _ _ h => h) (Or.inl ⟨by rfl, ?_⟩) ?_ ?_
        rotate_left
        · intro w'
          go_simp
          with_reducible rfl
        rotate_left
        · simp only [Act.put, List.setIfInBounds_toArray, List.set_cons_zero, List.set_cons_succ, i64_w, i32_w]
          rfl
        refine one_ (i := 4) (N := some 44) #[true, true, true, true, true, false, false, true, true, false, false] rfl rfl (one_of HT_.out (by kernel_rfl)) (by decide) (fun K hK => ?_)
        refine Kd.R_lit_step (Kd.int .u8) _ 5 ?hg (N := 44) ?hd (xs := ([0, 0, 0, 0] : List Int)) (inner := [.int .u8 (0), .int .u8 0, .int .u8 0, .int .u8 0]) (ok := fun _ => True) (okp := fun _ => True) ?hr ?hp (fun _ hk => hk) trivial (Below.refl _ _) (Nat.le_refl _) (by simp) ?_; (case hd => rfl); (case hg => rfl); (case hr => first | (go_simp; done) | (go_simp; rfl)); (case hp => exact (Reps.one (show Kd.M (Kd.int .u8) _ _ _ (0) [.int .u8 (0)] from rfl) (Reps.one (show Kd.M (Kd.int .u8) _ _ _ 0 [.int .u8 0] from rfl) (Reps.one (show Kd.M (Kd.int .u8) _ _ _ 0 [.int .u8 0] from rfl) (Reps.one (show Kd.M (Kd.int .u8) _ _ _ 0 [.int .u8 0] from rfl) (Reps.none _ _))))))
        intro v150 w19 ho20 hb hg_ hnew_
        clear hg_ hnew_
        rw [← NY.out] at ho20
        have R4 := Lib.hid (Kd.R_below R3.out hb)
        have Y4 := Lib.hid ho20
        have B4 := Lib.hid (below_step B3.out hb)
        clear hb ho20 R3 B3
        refine hK.out _ _ trivial (fun hHeld => ?_)
        clear hK K
        refine norm_ (a' := ?_) ?_ ?_
        rotate_left
        · show Act.put _ (some 44) _ = _
          simp only [Act.put, List.setIfInBounds_toArray, List.set_cons_zero, List.set_cons_succ, i64_w, i32_w]
          rfl
        refine one_ (i := 5) (N := some 45) #[true, true, true, true, true, true, false, true, true, false, false] rfl rfl (one_of HT_.out (by kernel_rfl)) (by decide) (fun K hK => ?_)
        have hcv := own_string (P := Try.prog) Try.underlying38 Try.underlying5 Try.underlying9 (Kd.own_of_R Y4.out)
        refine value_ (w1 := ?_) (v := ?_) (by rfl) rfl ?_ ?_
        rotate_left 2
        · go_simp
          constructor
          · rfl
          · rfl
        clear hcv
        refine hK.out _ _ trivial (fun hHeld => ?_)
        clear hK K
        refine norm_ (a' := ?_) ?_ ?_
        rotate_left
        · show Act.put _ (some 45) _ = _
          simp only [Act.put, List.setIfInBounds_toArray, List.set_cons_zero, List.set_cons_succ, i64_w, i32_w]
          rfl
        refine pure_ (i := 6) (N := some 46) (v := ?_) (a' := ?_) #[true, true, true, true, true, true, true, true, true, false, false] rfl rfl (any_of HT_.out (by kernel_rfl)) (fun _ _ _ h => h) (Or.inl ⟨by rfl, ?_⟩) ?_ ?_
        rotate_left
        · intro w'
          go_simp
          with_reducible rfl
        rotate_left
        · simp only [Act.put, List.setIfInBounds_toArray, List.set_cons_zero, List.set_cons_succ, i64_w, i32_w]
          rfl
        refine pure_ (i := 9) (N := some 49) (v := ?_) (a' := ?_) #[true, true, true, true, true, true, true, true, true, true, false] rfl rfl (any_of HT_.out (by kernel_rfl)) (fun _ _ _ h => h) (Or.inl ⟨by rfl, ?_⟩) ?_ ?_
        rotate_left
        · intro w'
          go_simp
          with_reducible rfl
        rotate_left
        · simp only [Act.put, List.setIfInBounds_toArray, List.set_cons_zero, List.set_cons_succ, i64_w, i32_w]
          rfl
        refine pure_ (i := 10) (N := some 6) (v := ?_) (a' := ?_) #[true, true, true, true, true, true, true, true, true, true, true] rfl rfl (any_of HT_.out (by kernel_rfl)) (fun _ _ _ h => h) (Or.inl ⟨by rfl, ?_⟩) ?_ ?_
        rotate_left
        · intro w'
          go_simp
          with_reducible rfl
        rotate_left
        · simp only [Act.put, List.setIfInBounds_toArray, List.set_cons_zero, List.set_cons_succ, i64_w, i32_w]
          rfl
        refine done_ (done_of HT_.out (by kernel_rfl)) ?_
        go_wp2_with fail
        go_roundw
        case measure => simp [intOf]; omega
        case rel =>
         refine ⟨i + 1, ?_, rfl, by omega, Lib.hid ?_, B4⟩
         · show Value.string _ = Value.string (stepT (sAt zs i) (szOf zs i))
           rw [← HT.out, ← HZ.out]
           unfold stepT stepU
           rw [if_neg (by decide), NY.out, show (⟨#[48, 49, 50, 51, 52, 53, 54]⟩ : ByteArray).extract 0 (Int.toNat 0) = ByteArray.empty from (by first | rfl | decide), ByteArray.append_empty]; rfl
         · show Kd.R _ _ _ _ _ _ (wAt zs i ++ [_])
           rw [← HL.out, ← HT.out, ← HZ.out]
           exact R4.out
    · obtain rfl : i = n := by omega
      have ts := sAt_size zs i
      have pf := many_chunks zs i hn7
      obtain ⟨T, hT⟩ : ∃ T, T = sAt zs i := ⟨_, rfl⟩
      have WL := wAt_length zs i
      obtain ⟨L, hL⟩ : ∃ L, L = wAt zs i := ⟨_, rfl⟩
      rw [← hT] at ts pf ⊢
      rw [← hL] at hR WL pf
      clear hT hL
      obtain ⟨Y, hY⟩ : ∃ Y : List Int, Y = [(T.size : Int) % 256, (T.size : Int) / 256, 0, 0] := ⟨_, rfl⟩
      have hys : (strOfNums Y).size = 4 := by rw [nums_size, hY]; rfl
      have F := chunks_prog 0 (fileOf T) (by rw [fileOf_size]; omega)
      rw [pf] at F
      clear pf
      unfold fileOf at F
      rw [← hY] at F
      have NY := Lib.hid hY
      have hq0 : 4 + (strOfNums Y).size ≤ 9223372036854775807 := by omega
      have hqb0 : decide (4 + (strOfNums Y).size ≤ 9223372036854775807) = true := decide_eq_true hq0
      have hqc0 : (9223372036854775807 < 4 + (strOfNums Y).size) = False := eq_false (Nat.not_lt.2 hq0)
      have hq1 : 4 + (strOfNums Y).size + T.size ≤ 9223372036854775807 := by omega
      have hqb1 : decide (4 + (strOfNums Y).size + T.size ≤ 9223372036854775807) = true := decide_eq_true hq1
      have hqc1 : (9223372036854775807 < 4 + (strOfNums Y).size + T.size) = False := eq_false (Nat.not_lt.2 hq1)
      clear hY hys
      obtain ⟨A7, c7, rfl⟩ := Kd.R_slice hR.out
      by_cases h64 : i ≤ 64
      · rw [if_pos h64] at F
        have hg : ((64 : Int) < i) = False := eq_false (by omega)
        have hgb : decide ((64 : Int) < i) = false := decide_eq_false (by omega)
        have FF := Lib.hid F
        have SS := Lib.hid (same_chunks 0 L (by omega))
        clear F WL
        go_wp2_with ((with_reducible refine gate_dst (N := 62) rfl ?_); refine Kd.R_lit (Kd.int .u8) _ 5 ?hg (N := 62) ?hd (xs := ([(T.size : Int) % 256, (T.size : Int) / 256, 0, 0] : List Int)) (inner := [.int .u8 ((T.size : Int) % 256), .int .u8 ((T.size : Int) / 256), .int .u8 0, .int .u8 0]) (ok := fun _ => True) (okp := fun _ => True) ?hr ?hp (fun _ hk => hk) trivial (Below.refl _ _) (Nat.le_refl _) (by simp) ?_; (case hd => rfl); (case hg => rfl); (case hr => first | (go_simp; done) | (go_simp; rfl)); (case hp => exact (Reps.one (show Kd.M (Kd.int .u8) _ _ _ ((T.size : Int) % 256) [.int .u8 ((T.size : Int) % 256)] from rfl) (Reps.one (show Kd.M (Kd.int .u8) _ _ _ ((T.size : Int) / 256) [.int .u8 ((T.size : Int) / 256)] from rfl) (Reps.one (show Kd.M (Kd.int .u8) _ _ _ 0 [.int .u8 0] from rfl) (Reps.one (show Kd.M (Kd.int .u8) _ _ _ 0 [.int .u8 0] from rfl) (Reps.none _ _)))))); intro v159 w51 ho52 hb hg_ hnew_; clear hg_ hnew_; rw [← NY.out] at ho52; have R4 := Lib.hid (Kd.R_below (by (with_reducible repeat (first | apply Kd.R_alloc | apply Kd.R_drewN | apply Kd.R_drew)); exact hR.out) hb); have B4 := Lib.hid (below_step (by repeat (first | (with_reducible first | exact hB.out | apply below_alloc | apply pw_below_drewN | apply below_drew1) | exact hB.out)) hb); have hcv53 := own_string (P := Try.prog) Try.underlying38 Try.underlying5 Try.underlying9 (Kd.own_of_R ho52); clear hR hB hb ho52)
        refine (riff_Chunks.calls _ _ _ _ _ FF.out).mono ?_
        rintro e w5 ⟨vc, rfl, hp, hb⟩
        have R5 := Lib.hid (Kd.R_below R4.out hb)
        have B5 := Lib.hid (below_step B4.out hb)
        have X5 := Lib.hid hp
        clear hp hb R4 B4
        obtain ⟨Ac, cc, rfl⟩ := Kd.R_slice X5.out
        go_wp2_with fail
        refine (descantlaw0_Num.calls _ _ _ rfl).mono ?_
        rintro e w6 ⟨rfl, hd⟩
        have R6 := Lib.hid (Kd.R_below R5.out hd.below)
        have X6 := Lib.hid (Kd.R_below X5.out hd.below)
        have B6 := Lib.hid (below_step B5.out hd.below)
        clear hd R5 X5 B5
        go_wp2_with fail
        refine (descantlaw0_SameChunks.calls _ _ _ L _ _ L true _ (Kd.R_reads' X6.out).2.2 (Kd.R_reads' X6.out).2.1 (Kd.R_reads' R6.out).2.2 (Kd.R_reads' R6.out).2.1 SS.out).mono ?_
        rintro e w7 ⟨rfl, hd⟩
        have B7 := Lib.hid (below_step B6.out hd.below)
        clear hd R6 X6 B6
        go_wp2_with fail
        go_ret
        exact ⟨rfl, B7.out⟩
      · rw [if_neg h64] at F
        have hg : ((64 : Int) < i) = True := eq_true (by omega)
        have hgb : decide ((64 : Int) < i) = true := decide_eq_true (by omega)
        have FF := Lib.hid F
        clear F WL
        go_wp2_with ((with_reducible refine gate_dst (N := 62) rfl ?_); refine Kd.R_lit (Kd.int .u8) _ 5 ?hg (N := 62) ?hd (xs := ([(T.size : Int) % 256, (T.size : Int) / 256, 0, 0] : List Int)) (inner := [.int .u8 ((T.size : Int) % 256), .int .u8 ((T.size : Int) / 256), .int .u8 0, .int .u8 0]) (ok := fun _ => True) (okp := fun _ => True) ?hr ?hp (fun _ hk => hk) trivial (Below.refl _ _) (Nat.le_refl _) (by simp) ?_; (case hd => rfl); (case hg => rfl); (case hr => first | (go_simp; done) | (go_simp; rfl)); (case hp => exact (Reps.one (show Kd.M (Kd.int .u8) _ _ _ ((T.size : Int) % 256) [.int .u8 ((T.size : Int) % 256)] from rfl) (Reps.one (show Kd.M (Kd.int .u8) _ _ _ ((T.size : Int) / 256) [.int .u8 ((T.size : Int) / 256)] from rfl) (Reps.one (show Kd.M (Kd.int .u8) _ _ _ 0 [.int .u8 0] from rfl) (Reps.one (show Kd.M (Kd.int .u8) _ _ _ 0 [.int .u8 0] from rfl) (Reps.none _ _)))))); intro v159 w51 ho52 hb hg_ hnew_; clear hg_ hnew_; rw [← NY.out] at ho52; have R4 := Lib.hid (Kd.R_below (by (with_reducible repeat (first | apply Kd.R_alloc | apply Kd.R_drewN | apply Kd.R_drew)); exact hR.out) hb); have B4 := Lib.hid (below_step (by repeat (first | (with_reducible first | exact hB.out | apply below_alloc | apply pw_below_drewN | apply below_drew1) | exact hB.out)) hb); have hcv53 := own_string (P := Try.prog) Try.underlying38 Try.underlying5 Try.underlying9 (Kd.own_of_R ho52); clear hR hB hb ho52)
        refine (riff_Chunks.calls _ _ _ _ _ FF.out).mono ?_
        rintro e w5 ⟨vc, rfl, hp, hb⟩
        have B5 := Lib.hid (below_step B4.out hb)
        have X5 := Lib.hid hp
        clear hp hb R4 B4
        obtain ⟨Ac, cc, rfl⟩ := Kd.R_slice X5.out
        go_wp2_with fail
        refine (descantlaw0_Num.calls _ _ _ rfl).mono ?_
        rintro e w6 ⟨rfl, hd⟩
        have B6 := Lib.hid (below_step B5.out hd.below)
        clear hd X5 B5
        go_wp2_with fail
        go_ret
        exact ⟨rfl, B6.out⟩
theorem many_walk (a0 : Int) (a1 : Option Addr) (len1 cap1 : Nat) (z1 : List Int) (w : World) (w0 : (Lit.int .i64 a0).wf = true) (w1 : (a1 = none ∧ len1 = 0 ∧ cap1 = 0 ∧ z1 = []) ∨ ∃ x, a1 = some x ∧ len1 ≤ cap1 ∧ cap1 ≤ maxLen ∧ z1.length = cap1 ∧ (∀ i, i < z1.length → w.cell? (x.add i) = some (.int .i64 (z1.getD i 0))) ∧ ∀ n ∈ z1, (Lit.int .i64 n).wf = true) (y1 : len1 * 8 ≤ 140737488351232) :
    Calls Try.prog 6 #[.int .i64 a0, .slice a1 len1 cap1] w fun e w' => e = .returned (.bool true) ∧ Below w.heap.size w w' := by
  obtain ⟨l1, rfl, hr1, hm1, hw1, hc1⟩ := ReadsInt.ofRowC w1
  exact many_calls a0 _ _ l1 w (Kd.C_of_reads (d := (0 : Int)) (h1 := fun _ => rfl) hr1) hc1 y1
end Go.Proofs.Ytkngkmemcokbfaa.PAll
