/- Layer 21, WaveAny: the walk. -/
import Derived.Test.YtkngkmemcokbfaaVAwake
import Derived.Test.YtkngkmemcokbfaaVWaveAny0
import Derived.Lib.LazyBuf
import Derived.Lib.SlBuf
import Derived.Lib.AtoiErrMem
namespace Go.Proofs.Ytkngkmemcokbfaa.PWv
open Go Go.RowKit Go.Proofs.YtkngkmemcokbfaaW.PrintWords Go.Proofs.YtkngkmemcokbfaaW.PrintMore Go.Proofs.YtkngkmemcokbfaaW.PrintLast
set_option linter.unusedVariables false
set_option linter.unusedSimpArgs false
attribute [local go_sem high] eqA37 eqA45
def wa8T : Bool × List (List Nat × List Nat) := (true, [([], []), ([0], [0]), ([], []), ([2], [2]), ([1, 3], [1, 3])])
def wa8B : List Nat := [0, 1, 0, 4, 15]
theorem wa8_tab : rtab .any (opsOf Try.f10 8) = wa8T := by kernel_rfl
theorem wa8_bits : waitsOk wa8T.2 wa8B = true := by kernel_rfl
def wa13T : Bool × List (List Nat × List Nat) := (true, [([], []), ([0], [0]), ([1], [1]), ([2, 1], [2]), ([3], [3]), ([4, 3], [3, 4]), ([3], [3]), ([5, 6, 3], [3, 5, 6]), ([3, 7], [3, 7]), ([8, 3], [8]), ([9], [9]), ([10, 9], [9, 10]), ([9], [9]), ([12, 9], [9, 12]), ([11, 13, 9], [9, 11, 13]), ([9, 14], [9, 14]), ([15, 9], [15]), ([16], [16]), ([17, 16], [16, 17]), ([16], [16]), ([16], [16]), ([20, 16], [16, 20]), ([21, 16], [16, 21]), ([19, 22, 16], [16, 19, 22]), ([18, 23, 16], [16, 18, 23]), ([16, 24], [16, 24]), ([25, 16], [25]), ([26], [26]), ([26], [26]), ([27, 28, 26], [26, 27, 28]), ([26, 29], [26, 29]), ([30, 26], [30]), ([31], [31]), ([32, 31, 31], [31, 32]), ([33, 31], [31, 33]), ([31, 34], [31, 34]), ([35, 33, 0, 1, 2, 3, 4, 5, 6, 7, 8, 9, 10, 11, 12, 13, 14, 15, 16, 17, 18, 19, 20, 21, 22, 23, 24, 25, 26, 27, 28, 29, 30, 31, 32, 33, 34, 35], [35])])
def wa13B : List Nat := [0, 1, 3, 7, 15, 31, 15, 127, 255, 511, 1023, 2047, 1023, 5119, 16383, 32767, 65535, 131071, 262143, 131071, 131071, 1179647, 3276799, 7995391, 16777215, 33554431, 67108863, 134217727, 134217727, 536870911, 1073741823, 2147483647, 4294967295, 8589934591, 17179869183, 34359738367, 68719476735]
theorem wa13_tab : rtab .any (opsOf Try.f10 13) = wa13T := by kernel_rfl
theorem wa13_bits : waitsOk wa13T.2 wa13B = true := by kernel_rfl
theorem copy_exec {P : Program} {o : Oper} {ev : Operand → Value} {w w' : World} (d s : Operand) (t t' : TypeId)
    (ho : o.op = .call { callee := .builtin .copy, args := #[d, s], argTypes := #[t, t'] }) (v u : Value) (hd : ev d = v) (hs : ev s = u) {v' : Value}
    (hr : (Builtin.copy_ #[t, t'] o.type #[v, u]).run P w = .ok v' w') : (execOp ev o).run P w = .ok (.value v') w' := by
  unfold execOp
  simp only [ho, resolve, invoke, builtin, Sem.run_bind, Sem.run_pure, Result.andThen_ok, List.map_toArray, List.map_cons, List.map_nil, hd, hs, hr]
theorem eight (l : List Int) (h : l.length = 8) : ∃ a b c d e f g i, l = [a, b, c, d, e, f, g, i] := by
  match l, h with
  | [a, b, c, d, e, f, g, i], _ => exact ⟨a, b, c, d, e, f, g, i, rfl⟩
theorem setMany_mem : ∀ (r xs : List Int) (o : Nat) (x : Int), x ∈ setMany xs o r → x ∈ xs ∨ x ∈ r
  | [], xs, o, x, h => .inl h
  | v :: r, xs, o, x, h => by
    rcases setMany_mem r (xs.set o v) (o + 1) x h with h | h
    · rcases List.mem_or_eq_of_mem_set h with h | rfl
      · exact .inl h
      · exact .inr (List.mem_cons_self ..)
    · exact .inr (List.mem_cons_of_mem _ h)
set_option maxHeartbeats 16000000 in
set_option maxRecDepth 100000 in
theorem waveAny_calls (data rate : ByteArray) (pad : Int) (w : World) (hda : data.size ≤ 140737488351232) (hra : rate.size ≤ 140737488351232) (hpa : (Lit.int .i64 pad).wf = true) :
    Calls Try.prog 10 #[.string data, .string rate, .int .i64 pad] w fun e w' => e = .returned (.bool true) ∧ Below w.heap.size w w' := by
  obtain ⟨s, hf, hsz, hsb⟩ := wav_of 0 data hda
  have C1 := fun w => descantlaw21_wav.calls (0 + 6) 1 8 data s w hf
  have SB := Lib.hid hsb
  have SZ := Lib.hid hsz
  clear hf hsb hsz
  by_cases hbig : 4096 < s.size
  · have hb1 : (4096 : Int) < s.size := by omega
    go_enter Try.func10, Try.ntmps10
    go_wp2_with fail
    refine (awake_c _).mono ?_
    rintro e w1 ⟨rfl, hb⟩
    have X1 := Lib.hid hb
    clear hb
    go_wp2_with fail
    refine (C1 _).mono ?_
    rintro e w3 ⟨rfl, hb⟩
    have X3 := Lib.hid (below_step (below_alloc X1.out _) hb)
    clear hb C1 X1
    go_wp2_with fail
    go_ret
    exact ⟨rfl, X3.out⟩
  · have hb1 : ¬ (4096 : Int) < s.size := by omega
    by_cases hr8 : rate.size < 8
    · have hr1 : (rate.size : Int) < 8 := by omega
      go_enter Try.func10, Try.ntmps10
      go_wp2_with fail
      refine (awake_c _).mono ?_
      rintro e w1 ⟨rfl, hb⟩
      have X1 := Lib.hid hb
      clear hb
      go_wp2_with fail
      refine (C1 _).mono ?_
      rintro e w3 ⟨rfl, hb⟩
      have X3 := Lib.hid (below_step (below_alloc X1.out _) hb)
      clear hb C1 X1
      go_wp2_with fail
      go_ret
      exact ⟨rfl, X3.out⟩
    · have hr1 : ¬ (rate.size : Int) < 8 := by omega
      have hr2 : (8 : Int) ≤ rate.size := by omega
      have hs56 : 56 ≤ s.size := by have := SZ.out; omega
      have hds : data.size ≤ 4096 := by have := SZ.out; omega
      obtain ⟨r0, r1, r2, r3, r4, r5, r6, r7, hrl⟩ := eight (bytesOf (rate.extract 0 8)) (by rw [bytesOf_length, ByteArray.size_extract]; omega)
      have hq0 : 0 ≤ pad % 256 ∧ pad % 256 ≤ 255 := by omega
      have hqw : IntKind.u8.wrap pad = pad % 256 := IntKind.wrap_u8 pad
      obtain ⟨q, hq⟩ : ∃ q, pad % 256 = q := ⟨_, rfl⟩
      rw [hq] at hq0 hqw
      obtain ⟨n1, hn1⟩ : ∃ n1 : Nat, s.size = n1 + 1 := ⟨s.size - 1, by omega⟩
      have hs1 : (s.size : Int) - 1 = n1 := by omega
      have hs2 : wrap64 ((s.size : Int) - 1) = n1 := by rw [hs1]; exact Num.w64 (by omega) (by omega)
      have hs3 : (n1 : Int) < s.size := by omega
      have hs4 : (0 : Int) ≤ n1 := by omega
      have hs5 : n1 < s.size := by omega
      have hs6 : (32 : Int) ≤ s.size := by omega
      have v1 : wrap64 (44 + (data.size : Int)) = 44 + (data.size : Int) := Num.w64 (by omega) (by omega)
      have v2' : (44 : Int) + (data.size : Int) ≤ (s.size : Int) := by have := SZ.out; omega
      have v3 : (0 : Int) ≤ 44 + (data.size : Int) := by omega
      have v4' : (44 : Int) ≤ (s.size : Int) := by omega
      obtain ⟨ys, hys⟩ : ∃ ys, ys = (setMany (bytesOf s) 24 [r0, r1, r2, r3, r4, r5, r6, r7]).set n1 q := ⟨_, rfl⟩
      have hyl : ys.length = s.size := by rw [hys, List.length_set, setMany_length, bytesOf_length]
      have hyr : ∀ x ∈ ys, 0 ≤ x ∧ x ≤ 255 := by
        intro x hx
        rw [hys] at hx
        rcases List.mem_or_eq_of_mem_set hx with hx | rfl
        · rcases setMany_mem _ _ _ _ hx with hx | hx
          · exact Bytes.range hx
          · rw [← hrl] at hx; exact Bytes.range hx
        · exact hq0
      obtain ⟨t, ht⟩ : ∃ t, t = strOfNums ys := ⟨_, rfl⟩
      have hts : t.size = s.size := by rw [ht, nums_size', hyl]
      have v2 : (44 : Int) + (data.size : Int) ≤ (t.size : Int) := by rw [hts]; exact v2'
      have v4 : (44 : Int) ≤ (t.size : Int) := by rw [hts]; exact v4'
      clear v2' v4'
      have htb : bytesOf t = headL ((t.size : Int) - 8) r0 r1 r2 r3 r4 r5 r6 r7 data.size ++ (bytesOf data ++ (padL data.size ++ tailL q)) := by
        have h1 : bytesOf t = ys := by rw [ht]; exact Bytes.of_nums_in hyr
        rw [h1, hys, SB.out, hts]
        have hk : n1 = 44 + ((bytesOf data).length + ((padL (data.size : Int)).length + 11)) := by rw [bytesOf_length, padL_len]; have := SZ.out; omega
        rw [hk]
        exact turned [] _ _ _ _ _ _ _ _ _ _ _ _ _ _
      have hwv := any_wave t data r0 r1 r2 r3 r4 r5 r6 r7 q hds (by rw [hts]; exact SZ.out) (by omega) htb
      obtain ⟨E, hE⟩ : ∃ E, t.extract (44 + data.size) t.size = E := ⟨_, rfl⟩
      obtain ⟨B, hB⟩ : ∃ B, t.extract 0 44 = B := ⟨_, rfl⟩
      rw [hE, hB] at hwv
      have hE2 : t.extract ((44 : Int) + data.size).toNat t.size = E := by rw [show ((44 : Int) + data.size).toNat = 44 + data.size by omega]; exact hE
      have P1 := fun w => parse_c (s := t) (c := 1) (b := 8) (h := B) (d := data) (t := E) (e0 := 0) (by omega) (by rw [hwv]; rfl) w
      have Q1 := fun w => build_c (build_yes hwv) w
      have HYS := Lib.hid hys
      have HYL := Lib.hid hyl
      have HT := Lib.hid ht
      have HRL := Lib.hid hrl
      have VV := Lib.hid (And.intro hE (And.intro hE2 (And.intro hB (And.intro v1 (And.intro v2 (And.intro v3 v4))))))
      clear hys hyl hyr ht hts htb hwv hE hE2 hB v1 v2 v3 v4 hrl hda hra hpa hq0 hn1
      go_enter Try.func10, Try.ntmps10
      go_wp2_with fail
      refine (awake_c _).mono ?_
      rintro e w1 ⟨rfl, hb⟩
      have X1 := Lib.hid hb
      clear hb
      go_wp2_with fail
      refine (C1 _).mono ?_
      rintro e w3 ⟨rfl, hb⟩
      have X3 := Lib.hid (below_step (below_alloc X1.out _) hb)
      clear hb C1 X1
      have kb := fun W => print_bytes (P := Try.prog) 9 38 5 Try.underlying9 Try.underlying38 Try.underlying5 s W
      have BB3 := Lib.hid (BB.conv w3 s)
      have BW3 := Lib.hid (Lib.bytesWorld_below w3 5 s)
      have BL : Hid ((bytesOf s).length = s.size) := Lib.hid (bytesOf_length s)
      have hcap := grownCap_ge w3 s.size 0 5
      have hcap2 : ((grownCap w3 s.size 0 5) = 24) = False := eq_false (by omega)
      have hcap3 : (32 : Int) ≤ (grownCap w3 s.size 0 5) := by omega
      have hcap4 : 32 ≤ (grownCap w3 s.size 0 5) := by omega
      go_wp2_with fail
      have X4 := Lib.hid (below_drew1 BW3.out)
      have B4 := Lib.hid (BB3.out.below (below_drew1 (Below.refl _ _)))
      refine start_ (n := 5) (S := fun w' => True) (ds := []) #[false, false, false, false, false] (by kernel_rfl) rfl rfl (trivial) (fun hHeld => ?_)
      refine with_tabW wa8_tab wa8_bits (fun HT_ HW_ => ?_)
      generalize (Lib.bytesWorld w3 5 s).drew = w4 at X4 B4 hHeld ⊢
      clear BW3 BB3 kb
      refine pure_ (i := 0) (N := some 31) (v := ?_) (a' := ?_) #[true, false, false, false, false] rfl rfl (any_of HT_.out (by kernel_rfl)) (fun _ _ _ h => h) (Or.inl ⟨by rfl, ?_⟩) ?_ ?_
      rotate_left
      · intro w'
        go_simp
        with_reducible rfl
      rotate_left
      · simp only [Act.put, List.setIfInBounds_toArray, List.set_cons_zero, List.set_cons_succ, i64_w, i32_w]
        rfl
      refine pure_ (i := 1) (N := some 32) (v := ?_) (a' := ?_) #[true, true, false, false, false] rfl rfl (any_of HT_.out (by kernel_rfl)) (fun _ _ _ h => h) (Or.inl ⟨by rfl, ?_⟩) ?_ ?_
      rotate_left
      · intro w'
        go_simp
        with_reducible rfl
      rotate_left
      · simp only [Act.put, List.setIfInBounds_toArray, List.set_cons_zero, List.set_cons_succ, i64_w, i32_w]
        rfl
      refine pure_ (i := 2) (N := some 33) (v := ?_) (a' := ?_) #[true, true, true, false, false] rfl rfl (any_of HT_.out (by kernel_rfl)) (fun _ _ _ h => h) (Or.inl ⟨by rfl, ?_⟩) ?_ ?_
      rotate_left
      · intro w'
        go_simp
        with_reducible rfl
      rotate_left
      · simp only [Act.put, List.setIfInBounds_toArray, List.set_cons_zero, List.set_cons_succ, i64_w, i32_w]
        rfl
      refine pure_ (i := 3) (N := some 34) (v := ?_) (a' := ?_) #[true, true, true, true, false] rfl rfl (any_of HT_.out (by kernel_rfl)) (fun _ _ _ h => h) (Or.inl ⟨by rfl, ?_⟩) ?_ ?_
      rotate_left
      · intro w'
        go_simp
        with_reducible rfl
      rotate_left
      · simp only [Act.put, List.setIfInBounds_toArray, List.set_cons_zero, List.set_cons_succ, i64_w, i32_w]
        rfl
      have hcj : ∀ j, j < (rate.extract 0 8).size → (w4.cell? ⟨w3.heap.size, 24 + j, none⟩).isSome = true := fun j hj => by rw [ByteArray.size_extract] at hj; rw [B4.out.cell (by rw [BL.out]; omega)]; rfl
      have hfj : ∀ j, j < (rate.extract 0 8).size → w4.frozen? ⟨w3.heap.size, 24 + j, none⟩ = false := fun j hj => by rw [ByteArray.size_extract] at hj; exact B4.out.frozen (by rw [BL.out]; omega)
      have hr := run_copy_string (P := Try.prog) w4 38 9 3 5 w3.heap.size 24 8 (grownCap w3 s.size 0 5 - 24) (rate.extract 0 8) Try.underlying38 (fun w => by obtain ⟨i0, hi, hz0, hz1, hz2⟩ := info_parts info5; simp [Go.sizeOf, typeInfo, hi, hz1]) (by rw [ByteArray.size_extract]; omega) hcj hfj
      rw [bytes_map, HRL.out] at hr
      have HR2 := Lib.hid hr
      clear hr hcj hfj
      refine one_ (i := 4) (N := some 35) #[true, true, true, true, true] rfl rfl (one_of HT_.out (by kernel_rfl)) (by decide) (fun K hK => ?_)
      refine value_ (w1 := w4.setCells w3.heap.size 24 (([r0, r1, r2, r3, r4, r5, r6, r7] : List Int).map (Value.int .u8))) (v := goInt (rate.extract 0 8).size) (by rfl) rfl (copy_exec (.tmp 32) (.tmp 34) 38 9 rfl (.slice (some ⟨w3.heap.size, 24, none⟩) 8 (grownCap w3 s.size 0 5 - 24)) (.string (rate.extract 0 8)) ?hd ?hs HR2.out) ?_
      case hd => rfl
      case hs => rfl
      clear HR2
      have B5 := Lib.hid (BB.setCells [r0, r1, r2, r3, r4, r5, r6, r7] _ 24 _ B4.out (by rw [BL.out]; show 24 + 8 ≤ _; omega))
      have X5 := Lib.hid (below_setCells' (([r0, r1, r2, r3, r4, r5, r6, r7] : List Int).map (Value.int .u8)) 24 _ X4.out (Nat.le_refl _))
      clear B4 X4
      generalize (w4.setCells w3.heap.size 24 (([r0, r1, r2, r3, r4, r5, r6, r7] : List Int).map (Value.int .u8))) = w5 at B5 X5 ⊢
      refine hK.out _ _ trivial (fun hHeld => ?_)
      clear hK K
      refine norm_ (a' := ?_) ?_ ?_
      rotate_left
      · show Act.put _ (some 35) _ = _
        simp only [Act.put, List.setIfInBounds_toArray, List.set_cons_zero, List.set_cons_succ, i64_w, i32_w]
        rfl
      refine done_ (done_of HT_.out (by kernel_rfl)) ?_
      clear hHeld hcap2 hcap3
      have hSL : (setMany (bytesOf s) 24 [r0, r1, r2, r3, r4, r5, r6, r7]).length = s.size := by rw [setMany_length]; exact BL.out
      have hcc := B5.out.cell (j := n1) (by rw [hSL]; exact hs5)
      have hff := B5.out.frozen (j := n1) (by rw [hSL]; exact hs5)
      have hset := B5.out.set (j := n1) (by rw [hSL]; exact hs5) q
      rw [← HYS.out] at hset
      have hrd := hset.reads (by rw [HYL.out]; omega)
      rw [HYL.out] at hrd
      have cv : (Go.convert 38 9 (.slice (some ⟨w3.heap.size, 0, none⟩) s.size (grownCap w3 s.size 0 5))).run Try.prog (w5.setCell ⟨w3.heap.size, n1, none⟩ (.int .u8 q)) = .ok (.string t) (w5.setCell ⟨w3.heap.size, n1, none⟩ (.int .u8 q)) := by rw [HT.out]; exact Kd.C_string (P := Try.prog) Try.underlying38 Try.underlying5 Try.underlying9 hrd
      have X6 := Lib.hid (below_step X3.out (below_set X5.out (Nat.le_refl _) : Below w3.heap.size w3 (w5.setCell ⟨w3.heap.size, n1, none⟩ (.int .u8 q))))
      clear hSL hset hrd X5 B5 X3 hcap hcap4
      go_wp2_with fail
      refine (P1 _).mono ?_
      rintro e w7 ⟨rfl, hb⟩
      have X7 := Lib.hid (below_step X6.out hb)
      clear hb P1 X6 cv hcc hff
      go_wp2_with fail
      refine (Q1 _).mono ?_
      rintro e w8 ⟨rfl, hb⟩
      have X8 := Lib.hid (below_step (below_alloc X7.out _) hb)
      have F8 := Lib.hid (blk_below (blk_new w7 _) hb)
      clear hb Q1 X7
      obtain ⟨vE, vE2, vB, v1, v2, v3, v4⟩ := VV.out
      go_wp2_with fail
      have X9 := Lib.hid (below_drew1 X8.out)
      have F9 := Lib.hid (blk_drew F8.out)
      refine start_ (n := 37) (S := fun w' => w'.cell? ⟨w7.heap.size, 3, none⟩ = some (.string data) ∧ w'.cell? ⟨w7.heap.size, 2, none⟩ = some (.string B) ∧ w'.cell? ⟨w7.heap.size, 4, none⟩ = some (.string E)) (ds := []) #[false, false, false, false, false, false, false, false, false, false, false, false, false, false, false, false, false, false, false, false, false, false, false, false, false, false, false, false, false, false, false, false, false, false, false, false, false] (by kernel_rfl) rfl rfl (⟨(five (blk_drew F8.out)).2.2.2.1, (five (blk_drew F8.out)).2.2.1, (five (blk_drew F8.out)).2.2.2.2⟩) (fun hHeld => ?_)
      refine with_tabW wa13_tab wa13_bits (fun HT_ HW_ => ?_)
      generalize w8.drew = w9 at X9 F9 hHeld ⊢
      clear X8 F8
      refine pure_ (i := 0) (N := some 55) (v := ?_) (a' := ?_) #[true, false, false, false, false, false, false, false, false, false, false, false, false, false, false, false, false, false, false, false, false, false, false, false, false, false, false, false, false, false, false, false, false, false, false, false, false] rfl rfl (any_of HT_.out (by kernel_rfl)) (fun _ _ _ h => h) (Or.inl ⟨by rfl, ?_⟩) ?_ ?_
      rotate_left
      · intro w'
        go_simp
        with_reducible rfl
      rotate_left
      · simp only [Act.put, List.setIfInBounds_toArray, List.set_cons_zero, List.set_cons_succ, i64_w, i32_w]
        rfl
      refine one_ (i := 1) (N := some 56) #[true, true, false, false, false, false, false, false, false, false, false, false, false, false, false, false, false, false, false, false, false, false, false, false, false, false, false, false, false, false, false, false, false, false, false, false, false] rfl rfl (one_of HT_.out (by kernel_rfl)) (by decide) (fun K hK => ?_)
      refine goes_ Try.func16 (by kernel_rfl) rfl #[.int .i64 0] (by rfl) rfl rfl (by (try simp only [List.map_toArray, List.map_cons, List.map_nil]); rfl) ?_
      refine (descantlaw0_Num.calls _ _ _ rfl).mono ?_
      rintro e w10 ⟨rfl, hb⟩
      refine ⟨_, rfl, ?_⟩
      have X10 := Lib.hid (below_step X9.out hb.below)
      have F10 := Lib.hid (blk_below F9.out hb.below)
      clear hb X9 F9
      refine hK.out _ _ (⟨(five F10.out).2.2.2.1, (five F10.out).2.2.1, (five F10.out).2.2.2.2⟩) (fun hHeld => ?_)
      clear hK K
      refine norm_ (a' := ?_) ?_ ?_
      rotate_left
      · show Act.put _ (some 56) _ = _
        simp only [Act.put, List.setIfInBounds_toArray, List.set_cons_zero, List.set_cons_succ, i64_w, i32_w]
        rfl
      refine pure_ (i := 2) (N := some 57) (v := ?_) (a' := ?_) #[true, true, true, false, false, false, false, false, false, false, false, false, false, false, false, false, false, false, false, false, false, false, false, false, false, false, false, false, false, false, false, false, false, false, false, false, false] rfl rfl (any_of HT_.out (by kernel_rfl)) (fun _ _ _ h => h) (Or.inl ⟨by rfl, ?_⟩) ?_ ?_
      rotate_left
      · intro w'
        go_simp
        (try simp only [bne_self_eq_false, beq_self_eq_true])
        with_reducible rfl
      rotate_left
      · simp only [Act.put, List.setIfInBounds_toArray, List.set_cons_zero, List.set_cons_succ, i64_w, i32_w]
        rfl
      refine pure_ (i := 3) (N := some 58) (v := ?_) (a' := ?_) #[true, true, true, true, false, false, false, false, false, false, false, false, false, false, false, false, false, false, false, false, false, false, false, false, false, false, false, false, false, false, false, false, false, false, false, false, false] rfl rfl (any_of HT_.out (by kernel_rfl)) (fun _ _ _ h => h) (Or.inl ⟨by rfl, ?_⟩) ?_ ?_
      rotate_left
      · intro w'
        go_simp
        with_reducible rfl
      rotate_left
      · simp only [Act.put, List.setIfInBounds_toArray, List.set_cons_zero, List.set_cons_succ, i64_w, i32_w]
        rfl
      refine pure_ (i := 4) (N := some 59) (v := ?_) (a' := ?_) #[true, true, true, true, true, false, false, false, false, false, false, false, false, false, false, false, false, false, false, false, false, false, false, false, false, false, false, false, false, false, false, false, false, false, false, false, false] rfl rfl (any_of HT_.out (by kernel_rfl)) (fun _ _ _ h => h) (Or.inl ⟨by rfl, ?_⟩) ?_ ?_
      rotate_left
      · intro w'
        go_simp
        with_reducible rfl
      rotate_left
      · simp only [Act.put, List.setIfInBounds_toArray, List.set_cons_zero, List.set_cons_succ, i64_w, i32_w]
        rfl
      refine take_ (i := 5) (N := some 60) (v := ?_) (a' := ?_) #[true, true, true, true, true, true, false, false, false, false, false, false, false, false, false, false, false, false, false, false, false, false, false, false, false, false, false, false, false, false, false, false, false, false, false, false, false] rfl rfl (take_ofW HT_.out HW_.out (by kernel_rfl)) (fun _ _ _ h => h) (Or.inl ⟨by rfl, ?_⟩) hHeld ?_ ?_
      rotate_left
      · rintro w' ⟨s0, s1, s2⟩
        go_simp
        with_reducible rfl
      rotate_left
      · simp only [Act.put, List.setIfInBounds_toArray, List.set_cons_zero, List.set_cons_succ, i64_w, i32_w]
        rfl
      refine pure_ (i := 6) (N := some 61) (v := ?_) (a' := ?_) #[true, true, true, true, true, true, true, false, false, false, false, false, false, false, false, false, false, false, false, false, false, false, false, false, false, false, false, false, false, false, false, false, false, false, false, false, false] rfl rfl (any_of HT_.out (by kernel_rfl)) (fun _ _ _ h => h) (Or.inl ⟨by rfl, ?_⟩) ?_ ?_
      rotate_left
      · intro w'
        go_simp
        with_reducible rfl
      rotate_left
      · simp only [Act.put, List.setIfInBounds_toArray, List.set_cons_zero, List.set_cons_succ, i64_w, i32_w]
        rfl
      refine pure_ (i := 7) (N := some 62) (v := ?_) (a' := ?_) #[true, true, true, true, true, true, true, true, false, false, false, false, false, false, false, false, false, false, false, false, false, false, false, false, false, false, false, false, false, false, false, false, false, false, false, false, false] rfl rfl (any_of HT_.out (by kernel_rfl)) (fun _ _ _ h => h) (Or.inl ⟨by rfl, ?_⟩) ?_ ?_
      rotate_left
      · intro w'
        go_simp
        (try simp only [bne_self_eq_false, beq_self_eq_true])
        with_reducible rfl
      rotate_left
      · simp only [Act.put, List.setIfInBounds_toArray, List.set_cons_zero, List.set_cons_succ, i64_w, i32_w]
        rfl
      refine pure_ (i := 8) (N := some 63) (v := ?_) (a' := ?_) #[true, true, true, true, true, true, true, true, true, false, false, false, false, false, false, false, false, false, false, false, false, false, false, false, false, false, false, false, false, false, false, false, false, false, false, false, false] rfl rfl (any_of HT_.out (by kernel_rfl)) (fun _ _ _ h => h) (Or.inl ⟨by rfl, ?_⟩) ?_ ?_
      rotate_left
      · intro w'
        go_simp
        with_reducible rfl
      rotate_left
      · simp only [Act.put, List.setIfInBounds_toArray, List.set_cons_zero, List.set_cons_succ, i64_w, i32_w]
        rfl
      refine pure_ (i := 9) (N := some 64) (v := ?_) (a' := ?_) #[true, true, true, true, true, true, true, true, true, true, false, false, false, false, false, false, false, false, false, false, false, false, false, false, false, false, false, false, false, false, false, false, false, false, false, false, false] rfl rfl (any_of HT_.out (by kernel_rfl)) (fun _ _ _ h => h) (Or.inl ⟨by rfl, ?_⟩) ?_ ?_
      rotate_left
      · intro w'
        go_simp
        with_reducible rfl
      rotate_left
      · simp only [Act.put, List.setIfInBounds_toArray, List.set_cons_zero, List.set_cons_succ, i64_w, i32_w]
        rfl
      refine pure_ (i := 10) (N := some 65) (v := ?_) (a' := ?_) #[true, true, true, true, true, true, true, true, true, true, true, false, false, false, false, false, false, false, false, false, false, false, false, false, false, false, false, false, false, false, false, false, false, false, false, false, false] rfl rfl (any_of HT_.out (by kernel_rfl)) (fun _ _ _ h => h) (Or.inl ⟨by rfl, ?_⟩) ?_ ?_
      rotate_left
      · intro w'
        go_simp
        with_reducible rfl
      rotate_left
      · simp only [Act.put, List.setIfInBounds_toArray, List.set_cons_zero, List.set_cons_succ, i64_w, i32_w]
        rfl
      refine take_ (i := 11) (N := some 66) (v := ?_) (a' := ?_) #[true, true, true, true, true, true, true, true, true, true, true, true, false, false, false, false, false, false, false, false, false, false, false, false, false, false, false, false, false, false, false, false, false, false, false, false, false] rfl rfl (take_ofW HT_.out HW_.out (by kernel_rfl)) (fun _ _ _ h => h) (Or.inl ⟨by rfl, ?_⟩) hHeld ?_ ?_
      rotate_left
      · rintro w' ⟨s0, s1, s2⟩
        go_simp
        with_reducible rfl
      rotate_left
      · simp only [Act.put, List.setIfInBounds_toArray, List.set_cons_zero, List.set_cons_succ, i64_w, i32_w]
        rfl
      refine pure_ (i := 12) (N := some 67) (v := ?_) (a' := ?_) #[true, true, true, true, true, true, true, true, true, true, true, true, true, false, false, false, false, false, false, false, false, false, false, false, false, false, false, false, false, false, false, false, false, false, false, false, false] rfl rfl (any_of HT_.out (by kernel_rfl)) (fun _ _ _ h => h) (Or.inl ⟨by rfl, ?_⟩) ?_ ?_
      rotate_left
      · intro w'
        go_simp
        with_reducible rfl
      rotate_left
      · simp only [Act.put, List.setIfInBounds_toArray, List.set_cons_zero, List.set_cons_succ, i64_w, i32_w]
        rfl
      refine pure_ (i := 13) (N := some 68) (v := ?_) (a' := ?_) #[true, true, true, true, true, true, true, true, true, true, true, true, true, true, false, false, false, false, false, false, false, false, false, false, false, false, false, false, false, false, false, false, false, false, false, false, false] rfl rfl (any_of HT_.out (by kernel_rfl)) (fun _ _ _ h => h) (Or.inl ⟨by rfl, ?_⟩) ?_ ?_
      rotate_left
      · intro w'
        go_simp
        with_reducible rfl
      rotate_left
      · simp only [Act.put, List.setIfInBounds_toArray, List.set_cons_zero, List.set_cons_succ, i64_w, i32_w]
        rfl
      refine pure_ (i := 14) (N := some 69) (v := ?_) (a' := ?_) #[true, true, true, true, true, true, true, true, true, true, true, true, true, true, true, false, false, false, false, false, false, false, false, false, false, false, false, false, false, false, false, false, false, false, false, false, false] rfl rfl (any_of HT_.out (by kernel_rfl)) (fun _ _ _ h => h) (Or.inl ⟨by rfl, ?_⟩) ?_ ?_
      rotate_left
      · intro w'
        go_simp
        (try simp only [bne_self_eq_false, beq_self_eq_true])
        with_reducible rfl
      rotate_left
      · simp only [Act.put, List.setIfInBounds_toArray, List.set_cons_zero, List.set_cons_succ, i64_w, i32_w]
        rfl
      refine pure_ (i := 15) (N := some 70) (v := ?_) (a' := ?_) #[true, true, true, true, true, true, true, true, true, true, true, true, true, true, true, true, false, false, false, false, false, false, false, false, false, false, false, false, false, false, false, false, false, false, false, false, false] rfl rfl (any_of HT_.out (by kernel_rfl)) (fun _ _ _ h => h) (Or.inl ⟨by rfl, ?_⟩) ?_ ?_
      rotate_left
      · intro w'
        go_simp
        with_reducible rfl
      rotate_left
      · simp only [Act.put, List.setIfInBounds_toArray, List.set_cons_zero, List.set_cons_succ, i64_w, i32_w]
        rfl
      refine pure_ (i := 16) (N := some 71) (v := ?_) (a' := ?_) #[true, true, true, true, true, true, true, true, true, true, true, true, true, true, true, true, true, false, false, false, false, false, false, false, false, false, false, false, false, false, false, false, false, false, false, false, false] rfl rfl (any_of HT_.out (by kernel_rfl)) (fun _ _ _ h => h) (Or.inl ⟨by rfl, ?_⟩) ?_ ?_
      rotate_left
      · intro w'
        go_simp
        with_reducible rfl
      rotate_left
      · simp only [Act.put, List.setIfInBounds_toArray, List.set_cons_zero, List.set_cons_succ, i64_w, i32_w]
        rfl
      refine pure_ (i := 17) (N := some 72) (v := ?_) (a' := ?_) #[true, true, true, true, true, true, true, true, true, true, true, true, true, true, true, true, true, true, false, false, false, false, false, false, false, false, false, false, false, false, false, false, false, false, false, false, false] rfl rfl (any_of HT_.out (by kernel_rfl)) (fun _ _ _ h => h) (Or.inl ⟨by rfl, ?_⟩) ?_ ?_
      rotate_left
      · intro w'
        go_simp
        with_reducible rfl
      rotate_left
      · simp only [Act.put, List.setIfInBounds_toArray, List.set_cons_zero, List.set_cons_succ, i64_w, i32_w]
        rfl
      refine take_ (i := 18) (N := some 73) (v := ?_) (a' := ?_) #[true, true, true, true, true, true, true, true, true, true, true, true, true, true, true, true, true, true, true, false, false, false, false, false, false, false, false, false, false, false, false, false, false, false, false, false, false] rfl rfl (take_ofW HT_.out HW_.out (by kernel_rfl)) (fun _ _ _ h => h) (Or.inl ⟨by rfl, ?_⟩) hHeld ?_ ?_
      rotate_left
      · rintro w' ⟨s0, s1, s2⟩
        go_simp
        with_reducible rfl
      rotate_left
      · simp only [Act.put, List.setIfInBounds_toArray, List.set_cons_zero, List.set_cons_succ, i64_w, i32_w]
        rfl
      refine pure_ (i := 19) (N := some 74) (v := ?_) (a' := ?_) #[true, true, true, true, true, true, true, true, true, true, true, true, true, true, true, true, true, true, true, true, false, false, false, false, false, false, false, false, false, false, false, false, false, false, false, false, false] rfl rfl (any_of HT_.out (by kernel_rfl)) (fun _ _ _ h => h) (Or.inl ⟨by rfl, ?_⟩) ?_ ?_
      rotate_left
      · intro w'
        go_simp
        with_reducible rfl
      rotate_left
      · simp only [Act.put, List.setIfInBounds_toArray, List.set_cons_zero, List.set_cons_succ, i64_w, i32_w]
        rfl
      refine pure_ (i := 20) (N := some 75) (v := ?_) (a' := ?_) #[true, true, true, true, true, true, true, true, true, true, true, true, true, true, true, true, true, true, true, true, true, false, false, false, false, false, false, false, false, false, false, false, false, false, false, false, false] rfl rfl (any_of HT_.out (by kernel_rfl)) (fun _ _ _ h => h) (Or.inl ⟨by rfl, ?_⟩) ?_ ?_
      rotate_left
      · intro w'
        go_simp
        with_reducible rfl
      rotate_left
      · simp only [Act.put, List.setIfInBounds_toArray, List.set_cons_zero, List.set_cons_succ, i64_w, i32_w]
        rfl
      refine pure_ (i := 21) (N := some 76) (v := ?_) (a' := ?_) #[true, true, true, true, true, true, true, true, true, true, true, true, true, true, true, true, true, true, true, true, true, true, false, false, false, false, false, false, false, false, false, false, false, false, false, false, false] rfl rfl (any_of HT_.out (by kernel_rfl)) (fun _ _ _ h => h) (Or.inl ⟨by rfl, ?_⟩) ?_ ?_
      rotate_left
      · intro w'
        go_simp
        with_reducible rfl
      rotate_left
      · simp only [Act.put, List.setIfInBounds_toArray, List.set_cons_zero, List.set_cons_succ, i64_w, i32_w]
        rfl
      refine pure_ (i := 22) (N := some 77) (v := ?_) (a' := ?_) #[true, true, true, true, true, true, true, true, true, true, true, true, true, true, true, true, true, true, true, true, true, true, true, false, false, false, false, false, false, false, false, false, false, false, false, false, false] rfl rfl (any_of HT_.out (by kernel_rfl)) (fun _ _ _ h => h) (Or.inl ⟨by rfl, ?_⟩) ?_ ?_
      rotate_left
      · intro w'
        go_simp
        (try simp only [bne_self_eq_false, beq_self_eq_true])
        with_reducible rfl
      rotate_left
      · simp only [Act.put, List.setIfInBounds_toArray, List.set_cons_zero, List.set_cons_succ, i64_w, i32_w]
        rfl
      refine pure_ (i := 23) (N := some 78) (v := ?_) (a' := ?_) #[true, true, true, true, true, true, true, true, true, true, true, true, true, true, true, true, true, true, true, true, true, true, true, true, false, false, false, false, false, false, false, false, false, false, false, false, false] rfl rfl (any_of HT_.out (by kernel_rfl)) (fun _ _ _ h => h) (Or.inl ⟨by rfl, ?_⟩) ?_ ?_
      rotate_left
      · intro w'
        go_simp
        with_reducible rfl
      rotate_left
      · simp only [Act.put, List.setIfInBounds_toArray, List.set_cons_zero, List.set_cons_succ, i64_w, i32_w]
        rfl
      refine pure_ (i := 24) (N := some 79) (v := ?_) (a' := ?_) #[true, true, true, true, true, true, true, true, true, true, true, true, true, true, true, true, true, true, true, true, true, true, true, true, true, false, false, false, false, false, false, false, false, false, false, false, false] rfl rfl (any_of HT_.out (by kernel_rfl)) (fun _ _ _ h => h) (Or.inl ⟨by rfl, ?_⟩) ?_ ?_
      rotate_left
      · intro w'
        go_simp
        (try simp only [bne_self_eq_false, beq_self_eq_true])
        with_reducible rfl
      rotate_left
      · simp only [Act.put, List.setIfInBounds_toArray, List.set_cons_zero, List.set_cons_succ, i64_w, i32_w]
        rfl
      refine pure_ (i := 25) (N := some 80) (v := ?_) (a' := ?_) #[true, true, true, true, true, true, true, true, true, true, true, true, true, true, true, true, true, true, true, true, true, true, true, true, true, true, false, false, false, false, false, false, false, false, false, false, false] rfl rfl (any_of HT_.out (by kernel_rfl)) (fun _ _ _ h => h) (Or.inl ⟨by rfl, ?_⟩) ?_ ?_
      rotate_left
      · intro w'
        go_simp
        with_reducible rfl
      rotate_left
      · simp only [Act.put, List.setIfInBounds_toArray, List.set_cons_zero, List.set_cons_succ, i64_w, i32_w]
        rfl
      refine pure_ (i := 26) (N := some 81) (v := ?_) (a' := ?_) #[true, true, true, true, true, true, true, true, true, true, true, true, true, true, true, true, true, true, true, true, true, true, true, true, true, true, true, false, false, false, false, false, false, false, false, false, false] rfl rfl (any_of HT_.out (by kernel_rfl)) (fun _ _ _ h => h) (Or.inl ⟨by rfl, ?_⟩) ?_ ?_
      rotate_left
      · intro w'
        go_simp
        with_reducible rfl
      rotate_left
      · simp only [Act.put, List.setIfInBounds_toArray, List.set_cons_zero, List.set_cons_succ, i64_w, i32_w]
        rfl
      refine pure_ (i := 27) (N := some 82) (v := ?_) (a' := ?_) #[true, true, true, true, true, true, true, true, true, true, true, true, true, true, true, true, true, true, true, true, true, true, true, true, true, true, true, true, false, false, false, false, false, false, false, false, false] rfl rfl (any_of HT_.out (by kernel_rfl)) (fun _ _ _ h => h) (Or.inl ⟨by rfl, ?_⟩) ?_ ?_
      rotate_left
      · intro w'
        go_simp
        with_reducible rfl
      rotate_left
      · simp only [Act.put, List.setIfInBounds_toArray, List.set_cons_zero, List.set_cons_succ, i64_w, i32_w]
        rfl
      refine pure_ (i := 28) (N := some 83) (v := ?_) (a' := ?_) #[true, true, true, true, true, true, true, true, true, true, true, true, true, true, true, true, true, true, true, true, true, true, true, true, true, true, true, true, true, false, false, false, false, false, false, false, false] rfl rfl (any_of HT_.out (by kernel_rfl)) (fun _ _ _ h => h) (Or.inl ⟨by rfl, ?_⟩) ?_ ?_
      rotate_left
      · intro w'
        go_simp
        with_reducible rfl
      rotate_left
      · simp only [Act.put, List.setIfInBounds_toArray, List.set_cons_zero, List.set_cons_succ, i64_w, i32_w]
        rfl
      refine pure_ (i := 29) (N := some 84) (v := ?_) (a' := ?_) #[true, true, true, true, true, true, true, true, true, true, true, true, true, true, true, true, true, true, true, true, true, true, true, true, true, true, true, true, true, true, false, false, false, false, false, false, false] rfl rfl (any_of HT_.out (by kernel_rfl)) (fun _ _ _ h => h) (Or.inl ⟨by rfl, ?_⟩) ?_ ?_
      rotate_left
      · intro w'
        go_simp
        (try simp only [bne_self_eq_false, beq_self_eq_true])
        with_reducible rfl
      rotate_left
      · simp only [Act.put, List.setIfInBounds_toArray, List.set_cons_zero, List.set_cons_succ, i64_w, i32_w]
        rfl
      refine pure_ (i := 30) (N := some 85) (v := ?_) (a' := ?_) #[true, true, true, true, true, true, true, true, true, true, true, true, true, true, true, true, true, true, true, true, true, true, true, true, true, true, true, true, true, true, true, false, false, false, false, false, false] rfl rfl (any_of HT_.out (by kernel_rfl)) (fun _ _ _ h => h) (Or.inl ⟨by rfl, ?_⟩) ?_ ?_
      rotate_left
      · intro w'
        go_simp
        with_reducible rfl
      rotate_left
      · simp only [Act.put, List.setIfInBounds_toArray, List.set_cons_zero, List.set_cons_succ, i64_w, i32_w]
        rfl
      refine pure_ (i := 31) (N := some 86) (v := ?_) (a' := ?_) #[true, true, true, true, true, true, true, true, true, true, true, true, true, true, true, true, true, true, true, true, true, true, true, true, true, true, true, true, true, true, true, true, false, false, false, false, false] rfl rfl (any_of HT_.out (by kernel_rfl)) (fun _ _ _ h => h) (Or.inl ⟨by rfl, ?_⟩) ?_ ?_
      rotate_left
      · intro w'
        go_simp
        with_reducible rfl
      rotate_left
      · simp only [Act.put, List.setIfInBounds_toArray, List.set_cons_zero, List.set_cons_succ, i64_w, i32_w]
        rfl
      refine pure_ (i := 32) (N := some 87) (v := ?_) (a' := ?_) #[true, true, true, true, true, true, true, true, true, true, true, true, true, true, true, true, true, true, true, true, true, true, true, true, true, true, true, true, true, true, true, true, true, false, false, false, false] rfl rfl (any_of HT_.out (by kernel_rfl)) (fun _ _ _ h => h) (Or.inl ⟨by rfl, ?_⟩) ?_ ?_
      rotate_left
      · intro w'
        go_simp
        with_reducible rfl
      rotate_left
      · simp only [Act.put, List.setIfInBounds_toArray, List.set_cons_zero, List.set_cons_succ, i64_w, i32_w]
        rfl
      refine one_ (i := 33) (N := some 88) #[true, true, true, true, true, true, true, true, true, true, true, true, true, true, true, true, true, true, true, true, true, true, true, true, true, true, true, true, true, true, true, true, true, true, false, false, false] rfl rfl (one_of HT_.out (by kernel_rfl)) (by decide) (fun K hK => ?_)
      refine goes_ Try.func16 (by kernel_rfl) rfl #[.int .i64 0] (by rfl) rfl rfl (by (try simp only [List.map_toArray, List.map_cons, List.map_nil]); rfl) ?_
      refine (descantlaw0_Num.calls _ _ _ rfl).mono ?_
      rintro e w11 ⟨rfl, hb⟩
      refine ⟨_, rfl, ?_⟩
      have X11 := Lib.hid (below_step X10.out hb.below)
      have F11 := Lib.hid (blk_below F10.out hb.below)
      clear hb X10 F10
      refine hK.out _ _ (⟨(five F11.out).2.2.2.1, (five F11.out).2.2.1, (five F11.out).2.2.2.2⟩) (fun hHeld => ?_)
      clear hK K
      refine norm_ (a' := ?_) ?_ ?_
      rotate_left
      · show Act.put _ (some 88) _ = _
        simp only [Act.put, List.setIfInBounds_toArray, List.set_cons_zero, List.set_cons_succ, i64_w, i32_w]
        rfl
      refine pure_ (i := 34) (N := some 89) (v := ?_) (a' := ?_) #[true, true, true, true, true, true, true, true, true, true, true, true, true, true, true, true, true, true, true, true, true, true, true, true, true, true, true, true, true, true, true, true, true, true, true, false, false] rfl rfl (any_of HT_.out (by kernel_rfl)) (fun _ _ _ h => h) (Or.inl ⟨by rfl, ?_⟩) ?_ ?_
      rotate_left
      · intro w'
        go_simp
        (try simp only [bne_self_eq_false, beq_self_eq_true])
        with_reducible rfl
      rotate_left
      · simp only [Act.put, List.setIfInBounds_toArray, List.set_cons_zero, List.set_cons_succ, i64_w, i32_w]
        rfl
      refine pure_ (i := 35) (N := some 90) (v := ?_) (a' := ?_) #[true, true, true, true, true, true, true, true, true, true, true, true, true, true, true, true, true, true, true, true, true, true, true, true, true, true, true, true, true, true, true, true, true, true, true, true, false] rfl rfl (any_of HT_.out (by kernel_rfl)) (fun _ _ _ h => h) (Or.inl ⟨by rfl, ?_⟩) ?_ ?_
      rotate_left
      · intro w'
        go_simp
        with_reducible rfl
      rotate_left
      · simp only [Act.put, List.setIfInBounds_toArray, List.set_cons_zero, List.set_cons_succ, i64_w, i32_w]
        rfl
      refine pure_ (i := 36) (N := some 6) (v := ?_) (a' := ?_) #[true, true, true, true, true, true, true, true, true, true, true, true, true, true, true, true, true, true, true, true, true, true, true, true, true, true, true, true, true, true, true, true, true, true, true, true, true] rfl rfl (any_of HT_.out (by kernel_rfl)) (fun _ _ _ h => h) (Or.inl ⟨by rfl, ?_⟩) ?_ ?_
      rotate_left
      · intro w'
        go_simp
        with_reducible rfl
      rotate_left
      · simp only [Act.put, List.setIfInBounds_toArray, List.set_cons_zero, List.set_cons_succ, i64_w, i32_w]
        rfl
      refine done_ (done_of HT_.out (by kernel_rfl)) ?_
      go_wp2_with fail
      go_ret
      exact ⟨rfl, X11.out⟩
end Go.Proofs.Ytkngkmemcokbfaa.PWv
