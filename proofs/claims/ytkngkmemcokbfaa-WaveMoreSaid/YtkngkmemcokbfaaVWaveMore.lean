/- Layer 21, WaveMore: the walk. -/
import Derived.Test.YtkngkmemcokbfaaVRefParse
import Derived.Test.YtkngkmemcokbfaaVAwake
import Derived.Test.YtkngkmemcokbfaaVWaveMore0
import Derived.Test.YtkngkmemcokbfaaPWvx10
namespace Go.Proofs.Ytkngkmemcokbfaa.PWv
open Go Go.RowKit Go.Proofs.YtkngkmemcokbfaaW.PrintWords Go.Proofs.YtkngkmemcokbfaaW.PrintMore Go.Proofs.YtkngkmemcokbfaaW.PrintLast
set_option linter.unusedVariables false
set_option linter.unusedSimpArgs false
attribute [local go_sem high] eqA37 eqA45
def wm10T : Bool × List (List Nat × List Nat) := (true, [([], []), ([0], [0]), ([1], [1]), ([], []), ([3, 3], [3]), ([4], [4]), ([2, 5], [2, 5]), ([6, 1, 0, 1, 2, 3, 4, 5, 6], [6])])
def wm10B : List Nat := [0, 1, 3, 0, 8, 24, 63, 127]
theorem wm10_tab : rtab .any (opsOf Try.f12 10) = wm10T := by kernel_rfl
theorem wm10_bits : waitsOk wm10T.2 wm10B = true := by kernel_rfl
def wm11T : Bool × List (List Nat × List Nat) := (true, [([], []), ([0], [0]), ([], []), ([2], [2]), ([1, 3], [1, 3]), ([4], [4]), ([5], [5]), ([6], [6]), ([], []), ([8], [8]), ([7, 9], [7, 9]), ([], []), ([10, 11], [10, 11]), ([12, 6, 0, 1, 2, 3, 4, 5, 6, 7, 8, 9, 10, 11, 12], [12])])
def wm11B : List Nat := [0, 1, 0, 4, 15, 31, 63, 127, 0, 256, 1023, 0, 4095, 8191]
theorem wm11_tab : rtab .any (opsOf Try.f12 11) = wm11T := by kernel_rfl
theorem wm11_bits : waitsOk wm11T.2 wm11B = true := by kernel_rfl
def wm14T : Bool × List (List Nat × List Nat) := (true, [([], []), ([0], [0]), ([1], [1]), ([2, 1], [2]), ([3], [3]), ([4, 3], [3, 4]), ([3], [3]), ([6, 3], [3, 6]), ([5, 7, 3], [3, 5, 7]), ([3, 8], [3, 8]), ([9, 3], [9]), ([10], [10]), ([11, 10], [10, 11]), ([10], [10]), ([13, 10], [10, 13]), ([12, 14, 10], [10, 12, 14]), ([10, 15], [10, 15]), ([16, 10], [16]), ([17], [17]), ([18, 17], [17, 18]), ([17], [17]), ([20, 17], [17, 20]), ([17], [17]), ([21, 22, 17], [17, 21, 22]), ([19, 23, 17], [17, 19, 23]), ([17, 24], [17, 24]), ([25, 17], [25]), ([26], [26]), ([27, 26], [26, 27]), ([28, 26], [26, 28]), ([26], [26]), ([30, 26], [26, 30]), ([31, 26], [26, 31]), ([29, 32, 26], [26, 29, 32]), ([26, 33], [26, 33]), ([34, 26], [34]), ([35], [35]), ([36, 35], [35, 36]), ([37, 35], [35, 37]), ([35], [35]), ([39, 35], [35, 39]), ([40, 35], [35, 40]), ([38, 41, 35], [35, 38, 41]), ([35, 42], [35, 42]), ([43, 35], [43]), ([44], [44]), ([45, 44], [44, 45]), ([44, 46], [44, 46]), ([47, 44, 0, 1, 2, 3, 4, 5, 6, 7, 8, 9, 10, 11, 12, 13, 14, 15, 16, 17, 18, 19, 20, 21, 22, 23, 24, 25, 26, 27, 28, 29, 30, 31, 32, 33, 34, 35, 36, 37, 38, 39, 40, 41, 42, 43, 44, 45, 46, 47], [47])])
def wm14B : List Nat := [0, 1, 3, 7, 15, 31, 15, 79, 255, 511, 1023, 2047, 4095, 2047, 10239, 32767, 65535, 131071, 262143, 524287, 262143, 1310719, 262143, 7602175, 16777215, 33554431, 67108863, 134217727, 268435455, 536870911, 134217727, 1207959551, 3355443199, 8589934591, 17179869183, 34359738367, 68719476735, 137438953471, 274877906943, 68719476735, 618475290623, 1717986918399, 4398046511103, 8796093022207, 17592186044415, 35184372088831, 70368744177663, 140737488355327, 281474976710655]
theorem wm14_tab : rtab .any (opsOf Try.f12 14) = wm14T := by kernel_rfl
theorem wm14_bits : waitsOk wm14T.2 wm14B = true := by kernel_rfl
def S56 : ByteArray := ⟨#[82, 73, 70, 70, 48, 0, 0, 0, 87, 65, 86, 69, 102, 109, 116, 32, 16, 0, 0, 0, 1, 0, 1, 0, 114, 97, 116, 101, 97, 110, 100, 98, 1, 0, 8, 0, 100, 97, 116, 97, 0, 0, 0, 0, 109, 111, 114, 101, 3, 0, 0, 0, 97, 98, 99, 100]⟩
theorem wav56 : descantlaw21_wav.f 200 1 8 ⟨#[]⟩ = some S56 := by decide +kernel
theorem parse56 : ∃ c b h d t, toldW (waveOf S56) = (c, b, h, d, t, 0) := by
  have h : (waveOf S56).isSome = true := by decide +kernel
  cases hw : waveOf S56 with
  | none => rw [hw] at h; cases h
  | some v => obtain ⟨c, b, h', d, t⟩ := v; exact ⟨c, b, h', d, t, rfl⟩
theorem head_size {s : ByteArray} {c b : Int} {h d t : ByteArray} (hw : waveOf s = some (c, b, h, d, t)) : 12 ≤ h.size ∧ h.size ≤ s.size := by
 unfold waveOf at hw
 cases hc : chunksOf s with
 | none => rw [hc] at hw; cases hw
 | some cs =>
  rw [hc, Option.bind_some] at hw
  obtain ⟨h1, h2, h3⟩ := chunks_in hc
  unfold waveIn at hw
  split at hw
  ·rename_i hcond
   have hd := found_in hcond.2.1
   have hb := h3 _ (rd_mem hd.1 hd.2)
   unfold waveAt at hw
   dsimp only at hw
   split at hw
   ·have hw := Option.some.inj hw
    have e3 := (Prod.mk.inj (Prod.mk.inj (Prod.mk.inj hw).2).2).1
    rw [← e3, ByteArray.size_extract]
    omega
   ·cases hw
  ·cases hw
theorem zeros_bytes (k : Nat) : bytesOf (strOfNums (List.replicate k 0)) = List.replicate k 0 := Bytes.of_nums_in (fun x hx => by rw [List.eq_of_mem_replicate hx]; decide)
set_option maxHeartbeats 16000000 in
set_option maxRecDepth 100000 in
theorem waveMore_calls (s : ByteArray) (many : Int) (w : World) (hs : s.size ≤ 140737488351232) (hma : (Lit.int .i64 many).wf = true) :
  Calls Try.prog 12 #[.string s, .int .i64 many] w fun e w' => e = .returned (.bool true) ∧ Below w.heap.size w w' := by
 have RC := chunks_ref 0 s hs
 cases hw : waveOf s with
 | none =>
  obtain ⟨L, g, hg⟩ : ∃ L g, told [] (chunksOf s) = (L, g) := ⟨_, _, rfl⟩
  rw [hg] at RC
  have P1 := fun w => parse_c (s := s) (c := 0) (b := 0) (h := ⟨#[]⟩) (d := ⟨#[]⟩) (t := ⟨#[]⟩) (e0 := 2100) hs (by rw [hw]; rfl) w
  clear hw hg
  go_enter Try.func12, Try.ntmps12
  go_wp2_with fail
  refine (awake_c _).mono ?_
  rintro e w1 ⟨rfl, hb⟩
  have X1 := Lib.hid hb
  clear hb
  go_wp2_with fail
  refine (P1 _).mono ?_
  rintro e w2 ⟨rfl, hb⟩
  have X2 := Lib.hid (below_step X1.out hb)
  clear hb X1 P1
  go_wp2_with fail
  refine (descantref13_Chunks.calls _ _ _ _ _ RC).mono ?_
  rintro e w3 ⟨vc, rfl, hp, hb⟩
  have X3 := Lib.hid (below_step (below_alloc X2.out _) hb)
  have F3 := Lib.hid (blk_below (blk_new w2 _) hb)
  clear hp hb X2 RC
  go_wp2_with fail
  refine (descantlaw0_Num.calls _ _ _ rfl).mono ?_
  rintro e w4 ⟨rfl, hq⟩
  have X4 := Lib.hid (below_step X3.out hq.below)
  have F4 := Lib.hid (blk_below F3.out hq.below)
  clear hq X3 F3
  go_wp2_with fail
  refine (descantlaw0_Num.calls _ _ _ rfl).mono ?_
  rintro e w5 ⟨rfl, hq⟩
  have X5 := Lib.hid (below_step X4.out hq.below)
  have F5 := Lib.hid (blk_below F4.out hq.below)
  clear hq X4 F4
  go_wp2_with fail
  refine (descantlaw0_Num.calls _ _ _ rfl).mono ?_
  rintro e w6 ⟨rfl, hq⟩
  have X6 := Lib.hid (below_step X5.out hq.below)
  have F6 := Lib.hid (blk_below F5.out hq.below)
  clear hq X5 F5
  obtain ⟨f0, f1, f2, f3, f4⟩ := five F6.out
  go_wp2_with fail
  go_ret
  exact ⟨rfl, X6.out⟩
 | some v =>
  obtain ⟨c, b, h, d, tl⟩ := v
  have hw : waveOf s = some (c, b, h, d, tl) := hw
  obtain ⟨cs, hc⟩ : ∃ cs, chunksOf s = some cs := by
   unfold waveOf at hw
   cases hc : chunksOf s with
   | none => rw [hc] at hw; cases hw
   | some cs => exact ⟨cs, rfl⟩
  have hcl := (chunks_in hc).2.1
  have hss := (chunks_in hc).1
  rw [hc] at RC
  have RC2 : descantref13_Chunks.f (0 + 160) s = some (cs, 0) := RC
  have P1 := fun w => parse_c (s := s) (c := c) (b := b) (h := h) (d := d) (t := tl) (e0 := 0) hs (by rw [hw]; rfl) w
  have hhs := head_size hw
  have hh12 : ¬ (h.size : Int) < 12 := by omega
  clear RC
  by_cases hsm : s.size ≤ 4056 ∧ cs.length < 64
  ·obtain ⟨hsm, hcl2⟩ := hsm
   have hm7 : Go.bits .and .i64 many 7 = many % 8 := Num.and_mask _ 7 3 (by omega) (by rfl)
   obtain ⟨m, hm2⟩ : ∃ m : Nat, many % 8 = m := ⟨(many % 8).toNat, by omega⟩
   have hm8 : m < 8 := by omega
   rw [hm2] at hm7
   clear hm2
   obtain ⟨k, hk⟩ : ∃ k : Nat, k = 2 * m := ⟨_, rfl⟩
   have hk2 : k % 2 = 0 := by omega
   have hk14 : k ≤ 14 := by omega
   have hkm : 2 * (m : Int) = k := by omega
   have hkw : wrap64 (2 * (m : Int)) = k := by rw [hkm]; exact Num.w64 (by omega) (by omega)
   obtain ⟨lk, hlk⟩ : ∃ lk, lk = strOfNums (low 4 (k : Int)) := ⟨_, rfl⟩
   have lks : lk.size = 4 := by rw [hlk, low_size]
   obtain ⟨zk, hzk⟩ : ∃ zk, zk = strOfNums (List.replicate k 0) := ⟨_, rfl⟩
   have zks : zk.size = k := by rw [hzk, nums_size', List.length_replicate]
   obtain ⟨mo, hmo⟩ : ∃ mo, mo = (⟨#[97, 98, 99, 100]⟩ : ByteArray) ++ lk ++ zk := ⟨_, rfl⟩
   have mos : mo.size = 8 + k := by rw [hmo, ByteArray.size_append, ByteArray.size_append, lks, zks]; rfl
   have mob : bytesOf mo = [97, 98, 99, 100] ++ low 4 k ++ List.replicate k 0 := by rw [hmo, Bytes.of_append, Bytes.of_append, hlk, hzk, low_bytes, zeros_bytes]; rfl
   obtain ⟨ln, hln⟩ : ∃ ln, ln = strOfNums (low 4 ((s.size : Int) + (8 + k) - 8)) := ⟨_, rfl⟩
   have lns : ln.size = 4 := by rw [hln, low_size]
   obtain ⟨t, ht⟩ : ∃ t, t = (⟨#[82, 73, 70, 70]⟩ : ByteArray) ++ ln ++ s.extract 8 s.size ++ mo := ⟨_, rfl⟩
   have h8s : (s.extract 8 s.size).size = s.size - 8 := by rw [ByteArray.size_extract]; omega
   have tsz : t.size = s.size + 8 + k := by rw [ht, ByteArray.size_append, ByteArray.size_append, ByteArray.size_append, lns, mos, h8s]; show 4 + 4 + (s.size - 8) + (8 + k) = _; omega
   have htb : bytesOf t = [82, 73, 70, 70] ++ low 4 ((s.size : Int) + (8 + k) - 8) ++ (bytesOf s).drop 8 ++ bytesOf mo := by
    rw [ht, Bytes.of_append, Bytes.of_append, Bytes.of_append, hln, low_bytes, Bytes.of_extract, List.take_of_length_le (by rw [List.length_drop, bytesOf_length]; omega)]
    rfl
   obtain ⟨_, _, h', hwt, hhs', hh8⟩ := more_wave s mo t k hk2 hk14 c b h d tl hw cs hc hcl2 hsm mob htb
   have P2 := fun w => parse_c (s := t) (c := c) (b := b) (h := h') (d := d) (t := tl ++ mo) (e0 := 0) (by omega) (by rw [hwt]; rfl) w
   obtain ⟨c6, b6, h6, d6, t6, hp6⟩ := parse56
   have R6 := fun w => ref_c (s := S56) (by decide) hp6 w
   have V1 := fun w => descantlaw21_wav.calls 200 1 8 ⟨#[]⟩ S56 w wav56
   have L1 := fun w => descantref1_Low.calls (0 + 6) (k : Int) 4 lk w (by rw [hlk]; exact ref_low (by decide) (by decide))
   have HLN := Lib.hid hln
   obtain ⟨s6, hs6⟩ : ∃ s6, s6 = S56 := ⟨_, rfl⟩
   rw [← hs6] at R6 V1
   have tls : tl.size ≤ s.size := by
    have := congrArg ByteArray.size (wave_joins hw)
    rw [ByteArray.size_append, ByteArray.size_append] at this
    omega
   have ZK := Lib.hid hzk
   have TS := Lib.hid tsz
   have HMO := Lib.hid hmo
   have HT := Lib.hid ht
   have HH := Lib.hid (And.intro hhs' hh8)
   have SZS := Lib.hid (And.intro lks (And.intro zks (And.intro mos (And.intro lns (And.intro h8s (And.intro hhs (And.intro tls hss)))))))
   have hsc1 : ¬ 4056 < (s.size : Int) := by omega
   have hcc1 : ¬ (64 : Int) ≤ cs.length := by omega
   have hhx : (12 : Int) ≤ h.size := by omega
   clear hk hw hc hlk lks hzk zks hmo mos mob hln lns ht h8s tsz htb hwt hhs' hh8 hp6 hs6 hcl hss hcl2 hhs tls
   go_enter Try.func12, Try.ntmps12
   go_wp2_with fail
   refine (awake_c _).mono ?_
   rintro e w1 ⟨rfl, hb⟩
   have X1 := Lib.hid hb
   clear hb
   go_wp2_with fail
   refine (P1 _).mono ?_
   rintro e w2 ⟨rfl, hb⟩
   have X2 := Lib.hid (below_step X1.out hb)
   clear hb X1 P1
   go_wp2_with fail
   refine (descantref13_Chunks.calls _ _ _ _ _ RC2).mono ?_
   rintro e w3 ⟨vc, rfl, hp, hb⟩
   have X3 := Lib.hid (below_step (below_alloc X2.out _) hb)
   have F3 := Lib.hid (blk_below (blk_new w2 _) hb)
   obtain ⟨Ac, cc, rfl⟩ := Kd.R_slice hp
   clear hp hb X2 RC2
   go_wp2_with fail
   refine (descantlaw0_Num.calls _ _ _ rfl).mono ?_
   rintro e w4 ⟨rfl, hq⟩
   have X4 := Lib.hid (below_step X3.out hq.below)
   have F4 := Lib.hid (blk_below F3.out hq.below)
   clear hq X3 F3
   obtain ⟨f0, f1, f2, f3, f4⟩ := five F4.out
   go_wp2_with fail
   refine (descantlaw0_Num.calls _ _ _ rfl).mono ?_
   rintro e w5 ⟨rfl, hq⟩
   have X5 := Lib.hid (below_step X4.out hq.below)
   have F5 := Lib.hid (blk_below F4.out hq.below)
   clear hq X4 F4 f0 f1 f2 f3 f4
   go_wp2_with fail
   have X6 := Lib.hid (below_drew1 X5.out)
   have F6 := Lib.hid (blk_drew F5.out)
   refine start_ (n := 8) (S := fun w' => True) (ds := []) #[false, false, false, false, false, false, false, false] (by kernel_rfl) rfl rfl (trivial) (fun hHeld => ?_)
   refine with_tabW wm10_tab wm10_bits (fun HT_ HW_ => ?_)
   generalize w5.drew = w6 at X6 F6 hHeld ⊢
   clear X5 F5
   have z1 := SZS.out.1
   have qa : 4 + lk.size ≤ 9223372036854775807 := by omega
   have qb : decide (4 + lk.size ≤ 9223372036854775807) = true := decide_eq_true qa
   have qc : (9223372036854775807 < 4 + lk.size) = False := eq_false (Nat.not_lt.2 qa)
   clear z1
   refine pure_ (i := 0) (N := some 65) (v := ?_) (a' := ?_) #[true, false, false, false, false, false, false, false] rfl rfl (any_of HT_.out (by kernel_rfl)) (fun _ _ _ h => h) (Or.inl ⟨by rfl, ?_⟩) ?_ ?_
   rotate_left
   ·intro w'
    go_simp
    with_reducible rfl
   rotate_left
   ·simp only [Act.put, List.setIfInBounds_toArray, List.set_cons_zero, List.set_cons_succ, i64_w, i32_w]
    rfl
   refine pure_ (i := 3) (N := some 68) (v := ?_) (a' := ?_) #[true, false, false, true, false, false, false, false] rfl rfl (any_of HT_.out (by kernel_rfl)) (fun _ _ _ h => h) (Or.inl ⟨by rfl, ?_⟩) ?_ ?_
   rotate_left
   ·intro w'
    go_simp
    with_reducible rfl
   rotate_left
   ·simp only [Act.put, List.setIfInBounds_toArray, List.set_cons_zero, List.set_cons_succ, i64_w, i32_w]
    rfl
   have hks : 4 + lk.size + zk.size ≤ 9223372036854775807 := by have := SZS.out; omega
   refine join_ (σ := Value) 2 #[true, true, true, true, true, true, false, false] (fun v_ => [(66, .string lk), (67, .string ((⟨#[97, 98, 99, 100]⟩ : ByteArray) ++ lk)), (69, v_), (70, .string zk)]) (fun v_ w' => Below w.heap.size w w' ∧ w'.heap[w2.heap.size]? = some (.cells #[.int .i64 c, .int .i64 b, .string h, .string d, .string tl] 45 (0, 0))) ?_ ?_
   rotate_left
   ·intro hCont
    refine two_ (i := 1) (j := 4) (Ni := some 66) (Nj := some 69) #[true, true, false, true, false, false, false, false] #[true, false, false, true, true, false, false, false] rfl rfl rfl rfl (Go.Proofs.YtkngkmemcokbfaaW.PrintLast.two_of HT_.out (by kernel_rfl)) (by decide) (by decide) (fun K hK => ?_) (fun K hK => ?_)
    ·skip
     refine goes_ Try.func26 (by kernel_rfl) rfl #[.int .i64 k, .int .i64 4] (by rfl) rfl rfl (by (try simp only [List.map_toArray, List.map_cons, List.map_nil]); rfl) ?_
     refine (L1 _).mono ?_
     rintro e w7 ⟨rfl, hb⟩
     refine ⟨_, rfl, ?_⟩
     have X7 := Lib.hid (below_step X6.out hb)
     have F7 := Lib.hid (blk_below F6.out hb)
     clear hb X6 F6
     refine hK.out _ _ trivial (fun hHeld => ?_)
     clear hK K
     refine norm_ (a' := ?_) ?_ ?_
     rotate_left
     ·show Act.put _ (some 66) _ = _
      simp only [Act.put, List.setIfInBounds_toArray, List.set_cons_zero, List.set_cons_succ, i64_w, i32_w]
      rfl
     refine pure_ (i := 2) (N := some 67) (v := ?_) (a' := ?_) #[true, true, true, true, false, false, false, false] rfl rfl (any_of HT_.out (by kernel_rfl)) (fun _ _ _ h => h) (Or.inl ⟨by rfl, ?_⟩) ?_ ?_
     rotate_left
     ·intro w'
      go_simp
      with_reducible rfl
     rotate_left
     ·simp only [Act.put, List.setIfInBounds_toArray, List.set_cons_zero, List.set_cons_succ, i64_w, i32_w]
      rfl
     refine one_ (i := 4) (N := some 69) #[true, true, true, true, true, false, false, false] rfl rfl (one_of HT_.out (by kernel_rfl)) (by decide) (fun K hK => ?_)
     refine Kd.R_make_step (Kd.int .u8) (w0 := w) w.heap.size 5 (by rfl) (N := 69) rfl 38 _ _ rfl (k : Int) rfl rfl Try.underlying38 (.int .u8 0) 1 info5 rfl (by decide) (by omega) 0 (ok := fun _ => True) (okp := fun _ => True) rfl (fun _ hk => hk) trivial (by omega) (by omega) X7.out (below_size X7.out) ?_
     intro v4 w8 ho4 hb hg_ hnew_
     rw [Int.toNat_natCast] at ho4
     have X8 := Lib.hid hb
     have R8 := Lib.hid ho4
     have F8 := Lib.hid (blk_grown F7.out hg_ (by simp))
     clear hb ho4 hg_ hnew_ X7 F7
     refine hK.out _ _ trivial (fun hHeld => ?_)
     clear hK K
     refine norm_ (a' := ?_) ?_ ?_
     rotate_left
     ·show Act.put _ (some 69) _ = _
      simp only [Act.put, List.setIfInBounds_toArray, List.set_cons_zero, List.set_cons_succ, i64_w, i32_w]
      rfl
     refine one_ (i := 5) (N := some 70) #[true, true, true, true, true, true, false, false] rfl rfl (one_of HT_.out (by kernel_rfl)) (by decide) (fun K hK => ?_)
     have hcv := own_string (P := Try.prog) Try.underlying38 Try.underlying5 Try.underlying9 (Kd.own_of_R R8.out)
     rw [← ZK.out] at hcv
     refine value_ (w1 := ?_) (v := ?_) (by rfl) rfl ?_ ?_
     rotate_left 2
     ·go_simp
      constructor
      ·rfl
      ·rfl
     clear hcv
     refine hK.out _ _ trivial (fun hHeld => ?_)
     clear hK K
     refine norm_ (a' := ?_) ?_ ?_
     rotate_left
     ·show Act.put _ (some 70) _ = _
      simp only [Act.put, List.setIfInBounds_toArray, List.set_cons_zero, List.set_cons_succ, i64_w, i32_w]
      rfl
     exact norm_ (by simp only [putAll, Act.put, List.setIfInBounds_toArray, List.set_cons_zero, List.set_cons_succ]) (hCont v4 _ ⟨X8.out, F8.out⟩)
    ·skip
     refine Kd.R_make_step (Kd.int .u8) (w0 := w) w.heap.size 5 (by rfl) (N := 69) rfl 38 _ _ rfl (k : Int) rfl rfl Try.underlying38 (.int .u8 0) 1 info5 rfl (by decide) (by omega) 0 (ok := fun _ => True) (okp := fun _ => True) rfl (fun _ hk => hk) trivial (by omega) (by omega) X6.out (below_size X6.out) ?_
     intro v4 w7 ho4 hb hg_ hnew_
     rw [Int.toNat_natCast] at ho4
     have X7 := Lib.hid hb
     have R7 := Lib.hid ho4
     have F7 := Lib.hid (blk_grown F6.out hg_ (by simp))
     clear hb ho4 hg_ hnew_ X6 F6
     refine hK.out _ _ trivial (fun hHeld => ?_)
     clear hK K
     refine norm_ (a' := ?_) ?_ ?_
     rotate_left
     ·show Act.put _ (some 69) _ = _
      simp only [Act.put, List.setIfInBounds_toArray, List.set_cons_zero, List.set_cons_succ, i64_w, i32_w]
      rfl
     refine two_ (i := 1) (j := 5) (Ni := some 66) (Nj := some 70) #[true, true, false, true, true, false, false, false] #[true, false, false, true, true, true, false, false] rfl rfl rfl rfl (Go.Proofs.YtkngkmemcokbfaaW.PrintLast.two_of HT_.out (by kernel_rfl)) (by decide) (by decide) (fun K hK => ?_) (fun K hK => ?_)
     ·skip
      refine goes_ Try.func26 (by kernel_rfl) rfl #[.int .i64 k, .int .i64 4] (by rfl) rfl rfl (by (try simp only [List.map_toArray, List.map_cons, List.map_nil]); rfl) ?_
      refine (L1 _).mono ?_
      rintro e w8 ⟨rfl, hb⟩
      refine ⟨_, rfl, ?_⟩
      have X8 := Lib.hid (below_step X7.out hb)
      have F8 := Lib.hid (blk_below F7.out hb)
      have R8 := Lib.hid (Kd.R_below R7.out hb)
      clear R7
      clear hb X7 F7
      refine hK.out _ _ trivial (fun hHeld => ?_)
      clear hK K
      refine norm_ (a' := ?_) ?_ ?_
      rotate_left
      ·show Act.put _ (some 66) _ = _
       simp only [Act.put, List.setIfInBounds_toArray, List.set_cons_zero, List.set_cons_succ, i64_w, i32_w]
       rfl
      refine pure_ (i := 2) (N := some 67) (v := ?_) (a' := ?_) #[true, true, true, true, true, false, false, false] rfl rfl (any_of HT_.out (by kernel_rfl)) (fun _ _ _ h => h) (Or.inl ⟨by rfl, ?_⟩) ?_ ?_
      rotate_left
      ·intro w'
       go_simp
       with_reducible rfl
      rotate_left
      ·simp only [Act.put, List.setIfInBounds_toArray, List.set_cons_zero, List.set_cons_succ, i64_w, i32_w]
       rfl
      refine one_ (i := 5) (N := some 70) #[true, true, true, true, true, true, false, false] rfl rfl (one_of HT_.out (by kernel_rfl)) (by decide) (fun K hK => ?_)
      have hcv := own_string (P := Try.prog) Try.underlying38 Try.underlying5 Try.underlying9 (Kd.own_of_R R8.out)
      rw [← ZK.out] at hcv
      refine value_ (w1 := ?_) (v := ?_) (by rfl) rfl ?_ ?_
      rotate_left 2
      ·go_simp
       constructor
       ·rfl
       ·rfl
      clear hcv
      refine hK.out _ _ trivial (fun hHeld => ?_)
      clear hK K
      refine norm_ (a' := ?_) ?_ ?_
      rotate_left
      ·show Act.put _ (some 70) _ = _
       simp only [Act.put, List.setIfInBounds_toArray, List.set_cons_zero, List.set_cons_succ, i64_w, i32_w]
       rfl
      exact norm_ (by simp only [putAll, Act.put, List.setIfInBounds_toArray, List.set_cons_zero, List.set_cons_succ]) (hCont v4 _ ⟨X8.out, F8.out⟩)
     ·skip
      have hcv := own_string (P := Try.prog) Try.underlying38 Try.underlying5 Try.underlying9 (Kd.own_of_R R7.out)
      rw [← ZK.out] at hcv
      refine value_ (w1 := ?_) (v := ?_) (by rfl) rfl ?_ ?_
      rotate_left 2
      ·go_simp
       constructor
       ·rfl
       ·rfl
      clear hcv
      refine hK.out _ _ trivial (fun hHeld => ?_)
      clear hK K
      refine norm_ (a' := ?_) ?_ ?_
      rotate_left
      ·show Act.put _ (some 70) _ = _
       simp only [Act.put, List.setIfInBounds_toArray, List.set_cons_zero, List.set_cons_succ, i64_w, i32_w]
       rfl
      refine one_ (i := 1) (N := some 66) #[true, true, false, true, true, true, false, false] rfl rfl (one_of HT_.out (by kernel_rfl)) (by decide) (fun K hK => ?_)
      refine goes_ Try.func26 (by kernel_rfl) rfl #[.int .i64 k, .int .i64 4] (by rfl) rfl rfl (by (try simp only [List.map_toArray, List.map_cons, List.map_nil]); rfl) ?_
      refine (L1 _).mono ?_
      rintro e w8 ⟨rfl, hb⟩
      refine ⟨_, rfl, ?_⟩
      have X8 := Lib.hid (below_step X7.out hb)
      have F8 := Lib.hid (blk_below F7.out hb)
      have R8 := Lib.hid (Kd.R_below R7.out hb)
      clear R7
      clear hb X7 F7
      refine hK.out _ _ trivial (fun hHeld => ?_)
      clear hK K
      refine norm_ (a' := ?_) ?_ ?_
      rotate_left
      ·show Act.put _ (some 66) _ = _
       simp only [Act.put, List.setIfInBounds_toArray, List.set_cons_zero, List.set_cons_succ, i64_w, i32_w]
       rfl
      refine pure_ (i := 2) (N := some 67) (v := ?_) (a' := ?_) #[true, true, true, true, true, true, false, false] rfl rfl (any_of HT_.out (by kernel_rfl)) (fun _ _ _ h => h) (Or.inl ⟨by rfl, ?_⟩) ?_ ?_
      rotate_left
      ·intro w'
       go_simp
       with_reducible rfl
      rotate_left
      ·simp only [Act.put, List.setIfInBounds_toArray, List.set_cons_zero, List.set_cons_succ, i64_w, i32_w]
       rfl
      exact norm_ (by simp only [putAll, Act.put, List.setIfInBounds_toArray, List.set_cons_zero, List.set_cons_succ]) (hCont v4 _ ⟨X8.out, F8.out⟩)
   rintro v4 w9 ⟨hX9, hF9⟩
   have X9 := Lib.hid hX9
   have F9 := Lib.hid hF9
   clear hX9 hF9 X6 F6 L1 qa qb qc
   simp only [putAll, Act.put, List.setIfInBounds_toArray, List.set_cons_zero, List.set_cons_succ]
   have qd : 4 + lk.size + zk.size ≤ 9223372036854775807 := hks
   have qb : decide (4 + lk.size + zk.size ≤ 9223372036854775807) = true := decide_eq_true qd
   have qc : (9223372036854775807 < 4 + lk.size + zk.size) = False := eq_false (Nat.not_lt.2 qd)
   have hmo' : (⟨#[97, 98, 99, 100]⟩ : ByteArray) ++ lk ++ zk = mo := HMO.out.symm
   refine pure_ (i := 6) (N := some 71) (v := ?_) (a' := ?_) #[true, true, true, true, true, true, true, false] rfl rfl (any_of HT_.out (by kernel_rfl)) (fun _ _ _ h => h) (Or.inl ⟨by rfl, ?_⟩) ?_ ?_
   rotate_left
   ·intro w'
    go_simp
    with_reducible rfl
   rotate_left
   ·simp only [Act.put, List.setIfInBounds_toArray, List.set_cons_zero, List.set_cons_succ, i64_w, i32_w]
    rfl
   refine pure_ (i := 7) (N := some 10) (v := ?_) (a' := ?_) #[true, true, true, true, true, true, true, true] rfl rfl (any_of HT_.out (by kernel_rfl)) (fun _ _ _ h => h) (Or.inl ⟨by rfl, ?_⟩) ?_ ?_
   rotate_left
   ·intro w'
    go_simp
    with_reducible rfl
   rotate_left
   ·simp only [Act.put, List.setIfInBounds_toArray, List.set_cons_zero, List.set_cons_succ, i64_w, i32_w]
    rfl
   refine done_ (done_of HT_.out (by kernel_rfl)) ?_
   clear hHeld qb qc qd hmo' hks hkw hkm
   obtain ⟨y1, y2, y3, y4, y5, y6, y7, y8⟩ := SZS.out
   have u0 : (mo.size : Int) = 8 + k := by omega
   have u3 : (8 : Int) ≤ s.size := by omega
   have qa1 : 4 + ln.size ≤ 9223372036854775807 := by omega
   have qa2 : 4 + ln.size + (s.size - 8) ≤ 9223372036854775807 := by omega
   have qa3 : 4 + ln.size + (s.size - 8) + mo.size ≤ 9223372036854775807 := by omega
   have qa4 : 4 + ln.size + (s.extract 8 s.size).size ≤ 9223372036854775807 := by omega
   have qa5 : 4 + ln.size + (s.extract 8 s.size).size + mo.size ≤ 9223372036854775807 := by omega
   have ht' : (⟨#[82, 73, 70, 70]⟩ : ByteArray) ++ ln ++ s.extract 8 s.size ++ mo = t := HT.out.symm
   have qc1 : (9223372036854775807 < 4 + ln.size) = False := eq_false (Nat.not_lt.2 qa1)
   have qc2 : (9223372036854775807 < 4 + ln.size + (s.size - 8)) = False := eq_false (Nat.not_lt.2 qa2)
   have qc3 : (9223372036854775807 < 4 + ln.size + (s.size - 8) + mo.size) = False := eq_false (Nat.not_lt.2 qa3)
   have qc4 : (9223372036854775807 < 4 + ln.size + (s.extract 8 s.size).size) = False := eq_false (Nat.not_lt.2 qa4)
   have qc5 : (9223372036854775807 < 4 + ln.size + (s.extract 8 s.size).size + mo.size) = False := eq_false (Nat.not_lt.2 qa5)
   have o1 : -9223372036854775808 ≤ (s.size : Int) + (8 + (k : Int)) := by omega
   have o2 : (s.size : Int) + (8 + (k : Int)) ≤ 9223372036854775807 := by omega
   have o3 : -9223372036854775808 ≤ (s.size : Int) + (8 + (k : Int)) - 8 := by omega
   have o4 : (s.size : Int) + (8 + (k : Int)) - 8 ≤ 9223372036854775807 := by omega
   have u1 : wrap64 ((s.size : Int) + (8 + (k : Int))) = (s.size : Int) + (8 + (k : Int)) := Num.w64 o1 o2
   have u2 : wrap64 ((s.size : Int) + (8 + (k : Int)) - 8) = (s.size : Int) + (8 + (k : Int)) - 8 := Num.w64 o3 o4
   clear y1 y2 y3 y4 y5 y6 y7 y8 o1 o2 o3 o4
   go_wp2_with fail
   have X10 := Lib.hid (below_drew1 X9.out)
   have F10 := Lib.hid (blk_drew F9.out)
   refine start_ (n := 14) (S := fun w' => True) (ds := []) #[false, false, false, false, false, false, false, false, false, false, false, false, false, false] (by kernel_rfl) rfl rfl (trivial) (fun hHeld => ?_)
   refine with_tabW wm11_tab wm11_bits (fun HT_ HW_ => ?_)
   generalize w9.drew = w10 at X10 F10 hHeld ⊢
   clear X9 F9
   refine pure_ (i := 0) (N := some 72) (v := ?_) (a' := ?_) #[true, false, false, false, false, false, false, false, false, false, false, false, false, false] rfl rfl (any_of HT_.out (by kernel_rfl)) (fun _ _ _ h => h) (Or.inl ⟨by rfl, ?_⟩) ?_ ?_
   rotate_left
   ·intro w'
    go_simp
    with_reducible rfl
   rotate_left
   ·simp only [Act.put, List.setIfInBounds_toArray, List.set_cons_zero, List.set_cons_succ, i64_w, i32_w]
    rfl
   refine pure_ (i := 1) (N := some 73) (v := ?_) (a' := ?_) #[true, true, false, false, false, false, false, false, false, false, false, false, false, false] rfl rfl (any_of HT_.out (by kernel_rfl)) (fun _ _ _ h => h) (Or.inl ⟨by rfl, ?_⟩) ?_ ?_
   rotate_left
   ·intro w'
    go_simp
    with_reducible rfl
   rotate_left
   ·simp only [Act.put, List.setIfInBounds_toArray, List.set_cons_zero, List.set_cons_succ, i64_w, i32_w]
    rfl
   refine pure_ (i := 2) (N := some 74) (v := ?_) (a' := ?_) #[true, true, true, false, false, false, false, false, false, false, false, false, false, false] rfl rfl (any_of HT_.out (by kernel_rfl)) (fun _ _ _ h => h) (Or.inl ⟨by rfl, ?_⟩) ?_ ?_
   rotate_left
   ·intro w'
    go_simp
    with_reducible rfl
   rotate_left
   ·simp only [Act.put, List.setIfInBounds_toArray, List.set_cons_zero, List.set_cons_succ, i64_w, i32_w]
    rfl
   refine pure_ (i := 3) (N := some 75) (v := ?_) (a' := ?_) #[true, true, true, true, false, false, false, false, false, false, false, false, false, false] rfl rfl (any_of HT_.out (by kernel_rfl)) (fun _ _ _ h => h) (Or.inl ⟨by rfl, ?_⟩) ?_ ?_
   rotate_left
   ·intro w'
    go_simp
    with_reducible rfl
   rotate_left
   ·simp only [Act.put, List.setIfInBounds_toArray, List.set_cons_zero, List.set_cons_succ, i64_w, i32_w]
    rfl
   refine pure_ (i := 4) (N := some 76) (v := ?_) (a' := ?_) #[true, true, true, true, true, false, false, false, false, false, false, false, false, false] rfl rfl (any_of HT_.out (by kernel_rfl)) (fun _ _ _ h => h) (Or.inl ⟨by rfl, ?_⟩) ?_ ?_
   rotate_left
   ·intro w'
    go_simp
    with_reducible rfl
   rotate_left
   ·simp only [Act.put, List.setIfInBounds_toArray, List.set_cons_zero, List.set_cons_succ, i64_w, i32_w]
    rfl
   refine pure_ (i := 5) (N := some 77) (v := ?_) (a' := ?_) #[true, true, true, true, true, true, false, false, false, false, false, false, false, false] rfl rfl (any_of HT_.out (by kernel_rfl)) (fun _ _ _ h => h) (Or.inl ⟨by rfl, ?_⟩) ?_ ?_
   rotate_left
   ·intro w'
    go_simp
    with_reducible rfl
   rotate_left
   ·simp only [Act.put, List.setIfInBounds_toArray, List.set_cons_zero, List.set_cons_succ, i64_w, i32_w]
    rfl
   refine pure_ (i := 8) (N := some 80) (v := ?_) (a' := ?_) #[true, true, true, true, true, true, false, false, true, false, false, false, false, false] rfl rfl (any_of HT_.out (by kernel_rfl)) (fun _ _ _ h => h) (Or.inl ⟨by rfl, ?_⟩) ?_ ?_
   rotate_left
   ·intro w'
    go_simp
    with_reducible rfl
   rotate_left
   ·simp only [Act.put, List.setIfInBounds_toArray, List.set_cons_zero, List.set_cons_succ, i64_w, i32_w]
    rfl
   refine pure_ (i := 9) (N := some 81) (v := ?_) (a' := ?_) #[true, true, true, true, true, true, false, false, true, true, false, false, false, false] rfl rfl (any_of HT_.out (by kernel_rfl)) (fun _ _ _ h => h) (Or.inl ⟨by rfl, ?_⟩) ?_ ?_
   rotate_left
   ·intro w'
    go_simp
    with_reducible rfl
   rotate_left
   ·simp only [Act.put, List.setIfInBounds_toArray, List.set_cons_zero, List.set_cons_succ, i64_w, i32_w]
    rfl
   refine pure_ (i := 11) (N := some 83) (v := ?_) (a' := ?_) #[true, true, true, true, true, true, false, false, true, true, false, true, false, false] rfl rfl (any_of HT_.out (by kernel_rfl)) (fun _ _ _ h => h) (Or.inl ⟨by rfl, ?_⟩) ?_ ?_
   rotate_left
   ·intro w'
    go_simp
    with_reducible rfl
   rotate_left
   ·simp only [Act.put, List.setIfInBounds_toArray, List.set_cons_zero, List.set_cons_succ, i64_w, i32_w]
    rfl
   refine one_ (i := 6) (N := some 78) #[true, true, true, true, true, true, true, false, true, true, false, true, false, false] rfl rfl (one_of HT_.out (by kernel_rfl)) (by decide) (fun K hK => ?_)
   refine goes_ Try.func26 (by kernel_rfl) rfl #[.int .i64 (wrap64 ((s.size : Int) + (8 + k) - 8)), .int .i64 4] (by rfl) rfl rfl (by (try simp only [List.map_toArray, List.map_cons, List.map_nil]); rfl) ?_
   refine (descantref1_Low.calls (0 + 6) (wrap64 ((s.size : Int) + (8 + k) - 8)) 4 ln _ (by rw [u2, HLN.out]; exact ref_low (by decide) (by decide))).mono ?_
   rintro e w11 ⟨rfl, hb⟩
   refine ⟨_, rfl, ?_⟩
   have X11 := Lib.hid (below_step X10.out hb)
   have F11 := Lib.hid (blk_below F10.out hb)
   clear hb X10 F10
   refine hK.out _ _ (trivial) (fun hHeld => ?_)
   clear hK K
   refine norm_ (a' := ?_) ?_ ?_
   rotate_left
   ·show Act.put _ (some 78) _ = _
    simp only [Act.put, List.setIfInBounds_toArray, List.set_cons_zero, List.set_cons_succ, i64_w, i32_w]
    rfl
   refine pure_ (i := 7) (N := some 79) (v := ?_) (a' := ?_) #[true, true, true, true, true, true, true, true, true, true, false, true, false, false] rfl rfl (any_of HT_.out (by kernel_rfl)) (fun _ _ _ h => h) (Or.inl ⟨by rfl, ?_⟩) ?_ ?_
   rotate_left
   ·intro w'
    go_simp
    with_reducible rfl
   rotate_left
   ·simp only [Act.put, List.setIfInBounds_toArray, List.set_cons_zero, List.set_cons_succ, i64_w, i32_w]
    rfl
   refine pure_ (i := 10) (N := some 82) (v := ?_) (a' := ?_) #[true, true, true, true, true, true, true, true, true, true, true, true, false, false] rfl rfl (any_of HT_.out (by kernel_rfl)) (fun _ _ _ h => h) (Or.inl ⟨by rfl, ?_⟩) ?_ ?_
   rotate_left
   ·intro w'
    go_simp
    with_reducible rfl
   rotate_left
   ·simp only [Act.put, List.setIfInBounds_toArray, List.set_cons_zero, List.set_cons_succ, i64_w, i32_w]
    rfl
   refine pure_ (i := 12) (N := some 84) (v := ?_) (a' := ?_) #[true, true, true, true, true, true, true, true, true, true, true, true, true, false] rfl rfl (any_of HT_.out (by kernel_rfl)) (fun _ _ _ h => h) (Or.inl ⟨by rfl, ?_⟩) ?_ ?_
   rotate_left
   ·intro w'
    go_simp
    with_reducible rfl
   rotate_left
   ·simp only [Act.put, List.setIfInBounds_toArray, List.set_cons_zero, List.set_cons_succ, i64_w, i32_w]
    rfl
   refine pure_ (i := 13) (N := some 11) (v := ?_) (a' := ?_) #[true, true, true, true, true, true, true, true, true, true, true, true, true, true] rfl rfl (any_of HT_.out (by kernel_rfl)) (fun _ _ _ h => h) (Or.inl ⟨by rfl, ?_⟩) ?_ ?_
   rotate_left
   ·intro w'
    go_simp
    with_reducible rfl
   rotate_left
   ·simp only [Act.put, List.setIfInBounds_toArray, List.set_cons_zero, List.set_cons_succ, i64_w, i32_w]
    rfl
   refine done_ (done_of HT_.out (by kernel_rfl)) ?_
   clear hHeld u0 u1 u2 qa1 qa2 qa3 qa4 qa5 qc1 qc2 qc3 qc4 qc5 ht'
   go_wp2_with fail
   refine (P2 _).mono ?_
   rintro e w12 ⟨rfl, hb⟩
   have X12 := Lib.hid (below_step X11.out hb)
   have F12 := Lib.hid (blk_below F11.out hb)
   clear hb X11 F11 P2
   go_wp2_with fail
   refine (V1 _).mono ?_
   rintro e w13 ⟨rfl, hb⟩
   have X13 := Lib.hid (below_step (below_alloc X12.out _) hb)
   have F13 := Lib.hid (blk_below (blk_alloc F12.out _) hb)
   have G13 := Lib.hid (blk_below (blk_new w12 _) hb)
   clear hb X12 F12 V1
   go_wp2_with fail
   refine (R6 _).mono ?_
   rintro e w14 ⟨rfl, hb⟩
   have X14 := Lib.hid (below_step X13.out hb)
   have F14 := Lib.hid (blk_below F13.out hb)
   have G14 := Lib.hid (blk_below G13.out hb)
   clear hb X13 F13 G13 R6
   obtain ⟨hh1, hh2⟩ := HH.out
   obtain ⟨y1, y2, y3, y4, y5, y6, y7, y8⟩ := SZS.out
   have u1 : (8 : Int) ≤ h.size := by omega
   have u2 : (8 : Int) ≤ h'.size := by omega
   have qa1 : tl.size + mo.size ≤ 9223372036854775807 := by omega
   have qa2 : decide (tl.size + mo.size ≤ 9223372036854775807) = true := decide_eq_true qa1
   have qa3 : (9223372036854775807 < tl.size + mo.size) = False := eq_false (Nat.not_lt.2 qa1)
   have hhi : ((h'.size : Int) == (h.size : Int)) = true := by rw [hh1]; simp
   have hh3 : ((h'.extract 8 h.size).toList == (h.extract 8 h.size).toList) = true := by rw [← hh2, hh1]; simp
   rw [hh1] at hh2
   clear y1 y2 y3 y4 y5 y6 y7 y8
   go_wp2_with fail
   have X15 := Lib.hid (below_drew1 (below_alloc X14.out (.cells #[.int .i64 c6, .int .i64 b6, .string h6, .string d6, .string t6] 45)))
   have F15 := Lib.hid (blk_drew (blk_alloc F14.out (.cells #[.int .i64 c6, .int .i64 b6, .string h6, .string d6, .string t6] 45)))
   have G15 := Lib.hid (blk_drew (blk_alloc G14.out (.cells #[.int .i64 c6, .int .i64 b6, .string h6, .string d6, .string t6] 45)))
   refine start_ (n := 49) (S := fun w' => (w'.cell? ⟨w2.heap.size, 0, none⟩ = some (.int .i64 c) ∧ w'.cell? ⟨w2.heap.size, 1, none⟩ = some (.int .i64 b) ∧ w'.cell? ⟨w2.heap.size, 2, none⟩ = some (.string h) ∧ w'.cell? ⟨w2.heap.size, 3, none⟩ = some (.string d) ∧ w'.cell? ⟨w2.heap.size, 4, none⟩ = some (.string tl)) ∧ (w'.cell? ⟨w12.heap.size, 0, none⟩ = some (.int .i64 c) ∧ w'.cell? ⟨w12.heap.size, 1, none⟩ = some (.int .i64 b) ∧ w'.cell? ⟨w12.heap.size, 2, none⟩ = some (.string h') ∧ w'.cell? ⟨w12.heap.size, 3, none⟩ = some (.string d) ∧ w'.cell? ⟨w12.heap.size, 4, none⟩ = some (.string (tl ++ mo)))) (ds := []) #[false, false, false, false, false, false, false, false, false, false, false, false, false, false, false, false, false, false, false, false, false, false, false, false, false, false, false, false, false, false, false, false, false, false, false, false, false, false, false, false, false, false, false, false, false, false, false, false, false] (by kernel_rfl) rfl rfl (⟨five (blk_drew (blk_alloc F14.out _)), five (blk_drew (blk_alloc G14.out _))⟩) (fun hHeld => ?_)
   refine with_tabW wm14_tab wm14_bits (fun HT_ HW_ => ?_)
   generalize (w14.alloc (.cells #[.int .i64 c6, .int .i64 b6, .string h6, .string d6, .string t6] 45)).drew = w15 at X15 F15 G15 hHeld ⊢
   clear X14 F14 G14
   refine pure_ (i := 0) (N := some 96) (v := ?_) (a' := ?_) #[true, false, false, false, false, false, false, false, false, false, false, false, false, false, false, false, false, false, false, false, false, false, false, false, false, false, false, false, false, false, false, false, false, false, false, false, false, false, false, false, false, false, false, false, false, false, false, false, false] rfl rfl (any_of HT_.out (by kernel_rfl)) (fun _ _ _ h => h) (Or.inl ⟨by rfl, ?_⟩) ?_ ?_
   rotate_left
   ·intro w'
    go_simp
    with_reducible rfl
   rotate_left
   ·simp only [Act.put, List.setIfInBounds_toArray, List.set_cons_zero, List.set_cons_succ, i64_w, i32_w]
    rfl
   refine one_ (i := 1) (N := some 97) #[true, true, false, false, false, false, false, false, false, false, false, false, false, false, false, false, false, false, false, false, false, false, false, false, false, false, false, false, false, false, false, false, false, false, false, false, false, false, false, false, false, false, false, false, false, false, false, false, false] rfl rfl (one_of HT_.out (by kernel_rfl)) (by decide) (fun K hK => ?_)
   refine goes_ Try.func16 (by kernel_rfl) rfl #[.int .i64 0] (by rfl) rfl rfl (by (try simp only [List.map_toArray, List.map_cons, List.map_nil]); rfl) ?_
   refine (descantlaw0_Num.calls _ _ _ rfl).mono ?_
   rintro e w16 ⟨rfl, hb⟩
   refine ⟨_, rfl, ?_⟩
   have X16 := Lib.hid (below_step X15.out hb.below)
   have F16 := Lib.hid (blk_below F15.out hb.below)
   have G16 := Lib.hid (blk_below G15.out hb.below)
   clear hb X15 F15 G15
   refine hK.out _ _ (⟨five F16.out, five G16.out⟩) (fun hHeld => ?_)
   clear hK K
   refine norm_ (a' := ?_) ?_ ?_
   rotate_left
   ·show Act.put _ (some 97) _ = _
    simp only [Act.put, List.setIfInBounds_toArray, List.set_cons_zero, List.set_cons_succ, i64_w, i32_w]
    rfl
   refine pure_ (i := 2) (N := some 98) (v := ?_) (a' := ?_) #[true, true, true, false, false, false, false, false, false, false, false, false, false, false, false, false, false, false, false, false, false, false, false, false, false, false, false, false, false, false, false, false, false, false, false, false, false, false, false, false, false, false, false, false, false, false, false, false, false] rfl rfl (any_of HT_.out (by kernel_rfl)) (fun _ _ _ h => h) (Or.inl ⟨by rfl, ?_⟩) ?_ ?_
   rotate_left
   ·intro w'
    go_simp
    (try simp only [bne_self_eq_false, beq_self_eq_true])
    with_reducible rfl
   rotate_left
   ·simp only [Act.put, List.setIfInBounds_toArray, List.set_cons_zero, List.set_cons_succ, i64_w, i32_w]
    rfl
   refine pure_ (i := 3) (N := some 99) (v := ?_) (a' := ?_) #[true, true, true, true, false, false, false, false, false, false, false, false, false, false, false, false, false, false, false, false, false, false, false, false, false, false, false, false, false, false, false, false, false, false, false, false, false, false, false, false, false, false, false, false, false, false, false, false, false] rfl rfl (any_of HT_.out (by kernel_rfl)) (fun _ _ _ h => h) (Or.inl ⟨by rfl, ?_⟩) ?_ ?_
   rotate_left
   ·intro w'
    go_simp
    with_reducible rfl
   rotate_left
   ·simp only [Act.put, List.setIfInBounds_toArray, List.set_cons_zero, List.set_cons_succ, i64_w, i32_w]
    rfl
   refine pure_ (i := 4) (N := some 100) (v := ?_) (a' := ?_) #[true, true, true, true, true, false, false, false, false, false, false, false, false, false, false, false, false, false, false, false, false, false, false, false, false, false, false, false, false, false, false, false, false, false, false, false, false, false, false, false, false, false, false, false, false, false, false, false, false] rfl rfl (any_of HT_.out (by kernel_rfl)) (fun _ _ _ h => h) (Or.inl ⟨by rfl, ?_⟩) ?_ ?_
   rotate_left
   ·intro w'
    go_simp
    with_reducible rfl
   rotate_left
   ·simp only [Act.put, List.setIfInBounds_toArray, List.set_cons_zero, List.set_cons_succ, i64_w, i32_w]
    rfl
   refine take_ (i := 5) (N := some 101) (v := ?_) (a' := ?_) #[true, true, true, true, true, true, false, false, false, false, false, false, false, false, false, false, false, false, false, false, false, false, false, false, false, false, false, false, false, false, false, false, false, false, false, false, false, false, false, false, false, false, false, false, false, false, false, false, false] rfl rfl (take_ofW HT_.out HW_.out (by kernel_rfl)) (fun _ _ _ h => h) (Or.inl ⟨by rfl, ?_⟩) hHeld ?_ ?_
   rotate_left
   ·rintro w' ⟨⟨s0, s1, s2, s3, s4⟩, ⟨t0, t1, t2, t3, t4⟩⟩
    go_simp
    with_reducible rfl
   rotate_left
   ·simp only [Act.put, List.setIfInBounds_toArray, List.set_cons_zero, List.set_cons_succ, i64_w, i32_w]
    rfl
   refine pure_ (i := 6) (N := some 102) (v := ?_) (a' := ?_) #[true, true, true, true, true, true, true, false, false, false, false, false, false, false, false, false, false, false, false, false, false, false, false, false, false, false, false, false, false, false, false, false, false, false, false, false, false, false, false, false, false, false, false, false, false, false, false, false, false] rfl rfl (any_of HT_.out (by kernel_rfl)) (fun _ _ _ h => h) (Or.inl ⟨by rfl, ?_⟩) ?_ ?_
   rotate_left
   ·intro w'
    go_simp
    with_reducible rfl
   rotate_left
   ·simp only [Act.put, List.setIfInBounds_toArray, List.set_cons_zero, List.set_cons_succ, i64_w, i32_w]
    rfl
   refine take_ (i := 7) (N := some 103) (v := ?_) (a' := ?_) #[true, true, true, true, true, true, true, true, false, false, false, false, false, false, false, false, false, false, false, false, false, false, false, false, false, false, false, false, false, false, false, false, false, false, false, false, false, false, false, false, false, false, false, false, false, false, false, false, false] rfl rfl (take_ofW HT_.out HW_.out (by kernel_rfl)) (fun _ _ _ h => h) (Or.inl ⟨by rfl, ?_⟩) hHeld ?_ ?_
   rotate_left
   ·rintro w' ⟨⟨s0, s1, s2, s3, s4⟩, ⟨t0, t1, t2, t3, t4⟩⟩
    go_simp
    with_reducible rfl
   rotate_left
   ·simp only [Act.put, List.setIfInBounds_toArray, List.set_cons_zero, List.set_cons_succ, i64_w, i32_w]
    rfl
   refine pure_ (i := 8) (N := some 104) (v := ?_) (a' := ?_) #[true, true, true, true, true, true, true, true, true, false, false, false, false, false, false, false, false, false, false, false, false, false, false, false, false, false, false, false, false, false, false, false, false, false, false, false, false, false, false, false, false, false, false, false, false, false, false, false, false] rfl rfl (any_of HT_.out (by kernel_rfl)) (fun _ _ _ h => h) (Or.inl ⟨by rfl, ?_⟩) ?_ ?_
   rotate_left
   ·intro w'
    go_simp
    (try simp only [bne_self_eq_false, beq_self_eq_true])
    with_reducible rfl
   rotate_left
   ·simp only [Act.put, List.setIfInBounds_toArray, List.set_cons_zero, List.set_cons_succ, i64_w, i32_w]
    rfl
   refine pure_ (i := 9) (N := some 105) (v := ?_) (a' := ?_) #[true, true, true, true, true, true, true, true, true, true, false, false, false, false, false, false, false, false, false, false, false, false, false, false, false, false, false, false, false, false, false, false, false, false, false, false, false, false, false, false, false, false, false, false, false, false, false, false, false] rfl rfl (any_of HT_.out (by kernel_rfl)) (fun _ _ _ h => h) (Or.inl ⟨by rfl, ?_⟩) ?_ ?_
   rotate_left
   ·intro w'
    go_simp
    with_reducible rfl
   rotate_left
   ·simp only [Act.put, List.setIfInBounds_toArray, List.set_cons_zero, List.set_cons_succ, i64_w, i32_w]
    rfl
   refine pure_ (i := 10) (N := some 106) (v := ?_) (a' := ?_) #[true, true, true, true, true, true, true, true, true, true, true, false, false, false, false, false, false, false, false, false, false, false, false, false, false, false, false, false, false, false, false, false, false, false, false, false, false, false, false, false, false, false, false, false, false, false, false, false, false] rfl rfl (any_of HT_.out (by kernel_rfl)) (fun _ _ _ h => h) (Or.inl ⟨by rfl, ?_⟩) ?_ ?_
   rotate_left
   ·intro w'
    go_simp
    with_reducible rfl
   rotate_left
   ·simp only [Act.put, List.setIfInBounds_toArray, List.set_cons_zero, List.set_cons_succ, i64_w, i32_w]
    rfl
   refine pure_ (i := 11) (N := some 107) (v := ?_) (a' := ?_) #[true, true, true, true, true, true, true, true, true, true, true, true, false, false, false, false, false, false, false, false, false, false, false, false, false, false, false, false, false, false, false, false, false, false, false, false, false, false, false, false, false, false, false, false, false, false, false, false, false] rfl rfl (any_of HT_.out (by kernel_rfl)) (fun _ _ _ h => h) (Or.inl ⟨by rfl, ?_⟩) ?_ ?_
   rotate_left
   ·intro w'
    go_simp
    with_reducible rfl
   rotate_left
   ·simp only [Act.put, List.setIfInBounds_toArray, List.set_cons_zero, List.set_cons_succ, i64_w, i32_w]
    rfl
   refine take_ (i := 12) (N := some 108) (v := ?_) (a' := ?_) #[true, true, true, true, true, true, true, true, true, true, true, true, true, false, false, false, false, false, false, false, false, false, false, false, false, false, false, false, false, false, false, false, false, false, false, false, false, false, false, false, false, false, false, false, false, false, false, false, false] rfl rfl (take_ofW HT_.out HW_.out (by kernel_rfl)) (fun _ _ _ h => h) (Or.inl ⟨by rfl, ?_⟩) hHeld ?_ ?_
   rotate_left
   ·rintro w' ⟨⟨s0, s1, s2, s3, s4⟩, ⟨t0, t1, t2, t3, t4⟩⟩
    go_simp
    with_reducible rfl
   rotate_left
   ·simp only [Act.put, List.setIfInBounds_toArray, List.set_cons_zero, List.set_cons_succ, i64_w, i32_w]
    rfl
   refine pure_ (i := 13) (N := some 109) (v := ?_) (a' := ?_) #[true, true, true, true, true, true, true, true, true, true, true, true, true, true, false, false, false, false, false, false, false, false, false, false, false, false, false, false, false, false, false, false, false, false, false, false, false, false, false, false, false, false, false, false, false, false, false, false, false] rfl rfl (any_of HT_.out (by kernel_rfl)) (fun _ _ _ h => h) (Or.inl ⟨by rfl, ?_⟩) ?_ ?_
   rotate_left
   ·intro w'
    go_simp
    with_reducible rfl
   rotate_left
   ·simp only [Act.put, List.setIfInBounds_toArray, List.set_cons_zero, List.set_cons_succ, i64_w, i32_w]
    rfl
   refine take_ (i := 14) (N := some 110) (v := ?_) (a' := ?_) #[true, true, true, true, true, true, true, true, true, true, true, true, true, true, true, false, false, false, false, false, false, false, false, false, false, false, false, false, false, false, false, false, false, false, false, false, false, false, false, false, false, false, false, false, false, false, false, false, false] rfl rfl (take_ofW HT_.out HW_.out (by kernel_rfl)) (fun _ _ _ h => h) (Or.inl ⟨by rfl, ?_⟩) hHeld ?_ ?_
   rotate_left
   ·rintro w' ⟨⟨s0, s1, s2, s3, s4⟩, ⟨t0, t1, t2, t3, t4⟩⟩
    go_simp
    with_reducible rfl
   rotate_left
   ·simp only [Act.put, List.setIfInBounds_toArray, List.set_cons_zero, List.set_cons_succ, i64_w, i32_w]
    rfl
   refine pure_ (i := 15) (N := some 111) (v := ?_) (a' := ?_) #[true, true, true, true, true, true, true, true, true, true, true, true, true, true, true, true, false, false, false, false, false, false, false, false, false, false, false, false, false, false, false, false, false, false, false, false, false, false, false, false, false, false, false, false, false, false, false, false, false] rfl rfl (any_of HT_.out (by kernel_rfl)) (fun _ _ _ h => h) (Or.inl ⟨by rfl, ?_⟩) ?_ ?_
   rotate_left
   ·intro w'
    go_simp
    (try simp only [bne_self_eq_false, beq_self_eq_true])
    with_reducible rfl
   rotate_left
   ·simp only [Act.put, List.setIfInBounds_toArray, List.set_cons_zero, List.set_cons_succ, i64_w, i32_w]
    rfl
   refine pure_ (i := 16) (N := some 112) (v := ?_) (a' := ?_) #[true, true, true, true, true, true, true, true, true, true, true, true, true, true, true, true, true, false, false, false, false, false, false, false, false, false, false, false, false, false, false, false, false, false, false, false, false, false, false, false, false, false, false, false, false, false, false, false, false] rfl rfl (any_of HT_.out (by kernel_rfl)) (fun _ _ _ h => h) (Or.inl ⟨by rfl, ?_⟩) ?_ ?_
   rotate_left
   ·intro w'
    go_simp
    with_reducible rfl
   rotate_left
   ·simp only [Act.put, List.setIfInBounds_toArray, List.set_cons_zero, List.set_cons_succ, i64_w, i32_w]
    rfl
   refine pure_ (i := 17) (N := some 113) (v := ?_) (a' := ?_) #[true, true, true, true, true, true, true, true, true, true, true, true, true, true, true, true, true, true, false, false, false, false, false, false, false, false, false, false, false, false, false, false, false, false, false, false, false, false, false, false, false, false, false, false, false, false, false, false, false] rfl rfl (any_of HT_.out (by kernel_rfl)) (fun _ _ _ h => h) (Or.inl ⟨by rfl, ?_⟩) ?_ ?_
   rotate_left
   ·intro w'
    go_simp
    with_reducible rfl
   rotate_left
   ·simp only [Act.put, List.setIfInBounds_toArray, List.set_cons_zero, List.set_cons_succ, i64_w, i32_w]
    rfl
   refine pure_ (i := 18) (N := some 114) (v := ?_) (a' := ?_) #[true, true, true, true, true, true, true, true, true, true, true, true, true, true, true, true, true, true, true, false, false, false, false, false, false, false, false, false, false, false, false, false, false, false, false, false, false, false, false, false, false, false, false, false, false, false, false, false, false] rfl rfl (any_of HT_.out (by kernel_rfl)) (fun _ _ _ h => h) (Or.inl ⟨by rfl, ?_⟩) ?_ ?_
   rotate_left
   ·intro w'
    go_simp
    with_reducible rfl
   rotate_left
   ·simp only [Act.put, List.setIfInBounds_toArray, List.set_cons_zero, List.set_cons_succ, i64_w, i32_w]
    rfl
   refine take_ (i := 19) (N := some 115) (v := ?_) (a' := ?_) #[true, true, true, true, true, true, true, true, true, true, true, true, true, true, true, true, true, true, true, true, false, false, false, false, false, false, false, false, false, false, false, false, false, false, false, false, false, false, false, false, false, false, false, false, false, false, false, false, false] rfl rfl (take_ofW HT_.out HW_.out (by kernel_rfl)) (fun _ _ _ h => h) (Or.inl ⟨by rfl, ?_⟩) hHeld ?_ ?_
   rotate_left
   ·rintro w' ⟨⟨s0, s1, s2, s3, s4⟩, ⟨t0, t1, t2, t3, t4⟩⟩
    go_simp
    with_reducible rfl
   rotate_left
   ·simp only [Act.put, List.setIfInBounds_toArray, List.set_cons_zero, List.set_cons_succ, i64_w, i32_w]
    rfl
   refine pure_ (i := 20) (N := some 116) (v := ?_) (a' := ?_) #[true, true, true, true, true, true, true, true, true, true, true, true, true, true, true, true, true, true, true, true, true, false, false, false, false, false, false, false, false, false, false, false, false, false, false, false, false, false, false, false, false, false, false, false, false, false, false, false, false] rfl rfl (any_of HT_.out (by kernel_rfl)) (fun _ _ _ h => h) (Or.inl ⟨by rfl, ?_⟩) ?_ ?_
   rotate_left
   ·intro w'
    go_simp
    with_reducible rfl
   rotate_left
   ·simp only [Act.put, List.setIfInBounds_toArray, List.set_cons_zero, List.set_cons_succ, i64_w, i32_w]
    rfl
   refine take_ (i := 21) (N := some 117) (v := ?_) (a' := ?_) #[true, true, true, true, true, true, true, true, true, true, true, true, true, true, true, true, true, true, true, true, true, true, false, false, false, false, false, false, false, false, false, false, false, false, false, false, false, false, false, false, false, false, false, false, false, false, false, false, false] rfl rfl (take_ofW HT_.out HW_.out (by kernel_rfl)) (fun _ _ _ h => h) (Or.inl ⟨by rfl, ?_⟩) hHeld ?_ ?_
   rotate_left
   ·rintro w' ⟨⟨s0, s1, s2, s3, s4⟩, ⟨t0, t1, t2, t3, t4⟩⟩
    go_simp
    with_reducible rfl
   rotate_left
   ·simp only [Act.put, List.setIfInBounds_toArray, List.set_cons_zero, List.set_cons_succ, i64_w, i32_w]
    rfl
   refine pure_ (i := 22) (N := some 118) (v := ?_) (a' := ?_) #[true, true, true, true, true, true, true, true, true, true, true, true, true, true, true, true, true, true, true, true, true, true, true, false, false, false, false, false, false, false, false, false, false, false, false, false, false, false, false, false, false, false, false, false, false, false, false, false, false] rfl rfl (any_of HT_.out (by kernel_rfl)) (fun _ _ _ h => h) (Or.inl ⟨by rfl, ?_⟩) ?_ ?_
   rotate_left
   ·intro w'
    go_simp
    with_reducible rfl
   rotate_left
   ·simp only [Act.put, List.setIfInBounds_toArray, List.set_cons_zero, List.set_cons_succ, i64_w, i32_w]
    rfl
   refine pure_ (i := 23) (N := some 119) (v := ?_) (a' := ?_) #[true, true, true, true, true, true, true, true, true, true, true, true, true, true, true, true, true, true, true, true, true, true, true, true, false, false, false, false, false, false, false, false, false, false, false, false, false, false, false, false, false, false, false, false, false, false, false, false, false] rfl rfl (any_of HT_.out (by kernel_rfl)) (fun _ _ _ h => h) (Or.inl ⟨by rfl, ?_⟩) ?_ ?_
   rotate_left
   ·intro w'
    go_simp
    (try simp only [bne_self_eq_false, beq_self_eq_true])
    with_reducible rfl
   rotate_left
   ·simp only [Act.put, List.setIfInBounds_toArray, List.set_cons_zero, List.set_cons_succ, i64_w, i32_w]
    rfl
   refine pure_ (i := 24) (N := some 120) (v := ?_) (a' := ?_) #[true, true, true, true, true, true, true, true, true, true, true, true, true, true, true, true, true, true, true, true, true, true, true, true, true, false, false, false, false, false, false, false, false, false, false, false, false, false, false, false, false, false, false, false, false, false, false, false, false] rfl rfl (any_of HT_.out (by kernel_rfl)) (fun _ _ _ h => h) (Or.inl ⟨by rfl, ?_⟩) ?_ ?_
   rotate_left
   ·intro w'
    go_simp
    (try simp only [bne_self_eq_false, beq_self_eq_true])
    with_reducible rfl
   rotate_left
   ·simp only [Act.put, List.setIfInBounds_toArray, List.set_cons_zero, List.set_cons_succ, i64_w, i32_w]
    rfl
   refine pure_ (i := 25) (N := some 121) (v := ?_) (a' := ?_) #[true, true, true, true, true, true, true, true, true, true, true, true, true, true, true, true, true, true, true, true, true, true, true, true, true, true, false, false, false, false, false, false, false, false, false, false, false, false, false, false, false, false, false, false, false, false, false, false, false] rfl rfl (any_of HT_.out (by kernel_rfl)) (fun _ _ _ h => h) (Or.inl ⟨by rfl, ?_⟩) ?_ ?_
   rotate_left
   ·intro w'
    go_simp
    with_reducible rfl
   rotate_left
   ·simp only [Act.put, List.setIfInBounds_toArray, List.set_cons_zero, List.set_cons_succ, i64_w, i32_w]
    rfl
   refine pure_ (i := 26) (N := some 122) (v := ?_) (a' := ?_) #[true, true, true, true, true, true, true, true, true, true, true, true, true, true, true, true, true, true, true, true, true, true, true, true, true, true, true, false, false, false, false, false, false, false, false, false, false, false, false, false, false, false, false, false, false, false, false, false, false] rfl rfl (any_of HT_.out (by kernel_rfl)) (fun _ _ _ h => h) (Or.inl ⟨by rfl, ?_⟩) ?_ ?_
   rotate_left
   ·intro w'
    go_simp
    with_reducible rfl
   rotate_left
   ·simp only [Act.put, List.setIfInBounds_toArray, List.set_cons_zero, List.set_cons_succ, i64_w, i32_w]
    rfl
   refine pure_ (i := 27) (N := some 123) (v := ?_) (a' := ?_) #[true, true, true, true, true, true, true, true, true, true, true, true, true, true, true, true, true, true, true, true, true, true, true, true, true, true, true, true, false, false, false, false, false, false, false, false, false, false, false, false, false, false, false, false, false, false, false, false, false] rfl rfl (any_of HT_.out (by kernel_rfl)) (fun _ _ _ h => h) (Or.inl ⟨by rfl, ?_⟩) ?_ ?_
   rotate_left
   ·intro w'
    go_simp
    with_reducible rfl
   rotate_left
   ·simp only [Act.put, List.setIfInBounds_toArray, List.set_cons_zero, List.set_cons_succ, i64_w, i32_w]
    rfl
   refine take_ (i := 28) (N := some 124) (v := ?_) (a' := ?_) #[true, true, true, true, true, true, true, true, true, true, true, true, true, true, true, true, true, true, true, true, true, true, true, true, true, true, true, true, true, false, false, false, false, false, false, false, false, false, false, false, false, false, false, false, false, false, false, false, false] rfl rfl (take_ofW HT_.out HW_.out (by kernel_rfl)) (fun _ _ _ h => h) (Or.inl ⟨by rfl, ?_⟩) hHeld ?_ ?_
   rotate_left
   ·rintro w' ⟨⟨s0, s1, s2, s3, s4⟩, ⟨t0, t1, t2, t3, t4⟩⟩
    go_simp
    with_reducible rfl
   rotate_left
   ·simp only [Act.put, List.setIfInBounds_toArray, List.set_cons_zero, List.set_cons_succ, i64_w, i32_w]
    rfl
   refine pure_ (i := 29) (N := some 125) (v := ?_) (a' := ?_) #[true, true, true, true, true, true, true, true, true, true, true, true, true, true, true, true, true, true, true, true, true, true, true, true, true, true, true, true, true, true, false, false, false, false, false, false, false, false, false, false, false, false, false, false, false, false, false, false, false] rfl rfl (any_of HT_.out (by kernel_rfl)) (fun _ _ _ h => h) (Or.inl ⟨by rfl, ?_⟩) ?_ ?_
   rotate_left
   ·intro w'
    go_simp
    with_reducible rfl
   rotate_left
   ·simp only [Act.put, List.setIfInBounds_toArray, List.set_cons_zero, List.set_cons_succ, i64_w, i32_w]
    rfl
   refine pure_ (i := 30) (N := some 126) (v := ?_) (a' := ?_) #[true, true, true, true, true, true, true, true, true, true, true, true, true, true, true, true, true, true, true, true, true, true, true, true, true, true, true, true, true, true, true, false, false, false, false, false, false, false, false, false, false, false, false, false, false, false, false, false, false] rfl rfl (any_of HT_.out (by kernel_rfl)) (fun _ _ _ h => h) (Or.inl ⟨by rfl, ?_⟩) ?_ ?_
   rotate_left
   ·intro w'
    go_simp
    with_reducible rfl
   rotate_left
   ·simp only [Act.put, List.setIfInBounds_toArray, List.set_cons_zero, List.set_cons_succ, i64_w, i32_w]
    rfl
   refine take_ (i := 31) (N := some 127) (v := ?_) (a' := ?_) #[true, true, true, true, true, true, true, true, true, true, true, true, true, true, true, true, true, true, true, true, true, true, true, true, true, true, true, true, true, true, true, true, false, false, false, false, false, false, false, false, false, false, false, false, false, false, false, false, false] rfl rfl (take_ofW HT_.out HW_.out (by kernel_rfl)) (fun _ _ _ h => h) (Or.inl ⟨by rfl, ?_⟩) hHeld ?_ ?_
   rotate_left
   ·rintro w' ⟨⟨s0, s1, s2, s3, s4⟩, ⟨t0, t1, t2, t3, t4⟩⟩
    go_simp
    with_reducible rfl
   rotate_left
   ·simp only [Act.put, List.setIfInBounds_toArray, List.set_cons_zero, List.set_cons_succ, i64_w, i32_w]
    rfl
   refine pure_ (i := 32) (N := some 128) (v := ?_) (a' := ?_) #[true, true, true, true, true, true, true, true, true, true, true, true, true, true, true, true, true, true, true, true, true, true, true, true, true, true, true, true, true, true, true, true, true, false, false, false, false, false, false, false, false, false, false, false, false, false, false, false, false] rfl rfl (any_of HT_.out (by kernel_rfl)) (fun _ _ _ h => h) (Or.inl ⟨by rfl, ?_⟩) ?_ ?_
   rotate_left
   ·intro w'
    go_simp
    with_reducible rfl
   rotate_left
   ·simp only [Act.put, List.setIfInBounds_toArray, List.set_cons_zero, List.set_cons_succ, i64_w, i32_w]
    rfl
   refine pure_ (i := 33) (N := some 129) (v := ?_) (a' := ?_) #[true, true, true, true, true, true, true, true, true, true, true, true, true, true, true, true, true, true, true, true, true, true, true, true, true, true, true, true, true, true, true, true, true, true, false, false, false, false, false, false, false, false, false, false, false, false, false, false, false] rfl rfl (any_of HT_.out (by kernel_rfl)) (fun _ _ _ h => h) (Or.inl ⟨by rfl, ?_⟩) ?_ ?_
   rotate_left
   ·intro w'
    go_simp
    (try simp only [bne_self_eq_false, beq_self_eq_true])
    with_reducible rfl
   rotate_left
   ·simp only [Act.put, List.setIfInBounds_toArray, List.set_cons_zero, List.set_cons_succ, i64_w, i32_w]
    rfl
   refine pure_ (i := 34) (N := some 130) (v := ?_) (a' := ?_) #[true, true, true, true, true, true, true, true, true, true, true, true, true, true, true, true, true, true, true, true, true, true, true, true, true, true, true, true, true, true, true, true, true, true, true, false, false, false, false, false, false, false, false, false, false, false, false, false, false] rfl rfl (any_of HT_.out (by kernel_rfl)) (fun _ _ _ h => h) (Or.inl ⟨by rfl, ?_⟩) ?_ ?_
   rotate_left
   ·intro w'
    go_simp
    with_reducible rfl
   rotate_left
   ·simp only [Act.put, List.setIfInBounds_toArray, List.set_cons_zero, List.set_cons_succ, i64_w, i32_w]
    rfl
   refine pure_ (i := 35) (N := some 131) (v := ?_) (a' := ?_) #[true, true, true, true, true, true, true, true, true, true, true, true, true, true, true, true, true, true, true, true, true, true, true, true, true, true, true, true, true, true, true, true, true, true, true, true, false, false, false, false, false, false, false, false, false, false, false, false, false] rfl rfl (any_of HT_.out (by kernel_rfl)) (fun _ _ _ h => h) (Or.inl ⟨by rfl, ?_⟩) ?_ ?_
   rotate_left
   ·intro w'
    go_simp
    with_reducible rfl
   rotate_left
   ·simp only [Act.put, List.setIfInBounds_toArray, List.set_cons_zero, List.set_cons_succ, i64_w, i32_w]
    rfl
   refine pure_ (i := 36) (N := some 132) (v := ?_) (a' := ?_) #[true, true, true, true, true, true, true, true, true, true, true, true, true, true, true, true, true, true, true, true, true, true, true, true, true, true, true, true, true, true, true, true, true, true, true, true, true, false, false, false, false, false, false, false, false, false, false, false, false] rfl rfl (any_of HT_.out (by kernel_rfl)) (fun _ _ _ h => h) (Or.inl ⟨by rfl, ?_⟩) ?_ ?_
   rotate_left
   ·intro w'
    go_simp
    with_reducible rfl
   rotate_left
   ·simp only [Act.put, List.setIfInBounds_toArray, List.set_cons_zero, List.set_cons_succ, i64_w, i32_w]
    rfl
   refine take_ (i := 37) (N := some 133) (v := ?_) (a' := ?_) #[true, true, true, true, true, true, true, true, true, true, true, true, true, true, true, true, true, true, true, true, true, true, true, true, true, true, true, true, true, true, true, true, true, true, true, true, true, true, false, false, false, false, false, false, false, false, false, false, false] rfl rfl (take_ofW HT_.out HW_.out (by kernel_rfl)) (fun _ _ _ h => h) (Or.inl ⟨by rfl, ?_⟩) hHeld ?_ ?_
   rotate_left
   ·rintro w' ⟨⟨s0, s1, s2, s3, s4⟩, ⟨t0, t1, t2, t3, t4⟩⟩
    go_simp
    with_reducible rfl
   rotate_left
   ·simp only [Act.put, List.setIfInBounds_toArray, List.set_cons_zero, List.set_cons_succ, i64_w, i32_w]
    rfl
   refine pure_ (i := 38) (N := some 134) (v := ?_) (a' := ?_) #[true, true, true, true, true, true, true, true, true, true, true, true, true, true, true, true, true, true, true, true, true, true, true, true, true, true, true, true, true, true, true, true, true, true, true, true, true, true, true, false, false, false, false, false, false, false, false, false, false] rfl rfl (any_of HT_.out (by kernel_rfl)) (fun _ _ _ h => h) (Or.inl ⟨by rfl, ?_⟩) ?_ ?_
   rotate_left
   ·intro w'
    go_simp
    with_reducible rfl
   rotate_left
   ·simp only [Act.put, List.setIfInBounds_toArray, List.set_cons_zero, List.set_cons_succ, i64_w, i32_w]
    rfl
   refine pure_ (i := 39) (N := some 135) (v := ?_) (a' := ?_) #[true, true, true, true, true, true, true, true, true, true, true, true, true, true, true, true, true, true, true, true, true, true, true, true, true, true, true, true, true, true, true, true, true, true, true, true, true, true, true, true, false, false, false, false, false, false, false, false, false] rfl rfl (any_of HT_.out (by kernel_rfl)) (fun _ _ _ h => h) (Or.inl ⟨by rfl, ?_⟩) ?_ ?_
   rotate_left
   ·intro w'
    go_simp
    with_reducible rfl
   rotate_left
   ·simp only [Act.put, List.setIfInBounds_toArray, List.set_cons_zero, List.set_cons_succ, i64_w, i32_w]
    rfl
   refine take_ (i := 40) (N := some 136) (v := ?_) (a' := ?_) #[true, true, true, true, true, true, true, true, true, true, true, true, true, true, true, true, true, true, true, true, true, true, true, true, true, true, true, true, true, true, true, true, true, true, true, true, true, true, true, true, true, false, false, false, false, false, false, false, false] rfl rfl (take_ofW HT_.out HW_.out (by kernel_rfl)) (fun _ _ _ h => h) (Or.inl ⟨by rfl, ?_⟩) hHeld ?_ ?_
   rotate_left
   ·rintro w' ⟨⟨s0, s1, s2, s3, s4⟩, ⟨t0, t1, t2, t3, t4⟩⟩
    go_simp
    with_reducible rfl
   rotate_left
   ·simp only [Act.put, List.setIfInBounds_toArray, List.set_cons_zero, List.set_cons_succ, i64_w, i32_w]
    rfl
   refine pure_ (i := 41) (N := some 137) (v := ?_) (a' := ?_) #[true, true, true, true, true, true, true, true, true, true, true, true, true, true, true, true, true, true, true, true, true, true, true, true, true, true, true, true, true, true, true, true, true, true, true, true, true, true, true, true, true, true, false, false, false, false, false, false, false] rfl rfl (any_of HT_.out (by kernel_rfl)) (fun _ _ _ h => h) (Or.inl ⟨by rfl, ?_⟩) ?_ ?_
   rotate_left
   ·intro w'
    go_simp
    with_reducible rfl
   rotate_left
   ·simp only [Act.put, List.setIfInBounds_toArray, List.set_cons_zero, List.set_cons_succ, i64_w, i32_w]
    rfl
   refine pure_ (i := 42) (N := some 138) (v := ?_) (a' := ?_) #[true, true, true, true, true, true, true, true, true, true, true, true, true, true, true, true, true, true, true, true, true, true, true, true, true, true, true, true, true, true, true, true, true, true, true, true, true, true, true, true, true, true, true, false, false, false, false, false, false] rfl rfl (any_of HT_.out (by kernel_rfl)) (fun _ _ _ h => h) (Or.inl ⟨by rfl, ?_⟩) ?_ ?_
   rotate_left
   ·intro w'
    go_simp
    (try simp only [bne_self_eq_false, beq_self_eq_true])
    with_reducible rfl
   rotate_left
   ·simp only [Act.put, List.setIfInBounds_toArray, List.set_cons_zero, List.set_cons_succ, i64_w, i32_w]
    rfl
   refine pure_ (i := 43) (N := some 139) (v := ?_) (a' := ?_) #[true, true, true, true, true, true, true, true, true, true, true, true, true, true, true, true, true, true, true, true, true, true, true, true, true, true, true, true, true, true, true, true, true, true, true, true, true, true, true, true, true, true, true, true, false, false, false, false, false] rfl rfl (any_of HT_.out (by kernel_rfl)) (fun _ _ _ h => h) (Or.inl ⟨by rfl, ?_⟩) ?_ ?_
   rotate_left
   ·intro w'
    go_simp
    with_reducible rfl
   rotate_left
   ·simp only [Act.put, List.setIfInBounds_toArray, List.set_cons_zero, List.set_cons_succ, i64_w, i32_w]
    rfl
   refine pure_ (i := 44) (N := some 140) (v := ?_) (a' := ?_) #[true, true, true, true, true, true, true, true, true, true, true, true, true, true, true, true, true, true, true, true, true, true, true, true, true, true, true, true, true, true, true, true, true, true, true, true, true, true, true, true, true, true, true, true, true, false, false, false, false] rfl rfl (any_of HT_.out (by kernel_rfl)) (fun _ _ _ h => h) (Or.inl ⟨by rfl, ?_⟩) ?_ ?_
   rotate_left
   ·intro w'
    go_simp
    with_reducible rfl
   rotate_left
   ·simp only [Act.put, List.setIfInBounds_toArray, List.set_cons_zero, List.set_cons_succ, i64_w, i32_w]
    rfl
   refine pure_ (i := 45) (N := some 141) (v := ?_) (a' := ?_) #[true, true, true, true, true, true, true, true, true, true, true, true, true, true, true, true, true, true, true, true, true, true, true, true, true, true, true, true, true, true, true, true, true, true, true, true, true, true, true, true, true, true, true, true, true, true, false, false, false] rfl rfl (any_of HT_.out (by kernel_rfl)) (fun _ _ _ h => h) (Or.inl ⟨by rfl, ?_⟩) ?_ ?_
   rotate_left
   ·intro w'
    go_simp
    with_reducible rfl
   rotate_left
   ·simp only [Act.put, List.setIfInBounds_toArray, List.set_cons_zero, List.set_cons_succ, i64_w, i32_w]
    rfl
   refine pure_ (i := 46) (N := some 142) (v := ?_) (a' := ?_) #[true, true, true, true, true, true, true, true, true, true, true, true, true, true, true, true, true, true, true, true, true, true, true, true, true, true, true, true, true, true, true, true, true, true, true, true, true, true, true, true, true, true, true, true, true, true, true, false, false] rfl rfl (any_of HT_.out (by kernel_rfl)) (fun _ _ _ h => h) (Or.inl ⟨by rfl, ?_⟩) ?_ ?_
   rotate_left
   ·intro w'
    go_simp
    (try simp only [bne_self_eq_false, beq_self_eq_true])
    with_reducible rfl
   rotate_left
   ·simp only [Act.put, List.setIfInBounds_toArray, List.set_cons_zero, List.set_cons_succ, i64_w, i32_w]
    rfl
   refine pure_ (i := 47) (N := some 143) (v := ?_) (a' := ?_) #[true, true, true, true, true, true, true, true, true, true, true, true, true, true, true, true, true, true, true, true, true, true, true, true, true, true, true, true, true, true, true, true, true, true, true, true, true, true, true, true, true, true, true, true, true, true, true, true, false] rfl rfl (any_of HT_.out (by kernel_rfl)) (fun _ _ _ h => h) (Or.inl ⟨by rfl, ?_⟩) ?_ ?_
   rotate_left
   ·intro w'
    go_simp
    with_reducible rfl
   rotate_left
   ·simp only [Act.put, List.setIfInBounds_toArray, List.set_cons_zero, List.set_cons_succ, i64_w, i32_w]
    rfl
   refine pure_ (i := 48) (N := some 4) (v := ?_) (a' := ?_) #[true, true, true, true, true, true, true, true, true, true, true, true, true, true, true, true, true, true, true, true, true, true, true, true, true, true, true, true, true, true, true, true, true, true, true, true, true, true, true, true, true, true, true, true, true, true, true, true, true] rfl rfl (any_of HT_.out (by kernel_rfl)) (fun _ _ _ h => h) (Or.inl ⟨by rfl, ?_⟩) ?_ ?_
   rotate_left
   ·intro w'
    go_simp
    with_reducible rfl
   rotate_left
   ·simp only [Act.put, List.setIfInBounds_toArray, List.set_cons_zero, List.set_cons_succ, i64_w, i32_w]
    rfl
   refine done_ (done_of HT_.out (by kernel_rfl)) ?_
   go_wp2_with fail
   go_ret
   exact ⟨rfl, X16.out⟩
  ·have hsm2 : 4056 < s.size ∨ s.size ≤ 4056 ∧ 64 ≤ cs.length := by omega
   have hhx : (12 : Int) ≤ h.size := by omega
   clear hw hc hsm hhs hcl hss
   rcases hsm2 with h1 | ⟨h1, h2⟩
   all_goals
    have h1i : 4056 < (s.size : Int) ∨ (s.size : Int) ≤ 4056 := by omega
    first | have h1j : 4056 < (s.size : Int) := (by omega) | (have h1j : ¬ 4056 < (s.size : Int) := (by omega); have h2j : (64 : Int) ≤ cs.length := (by omega))
    clear h1i
    go_enter Try.func12, Try.ntmps12
    go_wp2_with fail
    refine (awake_c _).mono ?_
    rintro e w1 ⟨rfl, hb⟩
    have X1 := Lib.hid hb
    clear hb
    go_wp2_with fail
    refine (P1 _).mono ?_
    rintro e w2 ⟨rfl, hb⟩
    have X2 := Lib.hid (below_step X1.out hb)
    clear hb X1 P1
    go_wp2_with fail
    refine (descantref13_Chunks.calls _ _ _ _ _ RC2).mono ?_
    rintro e w3 ⟨vc, rfl, hp, hb⟩
    have X3 := Lib.hid (below_step (below_alloc X2.out _) hb)
    have F3 := Lib.hid (blk_below (blk_new w2 _) hb)
    obtain ⟨Ac, cc, rfl⟩ := Kd.R_slice hp
    clear hp hb X2 RC2
    go_wp2_with fail
    refine (descantlaw0_Num.calls _ _ _ rfl).mono ?_
    rintro e w4 ⟨rfl, hq⟩
    have X4 := Lib.hid (below_step X3.out hq.below)
    have F4 := Lib.hid (blk_below F3.out hq.below)
    clear hq X3 F3
    obtain ⟨f0, f1, f2, f3, f4⟩ := five F4.out
    go_wp2_with fail
    refine (descantlaw0_Num.calls _ _ _ rfl).mono ?_
    rintro e w5 ⟨rfl, hq⟩
    have X5 := Lib.hid (below_step X4.out hq.below)
    clear hq X4 F4 f0 f1 f2 f3 f4
    go_wp2_with fail
    refine (descantlaw0_Num.calls _ _ _ rfl).mono ?_
    rintro e w6 ⟨rfl, hq⟩
    have X6 := Lib.hid (below_step X5.out hq.below)
    clear hq X5
    go_wp2_with fail
    go_ret
    exact ⟨rfl, X6.out⟩
end Go.Proofs.Ytkngkmemcokbfaa.PWv
