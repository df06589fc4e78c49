/- Layer 20, RiffForms: the walk. -/
import Derived.Test.YtkngkmemcokbfaaRiffForms0
import Derived.Test.YtkngkmemcokbfaaBytesOwn
import Derived.Test.YtkngkmemcokbfaaRiffCut
import Derived.Test.YtkngkmemcokbfaaPAllx8
import Derived.Test.YtkngkmemcokbfaaPAllx6
import Derived.Outline
import Derived.Lib.AtoiErrMem
namespace Go.Proofs.Ytkngkmemcokbfaa.PAll
open Go Go.RowKit Go.Proofs.YtkngkmemcokbfaaW.PrintWords Go.Proofs.YtkngkmemcokbfaaW.PrintMore Go.Proofs.YtkngkmemcokbfaaW.PrintLast
set_option linter.unusedVariables false
set_option linter.unusedSimpArgs false
theorem lit14 (i k : Nat) (hi : i < 14) (hk : rd places14 (i : Int) = k) : ∀ h, ((#[.int .i64 0, .int .i64 3, .int .i64 4, .int .i64 5, .int .i64 7, .int .i64 8, .int .i64 11, .int .i64 16, .int .i64 17, .int .i64 19, .int .i64 40, .int .i64 43, .int .i64 52, .int .i64 55] : Array Value))[i]'h = .int .i64 k := by
  have h : ∀ i : Fin 14, (#[.int .i64 0, .int .i64 3, .int .i64 4, .int .i64 5, .int .i64 7, .int .i64 8, .int .i64 11, .int .i64 16, .int .i64 17, .int .i64 19, .int .i64 40, .int .i64 43, .int .i64 52, .int .i64 55] : Array Value)[i.val]'(by exact i.isLt) = .int .i64 (rd places14 (i.val : Int)) := by intro i; match i with | ⟨0, _⟩ => rfl | ⟨1, _⟩ => rfl | ⟨2, _⟩ => rfl | ⟨3, _⟩ => rfl | ⟨4, _⟩ => rfl | ⟨5, _⟩ => rfl | ⟨6, _⟩ => rfl | ⟨7, _⟩ => rfl | ⟨8, _⟩ => rfl | ⟨9, _⟩ => rfl | ⟨10, _⟩ => rfl | ⟨11, _⟩ => rfl | ⟨12, _⟩ => rfl | ⟨13, _⟩ => rfl
  intro h2
  rw [← hk]
  exact h ⟨i, hi⟩
set_option maxHeartbeats 16000000 in
theorem forms_calls (which x : Int) (w : World) (hwh : (Lit.int .i64 which).wf = true) (hx : (Lit.int .i64 x).wf = true) :
    Calls Try.prog 5 #[.int .i64 which, .int .i64 x] w fun e w' => e = .returned (.bool true) ∧ Below w.heap.size w w' := by
  obtain ⟨i, hi⟩ : ∃ i : Nat, IntKind.u64.wrap which % 14 = i := ⟨(IntKind.u64.wrap which % 14).toNat, by omega⟩
  have hi14 : i < 14 := by omega
  have hut : (IntKind.u64.wrap which).tmod 14 = i := by
    have h1 : 0 ≤ IntKind.u64.wrap which := by rw [IntKind.wrap_u64]; omega
    rw [Int.tmod_eq_emod_of_nonneg h1, hi]
  have hun : 0 ≤ IntKind.u64.wrap x := by rw [IntKind.wrap_u64]; omega
  obtain ⟨n, hn⟩ : ∃ n : Nat, IntKind.u64.wrap x % 60 = n := ⟨(IntKind.u64.wrap x % 60).toNat, by omega⟩
  have hn60 : n < 60 := by omega
  have hnt : (IntKind.u64.wrap x).tmod 60 = n := by rw [Int.tmod_eq_emod_of_nonneg hun, hn]
  have hd : Go.bits .and .i64 x 1023 = x % 1024 := Num.and_mask _ 1023 10 (by omega) (by rfl)
  obtain ⟨d, hd2⟩ : ∃ d : Nat, x % 1024 = d := ⟨(x % 1024).toNat, by omega⟩
  have hd3 : d < 1024 := by omega
  rw [hd2] at hd
  have hm : Go.bits .and .i64 x 63 = x % 64 := Num.and_mask _ 63 6 (by omega) (by rfl)
  obtain ⟨m, hm2⟩ : ∃ m : Nat, x % 64 = m := ⟨(x % 64).toNat, by omega⟩
  have hm3 : m < 64 := by omega
  rw [hm2] at hm
  clear hd2 hm2 hn hi hun
  obtain ⟨k, hk, hk60, hkc, hkn⟩ := place i hi14
  have HKN := Lib.hid hkn
  have HKC := Lib.hid hkc
  have HK := Lib.hid hk
  clear hkn hkc hk
  obtain ⟨xx, hxx⟩ := ref60
  have RX := Lib.hid hxx
  clear hxx
  go_enter Try.func5, Try.ntmps5
  go_wp2_with fail
  refine (descantlaw20_awake.calls (0 + 200) true _ (awake20 0)).mono ?_
  rintro e w1 ⟨rfl, hb⟩
  have B1 := Lib.hid hb
  clear hb
  go_wp2_with fail
  refine (descantlaw20_wav.calls 200 1 8 _ S60 _ wav60).mono ?_
  rintro e w2 ⟨rfl, hb⟩
  have B2 := Lib.hid (below_step B1.out hb)
  clear hb B1
  obtain ⟨s, hs⟩ : ∃ s, s = S60 := ⟨_, rfl⟩
  have hsz : s.size = 60 := by rw [hs]; rfl
  have kb := fun W => print_bytes (P := Try.prog) 9 38 5 Try.underlying9 Try.underlying38 Try.underlying5 s W
  rw [← hs]
  have HS := Lib.hid hs
  clear hs
  have hl14 := lit14 i k hi14 HK.out
  have bb := BB.conv w2 s
  have hbl : (bytesOf s).length = 60 := by rw [bytesOf_length, hsz]
  have bbk := (bb.below (Below.refl _ _)).cell (j := k) (by omega)
  have bfk := bb.frozen (j := k) (by omega)
  have BB1 := Lib.hid bb
  have BL := Lib.hid hbl
  obtain ⟨ov, hov⟩ : ∃ ov, ov = (bytesOf s).getD k 0 := ⟨_, rfl⟩
  rw [← hov] at bbk
  have OV := Lib.hid hov
  have hbs : w2.heap.size < (Lib.bytesWorld w2 5 s).heap.size := by have := bb; obtain ⟨c, f, h1, _⟩ := this; exact (Array.getElem?_eq_some_iff.1 h1).1
  have hnv := xor_range k hk60 m hm3
  have hnv1 : (bytesOf s).getD k 0 = (bytesOf S60).getD k 0 := by rw [HS.out]
  obtain ⟨nv, hnvq⟩ : ∃ nv, nv = Go.bits .xor .u8 ov (1 + (m : Int)) := ⟨_, rfl⟩
  have NV := Lib.hid hnvq
  have hnvr : Hid (0 ≤ nv ∧ nv ≤ 255) := Lib.hid (by rw [hnvq, hov, hnv1]; exact hnv)
  have hxn : Go.bits .xor .u8 ov (1 + (m : Int)) = nv := hnvq.symm
  have F1 : ∀ z : ByteArray, z.size ≤ 140737488351232 → chunksOf z = none → riff_Chunks.f (0 + 160) z = some ([], 2000) := fun z hz h => by rw [chunks_prog 0 z hz, h]; rfl
  have F2 : Hid (∀ Z : ByteArray, 1 ≤ Z.size → Z.size ≤ 2000 → riff_Chunks.f (0 + 160) (s ++ Z) = some ([], 2000)) := Lib.hid (fun Z h1 h2 => F1 _ (by rw [ByteArray.size_append, hsz]; omega) (by rw [HS.out]; exact more_none Z h1))
  have F3 : Hid (riff_Chunks.f (0 + 160) (s.extract 0 n) = some ([], 2000)) := Lib.hid (F1 _ (by rw [ByteArray.size_extract]; omega) (by rw [HS.out]; exact cut_none n hn60))
  have F4 : Hid (∀ Z : ByteArray, 4096 < Z.size → Z.size ≤ 6000 → riff_Chunks.f (0 + 160) Z = some ([], 2000)) := Lib.hid (fun Z h1 h2 => F1 _ (by omega) (big_none Z h1))
  have F5 : Hid (descantref13_Chunks.f 200 s = some (xx, 0)) := Lib.hid (by rw [HS.out]; exact RX.out)
  clear bb hbl hov hnv hnv1 hnvq RX
  by_cases h16 : k < 16
  · have G1 : Hid (riff_Chunks.f (0 + 160) (strOfNums ((bytesOf s).set k nv)) = some ([], 2000)) := Lib.hid (F1 _ (by rw [nums_size, List.length_set, bytesOf_length, hsz]; decide) (none_of (by rw [NV.out, OV.out, HS.out]; exact HKN.out h16 m hm3)))
    have hi16 : (k : Int) < 16 := by omega
    have hyl : ((bytesOf s).set k nv).length = 60 := by rw [List.length_set]; exact BL.out
    have hset := BB1.out.set (j := k) (by rw [BL.out]; exact hk60) nv
    obtain ⟨ys, hys⟩ : ∃ ys, ys = (bytesOf s).set k nv := ⟨_, rfl⟩
    rw [← hys] at G1 hyl hset
    have cvA : ∀ W, Below ((Lib.bytesWorld w2 5 s).setCell ⟨w2.heap.size, k, none⟩ (.int .u8 nv)).heap.size ((Lib.bytesWorld w2 5 s).setCell ⟨w2.heap.size, k, none⟩ (.int .u8 nv)) W → (Go.convert 38 9 (.slice (some ⟨w2.heap.size, 0, none⟩) 60 (grownCap w2 60 0 5))).run Try.prog W = .ok (.string (strOfNums ys)) W := fun W hW => by
      have h1 := (hset.below hW).reads (by omega)
      rw [hyl] at h1
      exact Kd.C_string (P := Try.prog) Try.underlying38 Try.underlying5 Try.underlying9 h1
    have cv := cvA _ ((Below.refl _ _).alloc (Nat.le_refl _) (.cells #[.int .i64 0, .int .i64 3, .int .i64 4, .int .i64 5, .int .i64 7, .int .i64 8, .int .i64 11, .int .i64 16, .int .i64 17, .int .i64 19, .int .i64 40, .int .i64 43, .int .i64 52, .int .i64 55] 3))
    have BW := Lib.hid (below_step B2.out ((below_set (Lib.bytesWorld_below w2 5 s) (Nat.le_refl _) : Below w2.heap.size w2 ((Lib.bytesWorld w2 5 s).setCell ⟨w2.heap.size, k, none⟩ (.int .u8 nv))).alloc (by simp; exact Nat.le_of_lt hbs) (.cells #[.int .i64 0, .int .i64 3, .int .i64 4, .int .i64 5, .int .i64 7, .int .i64 8, .int .i64 11, .int .i64 16, .int .i64 17, .int .i64 19, .int .i64 40, .int .i64 43, .int .i64 52, .int .i64 55] 3)))
    clear hset hys cvA F1
    go_wp2_with fail
    refine (riff_Chunks.calls _ _ _ _ _ G1.out).mono ?_
    rintro e w3 ⟨vc, rfl, hp, hb⟩
    have B3 := Lib.hid (below_step BW.out hb)
    clear hp hb BW kb bbk bfk hl14 cv hbs hut
    try clear hxn
    go_wp2_with (first | ((with_reducible refine gate_dst (N := 77) rfl ?_); refine Kd.R_make (Kd.int .u8) _ 5 rfl (N := 77) rfl 38 _ _ rfl (1 + (d : Int)) rfl rfl Try.underlying38 (.int .u8 0) 1 info5 rfl (by decide) (by omega) 0 (ok := fun _ => True) (okp := fun _ => True) rfl (fun _ hk => hk) trivial (by omega) (by omega) (Below.refl _ _) (Nat.le_refl _) ?_; intro v4 w4 ho4 hb hg_ hnew_; clear hg_ hnew_; have B4 := Lib.hid (below_step B3.out hb); have hcv4 := own_string (P := Try.prog) Try.underlying38 Try.underlying5 Try.underlying9 (Kd.own_of_R ho4); obtain ⟨Z, hZ⟩ : ∃ Z, Z = strOfNums (List.replicate (1 + (d : Int)).toNat 0) := ⟨_, rfl⟩; rw [← hZ] at hcv4; have hzs : Z.size = 1 + d := (by rw [hZ, nums_size, List.length_replicate]; omega); have F2b := Lib.hid (F2.out Z (by omega) (by omega)); have hq1 : 60 + Z.size ≤ 9223372036854775807 := (by omega); have hq2 : decide (60 + Z.size ≤ 9223372036854775807) = true := decide_eq_true hq1; have hq3 : (9223372036854775807 < 60 + Z.size) = False := eq_false (Nat.not_lt.2 hq1); clear hzs hZ hb B3 ho4))
    refine (riff_Chunks.calls _ _ _ _ _ F2b.out).mono ?_
    rintro e w5 ⟨vd, rfl, hp, hb⟩
    have B5 := Lib.hid (below_step B4.out hb)
    clear hp hb B4 hcv4 hq1 hq2 hq3 F2b
    have hn0 : (n : Int) ≤ 60 := by omega
    go_wp2_with fail
    refine (riff_Chunks.calls _ _ _ _ _ F3.out).mono ?_
    rintro e w6 ⟨vg, rfl, hp, hb⟩
    have B6 := Lib.hid (below_step B5.out hb)
    clear hp hb B5 F3
    go_wp2_with (first | ((with_reducible refine gate_dst (N := 99) rfl ?_); refine Kd.R_make (Kd.int .u8) _ 5 rfl (N := 99) rfl 38 _ _ rfl (4096 + (1 + (d : Int))) rfl rfl Try.underlying38 (.int .u8 0) 1 info5 rfl (by decide) (by omega) 0 (ok := fun _ => True) (okp := fun _ => True) rfl (fun _ hk => hk) trivial (by omega) (by omega) (Below.refl _ _) (Nat.le_refl _) ?_; intro v7 w7 ho4 hb hg_ hnew_; clear hg_ hnew_; have B7 := Lib.hid (below_step B6.out hb); have hcv4 := own_string (P := Try.prog) Try.underlying38 Try.underlying5 Try.underlying9 (Kd.own_of_R ho4); obtain ⟨Y, hY⟩ : ∃ Y, Y = strOfNums (List.replicate (4096 + (1 + (d : Int))).toNat 0) := ⟨_, rfl⟩; rw [← hY] at hcv4; have hys : Y.size = 4097 + d := (by rw [hY, nums_size, List.length_replicate]; omega); have F4b := Lib.hid (F4.out Y (by omega) (by omega)); clear hys hY hb B6 ho4))
    refine (riff_Chunks.calls _ _ _ _ _ F4b.out).mono ?_
    rintro e w8 ⟨vh, rfl, hp, hb⟩
    have B8 := Lib.hid (below_step B7.out hb)
    clear hp hb B7 hcv4 F4b
    go_wp2_with fail
    refine (descantref13_Chunks.calls 200 s xx 0 _ F5.out).mono ?_
    rintro e w9 ⟨vi, rfl, hp, hb⟩
    have B9 := Lib.hid (below_step B8.out hb)
    clear hp hb B8 F5
    go_wp2_with fail
    refine (descantlaw0_Num.calls _ _ _ rfl).mono ?_
    rintro e w10 ⟨rfl, hq⟩
    have B10 := Lib.hid (below_step B9.out hq.below)
    clear hq B9
    go_wp2_with fail
    refine (descantlaw0_Num.calls _ _ _ rfl).mono ?_
    rintro e w11 ⟨rfl, hq⟩
    have B11 := Lib.hid (below_step B10.out hq.below)
    clear hq B10
    go_wp2_with fail
    refine (descantlaw0_Num.calls _ _ _ rfl).mono ?_
    rintro e w12 ⟨rfl, hq⟩
    have B12 := Lib.hid (below_step B11.out hq.below)
    clear hq B11
    go_wp2_with fail
    refine (descantlaw0_Num.calls _ _ _ rfl).mono ?_
    rintro e w13 ⟨rfl, hq⟩
    have B13 := Lib.hid (below_step B12.out hq.below)
    clear hq B12
    go_wp2_with fail
    go_ret
    exact ⟨rfl, B13.out⟩
  · have h16i : (16 : Int) ≤ k := by omega
    have hk60i : (k : Int) < 60 := by omega
    have hks : k < s.size := by omega
    obtain ⟨nx, hnx⟩ : ∃ nx, nx = (((s[k]'hks).toNat : Int) + (1 + (m : Int))) % 256 := ⟨_, rfl⟩
    have hyl : (((bytesOf s).set k nv).set k nx).length = 60 := by rw [List.length_set, List.length_set]; exact BL.out
    have hset := (BB1.out.set (j := k) (by rw [BL.out]; exact hk60) nv).set (j := k) (by rw [List.length_set, BL.out]; exact hk60) nx
    obtain ⟨ys, hys⟩ : ∃ ys, ys = ((bytesOf s).set k nv).set k nx := ⟨_, rfl⟩
    rw [← hys] at hyl hset
    obtain ⟨L, e0, hG, he0⟩ : ∃ L e0, riff_Chunks.f (0 + 160) (strOfNums ys) = some (L, e0) ∧ (e0 = 0 ∨ e0 = 2000) := by
      rw [chunks_prog 0 _ (by rw [nums_size]; omega)]
      cases chunksOf (strOfNums ys) with
      | none => exact ⟨_, _, rfl, .inr rfl⟩
      | some cs => exact ⟨_, _, rfl, .inl rfl⟩
    have G1 := Lib.hid hG
    have cvA : ∀ W, Below (((Lib.bytesWorld w2 5 s).setCell ⟨w2.heap.size, k, none⟩ (.int .u8 nv)).setCell ⟨w2.heap.size, k, none⟩ (.int .u8 nx)).heap.size (((Lib.bytesWorld w2 5 s).setCell ⟨w2.heap.size, k, none⟩ (.int .u8 nv)).setCell ⟨w2.heap.size, k, none⟩ (.int .u8 nx)) W → (Go.convert 38 9 (.slice (some ⟨w2.heap.size, 0, none⟩) 60 (grownCap w2 60 0 5))).run Try.prog W = .ok (.string (strOfNums ys)) W := fun W hW => by
      have h1 := (hset.below hW).reads (by omega)
      rw [hyl] at h1
      exact Kd.C_string (P := Try.prog) Try.underlying38 Try.underlying5 Try.underlying9 h1
    have cv := cvA _ ((Below.refl _ _).alloc (Nat.le_refl _) (.cells #[.int .i64 0, .int .i64 3, .int .i64 4, .int .i64 5, .int .i64 7, .int .i64 8, .int .i64 11, .int .i64 16, .int .i64 17, .int .i64 19, .int .i64 40, .int .i64 43, .int .i64 52, .int .i64 55] 3))
    have BW := Lib.hid (below_step B2.out ((below_set (below_set (Lib.bytesWorld_below w2 5 s) (Nat.le_refl _)) (Nat.le_refl _) : Below w2.heap.size w2 (((Lib.bytesWorld w2 5 s).setCell ⟨w2.heap.size, k, none⟩ (.int .u8 nv)).setCell ⟨w2.heap.size, k, none⟩ (.int .u8 nx))).alloc (by simp; exact Nat.le_of_lt hbs) (.cells #[.int .i64 0, .int .i64 3, .int .i64 4, .int .i64 5, .int .i64 7, .int .i64 8, .int .i64 11, .int .i64 16, .int .i64 17, .int .i64 19, .int .i64 40, .int .i64 43, .int .i64 52, .int .i64 55] 3)))
    rw [hnx] at cv BW
    clear hset hys cvA F1 hnx hG
    rcases he0 with rfl | rfl <;> rcases (show k < 20 ∨ 40 ≤ k by have := HKC.out; omega) with hk2 | hk2
    all_goals
      first | have hk20 : (k : Int) < 20 := (by omega) | (have hk20 : ((k : Int) < 20) = False := eq_false (by omega); have hk20b : decide ((k : Int) < 20) = false := decide_eq_false (by omega); have hk40 : (40 : Int) ≤ k := (by omega))
      go_wp2_with fail
      refine (riff_Chunks.calls _ _ _ _ _ G1.out).mono ?_
      rintro e w3 ⟨vc, rfl, hp, hb⟩
      have B3 := Lib.hid (below_step BW.out hb)
      clear hp hb BW kb bbk bfk hl14 cv hbs hut
      try clear hxn
      go_wp2_with (first | ((with_reducible refine gate_dst (N := 77) rfl ?_); refine Kd.R_make (Kd.int .u8) _ 5 rfl (N := 77) rfl 38 _ _ rfl (1 + (d : Int)) rfl rfl Try.underlying38 (.int .u8 0) 1 info5 rfl (by decide) (by omega) 0 (ok := fun _ => True) (okp := fun _ => True) rfl (fun _ hk => hk) trivial (by omega) (by omega) (Below.refl _ _) (Nat.le_refl _) ?_; intro v4 w4 ho4 hb hg_ hnew_; clear hg_ hnew_; have B4 := Lib.hid (below_step B3.out hb); have hcv4 := own_string (P := Try.prog) Try.underlying38 Try.underlying5 Try.underlying9 (Kd.own_of_R ho4); obtain ⟨Z, hZ⟩ : ∃ Z, Z = strOfNums (List.replicate (1 + (d : Int)).toNat 0) := ⟨_, rfl⟩; rw [← hZ] at hcv4; have hzs : Z.size = 1 + d := (by rw [hZ, nums_size, List.length_replicate]; omega); have F2b := Lib.hid (F2.out Z (by omega) (by omega)); have hq1 : 60 + Z.size ≤ 9223372036854775807 := (by omega); have hq2 : decide (60 + Z.size ≤ 9223372036854775807) = true := decide_eq_true hq1; have hq3 : (9223372036854775807 < 60 + Z.size) = False := eq_false (Nat.not_lt.2 hq1); clear hzs hZ hb B3 ho4))
      refine (riff_Chunks.calls _ _ _ _ _ F2b.out).mono ?_
      rintro e w5 ⟨vd, rfl, hp, hb⟩
      have B5 := Lib.hid (below_step B4.out hb)
      clear hp hb B4 hcv4 hq1 hq2 hq3 F2b
      have hn0 : (n : Int) ≤ 60 := by omega
      go_wp2_with fail
      refine (riff_Chunks.calls _ _ _ _ _ F3.out).mono ?_
      rintro e w6 ⟨vg, rfl, hp, hb⟩
      have B6 := Lib.hid (below_step B5.out hb)
      clear hp hb B5 F3
      go_wp2_with (first | ((with_reducible refine gate_dst (N := 99) rfl ?_); refine Kd.R_make (Kd.int .u8) _ 5 rfl (N := 99) rfl 38 _ _ rfl (4096 + (1 + (d : Int))) rfl rfl Try.underlying38 (.int .u8 0) 1 info5 rfl (by decide) (by omega) 0 (ok := fun _ => True) (okp := fun _ => True) rfl (fun _ hk => hk) trivial (by omega) (by omega) (Below.refl _ _) (Nat.le_refl _) ?_; intro v7 w7 ho4 hb hg_ hnew_; clear hg_ hnew_; have B7 := Lib.hid (below_step B6.out hb); have hcv4 := own_string (P := Try.prog) Try.underlying38 Try.underlying5 Try.underlying9 (Kd.own_of_R ho4); obtain ⟨Y, hY⟩ : ∃ Y, Y = strOfNums (List.replicate (4096 + (1 + (d : Int))).toNat 0) := ⟨_, rfl⟩; rw [← hY] at hcv4; have hys : Y.size = 4097 + d := (by rw [hY, nums_size, List.length_replicate]; omega); have F4b := Lib.hid (F4.out Y (by omega) (by omega)); clear hys hY hb B6 ho4))
      refine (riff_Chunks.calls _ _ _ _ _ F4b.out).mono ?_
      rintro e w8 ⟨vh, rfl, hp, hb⟩
      have B8 := Lib.hid (below_step B7.out hb)
      clear hp hb B7 hcv4 F4b
      go_wp2_with fail
      refine (descantref13_Chunks.calls 200 s xx 0 _ F5.out).mono ?_
      rintro e w9 ⟨vi, rfl, hp, hb⟩
      have B9 := Lib.hid (below_step B8.out hb)
      clear hp hb B8 F5
      go_wp2_with fail
      refine (descantlaw0_Num.calls _ _ _ rfl).mono ?_
      rintro e w10 ⟨rfl, hq⟩
      have B10 := Lib.hid (below_step B9.out hq.below)
      clear hq B9
      go_wp2_with fail
      refine (descantlaw0_Num.calls _ _ _ rfl).mono ?_
      rintro e w11 ⟨rfl, hq⟩
      have B11 := Lib.hid (below_step B10.out hq.below)
      clear hq B10
      go_wp2_with fail
      refine (descantlaw0_Num.calls _ _ _ rfl).mono ?_
      rintro e w12 ⟨rfl, hq⟩
      have B12 := Lib.hid (below_step B11.out hq.below)
      clear hq B11
      go_wp2_with fail
      refine (descantlaw0_Num.calls _ _ _ rfl).mono ?_
      rintro e w13 ⟨rfl, hq⟩
      have B13 := Lib.hid (below_step B12.out hq.below)
      clear hq B12
      go_wp2_with fail
      go_ret
      exact ⟨rfl, B13.out⟩
end Go.Proofs.Ytkngkmemcokbfaa.PAll
