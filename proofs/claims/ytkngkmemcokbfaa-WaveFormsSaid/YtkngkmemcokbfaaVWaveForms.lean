/- Layer 21, WaveForms: the walk. -/
import Derived.Test.YtkngkmemcokbfaaVRefBuild
import Derived.Test.YtkngkmemcokbfaaVBytesOwn
import Derived.Lib.LazyBuf
import Derived.Lib.SlBuf
import Derived.Lib.AtoiErrMem
namespace Go.Proofs.Ytkngkmemcokbfaa.PWv
open Go Go.RowKit Go.Proofs.YtkngkmemcokbfaaW.PrintWords Go.Proofs.YtkngkmemcokbfaaW.PrintMore Go.Proofs.YtkngkmemcokbfaaW.PrintLast
set_option linter.unusedVariables false
set_option linter.unusedSimpArgs false
attribute [local go_sem high] eqA37 eqA45
theorem none_of_isNone {α : Type} {o : Option α} (h : o.isNone = true) : o = none := by simpa using h
theorem bad0 : waveOf (strOfNums ((bytesOf S64).set 20 3)) = none := none_of_isNone (by decide +kernel)
theorem bad1 : waveOf (strOfNums ((bytesOf S64).set 21 1)) = none := none_of_isNone (by decide +kernel)
theorem bad2 (m : Nat) (hm : m < 64) : waveOf (strOfNums ((bytesOf S64).set 22 (3 + (m : Int)))) = none := by
  have h : ∀ m : Fin 64, (waveOf (strOfNums ((bytesOf S64).set 22 (3 + (m.val : Int))))).isNone = true := by decide +kernel
  exact none_of_isNone (h ⟨m, hm⟩)
theorem bad3 : waveOf (strOfNums ((bytesOf S64).set 22 0)) = none := none_of_isNone (by decide +kernel)
theorem bad4 (m : Nat) (hm : m < 64) : waveOf (strOfNums ((bytesOf S64).set 32 (5 + (m : Int)))) = none := by
  have h : ∀ m : Fin 64, (waveOf (strOfNums ((bytesOf S64).set 32 (5 + (m.val : Int))))).isNone = true := by decide +kernel
  exact none_of_isNone (h ⟨m, hm⟩)
theorem bad5 : waveOf (strOfNums ((bytesOf S64).set 34 24)) = none := none_of_isNone (by decide +kernel)
theorem bad6 : waveOf (strOfNums ((bytesOf S64).set 34 8)) = none := none_of_isNone (by decide +kernel)
theorem bad7 : waveOf (strOfNums ((bytesOf S64).set 12 70)) = none := none_of_isNone (by decide +kernel)
theorem bad8 : waveOf (strOfNums ((bytesOf S64).set 36 68)) = none := none_of_isNone (by decide +kernel)
theorem bad9 : waveOf (strOfNums (setMany (bytesOf S64) 52 [100, 97, 116, 97])) = none := none_of_isNone (by decide +kernel)
theorem bad10 : waveOf (strOfNums (setMany (bytesOf S64) 52 [102, 109, 116, 32])) = none := none_of_isNone (by decide +kernel)
theorem bad11 : waveOf (strOfNums ((bytesOf S64).set 40 6)) = none := none_of_isNone (by decide +kernel)
set_option maxHeartbeats 16000000 in
theorem waveForms_calls (which x : Int) (w : World) (hwh : (Lit.int .i64 which).wf = true) (hx : (Lit.int .i64 x).wf = true) :
    Calls Try.prog 9 #[.int .i64 which, .int .i64 x] w fun e w' => e = .returned (.bool true) ∧ Below w.heap.size w w' := by
  have hun : 0 ≤ IntKind.u64.wrap which := by rw [IntKind.wrap_u64]; omega
  obtain ⟨q, hq⟩ : ∃ q : Nat, IntKind.u64.wrap which % 12 = q := ⟨(IntKind.u64.wrap which % 12).toNat, by omega⟩
  have hq12 : q < 12 := by omega
  have hqt : (IntKind.u64.wrap which).tmod 12 = q := by rw [Int.tmod_eq_emod_of_nonneg hun, hq]
  have hm : Go.bits .and .i64 x 63 = x % 64 := Num.and_mask _ 63 6 (by omega) (by rfl)
  obtain ⟨m, hm2⟩ : ∃ m : Nat, x % 64 = m := ⟨(x % 64).toNat, by omega⟩
  have hm3 : m < 64 := by omega
  rw [hm2] at hm
  clear hm2 hq hun
  have C1 := fun w => descantlaw21_wav.calls 200 2 16 D8 S64 w wav64
  have R1 := fun w => ref_c (s := S64) (c := 2) (b := 16) (h := S64.extract 0 44) (d := D8) (t := S64.extract 52 64) (e0 := 0) (by decide) (by rw [parse64]; rfl) w
  obtain ⟨H, hH⟩ : ∃ H, H = S64.extract 0 44 := ⟨_, rfl⟩
  obtain ⟨T, hT⟩ : ∃ T, T = S64.extract 52 64 := ⟨_, rfl⟩
  obtain ⟨D, hD⟩ : ∃ D, D = D8 := ⟨_, rfl⟩
  obtain ⟨s, hs⟩ : ∃ s, s = S64 := ⟨_, rfl⟩
  have hsz : s.size = 64 := by rw [hs]; rfl
  rw [← hH, ← hT, ← hD, ← hs] at R1
  rw [← hD, ← hs] at C1
  have hD9 : Hid ((⟨#[97, 98, 99, 100, 101, 102, 103, 104]⟩ : ByteArray) = D) := Lib.hid hD.symm
  have HS := Lib.hid hs
  have HSZ := Lib.hid hsz
  clear hH hT hD hs
  go_enter Try.func9, Try.ntmps9
  go_wp2_with fail
  refine (awake_c _).mono ?_
  rintro e w1 ⟨rfl, hb⟩
  have X1 := Lib.hid hb
  clear hb
  go_wp2_with fail
  rw [hD9.out]
  refine (C1 _).mono ?_
  rintro e w3 ⟨rfl, hb⟩
  have X3 := Lib.hid (below_step (below_alloc X1.out _) hb)
  clear hb C1 X1
  have kb := fun W => print_bytes (P := Try.prog) 9 38 5 Try.underlying9 Try.underlying38 Try.underlying5 s W
  have bb := BB.conv w3 s
  have hbl : (bytesOf s).length = 64 := by rw [bytesOf_length, hsz]
  have BB1 := Lib.hid bb
  have BL := Lib.hid hbl
  have hcap := grownCap_ge w3 s.size 0 5
  rw [hsz] at hcap
  have hcap2 : (grownCap w3 64 0 5 = 52) = False := eq_false (by omega)
  have hcap3 : ((52 : Int) ≤ 64) := by omega
  clear bb hbl
  rcases (show q = 0 ∨ q = 1 ∨ q = 2 ∨ q = 3 ∨ q = 4 ∨ q = 5 ∨ q = 6 ∨ q = 7 ∨ q = 8 ∨ q = 9 ∨ q = 10 ∨ q = 11 by omega) with rfl | rfl | rfl | rfl | rfl | rfl | rfl | rfl | rfl | rfl | rfl | rfl
  · have hset := BB1.out.set (j := 20) (by rw [BL.out]; decide) 3
    have hyl : ((bytesOf s).set 20 3).length = 64 := by rw [List.length_set]; exact BL.out
    obtain ⟨ys, hys⟩ : ∃ ys, ys = (bytesOf s).set 20 3 := ⟨_, rfl⟩
    have hcc := BB1.out.cell (j := 20) (by rw [BL.out]; decide)
    have hff := BB1.out.frozen (j := 20) (by rw [BL.out]; decide)
    have hno : waveOf (strOfNums ys) = none := by rw [hys, HS.out]; exact bad0
    rw [← hys] at hset hyl
    have hrd := hset.reads (by rw [hyl]; decide)
    rw [hyl] at hrd
    have cv : (Go.convert 38 9 (.slice (some ⟨w3.heap.size, 0, none⟩) 64 (grownCap w3 64 0 5))).run Try.prog ((Lib.bytesWorld w3 5 s).setCell ⟨w3.heap.size, 20, none⟩ (.int .u8 3)) = .ok (.string (strOfNums ys)) ((Lib.bytesWorld w3 5 s).setCell ⟨w3.heap.size, 20, none⟩ (.int .u8 3)) := Kd.C_string (P := Try.prog) Try.underlying38 Try.underlying5 Try.underlying9 hrd
    have P1 := fun w => parse_c (s := strOfNums ys) (c := 0) (b := 0) (h := ⟨#[]⟩) (d := ⟨#[]⟩) (t := ⟨#[]⟩) (e0 := 2100) (by rw [nums_size', hyl]; decide) (by rw [hno]; rfl) w
    have BW := Lib.hid (below_step X3.out (below_set (Lib.bytesWorld_below w3 5 s) (Nat.le_refl _) : Below w3.heap.size w3 ((Lib.bytesWorld w3 5 s).setCell ⟨w3.heap.size, 20, none⟩ (.int .u8 3))))
    clear hset hyl hys hno hrd
    go_wp2_with fail
    refine (P1 _).mono ?_
    rintro e w4 ⟨rfl, hb⟩
    have X4 := Lib.hid (below_step BW.out hb)
    clear hb P1 BW X3 kb cv
    try clear hcc hff
    go_wp2_with fail
    refine (R1 _).mono ?_
    rintro e w5 ⟨rfl, hb⟩
    have X5 := Lib.hid (below_step (below_alloc X4.out _) hb)
    have F5 := Lib.hid (blk_below (blk_new w4 _) hb)
    clear hb R1 X4
    obtain ⟨f0, f1, f2, f3, f4⟩ := five F5.out
    have fl : w4.heap.size < w5.heap.size := blk_lt F5.out
    go_wp2_with fail
    refine (descantlaw0_Num.calls _ _ _ rfl).mono ?_
    rintro e w6 ⟨rfl, hq⟩
    have X6 := Lib.hid (below_step (below_alloc X5.out _) hq.below)
    clear hq X5
    go_wp2_with fail
    go_ret
    exact ⟨rfl, X6.out⟩
  · have hset := BB1.out.set (j := 21) (by rw [BL.out]; decide) 1
    have hyl : ((bytesOf s).set 21 1).length = 64 := by rw [List.length_set]; exact BL.out
    obtain ⟨ys, hys⟩ : ∃ ys, ys = (bytesOf s).set 21 1 := ⟨_, rfl⟩
    have hcc := BB1.out.cell (j := 21) (by rw [BL.out]; decide)
    have hff := BB1.out.frozen (j := 21) (by rw [BL.out]; decide)
    have hno : waveOf (strOfNums ys) = none := by rw [hys, HS.out]; exact bad1
    rw [← hys] at hset hyl
    have hrd := hset.reads (by rw [hyl]; decide)
    rw [hyl] at hrd
    have cv : (Go.convert 38 9 (.slice (some ⟨w3.heap.size, 0, none⟩) 64 (grownCap w3 64 0 5))).run Try.prog ((Lib.bytesWorld w3 5 s).setCell ⟨w3.heap.size, 21, none⟩ (.int .u8 1)) = .ok (.string (strOfNums ys)) ((Lib.bytesWorld w3 5 s).setCell ⟨w3.heap.size, 21, none⟩ (.int .u8 1)) := Kd.C_string (P := Try.prog) Try.underlying38 Try.underlying5 Try.underlying9 hrd
    have P1 := fun w => parse_c (s := strOfNums ys) (c := 0) (b := 0) (h := ⟨#[]⟩) (d := ⟨#[]⟩) (t := ⟨#[]⟩) (e0 := 2100) (by rw [nums_size', hyl]; decide) (by rw [hno]; rfl) w
    have BW := Lib.hid (below_step X3.out (below_set (Lib.bytesWorld_below w3 5 s) (Nat.le_refl _) : Below w3.heap.size w3 ((Lib.bytesWorld w3 5 s).setCell ⟨w3.heap.size, 21, none⟩ (.int .u8 1))))
    clear hset hyl hys hno hrd
    go_wp2_with fail
    refine (P1 _).mono ?_
    rintro e w4 ⟨rfl, hb⟩
    have X4 := Lib.hid (below_step BW.out hb)
    clear hb P1 BW X3 kb cv
    try clear hcc hff
    go_wp2_with fail
    refine (R1 _).mono ?_
    rintro e w5 ⟨rfl, hb⟩
    have X5 := Lib.hid (below_step (below_alloc X4.out _) hb)
    have F5 := Lib.hid (blk_below (blk_new w4 _) hb)
    clear hb R1 X4
    obtain ⟨f0, f1, f2, f3, f4⟩ := five F5.out
    have fl : w4.heap.size < w5.heap.size := blk_lt F5.out
    go_wp2_with fail
    refine (descantlaw0_Num.calls _ _ _ rfl).mono ?_
    rintro e w6 ⟨rfl, hq⟩
    have X6 := Lib.hid (below_step (below_alloc X5.out _) hq.below)
    clear hq X5
    go_wp2_with fail
    go_ret
    exact ⟨rfl, X6.out⟩
  · have hset := BB1.out.set (j := 22) (by rw [BL.out]; decide) (3 + (m : Int))
    have hyl : ((bytesOf s).set 22 (3 + (m : Int))).length = 64 := by rw [List.length_set]; exact BL.out
    obtain ⟨ys, hys⟩ : ∃ ys, ys = (bytesOf s).set 22 (3 + (m : Int)) := ⟨_, rfl⟩
    have hcc := BB1.out.cell (j := 22) (by rw [BL.out]; decide)
    have hff := BB1.out.frozen (j := 22) (by rw [BL.out]; decide)
    have hno : waveOf (strOfNums ys) = none := by rw [hys, HS.out]; exact bad2 m hm3
    rw [← hys] at hset hyl
    have hrd := hset.reads (by rw [hyl]; decide)
    rw [hyl] at hrd
    have cv : (Go.convert 38 9 (.slice (some ⟨w3.heap.size, 0, none⟩) 64 (grownCap w3 64 0 5))).run Try.prog ((Lib.bytesWorld w3 5 s).setCell ⟨w3.heap.size, 22, none⟩ (.int .u8 (3 + (m : Int)))) = .ok (.string (strOfNums ys)) ((Lib.bytesWorld w3 5 s).setCell ⟨w3.heap.size, 22, none⟩ (.int .u8 (3 + (m : Int)))) := Kd.C_string (P := Try.prog) Try.underlying38 Try.underlying5 Try.underlying9 hrd
    have P1 := fun w => parse_c (s := strOfNums ys) (c := 0) (b := 0) (h := ⟨#[]⟩) (d := ⟨#[]⟩) (t := ⟨#[]⟩) (e0 := 2100) (by rw [nums_size', hyl]; decide) (by rw [hno]; rfl) w
    have BW := Lib.hid (below_step X3.out (below_set (Lib.bytesWorld_below w3 5 s) (Nat.le_refl _) : Below w3.heap.size w3 ((Lib.bytesWorld w3 5 s).setCell ⟨w3.heap.size, 22, none⟩ (.int .u8 (3 + (m : Int))))))
    clear hset hyl hys hno hrd
    go_wp2_with fail
    refine (P1 _).mono ?_
    rintro e w4 ⟨rfl, hb⟩
    have X4 := Lib.hid (below_step BW.out hb)
    clear hb P1 BW X3 kb cv
    try clear hcc hff
    go_wp2_with fail
    refine (R1 _).mono ?_
    rintro e w5 ⟨rfl, hb⟩
    have X5 := Lib.hid (below_step (below_alloc X4.out _) hb)
    have F5 := Lib.hid (blk_below (blk_new w4 _) hb)
    clear hb R1 X4
    obtain ⟨f0, f1, f2, f3, f4⟩ := five F5.out
    have fl : w4.heap.size < w5.heap.size := blk_lt F5.out
    go_wp2_with fail
    refine (descantlaw0_Num.calls _ _ _ rfl).mono ?_
    rintro e w6 ⟨rfl, hq⟩
    have X6 := Lib.hid (below_step (below_alloc X5.out _) hq.below)
    clear hq X5
    go_wp2_with fail
    go_ret
    exact ⟨rfl, X6.out⟩
  · have hset := BB1.out.set (j := 22) (by rw [BL.out]; decide) 0
    have hyl : ((bytesOf s).set 22 0).length = 64 := by rw [List.length_set]; exact BL.out
    obtain ⟨ys, hys⟩ : ∃ ys, ys = (bytesOf s).set 22 0 := ⟨_, rfl⟩
    have hcc := BB1.out.cell (j := 22) (by rw [BL.out]; decide)
    have hff := BB1.out.frozen (j := 22) (by rw [BL.out]; decide)
    have hno : waveOf (strOfNums ys) = none := by rw [hys, HS.out]; exact bad3
    rw [← hys] at hset hyl
    have hrd := hset.reads (by rw [hyl]; decide)
    rw [hyl] at hrd
    have cv : (Go.convert 38 9 (.slice (some ⟨w3.heap.size, 0, none⟩) 64 (grownCap w3 64 0 5))).run Try.prog ((Lib.bytesWorld w3 5 s).setCell ⟨w3.heap.size, 22, none⟩ (.int .u8 0)) = .ok (.string (strOfNums ys)) ((Lib.bytesWorld w3 5 s).setCell ⟨w3.heap.size, 22, none⟩ (.int .u8 0)) := Kd.C_string (P := Try.prog) Try.underlying38 Try.underlying5 Try.underlying9 hrd
    have P1 := fun w => parse_c (s := strOfNums ys) (c := 0) (b := 0) (h := ⟨#[]⟩) (d := ⟨#[]⟩) (t := ⟨#[]⟩) (e0 := 2100) (by rw [nums_size', hyl]; decide) (by rw [hno]; rfl) w
    have BW := Lib.hid (below_step X3.out (below_set (Lib.bytesWorld_below w3 5 s) (Nat.le_refl _) : Below w3.heap.size w3 ((Lib.bytesWorld w3 5 s).setCell ⟨w3.heap.size, 22, none⟩ (.int .u8 0))))
    clear hset hyl hys hno hrd
    go_wp2_with fail
    refine (P1 _).mono ?_
    rintro e w4 ⟨rfl, hb⟩
    have X4 := Lib.hid (below_step BW.out hb)
    clear hb P1 BW X3 kb cv
    try clear hcc hff
    go_wp2_with fail
    refine (R1 _).mono ?_
    rintro e w5 ⟨rfl, hb⟩
    have X5 := Lib.hid (below_step (below_alloc X4.out _) hb)
    have F5 := Lib.hid (blk_below (blk_new w4 _) hb)
    clear hb R1 X4
    obtain ⟨f0, f1, f2, f3, f4⟩ := five F5.out
    have fl : w4.heap.size < w5.heap.size := blk_lt F5.out
    go_wp2_with fail
    refine (descantlaw0_Num.calls _ _ _ rfl).mono ?_
    rintro e w6 ⟨rfl, hq⟩
    have X6 := Lib.hid (below_step (below_alloc X5.out _) hq.below)
    clear hq X5
    go_wp2_with fail
    go_ret
    exact ⟨rfl, X6.out⟩
  · have hset := BB1.out.set (j := 32) (by rw [BL.out]; decide) (5 + (m : Int))
    have hyl : ((bytesOf s).set 32 (5 + (m : Int))).length = 64 := by rw [List.length_set]; exact BL.out
    obtain ⟨ys, hys⟩ : ∃ ys, ys = (bytesOf s).set 32 (5 + (m : Int)) := ⟨_, rfl⟩
    have hcc := BB1.out.cell (j := 32) (by rw [BL.out]; decide)
    have hff := BB1.out.frozen (j := 32) (by rw [BL.out]; decide)
    have hno : waveOf (strOfNums ys) = none := by rw [hys, HS.out]; exact bad4 m hm3
    rw [← hys] at hset hyl
    have hrd := hset.reads (by rw [hyl]; decide)
    rw [hyl] at hrd
    have cv : (Go.convert 38 9 (.slice (some ⟨w3.heap.size, 0, none⟩) 64 (grownCap w3 64 0 5))).run Try.prog ((Lib.bytesWorld w3 5 s).setCell ⟨w3.heap.size, 32, none⟩ (.int .u8 (5 + (m : Int)))) = .ok (.string (strOfNums ys)) ((Lib.bytesWorld w3 5 s).setCell ⟨w3.heap.size, 32, none⟩ (.int .u8 (5 + (m : Int)))) := Kd.C_string (P := Try.prog) Try.underlying38 Try.underlying5 Try.underlying9 hrd
    have P1 := fun w => parse_c (s := strOfNums ys) (c := 0) (b := 0) (h := ⟨#[]⟩) (d := ⟨#[]⟩) (t := ⟨#[]⟩) (e0 := 2100) (by rw [nums_size', hyl]; decide) (by rw [hno]; rfl) w
    have BW := Lib.hid (below_step X3.out (below_set (Lib.bytesWorld_below w3 5 s) (Nat.le_refl _) : Below w3.heap.size w3 ((Lib.bytesWorld w3 5 s).setCell ⟨w3.heap.size, 32, none⟩ (.int .u8 (5 + (m : Int))))))
    clear hset hyl hys hno hrd
    go_wp2_with fail
    refine (P1 _).mono ?_
    rintro e w4 ⟨rfl, hb⟩
    have X4 := Lib.hid (below_step BW.out hb)
    clear hb P1 BW X3 kb cv
    try clear hcc hff
    go_wp2_with fail
    refine (R1 _).mono ?_
    rintro e w5 ⟨rfl, hb⟩
    have X5 := Lib.hid (below_step (below_alloc X4.out _) hb)
    have F5 := Lib.hid (blk_below (blk_new w4 _) hb)
    clear hb R1 X4
    obtain ⟨f0, f1, f2, f3, f4⟩ := five F5.out
    have fl : w4.heap.size < w5.heap.size := blk_lt F5.out
    go_wp2_with fail
    refine (descantlaw0_Num.calls _ _ _ rfl).mono ?_
    rintro e w6 ⟨rfl, hq⟩
    have X6 := Lib.hid (below_step (below_alloc X5.out _) hq.below)
    clear hq X5
    go_wp2_with fail
    go_ret
    exact ⟨rfl, X6.out⟩
  · have hset := BB1.out.set (j := 34) (by rw [BL.out]; decide) 24
    have hyl : ((bytesOf s).set 34 24).length = 64 := by rw [List.length_set]; exact BL.out
    obtain ⟨ys, hys⟩ : ∃ ys, ys = (bytesOf s).set 34 24 := ⟨_, rfl⟩
    have hcc := BB1.out.cell (j := 34) (by rw [BL.out]; decide)
    have hff := BB1.out.frozen (j := 34) (by rw [BL.out]; decide)
    have hno : waveOf (strOfNums ys) = none := by rw [hys, HS.out]; exact bad5
    rw [← hys] at hset hyl
    have hrd := hset.reads (by rw [hyl]; decide)
    rw [hyl] at hrd
    have cv : (Go.convert 38 9 (.slice (some ⟨w3.heap.size, 0, none⟩) 64 (grownCap w3 64 0 5))).run Try.prog ((Lib.bytesWorld w3 5 s).setCell ⟨w3.heap.size, 34, none⟩ (.int .u8 24)) = .ok (.string (strOfNums ys)) ((Lib.bytesWorld w3 5 s).setCell ⟨w3.heap.size, 34, none⟩ (.int .u8 24)) := Kd.C_string (P := Try.prog) Try.underlying38 Try.underlying5 Try.underlying9 hrd
    have P1 := fun w => parse_c (s := strOfNums ys) (c := 0) (b := 0) (h := ⟨#[]⟩) (d := ⟨#[]⟩) (t := ⟨#[]⟩) (e0 := 2100) (by rw [nums_size', hyl]; decide) (by rw [hno]; rfl) w
    have BW := Lib.hid (below_step X3.out (below_set (Lib.bytesWorld_below w3 5 s) (Nat.le_refl _) : Below w3.heap.size w3 ((Lib.bytesWorld w3 5 s).setCell ⟨w3.heap.size, 34, none⟩ (.int .u8 24))))
    clear hset hyl hys hno hrd
    go_wp2_with fail
    refine (P1 _).mono ?_
    rintro e w4 ⟨rfl, hb⟩
    have X4 := Lib.hid (below_step BW.out hb)
    clear hb P1 BW X3 kb cv
    try clear hcc hff
    go_wp2_with fail
    refine (R1 _).mono ?_
    rintro e w5 ⟨rfl, hb⟩
    have X5 := Lib.hid (below_step (below_alloc X4.out _) hb)
    have F5 := Lib.hid (blk_below (blk_new w4 _) hb)
    clear hb R1 X4
    obtain ⟨f0, f1, f2, f3, f4⟩ := five F5.out
    have fl : w4.heap.size < w5.heap.size := blk_lt F5.out
    go_wp2_with fail
    refine (descantlaw0_Num.calls _ _ _ rfl).mono ?_
    rintro e w6 ⟨rfl, hq⟩
    have X6 := Lib.hid (below_step (below_alloc X5.out _) hq.below)
    clear hq X5
    go_wp2_with fail
    go_ret
    exact ⟨rfl, X6.out⟩
  · have hset := BB1.out.set (j := 34) (by rw [BL.out]; decide) 8
    have hyl : ((bytesOf s).set 34 8).length = 64 := by rw [List.length_set]; exact BL.out
    obtain ⟨ys, hys⟩ : ∃ ys, ys = (bytesOf s).set 34 8 := ⟨_, rfl⟩
    have hcc := BB1.out.cell (j := 34) (by rw [BL.out]; decide)
    have hff := BB1.out.frozen (j := 34) (by rw [BL.out]; decide)
    have hno : waveOf (strOfNums ys) = none := by rw [hys, HS.out]; exact bad6
    rw [← hys] at hset hyl
    have hrd := hset.reads (by rw [hyl]; decide)
    rw [hyl] at hrd
    have cv : (Go.convert 38 9 (.slice (some ⟨w3.heap.size, 0, none⟩) 64 (grownCap w3 64 0 5))).run Try.prog ((Lib.bytesWorld w3 5 s).setCell ⟨w3.heap.size, 34, none⟩ (.int .u8 8)) = .ok (.string (strOfNums ys)) ((Lib.bytesWorld w3 5 s).setCell ⟨w3.heap.size, 34, none⟩ (.int .u8 8)) := Kd.C_string (P := Try.prog) Try.underlying38 Try.underlying5 Try.underlying9 hrd
    have P1 := fun w => parse_c (s := strOfNums ys) (c := 0) (b := 0) (h := ⟨#[]⟩) (d := ⟨#[]⟩) (t := ⟨#[]⟩) (e0 := 2100) (by rw [nums_size', hyl]; decide) (by rw [hno]; rfl) w
    have BW := Lib.hid (below_step X3.out (below_set (Lib.bytesWorld_below w3 5 s) (Nat.le_refl _) : Below w3.heap.size w3 ((Lib.bytesWorld w3 5 s).setCell ⟨w3.heap.size, 34, none⟩ (.int .u8 8))))
    clear hset hyl hys hno hrd
    go_wp2_with fail
    refine (P1 _).mono ?_
    rintro e w4 ⟨rfl, hb⟩
    have X4 := Lib.hid (below_step BW.out hb)
    clear hb P1 BW X3 kb cv
    try clear hcc hff
    go_wp2_with fail
    refine (R1 _).mono ?_
    rintro e w5 ⟨rfl, hb⟩
    have X5 := Lib.hid (below_step (below_alloc X4.out _) hb)
    have F5 := Lib.hid (blk_below (blk_new w4 _) hb)
    clear hb R1 X4
    obtain ⟨f0, f1, f2, f3, f4⟩ := five F5.out
    have fl : w4.heap.size < w5.heap.size := blk_lt F5.out
    go_wp2_with fail
    refine (descantlaw0_Num.calls _ _ _ rfl).mono ?_
    rintro e w6 ⟨rfl, hq⟩
    have X6 := Lib.hid (below_step (below_alloc X5.out _) hq.below)
    clear hq X5
    go_wp2_with fail
    go_ret
    exact ⟨rfl, X6.out⟩
  · have hset := BB1.out.set (j := 12) (by rw [BL.out]; decide) 70
    have hyl : ((bytesOf s).set 12 70).length = 64 := by rw [List.length_set]; exact BL.out
    obtain ⟨ys, hys⟩ : ∃ ys, ys = (bytesOf s).set 12 70 := ⟨_, rfl⟩
    have hcc := BB1.out.cell (j := 12) (by rw [BL.out]; decide)
    have hff := BB1.out.frozen (j := 12) (by rw [BL.out]; decide)
    have hno : waveOf (strOfNums ys) = none := by rw [hys, HS.out]; exact bad7
    rw [← hys] at hset hyl
    have hrd := hset.reads (by rw [hyl]; decide)
    rw [hyl] at hrd
    have cv : (Go.convert 38 9 (.slice (some ⟨w3.heap.size, 0, none⟩) 64 (grownCap w3 64 0 5))).run Try.prog ((Lib.bytesWorld w3 5 s).setCell ⟨w3.heap.size, 12, none⟩ (.int .u8 70)) = .ok (.string (strOfNums ys)) ((Lib.bytesWorld w3 5 s).setCell ⟨w3.heap.size, 12, none⟩ (.int .u8 70)) := Kd.C_string (P := Try.prog) Try.underlying38 Try.underlying5 Try.underlying9 hrd
    have P1 := fun w => parse_c (s := strOfNums ys) (c := 0) (b := 0) (h := ⟨#[]⟩) (d := ⟨#[]⟩) (t := ⟨#[]⟩) (e0 := 2100) (by rw [nums_size', hyl]; decide) (by rw [hno]; rfl) w
    have BW := Lib.hid (below_step X3.out (below_set (Lib.bytesWorld_below w3 5 s) (Nat.le_refl _) : Below w3.heap.size w3 ((Lib.bytesWorld w3 5 s).setCell ⟨w3.heap.size, 12, none⟩ (.int .u8 70))))
    clear hset hyl hys hno hrd
    go_wp2_with fail
    refine (P1 _).mono ?_
    rintro e w4 ⟨rfl, hb⟩
    have X4 := Lib.hid (below_step BW.out hb)
    clear hb P1 BW X3 kb cv
    try clear hcc hff
    go_wp2_with fail
    refine (R1 _).mono ?_
    rintro e w5 ⟨rfl, hb⟩
    have X5 := Lib.hid (below_step (below_alloc X4.out _) hb)
    have F5 := Lib.hid (blk_below (blk_new w4 _) hb)
    clear hb R1 X4
    obtain ⟨f0, f1, f2, f3, f4⟩ := five F5.out
    have fl : w4.heap.size < w5.heap.size := blk_lt F5.out
    go_wp2_with fail
    refine (descantlaw0_Num.calls _ _ _ rfl).mono ?_
    rintro e w6 ⟨rfl, hq⟩
    have X6 := Lib.hid (below_step (below_alloc X5.out _) hq.below)
    clear hq X5
    go_wp2_with fail
    go_ret
    exact ⟨rfl, X6.out⟩
  · have hset := BB1.out.set (j := 36) (by rw [BL.out]; decide) 68
    have hyl : ((bytesOf s).set 36 68).length = 64 := by rw [List.length_set]; exact BL.out
    obtain ⟨ys, hys⟩ : ∃ ys, ys = (bytesOf s).set 36 68 := ⟨_, rfl⟩
    have hcc := BB1.out.cell (j := 36) (by rw [BL.out]; decide)
    have hff := BB1.out.frozen (j := 36) (by rw [BL.out]; decide)
    have hno : waveOf (strOfNums ys) = none := by rw [hys, HS.out]; exact bad8
    rw [← hys] at hset hyl
    have hrd := hset.reads (by rw [hyl]; decide)
    rw [hyl] at hrd
    have cv : (Go.convert 38 9 (.slice (some ⟨w3.heap.size, 0, none⟩) 64 (grownCap w3 64 0 5))).run Try.prog ((Lib.bytesWorld w3 5 s).setCell ⟨w3.heap.size, 36, none⟩ (.int .u8 68)) = .ok (.string (strOfNums ys)) ((Lib.bytesWorld w3 5 s).setCell ⟨w3.heap.size, 36, none⟩ (.int .u8 68)) := Kd.C_string (P := Try.prog) Try.underlying38 Try.underlying5 Try.underlying9 hrd
    have P1 := fun w => parse_c (s := strOfNums ys) (c := 0) (b := 0) (h := ⟨#[]⟩) (d := ⟨#[]⟩) (t := ⟨#[]⟩) (e0 := 2100) (by rw [nums_size', hyl]; decide) (by rw [hno]; rfl) w
    have BW := Lib.hid (below_step X3.out (below_set (Lib.bytesWorld_below w3 5 s) (Nat.le_refl _) : Below w3.heap.size w3 ((Lib.bytesWorld w3 5 s).setCell ⟨w3.heap.size, 36, none⟩ (.int .u8 68))))
    clear hset hyl hys hno hrd
    go_wp2_with fail
    refine (P1 _).mono ?_
    rintro e w4 ⟨rfl, hb⟩
    have X4 := Lib.hid (below_step BW.out hb)
    clear hb P1 BW X3 kb cv
    try clear hcc hff
    go_wp2_with fail
    refine (R1 _).mono ?_
    rintro e w5 ⟨rfl, hb⟩
    have X5 := Lib.hid (below_step (below_alloc X4.out _) hb)
    have F5 := Lib.hid (blk_below (blk_new w4 _) hb)
    clear hb R1 X4
    obtain ⟨f0, f1, f2, f3, f4⟩ := five F5.out
    have fl : w4.heap.size < w5.heap.size := blk_lt F5.out
    go_wp2_with fail
    refine (descantlaw0_Num.calls _ _ _ rfl).mono ?_
    rintro e w6 ⟨rfl, hq⟩
    have X6 := Lib.hid (below_step (below_alloc X5.out _) hq.below)
    clear hq X5
    go_wp2_with fail
    go_ret
    exact ⟨rfl, X6.out⟩
  · have hset := BB.setCells [100, 97, 116, 97] _ 52 _ BB1.out (by rw [BL.out]; decide)
    have hyl : (setMany (bytesOf s) 52 [100, 97, 116, 97]).length = 64 := by rw [setMany_length]; exact BL.out
    obtain ⟨ys, hys⟩ : ∃ ys, ys = setMany (bytesOf s) 52 [100, 97, 116, 97] := ⟨_, rfl⟩
    have hno : waveOf (strOfNums ys) = none := by rw [hys, HS.out]; exact bad9
    rw [← hys] at hset hyl
    have hrd := hset.reads (by rw [hyl]; decide)
    rw [hyl] at hrd
    have cv : (Go.convert 38 9 (.slice (some ⟨w3.heap.size, 0, none⟩) 64 (grownCap w3 64 0 5))).run Try.prog ((Lib.bytesWorld w3 5 s).setCells w3.heap.size 52 (([100, 97, 116, 97] : List Int).map (Value.int .u8))) = .ok (.string (strOfNums ys)) ((Lib.bytesWorld w3 5 s).setCells w3.heap.size 52 (([100, 97, 116, 97] : List Int).map (Value.int .u8))) := Kd.C_string (P := Try.prog) Try.underlying38 Try.underlying5 Try.underlying9 hrd
    have P1 := fun w => parse_c (s := strOfNums ys) (c := 0) (b := 0) (h := ⟨#[]⟩) (d := ⟨#[]⟩) (t := ⟨#[]⟩) (e0 := 2100) (by rw [nums_size', hyl]; decide) (by rw [hno]; rfl) w
    have BW := Lib.hid (below_step X3.out (below_setCells' _ 52 _ (Lib.bytesWorld_below w3 5 s) (Nat.le_refl _) : Below w3.heap.size w3 ((Lib.bytesWorld w3 5 s).setCells w3.heap.size 52 (([100, 97, 116, 97] : List Int).map (Value.int .u8)))))
    clear hset hyl hys hno hrd
    have hcj : ∀ j, j < 4 → ((Lib.bytesWorld w3 5 s).cell? ⟨w3.heap.size, 52 + j, none⟩).isSome = true := fun j hj => by rw [BB1.out.cell (by rw [BL.out]; omega)]; rfl
    have hfj : ∀ j, j < 4 → (Lib.bytesWorld w3 5 s).frozen? ⟨w3.heap.size, 52 + j, none⟩ = false := fun j hj => BB1.out.frozen (by rw [BL.out]; omega)
    have hr := run_copy_string (P := Try.prog) (Lib.bytesWorld w3 5 s) 38 9 3 5 w3.heap.size 52 (64 - 52) (grownCap w3 64 0 5 - 52) (⟨#[100, 97, 116, 97]⟩ : ByteArray) Try.underlying38 (fun w => by obtain ⟨i0, hi, hz0, hz1, hz2⟩ := info_parts info5; simp [Go.sizeOf, typeInfo, hi, hz1]) (by decide) hcj hfj
    have hr2 : (Builtin.copy_ #[38, 9] 3 #[.slice (some ⟨w3.heap.size, 52, none⟩) (64 - 52) (grownCap w3 64 0 5 - 52), .string (⟨#[100, 97, 116, 97]⟩ : ByteArray)]).run Try.prog (Lib.bytesWorld w3 5 s) = .ok (goInt 4) ((Lib.bytesWorld w3 5 s).setCells w3.heap.size 52 (([100, 97, 116, 97] : List Int).map (Value.int .u8))) := hr
    have HR2 := Lib.hid hr2
    clear hr hr2 hcj hfj
    go_wp2_with ((with_reducible refine gate_builtin (b := .copy) (xs := _) rfl ?_); refine Lib.wpList_copy_run _ rfl (.tmp 71) (.const (.string (⟨#[100, 97, 116, 97]⟩ : ByteArray))) 38 9 rfl (.slice (some ⟨w3.heap.size, 52, none⟩) (64 - 52) (grownCap w3 64 0 5 - 52)) (.string (⟨#[100, 97, 116, 97]⟩ : ByteArray)) ?hd rfl HR2.out ?_; (case hd => rfl); clear HR2; generalize ((Lib.bytesWorld w3 5 s).setCells w3.heap.size 52 (([100, 97, 116, 97] : List Int).map (Value.int .u8))) = w9 at cv BW ⊢)
    refine (P1 _).mono ?_
    rintro e w4 ⟨rfl, hb⟩
    have X4 := Lib.hid (below_step BW.out hb)
    clear hb P1 BW X3 kb cv
    try clear hcc hff
    go_wp2_with fail
    refine (R1 _).mono ?_
    rintro e w5 ⟨rfl, hb⟩
    have X5 := Lib.hid (below_step (below_alloc X4.out _) hb)
    have F5 := Lib.hid (blk_below (blk_new w4 _) hb)
    clear hb R1 X4
    obtain ⟨f0, f1, f2, f3, f4⟩ := five F5.out
    have fl : w4.heap.size < w5.heap.size := blk_lt F5.out
    go_wp2_with fail
    refine (descantlaw0_Num.calls _ _ _ rfl).mono ?_
    rintro e w6 ⟨rfl, hq⟩
    have X6 := Lib.hid (below_step (below_alloc X5.out _) hq.below)
    clear hq X5
    go_wp2_with fail
    go_ret
    exact ⟨rfl, X6.out⟩
  · have hset := BB.setCells [102, 109, 116, 32] _ 52 _ BB1.out (by rw [BL.out]; decide)
    have hyl : (setMany (bytesOf s) 52 [102, 109, 116, 32]).length = 64 := by rw [setMany_length]; exact BL.out
    obtain ⟨ys, hys⟩ : ∃ ys, ys = setMany (bytesOf s) 52 [102, 109, 116, 32] := ⟨_, rfl⟩
    have hno : waveOf (strOfNums ys) = none := by rw [hys, HS.out]; exact bad10
    rw [← hys] at hset hyl
    have hrd := hset.reads (by rw [hyl]; decide)
    rw [hyl] at hrd
    have cv : (Go.convert 38 9 (.slice (some ⟨w3.heap.size, 0, none⟩) 64 (grownCap w3 64 0 5))).run Try.prog ((Lib.bytesWorld w3 5 s).setCells w3.heap.size 52 (([102, 109, 116, 32] : List Int).map (Value.int .u8))) = .ok (.string (strOfNums ys)) ((Lib.bytesWorld w3 5 s).setCells w3.heap.size 52 (([102, 109, 116, 32] : List Int).map (Value.int .u8))) := Kd.C_string (P := Try.prog) Try.underlying38 Try.underlying5 Try.underlying9 hrd
    have P1 := fun w => parse_c (s := strOfNums ys) (c := 0) (b := 0) (h := ⟨#[]⟩) (d := ⟨#[]⟩) (t := ⟨#[]⟩) (e0 := 2100) (by rw [nums_size', hyl]; decide) (by rw [hno]; rfl) w
    have BW := Lib.hid (below_step X3.out (below_setCells' _ 52 _ (Lib.bytesWorld_below w3 5 s) (Nat.le_refl _) : Below w3.heap.size w3 ((Lib.bytesWorld w3 5 s).setCells w3.heap.size 52 (([102, 109, 116, 32] : List Int).map (Value.int .u8)))))
    clear hset hyl hys hno hrd
    have hcj : ∀ j, j < 4 → ((Lib.bytesWorld w3 5 s).cell? ⟨w3.heap.size, 52 + j, none⟩).isSome = true := fun j hj => by rw [BB1.out.cell (by rw [BL.out]; omega)]; rfl
    have hfj : ∀ j, j < 4 → (Lib.bytesWorld w3 5 s).frozen? ⟨w3.heap.size, 52 + j, none⟩ = false := fun j hj => BB1.out.frozen (by rw [BL.out]; omega)
    have hr := run_copy_string (P := Try.prog) (Lib.bytesWorld w3 5 s) 38 9 3 5 w3.heap.size 52 (64 - 52) (grownCap w3 64 0 5 - 52) (⟨#[102, 109, 116, 32]⟩ : ByteArray) Try.underlying38 (fun w => by obtain ⟨i0, hi, hz0, hz1, hz2⟩ := info_parts info5; simp [Go.sizeOf, typeInfo, hi, hz1]) (by decide) hcj hfj
    have hr2 : (Builtin.copy_ #[38, 9] 3 #[.slice (some ⟨w3.heap.size, 52, none⟩) (64 - 52) (grownCap w3 64 0 5 - 52), .string (⟨#[102, 109, 116, 32]⟩ : ByteArray)]).run Try.prog (Lib.bytesWorld w3 5 s) = .ok (goInt 4) ((Lib.bytesWorld w3 5 s).setCells w3.heap.size 52 (([102, 109, 116, 32] : List Int).map (Value.int .u8))) := hr
    have HR2 := Lib.hid hr2
    clear hr hr2 hcj hfj
    go_wp2_with ((with_reducible refine gate_builtin (b := .copy) (xs := _) rfl ?_); refine Lib.wpList_copy_run _ rfl (.tmp 76) (.const (.string (⟨#[102, 109, 116, 32]⟩ : ByteArray))) 38 9 rfl (.slice (some ⟨w3.heap.size, 52, none⟩) (64 - 52) (grownCap w3 64 0 5 - 52)) (.string (⟨#[102, 109, 116, 32]⟩ : ByteArray)) ?hd rfl HR2.out ?_; (case hd => rfl); clear HR2; generalize ((Lib.bytesWorld w3 5 s).setCells w3.heap.size 52 (([102, 109, 116, 32] : List Int).map (Value.int .u8))) = w9 at cv BW ⊢)
    refine (P1 _).mono ?_
    rintro e w4 ⟨rfl, hb⟩
    have X4 := Lib.hid (below_step BW.out hb)
    clear hb P1 BW X3 kb cv
    try clear hcc hff
    go_wp2_with fail
    refine (R1 _).mono ?_
    rintro e w5 ⟨rfl, hb⟩
    have X5 := Lib.hid (below_step (below_alloc X4.out _) hb)
    have F5 := Lib.hid (blk_below (blk_new w4 _) hb)
    clear hb R1 X4
    obtain ⟨f0, f1, f2, f3, f4⟩ := five F5.out
    have fl : w4.heap.size < w5.heap.size := blk_lt F5.out
    go_wp2_with fail
    refine (descantlaw0_Num.calls _ _ _ rfl).mono ?_
    rintro e w6 ⟨rfl, hq⟩
    have X6 := Lib.hid (below_step (below_alloc X5.out _) hq.below)
    clear hq X5
    go_wp2_with fail
    go_ret
    exact ⟨rfl, X6.out⟩
  · have hset := BB1.out.set (j := 40) (by rw [BL.out]; decide) 6
    have hyl : ((bytesOf s).set 40 6).length = 64 := by rw [List.length_set]; exact BL.out
    obtain ⟨ys, hys⟩ : ∃ ys, ys = (bytesOf s).set 40 6 := ⟨_, rfl⟩
    have hcc := BB1.out.cell (j := 40) (by rw [BL.out]; decide)
    have hff := BB1.out.frozen (j := 40) (by rw [BL.out]; decide)
    have hno : waveOf (strOfNums ys) = none := by rw [hys, HS.out]; exact bad11
    rw [← hys] at hset hyl
    have hrd := hset.reads (by rw [hyl]; decide)
    rw [hyl] at hrd
    have cv : (Go.convert 38 9 (.slice (some ⟨w3.heap.size, 0, none⟩) 64 (grownCap w3 64 0 5))).run Try.prog ((Lib.bytesWorld w3 5 s).setCell ⟨w3.heap.size, 40, none⟩ (.int .u8 6)) = .ok (.string (strOfNums ys)) ((Lib.bytesWorld w3 5 s).setCell ⟨w3.heap.size, 40, none⟩ (.int .u8 6)) := Kd.C_string (P := Try.prog) Try.underlying38 Try.underlying5 Try.underlying9 hrd
    have P1 := fun w => parse_c (s := strOfNums ys) (c := 0) (b := 0) (h := ⟨#[]⟩) (d := ⟨#[]⟩) (t := ⟨#[]⟩) (e0 := 2100) (by rw [nums_size', hyl]; decide) (by rw [hno]; rfl) w
    have BW := Lib.hid (below_step X3.out (below_set (Lib.bytesWorld_below w3 5 s) (Nat.le_refl _) : Below w3.heap.size w3 ((Lib.bytesWorld w3 5 s).setCell ⟨w3.heap.size, 40, none⟩ (.int .u8 6))))
    clear hset hyl hys hno hrd
    go_wp2_with fail
    refine (P1 _).mono ?_
    rintro e w4 ⟨rfl, hb⟩
    have X4 := Lib.hid (below_step BW.out hb)
    clear hb P1 BW X3 kb cv
    try clear hcc hff
    go_wp2_with fail
    refine (R1 _).mono ?_
    rintro e w5 ⟨rfl, hb⟩
    have X5 := Lib.hid (below_step (below_alloc X4.out _) hb)
    have F5 := Lib.hid (blk_below (blk_new w4 _) hb)
    clear hb R1 X4
    obtain ⟨f0, f1, f2, f3, f4⟩ := five F5.out
    have fl : w4.heap.size < w5.heap.size := blk_lt F5.out
    go_wp2_with fail
    refine (descantlaw0_Num.calls _ _ _ rfl).mono ?_
    rintro e w6 ⟨rfl, hq⟩
    have X6 := Lib.hid (below_step (below_alloc X5.out _) hq.below)
    clear hq X5
    go_wp2_with fail
    go_ret
    exact ⟨rfl, X6.out⟩
end Go.Proofs.Ytkngkmemcokbfaa.PWv
