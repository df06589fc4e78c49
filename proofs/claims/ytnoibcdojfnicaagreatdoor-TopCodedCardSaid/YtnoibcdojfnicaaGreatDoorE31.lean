/- A part of the proof of a law of descanttop: this session's own texts and printed texts, shortened and joined. -/
import Derived.Test.YtnoibcdojfnicaaGreatDoorE30
set_option linter.unusedVariables false
set_option linter.unusedSimpArgs false
set_option maxRecDepth 100000
set_option maxHeartbeats 16000000
namespace Go.Proofs.YtnoibcdojfnicaaGreatDoor.PG
open Go.Proofs.YtnoibcdojfnicaaGreatDoorW.Short
open Bool renaming true → Y, false → J
open Go Go.RowKit Go.Proofs.YtnoibcdojfnicaaGreatDoorW.PrintWords Go.Proofs.YtnoibcdojfnicaaGreatDoorW.PrintMore Go.Proofs.YtnoibcdojfnicaaGreatDoorW.PrintLast
open Go.Proofs.YtnoibcdojfnicaaGreatDoor.Modn
def rP5T : Bool × List (List Nat × List Nat) := (true, [([], []), ([0], [0]), ([1], [1]), ([], []), ([3], [3]), ([4], [4]), ([5, 2], [5]), ([2, 6], [2, 6]), ([], []), ([8], [8]), ([9], [9]), ([10, 6], [10]), ([7, 11], [7, 11]), ([], []), ([13], [13]), ([12, 14], [12, 14]), ([], []), ([16], [16]), ([15, 17], [15, 17]), ([18, 11], [18])])
def rP5B : List Nat := [0, 1, 3, 0, 8, 24, 63, 127, 0, 256, 768, 1919, 4095, 0, 8192, 32767, 0, 65536, 262143, 524287]
theorem rP5_tab : rtab .any (opsOf Tryz.f89 5) = rP5T := by kernel_rfl
theorem rP5_bits : waitsOk rP5T.2 rP5B = true := by kernel_rfl
def rP13T : Bool × List (List Nat × List Nat) := (true, [([], []), ([], []), ([0, 1], [0, 1]), ([], []), ([3], [3]), ([4, 0], [4]), ([2, 5], [2, 5]), ([6, 5, 0, 1, 2, 3, 4, 5, 6], [6]), ([7, 0, 1, 2, 3, 4, 5, 6, 7], [])])
def rP13B : List Nat := [0, 0, 3, 0, 8, 25, 63, 127, 255]
theorem rP13_tab : rtab .any (opsOf Tryz.f89 13) = rP13T := by kernel_rfl
theorem rP13_bits : waitsOk rP13T.2 rP13B = true := by kernel_rfl
theorem drop_cons {xs : List ByteArray} {k : Nat} (h : k < xs.length) : xs.drop k = xs.getD k ByteArray.empty :: xs.drop (k + 1) := by
 rw [List.drop_eq_getElem_cons h, List.getD_eq_getElem?_getD, List.getElem?_eq_getElem h]
 rfl
theorem sz_app (a b : ByteArray) : (a ++ b).size = a.size + b.size := by simp
def tabF (k : Nat) : List ByteArray → Option (List UInt8)
 | [] => some []
 | s :: r => (field_Put.f k (s.size : Int) 2).bind fun p => (tabF k r).map fun t => p.1.data.toList ++ t
def nameB (x : St) : ByteArray := (⟨#[68, 83, 67, 84]⟩ : ByteArray) ++ strOfNums [x.c % 256, x.b % 256, x.size % 256]
def stPut2 (k : Nat) (x : St) (l : List UInt8) : Option (ByteArray × Int) := (crc_Sum.f ⟨l.toArray⟩).bind fun cs => (field_Put.f k cs 4).bind fun en => if l.length + en.1.size + (joinS x.segs).length ≤ 140737488355328 then some (((⟨l.toArray⟩ : ByteArray) ++ en.1) ++ ⟨(joinS x.segs).toArray⟩, 0) else none
def stPut1 (k : Nat) (x : St) : Option (ByteArray × Int) := (stream_number.f k x.frames).bind fun nf => (stream_number.f k (x.head.size : Int)).bind fun nh => (stream_number.f k (x.tail.size : Int)).bind fun nt => (tabF k x.segs).bind fun tb => if 7 + (nf.size + nh.size + nt.size + x.head.size + x.tail.size) + tb.length ≤ 140737488355328 then stPut2 k x ((nameB x).data.toList ++ ((((nf ++ nh) ++ nt) ++ x.head) ++ x.tail).data.toList ++ tb) else none
def stPut (k : Nat) (x : St) : Option (ByteArray × Int) := if x.segs.length ≤ 17592186044416 then (if mayB x = true then stPut1 k x else some (⟨#[]⟩, 2300)) else none
theorem stPut_c (k : Nat) (x : St) (A : Option Addr) (n : Nat) (R : ByteArray × Int) (W : World) (hr : Kd.string.C W A x.segs.length x.segs) (hc : x.segs.length ≤ n) (h : stPut k x = some R) : Calls Tryz.prog 89 #[.agg (stC x A n)] W fun e w' => e = .returned (.tuple #[.string R.1, .int .i64 R.2]) ∧ Below W.heap.size W w' := by
 have RW := Lib.hid hr
 clear hr
 unfold stPut at h
 by_cases hl : x.segs.length ≤ 17592186044416
 ·rw [if_pos hl] at h
  have hu69 := Tryz.underlying69
  obtain ⟨g, hg⟩ : ∃ g, g = W.heap.size := ⟨_, rfl⟩
  have B2 := Lib.hid (blk_new W (.cells (stC x A n) 86))
  have H2 := Lib.hid (below_alloc (Below.refl W.heap.size W) (.cells (stC x A n) 86))
  rw [← hg] at B2
  obtain ⟨w2, hw2⟩ : ∃ w2, w2 = W.alloc (.cells (stC x A n) 86) := ⟨_, rfl⟩
  rw [← hw2] at B2 H2
  have HW := Lib.hid hw2
  have HG := Lib.hid hg
  have MC := Lib.hid (may_c g x A n w2 hl B2.out (Kd.C_below RW.out H2.out))
  clear hw2 hg
  by_cases hm : mayB x = true
  ·rw [if_pos hm] at h
   rw [hm] at MC
   unfold stPut1 at h
   obtain ⟨nf, hp, h⟩ := Option.bind_eq_some_iff.1 h
   have NF := Lib.hid (fun w => stream_number.calls k x.frames nf w hp)
   clear hp
   obtain ⟨nh, hp, h⟩ := Option.bind_eq_some_iff.1 h
   have NH := Lib.hid (fun w => stream_number.calls k (x.head.size : Int) nh w hp)
   clear hp
   obtain ⟨nt, hp, h⟩ := Option.bind_eq_some_iff.1 h
   have NT := Lib.hid (fun w => stream_number.calls k (x.tail.size : Int) nt w hp)
   clear hp
   obtain ⟨tb, htb, h⟩ := Option.bind_eq_some_iff.1 h
   have TB := Lib.hid htb
   clear htb
   by_cases hz : 7 + (nf.size + nh.size + nt.size + x.head.size + x.tail.size) + tb.length ≤ 140737488355328
   ·rw [if_pos hz] at h
    have Hh := Lib.hid h
    clear h hm
    have s1 := eq_false (show ¬ (9223372036854775807 < nf.size + nh.size) by omega)
    have s2 := eq_false (show ¬ (9223372036854775807 < nf.size + nh.size + nt.size) by omega)
    have s3 := eq_false (show ¬ (9223372036854775807 < nf.size + nh.size + nt.size + x.head.size) by omega)
    have s4 := eq_false (show ¬ (9223372036854775807 < nf.size + nh.size + nt.size + x.head.size + x.tail.size) by omega)
    go_enter Tryz.func89, Tryz.ntmps89
    go_wp2_with fail
    rw [← HW.out]
    simp only [← HG.out]
    refine MC.out.mono ?_
    rintro e w3 ⟨rfl, hb⟩
    have B3 := Lib.hid (blk_below B2.out hb)
    have H3 := Lib.hid (below_step H2.out hb)
    clear hb MC B2 H2 HW
    have B4 := Lib.hid (blk_alloc B3.out (.cells #[.pointer none, .slice none 0 0] 164))
    have H4 := Lib.hid (below_alloc H3.out (.cells #[.pointer none, .slice none 0 0] 164))
    have I4 := Lib.hid (bd_new w3)
    have z3 : g < w3.heap.size := blk_lt B3.out
    have zW : W.heap.size ≤ w3.heap.size := H3.out.size
    obtain ⟨k0, k1, k2, -, -, -, -⟩ := st_cells B4.out
    obtain ⟨y, hy⟩ : ∃ y : List Int, y = [x.c % 256, x.b % 256, x.size % 256] := ⟨_, rfl⟩
    have sy : (strOfNums y).size = 3 := by rw [hy]; rfl
    have s0 := eq_false (show ¬ (9223372036854775807 < 4 + (strOfNums y).size) by omega)
    have HY := Lib.hid hy
    clear hy
    obtain ⟨b, hbb⟩ : ∃ b, b = w3.heap.size := ⟨_, rfl⟩
    have zb : w3.heap.size ≤ (w3.alloc (.cells #[.pointer none, .slice none 0 0] 164)).heap.size := by simp
    go_wp2_with (first | ((with_reducible refine gate_dst (N := 24) rfl ?_); refine Kd.R_lit (Kd.int .u8) _ 5 ?hg (N := 24) ?hd (xs := ([x.c % 256, x.b % 256, x.size % 256] : List Int)) (inner := [.int .u8 (x.c % 256), .int .u8 (x.b % 256), .int .u8 (x.size % 256)]) (ok := fun _ => True) (okp := fun _ => True) ?hr ?hp (fun _ hk => hk) trivial (Below.refl _ _) (Nat.le_refl _) (by simp) ?_; (case hd => rfl); (case hg => rfl); (case hr => first | (go_simp; done) | (go_simp; rfl)); (case hp => exact (Reps.one (show Kd.M (Kd.int .u8) _ _ _ (x.c % 256) [.int .u8 (x.c % 256)] from rfl) (Reps.one (show Kd.M (Kd.int .u8) _ _ _ (x.b % 256) [.int .u8 (x.b % 256)] from rfl) (Reps.one (show Kd.M (Kd.int .u8) _ _ _ (x.size % 256) [.int .u8 (x.size % 256)] from rfl) (Reps.none _ _))))); intro v5 w5 ho5 hb hg_ hnew_; clear hg_ hnew_; (first | rw [← HY.out] at ho5 | (simp only [Int.reduceToNat] at ho5; rw [← HY.out] at ho5)); have B5 := Lib.hid (blk_below B4.out hb); have H5 := Lib.hid (below_step H4.out hb); have I5 := Lib.hid (bd_move I4.out hb); have z5 : w3.heap.size ≤ w5.heap.size := Nat.le_trans zb hb.size; clear B4 H4 I4 hb; have hcv5 := own_string (P := Tryz.prog) Tryz.underlying96 Tryz.underlying5 Tryz.underlying9 (Kd.own_of_R ho5)))
    refine (bd_write _ _ [] _ _ I5.out (by rw [sz_app, sy]; decide) z5).mono ?_
    rintro e w6 ⟨q6, rfl, hI, hb⟩
    have I6 := Lib.hid hI
    have B6 := Lib.hid ((hb.block g z3).trans B5.out)
    have H6 := Lib.hid (bel_of H5.out hb zW)
    have z6 := Nat.le_trans z5 hb.size
    clear hI hb B5 H5 I5 ho5 hcv5
    clear k0 k1 k2
    obtain ⟨l6, hl6⟩ : ∃ l6, l6 = (nameB x).data.toList := ⟨_, rfl⟩
    have J6 := Lib.hid (show Bd w3.heap.size w3.heap.size l6 w6 by rw [hl6]; unfold nameB; rw [← HY.out]; exact I6.out)
    have sl6 : l6.length = 7 := by rw [hl6, ← Lib.size_eq]; unfold nameB; rw [sz_app, ← HY.out, sy]; rfl
    have h6 := Hh.out
    rw [← hl6] at h6
    clear Hh hl6 HY sy s0 I6 zb hbb b
    have Hh := Lib.hid h6
    clear h6
    go_wp2_with fail
    have B7 := Lib.hid (blk_drew B6.out)
    have H7 := Lib.hid (below_drew1 H6.out)
    have J7 := Lib.hid (bd_move J6.out (below_drew1 (Below.refl w6.heap.size w6)))
    have z7 := Lib.hid ((show w3.heap.size ≤ w6.drew.heap.size from z6))
    refine start_ (n := 20) (S := fun w' => w'.heap[g]? = some (.cells (stC x A n) 86 (0, 0))) (ds := []) #[J,J,J,J,J,J,J,J,J,J,J,J,J,J,J,J,J,J,J,J] kr rfl rfl (blk_drew B6.out) (fun hHeld => ?_)
    refine with_tabW rP5_tab rP5_bits (fun HT_ HW_ => ?_)
    generalize w6.drew = w7 at B7 H7 J7 z7 hHeld ⊢
    refine pu_ 0 28 #[Y,J,J,J,J,J,J,J,J,J,J,J,J,J,J,J,J,J,J,J] HT_ ?_
    refine ta_ 1 29 #[Y,Y,J,J,J,J,J,J,J,J,J,J,J,J,J,J,J,J,J,J] HT_ HW_ hHeld rfl b59_ ?_
    refine pu_ 3 31 #[Y,Y,J,Y,J,J,J,J,J,J,J,J,J,J,J,J,J,J,J,J] HT_ ?_
    refine ta_ 4 32 #[Y,Y,J,Y,Y,J,J,J,J,J,J,J,J,J,J,J,J,J,J,J] HT_ HW_ hHeld rfl b59_ ?_
    refine pu_ 5 33 #[Y,Y,J,Y,Y,Y,J,J,J,J,J,J,J,J,J,J,J,J,J,J] HT_ ?_
    refine pu_ 8 36 #[Y,Y,J,Y,Y,Y,J,J,Y,J,J,J,J,J,J,J,J,J,J,J] HT_ ?_
    refine ta_ 9 37 #[Y,Y,J,Y,Y,Y,J,J,Y,Y,J,J,J,J,J,J,J,J,J,J] HT_ HW_ hHeld rfl b59_ ?_
    refine pu_ 10 38 #[Y,Y,J,Y,Y,Y,J,J,Y,Y,Y,J,J,J,J,J,J,J,J,J] HT_ ?_
    refine pu_ 13 41 #[Y,Y,J,Y,Y,Y,J,J,Y,Y,Y,J,J,Y,J,J,J,J,J,J] HT_ ?_
    refine ta_ 14 42 #[Y,Y,J,Y,Y,Y,J,J,Y,Y,Y,J,J,Y,Y,J,J,J,J,J] HT_ HW_ hHeld rfl b59_ ?_
    refine pu_ 16 44 #[Y,Y,J,Y,Y,Y,J,J,Y,Y,Y,J,J,Y,Y,J,Y,J,J,J] HT_ ?_
    refine ta_ 17 45 #[Y,Y,J,Y,Y,Y,J,J,Y,Y,Y,J,J,Y,Y,J,Y,Y,J,J] HT_ HW_ hHeld rfl b59_ ?_
    refine one_ (i := 2) (N := some 30) #[Y,Y,Y,Y,Y,Y,J,J,Y,Y,Y,J,J,Y,Y,J,Y,Y,J,J] rfl rfl (one_of HT_.out kr) (by decide) (fun K hK => ?_)
    refine goes_ Tryz.func133 kr rfl #[.int .i64 x.frames] (by rfl) rfl rfl b66_ ?_
    refine (NF.out _).mono ?_
    rintro e w8 ⟨rfl, hb⟩
    refine ⟨_, rfl, ?_⟩
    have B8 := Lib.hid (blk_below B7.out hb)
    have H8 := Lib.hid (below_step H7.out hb)
    have J8 := Lib.hid (bd_move J7.out hb)
    have z8 := Lib.hid (Nat.le_trans z7.out hb.size)
    clear hb B7 H7 J7 z7
    refine hK.out _ _ (B8.out) (fun hHeld => ?_)
    clear hK K
    refine norm_ (a' := ?_) ?_ ?_
    rotate_left
    ·show Act.put _ (some 30) _ = _
     exact pT
    refine one_ (i := 6) (N := some 34) #[Y,Y,Y,Y,Y,Y,Y,J,Y,Y,Y,J,J,Y,Y,J,Y,Y,J,J] rfl rfl (one_of HT_.out kr) (by decide) (fun K hK => ?_)
    refine goes_ Tryz.func133 kr rfl #[.int .i64 (x.head.size : Int)] (by rfl) rfl rfl b66_ ?_
    refine (NH.out _).mono ?_
    rintro e w9 ⟨rfl, hb⟩
    refine ⟨_, rfl, ?_⟩
    have B9 := Lib.hid (blk_below B8.out hb)
    have H9 := Lib.hid (below_step H8.out hb)
    have J9 := Lib.hid (bd_move J8.out hb)
    have z9 := Lib.hid (Nat.le_trans z8.out hb.size)
    clear hb B8 H8 J8 z8
    refine hK.out _ _ (B9.out) (fun hHeld => ?_)
    clear hK K
    refine norm_ (a' := ?_) ?_ ?_
    rotate_left
    ·show Act.put _ (some 34) _ = _
     exact pT
    refine pu_ 7 35 #[Y,Y,Y,Y,Y,Y,Y,Y,Y,Y,Y,J,J,Y,Y,J,Y,Y,J,J] HT_ ?_
    refine one_ (i := 11) (N := some 39) #[Y,Y,Y,Y,Y,Y,Y,Y,Y,Y,Y,Y,J,Y,Y,J,Y,Y,J,J] rfl rfl (one_of HT_.out kr) (by decide) (fun K hK => ?_)
    refine goes_ Tryz.func133 kr rfl #[.int .i64 (x.tail.size : Int)] (by rfl) rfl rfl b66_ ?_
    refine (NT.out _).mono ?_
    rintro e w10 ⟨rfl, hb⟩
    refine ⟨_, rfl, ?_⟩
    have B10 := Lib.hid (blk_below B9.out hb)
    have H10 := Lib.hid (below_step H9.out hb)
    have J10 := Lib.hid (bd_move J9.out hb)
    have z10 := Lib.hid (Nat.le_trans z9.out hb.size)
    clear hb B9 H9 J9 z9
    refine hK.out _ _ (B10.out) (fun hHeld => ?_)
    clear hK K
    refine norm_ (a' := ?_) ?_ ?_
    rotate_left
    ·show Act.put _ (some 39) _ = _
     exact pT
    refine pu_ 12 40 #[Y,Y,Y,Y,Y,Y,Y,Y,Y,Y,Y,Y,Y,Y,Y,J,Y,Y,J,J] HT_ ?_
    refine pu_ 15 43 #[Y,Y,Y,Y,Y,Y,Y,Y,Y,Y,Y,Y,Y,Y,Y,Y,Y,Y,J,J] HT_ ?_
    refine pu_ 18 46 #[Y,Y,Y,Y,Y,Y,Y,Y,Y,Y,Y,Y,Y,Y,Y,Y,Y,Y,Y,J] HT_ ?_
    refine one_ (i := 19) (N := some 47) #[Y,Y,Y,Y,Y,Y,Y,Y,Y,Y,Y,Y,Y,Y,Y,Y,Y,Y,Y,Y] rfl rfl (one_of HT_.out kr) (by decide) (fun K hK => ?_)
    refine goes_ Tryz.func102 kr rfl #[.pointer (some ⟨w3.heap.size, 0, none⟩), .string ((((nf ++ nh) ++ nt) ++ x.head) ++ x.tail)] (by rfl) rfl rfl b66_ ?_
    refine (bd_write _ _ l6 _ _ J10.out (by simp only [sz_app]; omega) z10.out).mono ?_
    rintro e w11 ⟨q11, rfl, hI, hb⟩
    refine ⟨_, rfl, ?_⟩
    have J11 := Lib.hid hI
    have B11 := Lib.hid ((hb.block g z3).trans B10.out)
    have H11 := Lib.hid (bel_of H10.out hb zW)
    have z11 := Nat.le_trans z10.out hb.size
    clear hI hb B10 H10 J10 z10
    refine hK.out _ _ (B11.out) (fun hHeld => ?_)
    clear hK K
    refine norm_ (a' := ?_) ?_ ?_
    rotate_left
    ·show Act.put _ (some 47) _ = _
     exact pT
    refine done_ (done_of HT_.out kr) ?_
    clear hHeld
    obtain ⟨-, -, -, -, -, -, k6⟩ := st_cells B11.out
    have sl11 : (l6 ++ ((((nf ++ nh) ++ nt) ++ x.head) ++ x.tail).data.toList).length = 7 + (nf.size + nh.size + nt.size + x.head.size + x.tail.size) := by rw [List.length_append, sl6, ← Lib.size_eq]; simp only [sz_app]
    obtain ⟨l11, hl11⟩ : ∃ l11, l11 = l6 ++ ((((nf ++ nh) ++ nt) ++ x.head) ++ x.tail).data.toList := ⟨_, rfl⟩
    rw [← hl11] at J11 Hh sl11
    obtain ⟨L, hL⟩ : ∃ L, L = l11 ++ tb := ⟨_, rfl⟩
    have LB : L.length ≤ 140737488355328 := by rw [hL, List.length_append, sl11]; exact hz
    rw [← hL] at Hh
    have HL := Lib.hid hL.symm
    clear hL hl11 sl6 sl11 hz s1 s2 s3 s4
    have hlen := hl
    go_wp2_with fail
    go_loopw [51] (fun i wr => ∃ (j : Nat) (l rest : List UInt8), j ≤ x.segs.length ∧ i = .int .i64 j ∧ Hid (tabF k (x.segs.drop j) = some rest) ∧ Hid (l ++ rest = L) ∧ Hid (Bd w3.heap.size w3.heap.size l wr) ∧ Hid (wr.heap[g]? = some (.cells (stC x A n) 86 (0, 0))) ∧ Hid (Below W.heap.size W wr) ∧ w3.heap.size ≤ wr.heap.size) (fun i _ => x.segs.length - (intOf i).toNat)
    case atStart => exact ⟨0, l11, tb, by omega, rfl, TB, HL, J11, B11, H11, z11⟩
    case round =>
     clear k6 B11 H11 J11 z11 HL TB
     obtain ⟨j, l, rest, hj, rfl, hT, hL, hJ, hB, hH, hz⟩ := hrel
     by_cases hlt : j < x.segs.length
     ·obtain ⟨ad, rfl, hx⟩ := elemS_c (Kd.C_below RW.out hH.out) hlt
      have hT2 := hT.out
      rw [drop_cons hlt] at hT2
      obtain ⟨s, hs⟩ : ∃ s, s = x.segs.getD j ByteArray.empty := ⟨_, rfl⟩
      rw [← hs] at hx hT2
      unfold tabF at hT2
      obtain ⟨⟨p1, p2⟩, hp, hT2⟩ := Option.bind_eq_some_iff.1 hT2
      obtain ⟨rest2, hT3, rfl⟩ := Option.map_eq_some_iff.1 hT2
      have FP := Lib.hid (fun w => field_Put.calls k (s.size : Int) 2 p1 p2 w hp)
      have T3 := Lib.hid hT3
      have L2 : (l ++ p1.data.toList) ++ rest2 = L := by rw [List.append_assoc]; exact hL.out
      have lb : l.length + p1.size ≤ 140737488355328 := by rw [← L2, List.length_append, List.length_append, ← Lib.size_eq] at LB; omega
      have L3 := Lib.hid L2
      clear hp hT hT2 hT3 hs hL L2
      go_wp2_with fail
      refine (FP.out _).mono ?_
      rintro e w12 ⟨rfl, hb⟩
      have B12 := Lib.hid (blk_below hB.out hb)
      have H12 := Lib.hid (below_step hH.out hb)
      have J12 := Lib.hid (bd_move hJ.out hb)
      have z12 := Nat.le_trans hz hb.size
      clear hb hx hB hH hJ hz FP
      go_wp2_with fail
      refine (bd_write _ _ l _ _ J12.out lb z12).mono ?_
      rintro e w13 ⟨q13, rfl, hI, hb⟩
      have J13 := Lib.hid hI
      have B13 := Lib.hid ((hb.block g z3).trans B12.out)
      have H13 := Lib.hid (bel_of H12.out hb zW)
      have z13 := Nat.le_trans z12 hb.size
      clear hI hb B12 H12 J12 z12
      go_wp2_with fail
      exact ⟨⟨j + 1, _, rest2, by omega, by go_num, T3, L3, J13, B13, H13, z13⟩, by simp [intOf]; omega⟩
     ·obtain rfl : j = x.segs.length := by omega
      have hT2 := hT.out
      rw [List.drop_length] at hT2
      obtain rfl := Option.some.inj hT2
      have hL2 := hL.out
      rw [List.append_nil] at hL2
      subst hL2
      have JF := Lib.hid (Lib.IsBuilderF.of hJ.out)
      have h2 := Hh.out
      unfold stPut2 at h2
      obtain ⟨cs, hp, h2⟩ := Option.bind_eq_some_iff.1 h2
      have CS := Lib.hid (fun w => crc_Sum.calls ⟨l.toArray⟩ cs w hp)
      clear hp
      obtain ⟨⟨en, e2⟩, hp, h2⟩ := Option.bind_eq_some_iff.1 h2
      have EP := Lib.hid (fun w => field_Put.calls k cs 4 en e2 w hp)
      clear hp
      dsimp only at h2
      have sl : (⟨l.toArray⟩ : ByteArray).size = l.length := by show l.toArray.size = _; simp
      by_cases hq : l.length + en.size + (joinS x.segs).length ≤ 140737488355328
      ·rw [if_pos hq] at h2
       obtain rfl := Option.some.inj h2
       clear hT hT2 hL h2 Hh hJ h
       obtain ⟨L8, hL8⟩ : ∃ L8 : ByteArray, L8 = ⟨l.toArray⟩ := ⟨_, rfl⟩
       have SC := Lib.hid (fun w (hI : BdF w3.heap.size w3.heap.size l w) hz => bdF_string _ _ l w hI hz)
       rw [← hL8] at CS sl SC
       have HL8 := Lib.hid hL8
       clear hL8
       go_wp2_with fail
       refine (SC.out _ JF.out hz).mono ?_
       rintro e w14 ⟨rfl, hI, hb⟩
       have J14 := Lib.hid hI
       have B14 := Lib.hid ((hb.block g z3).trans hB.out)
       have H14 := Lib.hid (bel_of hH.out hb zW)
       have z14 := Nat.le_trans hz hb.size
       clear hI hb hB hH JF hz
       go_wp2_with fail
       refine (CS.out _).mono ?_
       rintro e w15 ⟨rfl, hb⟩
       have B15 := Lib.hid (blk_below B14.out hb)
       have H15 := Lib.hid (below_step H14.out hb)
       have J15 := Lib.hid (bdF_move J14.out hb)
       have z15 := Nat.le_trans z14 hb.size
       clear hb B14 H14 J14 z14 CS
       go_wp2_with fail
       refine (EP.out _).mono ?_
       rintro e w16 ⟨rfl, hb⟩
       have B16 := Lib.hid (blk_below B15.out hb)
       have H16 := Lib.hid (below_step H15.out hb)
       have J16 := Lib.hid (bdF_move J15.out hb)
       have z16 := Nat.le_trans z15 hb.size
       clear hb B15 H15 J15 z15 EP
       go_wp2_with fail
       obtain ⟨JT, hJT⟩ : ∃ JT : ByteArray, JT = ⟨(joinS x.segs).toArray⟩ := ⟨_, rfl⟩
       have sJ : JT.size = (joinS x.segs).length := by rw [hJT]; show (joinS x.segs).toArray.size = _; simp
       have hjl : (joinS x.segs).length ≤ 140737488355328 := by omega
       have JC := Lib.hid (fun w hr => join_c (A := A) (c := n) x.segs w hr (by omega) hc hjl)
       rw [← hJT] at JC
       have v1 := eq_false (show ¬ (9223372036854775807 < L8.size + en.size) by omega)
       have v2 := eq_false (show ¬ (9223372036854775807 < L8.size + en.size + JT.size) by omega)
       have HR := Lib.hid (show ((⟨l.toArray⟩ : ByteArray) ++ en) ++ ⟨(joinS x.segs).toArray⟩ = (L8 ++ en) ++ JT by rw [HL8.out, hJT])
       clear HL8 hJT sJ hjl hq sl
       have B17 := Lib.hid (blk_drew B16.out)
       have H17 := Lib.hid (below_drew1 H16.out)
       have J17 := Lib.hid (bdF_move J16.out (below_drew1 (Below.refl w16.heap.size w16)))
       have z17 := Lib.hid ((show w3.heap.size ≤ w16.drew.heap.size from z16))
       refine start_ (n := 9) (S := fun w' => w'.heap[g]? = some (.cells (stC x A n) 86 (0, 0))) (ds := []) #[J,J,J,J,J,J,J,J,J] kr rfl rfl (blk_drew B16.out) (fun hHeld => ?_)
       refine with_tabW rP13_tab rP13_bits (fun HT_ HW_ => ?_)
       generalize w16.drew = w17 at B17 H17 J17 z17 hHeld ⊢
       refine pu_ 1 71 #[J,Y,J,J,J,J,J,J,J] HT_ ?_
       refine pu_ 3 73 #[J,Y,J,Y,J,J,J,J,J] HT_ ?_
       refine ta_ 4 74 #[J,Y,J,Y,Y,J,J,J,J] HT_ HW_ hHeld rfl b59_ ?_
       refine one_ (i := 0) (N := some 70) #[Y,Y,J,Y,Y,J,J,J,J] rfl rfl (one_of HT_.out kr) (by decide) (fun K hK => ?_)
       refine goes_ Tryz.func103 kr rfl #[.pointer (some ⟨w3.heap.size, 0, none⟩)] (by rfl) rfl rfl b66_ ?_
       refine (SC.out _ J17.out z17.out).mono ?_
       rintro e w18 ⟨rfl, hI, hb⟩
       refine ⟨_, rfl, ?_⟩
       have B18 := Lib.hid ((hb.block g z3).trans B17.out)
       have H18 := Lib.hid (bel_of H17.out hb zW)
       clear hI hb B17 H17 J17 z17
       refine hK.out _ _ (B18.out) (fun hHeld => ?_)
       clear hK K
       refine norm_ (a' := ?_) ?_ ?_
       rotate_left
       ·show Act.put _ (some 70) _ = _
        exact pT
       refine pu_ 2 72 #[Y,Y,Y,Y,Y,J,J,J,J] HT_ ?_
       refine one_ (i := 5) (N := some 75) #[Y,Y,Y,Y,Y,Y,J,J,J] rfl rfl (one_of HT_.out kr) (by decide) (fun K hK => ?_)
       refine goes_ Tryz.func134 kr rfl #[.slice A x.segs.length n, .string (ByteArray.mk #[])] (by rfl) rfl rfl b66_ ?_
       refine (JC.out _ (Kd.C_below RW.out H18.out)).mono ?_
       rintro e w19 ⟨rfl, hb⟩
       refine ⟨_, rfl, ?_⟩
       have B19 := Lib.hid (blk_below B18.out hb)
       have H19 := Lib.hid (below_step H18.out hb)
       clear hb B18 H18
       refine hK.out _ _ (B19.out) (fun hHeld => ?_)
       clear hK K
       refine norm_ (a' := ?_) ?_ ?_
       rotate_left
       ·show Act.put _ (some 75) _ = _
        exact pT
       refine pu_ 6 76 #[Y,Y,Y,Y,Y,Y,Y,J,J] HT_ ?_
       refine pu_ 7 2 #[Y,Y,Y,Y,Y,Y,Y,Y,J] HT_ ?_
       refine pu_ 8 3 #[Y,Y,Y,Y,Y,Y,Y,Y,Y] HT_ ?_
       refine done_ (done_of HT_.out kr) ?_
       clear hHeld
       go_wp2_with fail
       go_ret2
       exact ⟨by rw [HR.out]; rfl, H19.out⟩
      ·rw [if_neg hq] at h2
       exact absurd h2 (by simp)
   ·rw [if_neg hz] at h
    exact absurd h (by simp)
  ·rw [if_neg hm] at h
   obtain rfl := Option.some.inj h
   rw [Bool.eq_false_iff.2 hm] at MC
   clear hm h
   go_enter Tryz.func89, Tryz.ntmps89
   go_wp2_with fail
   rw [← HW.out]
   simp only [← HG.out]
   refine MC.out.mono ?_
   rintro e w3 ⟨rfl, hb⟩
   have H3 := Lib.hid (below_step H2.out hb)
   clear hb
   go_wp2_with fail
   go_ret2
   exact ⟨rfl, H3.out⟩
 ·rw [if_neg hl] at h
  exact absurd h (by simp)
end Go.Proofs.YtnoibcdojfnicaaGreatDoor.PG
