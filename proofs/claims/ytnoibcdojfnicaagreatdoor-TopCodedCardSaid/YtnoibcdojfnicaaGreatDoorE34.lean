/- A part of the proof of a law of descanttop: this session's own texts and printed texts, shortened and joined. -/
import Derived.Test.YtnoibcdojfnicaaGreatDoorE33
set_option linter.unusedVariables false
set_option linter.unusedSimpArgs false
set_option maxRecDepth 100000
set_option maxHeartbeats 16000000
namespace Go.Proofs.YtnoibcdojfnicaaGreatDoor.PG
open Go.Proofs.YtnoibcdojfnicaaGreatDoorW.Short
open Bool renaming true → Y, false → J
open Go Go.RowKit Go.Proofs.YtnoibcdojfnicaaGreatDoorW.PrintWords Go.Proofs.YtnoibcdojfnicaaGreatDoorW.PrintMore Go.Proofs.YtnoibcdojfnicaaGreatDoorW.PrintLast
open Go.Proofs.YtnoibcdojfnicaaGreatDoor.Modn
attribute [-go_sem] Instr.loadAt Instr.storeAt Instr.build
theorem ld_str (v : Value) : Instr.loadAt 9 v = (do loadVar 9 (← Instr.sureAddr v)) := rfl
theorem ld_fm (v : Value) : Instr.loadAt 69 v = (do loadVar 69 (← Instr.sureAddr v)) := rfl
attribute [local go_sem high] ld_int ld_bool ld_strs ld_str ld_fm so_bool so_str so_strs
def rD1T : Bool × List (List Nat × List Nat) := (true, [([], []), ([0], [0]), ([1], [1]), ([], []), ([2, 3], [2, 3]), ([4], [4]), ([], []), ([6], [6]), ([7], [7]), ([5, 8], [5, 8]), ([9], [9]), ([10], [10]), ([10], [10]), ([11, 9, 0, 1, 2, 3, 4, 5, 6, 7, 8, 9, 10, 11], [11]), ([12, 13, 0, 1, 2, 3, 4, 5, 6, 7, 8, 9, 10, 11, 12, 13], [12])])
def rD1B : List Nat := [0, 1, 3, 0, 15, 31, 0, 64, 192, 511, 1023, 2047, 2047, 4095, 16383]
theorem rD1_tab : rtab .any (opsOf Tryz.f141 1) = rD1T := by kernel_rfl
theorem rD1_bits : waitsOk rD1T.2 rD1B = true := by kernel_rfl
def rD2T : Bool × List (List Nat × List Nat) := (true, [([], []), ([0], [0]), ([1], [1]), ([2], [2]), ([3, 2], [2, 3]), ([2], [2]), ([2], [2]), ([5, 6, 2, 2], [2, 5, 6]), ([2], [2]), ([8, 2], [2, 8]), ([9, 2], [2, 9]), ([10, 7, 2], [2, 10]), ([7, 11, 2], [2, 7, 11]), ([4, 12, 2], [2, 4, 12]), ([2, 13], [2, 13])])
def rD2B : List Nat := [0, 1, 3, 7, 15, 7, 7, 103, 7, 263, 775, 2023, 4071, 8191, 16383]
theorem rD2_tab : rtab .any (opsOf Tryz.f141 2) = rD2T := by kernel_rfl
theorem rD2_bits : waitsOk rD2T.2 rD2B = true := by kernel_rfl
def framesV (z f i : Int) : Int := min z (wrap64 (f - wrap64 (i * z)))
theorem frames_c (x : St) (A : Option Addr) (n : Nat) (i : Int) (W : World) : Calls Tryz.prog 160 #[.agg (stC x A n), .int .i64 i] W fun e w' => e = .returned (.int .i64 (framesV x.size x.frames i)) ∧ Below W.heap.size W w' := by
 obtain ⟨k0, k1, k2, k3, k4, k5, k6⟩ := st_cells (blk_new W (.cells (stC x A n) 201))
 go_enter Tryz.func160, Tryz.ntmps160
 go_wp2_with fail
 go_ret
 exact ⟨rfl, below_alloc (Below.refl W.heap.size W) (.cells (stC x A n) 201)⟩
def dataF (k : Nat) (FR : FRT) (x : St) (j : Nat) : Option (ByteArray × Bool) := (segGet k FR (x.segs.getD j ByteArray.empty) x.c x.b).bind fun r => if r.2 = 0 then (pcm_Frame.f x.c x.b).map fun fr => if (r.1.size : Int) = wrap64 (framesV x.size x.frames (j : Int) * fr) then (r.1, true) else (⟨#[]⟩, false) else some (⟨#[]⟩, false)
theorem data_c (k : Nat) {FR : FRT} (hFR : FrOk FR) (x : St) (A : Option Addr) (n j : Nat) (R : ByteArray × Bool) (W : World) (hr : Kd.string.C W A x.segs.length x.segs) (hj : j < x.segs.length) (hs : (x.segs.getD j ByteArray.empty).size ≤ 140737488351232) (hL : Extra.Laid W) (h : dataF k FR x j = some R) : Calls Tryz.prog 141 #[.agg (stC x A n), .int .i64 (j : Int)] W fun e w' => e = .returned (.tuple #[.string R.1, .bool R.2]) ∧ Below W.heap.size W w' := by
 have hu69 := Tryz.underlying69
 obtain ⟨ad, rfl, hx⟩ := elemS_c hr hj
 obtain ⟨s, hse⟩ : ∃ s, s = x.segs.getD j ByteArray.empty := ⟨_, rfl⟩
 unfold dataF at h
 rw [← hse] at hx hs h
 obtain ⟨r, hG, h⟩ := Option.bind_eq_some_iff.1 h
 have SG := Lib.hid (fun w hL => segGet_c k hFR s x.c x.b r w hs hL hG)
 obtain ⟨g, hg⟩ : ∃ g, g = W.heap.size := ⟨_, rfl⟩
 have B2 := Lib.hid (blk_new W (.cells (stC x (some ad) n) 201))
 have H2 := Lib.hid (below_alloc (Below.refl W.heap.size W) (.cells (stC x (some ad) n) 201))
 rw [← hg] at B2
 obtain ⟨w2, hw2⟩ : ∃ w2, w2 = W.alloc (.cells (stC x (some ad) n) 201) := ⟨_, rfl⟩
 rw [← hw2] at B2 H2
 have X2 := Lib.hid (cb_ hx H2.out)
 have L2 := Lib.hid (Extra.Laid.below_ hL H2.out)
 have HW := Lib.hid hw2
 have HG := Lib.hid hg
 have Hh := Lib.hid h
 clear hw2 hg hx hL hr h hG hs hse
 go_enter Tryz.func141, Tryz.ntmps141
 go_wp2_with fail
 rw [← HW.out]
 simp only [← HG.out]
 have B3 := Lib.hid (blk_drew B2.out)
 have X3 := Lib.hid ((show w2.drew.cell? (ad.add j) = some (.string s) from X2.out))
 have H3 := Lib.hid (below_drew1 H2.out)
 have L3 := Lib.hid (Extra.Laid.drew_ L2.out)
 refine start_ (n := 15) (S := fun w' => w'.heap[g]? = some (.cells (stC x (some ad) n) 201 (0, 0)) ∧ w'.cell? (ad.add j) = some (.string s)) (ds := []) #[J,J,J,J,J,J,J,J,J,J,J,J,J,J,J] kr rfl rfl (⟨blk_drew B2.out, X2.out⟩) (fun hHeld => ?_)
 refine with_tabW rD1_tab rD1_bits (fun HT_ HW_ => ?_)
 generalize w2.drew = w3 at B3 X3 H3 L3 hHeld ⊢
 clear B2 X2 H2 L2
 refine pu_ 0 9 #[Y,J,J,J,J,J,J,J,J,J,J,J,J,J,J] HT_ ?_
 refine pu_ 1 10 #[Y,Y,J,J,J,J,J,J,J,J,J,J,J,J,J] HT_ ?_
 refine ta_ 2 11 #[Y,Y,Y,J,J,J,J,J,J,J,J,J,J,J,J] HT_ HW_ hHeld rfl b57_ ?_
 refine pu_ 3 12 #[Y,Y,Y,Y,J,J,J,J,J,J,J,J,J,J,J] HT_ ?_
 refine pu_ 4 13 #[Y,Y,Y,Y,Y,J,J,J,J,J,J,J,J,J,J] HT_ ?_
 refine ta_ 5 14 #[Y,Y,Y,Y,Y,Y,J,J,J,J,J,J,J,J,J] HT_ HW_ hHeld rfl b57_ ?_
 refine pu_ 6 15 #[Y,Y,Y,Y,Y,Y,Y,J,J,J,J,J,J,J,J] HT_ ?_
 refine pu_ 7 16 #[Y,Y,Y,Y,Y,Y,Y,Y,J,J,J,J,J,J,J] HT_ ?_
 refine ta_ 8 17 #[Y,Y,Y,Y,Y,Y,Y,Y,Y,J,J,J,J,J,J] HT_ HW_ hHeld rfl b57_ ?_
 refine one_ (i := 9) (N := some 18) #[Y,Y,Y,Y,Y,Y,Y,Y,Y,Y,J,J,J,J,J] rfl rfl (one_of HT_.out kr) (by decide) (fun K hK => ?_)
 refine goes_ Tryz.func43 kr rfl #[.string s, .agg #[.int .i64 x.c, .int .i64 x.b]] (by rfl) rfl rfl b66_ ?_
 refine (SG.out _ L3.out).mono ?_
 rintro e w4 ⟨rfl, hb⟩
 refine ⟨_, rfl, ?_⟩
 have B4 := Lib.hid (blk_below B3.out hb)
 have X4 := Lib.hid (cb_ X3.out hb)
 have H4 := Lib.hid (below_step H3.out hb)
 clear hb B3 H3 L3 X3 SG
 refine hK.out _ _ (⟨B4.out, X4.out⟩) (fun hHeld => ?_)
 clear hK K
 refine norm_ (a' := ?_) ?_ ?_
 rotate_left
 ·show Act.put _ (some 18) _ = _
  exact pT
 refine pu_ 10 8 #[Y,Y,Y,Y,Y,Y,Y,Y,Y,Y,Y,J,J,J,J] HT_ ?_
 refine pu_ 11 19 #[Y,Y,Y,Y,Y,Y,Y,Y,Y,Y,Y,Y,J,J,J] HT_ ?_
 refine pu_ 12 20 #[Y,Y,Y,Y,Y,Y,Y,Y,Y,Y,Y,Y,Y,J,J] HT_ ?_
 refine pu_ 13 6 #[Y,Y,Y,Y,Y,Y,Y,Y,Y,Y,Y,Y,Y,Y,J] HT_ ?_
 refine pu_ 14 7 #[Y,Y,Y,Y,Y,Y,Y,Y,Y,Y,Y,Y,Y,Y,Y] HT_ ?_
 refine done_ (done_of HT_.out kr) ?_
 clear hHeld HW HG
 by_cases h0 : r.2 = 0
 ·have hR := Hh.out
  rw [if_pos h0] at hR
  obtain ⟨fr, hf, hR⟩ := Option.map_eq_some_iff.1 hR
  have PF := Lib.hid (fun w => pcm_Frame.calls x.c x.b fr w hf)
  have e0 : r.2 = 0 := h0
  clear hf Hh
  rw [e0]
  go_wp2_with fail
  have B5 := Lib.hid (blk_drew B4.out)
  have H5 := Lib.hid (below_drew1 H4.out)
  refine start_ (n := 15) (S := fun w' => w'.heap[g]? = some (.cells (stC x (some ad) n) 201 (0, 0))) (ds := []) #[J,J,J,J,J,J,J,J,J,J,J,J,J,J,J] kr rfl rfl (blk_drew B4.out) (fun hHeld => ?_)
  refine with_tabW rD2_tab rD2_bits (fun HT_ HW_ => ?_)
  generalize w4.drew = w5 at B5 H5 hHeld ⊢
  clear B4 H4 X4
  refine pu_ 0 21 #[Y,J,J,J,J,J,J,J,J,J,J,J,J,J,J] HT_ ?_
  refine pu_ 1 22 #[Y,Y,J,J,J,J,J,J,J,J,J,J,J,J,J] HT_ ?_
  refine pu_ 2 23 #[Y,Y,Y,J,J,J,J,J,J,J,J,J,J,J,J] HT_ ?_
  refine pu_ 3 24 #[Y,Y,Y,Y,J,J,J,J,J,J,J,J,J,J,J] HT_ ?_
  refine pu_ 4 25 #[Y,Y,Y,Y,Y,J,J,J,J,J,J,J,J,J,J] HT_ ?_
  refine ta_ 5 26 #[Y,Y,Y,Y,Y,Y,J,J,J,J,J,J,J,J,J] HT_ HW_ hHeld rfl (by rintro w' s0; have ld := Agg.load_all (P := Tryz.prog) s0 201 _ Tryz.underlying201 rfl kr; go_simp; with_reducible rfl) ?_
  refine pu_ 6 27 #[Y,Y,Y,Y,Y,Y,Y,J,J,J,J,J,J,J,J] HT_ ?_
  refine pu_ 8 29 #[Y,Y,Y,Y,Y,Y,Y,J,Y,J,J,J,J,J,J] HT_ ?_
  refine pu_ 9 30 #[Y,Y,Y,Y,Y,Y,Y,J,Y,Y,J,J,J,J,J] HT_ ?_
  refine ta_ 10 31 #[Y,Y,Y,Y,Y,Y,Y,J,Y,Y,Y,J,J,J,J] HT_ HW_ hHeld rfl b59_ ?_
  refine one_ (i := 7) (N := some 28) #[Y,Y,Y,Y,Y,Y,Y,Y,Y,Y,Y,J,J,J,J] rfl rfl (one_of HT_.out kr) (by decide) (fun K hK => ?_)
  refine goes_ Tryz.func160 kr rfl #[.agg (stC x (some ad) n), .int .i64 (j : Int)] (by rfl) rfl rfl b66_ ?_
  refine (frames_c x (some ad) n (j : Int) _).mono ?_
  rintro e w5b ⟨rfl, hb⟩
  refine ⟨_, rfl, ?_⟩
  have B5b := Lib.hid (blk_below B5.out hb)
  have H5b := Lib.hid (below_step H5.out hb)
  clear hb B5 H5
  refine hK.out _ _ (B5b.out) (fun hHeld => ?_)
  clear hK K
  refine norm_ (a' := ?_) ?_ ?_
  rotate_left
  ·show Act.put _ (some 28) _ = _
   exact pT
  refine one_ (i := 11) (N := some 32) #[Y,Y,Y,Y,Y,Y,Y,Y,Y,Y,Y,Y,J,J,J] rfl rfl (one_of HT_.out kr) (by decide) (fun K hK => ?_)
  refine goes_ Tryz.func75 kr rfl #[.agg #[.int .i64 x.c, .int .i64 x.b]] (by rfl) rfl rfl b66_ ?_
  refine (PF.out _).mono ?_
  rintro e w6 ⟨rfl, hb⟩
  refine ⟨_, rfl, ?_⟩
  have B6 := Lib.hid (blk_below B5b.out hb)
  have H6 := Lib.hid (below_step H5b.out hb)
  clear hb B5b H5b PF
  refine hK.out _ _ (B6.out) (fun hHeld => ?_)
  clear hK K
  refine norm_ (a' := ?_) ?_ ?_
  rotate_left
  ·show Act.put _ (some 32) _ = _
   exact pT
  refine pu_ 12 33 #[Y,Y,Y,Y,Y,Y,Y,Y,Y,Y,Y,Y,Y,J,J] HT_ ?_
  refine pu_ 13 34 #[Y,Y,Y,Y,Y,Y,Y,Y,Y,Y,Y,Y,Y,Y,J] HT_ ?_
  refine pu_ 14 35 #[Y,Y,Y,Y,Y,Y,Y,Y,Y,Y,Y,Y,Y,Y,Y] HT_ ?_
  refine done_ (done_of HT_.out kr) ?_
  clear hHeld
  by_cases hz : (r.1.size : Int) = wrap64 (framesV x.size x.frames (j : Int) * fr)
  ·rw [if_pos hz] at hR
   subst hR
   have z1 : (decide ((r.1.size : Int) = wrap64 (framesV x.size x.frames (j : Int) * fr))) = true := decide_eq_true hz
   have z2 : ((r.1.size : Int) == wrap64 (framesV x.size x.frames (j : Int) * fr)) = true := beq_iff_eq.2 hz
   have z3 : ((r.1.size : Int) != wrap64 (framesV x.size x.frames (j : Int) * fr)) = false := bne_eq_false_iff_eq.2 hz
   clear hz
   go_wp2_with fail
   go_ret2
   exact ⟨rfl, H6.out⟩
  ·rw [if_neg hz] at hR
   subst hR
   have z1 : (decide ((r.1.size : Int) = wrap64 (framesV x.size x.frames (j : Int) * fr))) = false := decide_eq_false hz
   have z2 : ((r.1.size : Int) == wrap64 (framesV x.size x.frames (j : Int) * fr)) = false := beq_eq_false_iff_ne.2 hz
   have z3 : ((r.1.size : Int) != wrap64 (framesV x.size x.frames (j : Int) * fr)) = true := bne_iff_ne.2 hz
   clear hz
   go_wp2_with fail
   go_ret2
   exact ⟨rfl, H6.out⟩
 ·have hR := Hh.out
  rw [if_neg h0] at hR
  obtain rfl := Option.some.inj hR
  have e1 : decide (r.2 = 0) = false := decide_eq_false h0
  have e2 : (r.2 == 0) = false := beq_eq_false_iff_ne.2 h0
  have e3 : (r.2 != 0) = true := bne_iff_ne.2 h0
  clear h0
  go_wp2_with fail
  have H5 := Lib.hid (below_drew1 H4.out)
  refine start_ (n := 15) (S := fun w' => True) (ds := []) #[J,J,J,J,J,J,J,J,J,J,J,J,J,J,J] kr rfl rfl (trivial) (fun hHeld => ?_)
  refine with_tabW rD2_tab rD2_bits (fun HT_ HW_ => ?_)
  generalize w4.drew = w5 at H5 hHeld ⊢
  clear B4 H4 X4
  refine pu_ 0 21 #[Y,J,J,J,J,J,J,J,J,J,J,J,J,J,J] HT_ ?_
  refine pu_ 1 22 #[Y,Y,J,J,J,J,J,J,J,J,J,J,J,J,J] HT_ ?_
  refine pu_ 2 23 #[Y,Y,Y,J,J,J,J,J,J,J,J,J,J,J,J] HT_ ?_
  refine ps_ 3 24 #[Y,Y,Y,Y,J,J,J,J,J,J,J,J,J,J,J] HT_ ?_
  refine ps_ 4 25 #[Y,Y,Y,Y,Y,J,J,J,J,J,J,J,J,J,J] HT_ ?_
  refine ps_ 5 26 #[Y,Y,Y,Y,Y,Y,J,J,J,J,J,J,J,J,J] HT_ ?_
  refine ps_ 6 27 #[Y,Y,Y,Y,Y,Y,Y,J,J,J,J,J,J,J,J] HT_ ?_
  refine ps_ 8 29 #[Y,Y,Y,Y,Y,Y,Y,J,Y,J,J,J,J,J,J] HT_ ?_
  refine ps_ 9 30 #[Y,Y,Y,Y,Y,Y,Y,J,Y,Y,J,J,J,J,J] HT_ ?_
  refine ps_ 10 31 #[Y,Y,Y,Y,Y,Y,Y,J,Y,Y,Y,J,J,J,J] HT_ ?_
  refine ps_ 7 28 #[Y,Y,Y,Y,Y,Y,Y,Y,Y,Y,Y,J,J,J,J] HT_ ?_
  refine ps_ 11 32 #[Y,Y,Y,Y,Y,Y,Y,Y,Y,Y,Y,Y,J,J,J] HT_ ?_
  refine ps_ 12 33 #[Y,Y,Y,Y,Y,Y,Y,Y,Y,Y,Y,Y,Y,J,J] HT_ ?_
  refine ps_ 13 34 #[Y,Y,Y,Y,Y,Y,Y,Y,Y,Y,Y,Y,Y,Y,J] HT_ ?_
  refine pu_ 14 35 #[Y,Y,Y,Y,Y,Y,Y,Y,Y,Y,Y,Y,Y,Y,Y] HT_ ?_
  refine done_ (done_of HT_.out kr) ?_
  clear hHeld
  go_wp2_with fail
  go_ret2
  exact ⟨rfl, H5.out⟩
theorem fileData_c (k : Nat) {FR : FRT} (hFR : FrOk FR) (x : St) (A : Option Addr) (n j : Nat) (R : ByteArray × Bool) (W : World) (hr : Kd.string.C W A x.segs.length x.segs) (hj : j < x.segs.length) (hs : (x.segs.getD j ByteArray.empty).size ≤ 140737488351232) (hL : Extra.Laid W) (h : dataF k FR x j = some R) : Calls Tryz.prog 101 #[.agg (stC x A n), .int .i64 (j : Int)] W fun e w' => e = .returned (.tuple #[.string R.1, .bool R.2]) ∧ Below W.heap.size W w' := by
 have H2 := Lib.hid (below_alloc (Below.refl W.heap.size W) (.cells (stC x A n) 86))
 have ld := Agg.load_all (P := Tryz.prog) (blk_new W (.cells (stC x A n) 86)) 86 _ Tryz.underlying86 rfl kr
 have bu : (Instr.build 201 #[(0, .agg (stC x A n))]).run Tryz.prog (W.alloc (.cells (stC x A n) 86)) = .ok (.agg (stC x A n)) (W.alloc (.cells (stC x A n) 86)) := by kernel_rfl
 have DC := Lib.hid (data_c k hFR x A n j R _ (Kd.C_below hr H2.out) hj hs (Extra.Laid.below_ hL H2.out) h)
 clear hr hL h hs
 go_enter Tryz.func101, Tryz.ntmps101
 go_wp2_with fail
 refine DC.out.mono ?_
 rintro e w3 ⟨rfl, hb⟩
 have H3 := Lib.hid (below_step H2.out hb)
 clear hb
 go_wp2_with fail
 go_ret2
 exact ⟨rfl, H3.out⟩
end Go.Proofs.YtnoibcdojfnicaaGreatDoor.PG
