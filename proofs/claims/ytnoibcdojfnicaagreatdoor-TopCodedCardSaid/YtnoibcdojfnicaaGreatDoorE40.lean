/- A part of the proof of a law of descanttop: this session's own texts and printed texts, shortened and joined. -/
import Derived.Test.YtnoibcdojfnicaaGreatDoorE39
set_option linter.unusedVariables false
set_option linter.unusedSimpArgs false
set_option maxRecDepth 100000
set_option maxHeartbeats 16000000
namespace Go.Proofs.YtnoibcdojfnicaaGreatDoor.PG
open Go.Proofs.YtnoibcdojfnicaaGreatDoorW.Short
open Bool renaming true → Y, false → J
open Go Go.RowKit Go.Proofs.YtnoibcdojfnicaaGreatDoorW.PrintWords Go.Proofs.YtnoibcdojfnicaaGreatDoorW.PrintMore Go.Proofs.YtnoibcdojfnicaaGreatDoorW.PrintLast
open Go.Proofs.YtnoibcdojfnicaaGreatDoor.Modn
attribute [-go_sem] Instr.loadAt Instr.storeAt Instr.build
def rQ17T : Bool × List (List Nat × List Nat) := (true, [([], []), ([0], [0]), ([1], [1]), ([], []), ([], []), ([4], [4]), ([3, 5], [3, 5]), ([2, 2, 0, 1, 2], [2]), ([6, 7, 0, 1, 2, 3, 4, 5, 6, 7], [6])])
def rQ17B : List Nat := [0, 1, 3, 0, 0, 16, 56, 7, 255]
theorem rQ17_tab : rtab .any (opsOf Tryz.f40 17) = rQ17T := by kernel_rfl
theorem rQ17_bits : waitsOk rQ17T.2 rQ17B = true := by kernel_rfl
theorem st_i2 (x : St) (A : Option Addr) (n : Nat) : (stC x A n)[2]? = some (.int .i64 x.size) := rfl
theorem st_i3 (x : St) (A : Option Addr) (n : Nat) : (stC x A n)[3]? = some (.int .i64 x.frames) := rfl
attribute [local go_sem high] st_i2 st_i3 st_i6 ld_int ld_bool ld_strs ld_str ld_fm so_bool so_str so_strs store_new_st shut_st
def rngL (k : Nat) (FR : FRT) (x : St) (to_ : Int) : Nat → Nat → List UInt8 → Option (List UInt8 × Bool)
 | 0, _, _ => none
 | m + 1, j, l => if wrap64 ((j : Int) * x.size) < to_ then (if j < x.segs.length ∧ (x.segs.getD j ByteArray.empty).size ≤ 140737488351232 then (dataF k FR x j).bind fun r => if r.2 = true then (if l.length + r.1.size ≤ 140737488355328 then rngL k FR x to_ m (j + 1) (l ++ r.1.data.toList) else none) else some (l, false) else none) else some (l, true)
def rngF2 (k : Nat) (FR : FRT) (x : St) (from_ to_ : Int) : Option (ByteArray × Int) := if x.size = 0 then none else if x.segs.length ≤ 17592186044416 ∧ 0 ≤ wrap64 (Int.tdiv from_ x.size) then (rngL k FR x to_ k (wrap64 (Int.tdiv from_ x.size)).toNat []).bind fun q => if q.2 = true then (pcm_Frame.f x.c x.b).bind fun fr => if 0 ≤ wrap64 (wrap64 (from_ - wrap64 (wrap64 (Int.tdiv from_ x.size) * x.size)) * fr) ∧ wrap64 (wrap64 (from_ - wrap64 (wrap64 (Int.tdiv from_ x.size) * x.size)) * fr) ≤ wrap64 (wrap64 (to_ - wrap64 (wrap64 (Int.tdiv from_ x.size) * x.size)) * fr) ∧ wrap64 (wrap64 (to_ - wrap64 (wrap64 (Int.tdiv from_ x.size) * x.size)) * fr) ≤ (q.1.length : Int) then some ((⟨q.1.toArray⟩ : ByteArray).extract (wrap64 (wrap64 (from_ - wrap64 (wrap64 (Int.tdiv from_ x.size) * x.size)) * fr)).toNat (wrap64 (wrap64 (to_ - wrap64 (wrap64 (Int.tdiv from_ x.size) * x.size)) * fr)).toNat, 0) else none else some (⟨#[]⟩, 2401) else none
def rngF (k : Nat) (FR : FRT) (s : ByteArray) (from_ to_ : Int) : Option (ByteArray × Int) := (stGet k s).bind fun p => if p.2 = 0 then (if from_ < 0 then some (⟨#[]⟩, 2501) else if to_ < from_ then some (⟨#[]⟩, 2501) else if p.1.frames < to_ then some (⟨#[]⟩, 2501) else if from_ = to_ then some (⟨#[]⟩, 0) else rngF2 k FR p.1 from_ to_) else some (⟨#[]⟩, 2500)
theorem rng_c (k : Nat) {FR : FRT} (hFR : FrOk FR) (s : ByteArray) (from_ to_ : Int) (R : ByteArray × Int) (W : World) (hL : Extra.Laid W) (h : rngF k FR s from_ to_ = some R) : Calls Tryz.prog 40 #[.string s, .int .i64 from_, .int .i64 to_] W fun e w' => e = .returned (.tuple #[.string R.1, .int .i64 R.2]) ∧ Below W.heap.size W w' := by
 have hu69 := Tryz.underlying69
 unfold rngF at h
 obtain ⟨⟨x, e0⟩, hp, h⟩ := Option.bind_eq_some_iff.1 h
 have GC := Lib.hid (fun w => stGet_c k s (x, e0) w hp)
 have LW := Lib.hid hL
 clear hp hL
 dsimp only at h GC
 by_cases h0 : e0 = 0
 ·rw [if_pos h0] at h
  subst h0
  by_cases c1 : from_ < 0
  ·rw [if_pos c1] at h
   obtain rfl := Option.some.inj h
   have d1 : decide (from_ < 0) = true := decide_eq_true c1
   clear h c1
   go_enter Tryz.func40, Tryz.ntmps40
   go_wp2_with fail
   refine (GC.out _).mono ?_
   rintro e w1 ⟨A, n, rfl, hC, hn, hb⟩
   have H2 := Lib.hid (below_alloc hb (.cells (stC x A n) 86))
   clear hC hb
   go_wp2_with fail
   go_ret2
   exact ⟨rfl, H2.out⟩
  rw [if_neg c1] at h
  have d1 : decide (from_ < 0) = false := decide_eq_false c1
  by_cases c2 : to_ < from_
  ·rw [if_pos c2] at h
   obtain rfl := Option.some.inj h
   have d2 : decide (to_ < from_) = true := decide_eq_true c2
   clear h c1 c2
   go_enter Tryz.func40, Tryz.ntmps40
   go_wp2_with fail
   refine (GC.out _).mono ?_
   rintro e w1 ⟨A, n, rfl, hC, hn, hb⟩
   have H2 := Lib.hid (below_alloc hb (.cells (stC x A n) 86))
   clear hC hb
   go_wp2_with fail
   go_ret2
   exact ⟨rfl, H2.out⟩
  rw [if_neg c2] at h
  have d2 : decide (to_ < from_) = false := decide_eq_false c2
  by_cases c3 : x.frames < to_
  ·rw [if_pos c3] at h
   obtain rfl := Option.some.inj h
   have d3 : decide (x.frames < to_) = true := decide_eq_true c3
   clear h c1 c2 c3
   go_enter Tryz.func40, Tryz.ntmps40
   go_wp2_with fail
   refine (GC.out _).mono ?_
   rintro e w1 ⟨A, n, rfl, hC, hn, hb⟩
   have H2 := Lib.hid (below_alloc hb (.cells (stC x A n) 86))
   clear hC hb
   go_wp2_with fail
   go_ret2
   exact ⟨rfl, H2.out⟩
  rw [if_neg c3] at h
  have d3 : decide (x.frames < to_) = false := decide_eq_false c3
  by_cases c4 : from_ = to_
  ·rw [if_pos c4] at h
   obtain rfl := Option.some.inj h
   have d4 : decide (from_ = to_) = true := decide_eq_true c4
   have d5 : (from_ == to_) = true := beq_iff_eq.2 c4
   clear h c1 c2 c3 c4
   go_enter Tryz.func40, Tryz.ntmps40
   go_wp2_with fail
   refine (GC.out _).mono ?_
   rintro e w1 ⟨A, n, rfl, hC, hn, hb⟩
   have H2 := Lib.hid (below_alloc hb (.cells (stC x A n) 86))
   clear hC hb
   go_wp2_with fail
   go_ret2
   exact ⟨rfl, H2.out⟩
  rw [if_neg c4] at h
  have d4 : decide (from_ = to_) = false := decide_eq_false c4
  have d5 : (from_ == to_) = false := beq_eq_false_iff_ne.2 c4
  unfold rngF2 at h
  by_cases hx0 : x.size = 0
  ·rw [if_pos hx0] at h
   cases h
  rw [if_neg hx0] at h
  have hx1 : decide (x.size = 0) = false := decide_eq_false hx0
  have hx2 : (x.size == 0) = false := beq_eq_false_iff_ne.2 hx0
  obtain ⟨first, hfi⟩ : ∃ first, first = wrap64 (Int.tdiv from_ x.size) := ⟨_, rfl⟩
  rw [← hfi] at h
  by_cases hbig : x.segs.length ≤ 17592186044416 ∧ 0 ≤ first
  rotate_left
  ·rw [if_neg hbig] at h
   cases h
  rw [if_pos hbig] at h
  obtain ⟨hbig, hf0⟩ := hbig
  obtain ⟨q, hq, h⟩ := Option.bind_eq_some_iff.1 h
  have DL := Lib.hid hq
  have HR := Lib.hid h
  have FI := Lib.hid hfi
  clear hq h c1 c2 c3 c4 hfi
  go_enter Tryz.func40, Tryz.ntmps40
  go_wp2_with fail
  refine (GC.out _).mono ?_
  rintro e w1 ⟨A, n, rfl, hC, hn, hb⟩
  have RC := Lib.hid hC
  have H1 := Lib.hid hb
  have L1 := Lib.hid (Extra.Laid.below_ LW.out hb)
  clear hC hb GC LW
  obtain ⟨gx, hgx⟩ : ∃ gx, gx = w1.heap.size := ⟨_, rfl⟩
  have X2 := Lib.hid (blk_new w1 (.cells (stC x A n) 86))
  have H2 := Lib.hid (below_alloc (Below.refl w1.heap.size w1) (.cells (stC x A n) 86))
  have hw1 : w1.heap.size ≤ gx := Nat.le_of_eq hgx.symm
  have eg : (w1.alloc (.cells (stC x A n) 86)).heap.size = gx + 1 := by rw [hgx]; simp
  rw [← hgx] at X2
  obtain ⟨w2, hw2⟩ : ∃ w2, w2 = w1.alloc (.cells (stC x A n) 86) := ⟨_, rfl⟩
  rw [← hw2] at X2 H2 eg
  have X3 := Lib.hid (blk_alloc X2.out (.cells #[.pointer none, .slice none 0 0] 164))
  have H3 := Lib.hid (below_alloc H2.out (.cells #[.pointer none, .slice none 0 0] 164))
  have J3 := Lib.hid (bd_new w2)
  obtain ⟨gb, hgb⟩ : ∃ gb, gb = w2.heap.size := ⟨_, rfl⟩
  have z3 : gx < gb := by omega
  have zb : gb ≤ (w2.alloc (.cells #[.pointer none, .slice none 0 0] 164)).heap.size := by rw [hgb]; simp
  rw [← hgb] at J3
  have EX := Lib.hid hgx
  have EW := Lib.hid hw2
  have EB := Lib.hid (hgb.trans eg)
  clear hw2 hgb eg hgx
  go_wp2_with fail
  rw [← EW.out]
  simp only [← EX.out]
  simp only [← EB.out]
  simp only [← FI.out]
  generalize w2.alloc (.cells #[.pointer none, .slice none 0 0] 164) = w3 at X3 H3 J3 zb ⊢
  obtain ⟨f, rfl⟩ : ∃ f : Nat, first = (f : Int) := ⟨first.toNat, by omega⟩
  simp only [Int.toNat_natCast] at DL
  clear X2 H2 EX EW EB
  go_loopw [12] (fun i wr => ∃ (j m : Nat) (l : List UInt8), i = .int .i64 j ∧ Hid (rngL k FR x to_ m j l = some q) ∧ Hid (Bd gb gb l wr) ∧ Hid (wr.heap[gx]? = some (.cells (stC x A n) 86 (0, 0))) ∧ Hid (Below w1.heap.size w1 wr) ∧ gb ≤ wr.heap.size) (fun i _ => x.segs.length - (intOf i).toNat)
  case atStart => exact ⟨f, k, [], rfl, DL, J3, X3, H3, zb⟩
  case round =>
   clear X3 H3 J3 zb DL
   obtain ⟨j, m, l, rfl, hD, hJ, hX, hB, hz⟩ := hrel
   cases m with
   | zero => exact absurd hD.out (by simp [rngL])
   | succ m =>
   have hD2 := hD.out
   unfold rngL at hD2
   obtain ⟨y, hy⟩ : ∃ y, y = wrap64 ((j : Int) * x.size) := ⟨_, rfl⟩
   rw [← hy] at hD2
   obtain ⟨-, -, k2, -, -, -, -⟩ := st_cells hX.out
   have HY := Lib.hid hy
   by_cases hlt : y < to_
   ·rw [if_pos hlt] at hD2
    have jm : decide (wrap64 ((j : Int) * x.size) < to_) = true := by rw [← hy]; exact decide_eq_true hlt
    clear hy
    by_cases hc : j < x.segs.length ∧ (x.segs.getD j ByteArray.empty).size ≤ 140737488351232
    ·rw [if_pos hc] at hD2
     obtain ⟨hj, hsz⟩ := hc
     obtain ⟨⟨t, ok⟩, hd, hD2⟩ := Option.bind_eq_some_iff.1 hD2
     have DC := Lib.hid (fileData_c k hFR x A n j (t, ok) wr (Kd.C_below RC.out hB.out) hj hsz (Extra.Laid.below_ L1.out hB.out) hd)
     have ld := Agg.load_all (P := Tryz.prog) hX.out 86 _ Tryz.underlying86 rfl kr
     dsimp only at hD2 DC
     have D2 := Lib.hid hD2
     clear hd hD hD2 hsz
     go_wp2_with fail
     refine DC.out.mono ?_
     rintro e w4 ⟨rfl, hb⟩
     have X4 := Lib.hid (blk_below hX.out hb)
     have H4 := Lib.hid (below_step hB.out hb)
     have J4 := Lib.hid (bd_move hJ.out hb)
     have z4 := Nat.le_trans hz hb.size
     clear hb ld DC hX hB hJ hz k2
     cases ok
     ·have hR := D2.out
      rw [if_neg (by simp)] at hR
      obtain rfl := Option.some.inj hR
      have hR := HR.out
      rw [if_neg (by simp)] at hR
      obtain rfl := Option.some.inj hR
      go_wp2_with fail
      go_ret2
      exact ⟨rfl, below_step H1.out H4.out⟩
     ·have hD3 := D2.out
      rw [if_pos rfl] at hD3
      by_cases hlen : l.length + t.size ≤ 140737488355328
      ·rw [if_pos hlen] at hD3
       have D3 := Lib.hid hD3
       clear hD3 D2
       go_wp2_with fail
       refine (bd_write _ _ l _ _ J4.out hlen z4).mono ?_
       rintro e w5 ⟨q5, rfl, hI, hb⟩
       have J5 := Lib.hid hI
       have X5 := Lib.hid ((hb.block gx z3).trans X4.out)
       have H5 := Lib.hid (bel_of H4.out hb (show w1.heap.size ≤ gb by omega))
       have z5 := Nat.le_trans z4 hb.size
       clear hI hb X4 H4 J4 z4
       go_wp2_with fail
       exact ⟨⟨j + 1, m, _, by go_num, D3, J5, X5, H5, z5⟩, by simp [intOf]; omega⟩
      ·rw [if_neg hlen] at hD3
       cases hD3
    ·rw [if_neg hc] at hD2
     cases hD2
   ·rw [if_neg hlt] at hD2
    obtain rfl := Option.some.inj hD2
    have jm : decide (wrap64 ((j : Int) * x.size) < to_) = false := by rw [← hy]; exact decide_eq_false hlt
    have hR := HR.out
    rw [if_pos rfl] at hR
    obtain ⟨fr, hf, hR⟩ := Option.bind_eq_some_iff.1 hR
    have PF := Lib.hid (fun w => pcm_Frame.calls x.c x.b fr w hf)
    dsimp only at hR
    obtain ⟨lo, hlo⟩ : ∃ lo, lo = wrap64 (wrap64 (from_ - wrap64 ((f : Int) * x.size)) * fr) := ⟨_, rfl⟩
    obtain ⟨hi, hhi⟩ : ∃ hi, hi = wrap64 (wrap64 (to_ - wrap64 ((f : Int) * x.size)) * fr) := ⟨_, rfl⟩
    rw [← hlo, ← hhi] at hR
    by_cases hs : 0 ≤ lo ∧ lo ≤ hi ∧ hi ≤ (l.length : Int)
    rotate_left
    ·rw [if_neg hs] at hR
     cases hR
    rw [if_pos hs] at hR
    have hR := Option.some.inj hR
    subst hR
    obtain ⟨s0, s1, s2⟩ := hs
    obtain ⟨L8, hL8⟩ : ∃ L8 : ByteArray, L8 = ⟨l.toArray⟩ := ⟨_, rfl⟩
    have sl : hi ≤ (L8.size : Int) := by rw [hL8]; show hi ≤ (l.toArray.size : Int); simpa using s2
    have SC := Lib.hid (fun w (hI : Bd gb gb l w) hz => bd_string _ _ l w hI hz)
    rw [← hL8] at SC
    have HL8 := Lib.hid hL8
    rw [hlo] at s0 s1
    rw [hhi] at s1 sl
    have EL := Lib.hid hlo
    have EH := Lib.hid hhi
    clear hf hR hL8 hD hD2 HR hlt hy s2 hlo hhi
    go_wp2_with fail
    have X8 := Lib.hid (blk_drew hX.out)
    have H8 := Lib.hid (below_drew1 hB.out)
    have J8 := Lib.hid (bd_move hJ.out (below_drew1 (Below.refl wr.heap.size wr)))
    have z8 := Lib.hid ((show gb ≤ wr.drew.heap.size from hz))
    refine start_ (n := 9) (S := fun w' => w'.heap[gx]? = some (.cells (stC x A n) 86 (0, 0))) (ds := []) #[J,J,J,J,J,J,J,J,J] kr rfl rfl (blk_drew hX.out) (fun hHeld => ?_)
    refine with_tabW rQ17_tab rQ17_bits (fun HT_ HW_ => ?_)
    generalize wr.drew = w8 at X8 H8 J8 z8 hHeld ⊢
    clear hX hB hJ hz
    refine pu_ 0 66 (z 9 1) HT_ ?_
    refine ta_ 1 67 (z 9 3) HT_ HW_ hHeld rfl b59_ ?_
    refine pu_ 3 69 (z 9 11) HT_ ?_
    refine pu_ 4 70 (z 9 27) HT_ ?_
    refine ta_ 5 71 (z 9 59) HT_ HW_ hHeld rfl b59_ ?_
    refine pu_ 6 72 (z 9 123) HT_ ?_
    refine one_ (i := 2) (N := some 68) #[Y,Y,Y,Y,Y,Y,Y,J,J] rfl rfl (one_of HT_.out kr) (by decide) (fun K hK => ?_)
    refine goes_ Tryz.func75 kr rfl #[.agg #[.int .i64 x.c, .int .i64 x.b]] (by rfl) rfl rfl b66_ ?_
    refine (PF.out _).mono ?_
    rintro e w9 ⟨rfl, hb⟩
    refine ⟨_, rfl, ?_⟩
    have X9 := Lib.hid (blk_below X8.out hb)
    have H9 := Lib.hid (below_step H8.out hb)
    have J9 := Lib.hid (bd_move J8.out hb)
    have z9 := Nat.le_trans z8.out hb.size
    clear hb X8 H8 J8 z8 PF
    refine hK.out _ _ (X9.out) (fun hHeld => ?_)
    clear hK K
    refine norm_ (a' := ?_) ?_ ?_
    rotate_left
    ·show Act.put _ (some 68) _ = _
     exact pT
    refine pu_ 7 15 (z 9 255) HT_ ?_
    refine pu_ 8 16 (z 9 511) HT_ ?_
    refine done_ (done_of HT_.out kr) ?_
    clear hHeld
    go_wp2_with fail
    refine (SC.out _ J9.out z9).mono ?_
    rintro e w10 ⟨rfl, hb⟩
    have H10 := Lib.hid (bel_of H9.out hb (show w1.heap.size ≤ gb by omega))
    clear hb
    go_wp2_with fail
    go_ret2
    exact ⟨by rw [EL.out, EH.out, ← HL8.out]; rfl, below_step H1.out H10.out⟩
 ·rw [if_neg h0] at h
  obtain rfl := Option.some.inj h
  have e1 : decide (e0 = 0) = false := decide_eq_false h0
  have e2 : (e0 == 0) = false := beq_eq_false_iff_ne.2 h0
  have e3 : (e0 != 0) = true := bne_iff_ne.2 h0
  clear h0 h
  go_enter Tryz.func40, Tryz.ntmps40
  go_wp2_with fail
  refine (GC.out _).mono ?_
  rintro e w1 ⟨A, n, rfl, hC, hn, hb⟩
  have H2 := Lib.hid (below_alloc hb (.cells (stC x A n) 86))
  clear hC hb
  go_wp2_with fail
  go_ret2
  exact ⟨rfl, H2.out⟩
end Go.Proofs.YtnoibcdojfnicaaGreatDoor.PG
namespace Go.Proofs.YtnoibcdojfnicaaGreatDoor.PG
open Go.Proofs.YtnoibcdojfnicaaGreatDoorW.Short
open Bool renaming true → Y, false → J
open Go.RowKit Go.Proofs.YtnoibcdojfnicaaGreatDoorW.PrintWords Go.Proofs.YtnoibcdojfnicaaGreatDoorW.PrintLast Go.Proofs.YtnoibcdojfnicaaGreatDoorW.PrintMore
attribute [local go_sem] max2_int min2_int max_two min_two max_three min_three max_four min_four
def descantlaw0_SameInts.l0 : Nat → List Int → List Int → Int → Option (Bool)
 | 0, _, _, _ => none
 | k + 1, x0, x1, x5 => if x5 < (x0.length : Int) then (if 0 ≤ x5 then (if x5 < (x1.length : Int) then (if (rd x0 x5) = (rd x1 x5) then (descantlaw0_SameInts.l0 k x0 x1 (wrap64 (x5 + 1))) else (some false)) else (none)) else (none)) else (some true)
def descantlaw0_SameInts.f (k : Nat) (l0 : List Int) (l1 : List Int) : Option (Bool) := if (l0.length : Int) = (l1.length : Int) then (descantlaw0_SameInts.l0 k l0 l1 0) else (some false)
theorem descantlaw0_SameInts.calls (k : Nat) (A0 : Option Addr) (c0 : Nat) (l0 : List Int) (A1 : Option Addr) (c1 : Nat) (l1 : List Int) (r : Bool) (w : World) (hr0 : Kd.C (Kd.int .i64) w A0 l0.length l0) (hc0 : l0.length ≤ c0) (hr1 : Kd.C (Kd.int .i64) w A1 l1.length l1) (hc1 : l1.length ≤ c1) (h : descantlaw0_SameInts.f k l0 l1 = some r) :
  Calls Tryz.prog 108 #[.slice A0 l0.length c0, .slice A1 l1.length c1] w fun e w' => e = .returned (.bool r) ∧ Drawn0 w w' := by
 have HR0 := Aside0.mk hr0
 have HC0 := Aside0.mk hc0
 clear hr0 hc0
 have HR1 := Aside0.mk hr1
 have HC1 := Aside0.mk hc1
 clear hr1 hc1
 have H : (if (l0.length : Int) = (l1.length : Int) then (descantlaw0_SameInts.l0 k l0 l1 0) else (some false)) = some r := h
 clear h
 by_cases c3 : (l0.length : Int) = (l1.length : Int)
 ·rw [if_pos c3] at H
  have c3b0 : ((l0.length : Int) == (l1.length : Int)) = true := beq_iff_eq.mpr c3
  have c3b1 : ((l0.length : Int) != (l1.length : Int)) = false := bne_eq_false_iff_eq.mpr c3
  have c3b2 : (l0.length == l1.length) = true := by first | simpa using c3 | (simp at c3 ⊢; omega)
  clear c3
  have H' := Aside0.mk H
  clear H
  go_enter Tryz.func108, Tryz.ntmps108
  go_wp2
  repeat ((fail_if_success (with_reducible (first | refine Extra.ahead_loop ?_ | refine Extra.ahead_loop_seq ?_))); go_quiet (fail); try go_wp2)
  go_loopg [5] k (fun kq v5 w' => ∃ (x5_1 : Int), v5 = .int .i64 x5_1 ∧ Aside0 (descantlaw0_SameInts.l0 kq l0 l1 x5_1 = some r) ∧ Aside0 (kq ≤ k) ∧ Drawn0 w w')
  case atStart => exact ⟨(0), b75_, H', ⟨Nat.le_refl _⟩, b69_⟩
  case round =>
   clear H'
   try clear c1
   try clear p2
   try clear c3
   try clear c3b0
   try clear c3b1
   try clear c3b2
   obtain ⟨x5_1, rfl, HA, HK1, ⟨m1, rfl⟩⟩ := hrel
   cases gk with
   | zero => exact absurd HA.out (by simp [descantlaw0_SameInts.l0])
   | succ k1 =>
    have H := HA.out
    clear HA
    simp only [descantlaw0_SameInts.l0] at H
    by_cases c4 : x5_1 < (l0.length : Int)
    ·rw [if_pos c4] at H
     have c4b0 : decide (x5_1 < (l0.length : Int)) = true := decide_eq_true c4
     clear c4
     by_cases c5 : 0 ≤ x5_1
     ·rw [if_pos c5] at H
      have c5b0 : decide (0 ≤ x5_1) = true := decide_eq_true c5
      clear c5
      by_cases c6 : x5_1 < (l1.length : Int)
      ·rw [if_pos c6] at H
       have c6b0 : decide (x5_1 < (l1.length : Int)) = true := decide_eq_true c6
       clear c6
       by_cases c7 : (rd l0 x5_1) = (rd l1 x5_1)
       ·rw [if_pos c7] at H
        have c7b0 : ((rd l0 x5_1) == (rd l1 x5_1)) = true := beq_iff_eq.mpr c7
        have c7b1 : ((rd l0 x5_1) != (rd l1 x5_1)) = false := bne_eq_false_iff_eq.mpr c7
        clear c7
        have H' := Aside0.mk H
        clear H
        have p369 : 0 ≤ (x5_1 : Int) := of_decide_eq_true b73_
        have q369 : x5_1 < (l0.length : Int) := of_decide_eq_true b73_
        obtain ⟨ad369, e369, hx369_0⟩ := Kd.at_int HR0.out x5_1 p369 q369
        cases e369
        replace p369 := eq_true p369
        replace q369 := eq_true q369
        have p370 : 0 ≤ (x5_1 : Int) := of_decide_eq_true b73_
        have q370 : x5_1 < (l1.length : Int) := of_decide_eq_true b73_
        obtain ⟨ad370, e370, hx370_0⟩ := Kd.at_int HR1.out x5_1 p370 q370
        cases e370
        replace p370 := eq_true p370
        replace q370 := eq_true q370
        go_wp2
        repeat ((fail_if_success (with_reducible (first | refine Extra.ahead_loop ?_ | refine Extra.ahead_loop_seq ?_))); go_quiet (fail); try go_wp2)
        go_roundg k1
        case measure => have := HK1.out; omega
        case rel => exact ⟨(wrap64 (x5_1 + 1)), b75_, H', ⟨b83_⟩, b69_⟩
       ·rw [if_neg c7] at H
        have c7b0 : ((rd l0 x5_1) == (rd l1 x5_1)) = false := beq_eq_false_iff_ne.mpr c7
        have c7b1 : ((rd l0 x5_1) != (rd l1 x5_1)) = true := bne_iff_ne.mpr c7
        obtain rfl := Option.some.inj H
        have p369 : 0 ≤ (x5_1 : Int) := of_decide_eq_true b73_
        have q369 : x5_1 < (l0.length : Int) := of_decide_eq_true b73_
        obtain ⟨ad369, e369, hx369_0⟩ := Kd.at_int HR0.out x5_1 p369 q369
        cases e369
        replace p369 := eq_true p369
        replace q369 := eq_true q369
        have p370 : 0 ≤ (x5_1 : Int) := of_decide_eq_true b73_
        have q370 : x5_1 < (l1.length : Int) := of_decide_eq_true b73_
        obtain ⟨ad370, e370, hx370_0⟩ := Kd.at_int HR1.out x5_1 p370 q370
        cases e370
        replace p370 := eq_true p370
        replace q370 := eq_true q370
        go_wp2
        repeat ((fail_if_success (with_reducible (first | refine Extra.ahead_loop ?_ | refine Extra.ahead_loop_seq ?_))); go_quiet (fail); try go_wp2)
        go_ret
        exact ⟨b76_, b69_⟩
      ·rw [if_neg c6] at H
       exact absurd H (by simp)
     ·rw [if_neg c5] at H
      exact absurd H (by simp)
    ·rw [if_neg c4] at H
     have c4b0 : decide (x5_1 < (l0.length : Int)) = false := decide_eq_false c4
     clear c4
     obtain rfl := Option.some.inj H
     go_wp2
     repeat ((fail_if_success (with_reducible (first | refine Extra.ahead_loop ?_ | refine Extra.ahead_loop_seq ?_))); go_quiet (fail); try go_wp2)
     go_ret
     exact ⟨b76_, b69_⟩
 ·rw [if_neg c3] at H
  have c3b0 : ((l0.length : Int) == (l1.length : Int)) = false := beq_eq_false_iff_ne.mpr c3
  have c3b1 : ((l0.length : Int) != (l1.length : Int)) = true := bne_iff_ne.mpr c3
  have c3b2 : (l0.length == l1.length) = false := by first | simpa using c3 | (simp at c3 ⊢; omega)
  obtain rfl := Option.some.inj H
  go_enter Tryz.func108, Tryz.ntmps108
  go_wp2
  repeat ((fail_if_success (with_reducible (first | refine Extra.ahead_loop ?_ | refine Extra.ahead_loop_seq ?_))); go_quiet (fail); try go_wp2)
  go_ret
  exact ⟨b76_, b69_⟩
def descantlaw0_SameLists.l0 : Nat → List (List Int) → List (List Int) → Int → Option (Bool)
 | 0, _, _, _ => none
 | k + 1, x0, x1, x5 => if x5 < (x0.length : Int) then (if 0 ≤ x5 then (if x5 < (x1.length : Int) then ((descantlaw0_SameInts.f k (rd_L1 x0 x5) (rd_L1 x1 x5)).bind fun t373 => (if t373 = true then (descantlaw0_SameLists.l0 k x0 x1 (wrap64 (x5 + 1))) else (some false))) else (none)) else (none)) else (some true)
def descantlaw0_SameLists.f (k : Nat) (l0 : List (List Int)) (l1 : List (List Int)) : Option (Bool) := if (l0.length : Int) = (l1.length : Int) then (descantlaw0_SameLists.l0 k l0 l1 0) else (some false)
theorem descantlaw0_SameLists.calls (k : Nat) (A0 : Option Addr) (c0 : Nat) (l0 : List (List Int)) (A1 : Option Addr) (c1 : Nat) (l1 : List (List Int)) (r : Bool) (w : World) (hr0 : Kd.C (Kd.slice 3 (Kd.int .i64)) w A0 l0.length l0) (hc0 : l0.length ≤ c0) (hr1 : Kd.C (Kd.slice 3 (Kd.int .i64)) w A1 l1.length l1) (hc1 : l1.length ≤ c1) (h : descantlaw0_SameLists.f k l0 l1 = some r) :
  Calls Tryz.prog 44 #[.slice A0 l0.length c0, .slice A1 l1.length c1] w fun e w' => e = .returned (.bool r) ∧ Drawn0 w w' := by
 have HR0 := Aside0.mk hr0
 have HC0 := Aside0.mk hc0
 clear hr0 hc0
 have HR1 := Aside0.mk hr1
 have HC1 := Aside0.mk hc1
 clear hr1 hc1
 have H : (if (l0.length : Int) = (l1.length : Int) then (descantlaw0_SameLists.l0 k l0 l1 0) else (some false)) = some r := h
 clear h
 by_cases c3 : (l0.length : Int) = (l1.length : Int)
 ·rw [if_pos c3] at H
  have c3b0 : ((l0.length : Int) == (l1.length : Int)) = true := beq_iff_eq.mpr c3
  have c3b1 : ((l0.length : Int) != (l1.length : Int)) = false := bne_eq_false_iff_eq.mpr c3
  have c3b2 : (l0.length == l1.length) = true := by first | simpa using c3 | (simp at c3 ⊢; omega)
  clear c3
  have H' := Aside0.mk H
  clear H
  go_enter Tryz.func44, Tryz.ntmps44
  go_wp2
  repeat ((fail_if_success (with_reducible (first | refine Extra.ahead_loop ?_ | refine Extra.ahead_loop_seq ?_))); go_quiet (fail); try go_wp2)
  go_loopg [5] k (fun kq v5 w' => ∃ (x5_1 : Int), v5 = .int .i64 x5_1 ∧ Aside0 (descantlaw0_SameLists.l0 kq l0 l1 x5_1 = some r) ∧ Aside0 (kq ≤ k) ∧ Drawn0 w w')
  case atStart => exact ⟨(0), b75_, H', ⟨Nat.le_refl _⟩, b69_⟩
  case round =>
   clear H'
   try clear c1
   try clear p2
   try clear c3
   try clear c3b0
   try clear c3b1
   try clear c3b2
   obtain ⟨x5_1, rfl, HA, HK1, ⟨m1, rfl⟩⟩ := hrel
   cases gk with
   | zero => exact absurd HA.out (by simp [descantlaw0_SameLists.l0])
   | succ k1 =>
    have H := HA.out
    clear HA
    simp only [descantlaw0_SameLists.l0] at H
    by_cases c4 : x5_1 < (l0.length : Int)
    ·rw [if_pos c4] at H
     have c4b0 : decide (x5_1 < (l0.length : Int)) = true := decide_eq_true c4
     clear c4
     by_cases c5 : 0 ≤ x5_1
     ·rw [if_pos c5] at H
      have c5b0 : decide (0 ≤ x5_1) = true := decide_eq_true c5
      clear c5
      by_cases c6 : x5_1 < (l1.length : Int)
      ·rw [if_pos c6] at H
       have c6b0 : decide (x5_1 < (l1.length : Int)) = true := decide_eq_true c6
       clear c6
       replace H := Option.bind_eq_some_iff.mp H
       obtain ⟨t373, A70, H⟩ := H
       replace H : (if t373 = true then (descantlaw0_SameLists.l0 k1 l0 l1 (wrap64 (x5_1 + 1))) else (some false)) = some r := H
       have A7 := Aside0.mk A70
       clear A70
       by_cases c8 : t373 = true
       ·subst c8
        have H1 : (descantlaw0_SameLists.l0 k1 l0 l1 (wrap64 (x5_1 + 1))) = some r := by rw [if_pos rfl] at H; exact H
        clear H
        have H := H1
        clear H1
        have H' := Aside0.mk H
        clear H
        have p371 : 0 ≤ (x5_1 : Int) := of_decide_eq_true b73_
        have q371 : x5_1 < (l0.length : Int) := of_decide_eq_true b73_
        obtain ⟨ad371, A371_0, c371_0, e371, hx371_0, hl371_0, hi371_0⟩ := at_L1 HR0.out x5_1 p371 q371
        cases e371
        have HR371_0 := Aside0.mk hi371_0
        have HC371_0 := Aside0.mk hl371_0
        clear hi371_0 hl371_0
        replace p371 := eq_true p371
        replace q371 := eq_true q371
        have p372 : 0 ≤ (x5_1 : Int) := of_decide_eq_true b73_
        have q372 : x5_1 < (l1.length : Int) := of_decide_eq_true b73_
        obtain ⟨ad372, A372_0, c372_0, e372, hx372_0, hl372_0, hi372_0⟩ := at_L1 HR1.out x5_1 p372 q372
        cases e372
        have HR372_0 := Aside0.mk hi372_0
        have HC372_0 := Aside0.mk hl372_0
        clear hi372_0 hl372_0
        replace p372 := eq_true p372
        replace q372 := eq_true q372
        go_wp2_with (first | (go_at_call 108; (with_reducible refine (descantlaw0_SameInts.calls k1 _ _ (rd_L1 l0 x5_1) _ _ (rd_L1 l1 x5_1) true _ ?side1 ?side2 ?side3 ?side4 A7.out).mono ?_); (case side1 => repeat (first | exact HR371_0.out | (with_reducible refine Kd.C_alloc ?_ _) | (with_reducible refine Kd.C_drewN ?_ _) | (with_reducible refine Kd.C_drew ?_))); (case side2 => exact HC371_0.out); (case side3 => repeat (first | exact HR372_0.out | (with_reducible refine Kd.C_alloc ?_ _) | (with_reducible refine Kd.C_drewN ?_ _) | (with_reducible refine Kd.C_drew ?_))); (case side4 => exact HC372_0.out); rintro e w' ⟨rfl, ⟨nd, rfl⟩⟩; (try first | exact ⟨rfl, _, World.drewN_drewN _ _ _⟩ | exact ⟨rfl, _, Eq.trans (World.drewN_drewN _ _ _) (congrArg (World.drewN _) (Nat.add_assoc _ _ _))⟩)))
        repeat ((fail_if_success (with_reducible (first | refine Extra.ahead_loop ?_ | refine Extra.ahead_loop_seq ?_))); go_quiet (first | (go_at_call 108; (with_reducible refine (descantlaw0_SameInts.calls k1 _ _ (rd_L1 l0 x5_1) _ _ (rd_L1 l1 x5_1) true _ ?side1 ?side2 ?side3 ?side4 A7.out).mono ?_); (case side1 => repeat (first | exact HR371_0.out | (with_reducible refine Kd.C_alloc ?_ _) | (with_reducible refine Kd.C_drewN ?_ _) | (with_reducible refine Kd.C_drew ?_))); (case side2 => exact HC371_0.out); (case side3 => repeat (first | exact HR372_0.out | (with_reducible refine Kd.C_alloc ?_ _) | (with_reducible refine Kd.C_drewN ?_ _) | (with_reducible refine Kd.C_drew ?_))); (case side4 => exact HC372_0.out); rintro e w' ⟨rfl, ⟨nd, rfl⟩⟩; (try first | exact ⟨rfl, _, World.drewN_drewN _ _ _⟩ | exact ⟨rfl, _, Eq.trans (World.drewN_drewN _ _ _) (congrArg (World.drewN _) (Nat.add_assoc _ _ _))⟩))); try go_wp2_with (first | (go_at_call 108; (with_reducible refine (descantlaw0_SameInts.calls k1 _ _ (rd_L1 l0 x5_1) _ _ (rd_L1 l1 x5_1) true _ ?side1 ?side2 ?side3 ?side4 A7.out).mono ?_); (case side1 => repeat (first | exact HR371_0.out | (with_reducible refine Kd.C_alloc ?_ _) | (with_reducible refine Kd.C_drewN ?_ _) | (with_reducible refine Kd.C_drew ?_))); (case side2 => exact HC371_0.out); (case side3 => repeat (first | exact HR372_0.out | (with_reducible refine Kd.C_alloc ?_ _) | (with_reducible refine Kd.C_drewN ?_ _) | (with_reducible refine Kd.C_drew ?_))); (case side4 => exact HC372_0.out); rintro e w' ⟨rfl, ⟨nd, rfl⟩⟩; (try first | exact ⟨rfl, _, World.drewN_drewN _ _ _⟩ | exact ⟨rfl, _, Eq.trans (World.drewN_drewN _ _ _) (congrArg (World.drewN _) (Nat.add_assoc _ _ _))⟩))))
        go_roundg k1
        case measure => have := HK1.out; omega
        case rel => exact ⟨(wrap64 (x5_1 + 1)), b75_, H', ⟨b83_⟩, b69_⟩
       ·replace c8 := Bool.eq_false_iff.mpr c8
        subst c8
        have H1 : (some false) = some r := by rw [if_neg (show ¬ (false = true) by decide)] at H; exact H
        clear H
        have H := H1
        clear H1
        obtain rfl := Option.some.inj H
        have p371 : 0 ≤ (x5_1 : Int) := of_decide_eq_true b73_
        have q371 : x5_1 < (l0.length : Int) := of_decide_eq_true b73_
        obtain ⟨ad371, A371_0, c371_0, e371, hx371_0, hl371_0, hi371_0⟩ := at_L1 HR0.out x5_1 p371 q371
        cases e371
        have HR371_0 := Aside0.mk hi371_0
        have HC371_0 := Aside0.mk hl371_0
        clear hi371_0 hl371_0
        replace p371 := eq_true p371
        replace q371 := eq_true q371
        have p372 : 0 ≤ (x5_1 : Int) := of_decide_eq_true b73_
        have q372 : x5_1 < (l1.length : Int) := of_decide_eq_true b73_
        obtain ⟨ad372, A372_0, c372_0, e372, hx372_0, hl372_0, hi372_0⟩ := at_L1 HR1.out x5_1 p372 q372
        cases e372
        have HR372_0 := Aside0.mk hi372_0
        have HC372_0 := Aside0.mk hl372_0
        clear hi372_0 hl372_0
        replace p372 := eq_true p372
        replace q372 := eq_true q372
        go_wp2_with (first | (go_at_call 108; (with_reducible refine (descantlaw0_SameInts.calls k1 _ _ (rd_L1 l0 x5_1) _ _ (rd_L1 l1 x5_1) false _ ?side1 ?side2 ?side3 ?side4 A7.out).mono ?_); (case side1 => repeat (first | exact HR371_0.out | (with_reducible refine Kd.C_alloc ?_ _) | (with_reducible refine Kd.C_drewN ?_ _) | (with_reducible refine Kd.C_drew ?_))); (case side2 => exact HC371_0.out); (case side3 => repeat (first | exact HR372_0.out | (with_reducible refine Kd.C_alloc ?_ _) | (with_reducible refine Kd.C_drewN ?_ _) | (with_reducible refine Kd.C_drew ?_))); (case side4 => exact HC372_0.out); rintro e w' ⟨rfl, ⟨nd, rfl⟩⟩; (try first | exact ⟨rfl, _, World.drewN_drewN _ _ _⟩ | exact ⟨rfl, _, Eq.trans (World.drewN_drewN _ _ _) (congrArg (World.drewN _) (Nat.add_assoc _ _ _))⟩)))
        repeat ((fail_if_success (with_reducible (first | refine Extra.ahead_loop ?_ | refine Extra.ahead_loop_seq ?_))); go_quiet (first | (go_at_call 108; (with_reducible refine (descantlaw0_SameInts.calls k1 _ _ (rd_L1 l0 x5_1) _ _ (rd_L1 l1 x5_1) false _ ?side1 ?side2 ?side3 ?side4 A7.out).mono ?_); (case side1 => repeat (first | exact HR371_0.out | (with_reducible refine Kd.C_alloc ?_ _) | (with_reducible refine Kd.C_drewN ?_ _) | (with_reducible refine Kd.C_drew ?_))); (case side2 => exact HC371_0.out); (case side3 => repeat (first | exact HR372_0.out | (with_reducible refine Kd.C_alloc ?_ _) | (with_reducible refine Kd.C_drewN ?_ _) | (with_reducible refine Kd.C_drew ?_))); (case side4 => exact HC372_0.out); rintro e w' ⟨rfl, ⟨nd, rfl⟩⟩; (try first | exact ⟨rfl, _, World.drewN_drewN _ _ _⟩ | exact ⟨rfl, _, Eq.trans (World.drewN_drewN _ _ _) (congrArg (World.drewN _) (Nat.add_assoc _ _ _))⟩))); try go_wp2_with (first | (go_at_call 108; (with_reducible refine (descantlaw0_SameInts.calls k1 _ _ (rd_L1 l0 x5_1) _ _ (rd_L1 l1 x5_1) false _ ?side1 ?side2 ?side3 ?side4 A7.out).mono ?_); (case side1 => repeat (first | exact HR371_0.out | (with_reducible refine Kd.C_alloc ?_ _) | (with_reducible refine Kd.C_drewN ?_ _) | (with_reducible refine Kd.C_drew ?_))); (case side2 => exact HC371_0.out); (case side3 => repeat (first | exact HR372_0.out | (with_reducible refine Kd.C_alloc ?_ _) | (with_reducible refine Kd.C_drewN ?_ _) | (with_reducible refine Kd.C_drew ?_))); (case side4 => exact HC372_0.out); rintro e w' ⟨rfl, ⟨nd, rfl⟩⟩; (try first | exact ⟨rfl, _, World.drewN_drewN _ _ _⟩ | exact ⟨rfl, _, Eq.trans (World.drewN_drewN _ _ _) (congrArg (World.drewN _) (Nat.add_assoc _ _ _))⟩))))
        go_ret
        exact ⟨b76_, b69_⟩
      ·rw [if_neg c6] at H
       exact absurd H (by simp)
     ·rw [if_neg c5] at H
      exact absurd H (by simp)
    ·rw [if_neg c4] at H
     have c4b0 : decide (x5_1 < (l0.length : Int)) = false := decide_eq_false c4
     clear c4
     obtain rfl := Option.some.inj H
     go_wp2
     repeat ((fail_if_success (with_reducible (first | refine Extra.ahead_loop ?_ | refine Extra.ahead_loop_seq ?_))); go_quiet (fail); try go_wp2)
     go_ret
     exact ⟨b76_, b69_⟩
 ·rw [if_neg c3] at H
  have c3b0 : ((l0.length : Int) == (l1.length : Int)) = false := beq_eq_false_iff_ne.mpr c3
  have c3b1 : ((l0.length : Int) != (l1.length : Int)) = true := bne_iff_ne.mpr c3
  have c3b2 : (l0.length == l1.length) = false := by first | simpa using c3 | (simp at c3 ⊢; omega)
  obtain rfl := Option.some.inj H
  go_enter Tryz.func44, Tryz.ntmps44
  go_wp2
  repeat ((fail_if_success (with_reducible (first | refine Extra.ahead_loop ?_ | refine Extra.ahead_loop_seq ?_))); go_quiet (fail); try go_wp2)
  go_ret
  exact ⟨b76_, b69_⟩
end Go.Proofs.YtnoibcdojfnicaaGreatDoor.PG
namespace Go.Proofs.YtnoibcdojfnicaaGreatDoor.PG
open Go.Proofs.YtnoibcdojfnicaaGreatDoorW.Short
open Bool renaming true → Y, false → J
open Go
def frNo : FRT := fun _ _ _ _ _ => none
def awW : ByteArray := ⟨#[82, 73, 70, 70, 54, 0, 0, 0, 87, 65, 86, 69, 102, 109, 116, 32, 16, 0, 0, 0, 1, 0, 1, 0, 114, 97, 116, 101, 97, 110, 100, 98, 2, 0, 16, 0, 100, 97, 116, 97, 6, 0, 0, 0, 5, 0, 6, 0, 7, 0, 109, 111, 114, 101, 3, 0, 0, 0, 97, 98, 99, 100]⟩
def awE : ByteArray := ⟨#[68, 83, 67, 84, 1, 16, 2, 3, 44, 12, 82, 73, 70, 70, 54, 0, 0, 0, 87, 65, 86, 69, 102, 109, 116, 32, 16, 0, 0, 0, 1, 0, 1, 0, 114, 97, 116, 101, 97, 110, 100, 98, 2, 0, 16, 0, 100, 97, 116, 97, 6, 0, 0, 0, 109, 111, 114, 101, 3, 0, 0, 0, 97, 98, 99, 100, 13, 0, 11, 0, 217, 2, 14, 228, 0, 0, 2, 4, 0, 5, 0, 6, 0, 37, 16, 131, 139, 2, 0, 1, 2, 0, 7, 0, 171, 185, 219, 210]⟩
def awH : ByteArray := ⟨#[82, 73, 70, 70, 54, 0, 0, 0, 87, 65, 86, 69, 102, 109, 116, 32, 16, 0, 0, 0, 1, 0, 1, 0, 114, 97, 116, 101, 97, 110, 100, 98, 2, 0, 16, 0, 100, 97, 116, 97, 6, 0, 0, 0]⟩
def awT : ByteArray := ⟨#[109, 111, 114, 101, 3, 0, 0, 0, 97, 98, 99, 100]⟩
def awS0 : ByteArray := ⟨#[0, 0, 2, 4, 0, 5, 0, 6, 0, 37, 16, 131, 139]⟩
def awS1 : ByteArray := ⟨#[2, 0, 1, 2, 0, 7, 0, 171, 185, 219, 210]⟩
def awD : ByteArray := ⟨#[5, 0, 6, 0, 7, 0]⟩
def awX : St := ⟨1, 16, 2, 3, awH, awT, [awS0, awS1]⟩
set_option maxRecDepth 100000
theorem aw_enc : encF 100 awW 2 = some (awE, 0) := by decide +kernel
theorem aw_get : stGet 100 awE = some (awX, 0) := by kernel_rfl
theorem aw_dec : decF 100 frNo awE = some (awW, 0) := by decide +kernel
theorem aw_parse : wave_Parse.f 100 awW = some (1, 16, awH, awD, awT, 0) := by decide +kernel
theorem aw_rng : rngF 100 frNo awE 0 3 = some (awD, 0) := by decide +kernel
theorem aw_pcm : pcm_Get.f 100 awD 1 16 = some ([[5, 6, 7]], 0) := by decide +kernel
theorem aw_seg : segGet 100 frNo awS0 1 16 = some (⟨#[5, 0, 6, 0]⟩, 0) := by decide +kernel
theorem aw_same : descantlaw0_SameLists.f 100 [[5, 6, 7]] [[5, 6, 7]] = some true := by decide +kernel
end Go.Proofs.YtnoibcdojfnicaaGreatDoor.PG
namespace Go.Proofs.YtnoibcdojfnicaaGreatDoor.PG
open Go.Proofs.YtnoibcdojfnicaaGreatDoorW.Short
open Bool renaming true → Y, false → J
open Go Go.RowKit Go.Proofs.YtnoibcdojfnicaaGreatDoorW.PrintWords Go.Proofs.YtnoibcdojfnicaaGreatDoorW.PrintMore Go.Proofs.YtnoibcdojfnicaaGreatDoorW.PrintLast
open Go.Proofs.YtnoibcdojfnicaaGreatDoor.Modn
def rW2T : Bool × List (List Nat × List Nat) := (true, [([], []), ([0], [0]), ([1], [1]), ([2], [2]), ([3], [3]), ([], []), ([5, 2], [5]), ([4, 6], [4, 6]), ([], []), ([8], [8]), ([9, 6], [9]), ([7, 10], [7, 10]), ([11, 10, 0, 1, 2, 3, 4, 5, 6, 7, 8, 9, 10, 11], [11])])
def rW2B : List Nat := [0, 1, 3, 7, 15, 0, 39, 127, 0, 256, 871, 2047, 4095]
theorem rW2_tab : rtab .any (opsOf Tryz.f42 2) = rW2T := by kernel_rfl
theorem rW2_bits : waitsOk rW2T.2 rW2B = true := by kernel_rfl
theorem awWav_c (W : World) : Calls Tryz.prog 42 #[.agg #[.int .i64 1, .int .i64 16], .string awD] W fun e w' => e = .returned (.string awW) ∧ Below W.heap.size W w' := by
 obtain ⟨d, hd⟩ : ∃ d, d = awD := ⟨_, rfl⟩
 have sd : d.size = 6 := by rw [hd]; rfl
 obtain ⟨la, ela⟩ : ∃ l, l = (⟨#[1, 0]⟩ : ByteArray) := ⟨_, rfl⟩
 have sla : la.size = 2 := by rw [ela]; rfl
 have LA_ := Lib.hid (fun w => descantref1_Low.calls 100 1 2 la w (by rw [ela]; decide +kernel))
 obtain ⟨lk, elk⟩ : ∃ l, l = (⟨#[2, 0]⟩ : ByteArray) := ⟨_, rfl⟩
 have slk : lk.size = 2 := by rw [elk]; rfl
 have LK_ := Lib.hid (fun w => descantref1_Low.calls 100 2 2 lk w (by rw [elk]; decide +kernel))
 obtain ⟨lb, elb⟩ : ∃ l, l = (⟨#[16, 0]⟩ : ByteArray) := ⟨_, rfl⟩
 have slb : lb.size = 2 := by rw [elb]; rfl
 have LB_ := Lib.hid (fun w => descantref1_Low.calls 100 16 2 lb w (by rw [elb]; decide +kernel))
 obtain ⟨ld, eld⟩ : ∃ l, l = (⟨#[6, 0, 0, 0]⟩ : ByteArray) := ⟨_, rfl⟩
 have sld : ld.size = 4 := by rw [eld]; rfl
 have LD_ := Lib.hid (fun w => descantref1_Low.calls 100 6 4 ld w (by rw [eld]; decide +kernel))
 obtain ⟨lr, elr⟩ : ∃ l, l = (⟨#[54, 0, 0, 0]⟩ : ByteArray) := ⟨_, rfl⟩
 have slr : lr.size = 4 := by rw [elr]; rfl
 have LR_ := Lib.hid (fun w => descantref1_Low.calls 100 54 4 lr w (by rw [elr]; decide +kernel))
 have hW : awW = (⟨#[82, 73, 70, 70]⟩ : ByteArray) ++ lr ++ ((⟨#[87, 65, 86, 69, 102, 109, 116, 32, 16, 0, 0, 0, 1, 0]⟩ : ByteArray) ++ la ++ ⟨#[114, 97, 116, 101, 97, 110, 100, 98]⟩ ++ lk ++ lb ++ ⟨#[100, 97, 116, 97]⟩ ++ ld ++ d ++ ⟨#[109, 111, 114, 101, 3, 0, 0, 0, 97, 98, 99, 100]⟩) := by
  rw [ela, elk, elb, eld, elr, hd]
  decide +kernel
 rw [← hd]
 have HW := Lib.hid hW
 clear hW ela elk elb eld elr hd
 obtain ⟨g, hg⟩ : ∃ g, g = W.heap.size := ⟨_, rfl⟩
 have B1 := Lib.hid (blk_new W (.cells #[.int .i64 1, .int .i64 16] 69))
 have H1 := Lib.hid (below_alloc (Below.refl W.heap.size W) (.cells #[.int .i64 1, .int .i64 16] 69))
 obtain ⟨k0, k1⟩ := fm_cells B1.out
 rw [← hg] at B1
 go_enter Tryz.func42, Tryz.ntmps42
 go_wp2_with fail
 simp only [← hg]
 clear k0 k1 hg
 generalize W.alloc (.cells #[.int .i64 1, .int .i64 16] 69) = w1 at B1 H1 ⊢
 have B2 := Lib.hid (blk_drew B1.out)
 have H2 := Lib.hid (below_drew1 H1.out)
 refine start_ (n := 13) (S := fun w' => w'.heap[g]? = some (.cells #[.int .i64 1, .int .i64 16] 69 (0, 0))) (ds := []) #[J,J,J,J,J,J,J,J,J,J,J,J,J] kr rfl rfl (blk_drew B1.out) (fun hHeld => ?_)
 refine with_tabW rW2_tab rW2_bits (fun HT_ HW_ => ?_)
 generalize w1.drew = w2 at B2 H2 hHeld ⊢
 clear B1 H1
 refine pu_ 0 13 (z 13 1) HT_ ?_
 refine ta_ 1 14 (z 13 3) HT_ HW_ hHeld rfl b65_ ?_
 refine pu_ 5 18 (z 13 35) HT_ ?_
 refine pu_ 8 21 (z 13 291) HT_ ?_
 refine ta_ 9 22 (z 13 803) HT_ HW_ hHeld rfl b65_ ?_
 refine one_ (i := 2) (N := some 15) #[Y,Y,Y,J,J,Y,J,J,Y,Y,J,J,J] rfl rfl (one_of HT_.out kr) (by decide) (fun K hK => ?_)
 refine goes_ Tryz.func105 kr rfl #[.int .i64 1, .int .i64 2] (by rfl) rfl rfl b66_ ?_
 refine (LA_.out _).mono ?_
 rintro e w3 ⟨rfl, hb⟩
 refine ⟨_, rfl, ?_⟩
 have B3 := Lib.hid (blk_below B2.out hb)
 have H3 := Lib.hid (below_step H2.out hb)
 clear hb B2 H2 LA_
 refine hK.out _ _ (B3.out) (fun hHeld => ?_)
 clear hK K
 refine norm_ (a' := ?_) ?_ ?_
 rotate_left
 ·show Act.put _ (some 15) _ = _
  exact pT
 refine pu_ 3 16 (z 13 815) HT_ ?_
 refine pu_ 4 17 (z 13 831) HT_ ?_
 refine one_ (i := 6) (N := some 19) #[Y,Y,Y,Y,Y,Y,Y,J,Y,Y,J,J,J] rfl rfl (one_of HT_.out kr) (by decide) (fun K hK => ?_)
 refine goes_ Tryz.func105 kr rfl #[.int .i64 2, .int .i64 2] (by rfl) rfl rfl b66_ ?_
 refine (LK_.out _).mono ?_
 rintro e w4 ⟨rfl, hb⟩
 refine ⟨_, rfl, ?_⟩
 have B4 := Lib.hid (blk_below B3.out hb)
 have H4 := Lib.hid (below_step H3.out hb)
 clear hb B3 H3 LK_
 refine hK.out _ _ (B4.out) (fun hHeld => ?_)
 clear hK K
 refine norm_ (a' := ?_) ?_ ?_
 rotate_left
 ·show Act.put _ (some 19) _ = _
  exact pT
 refine pu_ 7 20 (z 13 1023) HT_ ?_
 refine one_ (i := 10) (N := some 23) #[Y,Y,Y,Y,Y,Y,Y,Y,Y,Y,Y,J,J] rfl rfl (one_of HT_.out kr) (by decide) (fun K hK => ?_)
 refine goes_ Tryz.func105 kr rfl #[.int .i64 16, .int .i64 2] (by rfl) rfl rfl b66_ ?_
 refine (LB_.out _).mono ?_
 rintro e w5 ⟨rfl, hb⟩
 refine ⟨_, rfl, ?_⟩
 have B5 := Lib.hid (blk_below B4.out hb)
 have H5 := Lib.hid (below_step H4.out hb)
 clear hb B4 H4 LB_
 refine hK.out _ _ (B5.out) (fun hHeld => ?_)
 clear hK K
 refine norm_ (a' := ?_) ?_ ?_
 rotate_left
 ·show Act.put _ (some 23) _ = _
  exact pT
 refine pu_ 11 24 (z 13 4095) HT_ ?_
 refine pu_ 12 6 (z 13 8191) HT_ ?_
 refine done_ (done_of HT_.out kr) ?_
 clear hHeld
 go_wp2_with fail
 refine (LD_.out _).mono ?_
 rintro e w6 ⟨rfl, hb⟩
 have H6 := Lib.hid (below_step H5.out hb)
 clear hb
 go_wp2_with fail
 refine (LR_.out _).mono ?_
 rintro e w7 ⟨rfl, hb⟩
 have H7 := Lib.hid (below_step H6.out hb)
 clear hb
 go_wp2_with fail
 go_ret
 exact ⟨by rw [HW.out]; rfl, H7.out⟩
end Go.Proofs.YtnoibcdojfnicaaGreatDoor.PG
