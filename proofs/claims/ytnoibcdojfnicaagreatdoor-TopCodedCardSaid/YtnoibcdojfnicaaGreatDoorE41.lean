/- A part of the proof of a law of descanttop: this session's own texts and printed texts, shortened and joined. -/
import Derived.Test.YtnoibcdojfnicaaGreatDoorE40
set_option linter.unusedVariables false
set_option linter.unusedSimpArgs false
set_option maxRecDepth 100000
set_option maxHeartbeats 16000000
namespace Go.Proofs.YtnoibcdojfnicaaGreatDoor.PG
open Go.Proofs.YtnoibcdojfnicaaGreatDoorW.Short
open Bool renaming true → Y, false → J
open Go Go.RowKit Go.Proofs.YtnoibcdojfnicaaGreatDoorW.PrintWords Go.Proofs.YtnoibcdojfnicaaGreatDoorW.PrintMore Go.Proofs.YtnoibcdojfnicaaGreatDoorW.PrintLast
open Go.Proofs.YtnoibcdojfnicaaGreatDoor.Modn
attribute [-go_sem] Instr.loadAt Instr.storeAt Instr.build
def rA11T : Bool × List (List Nat × List Nat) := (true, [([], []), ([0], [0]), ([1], [1]), ([2], [2]), ([], []), ([3, 4], [3, 4]), ([5], [5]), ([6], [6]), ([6], [6]), ([7, 5, 0, 1, 2, 3, 4, 5, 6, 7], [7]), ([8, 9, 0, 1, 2, 3, 4, 5, 6, 7, 8, 9], [8])])
def rA11B : List Nat := [0, 1, 3, 7, 0, 31, 63, 127, 127, 255, 1023]
theorem rA11_tab : rtab .any (opsOf Tryz.f10 11) = rA11T := by kernel_rfl
theorem rA11_bits : waitsOk rA11T.2 rA11B = true := by kernel_rfl
abbrev fmC (c b : Int) : Array Value := #[.int .i64 c, .int .i64 b]
theorem store_new_fm (w : World) (c b : Int) : (Instr.storeAt 69 (.pointer (some { block := w.heap.size, off := 0 })) (.agg #[.int .i64 c, .int .i64 b])).run Tryz.prog (w.alloc (.cells #[.int .i64 0, .int .i64 0] 69 (0, 0))) = .ok () (w.alloc (.cells #[.int .i64 c, .int .i64 b] 69 (0, 0))) := by
 rw [Agg.store_all (P := Tryz.prog) (cs := #[.int .i64 0, .int .i64 0]) (blk_new w _) 69 #[.int .i64 c, .int .i64 b] kr rfl (by simp [Value.oneCell']), World.setRow_alloc_new]
attribute [local go_sem high] st_i6 ld_int ld_bool ld_strs ld_str ld_fm so_bool so_str so_strs bu_fm store_new_fm store_new_st shut_st store_new_wv shut_wv
theorem lists_567 (w : World) : Kd.C (Kd.slice 3 (Kd.int .i64)) ((w.alloc (.cells #[.int .i64 5, .int .i64 6, .int .i64 7] 3)).alloc (.cells #[.slice (some ⟨w.heap.size, 0, none⟩) 3 3] 22)) (some ⟨w.heap.size + 1, 0, none⟩) 1 [[5, 6, 7]] := by
 have h1 : (Kd.int .i64).C (w.alloc (.cells #[.int .i64 5, .int .i64 6, .int .i64 7] 3)) (some ⟨w.heap.size, 0, none⟩) 3 [5, 6, 7] := (Kd.R_reads' (Kd.R_of_own (own_lit w w.heap.size 3 .i64 [5, 6, 7] (Nat.le_refl _) (by decide)) (fun _ _ => trivial) : (Kd.int .i64).R 3 _ _ (fun _ => True) _ _)).2.2
 have h2 := Kd.C_below h1 (below_alloc (Below.refl _ _) (.cells #[.slice (some ⟨w.heap.size, 0, none⟩) 3 3] 22))
 have h3 : (w.alloc (.cells #[.int .i64 5, .int .i64 6, .int .i64 7] 3)).heap.size = w.heap.size + 1 := by simp
 have h4 := blk_new (w.alloc (.cells #[.int .i64 5, .int .i64 6, .int .i64 7] 3)) (.cells #[.slice (some ⟨w.heap.size, 0, none⟩) 3 3] 22)
 rw [h3] at h4
 refine ⟨rfl, by decide, fun _ => ⟨_, rfl, fun j p hj => ?_⟩⟩
 cases j with
 | succ j => cases hj
 | zero =>
  obtain rfl := Option.some.inj hj
  refine ⟨[.slice (some ⟨w.heap.size, 0, none⟩) 3 3], rfl, ⟨_, 3, rfl, Nat.le_refl _, h2⟩, fun i u hu => ?_⟩
  cases i with
  | succ i => cases hu
  | zero =>
   obtain rfl := Option.some.inj hu
   exact (cell_of_row _ _ 0 _ _ _ h4).trans rfl
theorem awake_c (W : World) (hL : Extra.Laid W) : Calls Tryz.prog 10 #[] W fun e w' => e = .returned (.bool true) ∧ Below W.heap.size W w' := by
 have hu69 := Tryz.underlying69
 have LW := Lib.hid hL
 clear hL
 have ex : awX.segs.length = 2 := rfl
 have exs : awX.segs.getD 0 ByteArray.empty = awS0 := rfl
 have F1 := Lib.hid (blk_new W (.cells (fmC 1 16) 69))
 have H1 := Lib.hid (below_alloc (Below.refl W.heap.size W) (.cells (fmC 1 16) 69))
 obtain ⟨gf, hgf⟩ : ∃ gf, gf = W.heap.size := ⟨_, rfl⟩
 have hWf : W.heap.size ≤ gf := Nat.le_of_eq hgf.symm
 obtain ⟨k0, k1⟩ := fm_cells F1.out
 go_enter Tryz.func10, Tryz.ntmps10
 go_wp2_with fail
 clear k0 k1
 rw [← hgf] at F1
 simp only [← hgf]
 clear hgf
 refine (awWav_c _).mono ?_
 rintro e w2 ⟨rfl, hb⟩
 have F2 := Lib.hid (blk_below F1.out hb)
 have H2 := Lib.hid (below_step H1.out hb)
 clear hb F1 H1
 go_wp2_with fail
 refine (enc_c 100 awW 2 (awE, 0) _ (Extra.Laid.below_ LW.out H2.out) aw_enc).mono ?_
 rintro e w3 ⟨rfl, hb⟩
 have F3 := Lib.hid (blk_below F2.out hb)
 have H3 := Lib.hid (below_step H2.out hb)
 clear hb F2 H2
 go_wp2_with fail
 refine (dec_c 100 frNone awE (awW, 0) _ (Extra.Laid.below_ LW.out H3.out) aw_dec).mono ?_
 rintro e w4 ⟨rfl, hb⟩
 have F4 := Lib.hid (blk_below F3.out hb)
 have H4 := Lib.hid (below_step H3.out hb)
 clear hb F3 H3
 go_wp2_with fail
 refine (stGet_c 100 awE (awX, 0) _ aw_get).mono ?_
 rintro e w5 ⟨A, n, rfl, hC, hn, hb⟩
 dsimp only at hC hn ⊢
 have F5 := Lib.hid (blk_below F4.out hb)
 have H5 := Lib.hid (below_step H4.out hb)
 clear hb F4 H4
 have C5 := Lib.hid hC
 clear hC
 have X6 := Lib.hid (blk_new w5 (.cells (stC awX A n) 86))
 have F6 := Lib.hid (blk_alloc F5.out (.cells (stC awX A n) 86))
 have H6 := Lib.hid (below_alloc H5.out (.cells (stC awX A n) 86))
 have C6 := Lib.hid (Kd.C_below C5.out (below_alloc (Below.refl w5.heap.size w5) (.cells (stC awX A n) 86)))
 obtain ⟨gx, hgx⟩ : ∃ gx, gx = w5.heap.size := ⟨_, rfl⟩
 rw [← hgx] at X6
 go_wp2_with fail
 simp only [← hgx]
 generalize w5.alloc (.cells (stC awX A n) 86) = w6 at X6 F6 H6 C6 ⊢
 clear F5 H5 C5 hgx
 refine (wave_Parse.calls 100 awW 1 16 awH awD awT 0 _ aw_parse).mono ?_
 rintro e w7 ⟨rfl, hb⟩
 have F7 := Lib.hid (blk_below F6.out hb)
 have H7 := Lib.hid (below_step H6.out hb)
 have X7 := Lib.hid (blk_below X6.out hb)
 have C7 := Lib.hid (Kd.C_below C6.out hb)
 clear hb F6 H6 X6 C6
 have V8 := Lib.hid (blk_new w7 (.cells (wvC 1 16 awH awD awT) 81))
 have F8 := Lib.hid (blk_alloc F7.out (.cells (wvC 1 16 awH awD awT) 81))
 have X8 := Lib.hid (blk_alloc X7.out (.cells (wvC 1 16 awH awD awT) 81))
 have H8 := Lib.hid (below_alloc H7.out (.cells (wvC 1 16 awH awD awT) 81))
 have C8 := Lib.hid (Kd.C_below C7.out (below_alloc (Below.refl w7.heap.size w7) (.cells (wvC 1 16 awH awD awT) 81)))
 obtain ⟨gv, hgv⟩ : ∃ gv, gv = w7.heap.size := ⟨_, rfl⟩
 rw [← hgv] at V8
 go_wp2_with fail
 simp only [← hgv]
 generalize w7.alloc (.cells (wvC 1 16 awH awD awT) 81) = w8 at V8 X8 F8 H8 C8 ⊢
 clear F7 X7 H7 C7 hgv
 refine (rng_c 100 frNone awE 0 3 (awD, 0) _ (Extra.Laid.below_ LW.out H8.out) aw_rng).mono ?_
 rintro e w9 ⟨rfl, hb⟩
 have F9 := Lib.hid (blk_below F8.out hb)
 have H9 := Lib.hid (below_step H8.out hb)
 have X9 := Lib.hid (blk_below X8.out hb)
 have V9 := Lib.hid (blk_below V8.out hb)
 have C9 := Lib.hid (Kd.C_below C8.out hb)
 clear hb F8 H8 X8 V8 C8
 obtain ⟨-, -, -, k3, -⟩ := wv_cells V9.out
 obtain ⟨j0, j1⟩ := fm_cells F9.out
 go_wp2_with fail
 clear k3 j0 j1
 refine (pcm_Get.calls 100 awD 1 16 [[5, 6, 7]] 0 _ aw_pcm).mono ?_
 rintro e w10 ⟨v0, rfl, hS, hb⟩
 have F10 := Lib.hid (blk_below F9.out hb)
 have H10 := Lib.hid (below_step H9.out hb)
 have X10 := Lib.hid (blk_below X9.out hb)
 have V10 := Lib.hid (blk_below V9.out hb)
 have C10 := Lib.hid (Kd.C_below C9.out hb)
 clear hb F9 H9 X9 V9 C9
 have S10 := Lib.hid hS
 clear hS
 obtain ⟨-, -, -, -, -, -, k6⟩ := st_cells X10.out
 go_wp2_with fail
 clear k6
 obtain ⟨ad, rfl, hx⟩ := elemS_c C10.out (k := 0) (by decide)
 rw [exs, show ad.add 0 = ad by cases ad; rfl] at hx
 have E10 := Lib.hid hx
 clear hx
 have X11 := Lib.hid (blk_drew X10.out)
 have F11 := Lib.hid (blk_drew F10.out)
 have V11 := Lib.hid (blk_drew V10.out)
 have E11 := Lib.hid ((show w10.drew.cell? ad = some (.string awS0) from E10.out))
 have H11 := Lib.hid (below_drew1 H10.out)
 have S11 := Lib.hid (Kd.S_drew S10.out)
 refine start_ (n := 11) (S := fun w' => w'.heap[gx]? = some (.cells (stC awX (some ad) n) 86 (0, 0)) ∧ w'.cell? ad = some (.string awS0) ∧ w'.heap[gf]? = some (.cells (fmC 1 16) 69 (0, 0))) (ds := []) #[J,J,J,J,J,J,J,J,J,J,J] kr rfl rfl (⟨blk_drew X10.out, E10.out, blk_drew F10.out⟩) (fun hHeld => ?_)
 refine with_tabW rA11_tab rA11_bits (fun HT_ HW_ => ?_)
 generalize w10.drew = w11 at X11 F11 V11 E11 H11 S11 hHeld ⊢
 clear X10 F10 V10 E10 H10 S10 C10
 refine pu_ 0 57 (z 11 1) HT_ ?_
 refine ta_ 1 58 (z 11 3) HT_ HW_ hHeld rfl b27_ ?_
 refine pu_ 2 59 (z 11 7) HT_ ?_
 refine ta_ 3 60 (z 11 15) HT_ HW_ hHeld rfl b27_ ?_
 refine ta_ 4 61 (z 11 31) HT_ HW_ hHeld rfl b27_ ?_
 refine one_ (i := 5) (N := some 62) #[Y,Y,Y,Y,Y,Y,J,J,J,J,J] rfl rfl (one_of HT_.out kr) (by decide) (fun K hK => ?_)
 refine goes_ Tryz.func43 kr rfl #[.string awS0, .agg #[.int .i64 1, .int .i64 16]] (by rfl) rfl rfl b66_ ?_
 refine (segGet_c 100 frNone awS0 1 16 (⟨#[5, 0, 6, 0]⟩, 0) _ (by decide) (Extra.Laid.below_ LW.out H11.out) aw_seg).mono ?_
 rintro e w12 ⟨rfl, hb⟩
 refine ⟨_, rfl, ?_⟩
 have X12 := Lib.hid (blk_below X11.out hb)
 have F12 := Lib.hid (blk_below F11.out hb)
 have V12 := Lib.hid (blk_below V11.out hb)
 have E12 := Lib.hid (cb_ E11.out hb)
 have H12 := Lib.hid (below_step H11.out hb)
 have S12 := Lib.hid (Kd.S_below S11.out hb)
 clear hb X11 F11 V11 E11 H11 S11
 refine hK.out _ _ (⟨X12.out, E12.out, F12.out⟩) (fun hHeld => ?_)
 clear hK K
 refine norm_ (a' := ?_) ?_ ?_
 rotate_left
 ·show Act.put _ (some 62) _ = _
  exact pT
 refine pu_ 6 56 (z 11 127) HT_ ?_
 refine pu_ 7 63 (z 11 255) HT_ ?_
 refine pu_ 8 64 (z 11 511) HT_ ?_
 refine pu_ 9 15 (z 11 1023) HT_ ?_
 refine pu_ 10 16 (z 11 2047) HT_ ?_
 refine done_ (done_of HT_.out kr) ?_
 clear hHeld
 obtain ⟨A0, c0, e0, hc0, hr0⟩ := Kd.S_reads S12.out
 subst e0
 have Z12 := Lib.hid hr0
 clear hr0 S12 X12 F12 E12
 go_wp2_with fail
 refine (descantlaw0_Num.calls 0 0 _ rfl).mono ?_
 rintro e w13 ⟨rfl, hd⟩
 have hb := hd.below
 have H13 := Lib.hid (below_step H12.out hb)
 have V13 := Lib.hid (blk_below V12.out hb)
 have Z13 := Lib.hid (Kd.C_below Z12.out hb)
 clear hd hb H12 V12 Z12
 go_wp2_with fail
 refine (descantlaw0_Num.calls 0 0 _ rfl).mono ?_
 rintro e w14 ⟨rfl, hd⟩
 have hb := hd.below
 have H14 := Lib.hid (below_step H13.out hb)
 have V14 := Lib.hid (blk_below V13.out hb)
 have Z14 := Lib.hid (Kd.C_below Z13.out hb)
 clear hd hb H13 V13 Z13
 go_wp2_with fail
 refine (descantlaw0_Num.calls 0 0 _ rfl).mono ?_
 rintro e w15 ⟨rfl, hd⟩
 have hb := hd.below
 have H15 := Lib.hid (below_step H14.out hb)
 have V15 := Lib.hid (blk_below V14.out hb)
 have Z15 := Lib.hid (Kd.C_below Z14.out hb)
 clear hd hb H14 V14 Z14
 go_wp2_with fail
 refine (descantlaw0_Num.calls 0 0 _ rfl).mono ?_
 rintro e w16 ⟨rfl, hd⟩
 have hb := hd.below
 have H16 := Lib.hid (below_step H15.out hb)
 have V16 := Lib.hid (blk_below V15.out hb)
 have Z16 := Lib.hid (Kd.C_below Z15.out hb)
 clear hd hb H15 V15 Z15
 obtain ⟨-, -, -, k3, -⟩ := wv_cells V16.out
 go_wp2_with fail
 refine (descantlaw0_Num.calls 0 0 _ rfl).mono ?_
 rintro e w17 ⟨rfl, hd⟩
 have hb := hd.below
 have H17 := Lib.hid (below_step H16.out hb)
 have Z17 := Lib.hid (Kd.C_below Z16.out hb)
 clear hd hb H16 Z16
 clear V16 k3
 go_wp2_with fail
 refine (descantlaw0_SameLists.calls 100 A0 c0 [[5, 6, 7]] (some ⟨w17.heap.size + 1, 0, none⟩) 1 [[5, 6, 7]] true _ (Kd.C_below (Kd.C_below Z17.out (below_alloc (Below.refl _ _) _)) (below_alloc (Below.refl _ _) _)) hc0 (lists_567 w17) (Nat.le_refl _) aw_same).mono ?_
 rintro e w18 ⟨rfl, hd⟩
 have H18 := Lib.hid (below_step (below_alloc (below_alloc H17.out _) _) hd.below)
 clear hd H17 Z17
 go_wp2_with fail
 refine (descantlaw0_Num.calls 0 0 _ rfl).mono ?_
 rintro e w19 ⟨rfl, hd⟩
 have hb := hd.below
 have H19 := Lib.hid (below_step H18.out hb)
 clear hd hb H18
 go_wp2_with fail
 refine (descantlaw0_Num.calls 0 0 _ rfl).mono ?_
 rintro e w20 ⟨rfl, hd⟩
 have hb := hd.below
 have H20 := Lib.hid (below_step H19.out hb)
 clear hd hb H19
 go_wp2_with fail
 go_ret
 exact ⟨rfl, H20.out⟩
end Go.Proofs.YtnoibcdojfnicaaGreatDoor.PG
namespace Go.Proofs.YtnoibcdojfnicaaGreatDoor.PTp
open Go.Proofs.YtnoibcdojfnicaaGreatDoorW.Short
open Bool renaming true → Y, false → J
open Go
def cB (v : BitVec 32) : BitVec 32 := (v >>> 1) ^^^ (if v.getLsbD 0 = true then 3988292384#32 else 0#32)
theorem cB_xor (a b : BitVec 32) : cB (a ^^^ b) = cB a ^^^ cB b := by
 unfold cB
 rw [BitVec.getLsbD_xor, BitVec.ushiftRight_xor_distrib]
 obtain ⟨p, hp⟩ : ∃ p : BitVec 32, p = 3988292384#32 := ⟨_, rfl⟩
 rw [← hp]
 clear hp
 cases a.getLsbD 0 <;> cases b.getLsbD 0 <;>
  (ext i hi
   simp
   try (cases (a >>> 1)[i] <;> cases (b >>> 1)[i] <;> cases p[i] <;> rfl)
   try (cases a.getLsbD (1 + i) <;> cases b.getLsbD (1 + i) <;> cases p[i] <;> rfl))
theorem cB_even {a : BitVec 32} (h : a.getLsbD 0 = false) : cB a = a >>> 1 := by
 unfold cB
 rw [h]
 simp
def cBs : Nat → BitVec 32 → BitVec 32
 | 0, v => v
 | k + 1, v => cB (cBs k v)
theorem cBs_xor (a b : BitVec 32) : ∀ k, cBs k (a ^^^ b) = cBs k a ^^^ cBs k b
 | 0 => rfl
 | k + 1 => by
  show cB (cBs k (a ^^^ b)) = _
  rw [cBs_xor a b k, cB_xor]
  rfl
theorem cBs_high (v : BitVec 32) : ∀ k, k ≤ 4 → cBs k (v &&& 4294967280#32) = (v &&& 4294967280#32) >>> k
 | 0, _ => by simp [cBs]
 | k + 1, h => by
  show cB (cBs k (v &&& 4294967280#32)) = _
  rw [cBs_high v k (by omega), cB_even, BitVec.shiftRight_add]
  rw [BitVec.getLsbD_ushiftRight, Nat.add_zero, BitVec.getLsbD_and]
  have e : (4294967280#32).getLsbD k = false := by
   rcases (show k = 0 ∨ k = 1 ∨ k = 2 ∨ k = 3 by omega) with rfl | rfl | rfl | rfl <;> decide
  rw [e, Bool.and_false]
theorem cBs_four (v : BitVec 32) : (v >>> 4) ^^^ cBs 4 (v &&& 15#32) = cBs 4 v := by
 have e : v = (v &&& 4294967280#32) ^^^ (v &&& 15#32) := by
  have hm : ∀ j : Fin 32, (15#32)[j.val] = !(4294967280#32)[j.val] := by decide
  ext i hi
  rw [BitVec.getElem_xor, BitVec.getElem_and, BitVec.getElem_and, hm ⟨i, hi⟩]
  cases v[i] <;> cases (4294967280#32)[i] <;> rfl
 have h : (v &&& 4294967280#32) >>> 4 = v >>> 4 := by
  ext i hi
  rw [BitVec.getElem_ushiftRight, BitVec.getElem_ushiftRight, BitVec.getLsbD_and]
  by_cases h4 : 4 + i < 32
  ·have : (4294967280#32).getLsbD (4 + i) = true := by
    have hall : ∀ j : Fin 32, 4 ≤ j.val → (4294967280#32).getLsbD j.val = true := by decide
    exact hall ⟨4 + i, h4⟩ (by show 4 ≤ 4 + i; omega)
   rw [this, Bool.and_true]
  ·rw [BitVec.getLsbD_of_ge v _ (by omega), Bool.false_and]
 conv => rhs; rw [e, cBs_xor, cBs_high v 4 (by omega), h]
abbrev bI (v : BitVec 32) : Int := (v.toNat : Int)
theorem ofInt_bI (v : BitVec 32) : BitVec.ofInt 32 (bI v) = v := by
 apply BitVec.eq_of_toNat_eq
 rw [BitVec.toNat_ofInt]
 have := v.isLt
 show ((v.toNat : Int) % (2 ^ 32 : Nat)).toNat = v.toNat
 omega
theorem wrap_bI (v : BitVec 32) : IntKind.u32.wrap (bI v) = bI v := by
 rw [IntKind.wrap_u32]
 have := v.isLt
 show (v.toNat : Int) % 4294967296 = (v.toNat : Int)
 omega
theorem xor_bI (v w : BitVec 32) : Go.bits .xor .u32 (bI v) (bI w) = bI (v ^^^ w) := by
 show IntKind.u32.wrap (((BitVec.ofInt 32 (bI v) ^^^ BitVec.ofInt 32 (bI w)).toNat : Nat) : Int) = _
 rw [ofInt_bI, ofInt_bI]
 exact wrap_bI _
theorem and_bI (v w : BitVec 32) : Go.bits .and .u32 (bI v) (bI w) = bI (v &&& w) := by
 show IntKind.u32.wrap (((BitVec.ofInt 32 (bI v) &&& BitVec.ofInt 32 (bI w)).toNat : Nat) : Int) = _
 rw [ofInt_bI, ofInt_bI]
 exact wrap_bI _
theorem shr_bI (v : BitVec 32) (k : Nat) : bI v / 2 ^ k = bI (v >>> k) := by
 show (v.toNat : Int) / 2 ^ k = ((v >>> k).toNat : Int)
 rw [BitVec.toNat_ushiftRight, Nat.shiftRight_eq_div_pow]
 norm_cast
theorem low_bI (v : BitVec 32) : bI (v &&& 1#32) = if v.getLsbD 0 = true then 1 else 0 := by
 show ((v &&& 1#32).toNat : Int) = _
 rw [BitVec.toNat_and, show (1#32).toNat = 1 by decide, Nat.and_one_is_mod]
 have e : v.getLsbD 0 = decide (v.toNat % 2 = 1) := by
  rw [BitVec.getLsbD, Nat.testBit_zero]
 rw [e]
 by_cases h : v.toNat % 2 = 1
 ·rw [decide_eq_true h, if_pos rfl, h]; rfl
 ·rw [decide_eq_false h, if_neg (by decide)]; omega
theorem crcBit_bI (v : BitVec 32) : crcBit (bI v) = bI (cB v) := by
 unfold crcBit cB
 have h1 : Go.bits .and .u32 (bI v) 1 = if v.getLsbD 0 = true then 1 else 0 := by
  rw [← low_bI]
  exact and_bI v 1#32
 have h2 := shr_bI v 1
 rw [show (2 : Int) ^ 1 = 2 by decide] at h2
 rw [h1, h2]
 cases hb : v.getLsbD 0
 ·rw [if_neg (by decide), if_neg (by decide), show IntKind.u32.wrap (-0) = bI 0#32 by decide, show (3988292384 : Int) = bI 3988292384#32 by decide, and_bI, xor_bI]
  simp
 ·rw [if_pos rfl, if_pos rfl, show IntKind.u32.wrap (-1) = bI 4294967295#32 by decide, show (3988292384 : Int) = bI 3988292384#32 by decide, and_bI, xor_bI]
  congr 2
theorem crcBits_bI (v : BitVec 32) : ∀ k, crcBits k (bI v) = bI (cBs k v)
 | 0 => rfl
 | k + 1 => by
  show crcBit (crcBits k (bI v)) = _
  rw [crcBits_bI v k, crcBit_bI]
  rfl
theorem crcHalf_bI (v : BitVec 32) : crcHalf (bI v) = bI (cBs 4 v) := by
 unfold crcHalf
 rw [show (15 : Int) = bI 15#32 by decide, and_bI, show (16 : Int) = 2 ^ 4 by decide, shr_bI]
 show Go.bits .xor .u32 (bI (v >>> 4)) (crcBits 4 (((bI (v &&& 15#32)).toNat : Nat) : Int)) = _
 rw [Int.toNat_of_nonneg (by show (0 : Int) ≤ ((v &&& 15#32).toNat : Int); omega), crcBits_bI, xor_bI, cBs_four]
theorem cBs_add (v : BitVec 32) (j : Nat) : ∀ k, cBs (j + k) v = cBs k (cBs j v)
 | 0 => rfl
 | k + 1 => by
  show cB (cBs (j + k) v) = cB (cBs k (cBs j v))
  rw [cBs_add v j k]
theorem crcByte (v : BitVec 32) (b : UInt8) : crcHalf (crcHalf (Go.bits .xor .u32 (bI v) (b.toNat : Int))) = bI (cBs 8 (v ^^^ BitVec.ofNat 32 b.toNat)) := by
 have e : (b.toNat : Int) = bI (BitVec.ofNat 32 b.toNat) := by
  show _ = ((BitVec.ofNat 32 b.toNat).toNat : Int)
  rw [BitVec.toNat_ofNat, Nat.mod_eq_of_lt (by have := b.toNat_lt; omega)]
 rw [e, xor_bI, crcHalf_bI, crcHalf_bI, ← cBs_add]
end Go.Proofs.YtnoibcdojfnicaaGreatDoor.PTp
namespace Go.Proofs.YtnoibcdojfnicaaGreatDoor.PTp
open Go.Proofs.YtnoibcdojfnicaaGreatDoorW.Short
open Bool renaming true → Y, false → J
open Go Go.RowKit Go.Proofs.YtnoibcdojfnicaaGreatDoorW.PrintWords Go.Proofs.YtnoibcdojfnicaaGreatDoorW.PrintMore Go.Proofs.YtnoibcdojfnicaaGreatDoorW.PrintLast
theorem refCrc_c (s : ByteArray) (hs : s.size ≤ 281474976710656) (W : World) : Calls Tryz.prog 34 #[.string s] W fun e w' => e = .returned (.int .i64 (crcF s)) ∧ w' = W := by
 go_enter Tryz.func34, Tryz.ntmps34
 go_wp2_with fail
 go_loop [3, 4] (fun x i => ∃ (k : Nat) (v : BitVec 32), k ≤ s.size ∧ i = .int .i64 k ∧ x = .int .u32 (bI v) ∧ Hid (crcRun s.toList 4294967295 = crcRun (s.toList.drop k) (bI v))) (fun _ i => s.size - (intOf i).toNat)
 case atStart => exact ⟨0, 4294967295#32, by omega, rfl, rfl, Lib.hid rfl⟩
 case round =>
  obtain ⟨k, v, hk, rfl, rfl, hT⟩ := hrel
  by_cases hlt : k < s.size
  ·obtain ⟨b, hb⟩ : ∃ b, b = s[k] := ⟨_, rfl⟩
   have hT2 := hT.out
   rw [drop_byte s hlt, ← hb] at hT2
   rw [show crcRun (b :: s.toList.drop (k + 1)) (bI v) = crcRun (s.toList.drop (k + 1)) (crcHalf (crcHalf (Go.bits .xor .u32 (bI v) (b.toNat : Int)))) from rfl, crcByte] at hT2
   have HT := Lib.hid hT2
   clear hT hT2
   have hb2 : b.toNat < 256 := b.toNat_lt
   have hb3 : (b.toNat : Int) % 4294967296 = b.toNat := by omega
   have hx : Go.bits .xor .u32 (bI v) (b.toNat : Int) = bI (v ^^^ BitVec.ofNat 32 b.toNat) := by
    rw [← xor_bI]
    congr 1
    show _ = ((BitVec.ofNat 32 b.toNat).toNat : Int)
    rw [BitVec.toNat_ofNat, Nat.mod_eq_of_lt (by omega)]
   obtain ⟨u, hu⟩ : ∃ u, u = v ^^^ BitVec.ofNat 32 b.toNat := ⟨_, rfl⟩
   rw [← hu] at HT hx
   clear hu
   go_wp2_with fail
   rw [← hb, hb3, hx]
   clear hx hb3 hb2 hb
   go_loop [3, 5] (fun x i => ∃ j : Nat, j ≤ 8 ∧ i = .int .i64 j ∧ x = .int .u32 (bI (cBs j u))) (fun _ i => 8 - (intOf i).toNat)
   case atStart => exact ⟨0, by omega, rfl, rfl⟩
   case round =>
    obtain ⟨j, hj, rfl, rfl⟩ := hrel
    by_cases hl : j < 8
    ·obtain ⟨y, hy⟩ : ∃ y, y = cBs j u := ⟨_, rfl⟩
     have hn : cBs (j + 1) u = cB y := by rw [hy]; rfl
     rw [← hy]
     have hlo : Go.bits .and .u32 (bI y) 1 = if y.getLsbD 0 = true then 1 else 0 := by
      rw [← low_bI]
      exact and_bI y 1#32
     have h2 : bI y / 2 = bI (y >>> 1) := by
      have := shr_bI y 1
      rw [(by decide : (2 : Int) ^ 1 = (2 : Int))] at this
      exact this
     have jm : decide ((j : Int) < 8) = true := decide_eq_true (by omega)
     have HN := Lib.hid hn
     clear hy hn
     cases hb : y.getLsbD 0
     ·rw [hb, if_neg (by decide)] at hlo
      have hc : cB y = y >>> 1 := cB_even hb
      go_wp2_with fail
      go_round
      case rel => exact ⟨j + 1, by omega, by go_num, by rw [HN.out, hc, ← h2]; rfl⟩
      case measure => simp [intOf]; omega
     ·rw [hb, if_pos rfl] at hlo
      have hc : Go.bits .xor .u32 (bI (y >>> 1)) 3988292384 = bI (cB y) := by
       rw [show (3988292384 : Int) = bI 3988292384#32 by decide, xor_bI]
       unfold cB
       rw [hb, if_pos rfl]
      go_wp2_with fail
      go_round
      case rel => exact ⟨j + 1, by omega, by go_num, by rw [HN.out, ← hc, ← h2]; rfl⟩
      case measure => simp [intOf]; omega
    ·obtain rfl : j = 8 := by omega
     go_wp2_with fail
     go_round
     case rel => exact ⟨k + 1, _, by omega, by go_num, rfl, HT⟩
     case measure => simp [intOf]; omega
  ·obtain rfl : k = s.size := by omega
   go_wp2_with fail
   rw [List.drop_eq_nil_of_le (by rw [size_list]; exact Nat.le_refl _)] at hT
   go_ret
   exact ⟨by unfold crcF; rw [hT.out]; rfl, rfl⟩
end Go.Proofs.YtnoibcdojfnicaaGreatDoor.PTp
namespace Go.Proofs.YtnoibcdojfnicaaGreatDoor.PG
open Go.Proofs.YtnoibcdojfnicaaGreatDoorW.Short
open Bool renaming true → Y, false → J
open Go.RowKit Go.Proofs.YtnoibcdojfnicaaGreatDoorW.PrintWords Go.Proofs.YtnoibcdojfnicaaGreatDoorW.PrintLast Go.Proofs.YtnoibcdojfnicaaGreatDoorW.PrintMore
attribute [local go_sem] max2_int min2_int max_two min_two max_three min_three max_four min_four
def descanttop_awake.f : Option Bool := some true
theorem descanttop_awake.calls (r : Bool) (w : World) (h : descanttop_awake.f = some r) (hv_ : Extra.Laid w := by repeat (first | assumption | exact Extra.Laid.aside (by assumption) (by assumption) | apply Extra.Laid.alloc_ | apply Extra.Laid.drewN_ | apply Extra.Laid.drew_)) :
 Calls Tryz.prog 10 #[] w fun e w' => e = .returned (.bool r) ∧ Below w.heap.size w w' := by
 obtain rfl := Option.some.inj h
 exact PG.awake_c w hv_
def descantref1_Crc.f (a0 : ByteArray) : Option Int := if a0.size ≤ 281474976710656 then some (PTp.crcF a0) else none
theorem descantref1_Crc.calls (a0 : ByteArray) (r : Int) (w : World) (h : descantref1_Crc.f a0 = some r) :
 Calls Tryz.prog 34 #[.string a0] w fun e w' => e = .returned (.int .i64 r) ∧ Drawn0 w w' := by
 unfold descantref1_Crc.f at h
 split at h
 ·rename_i hc
  obtain rfl := Option.some.inj h
  refine (PTp.refCrc_c a0 hc w).mono ?_
  rintro e w' ⟨rfl, rfl⟩
  exact ⟨rfl, Drawn0.refl _⟩
 ·cases h
end Go.Proofs.YtnoibcdojfnicaaGreatDoor.PG
