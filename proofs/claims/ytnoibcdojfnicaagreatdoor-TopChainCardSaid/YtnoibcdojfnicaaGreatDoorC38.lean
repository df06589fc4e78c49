/- A part of the proof of a law of descanttop: this session's own texts and printed texts, shortened and joined. -/
import Derived.Test.YtnoibcdojfnicaaGreatDoorC37
import Derived.Test.YtnoibcdojfnicaaGreatDoorC36
import Derived.Test.YtnoibcdojfnicaaGreatDoorC3
set_option linter.unusedVariables false
set_option linter.unusedSimpArgs false
namespace Go.Proofs.YtnoibcdojfnicaaGreatDoor.PG
open Go.Proofs.YtnoibcdojfnicaaGreatDoorW.Short
open Bool renaming true → Y, false → J
open Go Go.RowKit Go.Proofs.YtnoibcdojfnicaaGreatDoorW.PrintWords Go.Proofs.YtnoibcdojfnicaaGreatDoorW.PrintMore Go.Proofs.YtnoibcdojfnicaaGreatDoorW.PrintLast
open Go.Proofs.YtnoibcdojfnicaaGreatDoor.Modn
def rW2T : Bool × List (List Nat × List Nat) := (true, [([], []), ([0], [0]), ([1], [1]), ([2], [2]), ([3], [3]), ([], []), ([5, 2], [5]), ([4, 6], [4, 6]), ([], []), ([8], [8]), ([9, 6], [9]), ([7, 10], [7, 10]), ([11, 10, 0, 1, 2, 3, 4, 5, 6, 7, 8, 9, 10, 11], [11])])
def rW2B : List Nat := [0, 1, 3, 7, 15, 0, 39, 127, 0, 256, 871, 2047, 4095]
theorem rW2_tab : rtab .any (opsOf Tryz.f42 2) = rW2T := by kernel_rfl
theorem rW2_bits : waitsOk rW2T.2 rW2B = true := by kernel_rfl
set_option maxRecDepth 100000 in
set_option maxHeartbeats 8000000 in
theorem awWav_c (W : World) : Calls Tryz.prog 42 #[.agg #[.int .i64 1, .int .i64 16], .string awD] W fun e w' => e = .returned (.string awW) ∧ Below W.heap.size W w' := by
 obtain ⟨d, hd⟩ : ∃ d, d = awD := ⟨_, rfl⟩
 have sd : d.size = 6 := by rw [hd]; rfl
 obtain ⟨la, ela⟩ : ∃ l, l = (⟨#[1, 0]⟩ : ByteArray) := ⟨_, rfl⟩
 have sla : la.size = 2 := by rw [ela]; rfl
 have LA_ := Lib.hid (fun w => descantref1_Low.calls 100 1 2 la w (by rw [ela]; decide +kernel))
 obtain ⟨lk, elk⟩ : ∃ l, l = (⟨#[2, 0]⟩ : ByteArray) := ⟨_, rfl⟩
 have slk : lk.size = 2 := by rw [elk]; rfl
 have LK_ := Lib.hid (fun w => descantref1_Low.calls 100 2 2 lk w (by rw [elk]; decide +kernel))
 obtain ⟨lb, elb⟩ : ∃ l, l = (⟨#[16, 0]⟩ : ByteArray) := ⟨_, rfl⟩
 have slb : lb.size = 2 := by rw [elb]; rfl
 have LB_ := Lib.hid (fun w => descantref1_Low.calls 100 16 2 lb w (by rw [elb]; decide +kernel))
 obtain ⟨ld, eld⟩ : ∃ l, l = (⟨#[6, 0, 0, 0]⟩ : ByteArray) := ⟨_, rfl⟩
 have sld : ld.size = 4 := by rw [eld]; rfl
 have LD_ := Lib.hid (fun w => descantref1_Low.calls 100 6 4 ld w (by rw [eld]; decide +kernel))
 obtain ⟨lr, elr⟩ : ∃ l, l = (⟨#[54, 0, 0, 0]⟩ : ByteArray) := ⟨_, rfl⟩
 have slr : lr.size = 4 := by rw [elr]; rfl
 have LR_ := Lib.hid (fun w => descantref1_Low.calls 100 54 4 lr w (by rw [elr]; decide +kernel))
 have hW : awW = (⟨#[82, 73, 70, 70]⟩ : ByteArray) ++ lr ++ ((⟨#[87, 65, 86, 69, 102, 109, 116, 32, 16, 0, 0, 0, 1, 0]⟩ : ByteArray) ++ la ++ ⟨#[114, 97, 116, 101, 97, 110, 100, 98]⟩ ++ lk ++ lb ++ ⟨#[100, 97, 116, 97]⟩ ++ ld ++ d ++ ⟨#[109, 111, 114, 101, 3, 0, 0, 0, 97, 98, 99, 100]⟩) := by
  rw [ela, elk, elb, eld, elr, hd]
  decide +kernel
 rw [← hd]
 have HW := Lib.hid hW
 clear hW ela elk elb eld elr hd
 obtain ⟨g, hg⟩ : ∃ g, g = W.heap.size := ⟨_, rfl⟩
 have B1 := Lib.hid (blk_new W (.cells #[.int .i64 1, .int .i64 16] 69))
 have H1 := Lib.hid (below_alloc (Below.refl W.heap.size W) (.cells #[.int .i64 1, .int .i64 16] 69))
 obtain ⟨k0, k1⟩ := fm_cells B1.out
 rw [← hg] at B1
 go_enter Tryz.func42, Tryz.ntmps42
 go_wp2_with fail
 simp only [← hg]
 clear k0 k1 hg
 generalize W.alloc (.cells #[.int .i64 1, .int .i64 16] 69) = w1 at B1 H1 ⊢
 have B2 := Lib.hid (blk_drew B1.out)
 have H2 := Lib.hid (below_drew1 H1.out)
 refine start_ (n := 13) (S := fun w' => w'.heap[g]? = some (.cells #[.int .i64 1, .int .i64 16] 69 (0, 0))) (ds := []) #[J,J,J,J,J,J,J,J,J,J,J,J,J] kr rfl rfl (blk_drew B1.out) (fun hHeld => ?_)
 refine with_tabW rW2_tab rW2_bits (fun HT_ HW_ => ?_)
 generalize w1.drew = w2 at B2 H2 hHeld ⊢
 clear B1 H1
 refine pu_ 0 13 #[Y,J,J,J,J,J,J,J,J,J,J,J,J] HT_ ?_
 refine take_ (i := 1) (N := some 14) (v := ?_) (a' := ?_) #[Y,Y,J,J,J,J,J,J,J,J,J,J,J] rfl rfl (take_ofW HT_.out HW_.out kr) (fun _ _ _ h => h) (Or.inl ⟨by rfl, ?_⟩) hHeld ?_ ?_
 rotate_left
 ·rintro w' s0
  obtain ⟨k0, k1⟩ := fm_cells s0
  go_simp
  with_reducible rfl
 rotate_left
 ·exact pT
 refine pu_ 5 18 #[Y,Y,J,J,J,Y,J,J,J,J,J,J,J] HT_ ?_
 refine pu_ 8 21 #[Y,Y,J,J,J,Y,J,J,Y,J,J,J,J] HT_ ?_
 refine take_ (i := 9) (N := some 22) (v := ?_) (a' := ?_) #[Y,Y,J,J,J,Y,J,J,Y,Y,J,J,J] rfl rfl (take_ofW HT_.out HW_.out kr) (fun _ _ _ h => h) (Or.inl ⟨by rfl, ?_⟩) hHeld ?_ ?_
 rotate_left
 ·rintro w' s0
  obtain ⟨k0, k1⟩ := fm_cells s0
  go_simp
  with_reducible rfl
 rotate_left
 ·exact pT
 refine one_ (i := 2) (N := some 15) #[Y,Y,Y,J,J,Y,J,J,Y,Y,J,J,J] rfl rfl (one_of HT_.out kr) (by decide) (fun K hK => ?_)
 refine goes_ Tryz.func105 kr rfl #[.int .i64 1, .int .i64 2] (by rfl) rfl rfl b50_ ?_
 refine (LA_.out _).mono ?_
 rintro e w3 ⟨rfl, hb⟩
 refine ⟨_, rfl, ?_⟩
 have B3 := Lib.hid (blk_below B2.out hb)
 have H3 := Lib.hid (below_step H2.out hb)
 clear hb B2 H2 LA_
 refine hK.out _ _ (B3.out) (fun hHeld => ?_)
 clear hK K
 refine norm_ (a' := ?_) ?_ ?_
 rotate_left
 ·show Act.put _ (some 15) _ = _
  exact pT
 refine pu_ 3 16 #[Y,Y,Y,Y,J,Y,J,J,Y,Y,J,J,J] HT_ ?_
 refine pu_ 4 17 #[Y,Y,Y,Y,Y,Y,J,J,Y,Y,J,J,J] HT_ ?_
 refine one_ (i := 6) (N := some 19) #[Y,Y,Y,Y,Y,Y,Y,J,Y,Y,J,J,J] rfl rfl (one_of HT_.out kr) (by decide) (fun K hK => ?_)
 refine goes_ Tryz.func105 kr rfl #[.int .i64 2, .int .i64 2] (by rfl) rfl rfl b50_ ?_
 refine (LK_.out _).mono ?_
 rintro e w4 ⟨rfl, hb⟩
 refine ⟨_, rfl, ?_⟩
 have B4 := Lib.hid (blk_below B3.out hb)
 have H4 := Lib.hid (below_step H3.out hb)
 clear hb B3 H3 LK_
 refine hK.out _ _ (B4.out) (fun hHeld => ?_)
 clear hK K
 refine norm_ (a' := ?_) ?_ ?_
 rotate_left
 ·show Act.put _ (some 19) _ = _
  exact pT
 refine pu_ 7 20 #[Y,Y,Y,Y,Y,Y,Y,Y,Y,Y,J,J,J] HT_ ?_
 refine one_ (i := 10) (N := some 23) #[Y,Y,Y,Y,Y,Y,Y,Y,Y,Y,Y,J,J] rfl rfl (one_of HT_.out kr) (by decide) (fun K hK => ?_)
 refine goes_ Tryz.func105 kr rfl #[.int .i64 16, .int .i64 2] (by rfl) rfl rfl b50_ ?_
 refine (LB_.out _).mono ?_
 rintro e w5 ⟨rfl, hb⟩
 refine ⟨_, rfl, ?_⟩
 have B5 := Lib.hid (blk_below B4.out hb)
 have H5 := Lib.hid (below_step H4.out hb)
 clear hb B4 H4 LB_
 refine hK.out _ _ (B5.out) (fun hHeld => ?_)
 clear hK K
 refine norm_ (a' := ?_) ?_ ?_
 rotate_left
 ·show Act.put _ (some 23) _ = _
  exact pT
 refine pu_ 11 24 #[Y,Y,Y,Y,Y,Y,Y,Y,Y,Y,Y,Y,J] HT_ ?_
 refine pu_ 12 6 #[Y,Y,Y,Y,Y,Y,Y,Y,Y,Y,Y,Y,Y] HT_ ?_
 refine done_ (done_of HT_.out kr) ?_
 clear hHeld
 go_wp2_with fail
 refine (LD_.out _).mono ?_
 rintro e w6 ⟨rfl, hb⟩
 have H6 := Lib.hid (below_step H5.out hb)
 clear hb
 go_wp2_with fail
 refine (LR_.out _).mono ?_
 rintro e w7 ⟨rfl, hb⟩
 have H7 := Lib.hid (below_step H6.out hb)
 clear hb
 go_wp2_with fail
 go_ret
 exact ⟨by rw [HW.out]; rfl, H7.out⟩
end Go.Proofs.YtnoibcdojfnicaaGreatDoor.PG
namespace Go.Proofs.YtnoibcdojfnicaaGreatDoor.PG
open Go.Proofs.YtnoibcdojfnicaaGreatDoorW.Short
open Bool renaming true → Y, false → J
open Go Go.RowKit Go.Proofs.YtnoibcdojfnicaaGreatDoorW.PrintWords Go.Proofs.YtnoibcdojfnicaaGreatDoorW.PrintMore Go.Proofs.YtnoibcdojfnicaaGreatDoorW.PrintLast
open Go.Proofs.YtnoibcdojfnicaaGreatDoor.Modn
attribute [-go_sem] Instr.loadAt Instr.storeAt Instr.build
def rA11T : Bool × List (List Nat × List Nat) := (true, [([], []), ([0], [0]), ([1], [1]), ([2], [2]), ([], []), ([3, 4], [3, 4]), ([5], [5]), ([6], [6]), ([6], [6]), ([7, 5, 0, 1, 2, 3, 4, 5, 6, 7], [7]), ([8, 9, 0, 1, 2, 3, 4, 5, 6, 7, 8, 9], [8])])
def rA11B : List Nat := [0, 1, 3, 7, 0, 31, 63, 127, 127, 255, 1023]
theorem rA11_tab : rtab .any (opsOf Tryz.f10 11) = rA11T := by kernel_rfl
theorem rA11_bits : waitsOk rA11T.2 rA11B = true := by kernel_rfl
abbrev fmC (c b : Int) : Array Value := #[.int .i64 c, .int .i64 b]
theorem store_new_fm (w : World) (c b : Int) : (Instr.storeAt 69 (.pointer (some { block := w.heap.size, off := 0 })) (.agg #[.int .i64 c, .int .i64 b])).run Tryz.prog (w.alloc (.cells #[.int .i64 0, .int .i64 0] 69 (0, 0))) = .ok () (w.alloc (.cells #[.int .i64 c, .int .i64 b] 69 (0, 0))) := by
 rw [Agg.store_all (P := Tryz.prog) (cs := #[.int .i64 0, .int .i64 0]) (blk_new w _) 69 #[.int .i64 c, .int .i64 b] kr rfl (by simp [Value.oneCell']), World.setRow_alloc_new]
attribute [local go_sem high] st_i6 ld_int ld_bool ld_strs ld_str ld_fm so_bool so_str so_strs bu_fm store_new_fm store_new_st shut_st store_new_wv shut_wv
theorem lists_567 (w : World) : Kd.C (Kd.slice 3 (Kd.int .i64)) ((w.alloc (.cells #[.int .i64 5, .int .i64 6, .int .i64 7] 3)).alloc (.cells #[.slice (some ⟨w.heap.size, 0, none⟩) 3 3] 22)) (some ⟨w.heap.size + 1, 0, none⟩) 1 [[5, 6, 7]] := by
 have h1 : (Kd.int .i64).C (w.alloc (.cells #[.int .i64 5, .int .i64 6, .int .i64 7] 3)) (some ⟨w.heap.size, 0, none⟩) 3 [5, 6, 7] := (Kd.R_reads' (Kd.R_of_own (own_lit w w.heap.size 3 .i64 [5, 6, 7] (Nat.le_refl _) (by decide)) (fun _ _ => trivial) : (Kd.int .i64).R 3 _ _ (fun _ => True) _ _)).2.2
 have h2 := Kd.C_below h1 (below_alloc (Below.refl _ _) (.cells #[.slice (some ⟨w.heap.size, 0, none⟩) 3 3] 22))
 have h3 : (w.alloc (.cells #[.int .i64 5, .int .i64 6, .int .i64 7] 3)).heap.size = w.heap.size + 1 := by simp
 have h4 := blk_new (w.alloc (.cells #[.int .i64 5, .int .i64 6, .int .i64 7] 3)) (.cells #[.slice (some ⟨w.heap.size, 0, none⟩) 3 3] 22)
 rw [h3] at h4
 refine ⟨rfl, by decide, fun _ => ⟨_, rfl, fun j p hj => ?_⟩⟩
 cases j with
 | succ j => cases hj
 | zero =>
  obtain rfl := Option.some.inj hj
  refine ⟨[.slice (some ⟨w.heap.size, 0, none⟩) 3 3], rfl, ⟨_, 3, rfl, Nat.le_refl _, h2⟩, fun i u hu => ?_⟩
  cases i with
  | succ i => cases hu
  | zero =>
   obtain rfl := Option.some.inj hu
   exact (cell_of_row _ _ 0 _ _ _ h4).trans rfl
set_option maxRecDepth 100000 in
set_option maxHeartbeats 16000000 in
theorem awake_c (W : World) (hL : Extra.Laid W) : Calls Tryz.prog 10 #[] W fun e w' => e = .returned (.bool true) ∧ Below W.heap.size W w' := by
 have hu69 := Tryz.underlying69
 have LW := Lib.hid hL
 clear hL
 have ex : awX.segs.length = 2 := rfl
 have exs : awX.segs.getD 0 ByteArray.empty = awS0 := rfl
 have F1 := Lib.hid (blk_new W (.cells (fmC 1 16) 69))
 have H1 := Lib.hid (below_alloc (Below.refl W.heap.size W) (.cells (fmC 1 16) 69))
 obtain ⟨gf, hgf⟩ : ∃ gf, gf = W.heap.size := ⟨_, rfl⟩
 have hWf : W.heap.size ≤ gf := Nat.le_of_eq hgf.symm
 obtain ⟨k0, k1⟩ := fm_cells F1.out
 go_enter Tryz.func10, Tryz.ntmps10
 go_wp2_with fail
 clear k0 k1
 rw [← hgf] at F1
 simp only [← hgf]
 clear hgf
 refine (awWav_c _).mono ?_
 rintro e w2 ⟨rfl, hb⟩
 have F2 := Lib.hid (blk_below F1.out hb)
 have H2 := Lib.hid (below_step H1.out hb)
 clear hb F1 H1
 go_wp2_with fail
 refine (enc_c 100 awW 2 (awE, 0) _ (Extra.Laid.below_ LW.out H2.out) aw_enc).mono ?_
 rintro e w3 ⟨rfl, hb⟩
 have F3 := Lib.hid (blk_below F2.out hb)
 have H3 := Lib.hid (below_step H2.out hb)
 clear hb F2 H2
 go_wp2_with fail
 refine (dec_c 100 frNone awE (awW, 0) _ (Extra.Laid.below_ LW.out H3.out) aw_dec).mono ?_
 rintro e w4 ⟨rfl, hb⟩
 have F4 := Lib.hid (blk_below F3.out hb)
 have H4 := Lib.hid (below_step H3.out hb)
 clear hb F3 H3
 go_wp2_with fail
 refine (stGet_c 100 awE (awX, 0) _ aw_get).mono ?_
 rintro e w5 ⟨A, n, rfl, hC, hn, hb⟩
 dsimp only at hC hn ⊢
 have F5 := Lib.hid (blk_below F4.out hb)
 have H5 := Lib.hid (below_step H4.out hb)
 clear hb F4 H4
 have C5 := Lib.hid hC
 clear hC
 have X6 := Lib.hid (blk_new w5 (.cells (stC awX A n) 86))
 have F6 := Lib.hid (blk_alloc F5.out (.cells (stC awX A n) 86))
 have H6 := Lib.hid (below_alloc H5.out (.cells (stC awX A n) 86))
 have C6 := Lib.hid (Kd.C_below C5.out (below_alloc (Below.refl w5.heap.size w5) (.cells (stC awX A n) 86)))
 obtain ⟨gx, hgx⟩ : ∃ gx, gx = w5.heap.size := ⟨_, rfl⟩
 rw [← hgx] at X6
 go_wp2_with fail
 simp only [← hgx]
 generalize w5.alloc (.cells (stC awX A n) 86) = w6 at X6 F6 H6 C6 ⊢
 clear F5 H5 C5 hgx
 refine (wave_Parse.calls 100 awW 1 16 awH awD awT 0 _ aw_parse).mono ?_
 rintro e w7 ⟨rfl, hb⟩
 have F7 := Lib.hid (blk_below F6.out hb)
 have H7 := Lib.hid (below_step H6.out hb)
 have X7 := Lib.hid (blk_below X6.out hb)
 have C7 := Lib.hid (Kd.C_below C6.out hb)
 clear hb F6 H6 X6 C6
 have V8 := Lib.hid (blk_new w7 (.cells (wvC 1 16 awH awD awT) 81))
 have F8 := Lib.hid (blk_alloc F7.out (.cells (wvC 1 16 awH awD awT) 81))
 have X8 := Lib.hid (blk_alloc X7.out (.cells (wvC 1 16 awH awD awT) 81))
 have H8 := Lib.hid (below_alloc H7.out (.cells (wvC 1 16 awH awD awT) 81))
 have C8 := Lib.hid (Kd.C_below C7.out (below_alloc (Below.refl w7.heap.size w7) (.cells (wvC 1 16 awH awD awT) 81)))
 obtain ⟨gv, hgv⟩ : ∃ gv, gv = w7.heap.size := ⟨_, rfl⟩
 rw [← hgv] at V8
 go_wp2_with fail
 simp only [← hgv]
 generalize w7.alloc (.cells (wvC 1 16 awH awD awT) 81) = w8 at V8 X8 F8 H8 C8 ⊢
 clear F7 X7 H7 C7 hgv
 refine (rng_c 100 frNone awE 0 3 (awD, 0) _ (Extra.Laid.below_ LW.out H8.out) aw_rng).mono ?_
 rintro e w9 ⟨rfl, hb⟩
 have F9 := Lib.hid (blk_below F8.out hb)
 have H9 := Lib.hid (below_step H8.out hb)
 have X9 := Lib.hid (blk_below X8.out hb)
 have V9 := Lib.hid (blk_below V8.out hb)
 have C9 := Lib.hid (Kd.C_below C8.out hb)
 clear hb F8 H8 X8 V8 C8
 obtain ⟨-, -, -, k3, -⟩ := wv_cells V9.out
 obtain ⟨j0, j1⟩ := fm_cells F9.out
 go_wp2_with fail
 clear k3 j0 j1
 refine (pcm_Get.calls 100 awD 1 16 [[5, 6, 7]] 0 _ aw_pcm).mono ?_
 rintro e w10 ⟨v0, rfl, hS, hb⟩
 have F10 := Lib.hid (blk_below F9.out hb)
 have H10 := Lib.hid (below_step H9.out hb)
 have X10 := Lib.hid (blk_below X9.out hb)
 have V10 := Lib.hid (blk_below V9.out hb)
 have C10 := Lib.hid (Kd.C_below C9.out hb)
 clear hb F9 H9 X9 V9 C9
 have S10 := Lib.hid hS
 clear hS
 obtain ⟨-, -, -, -, -, -, k6⟩ := st_cells X10.out
 go_wp2_with fail
 clear k6
 obtain ⟨ad, rfl, hx⟩ := elemS_c C10.out (k := 0) (by decide)
 rw [exs, show ad.add 0 = ad by cases ad; rfl] at hx
 have E10 := Lib.hid hx
 clear hx
 have X11 := Lib.hid (blk_drew X10.out)
 have F11 := Lib.hid (blk_drew F10.out)
 have V11 := Lib.hid (blk_drew V10.out)
 have E11 := Lib.hid ((show w10.drew.cell? ad = some (.string awS0) from E10.out))
 have H11 := Lib.hid (below_drew1 H10.out)
 have S11 := Lib.hid (Kd.S_drew S10.out)
 refine start_ (n := 11) (S := fun w' => w'.heap[gx]? = some (.cells (stC awX (some ad) n) 86 (0, 0)) ∧ w'.cell? ad = some (.string awS0) ∧ w'.heap[gf]? = some (.cells (fmC 1 16) 69 (0, 0))) (ds := []) #[J,J,J,J,J,J,J,J,J,J,J] kr rfl rfl (⟨blk_drew X10.out, E10.out, blk_drew F10.out⟩) (fun hHeld => ?_)
 refine with_tabW rA11_tab rA11_bits (fun HT_ HW_ => ?_)
 generalize w10.drew = w11 at X11 F11 V11 E11 H11 S11 hHeld ⊢
 clear X10 F10 V10 E10 H10 S10 C10
 refine pu_ 0 57 #[Y,J,J,J,J,J,J,J,J,J,J] HT_ ?_
 refine take_ (i := 1) (N := some 58) (v := ?_) (a' := ?_) #[Y,Y,J,J,J,J,J,J,J,J,J] rfl rfl (take_ofW HT_.out HW_.out kr) (fun _ _ _ h => h) (Or.inl ⟨by rfl, ?_⟩) hHeld ?_ ?_
 rotate_left
 ·rintro w' ⟨s0, s1, s2⟩
  obtain ⟨k0, k1, k2, k3, k4, k5, k6⟩ := st_cells s0
  obtain ⟨j0, j1⟩ := fm_cells s2
  go_simp
  with_reducible rfl
 rotate_left
 ·exact pT
 refine pu_ 2 59 #[Y,Y,Y,J,J,J,J,J,J,J,J] HT_ ?_
 refine take_ (i := 3) (N := some 60) (v := ?_) (a' := ?_) #[Y,Y,Y,Y,J,J,J,J,J,J,J] rfl rfl (take_ofW HT_.out HW_.out kr) (fun _ _ _ h => h) (Or.inl ⟨by rfl, ?_⟩) hHeld ?_ ?_
 rotate_left
 ·rintro w' ⟨s0, s1, s2⟩
  obtain ⟨k0, k1, k2, k3, k4, k5, k6⟩ := st_cells s0
  obtain ⟨j0, j1⟩ := fm_cells s2
  go_simp
  with_reducible rfl
 rotate_left
 ·exact pT
 refine take_ (i := 4) (N := some 61) (v := ?_) (a' := ?_) #[Y,Y,Y,Y,Y,J,J,J,J,J,J] rfl rfl (take_ofW HT_.out HW_.out kr) (fun _ _ _ h => h) (Or.inl ⟨by rfl, ?_⟩) hHeld ?_ ?_
 rotate_left
 ·rintro w' ⟨s0, s1, s2⟩
  obtain ⟨k0, k1, k2, k3, k4, k5, k6⟩ := st_cells s0
  obtain ⟨j0, j1⟩ := fm_cells s2
  go_simp
  with_reducible rfl
 rotate_left
 ·exact pT
 refine one_ (i := 5) (N := some 62) #[Y,Y,Y,Y,Y,Y,J,J,J,J,J] rfl rfl (one_of HT_.out kr) (by decide) (fun K hK => ?_)
 refine goes_ Tryz.func43 kr rfl #[.string awS0, .agg #[.int .i64 1, .int .i64 16]] (by rfl) rfl rfl b50_ ?_
 refine (segGet_c 100 frNone awS0 1 16 (⟨#[5, 0, 6, 0]⟩, 0) _ (by decide) (Extra.Laid.below_ LW.out H11.out) aw_seg).mono ?_
 rintro e w12 ⟨rfl, hb⟩
 refine ⟨_, rfl, ?_⟩
 have X12 := Lib.hid (blk_below X11.out hb)
 have F12 := Lib.hid (blk_below F11.out hb)
 have V12 := Lib.hid (blk_below V11.out hb)
 have E12 := Lib.hid (cb_ E11.out hb)
 have H12 := Lib.hid (below_step H11.out hb)
 have S12 := Lib.hid (Kd.S_below S11.out hb)
 clear hb X11 F11 V11 E11 H11 S11
 refine hK.out _ _ (⟨X12.out, E12.out, F12.out⟩) (fun hHeld => ?_)
 clear hK K
 refine norm_ (a' := ?_) ?_ ?_
 rotate_left
 ·show Act.put _ (some 62) _ = _
  exact pT
 refine pu_ 6 56 #[Y,Y,Y,Y,Y,Y,Y,J,J,J,J] HT_ ?_
 refine pu_ 7 63 #[Y,Y,Y,Y,Y,Y,Y,Y,J,J,J] HT_ ?_
 refine pu_ 8 64 #[Y,Y,Y,Y,Y,Y,Y,Y,Y,J,J] HT_ ?_
 refine pu_ 9 15 #[Y,Y,Y,Y,Y,Y,Y,Y,Y,Y,J] HT_ ?_
 refine pu_ 10 16 #[Y,Y,Y,Y,Y,Y,Y,Y,Y,Y,Y] HT_ ?_
 refine done_ (done_of HT_.out kr) ?_
 clear hHeld
 obtain ⟨A0, c0, e0, hc0, hr0⟩ := Kd.S_reads S12.out
 subst e0
 have Z12 := Lib.hid hr0
 clear hr0 S12 X12 F12 E12
 go_wp2_with fail
 refine (descantlaw0_Num.calls 0 0 _ rfl).mono ?_
 rintro e w13 ⟨rfl, hd⟩
 have hb := hd.below
 have H13 := Lib.hid (below_step H12.out hb)
 have V13 := Lib.hid (blk_below V12.out hb)
 have Z13 := Lib.hid (Kd.C_below Z12.out hb)
 clear hd hb H12 V12 Z12
 go_wp2_with fail
 refine (descantlaw0_Num.calls 0 0 _ rfl).mono ?_
 rintro e w14 ⟨rfl, hd⟩
 have hb := hd.below
 have H14 := Lib.hid (below_step H13.out hb)
 have V14 := Lib.hid (blk_below V13.out hb)
 have Z14 := Lib.hid (Kd.C_below Z13.out hb)
 clear hd hb H13 V13 Z13
 go_wp2_with fail
 refine (descantlaw0_Num.calls 0 0 _ rfl).mono ?_
 rintro e w15 ⟨rfl, hd⟩
 have hb := hd.below
 have H15 := Lib.hid (below_step H14.out hb)
 have V15 := Lib.hid (blk_below V14.out hb)
 have Z15 := Lib.hid (Kd.C_below Z14.out hb)
 clear hd hb H14 V14 Z14
 go_wp2_with fail
 refine (descantlaw0_Num.calls 0 0 _ rfl).mono ?_
 rintro e w16 ⟨rfl, hd⟩
 have hb := hd.below
 have H16 := Lib.hid (below_step H15.out hb)
 have V16 := Lib.hid (blk_below V15.out hb)
 have Z16 := Lib.hid (Kd.C_below Z15.out hb)
 clear hd hb H15 V15 Z15
 obtain ⟨-, -, -, k3, -⟩ := wv_cells V16.out
 go_wp2_with fail
 refine (descantlaw0_Num.calls 0 0 _ rfl).mono ?_
 rintro e w17 ⟨rfl, hd⟩
 have hb := hd.below
 have H17 := Lib.hid (below_step H16.out hb)
 have Z17 := Lib.hid (Kd.C_below Z16.out hb)
 clear hd hb H16 Z16
 clear V16 k3
 go_wp2_with fail
 refine (descantlaw0_SameLists.calls 100 A0 c0 [[5, 6, 7]] (some ⟨w17.heap.size + 1, 0, none⟩) 1 [[5, 6, 7]] true _ (Kd.C_below (Kd.C_below Z17.out (below_alloc (Below.refl _ _) _)) (below_alloc (Below.refl _ _) _)) hc0 (lists_567 w17) (Nat.le_refl _) aw_same).mono ?_
 rintro e w18 ⟨rfl, hd⟩
 have H18 := Lib.hid (below_step (below_alloc (below_alloc H17.out _) _) hd.below)
 clear hd H17 Z17
 go_wp2_with fail
 refine (descantlaw0_Num.calls 0 0 _ rfl).mono ?_
 rintro e w19 ⟨rfl, hd⟩
 have hb := hd.below
 have H19 := Lib.hid (below_step H18.out hb)
 clear hd hb H18
 go_wp2_with fail
 refine (descantlaw0_Num.calls 0 0 _ rfl).mono ?_
 rintro e w20 ⟨rfl, hd⟩
 have hb := hd.below
 have H20 := Lib.hid (below_step H19.out hb)
 clear hd hb H19
 go_wp2_with fail
 go_ret
 exact ⟨rfl, H20.out⟩
end Go.Proofs.YtnoibcdojfnicaaGreatDoor.PG
