/- A part of the proof of a law of descanttop: this session's own texts and printed texts, shortened and joined. -/
import Derived.Test.YtnoibcdojfnicaaGreatDoorD37
import Derived.Test.YtnoibcdojfnicaaGreatDoorD36
import Derived.Test.YtnoibcdojfnicaaGreatDoorD3
import Derived.Test.YtnoibcdojfnicaaGreatDoorD16
import Derived.Test.YtnoibcdojfnicaaGreatDoorD15
set_option linter.unusedVariables false
set_option linter.unusedSimpArgs false
namespace Go.Proofs.YtnoibcdojfnicaaGreatDoor.PG
open Go.Proofs.YtnoibcdojfnicaaGreatDoorW.Short
open Bool renaming true → Y, false → J
open Go Go.RowKit Go.Proofs.YtnoibcdojfnicaaGreatDoorW.PrintWords Go.Proofs.YtnoibcdojfnicaaGreatDoorW.PrintMore Go.Proofs.YtnoibcdojfnicaaGreatDoorW.PrintLast
open Go.Proofs.YtnoibcdojfnicaaGreatDoor.Modn
def rW2T : Bool × List (List Nat × List Nat) := (true, [([], []), ([0], [0]), ([1], [1]), ([2], [2]), ([3], [3]), ([], []), ([5, 2], [5]), ([4, 6], [4, 6]), ([], []), ([8], [8]), ([9, 6], [9]), ([7, 10], [7, 10]), ([11, 10, 0, 1, 2, 3, 4, 5, 6, 7, 8, 9, 10, 11], [11])])
def rW2B : List Nat := [0, 1, 3, 7, 15, 0, 39, 127, 0, 256, 871, 2047, 4095]
theorem rW2_tab : rtab .any (opsOf Tryz.f42 2) = rW2T := by kernel_rfl
theorem rW2_bits : waitsOk rW2T.2 rW2B = true := by kernel_rfl
set_option maxRecDepth 100000 in
set_option maxHeartbeats 8000000 in
theorem awWav_c (W : World) : Calls Tryz.prog 42 #[.agg #[.int .i64 1, .int .i64 16], .string awD] W fun e w' => e = .returned (.string awW) ∧ Below W.heap.size W w' := by
 obtain ⟨d, hd⟩ : ∃ d, d = awD := ⟨_, rfl⟩
 have sd : d.size = 6 := by rw [hd]; rfl
 obtain ⟨la, ela⟩ : ∃ l, l = (⟨#[1, 0]⟩ : ByteArray) := ⟨_, rfl⟩
 have sla : la.size = 2 := by rw [ela]; rfl
 have LA_ := Lib.hid (fun w => descantref1_Low.calls 100 1 2 la w (by rw [ela]; decide +kernel))
 obtain ⟨lk, elk⟩ : ∃ l, l = (⟨#[2, 0]⟩ : ByteArray) := ⟨_, rfl⟩
 have slk : lk.size = 2 := by rw [elk]; rfl
 have LK_ := Lib.hid (fun w => descantref1_Low.calls 100 2 2 lk w (by rw [elk]; decide +kernel))
 obtain ⟨lb, elb⟩ : ∃ l, l = (⟨#[16, 0]⟩ : ByteArray) := ⟨_, rfl⟩
 have slb : lb.size = 2 := by rw [elb]; rfl
 have LB_ := Lib.hid (fun w => descantref1_Low.calls 100 16 2 lb w (by rw [elb]; decide +kernel))
 obtain ⟨ld, eld⟩ : ∃ l, l = (⟨#[6, 0, 0, 0]⟩ : ByteArray) := ⟨_, rfl⟩
 have sld : ld.size = 4 := by rw [eld]; rfl
 have LD_ := Lib.hid (fun w => descantref1_Low.calls 100 6 4 ld w (by rw [eld]; decide +kernel))
 obtain ⟨lr, elr⟩ : ∃ l, l = (⟨#[54, 0, 0, 0]⟩ : ByteArray) := ⟨_, rfl⟩
 have slr : lr.size = 4 := by rw [elr]; rfl
 have LR_ := Lib.hid (fun w => descantref1_Low.calls 100 54 4 lr w (by rw [elr]; decide +kernel))
 have hW : awW = (⟨#[82, 73, 70, 70]⟩ : ByteArray) ++ lr ++ ((⟨#[87, 65, 86, 69, 102, 109, 116, 32, 16, 0, 0, 0, 1, 0]⟩ : ByteArray) ++ la ++ ⟨#[114, 97, 116, 101, 97, 110, 100, 98]⟩ ++ lk ++ lb ++ ⟨#[100, 97, 116, 97]⟩ ++ ld ++ d ++ ⟨#[109, 111, 114, 101, 3, 0, 0, 0, 97, 98, 99, 100]⟩) := by
  rw [ela, elk, elb, eld, elr, hd]
  decide +kernel
 rw [← hd]
 have HW := Lib.hid hW
 clear hW ela elk elb eld elr hd
 obtain ⟨g, hg⟩ : ∃ g, g = W.heap.size := ⟨_, rfl⟩
 have B1 := Lib.hid (blk_new W (.cells #[.int .i64 1, .int .i64 16] 69))
 have H1 := Lib.hid (below_alloc (Below.refl W.heap.size W) (.cells #[.int .i64 1, .int .i64 16] 69))
 obtain ⟨k0, k1⟩ := fm_cells B1.out
 rw [← hg] at B1
 go_enter Tryz.func42, Tryz.ntmps42
 go_wp2_with fail
 simp only [← hg]
 clear k0 k1 hg
 generalize W.alloc (.cells #[.int .i64 1, .int .i64 16] 69) = w1 at B1 H1 ⊢
 have B2 := Lib.hid (blk_drew B1.out)
 have H2 := Lib.hid (below_drew1 H1.out)
 refine start_ (n := 13) (S := fun w' => w'.heap[g]? = some (.cells #[.int .i64 1, .int .i64 16] 69 (0, 0))) (ds := []) #[J,J,J,J,J,J,J,J,J,J,J,J,J] kr rfl rfl (blk_drew B1.out) (fun hHeld => ?_)
 refine with_tabW rW2_tab rW2_bits (fun HT_ HW_ => ?_)
 generalize w1.drew = w2 at B2 H2 hHeld ⊢
 clear B1 H1
 refine pu_ 0 13 #[Y,J,J,J,J,J,J,J,J,J,J,J,J] HT_ ?_
 refine take_ (i := 1) (N := some 14) (v := ?_) (a' := ?_) #[Y,Y,J,J,J,J,J,J,J,J,J,J,J] rfl rfl (take_ofW HT_.out HW_.out kr) (fun _ _ _ h => h) (Or.inl ⟨by rfl, ?_⟩) hHeld ?_ ?_
 rotate_left
 ·rintro w' s0
  obtain ⟨k0, k1⟩ := fm_cells s0
  go_simp
  with_reducible rfl
 rotate_left
 ·exact pT
 refine pu_ 5 18 #[Y,Y,J,J,J,Y,J,J,J,J,J,J,J] HT_ ?_
 refine pu_ 8 21 #[Y,Y,J,J,J,Y,J,J,Y,J,J,J,J] HT_ ?_
 refine take_ (i := 9) (N := some 22) (v := ?_) (a' := ?_) #[Y,Y,J,J,J,Y,J,J,Y,Y,J,J,J] rfl rfl (take_ofW HT_.out HW_.out kr) (fun _ _ _ h => h) (Or.inl ⟨by rfl, ?_⟩) hHeld ?_ ?_
 rotate_left
 ·rintro w' s0
  obtain ⟨k0, k1⟩ := fm_cells s0
  go_simp
  with_reducible rfl
 rotate_left
 ·exact pT
 refine one_ (i := 2) (N := some 15) #[Y,Y,Y,J,J,Y,J,J,Y,Y,J,J,J] rfl rfl (one_of HT_.out kr) (by decide) (fun K hK => ?_)
 refine goes_ Tryz.func105 kr rfl #[.int .i64 1, .int .i64 2] (by rfl) rfl rfl b50_ ?_
 refine (LA_.out _).mono ?_
 rintro e w3 ⟨rfl, hb⟩
 refine ⟨_, rfl, ?_⟩
 have B3 := Lib.hid (blk_below B2.out hb)
 have H3 := Lib.hid (below_step H2.out hb)
 clear hb B2 H2 LA_
 refine hK.out _ _ (B3.out) (fun hHeld => ?_)
 clear hK K
 refine norm_ (a' := ?_) ?_ ?_
 rotate_left
 ·show Act.put _ (some 15) _ = _
  exact pT
 refine pu_ 3 16 #[Y,Y,Y,Y,J,Y,J,J,Y,Y,J,J,J] HT_ ?_
 refine pu_ 4 17 #[Y,Y,Y,Y,Y,Y,J,J,Y,Y,J,J,J] HT_ ?_
 refine one_ (i := 6) (N := some 19) #[Y,Y,Y,Y,Y,Y,Y,J,Y,Y,J,J,J] rfl rfl (one_of HT_.out kr) (by decide) (fun K hK => ?_)
 refine goes_ Tryz.func105 kr rfl #[.int .i64 2, .int .i64 2] (by rfl) rfl rfl b50_ ?_
 refine (LK_.out _).mono ?_
 rintro e w4 ⟨rfl, hb⟩
 refine ⟨_, rfl, ?_⟩
 have B4 := Lib.hid (blk_below B3.out hb)
 have H4 := Lib.hid (below_step H3.out hb)
 clear hb B3 H3 LK_
 refine hK.out _ _ (B4.out) (fun hHeld => ?_)
 clear hK K
 refine norm_ (a' := ?_) ?_ ?_
 rotate_left
 ·show Act.put _ (some 19) _ = _
  exact pT
 refine pu_ 7 20 #[Y,Y,Y,Y,Y,Y,Y,Y,Y,Y,J,J,J] HT_ ?_
 refine one_ (i := 10) (N := some 23) #[Y,Y,Y,Y,Y,Y,Y,Y,Y,Y,Y,J,J] rfl rfl (one_of HT_.out kr) (by decide) (fun K hK => ?_)
 refine goes_ Tryz.func105 kr rfl #[.int .i64 16, .int .i64 2] (by rfl) rfl rfl b50_ ?_
 refine (LB_.out _).mono ?_
 rintro e w5 ⟨rfl, hb⟩
 refine ⟨_, rfl, ?_⟩
 have B5 := Lib.hid (blk_below B4.out hb)
 have H5 := Lib.hid (below_step H4.out hb)
 clear hb B4 H4 LB_
 refine hK.out _ _ (B5.out) (fun hHeld => ?_)
 clear hK K
 refine norm_ (a' := ?_) ?_ ?_
 rotate_left
 ·show Act.put _ (some 23) _ = _
  exact pT
 refine pu_ 11 24 #[Y,Y,Y,Y,Y,Y,Y,Y,Y,Y,Y,Y,J] HT_ ?_
 refine pu_ 12 6 #[Y,Y,Y,Y,Y,Y,Y,Y,Y,Y,Y,Y,Y] HT_ ?_
 refine done_ (done_of HT_.out kr) ?_
 clear hHeld
 go_wp2_with fail
 refine (LD_.out _).mono ?_
 rintro e w6 ⟨rfl, hb⟩
 have H6 := Lib.hid (below_step H5.out hb)
 clear hb
 go_wp2_with fail
 refine (LR_.out _).mono ?_
 rintro e w7 ⟨rfl, hb⟩
 have H7 := Lib.hid (below_step H6.out hb)
 clear hb
 go_wp2_with fail
 go_ret
 exact ⟨by rw [HW.out]; rfl, H7.out⟩
end Go.Proofs.YtnoibcdojfnicaaGreatDoor.PG
namespace Go.Proofs.YtnoibcdojfnicaaGreatDoor.PG
open Go.Proofs.YtnoibcdojfnicaaGreatDoorW.Short
open Bool renaming true → Y, false → J
open Go Go.RowKit Go.Proofs.YtnoibcdojfnicaaGreatDoorW.PrintWords Go.Proofs.YtnoibcdojfnicaaGreatDoorW.PrintMore Go.Proofs.YtnoibcdojfnicaaGreatDoorW.PrintLast
open Go.Proofs.YtnoibcdojfnicaaGreatDoor.Modn
attribute [-go_sem] Instr.loadAt Instr.storeAt Instr.build
def rA11T : Bool × List (List Nat × List Nat) := (true, [([], []), ([0], [0]), ([1], [1]), ([2], [2]), ([], []), ([3, 4], [3, 4]), ([5], [5]), ([6], [6]), ([6], [6]), ([7, 5, 0, 1, 2, 3, 4, 5, 6, 7], [7]), ([8, 9, 0, 1, 2, 3, 4, 5, 6, 7, 8, 9], [8])])
def rA11B : List Nat := [0, 1, 3, 7, 0, 31, 63, 127, 127, 255, 1023]
theorem rA11_tab : rtab .any (opsOf Tryz.f10 11) = rA11T := by kernel_rfl
theorem rA11_bits : waitsOk rA11T.2 rA11B = true := by kernel_rfl
abbrev fmC (c b : Int) : Array Value := #[.int .i64 c, .int .i64 b]
theorem store_new_fm (w : World) (c b : Int) : (Instr.storeAt 69 (.pointer (some { block := w.heap.size, off := 0 })) (.agg #[.int .i64 c, .int .i64 b])).run Tryz.prog (w.alloc (.cells #[.int .i64 0, .int .i64 0] 69 (0, 0))) = .ok () (w.alloc (.cells #[.int .i64 c, .int .i64 b] 69 (0, 0))) := by
 rw [Agg.store_all (P := Tryz.prog) (cs := #[.int .i64 0, .int .i64 0]) (blk_new w _) 69 #[.int .i64 c, .int .i64 b] kr rfl (by simp [Value.oneCell']), World.setRow_alloc_new]
attribute [local go_sem high] st_i6 ld_int ld_bool ld_strs ld_str ld_fm so_bool so_str so_strs bu_fm store_new_fm store_new_st shut_st store_new_wv shut_wv
theorem lists_567 (w : World) : Kd.C (Kd.slice 3 (Kd.int .i64)) ((w.alloc (.cells #[.int .i64 5, .int .i64 6, .int .i64 7] 3)).alloc (.cells #[.slice (some ⟨w.heap.size, 0, none⟩) 3 3] 22)) (some ⟨w.heap.size + 1, 0, none⟩) 1 [[5, 6, 7]] := by
 have h1 : (Kd.int .i64).C (w.alloc (.cells #[.int .i64 5, .int .i64 6, .int .i64 7] 3)) (some ⟨w.heap.size, 0, none⟩) 3 [5, 6, 7] := (Kd.R_reads' (Kd.R_of_own (own_lit w w.heap.size 3 .i64 [5, 6, 7] (Nat.le_refl _) (by decide)) (fun _ _ => trivial) : (Kd.int .i64).R 3 _ _ (fun _ => True) _ _)).2.2
 have h2 := Kd.C_below h1 (below_alloc (Below.refl _ _) (.cells #[.slice (some ⟨w.heap.size, 0, none⟩) 3 3] 22))
 have h3 : (w.alloc (.cells #[.int .i64 5, .int .i64 6, .int .i64 7] 3)).heap.size = w.heap.size + 1 := by simp
 have h4 := blk_new (w.alloc (.cells #[.int .i64 5, .int .i64 6, .int .i64 7] 3)) (.cells #[.slice (some ⟨w.heap.size, 0, none⟩) 3 3] 22)
 rw [h3] at h4
 refine ⟨rfl, by decide, fun _ => ⟨_, rfl, fun j p hj => ?_⟩⟩
 cases j with
 | succ j => cases hj
 | zero =>
  obtain rfl := Option.some.inj hj
  refine ⟨[.slice (some ⟨w.heap.size, 0, none⟩) 3 3], rfl, ⟨_, 3, rfl, Nat.le_refl _, h2⟩, fun i u hu => ?_⟩
  cases i with
  | succ i => cases hu
  | zero =>
   obtain rfl := Option.some.inj hu
   exact (cell_of_row _ _ 0 _ _ _ h4).trans rfl
set_option maxRecDepth 100000 in
set_option maxHeartbeats 16000000 in
theorem awake_c (W : World) (hL : Extra.Laid W) : Calls Tryz.prog 10 #[] W fun e w' => e = .returned (.bool true) ∧ Below W.heap.size W w' := by
 have hu69 := Tryz.underlying69
 have LW := Lib.hid hL
 clear hL
 have ex : awX.segs.length = 2 := rfl
 have exs : awX.segs.getD 0 ByteArray.empty = awS0 := rfl
 have F1 := Lib.hid (blk_new W (.cells (fmC 1 16) 69))
 have H1 := Lib.hid (below_alloc (Below.refl W.heap.size W) (.cells (fmC 1 16) 69))
 obtain ⟨gf, hgf⟩ : ∃ gf, gf = W.heap.size := ⟨_, rfl⟩
 have hWf : W.heap.size ≤ gf := Nat.le_of_eq hgf.symm
 obtain ⟨k0, k1⟩ := fm_cells F1.out
 go_enter Tryz.func10, Tryz.ntmps10
 go_wp2_with fail
 clear k0 k1
 rw [← hgf] at F1
 simp only [← hgf]
 clear hgf
 refine (awWav_c _).mono ?_
 rintro e w2 ⟨rfl, hb⟩
 have F2 := Lib.hid (blk_below F1.out hb)
 have H2 := Lib.hid (below_step H1.out hb)
 clear hb F1 H1
 go_wp2_with fail
 refine (enc_c 100 awW 2 (awE, 0) _ (Extra.Laid.below_ LW.out H2.out) aw_enc).mono ?_
 rintro e w3 ⟨rfl, hb⟩
 have F3 := Lib.hid (blk_below F2.out hb)
 have H3 := Lib.hid (below_step H2.out hb)
 clear hb F2 H2
 go_wp2_with fail
 refine (dec_c 100 frNone awE (awW, 0) _ (Extra.Laid.below_ LW.out H3.out) aw_dec).mono ?_
 rintro e w4 ⟨rfl, hb⟩
 have F4 := Lib.hid (blk_below F3.out hb)
 have H4 := Lib.hid (below_step H3.out hb)
 clear hb F3 H3
 go_wp2_with fail
 refine (stGet_c 100 awE (awX, 0) _ aw_get).mono ?_
 rintro e w5 ⟨A, n, rfl, hC, hn, hb⟩
 dsimp only at hC hn ⊢
 have F5 := Lib.hid (blk_below F4.out hb)
 have H5 := Lib.hid (below_step H4.out hb)
 clear hb F4 H4
 have C5 := Lib.hid hC
 clear hC
 have X6 := Lib.hid (blk_new w5 (.cells (stC awX A n) 86))
 have F6 := Lib.hid (blk_alloc F5.out (.cells (stC awX A n) 86))
 have H6 := Lib.hid (below_alloc H5.out (.cells (stC awX A n) 86))
 have C6 := Lib.hid (Kd.C_below C5.out (below_alloc (Below.refl w5.heap.size w5) (.cells (stC awX A n) 86)))
 obtain ⟨gx, hgx⟩ : ∃ gx, gx = w5.heap.size := ⟨_, rfl⟩
 rw [← hgx] at X6
 go_wp2_with fail
 simp only [← hgx]
 generalize w5.alloc (.cells (stC awX A n) 86) = w6 at X6 F6 H6 C6 ⊢
 clear F5 H5 C5 hgx
 refine (wave_Parse.calls 100 awW 1 16 awH awD awT 0 _ aw_parse).mono ?_
 rintro e w7 ⟨rfl, hb⟩
 have F7 := Lib.hid (blk_below F6.out hb)
 have H7 := Lib.hid (below_step H6.out hb)
 have X7 := Lib.hid (blk_below X6.out hb)
 have C7 := Lib.hid (Kd.C_below C6.out hb)
 clear hb F6 H6 X6 C6
 have V8 := Lib.hid (blk_new w7 (.cells (wvC 1 16 awH awD awT) 81))
 have F8 := Lib.hid (blk_alloc F7.out (.cells (wvC 1 16 awH awD awT) 81))
 have X8 := Lib.hid (blk_alloc X7.out (.cells (wvC 1 16 awH awD awT) 81))
 have H8 := Lib.hid (below_alloc H7.out (.cells (wvC 1 16 awH awD awT) 81))
 have C8 := Lib.hid (Kd.C_below C7.out (below_alloc (Below.refl w7.heap.size w7) (.cells (wvC 1 16 awH awD awT) 81)))
 obtain ⟨gv, hgv⟩ : ∃ gv, gv = w7.heap.size := ⟨_, rfl⟩
 rw [← hgv] at V8
 go_wp2_with fail
 simp only [← hgv]
 generalize w7.alloc (.cells (wvC 1 16 awH awD awT) 81) = w8 at V8 X8 F8 H8 C8 ⊢
 clear F7 X7 H7 C7 hgv
 refine (rng_c 100 frNone awE 0 3 (awD, 0) _ (Extra.Laid.below_ LW.out H8.out) aw_rng).mono ?_
 rintro e w9 ⟨rfl, hb⟩
 have F9 := Lib.hid (blk_below F8.out hb)
 have H9 := Lib.hid (below_step H8.out hb)
 have X9 := Lib.hid (blk_below X8.out hb)
 have V9 := Lib.hid (blk_below V8.out hb)
 have C9 := Lib.hid (Kd.C_below C8.out hb)
 clear hb F8 H8 X8 V8 C8
 obtain ⟨-, -, -, k3, -⟩ := wv_cells V9.out
 obtain ⟨j0, j1⟩ := fm_cells F9.out
 go_wp2_with fail
 clear k3 j0 j1
 refine (pcm_Get.calls 100 awD 1 16 [[5, 6, 7]] 0 _ aw_pcm).mono ?_
 rintro e w10 ⟨v0, rfl, hS, hb⟩
 have F10 := Lib.hid (blk_below F9.out hb)
 have H10 := Lib.hid (below_step H9.out hb)
 have X10 := Lib.hid (blk_below X9.out hb)
 have V10 := Lib.hid (blk_below V9.out hb)
 have C10 := Lib.hid (Kd.C_below C9.out hb)
 clear hb F9 H9 X9 V9 C9
 have S10 := Lib.hid hS
 clear hS
 obtain ⟨-, -, -, -, -, -, k6⟩ := st_cells X10.out
 go_wp2_with fail
 clear k6
 obtain ⟨ad, rfl, hx⟩ := elemS_c C10.out (k := 0) (by decide)
 rw [exs, show ad.add 0 = ad by cases ad; rfl] at hx
 have E10 := Lib.hid hx
 clear hx
 have X11 := Lib.hid (blk_drew X10.out)
 have F11 := Lib.hid (blk_drew F10.out)
 have V11 := Lib.hid (blk_drew V10.out)
 have E11 := Lib.hid ((show w10.drew.cell? ad = some (.string awS0) from E10.out))
 have H11 := Lib.hid (below_drew1 H10.out)
 have S11 := Lib.hid (Kd.S_drew S10.out)
 refine start_ (n := 11) (S := fun w' => w'.heap[gx]? = some (.cells (stC awX (some ad) n) 86 (0, 0)) ∧ w'.cell? ad = some (.string awS0) ∧ w'.heap[gf]? = some (.cells (fmC 1 16) 69 (0, 0))) (ds := []) #[J,J,J,J,J,J,J,J,J,J,J] kr rfl rfl (⟨blk_drew X10.out, E10.out, blk_drew F10.out⟩) (fun hHeld => ?_)
 refine with_tabW rA11_tab rA11_bits (fun HT_ HW_ => ?_)
 generalize w10.drew = w11 at X11 F11 V11 E11 H11 S11 hHeld ⊢
 clear X10 F10 V10 E10 H10 S10 C10
 refine pu_ 0 57 #[Y,J,J,J,J,J,J,J,J,J,J] HT_ ?_
 refine take_ (i := 1) (N := some 58) (v := ?_) (a' := ?_) #[Y,Y,J,J,J,J,J,J,J,J,J] rfl rfl (take_ofW HT_.out HW_.out kr) (fun _ _ _ h => h) (Or.inl ⟨by rfl, ?_⟩) hHeld ?_ ?_
 rotate_left
 ·rintro w' ⟨s0, s1, s2⟩
  obtain ⟨k0, k1, k2, k3, k4, k5, k6⟩ := st_cells s0
  obtain ⟨j0, j1⟩ := fm_cells s2
  go_simp
  with_reducible rfl
 rotate_left
 ·exact pT
 refine pu_ 2 59 #[Y,Y,Y,J,J,J,J,J,J,J,J] HT_ ?_
 refine take_ (i := 3) (N := some 60) (v := ?_) (a' := ?_) #[Y,Y,Y,Y,J,J,J,J,J,J,J] rfl rfl (take_ofW HT_.out HW_.out kr) (fun _ _ _ h => h) (Or.inl ⟨by rfl, ?_⟩) hHeld ?_ ?_
 rotate_left
 ·rintro w' ⟨s0, s1, s2⟩
  obtain ⟨k0, k1, k2, k3, k4, k5, k6⟩ := st_cells s0
  obtain ⟨j0, j1⟩ := fm_cells s2
  go_simp
  with_reducible rfl
 rotate_left
 ·exact pT
 refine take_ (i := 4) (N := some 61) (v := ?_) (a' := ?_) #[Y,Y,Y,Y,Y,J,J,J,J,J,J] rfl rfl (take_ofW HT_.out HW_.out kr) (fun _ _ _ h => h) (Or.inl ⟨by rfl, ?_⟩) hHeld ?_ ?_
 rotate_left
 ·rintro w' ⟨s0, s1, s2⟩
  obtain ⟨k0, k1, k2, k3, k4, k5, k6⟩ := st_cells s0
  obtain ⟨j0, j1⟩ := fm_cells s2
  go_simp
  with_reducible rfl
 rotate_left
 ·exact pT
 refine one_ (i := 5) (N := some 62) #[Y,Y,Y,Y,Y,Y,J,J,J,J,J] rfl rfl (one_of HT_.out kr) (by decide) (fun K hK => ?_)
 refine goes_ Tryz.func43 kr rfl #[.string awS0, .agg #[.int .i64 1, .int .i64 16]] (by rfl) rfl rfl b50_ ?_
 refine (segGet_c 100 frNone awS0 1 16 (⟨#[5, 0, 6, 0]⟩, 0) _ (by decide) (Extra.Laid.below_ LW.out H11.out) aw_seg).mono ?_
 rintro e w12 ⟨rfl, hb⟩
 refine ⟨_, rfl, ?_⟩
 have X12 := Lib.hid (blk_below X11.out hb)
 have F12 := Lib.hid (blk_below F11.out hb)
 have V12 := Lib.hid (blk_below V11.out hb)
 have E12 := Lib.hid (cb_ E11.out hb)
 have H12 := Lib.hid (below_step H11.out hb)
 have S12 := Lib.hid (Kd.S_below S11.out hb)
 clear hb X11 F11 V11 E11 H11 S11
 refine hK.out _ _ (⟨X12.out, E12.out, F12.out⟩) (fun hHeld => ?_)
 clear hK K
 refine norm_ (a' := ?_) ?_ ?_
 rotate_left
 ·show Act.put _ (some 62) _ = _
  exact pT
 refine pu_ 6 56 #[Y,Y,Y,Y,Y,Y,Y,J,J,J,J] HT_ ?_
 refine pu_ 7 63 #[Y,Y,Y,Y,Y,Y,Y,Y,J,J,J] HT_ ?_
 refine pu_ 8 64 #[Y,Y,Y,Y,Y,Y,Y,Y,Y,J,J] HT_ ?_
 refine pu_ 9 15 #[Y,Y,Y,Y,Y,Y,Y,Y,Y,Y,J] HT_ ?_
 refine pu_ 10 16 #[Y,Y,Y,Y,Y,Y,Y,Y,Y,Y,Y] HT_ ?_
 refine done_ (done_of HT_.out kr) ?_
 clear hHeld
 obtain ⟨A0, c0, e0, hc0, hr0⟩ := Kd.S_reads S12.out
 subst e0
 have Z12 := Lib.hid hr0
 clear hr0 S12 X12 F12 E12
 go_wp2_with fail
 refine (descantlaw0_Num.calls 0 0 _ rfl).mono ?_
 rintro e w13 ⟨rfl, hd⟩
 have hb := hd.below
 have H13 := Lib.hid (below_step H12.out hb)
 have V13 := Lib.hid (blk_below V12.out hb)
 have Z13 := Lib.hid (Kd.C_below Z12.out hb)
 clear hd hb H12 V12 Z12
 go_wp2_with fail
 refine (descantlaw0_Num.calls 0 0 _ rfl).mono ?_
 rintro e w14 ⟨rfl, hd⟩
 have hb := hd.below
 have H14 := Lib.hid (below_step H13.out hb)
 have V14 := Lib.hid (blk_below V13.out hb)
 have Z14 := Lib.hid (Kd.C_below Z13.out hb)
 clear hd hb H13 V13 Z13
 go_wp2_with fail
 refine (descantlaw0_Num.calls 0 0 _ rfl).mono ?_
 rintro e w15 ⟨rfl, hd⟩
 have hb := hd.below
 have H15 := Lib.hid (below_step H14.out hb)
 have V15 := Lib.hid (blk_below V14.out hb)
 have Z15 := Lib.hid (Kd.C_below Z14.out hb)
 clear hd hb H14 V14 Z14
 go_wp2_with fail
 refine (descantlaw0_Num.calls 0 0 _ rfl).mono ?_
 rintro e w16 ⟨rfl, hd⟩
 have hb := hd.below
 have H16 := Lib.hid (below_step H15.out hb)
 have V16 := Lib.hid (blk_below V15.out hb)
 have Z16 := Lib.hid (Kd.C_below Z15.out hb)
 clear hd hb H15 V15 Z15
 obtain ⟨-, -, -, k3, -⟩ := wv_cells V16.out
 go_wp2_with fail
 refine (descantlaw0_Num.calls 0 0 _ rfl).mono ?_
 rintro e w17 ⟨rfl, hd⟩
 have hb := hd.below
 have H17 := Lib.hid (below_step H16.out hb)
 have Z17 := Lib.hid (Kd.C_below Z16.out hb)
 clear hd hb H16 Z16
 clear V16 k3
 go_wp2_with fail
 refine (descantlaw0_SameLists.calls 100 A0 c0 [[5, 6, 7]] (some ⟨w17.heap.size + 1, 0, none⟩) 1 [[5, 6, 7]] true _ (Kd.C_below (Kd.C_below Z17.out (below_alloc (Below.refl _ _) _)) (below_alloc (Below.refl _ _) _)) hc0 (lists_567 w17) (Nat.le_refl _) aw_same).mono ?_
 rintro e w18 ⟨rfl, hd⟩
 have H18 := Lib.hid (below_step (below_alloc (below_alloc H17.out _) _) hd.below)
 clear hd H17 Z17
 go_wp2_with fail
 refine (descantlaw0_Num.calls 0 0 _ rfl).mono ?_
 rintro e w19 ⟨rfl, hd⟩
 have hb := hd.below
 have H19 := Lib.hid (below_step H18.out hb)
 clear hd hb H18
 go_wp2_with fail
 refine (descantlaw0_Num.calls 0 0 _ rfl).mono ?_
 rintro e w20 ⟨rfl, hd⟩
 have hb := hd.below
 have H20 := Lib.hid (below_step H19.out hb)
 clear hd hb H19
 go_wp2_with fail
 go_ret
 exact ⟨rfl, H20.out⟩
end Go.Proofs.YtnoibcdojfnicaaGreatDoor.PG
namespace Go.Proofs.YtnoibcdojfnicaaGreatDoor.PB
open Go.Proofs.YtnoibcdojfnicaaGreatDoorW.Short
open Bool renaming true → Y, false → J
open Go Go.RowKit Go.Proofs.YtnoibcdojfnicaaGreatDoorW.PrintWords Go.Proofs.YtnoibcdojfnicaaGreatDoorW.PrintMore Go.Proofs.YtnoibcdojfnicaaGreatDoorW.PrintLast
theorem ones_rep (t : List Int) : ∀ n : Nat, ones (List.replicate n 1 ++ ([0] ++ t)) = n
 | 0 => rfl
 | n + 1 => by
  rw [List.replicate_succ, List.cons_append]
  show (if (1 : Int) = 1 then ones (List.replicate n 1 ++ ([0] ++ t)) + 1 else 0) = n + 1
  rw [if_pos rfl, ones_rep t n]
theorem ones_gBits (u : Int) : ones (gBits u) = gLen u := by
 unfold gBits
 rw [List.append_assoc]
 exact ones_rep _ _
theorem gTail_get (v : Int) (n : Nat) : ∀ (k j : Nat), j < k → (gTail v n k)[j]? = some (v / 2 ^ (n - 1 - j) % 2)
 | 0, j, h => by omega
 | k + 1, j, h => by
  unfold gTail
  by_cases hj : j < k
  ·rw [List.getElem?_append_left (by rw [gTail_len]; exact hj)]
   exact gTail_get v n k j hj
  ·obtain rfl : j = k := by omega
   rw [List.getElem?_append_right (by rw [gTail_len]; omega), gTail_len, Nat.sub_self]
   rfl
theorem gTail_bit (v : Int) (n : Nat) : ∀ k, allB (gTail v n k) = true
 | 0 => rfl
 | k + 1 => by
  unfold gTail
  have := gTail_bit v n k
  unfold allB at this ⊢
  rw [List.all_append, this, Bool.true_and]
  simp only [List.all_cons, List.all_nil, Bool.and_true, isBit]
  exact decide_eq_true (by omega)
theorem gBits_bit (u : Int) : allB (gBits u) = true := by
 unfold gBits allB
 rw [List.all_append, List.all_append]
 have h1 := gTail_bit (u + 1) (gLen u) (gLen u)
 unfold allB at h1
 rw [h1, Bool.and_true]
 have h2 : (List.replicate (gLen u) (1 : Int)).all isBit = true := by
  rw [List.all_eq_true]
  intro x hx
  obtain rfl := (List.mem_replicate.1 hx).2
  rfl
 rw [h2]
 rfl
theorem gBits_get (u : Int) {j : Nat} (h : j < gLen u) : rd (gBits u) ((gLen u + 1 + j : Nat) : Int) = (u + 1) / 2 ^ (gLen u - 1 - j) % 2 := by
 have e : (gBits u)[gLen u + 1 + j]? = some ((u + 1) / 2 ^ (gLen u - 1 - j) % 2) := by
  unfold gBits
  rw [List.getElem?_append_right (by rw [List.length_append, List.length_replicate]; show _ + 1 ≤ _; omega), List.length_append, List.length_replicate]
  rw [show gLen u + 1 + j - (gLen u + [(0 : Int)].length) = j by show _ - (_ + 1) = _; omega]
  exact gTail_get _ _ _ _ h
 unfold rd
 rw [Int.toNat_natCast, List.getD_eq_getElem?_getD, e]
 rfl
theorem half_step (v : Int) (m : Nat) : v / 2 ^ m = 2 * (v / 2 ^ (m + 1)) + v / 2 ^ m % 2 := by
 have e : v / 2 ^ (m + 1) = v / 2 ^ m / 2 := by rw [Int.pow_succ, Int.ediv_ediv_of_nonneg (Int.le_of_lt (Int.pow_pos (by decide)))]
 rw [e]
 omega
theorem half_top {v : Int} {n : Nat} (h0 : (2 : Int) ^ n ≤ v) (h1 : v < 2 ^ (n + 1)) : v / 2 ^ n = 1 := by
 have hp : (0 : Int) < 2 ^ n := Int.pow_pos (by decide)
 have a : 1 ≤ v / 2 ^ n := (Int.le_ediv_iff_mul_le hp).2 (by omega)
 have b : v / 2 ^ n < 2 := (Int.ediv_lt_iff_lt_mul hp).2 (by rw [Int.pow_succ] at h1; omega)
 omega
theorem eq_loop (l : List Int) (hb : l.length ≤ 1000000) (k : Nat) (d : Nat) : ∀ j : Nat, j + d = l.length → slices_Equal_int_int.l0 (k + d + 1) l l (l.length : Int) j = some true := by
 induction d with
 | zero =>
  intro j hj
  show slices_Equal_int_int.l0 (k + 0 + 1) l l (l.length : Int) j = _
  unfold slices_Equal_int_int.l0
  rw [if_neg (by omega)]
 | succ d ih =>
  intro j hj
  rw [show k + (d + 1) + 1 = (k + d + 1) + 1 by omega]
  unfold slices_Equal_int_int.l0
  rw [if_pos (by omega), if_pos (by omega), if_pos (by omega), if_pos (by omega), if_pos rfl]
  rw [Num.w64 (by omega) (by omega)]
  exact ih (j + 1) (by omega)
theorem eq_self (l : List Int) (hb : l.length ≤ 1000000) : slices_Equal_int_int.f (l.length + 1) l l = some true := by
 unfold slices_Equal_int_int.f
 rw [if_pos rfl]
 have := eq_loop l hb 0 l.length 0 (by omega)
 rw [Nat.zero_add] at this
 exact this
theorem whole_is {u : Int} (h0 : 0 ≤ u) (h1 : u ≤ 33554432) : gamma_Whole.f ((gBits u).length + 1) (gBits u) = some true := by
 have hl := gBits_len u
 have hn := (gLen_in h0 h1).2.2.1
 unfold gamma_Whole.f
 rw [gamma_bits _ (by omega) (gBits_bit u), ones_gBits]
 simp only [Option.bind_some]
 rw [if_pos (decide_eq_true (by omega)), Num.w64 (n := 2 * (gLen u : Int)) (by omega) (by omega), Num.w64 (by omega) (by omega)]
 congr 1
 exact beq_iff_eq.2 (by omega)
set_option maxRecDepth 100000 in
set_option maxHeartbeats 8000000 in
theorem numb_c (u : Int) (A : Option Addr) (c0 : Nat) (W : World) (h0 : 0 ≤ u) (h1 : u ≤ 33554432) (hr : (Kd.int .i64).C W A (gBits u).length (gBits u)) (hc : (gBits u).length ≤ c0) : Calls Tryz.prog 23 #[.slice A (gBits u).length c0] W fun e w' => e = .returned (.tuple #[.int .i64 u, .int .i64 0]) ∧ Below W.heap.size W w' := by
 obtain ⟨n, hn⟩ : ∃ n, n = gLen u := ⟨_, rfl⟩
 have hl := gBits_len u
 have hn25 := (gLen_in h0 h1).2.2.1
 have hlo := (gLen_in h0 h1).1
 have hhi := (gLen_in h0 h1).2.1
 have O1 := Lib.hid (fun w hr => gamma_Ones.calls ((gBits u).length + 1) A c0 (gBits u) n true w hr hc (by rw [gamma_bits _ (by omega) (gBits_bit u), ones_gBits, hn, decide_eq_true (by omega)]))
 have W1 := Lib.hid (fun w hr => gamma_Whole.calls ((gBits u).length + 1) A c0 (gBits u) true w hr hc (whole_is h0 h1))
 have hget : ∀ j : Nat, j < n → rd (gBits u) ((n + 1 + j : Nat) : Int) = (u + 1) / 2 ^ (n - 1 - j) % 2 := fun j h => by rw [hn] at h ⊢; exact gBits_get u h
 have BC := Lib.hid (fun w => gbits_c u w h0 h1)
 have EQ := Lib.hid (fun A1 c1 w hr0 hc0 hr1 => slices_Equal_int_int.calls ((gBits u).length + 1) A1 c1 (gBits u) A c0 (gBits u) true w hr0 hc0 hr1 hc (eq_self _ (by omega)))
 rw [← hn] at hl hn25 hlo hhi
 obtain ⟨bs, hbs⟩ : ∃ bs, bs = gBits u := ⟨_, rfl⟩
 rw [← hbs] at hr hc hl O1 W1 EQ BC ⊢
 simp only [← hbs] at hget
 have GET := Lib.hid hget
 obtain ⟨ii, hii, hsi⟩ := Option.map_eq_some_iff.1 info_int
 obtain ⟨A1, hcut, hA1, _⟩ := print_cut_int (P := Tryz.prog) (k := .i64) 22 3 Tryz.underlying22 hii hsi A c0 bs ((n : Int) + 1) (by omega) (by omega) hc
 have RC := Lib.hid hr
 have HU := Lib.hid (And.intro h0 h1)
 have HLO := Lib.hid hlo
 have HL := Lib.hid hl
 have HHI := Lib.hid hhi
 have CUT := Lib.hid hcut
 have CA := Lib.hid hA1
 have g25 : decide ((n : Int) > 25) = false := decide_eq_false (by omega)
 clear hn hget hbs hlo hhi hcut hA1 hsi hii hr hl h0 h1
 obtain ⟨ad, rfl, -⟩ := elem_c RC.out (k := 0) (by have := HL.out; omega)
 go_enter Tryz.func23, Tryz.ntmps23
 go_wp2_with fail
 refine (O1.out _ RC.out).mono ?_
 rintro e w1 ⟨rfl, hd⟩
 have H1 := Lib.hid hd.below
 clear hd O1
 go_wp2_with fail
 refine (W1.out _ (Kd.C_below RC.out H1.out)).mono ?_
 rintro e w2 ⟨rfl, hd⟩
 have H2 := Lib.hid (below_step H1.out hd.below)
 clear hd W1 H1
 have b1 : (n : Int) + 1 ≤ (bs.length : Int) := by have := HL.out; omega
 have b2 : n + 1 ≤ bs.length := by have := HL.out; omega
 have b3 : (0 : Int) ≤ (n : Int) + 1 := by omega
 have b4 := decide_eq_true b1
 have b5 := decide_eq_true b2
 go_wp2_with fail
 all_goals
  (try subst h)
  clear b1 b3 b4 b5 g25
  go_loopw [6, 28] (fun v i wr => ∃ j : Nat, j ≤ n ∧ i = .int .i64 j ∧ v = .int .i64 ((u + 1) / 2 ^ (n - j)) ∧ Hid (Below W.heap.size W wr)) (fun _ i _ => n - (intOf i).toNat)
  case atStart => exact ⟨0, by omega, rfl, by rw [Nat.sub_zero, half_top HLO.out HHI.out], H2⟩
  case round =>
   clear H2
   obtain ⟨j, hj, rfl, rfl, hH⟩ := hrel
   by_cases hlt_ : j < n ∧ n + 1 < bs.length
   ·obtain ⟨hlt, hlt2⟩ := hlt_
    (try (exfalso; omega))
    all_goals
     have jm2 : j < bs.length - (n + 1) := by have := HL.out; omega
     have jm : decide (j < bs.length - (n + 1)) = true := decide_eq_true jm2
     have hst := half_step (u + 1) (n - (j + 1))
     have hge := GET.out j hlt
     rw [show n - 1 - j = n - (j + 1) by omega] at hge
     rw [show n - (j + 1) + 1 = n - j by omega, ← hge] at hst
     have hxa := elem_c (Kd.C_below RC.out hH.out) (k := n + 1 + j) (by have := HL.out; omega)
     obtain ⟨ad', ea, hx⟩ := hxa
     obtain rfl := Option.some.inj ea
     obtain ⟨b, hb⟩ : ∃ b, b = rd bs ((n + 1 + j : Nat) : Int) := ⟨_, rfl⟩
     rw [show bs.getD (n + 1 + j) 0 = b by rw [hb]; unfold rd; rw [Int.toNat_natCast]] at hx
     have hx2 : wr.cell? ⟨ad.block, ad.off + (n + 1) + j, none⟩ = some (.int .i64 b) := by
      rw [← hx]
      unfold Addr.add
      rw [if_neg (by omega), show ad.off + (n + 1) + j = ad.off + (n + 1 + j) by omega]
     rw [← hb] at hge hst
     have HG := Lib.hid hge
     have HS := Lib.hid hst
     clear hge hst hx ea hb
     go_wp2_with fail
     all_goals
      obtain ⟨q, hq⟩ : ∃ q, q = (u + 1) / 2 ^ (n - j) := ⟨_, rfl⟩
      have hp : (0 : Int) < 2 ^ (n - j) := Int.pow_pos (by decide)
      have q0 : 0 ≤ q := by rw [hq]; exact Int.ediv_nonneg (by have := HU.out; omega) (by omega)
      have q1 : q ≤ u + 1 := by rw [hq]; exact Int.ediv_le_self _ (by have := HU.out; omega)
      have hs := HS.out
      rw [← hq] at hs ⊢
      have hb2 : b % 2 = b := by have := HG.out; omega
      have hbb : 0 ≤ b ∧ b < 2 := by omega
      have hu := HU.out
      exact ⟨⟨j + 1, by omega, by go_num, by rw [and1, hb2, Num.w64 (by omega) (by omega), Num.or_add (q * 2) b 1 (by omega) (by omega) (by omega) hbb.1 (by omega) (by decide), hs]; congr 1; omega, hH⟩, by simp [intOf]; omega⟩
   ·obtain rfl : j = n := by have := HL.out; omega
    have jm2 : ¬ j < bs.length - (j + 1) := by have := HL.out; omega
    have jm : decide (j < bs.length - (j + 1)) = false := decide_eq_false jm2
    have hv : (u + 1) / 2 ^ (j - j) = u + 1 := by rw [Nat.sub_self]; simp
    have hu := HU.out
    have hw : wrap64 u = u := Num.w64 (by omega) (by omega)
    rw [hv]
    clear hv hu hlt_
    go_wp2_with fail
    refine (BC.out _).mono ?_
    rintro e w3 ⟨v3, rfl, hv3, hb⟩
    have H3 := Lib.hid (below_step hH.out hb)
    obtain ⟨A3, c3, rfl⟩ := Kd.R_slice hv3
    have S3 := Lib.hid (Kd.R_reads' hv3)
    clear hb hv3 hH BC
    go_wp2_with fail
    refine (EQ.out _ _ _ S3.out.2.2 S3.out.2.1 (Kd.C_below RC.out H3.out)).mono ?_
    rintro e w4 ⟨rfl, hd⟩
    have H4 := Lib.hid (below_step H3.out hd.below)
    clear hd EQ H3 S3 jm jm2 b2 hc hn25 GET hj HL HLO HHI CUT CA RC
    go_wp2_with fail
    go_ret2
    exact ⟨by first | rfl | (simp only [hw]; rfl) | (rw [hw]; rfl), H4.out⟩
end Go.Proofs.YtnoibcdojfnicaaGreatDoor.PB
namespace Go.Proofs.YtnoibcdojfnicaaGreatDoor.PB
open Go.Proofs.YtnoibcdojfnicaaGreatDoorW.Short
open Bool renaming true → Y, false → J
open Go.RowKit Go.Proofs.YtnoibcdojfnicaaGreatDoorW.PrintWords Go.Proofs.YtnoibcdojfnicaaGreatDoorW.PrintLast Go.Proofs.YtnoibcdojfnicaaGreatDoorW.PrintMore
attribute [local go_sem] max2_int min2_int max_two min_two max_three min_three max_four min_four
def fold_Get.j0 : Nat → Int → Bool → Option (Int × Int)
 | 0, _, _ => none
 | k + 1, x0, x9 => if x9 = true then (some (0, 1000)) else (if (Int.tmod x0 2) = 1 then (some (wrap64 ((wrap64 (-(wrap64 (Int.tdiv x0 2)))) - 1), 0)) else (some (wrap64 (Int.tdiv x0 2), 0)))
def fold_Get.f (k : Nat) (a0 : Int) : Option (Int × Int) := if a0 < 0 then (fold_Get.j0 k a0 true) else (fold_Get.j0 k a0 (decide (a0 > 33554432)))
set_option maxHeartbeats 8000000 in
set_option maxRecDepth 100000 in
theorem fold_Get.calls (k : Nat) (a0 : Int) (r1 : Int) (r2 : Int) (w : World) (h : fold_Get.f k a0 = some (r1, r2)) :
  Calls Tryz.prog 24 #[.int .i64 a0] w fun e w' => e = .returned (.tuple #[.int .i64 r1, .int .i64 r2]) ∧ Drawn0 w w' := by
 have H : (if a0 < 0 then (fold_Get.j0 k a0 true) else (fold_Get.j0 k a0 (decide (a0 > 33554432)))) = some (r1, r2) := h
 clear h
 have HC2 := Aside0.mk H
 clear H
 go_enter Tryz.func24, Tryz.ntmps24
 go_upto_region 1 with (fail)
 go_cut [9] (fun v9 wc => ∃ (kq : Nat) (x9_1 : Bool), v9 = .bool x9_1 ∧ Aside0 (fold_Get.j0 kq a0 x9_1 = some (r1, r2)) ∧ Aside0 (kq ≤ k) ∧ Drawn0 w wc)
 case first =>
  have H := HC2.out
  clear HC2
  by_cases c3 : a0 < 0
  ·rw [if_pos c3] at H
   have c3b0 : decide (a0 < 0) = true := decide_eq_true c3
   clear c3
   (first | rw [c3b0] | (simp only [i64_w, i32_w]; rw [c3b0]) | skip)
   have H' := Aside0.mk H
   clear H
   go_wp2
   go_meet
   case rel => exact ⟨_, (true), b56_, H', ⟨b60_⟩, b52_⟩
  ·rw [if_neg c3] at H
   have c3b0 : decide (a0 < 0) = false := decide_eq_false c3
   clear c3
   (first | rw [c3b0] | (simp only [i64_w, i32_w]; rw [c3b0]) | skip)
   have H' := Aside0.mk H
   clear H
   go_wp2
   go_meet
   case rel => exact ⟨_, (decide (a0 > 33554432)), b56_, H', ⟨b60_⟩, b52_⟩
 case rest =>
  clear HC2
  try clear c2
  try clear p2
  try clear c3
  try clear c3b0
  obtain ⟨kq, x9_1, rfl, HA, HJ1, ⟨mc1, rfl⟩⟩ := hcut
  cases kq with
  | zero => exact absurd HA.out (by simp [fold_Get.j0])
  | succ kj1 =>
   have H := HA.out
   clear HA
   simp only [fold_Get.j0] at H
   by_cases c4 : x9_1 = true
   ·subst c4
    have H1 : (some (0, 1000)) = some (r1, r2) := by rw [if_pos rfl] at H; exact H
    clear H
    have H := H1
    clear H1
    simp only [Option.some.injEq, Prod.mk.injEq] at H
    obtain ⟨rfl, rfl⟩ := H
    go_wp2
    go_ret2
    exact ⟨b57_, b52_⟩
   ·replace c4 := Bool.eq_false_iff.mpr c4
    subst c4
    have H1 : (if (Int.tmod a0 2) = 1 then (some (wrap64 ((wrap64 (-(wrap64 (Int.tdiv a0 2)))) - 1), 0)) else (some (wrap64 (Int.tdiv a0 2), 0))) = some (r1, r2) := by rw [if_neg (show ¬ (false = true) by decide)] at H; exact H
    clear H
    have H := H1
    clear H1
    by_cases c5 : (Int.tmod a0 2) = 1
    ·rw [if_pos c5] at H
     have c5b0 : ((Int.tmod a0 2) == 1) = true := beq_iff_eq.mpr c5
     have c5b1 : ((Int.tmod a0 2) != 1) = false := bne_eq_false_iff_eq.mpr c5
     clear c5
     simp only [Option.some.injEq, Prod.mk.injEq] at H
     obtain ⟨rfl, rfl⟩ := H
     go_wp2
     go_ret2
     exact ⟨b57_, b52_⟩
    ·rw [if_neg c5] at H
     have c5b0 : ((Int.tmod a0 2) == 1) = false := beq_eq_false_iff_ne.mpr c5
     have c5b1 : ((Int.tmod a0 2) != 1) = true := bne_iff_ne.mpr c5
     simp only [Option.some.injEq, Prod.mk.injEq] at H
     obtain ⟨rfl, rfl⟩ := H
     go_wp2
     go_ret2
     exact ⟨b57_, b52_⟩
end Go.Proofs.YtnoibcdojfnicaaGreatDoor.PB
