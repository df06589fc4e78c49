/- A part of the proof of a law of descanttop: this session's own texts and printed texts, shortened and joined. -/
import Derived.Test.YtnoibcdojfnicaaGreatDoorD38
import Derived.Test.YtnoibcdojfnicaaGreatDoorD15
import Derived.Test.YtnoibcdojfnicaaGreatDoorD3
set_option linter.unusedVariables false
set_option linter.unusedSimpArgs false
namespace Go.Proofs.YtnoibcdojfnicaaGreatDoor.PG
open Go.Proofs.YtnoibcdojfnicaaGreatDoorW.Short
open Bool renaming true → Y, false → J
open Go Go.RowKit Go.Proofs.YtnoibcdojfnicaaGreatDoorW.PrintWords Go.Proofs.YtnoibcdojfnicaaGreatDoorW.PrintMore Go.Proofs.YtnoibcdojfnicaaGreatDoorW.PrintLast
open Go.Proofs.YtnoibcdojfnicaaGreatDoor.Modn
open Go.Proofs.YtnoibcdojfnicaaGreatDoor.PB (gBits gBits_len gBits_bit gLen_in gbits_c numb_c ctxOk ctxF allB of_good RI)
attribute [-go_sem] Instr.loadAt Instr.storeAt Instr.build
theorem store_new_t3 (w : World) (a b c : Int) : (Instr.storeAt 26 (.pointer (some { block := w.heap.size, off := 0 })) (.agg #[.int .i64 a, .int .i64 b, .int .i64 c])).run Tryz.prog (w.alloc (.cells #[.int .i64 0, .int .i64 0, .int .i64 0] 26 (0, 0))) = .ok () (w.alloc (.cells #[.int .i64 a, .int .i64 b, .int .i64 c] 26 (0, 0))) := by
 rw [Agg.store_all (P := Tryz.prog) (cs := #[.int .i64 0, .int .i64 0, .int .i64 0]) (blk_new w _) 26 #[.int .i64 a, .int .i64 b, .int .i64 c] kr rfl (by simp [Value.oneCell']), World.setRow_alloc_new]
attribute [local go_sem high] ld_int store_new_t3
theorem fold_pair {x : Int} (h0 : -16777216 ≤ x) (h1 : x ≤ 16777216) : ∃ u, PB.fold_Put.f x = some (u, 0) ∧ 0 ≤ u ∧ u ≤ 33554432 ∧ PB.fold_Get.f 1 u = some (x, 0) := by
 have hn : PB.fold_Number.f x = some true := by unfold PB.fold_Number.f; rw [if_pos h0, decide_eq_true h1]
 have hg : ∀ u : Int, 0 ≤ u → u ≤ 33554432 → PB.fold_Get.f 1 u = (if (Int.tmod u 2) = 1 then (some (wrap64 ((wrap64 (-(wrap64 (Int.tdiv u 2)))) - 1), 0)) else (some (wrap64 (Int.tdiv u 2), 0))) := fun u a b => by
  unfold PB.fold_Get.f
  rw [if_neg (by omega), decide_eq_false (by omega)]
  rfl
 by_cases hx : x < 0
 ·refine ⟨-2 * x - 1, ?_, by omega, by omega, ?_⟩
  ·unfold PB.fold_Put.f
   rw [hn]
   simp only [Option.bind_some]
   rw [if_pos trivial, if_pos hx, Num.w64 (n := -2 * x) (by omega) (by omega), Num.w64 (by omega) (by omega)]
  ·rw [hg _ (by omega) (by omega), if_pos (by rw [Int.tmod_eq_emod_of_nonneg (by omega)]; omega), Int.tdiv_eq_ediv_of_nonneg (by omega)]
   rw [Num.w64 (n := (-2 * x - 1) / 2) (by omega) (by omega), Num.w64 (n := -((-2 * x - 1) / 2)) (by omega) (by omega), Num.w64 (by omega) (by omega)]
   congr 2
   omega
 ·refine ⟨2 * x, ?_, by omega, by omega, ?_⟩
  ·unfold PB.fold_Put.f
   rw [hn]
   simp only [Option.bind_some]
   rw [if_pos trivial, if_neg hx, Num.w64 (by omega) (by omega)]
  ·rw [hg _ (by omega) (by omega), if_neg (by rw [Int.tmod_eq_emod_of_nonneg (by omega)]; omega), Int.tdiv_eq_ediv_of_nonneg (by omega), Num.w64 (by omega) (by omega)]
   congr 2
   omega
theorem fold_none {x : Int} (h : ¬ (-16777216 ≤ x ∧ x ≤ 16777216)) : PB.fold_Put.f x = some (0, 1000) := by
 have hn : PB.fold_Number.f x = some false := by
  unfold PB.fold_Number.f
  by_cases h0 : x ≥ -16777216
  ·rw [if_pos h0, decide_eq_false (by omega)]
  ·rw [if_neg h0]
 unfold PB.fold_Put.f
 rw [hn]
 rfl
theorem take_C {w : World} {A : Option Addr} {xs : List Int} (h : (Kd.int .i64).C w A xs.length xs) {i : Nat} (hi : i ≤ xs.length) : (Kd.int .i64).C w A (xs.take i).length (xs.take i) := by
 refine ⟨rfl, by rw [List.length_take]; have := h.2.1; omega, fun hp => ?_⟩
 obtain ⟨ad, e, hc⟩ := h.2.2 (by rw [List.length_take] at hp; omega)
 refine ⟨ad, e, fun j p hj => ?_⟩
 rw [List.getElem?_take] at hj
 split at hj
 ·exact hc j p hj
 ·cases hj
set_option maxRecDepth 100000 in
set_option maxHeartbeats 8000000 in
theorem topNumbers_walk (x before : Int) (W : World) (_ : (Lit.int .i64 x).wf = true) (_ : (Lit.int .i64 before).wf = true) (hL : Extra.Laid W) : Calls Tryz.prog 4 #[.int .i64 x, .int .i64 before] W fun e w' => e = .returned (.bool true) ∧ Below W.heap.size W w' := by
 have AC := Lib.hid (awake_c W hL)
 clear hL
 by_cases hx : -16777216 ≤ x ∧ x ≤ 16777216
 ·obtain ⟨u, hu, u0, u1, hg⟩ := fold_pair hx.1 hx.2
  have FP := Lib.hid (fun w => PB.fold_Put.calls x u 0 w hu)
  have FG := Lib.hid (fun w => PB.fold_Get.calls 1 u x 0 w hg)
  have GB := Lib.hid (fun w => gbits_c u w u0 u1)
  have NB := Lib.hid (fun A c w hr hc => numb_c u A c w u0 u1 hr hc)
  have gl : (gBits u).length ≤ 63 := by rw [gBits_len]; have := (gLen_in u0 u1).2.2.1; omega
  have ga := gBits_bit u
  obtain ⟨bs, hbs⟩ : ∃ bs, bs = gBits u := ⟨_, rfl⟩
  rw [← hbs] at GB NB gl ga
  obtain ⟨m, hm⟩ : ∃ m, m = Go.bits .and .i64 before 31 := ⟨_, rfl⟩
  have m0 : 0 ≤ m ∧ m ≤ 31 := by
   rw [hm, Num.and_mask before 31 5 (by omega) (by rfl), show (2 : Int) ^ 5 = 32 by decide]
   omega
  have OK := Lib.hid (fun (i : Nat) (A : Option Addr) (c : Nat) w (hr : (Kd.int .i64).C w A (bs.take i).length (bs.take i)) (hc : (bs.take i).length ≤ c) => of_good m A c (bs.take i) w hr hc (by
   unfold ctxOk
   rw [decide_eq_true (by rw [List.length_take]; omega), Bool.true_and]
   unfold allB at ga ⊢
   rw [List.all_eq_true] at ga ⊢
   exact fun y hy => ga y (List.mem_of_mem_take hy)))
  have GL := Lib.hid gl
  have HM := Lib.hid hm
  clear hu hg hbs ga gl hm m0 hx u0 u1
  go_enter Tryz.func4, Tryz.ntmps4
  go_wp2_with fail
  refine AC.out.mono ?_
  rintro e w1 ⟨rfl, hb⟩
  have H1 := Lib.hid hb
  clear hb AC
  go_wp2_with fail
  refine (FP.out _).mono ?_
  rintro e w2 ⟨rfl, hd⟩
  have H2 := Lib.hid (below_step H1.out hd.below)
  clear hd FP H1
  go_wp2_with fail
  refine (descantlaw0_Num.calls 0 0 _ rfl).mono ?_
  rintro e w3 ⟨rfl, hd⟩
  have H3 := Lib.hid (below_step H2.out hd.below)
  clear hd H2
  go_wp2_with fail
  refine (GB.out _).mono ?_
  rintro e w4 ⟨v, rfl, hv, hb⟩
  have H4 := Lib.hid (below_step H3.out hb)
  have R4 := Lib.hid (Kd.R_mono hv (fun _ _ => trivial) : RI w4 w3.heap.size v bs)
  clear hb hv GB H3
  obtain ⟨A, c, rfl⟩ := Kd.R_slice R4.out
  have hc := (Kd.R_reads' R4.out).2.1
  go_wp2_with fail
  go_loopw [9] (fun i wr => ∃ j : Nat, j ≤ bs.length + 1 ∧ i = .int .i64 j ∧ Hid (RI wr w3.heap.size (.slice A bs.length c) bs) ∧ Hid (Below W.heap.size W wr)) (fun i _ => bs.length + 1 - (intOf i).toNat)
  case atStart => exact ⟨0, by omega, rfl, R4, H4⟩
  case round =>
   clear R4 H4
   obtain ⟨j, hj, rfl, hR, hH⟩ := hrel
   by_cases hlt : j ≤ bs.length
   ·have jm : decide ((j : Int) ≤ (bs.length : Int)) = true := decide_eq_true (by omega)
    have jm2 : decide (j ≤ bs.length) = true := decide_eq_true hlt
    have jc : j ≤ c := Nat.le_trans hlt hc
    have jl : (bs.take j).length = j := by rw [List.length_take]; omega
    have OC := Lib.hid (fun w (hw : (Kd.int .i64).C w A bs.length bs) => OK.out j A c w (take_C hw hlt) (by rw [jl]; exact jc))
    rw [jl] at OC
    have hm := HM.out.symm
    clear jl
    go_wp2_with fail
    refine (OC.out _ (Kd.R_reads' hR.out).2.2).mono ?_
    rintro e w5 ⟨rfl, hb⟩
    obtain ⟨y1, e1⟩ : ∃ y, y = (ctxF m (bs.take j)).1 := ⟨_, rfl⟩
    obtain ⟨y2, e2⟩ : ∃ y, y = (ctxF m (bs.take j)).2.1 := ⟨_, rfl⟩
    obtain ⟨y3, e3⟩ : ∃ y, y = (ctxF m (bs.take j)).2.2.1 := ⟨_, rfl⟩
    rw [← e1, ← e2, ← e3]
    have H5 := Lib.hid (below_step hH.out hb)
    have R5 := Lib.hid (Kd.R_below hR.out hb)
    have H6 := Lib.hid (below_alloc H5.out (.cells #[.int .i64 y1, .int .i64 y2, .int .i64 y3] 26))
    have R6 := Lib.hid (Kd.R_below R5.out (below_alloc (Below.refl w5.heap.size w5) (.cells #[.int .i64 y1, .int .i64 y2, .int .i64 y3] 26)))
    clear hb OC hR hH e1 e2 e3 H5 R5 hm
    go_wp2_with fail
    generalize w5.alloc (.cells #[.int .i64 y1, .int .i64 y2, .int .i64 y3] 26) = w6 at H6 R6 ⊢
    refine (descantlaw0_Num.calls 0 0 _ rfl).mono ?_
    rintro e w7 ⟨rfl, hd⟩
    have H7 := Lib.hid (below_step H6.out hd.below)
    have R7 := Lib.hid (Kd.R_below R6.out hd.below)
    clear hd H6 R6
    have gl := GL.out
    have jj : wrap64 ((j : Int) + 1) = ((j + 1 : Nat) : Int) := by rw [Num.w64 (by omega) (by omega)]; rfl
    go_wp2_with fail
    exact ⟨⟨j + 1, by omega, by go_num, R7, H7⟩, by simp [intOf]; omega⟩
   ·have jm : decide ((j : Int) ≤ (bs.length : Int)) = false := decide_eq_false (by omega)
    have jm2 : decide (j ≤ bs.length) = false := decide_eq_false hlt
    go_wp2_with fail
    refine (NB.out _ _ _ (Kd.R_reads' hR.out).2.2 hc).mono ?_
    rintro e w5 ⟨rfl, hb⟩
    have H5 := Lib.hid (below_step hH.out hb)
    clear hb NB hH hR jm jm2 hlt
    go_wp2_with fail
    refine (FG.out _).mono ?_
    rintro e w6 ⟨rfl, hd⟩
    have H6 := Lib.hid (below_step H5.out hd.below)
    clear hd FG H5
    go_wp2_with fail
    refine (descantlaw0_Num.calls 0 0 _ rfl).mono ?_
    rintro e w7 ⟨rfl, hd⟩
    have H7 := Lib.hid (below_step H6.out hd.below)
    clear hd H6
    go_wp2_with fail
    refine (descantlaw0_Num.calls 0 0 _ rfl).mono ?_
    rintro e w8 ⟨rfl, hd⟩
    have H8 := Lib.hid (below_step H7.out hd.below)
    clear hd H7
    go_wp2_with fail
    refine (descantlaw0_Num.calls 0 0 _ rfl).mono ?_
    rintro e w9 ⟨rfl, hd⟩
    have H9 := Lib.hid (below_step H8.out hd.below)
    clear hd H8
    go_wp2_with fail
    go_ret
    exact ⟨rfl, H9.out⟩
 ·have FP := Lib.hid (fun w => PB.fold_Put.calls x 0 1000 w (fold_none hx))
  clear hx
  go_enter Tryz.func4, Tryz.ntmps4
  go_wp2_with fail
  refine AC.out.mono ?_
  rintro e w1 ⟨rfl, hb⟩
  have H1 := Lib.hid hb
  clear hb AC
  go_wp2_with fail
  refine (FP.out _).mono ?_
  rintro e w2 ⟨rfl, hd⟩
  have H2 := Lib.hid (below_step H1.out hd.below)
  clear hd FP H1
  go_wp2_with fail
  refine (descantlaw0_Num.calls 1000 1000 _ rfl).mono ?_
  rintro e w3 ⟨rfl, hd⟩
  have H3 := Lib.hid (below_step H2.out hd.below)
  clear hd H2
  go_wp2_with fail
  go_ret
  exact ⟨rfl, H3.out⟩
end Go.Proofs.YtnoibcdojfnicaaGreatDoor.PG
