-- Printed by a program of this session over the kit's printer (wip/gen/pr.py). Not trusted: Lean checks it.
import Derived.Test.YtakjcfndinnffaaDoorPShiftx0
import Derived.Test.YtakjcfndinnffaaDoorPShiftx1
import Derived.Test.YtakjcfndinnffaaDoorPShiftx2
namespace Go.Proofs.YtakjcfndinnffaaDoor.PShift
open Go.RowKit Go.Proofs.YtakjcfndinnffaaDoorW.PrintWords Go.Proofs.YtakjcfndinnffaaDoorW.PrintLast Go.Proofs.YtakjcfndinnffaaDoorW.PrintMore
attribute [local go_sem] max2_int min2_int max_two min_two max_three min_three max_four min_four   -- for this text's walks alone
set_option linter.unusedVariables false
set_option linter.unusedSimpArgs false

/-! ### descantlaw18_ShiftTwice: function 7 -/
def descantlaw18_ShiftTwice.l0 : Nat → List Int → Int → Int → List Int → Int → Option (Bool)
 | 0, _, _, _, _, _ => none
 | k + 1, x0, x7, x8, x9, x10 => if x10 < (x0.length : Int) then (if 0 ≤ x10 then (if 0 ≤ (wrap64 (x7 + x8)) then (if x9.length < 17592186044416 then (descantlaw18_ShiftTwice.l0 k x0 x7 x8 (x9 ++ [shl .i64 (Go.bits .and .i64 (rd x0 x10) 7) (wrap64 (x7 + x8))]) (wrap64 (x10 + 1))) else (none)) else (none)) else (none)) else ((shift_Down.f x9 x7).bind fun bt268 => ((shift_Down.f bt268.1 x8).bind fun bt272 => ((shift_Down.f x9 (wrap64 (x7 + x8))).bind fun bt276 => ((shift_Up.f k bt272.1 x8).bind fun bt280 => ((descantlaw0_Num.f bt268.2).bind fun t284 => (if t284 = 0 then ((descantlaw0_Num.f bt272.2).bind fun t285 => (if t285 = 0 then ((descantlaw0_Num.f bt276.2).bind fun t286 => (if t286 = 0 then ((descantlaw0_SameInts.f k bt272.1 bt276.1).bind fun t287 => (if t287 = true then ((descantlaw0_Num.f bt280.2).bind fun t288 => (if t288 = 0 then ((descantlaw0_SameInts.f k bt280.1 bt268.1).bind fun t289 => (some t289)) else (none))) else (none))) else (none))) else (none))) else (none)))))))
def descantlaw18_ShiftTwice.f (k : Nat) (l0 : List Int) (a1 : Int) (a2 : Int) : Option (Bool) := (descantlaw18_awake.f k).bind fun t263 => (if t263 = true then (descantlaw18_ShiftTwice.l0 k l0 (Go.bits .and .i64 a1 7) (Go.bits .and .i64 a2 7) ([] : List Int) 0) else (none))
theorem descantlaw18_ShiftTwice.mono_l : ∀ k, (∀ y0 y1 y2 y3 y4, LeO (descantlaw18_ShiftTwice.l0 k y0 y1 y2 y3 y4) (descantlaw18_ShiftTwice.l0 (k + 1) y0 y1 y2 y3 y4))
 | 0 => fun _ _ _ _ _ r h => by simp [descantlaw18_ShiftTwice.l0] at h
 | k + 1 => by
  have ih0 := descantlaw18_ShiftTwice.mono_l k
  ·intro y0 y1 y2 y3 y4
   unfold descantlaw18_ShiftTwice.l0
   repeat' first
   | (with_reducible exact ih0 _ _ _ _ _)
   | (with_reducible exact descantlaw0_SameInts.mono _ _ _)
   | (with_reducible exact descantlaw18_awake.mono _)
   | (with_reducible exact shift_Up.mono _ _ _)
   | (with_reducible exact LeO.refl _)
   | (with_reducible exact LeO.none _)
   | (with_reducible refine LeO.ite ?_ ?_)
   | (with_reducible refine LeO.bind ?_ (fun _ => ?_))
   | exact ih0 _ _ _ _ _
   | exact descantlaw0_SameInts.mono _ _ _
   | exact descantlaw18_awake.mono _
   | exact shift_Up.mono _ _ _
   | exact LeO.none _
   | refine LeO.ite ?_ ?_
   | refine LeO.bind ?_ (fun _ => ?_)
theorem descantlaw18_ShiftTwice.mono : ∀ a0 a1 a2 k, LeO (descantlaw18_ShiftTwice.f k a0 a1 a2) (descantlaw18_ShiftTwice.f (k + 1) a0 a1 a2) := by
 intro a0 a1 a2 k
 have ih0 := descantlaw18_ShiftTwice.mono_l k
 unfold descantlaw18_ShiftTwice.f
 repeat' first
   | (with_reducible exact ih0 _ _ _ _ _)
   | (with_reducible exact descantlaw0_SameInts.mono _ _ _)
   | (with_reducible exact descantlaw18_awake.mono _)
   | (with_reducible exact shift_Up.mono _ _ _)
   | (with_reducible exact LeO.refl _)
   | (with_reducible exact LeO.none _)
   | (with_reducible refine LeO.ite ?_ ?_)
   | (with_reducible refine LeO.bind ?_ (fun _ => ?_))
   | exact ih0 _ _ _ _ _
   | exact descantlaw0_SameInts.mono _ _ _
   | exact descantlaw18_awake.mono _
   | exact shift_Up.mono _ _ _
   | exact LeO.none _
   | refine LeO.ite ?_ ?_
   | refine LeO.bind ?_ (fun _ => ?_)
set_option maxHeartbeats 8000000 in
set_option maxRecDepth 100000 in
theorem descantlaw18_ShiftTwice.calls (k : Nat) (A0 : Option Addr) (c0 : Nat) (l0 : List Int) (a1 : Int) (a2 : Int) (r : Bool) (w : World) (hr0 : Kd.C (Kd.int .i64) w A0 l0.length l0) (hc0 : l0.length ≤ c0) (h : descantlaw18_ShiftTwice.f k l0 a1 a2 = some r) (hv_ : Extra.Laid w := by repeat (first | assumption | exact Extra.Laid.aside (by assumption) (by assumption) | apply Extra.Laid.alloc_ | apply Extra.Laid.drewN_ | apply Extra.Laid.drew_)) :
  Calls Tryd.prog 7 #[.slice A0 l0.length c0, .int .i64 a1, .int .i64 a2] w fun e w' => e = .returned (.bool r) ∧ Below w.heap.size w w' := by
 have HR0 := Aside0.mk hr0
 have HC0 := Aside0.mk hc0
 clear hr0 hc0
 have HB := Aside0.mk (Below.refl w.heap.size w)
 have H : ((descantlaw18_awake.f k).bind fun t263 => (if t263 = true then (descantlaw18_ShiftTwice.l0 k l0 (Go.bits .and .i64 a1 7) (Go.bits .and .i64 a2 7) ([] : List Int) 0) else (none))) = some r := h
 clear h
 replace H := Option.bind_eq_some_iff.mp H
 obtain ⟨t263, A40, H⟩ := H
 replace H : (if t263 = true then (descantlaw18_ShiftTwice.l0 k l0 (Go.bits .and .i64 a1 7) (Go.bits .and .i64 a2 7) ([] : List Int) 0) else (none)) = some r := H
 have A4 := Aside0.mk A40
 clear A40
 by_cases c5 : t263 = true
 ·subst c5
  have H1 : (descantlaw18_ShiftTwice.l0 k l0 (Go.bits .and .i64 a1 7) (Go.bits .and .i64 a2 7) ([] : List Int) 0) = some r := by rw [if_pos rfl] at H; exact H
  clear H
  have H := H1
  clear H1
  have H' := Aside0.mk H
  clear H
  go_enter Tryd.func7, Tryd.ntmps7
  go_wp2_with (first | ((with_reducible refine gate_callee (f := 20) rfl ?_); refine goesL_ (some 19) rfl rfl Tryd.func20 (by kernel_rfl) rfl #[] rfl (by (try simp only [List.map_toArray, List.map_cons, List.map_nil]); first | done | rfl | (simp only [List.length_drop, List.length_take]; rfl)) ?_; (with_reducible refine (descantlaw18_awake.calls k  true _ A4.out).mono ?_); rintro e w6 ⟨rfl, hb⟩; refine ⟨_, rfl, ?_⟩; have n0_ := Aside0.mk (below_step (by repeat (first | (with_reducible first | exact HB.out | apply below_alloc | apply pw_below_drewN | apply below_drew1) | exact HB.out)) hb); clear HB; have HB := n0_; clear n0_; (try clear hb); (try clear hb2); (try clear hk); (try clear hi)))
  go_loopg [9, 10] k (fun kq v9 v10 w' => ∃ (x9_1 : List Int) (x10_1 : Int), v10 = .int .i64 x10_1 ∧ Aside0 (descantlaw18_ShiftTwice.l0 kq l0 (Go.bits .and .i64 a1 7) (Go.bits .and .i64 a2 7) x9_1 x10_1 = some r) ∧ Aside0 (kq ≤ k) ∧ Aside0 (Kd.R (Kd.int .i64) 3 w' w.heap.size (fun _ => True) v9 x9_1) ∧ Aside0 (Below w.heap.size w w'))
  case atStart => exact ⟨(([] : List Int)), (0), (by first | rfl | (simp; done) | (simp [*]; done)), H', ⟨Nat.le_refl _⟩, ⟨by first | exact Kd.R_nil _ _ _ _ _ | exact Kd.N_nil _ _ _ _ _ | exact Kd.V_nil _ _ _ _ _ | exact Kd.Q_nil _ _ _ _ _ | exact Kd.S_nil _ _ _ _ _⟩, ⟨by repeat (first | (with_reducible first | exact HB.out | apply below_alloc | apply pw_below_drewN | apply below_drew1) | exact HB.out)⟩⟩
  case round =>
   clear H'
   try clear c2
   try clear p2
   try clear c5
   obtain ⟨x9_1, x10_1, rfl, HA, HK1, HO_9, HB⟩ := hrel
   cases gk with
   | zero => exact absurd HA.out (by simp [descantlaw18_ShiftTwice.l0])
   | succ k1 =>
    have H := HA.out
    clear HA
    simp only [descantlaw18_ShiftTwice.l0] at H
    by_cases c7 : x10_1 < (l0.length : Int)
    ·rw [if_pos c7] at H
     have c7b0 : decide (x10_1 < (l0.length : Int)) = true := decide_eq_true c7
     clear c7
     by_cases c8 : 0 ≤ x10_1
     ·rw [if_pos c8] at H
      have c8b0 : decide (0 ≤ x10_1) = true := decide_eq_true c8
      clear c8
      obtain ⟨ji9, hji9⟩ : ∃ j_ : Int, (wrap64 ((Go.bits .and .i64 a1 7) + (Go.bits .and .i64 a2 7))) = j_ := ⟨_, rfl⟩
      replace H : (if 0 ≤ (ji9) then (if x9_1.length < 17592186044416 then (descantlaw18_ShiftTwice.l0 k1 l0 (Go.bits .and .i64 a1 7) (Go.bits .and .i64 a2 7) (x9_1 ++ [shl .i64 (Go.bits .and .i64 (rd l0 x10_1) 7) (ji9)]) (wrap64 (x10_1 + 1))) else (none)) else (none)) = some r := by first | (rw [hji9] at H; exact H) | (simp only [hji9] at H ⊢; exact H)
      have hji9w : (IntKind.i64.wrap ((Go.bits .and .i64 a1 7) + (Go.bits .and .i64 a2 7))) = ji9 := (i64_w _).trans hji9
      by_cases c10 : 0 ≤ (ji9)
      ·rw [if_pos c10] at H
       have c10b0 := eq_true c10
       have c10b1 : decide (0 ≤ (ji9)) = true := decide_eq_true c10
       clear c10
       obtain ⟨ji11, hji11⟩ : ∃ j_ : Int, (shl .i64 (Go.bits .and .i64 (rd l0 x10_1) 7) (ji9)) = j_ := ⟨_, rfl⟩
       replace H : (if x9_1.length < 17592186044416 then (descantlaw18_ShiftTwice.l0 k1 l0 (Go.bits .and .i64 a1 7) (Go.bits .and .i64 a2 7) (x9_1 ++ [ji11]) (wrap64 (x10_1 + 1))) else (none)) = some r := by first | (rw [hji11] at H; exact H) | (simp only [hji11] at H ⊢; exact H)
       have hji11_ : (IntKind.i64.wrap ((Go.bits .and .i64 (rd l0 x10_1) 7) * 2 ^ min (ji9).toNat 64)) = ji11 := hji11
       have hji11z : (ji9) ≤ 64 → (IntKind.i64.wrap ((Go.bits .and .i64 (rd l0 x10_1) 7) * 2 ^ (ji9).toNat)) = ji11 := shl_small hji11
       have hji11y : (wrap64 ((Go.bits .and .i64 (rd l0 x10_1) 7) * 2 ^ min (ji9).toNat 64)) = ji11 := (i64_w _).symm.trans hji11_
       have hji11x : (ji9) ≤ 64 → (wrap64 ((Go.bits .and .i64 (rd l0 x10_1) 7) * 2 ^ (ji9).toNat)) = ji11 := fun h_ => (i64_w _).symm.trans (hji11z h_)
       by_cases c12 : x9_1.length < 17592186044416
       ·rw [if_pos c12] at H
        have LMc12 := Aside0.mk c12
        clear c12
        obtain ⟨y265, hy265⟩ : ∃ y_ : List Int, y_ = (x9_1 ++ [ji11]) := ⟨_, rfl⟩
        replace H : (descantlaw18_ShiftTwice.l0 k1 l0 (Go.bits .and .i64 a1 7) (Go.bits .and .i64 a2 7) y265 (wrap64 (x10_1 + 1))) = some r := by first | (rw [hy265]; with_reducible exact H) | (have H2_ := (Option.bind_some _ _).symm.trans H; rw [hy265]; with_reducible exact H2_) | (have H2_ := (Option.bind_some _ _).symm.trans H; with_reducible exact H2_) | with_reducible exact H | (rw [hy265]; exact H) | exact H
        have Ny265 := Aside0.mk hy265
        clear hy265
        have H' := Aside0.mk H
        clear H
        have p264 : 0 ≤ (x10_1 : Int) := of_decide_eq_true (by first | (with_reducible assumption) | assumption)
        have q264 : x10_1 < (l0.length : Int) := of_decide_eq_true (by first | (with_reducible assumption) | assumption)
        obtain ⟨ad264, e264, hx264_0⟩ := Kd.at_int HR0.out x10_1 p264 q264
        cases e264
        replace hx264_0 := (HB.out.cell (World.block_lt_of_cell? w _ hx264_0)).trans hx264_0
        replace p264 := eq_true p264
        replace q264 := eq_true q264
        go_wp2_with (first | ((with_reducible refine gate_builtin (b := .append) (xs := #[.tmp 31, .tmp 41]) rfl ?_); at_builtin; refine Kd.R_append (Kd.int .i64) (w0 := w) w.heap.size rfl (.tmp 31) (.tmp 41) 22 3 (.int .i64 0) 8 rfl Tryd.underlying22 info3 rfl (by decide) (by omega) u9 x9_1 ji11 [.int .i64 ji11] (fun _ => True) (fun _ => False) rfl rfl ?aP (fun _ hk => hk.elim) ?aF ?aO ?aB ?aS ?aL ?_; (case aP => exact rfl); (case aB => exact (by repeat (first | (with_reducible first | exact HB.out | apply below_alloc | apply pw_below_drewN | apply below_drew1) | exact HB.out))); (case aF => exact (fun _ _ => trivial)); (case aO => exact (by (with_reducible repeat (first | apply Kd.R_alloc | apply Kd.R_drewN | apply Kd.R_drew)); exact HO_9.out)); (case aS => exact (below_size (by repeat (first | (with_reducible first | exact HB.out | apply below_alloc | apply pw_below_drewN | apply below_drew1) | exact HB.out)))); (case aL => have := LMc12.out; omega); intro v266 w13 ho hb hg hat; rw [← Ny265.out] at ho; have n0_ := Aside0.mk (hb); have n1_ := Aside0.mk (ho); clear HB; clear HO_9; have HB := n0_; have HO267 := n1_; clear n0_ n1_; clear ho hb hg hat))
        go_roundg k1
        case measure => have := HK1.out; omega
        case rel => exact ⟨(y265), (wrap64 (x10_1 + 1)), (by first | rfl | (simp; done) | (simp [*]; done)), H', ⟨by have := HK1.out; omega⟩, ⟨by (with_reducible repeat (first | apply Kd.R_alloc | apply Kd.R_drewN | apply Kd.R_drew)); exact HO267.out⟩, ⟨by repeat (first | (with_reducible first | exact HB.out | apply below_alloc | apply pw_below_drewN | apply below_drew1) | exact HB.out)⟩⟩
       ·rw [if_neg c12] at H
        exact absurd H (by simp)
      ·rw [if_neg c10] at H
       exact absurd H (by simp)
     ·rw [if_neg c8] at H
      exact absurd H (by simp)
    ·rw [if_neg c7] at H
     have c7b0 : decide (x10_1 < (l0.length : Int)) = false := decide_eq_false c7
     clear c7
     replace H := Option.bind_eq_some_iff.mp H
     obtain ⟨⟨t268, t269⟩, A140, H⟩ := H
     replace H : ((shift_Down.f t268 (Go.bits .and .i64 a2 7)).bind fun bt272 => ((shift_Down.f x9_1 (wrap64 ((Go.bits .and .i64 a1 7) + (Go.bits .and .i64 a2 7)))).bind fun bt276 => ((shift_Up.f k1 bt272.1 (Go.bits .and .i64 a2 7)).bind fun bt280 => ((descantlaw0_Num.f t269).bind fun t284 => (if t284 = 0 then ((descantlaw0_Num.f bt272.2).bind fun t285 => (if t285 = 0 then ((descantlaw0_Num.f bt276.2).bind fun t286 => (if t286 = 0 then ((descantlaw0_SameInts.f k1 bt272.1 bt276.1).bind fun t287 => (if t287 = true then ((descantlaw0_Num.f bt280.2).bind fun t288 => (if t288 = 0 then ((descantlaw0_SameInts.f k1 bt280.1 t268).bind fun t289 => (some t289)) else (none))) else (none))) else (none))) else (none))) else (none)))))) = some r := H
     have A14 := Aside0.mk A140
     clear A140
     replace H := Option.bind_eq_some_iff.mp H
     obtain ⟨⟨t272, t273⟩, A150, H⟩ := H
     replace H : ((shift_Down.f x9_1 (wrap64 ((Go.bits .and .i64 a1 7) + (Go.bits .and .i64 a2 7)))).bind fun bt276 => ((shift_Up.f k1 t272 (Go.bits .and .i64 a2 7)).bind fun bt280 => ((descantlaw0_Num.f t269).bind fun t284 => (if t284 = 0 then ((descantlaw0_Num.f t273).bind fun t285 => (if t285 = 0 then ((descantlaw0_Num.f bt276.2).bind fun t286 => (if t286 = 0 then ((descantlaw0_SameInts.f k1 t272 bt276.1).bind fun t287 => (if t287 = true then ((descantlaw0_Num.f bt280.2).bind fun t288 => (if t288 = 0 then ((descantlaw0_SameInts.f k1 bt280.1 t268).bind fun t289 => (some t289)) else (none))) else (none))) else (none))) else (none))) else (none))))) = some r := H
     have A15 := Aside0.mk A150
     clear A150
     replace H := Option.bind_eq_some_iff.mp H
     obtain ⟨⟨t276, t277⟩, A160, H⟩ := H
     replace H : ((shift_Up.f k1 t272 (Go.bits .and .i64 a2 7)).bind fun bt280 => ((descantlaw0_Num.f t269).bind fun t284 => (if t284 = 0 then ((descantlaw0_Num.f t273).bind fun t285 => (if t285 = 0 then ((descantlaw0_Num.f t277).bind fun t286 => (if t286 = 0 then ((descantlaw0_SameInts.f k1 t272 t276).bind fun t287 => (if t287 = true then ((descantlaw0_Num.f bt280.2).bind fun t288 => (if t288 = 0 then ((descantlaw0_SameInts.f k1 bt280.1 t268).bind fun t289 => (some t289)) else (none))) else (none))) else (none))) else (none))) else (none)))) = some r := H
     have A16 := Aside0.mk A160
     clear A160
     replace H := Option.bind_eq_some_iff.mp H
     obtain ⟨⟨t280, t281⟩, A170, H⟩ := H
     replace H : ((descantlaw0_Num.f t269).bind fun t284 => (if t284 = 0 then ((descantlaw0_Num.f t273).bind fun t285 => (if t285 = 0 then ((descantlaw0_Num.f t277).bind fun t286 => (if t286 = 0 then ((descantlaw0_SameInts.f k1 t272 t276).bind fun t287 => (if t287 = true then ((descantlaw0_Num.f t281).bind fun t288 => (if t288 = 0 then ((descantlaw0_SameInts.f k1 t280 t268).bind fun t289 => (some t289)) else (none))) else (none))) else (none))) else (none))) else (none))) = some r := H
     have A17 := Aside0.mk A170
     clear A170
     replace H := Option.bind_eq_some_iff.mp H
     obtain ⟨t284, A180, H⟩ := H
     replace H : (if t284 = 0 then ((descantlaw0_Num.f t273).bind fun t285 => (if t285 = 0 then ((descantlaw0_Num.f t277).bind fun t286 => (if t286 = 0 then ((descantlaw0_SameInts.f k1 t272 t276).bind fun t287 => (if t287 = true then ((descantlaw0_Num.f t281).bind fun t288 => (if t288 = 0 then ((descantlaw0_SameInts.f k1 t280 t268).bind fun t289 => (some t289)) else (none))) else (none))) else (none))) else (none))) else (none)) = some r := H
     have A18 := Aside0.mk A180
     clear A180
     by_cases c19 : t284 = 0
     ·rw [if_pos c19] at H
      have c19b0 : (t284 == 0) = true := beq_iff_eq.mpr c19
      have c19b1 : (t284 != 0) = false := bne_eq_false_iff_eq.mpr c19
      clear c19
      replace H := Option.bind_eq_some_iff.mp H
      obtain ⟨t285, A200, H⟩ := H
      replace H : (if t285 = 0 then ((descantlaw0_Num.f t277).bind fun t286 => (if t286 = 0 then ((descantlaw0_SameInts.f k1 t272 t276).bind fun t287 => (if t287 = true then ((descantlaw0_Num.f t281).bind fun t288 => (if t288 = 0 then ((descantlaw0_SameInts.f k1 t280 t268).bind fun t289 => (some t289)) else (none))) else (none))) else (none))) else (none)) = some r := H
      have A20 := Aside0.mk A200
      clear A200
      by_cases c21 : t285 = 0
      ·rw [if_pos c21] at H
       have c21b0 : (t285 == 0) = true := beq_iff_eq.mpr c21
       have c21b1 : (t285 != 0) = false := bne_eq_false_iff_eq.mpr c21
       clear c21
       replace H := Option.bind_eq_some_iff.mp H
       obtain ⟨t286, A220, H⟩ := H
       replace H : (if t286 = 0 then ((descantlaw0_SameInts.f k1 t272 t276).bind fun t287 => (if t287 = true then ((descantlaw0_Num.f t281).bind fun t288 => (if t288 = 0 then ((descantlaw0_SameInts.f k1 t280 t268).bind fun t289 => (some t289)) else (none))) else (none))) else (none)) = some r := H
       have A22 := Aside0.mk A220
       clear A220
       by_cases c23 : t286 = 0
       ·rw [if_pos c23] at H
        have c23b0 : (t286 == 0) = true := beq_iff_eq.mpr c23
        have c23b1 : (t286 != 0) = false := bne_eq_false_iff_eq.mpr c23
        clear c23
        replace H := Option.bind_eq_some_iff.mp H
        obtain ⟨t287, A240, H⟩ := H
        replace H : (if t287 = true then ((descantlaw0_Num.f t281).bind fun t288 => (if t288 = 0 then ((descantlaw0_SameInts.f k1 t280 t268).bind fun t289 => (some t289)) else (none))) else (none)) = some r := H
        have A24 := Aside0.mk A240
        clear A240
        by_cases c25 : t287 = true
        ·subst c25
         have H1 : ((descantlaw0_Num.f t281).bind fun t288 => (if t288 = 0 then ((descantlaw0_SameInts.f k1 t280 t268).bind fun t289 => (some t289)) else (none))) = some r := by rw [if_pos rfl] at H; exact H
         clear H
         have H := H1
         clear H1
         replace H := Option.bind_eq_some_iff.mp H
         obtain ⟨t288, A260, H⟩ := H
         replace H : (if t288 = 0 then ((descantlaw0_SameInts.f k1 t280 t268).bind fun t289 => (some t289)) else (none)) = some r := H
         have A26 := Aside0.mk A260
         clear A260
         by_cases c27 : t288 = 0
         ·rw [if_pos c27] at H
          have c27b0 : (t288 == 0) = true := beq_iff_eq.mpr c27
          have c27b1 : (t288 != 0) = false := bne_eq_false_iff_eq.mpr c27
          clear c27
          replace H := Option.bind_eq_some_iff.mp H
          obtain ⟨t289, A280, H⟩ := H
          replace H : (some t289) = some r := H
          have A28 := Aside0.mk A280
          clear A280
          obtain rfl := Option.some.inj H
          obtain ⟨Ao29, co29, eo29⟩ := Kd.R_slice HO_9.out
          subst eo29
          go_wp2_with (first | ((with_reducible refine gate_callee (f := 12) rfl ?_); refine goesL_ (some 46) rfl rfl Tryd.func12 (by kernel_rfl) rfl #[.slice Ao29 x9_1.length co29, .int .i64 (Go.bits .and .i64 a1 7)] rfl (by (try simp only [List.map_toArray, List.map_cons, List.map_nil]); first | done | rfl | (simp only [List.length_drop, List.length_take]; rfl)) ?_; (with_reducible refine (shift_Down.calls _ _ x9_1 (Go.bits .and .i64 a1 7) t268 t269 _ ?side1 ?side2 A14.out).mono ?_); (case side1 => repeat (first | exact (Kd.R_reads' HO_9.out).2.2 | (with_reducible refine Kd.C_alloc ?_ _) | (with_reducible refine Kd.C_drewN ?_ _) | (with_reducible refine Kd.C_drew ?_))); (case side2 => exact (Kd.R_reads' HO_9.out).2.1); rintro e w30 ⟨v270, rfl, ho0, hb⟩; refine ⟨_, rfl, ?_⟩; have n0_ := Aside0.mk (Kd.R_elder' (by (with_reducible repeat (first | apply Kd.R_alloc | apply Kd.R_drewN | apply Kd.R_drew)); exact HO_9.out) (Kd.R_base ho0) hb); have n1_ := Aside0.mk (Kd.R_lower (Kd.R_new' ho0 (Kd.R_lt (by (with_reducible repeat (first | apply Kd.R_alloc | apply Kd.R_drewN | apply Kd.R_drew)); exact HO_9.out))) (below_size (by repeat (first | (with_reducible first | exact HB.out | apply below_alloc | apply pw_below_drewN | apply below_drew1) | exact HB.out)))); have n2_ := Aside0.mk (below_step (by repeat (first | (with_reducible first | exact HB.out | apply below_alloc | apply pw_below_drewN | apply below_drew1) | exact HB.out)) hb); clear HO_9; clear HB; have HO_9 := n0_; have HO271 := n1_; have HB := n2_; clear n0_ n1_ n2_; (try clear hb); (try clear hb2); (try clear hk); (try clear hi); (try clear ho0); obtain ⟨Ao31, co31, eo31⟩ := Kd.R_slice HO271.out; subst eo31) | ((with_reducible refine gate_callee (f := 12) rfl ?_); refine goesL_ (some 52) rfl rfl Tryd.func12 (by kernel_rfl) rfl #[.slice Ao31 t268.length co31, .int .i64 (Go.bits .and .i64 a2 7)] rfl (by (try simp only [List.map_toArray, List.map_cons, List.map_nil]); first | done | rfl | (simp only [List.length_drop, List.length_take]; rfl)) ?_; (with_reducible refine (shift_Down.calls _ _ t268 (Go.bits .and .i64 a2 7) t272 t273 _ ?side1 ?side2 A15.out).mono ?_); (case side1 => repeat (first | exact (Kd.R_reads' HO271.out).2.2 | (with_reducible refine Kd.C_alloc ?_ _) | (with_reducible refine Kd.C_drewN ?_ _) | (with_reducible refine Kd.C_drew ?_))); (case side2 => exact (Kd.R_reads' HO271.out).2.1); rintro e w32 ⟨v274, rfl, ho0, hb⟩; refine ⟨_, rfl, ?_⟩; have n0_ := Aside0.mk (Kd.R_elder' (by (with_reducible repeat (first | apply Kd.R_alloc | apply Kd.R_drewN | apply Kd.R_drew)); exact HO_9.out) (Kd.R_base ho0) hb); have n1_ := Aside0.mk (Kd.R_elder' (by (with_reducible repeat (first | apply Kd.R_alloc | apply Kd.R_drewN | apply Kd.R_drew)); exact HO271.out) (Kd.R_base ho0) hb); have n2_ := Aside0.mk (Kd.R_lower (Kd.R_new' (Kd.R_new' ho0 (Kd.R_lt (by (with_reducible repeat (first | apply Kd.R_alloc | apply Kd.R_drewN | apply Kd.R_drew)); exact HO_9.out))) (Kd.R_lt (by (with_reducible repeat (first | apply Kd.R_alloc | apply Kd.R_drewN | apply Kd.R_drew)); exact HO271.out))) (below_size (by repeat (first | (with_reducible first | exact HB.out | apply below_alloc | apply pw_below_drewN | apply below_drew1) | exact HB.out)))); have n3_ := Aside0.mk (below_step (by repeat (first | (with_reducible first | exact HB.out | apply below_alloc | apply pw_below_drewN | apply below_drew1) | exact HB.out)) hb); clear HO_9; clear HO271; clear HB; have HO_9 := n0_; have HO271 := n1_; have HO275 := n2_; have HB := n3_; clear n0_ n1_ n2_ n3_; (try clear hb); (try clear hb2); (try clear hk); (try clear hi); (try clear ho0)) | ((with_reducible refine gate_callee (f := 12) rfl ?_); refine goesL_ (some 60) rfl rfl Tryd.func12 (by kernel_rfl) rfl #[.slice Ao29 x9_1.length co29, .int .i64 (wrap64 ((Go.bits .and .i64 a1 7) + (Go.bits .and .i64 a2 7)))] rfl (by (try simp only [List.map_toArray, List.map_cons, List.map_nil]); first | done | rfl | (simp only [List.length_drop, List.length_take]; rfl)) ?_; (with_reducible refine (shift_Down.calls _ _ x9_1 (wrap64 ((Go.bits .and .i64 a1 7) + (Go.bits .and .i64 a2 7))) t276 t277 _ ?side1 ?side2 A16.out).mono ?_); (case side1 => repeat (first | exact (Kd.R_reads' HO_9.out).2.2 | (with_reducible refine Kd.C_alloc ?_ _) | (with_reducible refine Kd.C_drewN ?_ _) | (with_reducible refine Kd.C_drew ?_))); (case side2 => exact (Kd.R_reads' HO_9.out).2.1); rintro e w33 ⟨v278, rfl, ho0, hb⟩; refine ⟨_, rfl, ?_⟩; have n0_ := Aside0.mk (Kd.R_elder' (by (with_reducible repeat (first | apply Kd.R_alloc | apply Kd.R_drewN | apply Kd.R_drew)); exact HO_9.out) (Kd.R_base ho0) hb); have n1_ := Aside0.mk (Kd.R_elder' (by (with_reducible repeat (first | apply Kd.R_alloc | apply Kd.R_drewN | apply Kd.R_drew)); exact HO271.out) (Kd.R_base ho0) hb); have n2_ := Aside0.mk (Kd.R_elder' (by (with_reducible repeat (first | apply Kd.R_alloc | apply Kd.R_drewN | apply Kd.R_drew)); exact HO275.out) (Kd.R_base ho0) hb); have n3_ := Aside0.mk (Kd.R_lower (Kd.R_new' (Kd.R_new' (Kd.R_new' ho0 (Kd.R_lt (by (with_reducible repeat (first | apply Kd.R_alloc | apply Kd.R_drewN | apply Kd.R_drew)); exact HO_9.out))) (Kd.R_lt (by (with_reducible repeat (first | apply Kd.R_alloc | apply Kd.R_drewN | apply Kd.R_drew)); exact HO271.out))) (Kd.R_lt (by (with_reducible repeat (first | apply Kd.R_alloc | apply Kd.R_drewN | apply Kd.R_drew)); exact HO275.out))) (below_size (by repeat (first | (with_reducible first | exact HB.out | apply below_alloc | apply pw_below_drewN | apply below_drew1) | exact HB.out)))); have n4_ := Aside0.mk (below_step (by repeat (first | (with_reducible first | exact HB.out | apply below_alloc | apply pw_below_drewN | apply below_drew1) | exact HB.out)) hb); clear HO_9; clear HO271; clear HO275; clear HB; have HO_9 := n0_; have HO271 := n1_; have HO275 := n2_; have HO279 := n3_; have HB := n4_; clear n0_ n1_ n2_ n3_ n4_; (try clear hb); (try clear hb2); (try clear hk); (try clear hi); (try clear ho0); obtain ⟨Ao34, co34, eo34⟩ := Kd.R_slice HO275.out; subst eo34) | ((with_reducible refine gate_callee (f := 14) rfl ?_); refine goesL_ (some 66) rfl rfl Tryd.func14 (by kernel_rfl) rfl #[.slice Ao34 t272.length co34, .int .i64 (Go.bits .and .i64 a2 7)] rfl (by (try simp only [List.map_toArray, List.map_cons, List.map_nil]); first | done | rfl | (simp only [List.length_drop, List.length_take]; rfl)) ?_; (with_reducible refine (shift_Up.calls k1 _ _ t272 (Go.bits .and .i64 a2 7) t280 t281 _ ?side1 ?side2 A17.out).mono ?_); (case side1 => repeat (first | exact (Kd.R_reads' HO275.out).2.2 | (with_reducible refine Kd.C_alloc ?_ _) | (with_reducible refine Kd.C_drewN ?_ _) | (with_reducible refine Kd.C_drew ?_))); (case side2 => exact (Kd.R_reads' HO275.out).2.1); rintro e w35 ⟨v282, rfl, ho0, hb⟩; refine ⟨_, rfl, ?_⟩; have n0_ := Aside0.mk (Kd.R_elder' (by (with_reducible repeat (first | apply Kd.R_alloc | apply Kd.R_drewN | apply Kd.R_drew)); exact HO_9.out) (Kd.R_base ho0) hb); have n1_ := Aside0.mk (Kd.R_elder' (by (with_reducible repeat (first | apply Kd.R_alloc | apply Kd.R_drewN | apply Kd.R_drew)); exact HO271.out) (Kd.R_base ho0) hb); have n2_ := Aside0.mk (Kd.R_elder' (by (with_reducible repeat (first | apply Kd.R_alloc | apply Kd.R_drewN | apply Kd.R_drew)); exact HO275.out) (Kd.R_base ho0) hb); have n3_ := Aside0.mk (Kd.R_elder' (by (with_reducible repeat (first | apply Kd.R_alloc | apply Kd.R_drewN | apply Kd.R_drew)); exact HO279.out) (Kd.R_base ho0) hb); have n4_ := Aside0.mk (Kd.R_lower (Kd.R_new' (Kd.R_new' (Kd.R_new' (Kd.R_new' ho0 (Kd.R_lt (by (with_reducible repeat (first | apply Kd.R_alloc | apply Kd.R_drewN | apply Kd.R_drew)); exact HO_9.out))) (Kd.R_lt (by (with_reducible repeat (first | apply Kd.R_alloc | apply Kd.R_drewN | apply Kd.R_drew)); exact HO271.out))) (Kd.R_lt (by (with_reducible repeat (first | apply Kd.R_alloc | apply Kd.R_drewN | apply Kd.R_drew)); exact HO275.out))) (Kd.R_lt (by (with_reducible repeat (first | apply Kd.R_alloc | apply Kd.R_drewN | apply Kd.R_drew)); exact HO279.out))) (below_size (by repeat (first | (with_reducible first | exact HB.out | apply below_alloc | apply pw_below_drewN | apply below_drew1) | exact HB.out)))); have n5_ := Aside0.mk (below_step (by repeat (first | (with_reducible first | exact HB.out | apply below_alloc | apply pw_below_drewN | apply below_drew1) | exact HB.out)) hb); clear HO_9; clear HO271; clear HO275; clear HO279; clear HB; have HO_9 := n0_; have HO271 := n1_; have HO275 := n2_; have HO279 := n3_; have HO283 := n4_; have HB := n5_; clear n0_ n1_ n2_ n3_ n4_ n5_; (try clear hb); (try clear hb2); (try clear hk); (try clear hi); (try clear ho0)) | ((with_reducible refine gate_callee (f := 16) rfl ?_); refine goesL_ (some 70) rfl rfl Tryd.func16 (by kernel_rfl) rfl #[.int .i64 t269] rfl (by (try simp only [List.map_toArray, List.map_cons, List.map_nil]); first | done | rfl | (simp only [List.length_drop, List.length_take]; rfl)) ?_; (with_reducible refine (descantlaw0_Num.calls t269 t284 _ A18.out).mono ?_); rintro e w' ⟨rfl, ⟨nd, rfl⟩⟩; refine ⟨_, rfl, ?_⟩) | (go_at_call 16; (with_reducible refine (descantlaw0_Num.calls t273 t285 _ A20.out).mono ?_); rintro e w' ⟨rfl, ⟨nd, rfl⟩⟩) | (go_at_call 16; (with_reducible refine (descantlaw0_Num.calls t277 t286 _ A22.out).mono ?_); rintro e w' ⟨rfl, ⟨nd, rfl⟩⟩; obtain ⟨Ao36, co36, eo36⟩ := Kd.R_slice HO279.out; subst eo36) | (go_at_call 17; (with_reducible refine (descantlaw0_SameInts.calls k1 _ _ t272 _ _ t276 true _ ?side1 ?side2 ?side3 ?side4 A24.out).mono ?_); (case side1 => repeat (first | exact (Kd.R_reads' HO275.out).2.2 | (with_reducible refine Kd.C_alloc ?_ _) | (with_reducible refine Kd.C_drewN ?_ _) | (with_reducible refine Kd.C_drew ?_))); (case side2 => exact (Kd.R_reads' HO275.out).2.1); (case side3 => repeat (first | exact (Kd.R_reads' HO279.out).2.2 | (with_reducible refine Kd.C_alloc ?_ _) | (with_reducible refine Kd.C_drewN ?_ _) | (with_reducible refine Kd.C_drew ?_))); (case side4 => exact (Kd.R_reads' HO279.out).2.1); rintro e w' ⟨rfl, ⟨nd, rfl⟩⟩) | (go_at_call 16; (with_reducible refine (descantlaw0_Num.calls t281 t288 _ A26.out).mono ?_); rintro e w' ⟨rfl, ⟨nd, rfl⟩⟩; obtain ⟨Ao37, co37, eo37⟩ := Kd.R_slice HO283.out; subst eo37) | (go_at_call 17; (with_reducible refine (descantlaw0_SameInts.calls k1 _ _ t280 _ _ t268 t289 _ ?side1 ?side2 ?side3 ?side4 A28.out).mono ?_); (case side1 => repeat (first | exact (Kd.R_reads' HO283.out).2.2 | (with_reducible refine Kd.C_alloc ?_ _) | (with_reducible refine Kd.C_drewN ?_ _) | (with_reducible refine Kd.C_drew ?_))); (case side2 => exact (Kd.R_reads' HO283.out).2.1); (case side3 => repeat (first | exact (Kd.R_reads' HO271.out).2.2 | (with_reducible refine Kd.C_alloc ?_ _) | (with_reducible refine Kd.C_drewN ?_ _) | (with_reducible refine Kd.C_drew ?_))); (case side4 => exact (Kd.R_reads' HO271.out).2.1); rintro e w' ⟨rfl, ⟨nd, rfl⟩⟩))
          go_ret
          exact ⟨by first | rfl | (simp [errW_none, errW_some] <;> rfl) | (simp [*, errW_none, errW_some] <;> rfl), by repeat (first | (with_reducible first | exact HB.out | apply below_alloc | apply pw_below_drewN | apply below_drew1) | exact HB.out)⟩
         ·rw [if_neg c27] at H
          exact absurd H (by simp)
        ·replace c25 := Bool.eq_false_iff.mpr c25
         subst c25
         have H1 : (none) = some r := by rw [if_neg (show ¬ (false = true) by decide)] at H; exact H
         clear H
         have H := H1
         clear H1
         exact absurd H (by simp)
       ·rw [if_neg c23] at H
        exact absurd H (by simp)
      ·rw [if_neg c21] at H
       exact absurd H (by simp)
     ·rw [if_neg c19] at H
      exact absurd H (by simp)
 ·replace c5 := Bool.eq_false_iff.mpr c5
  subst c5
  have H1 : (none) = some r := by rw [if_neg (show ¬ (false = true) by decide)] at H; exact H
  clear H
  have H := H1
  clear H1
  exact absurd H (by simp)

/-- THE ONE PURE STATEMENT of descantlaw18_ShiftTwice: yours. -/
def descantlaw18_ShiftTwice.Pure : Prop := ∀ (l0 : List Int) (a1 : Int) (a2 : Int), l0.length ≤ maxLen → l0.length * 8 ≤ 140737488351232 → (∀ x ∈ l0, (Lit.int .i64 x).wf = true) → (Lit.int .i64 a1).wf = true → (Lit.int .i64 a2).wf = true → ∃ k, descantlaw18_ShiftTwice.f k l0 a1 a2 = some true
theorem descantlaw18_ShiftTwice.walk (P : descantlaw18_ShiftTwice.Pure) (a0 : Option Addr) (len0 cap0 : Nat) (z0 : List Int) (a1 : Int) (a2 : Int) (w : World) (w0 : (a0 = none ∧ len0 = 0 ∧ cap0 = 0 ∧ z0 = []) ∨ ∃ x, a0 = some x ∧ len0 ≤ cap0 ∧ cap0 ≤ maxLen ∧ z0.length = cap0 ∧ (∀ i, i < z0.length → w.cell? (x.add i) = some (.int .i64 (z0.getD i 0))) ∧ ∀ n ∈ z0, (Lit.int .i64 n).wf = true) (y0 : len0 * 8 ≤ 140737488351232) (w1 : (Lit.int .i64 a1).wf = true) (w2 : (Lit.int .i64 a2).wf = true) (hv_ : Extra.Laid w) :
  Calls Tryd.prog 7 #[.slice a0 len0 cap0, .int .i64 a1, .int .i64 a2] w fun e w' => e = .returned (.bool true) ∧ Below w.heap.size w w' := by
 obtain ⟨l0, rfl, hr0, hm0, hw0, hc0⟩ := ReadsInt.ofRowC w0
 obtain ⟨k, h⟩ := P l0 a1 a2 hm0 y0 hw0 w1 w2
 refine (descantlaw18_ShiftTwice.calls k _ _ l0 a1 a2 true w (Kd.C_of_reads (d := (0 : Int)) (h1 := fun _ => rfl) hr0) hc0 h).mono ?_
 rintro e w' ⟨rfl, hd⟩
 exact ⟨rfl, hd⟩

end Go.Proofs.YtakjcfndinnffaaDoor.PShift
