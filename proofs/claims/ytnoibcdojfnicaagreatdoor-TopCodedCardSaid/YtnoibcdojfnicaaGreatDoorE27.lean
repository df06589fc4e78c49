/- A part of the proof of a law of descanttop: this session's own texts and printed texts, shortened and joined. -/
import Derived.Test.YtnoibcdojfnicaaGreatDoorE25
import Derived.Test.YtnoibcdojfnicaaGreatDoorE26
set_option linter.unusedVariables false
set_option linter.unusedSimpArgs false
set_option maxRecDepth 100000
set_option maxHeartbeats 16000000
namespace Go.Proofs.YtnoibcdojfnicaaGreatDoor.PG
open Go.Proofs.YtnoibcdojfnicaaGreatDoorW.Short
open Bool renaming true → Y, false → J
open Go.RowKit Go.Proofs.YtnoibcdojfnicaaGreatDoorW.PrintWords Go.Proofs.YtnoibcdojfnicaaGreatDoorW.PrintLast Go.Proofs.YtnoibcdojfnicaaGreatDoorW.PrintMore
attribute [local go_sem] max2_int min2_int max_two min_two max_three min_three max_four min_four
mutual
def segment_Put.j0 : Nat → ByteArray → Bool → Int → Int → Option (ByteArray × Int)
 | 0, _, _, _, _ => none
 | k + 1, x0, x31, x205000, x205001 => if x31 = true then (some ((⟨#[]⟩ : ByteArray), 2200)) else ((segment_sound_constant.f x0 x205000 x205001).bind fun t211 => (if t211 = true then ((segment_sound_many.f x0 x205000 x205001).bind fun t212 => ((segment_sound_frame.f x0 x205000 x205001).bind fun t213 => (if 0 ≤ t213 then (if t213 ≤ (x0.size : Int) then ((segment_told.f k 2 0 t212 (x0.extract 0 (t213 : Int).toNat)).bind fun t214 => (some (t214, 0))) else (none)) else (none)))) else ((segment_sound_coded.f k x0 x205000 x205001).bind fun bt215 => (if bt215.2.2 = true then (segment_Put.j1 k x0 bt215.1 bt215.2.1 (decide ((bt215.1.size : Int) < (x0.size : Int))) x0 x205000 x205001) else (segment_Put.j1 k x0 bt215.1 bt215.2.1 false x0 x205000 x205001)))))
def segment_Put.j1 : Nat → ByteArray → ByteArray → Int → Bool → ByteArray → Int → Int → Option (ByteArray × Int)
 | 0, _, _, _, _, _, _, _ => none
 | k + 1, x0, x9, x10, x57, x211000, x211001, x211002 => if x57 = true then ((segment_sound_many.f x211000 x211001 x211002).bind fun t218 => ((segment_told.f k 1 x10 t218 x9).bind fun t219 => (some (t219, 0)))) else ((segment_sound_many.f x211000 x211001 x211002).bind fun t220 => ((segment_told.f k 0 0 t220 x0).bind fun t221 => (some (t221, 0))))
end
def segment_Put.f (k : Nat) (a0 : ByteArray) (a1_0 : Int) (a1_1 : Int) : Option (ByteArray × Int) := (pcm_Get.f k a0 a1_0 a1_1).bind fun bt205 => (if bt205.2 = 0 then (if a0.toList = ([] : List UInt8) then (segment_Put.j0 k a0 true a1_0 a1_1) else ((pcm_Frame.f a1_0 a1_1).bind fun t209 => (segment_Put.j0 k a0 (decide ((a0.size : Int) > (wrap64 (64 * t209)))) a1_0 a1_1))) else (segment_Put.j0 k a0 true a1_0 a1_1))
def segment_Put.T6 : Bool × List (List Nat × List Nat) := (true, [([], []), ([0], [0]), ([], []), ([], []), ([3, 1], [3]), ([2, 4], [2, 4]), ([1, 5, 4], [1, 5]), ([6, 6, 0, 1, 2, 3, 4, 5, 6], [6]), ([7, 0, 1, 2, 3, 4, 5, 6, 7], [])])
def segment_Put.B6 : List Nat := [0, 1, 0, 0, 11, 31, 63, 127, 255]
theorem segment_Put.tab6 : rtab .any (opsOf Tryz.f28 6) = segment_Put.T6 := by kernel_rfl
theorem segment_Put.bits6 : waitsOk segment_Put.T6.2 segment_Put.B6 = true := by kernel_rfl
theorem segment_Put.calls (k : Nat) (a0 : ByteArray) (a1_0 : Int) (a1_1 : Int) (r1 : ByteArray) (r2 : Int) (w : World) (h : segment_Put.f k a0 a1_0 a1_1 = some (r1, r2)) (hv_ : Extra.Laid w := by repeat (first | assumption | exact Extra.Laid.aside (by assumption) (by assumption) | apply Extra.Laid.alloc_ | apply Extra.Laid.drewN_ | apply Extra.Laid.drew_)) :
  Calls Tryz.prog 28 #[.string a0, .agg #[.int .i64 a1_0, .int .i64 a1_1]] w fun e w' => e = .returned (.tuple #[.string r1, .int .i64 r2]) ∧ Below w.heap.size w w' := by
 have hu69 := Tryz.underlying69
 have hu133 := Tryz.underlying133
 have HB := Aside0.mk (Below.refl w.heap.size w)
 have H : ((pcm_Get.f k a0 a1_0 a1_1).bind fun bt205 => (if bt205.2 = 0 then (if a0.toList = ([] : List UInt8) then (segment_Put.j0 k a0 true a1_0 a1_1) else ((pcm_Frame.f a1_0 a1_1).bind fun t209 => (segment_Put.j0 k a0 (decide ((a0.size : Int) > (wrap64 (64 * t209)))) a1_0 a1_1))) else (segment_Put.j0 k a0 true a1_0 a1_1))) = some (r1, r2) := h
 clear h
 replace H := Option.bind_eq_some_iff.mp H
 obtain ⟨⟨t205, t208⟩, A30, H⟩ := H
 replace H : (if t208 = 0 then (if a0.toList = ([] : List UInt8) then (segment_Put.j0 k a0 true a1_0 a1_1) else ((pcm_Frame.f a1_0 a1_1).bind fun t209 => (segment_Put.j0 k a0 (decide ((a0.size : Int) > (wrap64 (64 * t209)))) a1_0 a1_1))) else (segment_Put.j0 k a0 true a1_0 a1_1)) = some (r1, r2) := H
 have A3 := Aside0.mk A30
 clear A30
 have HC4 := Aside0.mk H
 clear H
 go_enter Tryz.func28, Tryz.ntmps28
 go_upto_region 2 with (first | ((with_reducible refine gate_dst (N := 3) rfl ?_); (try (refine gate_guard (by rfl) ?_; dsimp only)); refine box_event ?hg (N := 3) ?hd (cs := #[.int .i64 a1_0, .int .i64 a1_1]) (t := 69) ?hr ?_; (case hd => rfl); (case hg => rfl); (case hr => first | (go_simp; done) | (go_simp; rfl)); intro gb204 hg w5 hbox hb; have n0_ := Aside0.mk (below_step b28_ hb); have n1_ := Aside0.mk (hbox); have n2_ := Aside0.mk ((by rw [hg]; exact (below_size b28_) : w.heap.size ≤ gb204)); have n3_ := Aside0.mk ((by rw [hg]; exact (below_size b28_) : w.heap.size ≤ gb204)); clear HB; have HB := n0_; have BK204 := n1_; have GW204 := n2_; have GE204 := n3_; clear n0_ n1_ n2_ n3_; clear hb hbox hg; have hcz6_0 : w5.cell? ⟨gb204, 0, none⟩ = some (.int .i64 a1_0) := (blk_cell BK204.out 0).trans rfl; have hcz6_1 : w5.cell? ⟨gb204, 1, none⟩ = some (.int .i64 a1_1) := (blk_cell BK204.out 1).trans rfl; have hfz6_0 := blk_frozen BK204.out 0; have hfz6_1 := blk_frozen BK204.out 1) | ((with_reducible refine gate_callee (f := 29) rfl ?_); refine goesL_ (some 15) rfl rfl Tryz.func29 kr rfl #[.string a0, .agg #[.int .i64 a1_0, .int .i64 a1_1]] rfl b24_ ?_; (with_reducible refine (pcm_Get.calls k a0 a1_0 a1_1 t205 t208 _ A3.out).mono ?_); rintro e w7 ⟨v206, rfl, ho0, hb⟩; refine ⟨_, rfl, ?_⟩; have n0_ := Aside0.mk (Kd.S_lower ho0 (below_size b11_)); have n1_ := Aside0.mk (blk_below (g := gb204) (o := .cells #[.int .i64 a1_0, .int .i64 a1_1] 69 (0, 0)) b39_ hb); have n2_ := Aside0.mk (below_step b11_ hb); clear BK204; clear HB; have HO207 := n0_; have BK204 := n1_; have HB := n2_; clear n0_ n1_ n2_; (try clear hb); (try clear hb2); (try clear hk); (try clear hi); (try clear ho0)))
 (try simp only [Act.put, List.setIfInBounds_toArray, List.set_cons_zero, List.set_cons_succ])
 go_cut [31] (fun v31 wc => ∃ (kq : Nat) (x31_3 : Bool), v31 = .bool x31_3 ∧ Aside0 (segment_Put.j0 kq a0 x31_3 a1_0 a1_1 = some (r1, r2)) ∧ Aside0 (kq ≤ k) ∧ Aside0 (wc.heap[gb204]? = some (.cells #[.int .i64 a1_0, .int .i64 a1_1] 69 (0, 0))) ∧ Aside0 (Below w.heap.size w wc))
 case first =>
  have H := HC4.out
  clear HC4
  by_cases c8 : t208 = 0
  ·rw [if_pos c8] at H
   have c8b0 : (t208 == 0) = true := beq_iff_eq.mpr c8
   have c8b1 : (t208 != 0) = false := bne_eq_false_iff_eq.mpr c8
   clear c8
   (first | rw [c8b0] | (simp only [i64_w, i32_w]; rw [c8b0]) | skip)
   by_cases c9 : a0.toList = ([] : List UInt8)
   ·rw [if_pos c9] at H
    have c9b0 : (a0.toList == ([] : List UInt8)) = true := beq_iff_eq.mpr c9
    have c9b1 : (a0.toList != ([] : List UInt8)) = false := bne_eq_false_iff_eq.mpr c9
    clear c9
    have H' := Aside0.mk H
    clear H
    go_wp2
    go_meet
    case rel => exact ⟨_, (true), b75_, H', ⟨b79_⟩, ⟨b47_⟩, ⟨b20_⟩⟩
   ·rw [if_neg c9] at H
    have c9b0 : (a0.toList == ([] : List UInt8)) = false := beq_eq_false_iff_ne.mpr c9
    have c9b1 : (a0.toList != ([] : List UInt8)) = true := bne_iff_ne.mpr c9
    replace H := Option.bind_eq_some_iff.mp H
    obtain ⟨t209, A100, H⟩ := H
    replace H : (segment_Put.j0 k a0 (decide ((a0.size : Int) > (wrap64 (64 * t209)))) a1_0 a1_1) = some (r1, r2) := H
    have A10 := Aside0.mk A100
    clear A100
    have H' := Aside0.mk H
    clear H
    have hcz11_0 : w7.cell? ⟨gb204, 0, none⟩ = some (.int .i64 a1_0) := (blk_cell BK204.out 0).trans rfl
    have hcz11_1 : w7.cell? ⟨gb204, 1, none⟩ = some (.int .i64 a1_1) := (blk_cell BK204.out 1).trans rfl
    have hfz11_0 := blk_frozen BK204.out 0
    have hfz11_1 := blk_frozen BK204.out 1
    go_wp2_with (first | (go_at_call 75; (with_reducible refine (pcm_Frame.calls a1_0 a1_1 t209 _ A10.out).mono ?_); rintro e w12 ⟨rfl, hb⟩; have n0_ := Aside0.mk (Kd.S_below (by (with_reducible repeat (first | apply Kd.S_alloc | apply Kd.S_drewN | apply Kd.S_drew)); exact HO207.out) hb); have n1_ := Aside0.mk (blk_below (g := gb204) (o := .cells #[.int .i64 a1_0, .int .i64 a1_1] 69 (0, 0)) b39_ hb); have n2_ := Aside0.mk (below_step b11_ hb); clear HO207; clear BK204; clear HB; have HO207 := n0_; have BK204 := n1_; have HB := n2_; clear n0_ n1_ n2_; (try clear hb); (try clear hb2); (try clear hk); (try clear hi)))
    go_meet
    case rel => exact ⟨_, (decide ((a0.size : Int) > (wrap64 (64 * t209)))), b75_, H', ⟨b79_⟩, ⟨b47_⟩, ⟨b20_⟩⟩
  ·rw [if_neg c8] at H
   have c8b0 : (t208 == 0) = false := beq_eq_false_iff_ne.mpr c8
   have c8b1 : (t208 != 0) = true := bne_iff_ne.mpr c8
   (first | rw [c8b0] | (simp only [i64_w, i32_w]; rw [c8b0]) | skip)
   have H' := Aside0.mk H
   clear H
   go_wp2
   go_meet
   case rel => exact ⟨_, (true), b75_, H', ⟨b79_⟩, ⟨b47_⟩, ⟨b20_⟩⟩
 case rest =>
  clear HC4
  try clear c2
  try clear p2
  try clear p6
  try clear c8
  try clear c8b0
  try clear c8b1
  try clear c9
  try clear c9b0
  try clear c9b1
  try clear hcz11_0
  try clear hcz11_1
  try clear hcz6_0
  try clear hcz6_1
  try clear hfz11_0
  try clear hfz11_1
  try clear hfz6_0
  try clear hfz6_1
  obtain ⟨kq, x31_3, rfl, HA, HJ3, BK204, HB⟩ := hcut
  cases kq with
  | zero => exact absurd HA.out (by simp [segment_Put.j0])
  | succ kj3 =>
   have H := HA.out
   clear HA
   simp only [segment_Put.j0] at H
   by_cases c13 : x31_3 = true
   ·subst c13
    have H1 : (some ((⟨#[]⟩ : ByteArray), 2200)) = some (r1, r2) := by rw [if_pos rfl] at H; exact H
    clear H
    have H := H1
    clear H1
    simp only [Option.some.injEq, Prod.mk.injEq] at H
    obtain ⟨rfl, rfl⟩ := H
    go_wp2
    go_ret2
    exact ⟨b60_, b20_⟩
   ·replace c13 := Bool.eq_false_iff.mpr c13
    subst c13
    have H1 : ((segment_sound_constant.f a0 a1_0 a1_1).bind fun t211 => (if t211 = true then ((segment_sound_many.f a0 a1_0 a1_1).bind fun t212 => ((segment_sound_frame.f a0 a1_0 a1_1).bind fun t213 => (if 0 ≤ t213 then (if t213 ≤ (a0.size : Int) then ((segment_told.f kj3 2 0 t212 (a0.extract 0 (t213 : Int).toNat)).bind fun t214 => (some (t214, 0))) else (none)) else (none)))) else ((segment_sound_coded.f kj3 a0 a1_0 a1_1).bind fun bt215 => (if bt215.2.2 = true then (segment_Put.j1 kj3 a0 bt215.1 bt215.2.1 (decide ((bt215.1.size : Int) < (a0.size : Int))) a0 a1_0 a1_1) else (segment_Put.j1 kj3 a0 bt215.1 bt215.2.1 false a0 a1_0 a1_1))))) = some (r1, r2) := by rw [if_neg (show ¬ (false = true) by decide)] at H; exact H
    clear H
    have H := H1
    clear H1
    replace H := Option.bind_eq_some_iff.mp H
    obtain ⟨t211, A140, H⟩ := H
    replace H : (if t211 = true then ((segment_sound_many.f a0 a1_0 a1_1).bind fun t212 => ((segment_sound_frame.f a0 a1_0 a1_1).bind fun t213 => (if 0 ≤ t213 then (if t213 ≤ (a0.size : Int) then ((segment_told.f kj3 2 0 t212 (a0.extract 0 (t213 : Int).toNat)).bind fun t214 => (some (t214, 0))) else (none)) else (none)))) else ((segment_sound_coded.f kj3 a0 a1_0 a1_1).bind fun bt215 => (if bt215.2.2 = true then (segment_Put.j1 kj3 a0 bt215.1 bt215.2.1 (decide ((bt215.1.size : Int) < (a0.size : Int))) a0 a1_0 a1_1) else (segment_Put.j1 kj3 a0 bt215.1 bt215.2.1 false a0 a1_0 a1_1)))) = some (r1, r2) := H
    have A14 := Aside0.mk A140
    clear A140
    by_cases c15 : t211 = true
    ·subst c15
     have H1 : ((segment_sound_many.f a0 a1_0 a1_1).bind fun t212 => ((segment_sound_frame.f a0 a1_0 a1_1).bind fun t213 => (if 0 ≤ t213 then (if t213 ≤ (a0.size : Int) then ((segment_told.f kj3 2 0 t212 (a0.extract 0 (t213 : Int).toNat)).bind fun t214 => (some (t214, 0))) else (none)) else (none)))) = some (r1, r2) := by rw [if_pos rfl] at H; exact H
     clear H
     have H := H1
     clear H1
     replace H := Option.bind_eq_some_iff.mp H
     obtain ⟨t212, A160, H⟩ := H
     replace H : ((segment_sound_frame.f a0 a1_0 a1_1).bind fun t213 => (if 0 ≤ t213 then (if t213 ≤ (a0.size : Int) then ((segment_told.f kj3 2 0 t212 (a0.extract 0 (t213 : Int).toNat)).bind fun t214 => (some (t214, 0))) else (none)) else (none))) = some (r1, r2) := H
     have A16 := Aside0.mk A160
     clear A160
     replace H := Option.bind_eq_some_iff.mp H
     obtain ⟨t213, A170, H⟩ := H
     replace H : (if 0 ≤ t213 then (if t213 ≤ (a0.size : Int) then ((segment_told.f kj3 2 0 t212 (a0.extract 0 (t213 : Int).toNat)).bind fun t214 => (some (t214, 0))) else (none)) else (none)) = some (r1, r2) := H
     have A17 := Aside0.mk A170
     clear A170
     by_cases c18 : 0 ≤ t213
     ·rw [if_pos c18] at H
      have c18b0 := eq_true c18
      have c18b1 : decide (0 ≤ t213) = true := decide_eq_true c18
      clear c18
      by_cases c19 : t213 ≤ (a0.size : Int)
      ·rw [if_pos c19] at H
       have c19b0 := eq_true c19
       have c19b1 : decide (t213 ≤ (a0.size : Int)) = true := decide_eq_true c19
       clear c19
       replace H := Option.bind_eq_some_iff.mp H
       obtain ⟨t214, A200, H⟩ := H
       replace H : (some (t214, 0)) = some (r1, r2) := H
       have A20 := Aside0.mk A200
       clear A200
       simp only [Option.some.injEq, Prod.mk.injEq] at H
       obtain ⟨rfl, rfl⟩ := H
       have hcz21_0 : wc.cell? ⟨gb204, 0, none⟩ = some (.int .i64 a1_0) := (blk_cell BK204.out 0).trans rfl
       have hcz21_1 : wc.cell? ⟨gb204, 1, none⟩ = some (.int .i64 a1_1) := (blk_cell BK204.out 1).trans rfl
       have hfz21_0 := blk_frozen BK204.out 0
       have hfz21_1 := blk_frozen BK204.out 1
       try go_wp2_with (first | ((with_reducible refine gate_dst (N := 8) rfl ?_); (try (refine gate_guard (by rfl) ?_; dsimp only)); refine box_event ?hg (N := 8) ?hd (cs := #[.string (⟨#[]⟩ : ByteArray), .int .i64 0, .int .i64 0]) (t := 133) ?hr ?_; (case hd => rfl); (case hg => rfl); (case hr => first | (go_simp; done) | (go_simp; rfl)); intro gb210 hg w22 hbox hb; have n0_ := Aside0.mk (blk_below (g := gb204) (o := .cells #[.int .i64 a1_0, .int .i64 a1_1] 69 (0, 0)) b39_ hb); have n1_ := Aside0.mk (below_step b11_ hb); have n2_ := Aside0.mk (hbox); have n3_ := Aside0.mk ((by rw [hg]; exact (below_size b11_) : w.heap.size ≤ gb210)); have n4_ := Aside0.mk ((by rw [hg]; exact (below_size b11_) : w.heap.size ≤ gb210)); have n5_ := Aside0.mk ((by rw [hg]; exact Nat.ne_of_lt (blk_lt (g := gb204) (o := .cells #[.int .i64 a1_0, .int .i64 a1_1] 69 (0, 0)) b39_) : gb204 ≠ gb210)); have n6_ := Aside0.mk ((by rw [hg]; exact Nat.ne_of_gt (blk_lt (g := gb204) (o := .cells #[.int .i64 a1_0, .int .i64 a1_1] 69 (0, 0)) b39_) : gb210 ≠ gb204)); clear BK204; clear HB; have BK204 := n0_; have HB := n1_; have BK210 := n2_; have GW210 := n3_; have GE210 := n4_; have NB204_210 := n5_; have NB210_204 := n6_; clear n0_ n1_ n2_ n3_ n4_ n5_ n6_; clear hb hbox hg; have hnb23 := NB210_204.out; have hnc23 := NB204_210.out; have hcz24_0 : w22.cell? ⟨gb210, 0, none⟩ = some (.string (⟨#[]⟩ : ByteArray)) := (blk_cell BK210.out 0).trans rfl; have hcz24_1 : w22.cell? ⟨gb210, 1, none⟩ = some (.int .i64 0) := (blk_cell BK210.out 1).trans rfl; have hcz24_2 : w22.cell? ⟨gb210, 2, none⟩ = some (.int .i64 0) := (blk_cell BK210.out 2).trans rfl; have hfz24_0 := blk_frozen BK210.out 0; have hfz24_1 := blk_frozen BK210.out 1; have hfz24_2 := blk_frozen BK210.out 2) | ((with_reducible refine gate_callee (f := 76) rfl ?_); refine goesL_ (some 36) rfl rfl Tryz.func76 kr rfl #[.agg #[.string a0, .int .i64 a1_0, .int .i64 a1_1]] rfl b24_ ?_; (with_reducible refine (segment_sound_constant.calls a0 a1_0 a1_1 true _ A14.out).mono ?_); rintro e w25 ⟨rfl, hb⟩; refine ⟨_, rfl, ?_⟩; have n0_ := Aside0.mk (blk_below (g := gb204) (o := .cells #[.int .i64 a1_0, .int .i64 a1_1] 69 (0, 0)) (by (with_reducible repeat (first | refine blk_drewN ?_ _ | refine blk_drew ?_ | refine blk_alloc ?_ _)); refine blk_far ?_ NB204_210.out _; (with_reducible repeat (first | refine blk_drewN ?_ _ | refine blk_drew ?_ | refine blk_alloc ?_ _)); refine blk_far ?_ NB204_210.out _; (with_reducible repeat (first | refine blk_drewN ?_ _ | refine blk_drew ?_ | refine blk_alloc ?_ _)); refine blk_far ?_ NB204_210.out _; (with_reducible repeat (first | refine blk_drewN ?_ _ | refine blk_drew ?_ | refine blk_alloc ?_ _)); exact BK204.out) hb); have n1_ := Aside0.mk (blk_below (g := gb210) (o := .cells #[.string a0, .int .i64 a1_0, .int .i64 a1_1] 133 (0, 0)) (by (with_reducible repeat (first | refine blk_drewN ?_ _ | refine blk_drew ?_ | refine blk_alloc ?_ _)); refine blk_put (cs := #[.string a0, .int .i64 a1_0, .int .i64 0]) ?_ 2 _ rfl; (with_reducible repeat (first | refine blk_drewN ?_ _ | refine blk_drew ?_ | refine blk_alloc ?_ _)); refine blk_put (cs := #[.string a0, .int .i64 0, .int .i64 0]) ?_ 1 _ rfl; (with_reducible repeat (first | refine blk_drewN ?_ _ | refine blk_drew ?_ | refine blk_alloc ?_ _)); refine blk_put (cs := #[.string (⟨#[]⟩ : ByteArray), .int .i64 0, .int .i64 0]) ?_ 0 _ rfl; (with_reducible repeat (first | refine blk_drewN ?_ _ | refine blk_drew ?_ | refine blk_alloc ?_ _)); exact BK210.out) hb); have n2_ := Aside0.mk (below_step b1_ hb); clear BK204; clear BK210; clear HB; have BK204 := n0_; have BK210 := n1_; have HB := n2_; clear n0_ n1_ n2_; (try clear hb); (try clear hb2); (try clear hk); (try clear hi)))
       have n0_ := Aside0.mk (blk_drew BK204.out)
       have n1_ := Aside0.mk (blk_drew BK210.out)
       have n2_ := Aside0.mk (below_drew1 HB.out)
       clear BK204
       clear BK210
       clear HB
       have BK204 := n0_
       have BK210 := n1_
       have HB := n2_
       clear n0_ n1_ n2_
       refine start_ (n := 9) (S := fun w' => w'.cell? ⟨gb210, 0, none⟩ = some (.string a0) ∧ w'.cell? ⟨gb210, 1, none⟩ = some (.int .i64 a1_0) ∧ w'.cell? ⟨gb210, 2, none⟩ = some (.int .i64 a1_1)) (ds := []) #[J,J,J,J,J,J,J,J,J] kr rfl rfl ⟨(blk_cell BK210.out 0).trans rfl, (blk_cell BK210.out 1).trans rfl, (blk_cell BK210.out 2).trans rfl⟩ (fun hHeld => ?_); refine with_tabW segment_Put.tab6 segment_Put.bits6 (fun HT_ HW_ => ?_)
       generalize w25.drew = w26 at BK204 BK210 HB hHeld ⊢
       refine pu_ 2 39 (z 9 4) HT_ ?_
       refine ta_ 0 37 (z 9 5) HT_ HW_ hHeld rfl b70_ ?_
       refine ta_ 3 40 (z 9 13) HT_ HW_ hHeld rfl b70_ ?_
       refine one_ (i := 1) (N := some 38) #[Y,Y,Y,Y,J,J,J,J,J] rfl rfl (one_of HT_.out kr) (by decide) (fun K hK => ?_)
       refine goes_ Tryz.func78 kr rfl #[.agg #[.string a0, .int .i64 a1_0, .int .i64 a1_1]] (by rfl) rfl rfl b24_ ?_
       with_reducible refine (segment_sound_many.calls a0 a1_0 a1_1 t212 _ A16.out).mono ?_
       rintro e w27 ⟨rfl, hb⟩
       refine ⟨_, rfl, ?_⟩
       have n0_ := Aside0.mk (blk_below (g := gb204) (o := .cells #[.int .i64 a1_0, .int .i64 a1_1] 69 (0, 0)) b39_ hb)
       have n1_ := Aside0.mk (blk_below (g := gb210) (o := .cells #[.string a0, .int .i64 a1_0, .int .i64 a1_1] 133 (0, 0)) b40_ hb)
       have n2_ := Aside0.mk (below_step b1_ hb)
       clear BK204
       clear BK210
       clear HB
       have BK204 := n0_
       have BK210 := n1_
       have HB := n2_
       clear n0_ n1_ n2_
       (try clear hb)
       (try clear hb2)
       (try clear hk)
       (try clear hi)
       refine hK.out _ _ ⟨(blk_cell BK210.out 0).trans rfl, (blk_cell BK210.out 1).trans rfl, (blk_cell BK210.out 2).trans rfl⟩ (fun hHeld => ?_)
       clear hK K
       refine norm_ (a' := ?_) ?_ ?_
       rotate_left
       ·show Act.put _ (some 38) _ = _
        exact pT
       refine one_ (i := 4) (N := some 41) #[Y,Y,Y,Y,Y,J,J,J,J] rfl rfl (one_of HT_.out kr) (by decide) (fun K hK => ?_)
       refine goes_ Tryz.func79 kr rfl #[.agg #[.string a0, .int .i64 a1_0, .int .i64 a1_1]] (by rfl) rfl rfl b24_ ?_
       with_reducible refine (segment_sound_frame.calls a0 a1_0 a1_1 t213 _ A17.out).mono ?_
       rintro e w28 ⟨rfl, hb⟩
       refine ⟨_, rfl, ?_⟩
       have n0_ := Aside0.mk (blk_below (g := gb204) (o := .cells #[.int .i64 a1_0, .int .i64 a1_1] 69 (0, 0)) b39_ hb)
       have n1_ := Aside0.mk (blk_below (g := gb210) (o := .cells #[.string a0, .int .i64 a1_0, .int .i64 a1_1] 133 (0, 0)) b40_ hb)
       have n2_ := Aside0.mk (below_step b1_ hb)
       clear BK204
       clear BK210
       clear HB
       have BK204 := n0_
       have BK210 := n1_
       have HB := n2_
       clear n0_ n1_ n2_
       (try clear hb)
       (try clear hb2)
       (try clear hk)
       (try clear hi)
       refine hK.out _ _ ⟨(blk_cell BK210.out 0).trans rfl, (blk_cell BK210.out 1).trans rfl, (blk_cell BK210.out 2).trans rfl⟩ (fun hHeld => ?_)
       clear hK K
       refine norm_ (a' := ?_) ?_ ?_
       rotate_left
       ·show Act.put _ (some 41) _ = _
        exact pT
       refine pu_ 5 42 (z 9 63) HT_ ?_
       refine one_ (i := 6) (N := some 43) #[Y,Y,Y,Y,Y,Y,Y,J,J] rfl rfl (one_of HT_.out kr) (by decide) (fun K hK => ?_)
       refine goes_ Tryz.func77 kr rfl #[.int .i64 2, .int .i64 0, .int .i64 t212, .string (a0.extract 0 (t213 : Int).toNat)] (by rfl) rfl rfl b24_ ?_
       with_reducible refine (segment_told.calls kj3 2 0 t212 (a0.extract 0 (t213 : Int).toNat) t214 _ A20.out).mono ?_
       rintro e w29 ⟨rfl, hb⟩
       refine ⟨_, rfl, ?_⟩
       have n0_ := Aside0.mk (blk_below (g := gb204) (o := .cells #[.int .i64 a1_0, .int .i64 a1_1] 69 (0, 0)) b39_ hb)
       have n1_ := Aside0.mk (blk_below (g := gb210) (o := .cells #[.string a0, .int .i64 a1_0, .int .i64 a1_1] 133 (0, 0)) b40_ hb)
       have n2_ := Aside0.mk (below_step b1_ hb)
       clear BK204
       clear BK210
       clear HB
       have BK204 := n0_
       have BK210 := n1_
       have HB := n2_
       clear n0_ n1_ n2_
       (try clear hb)
       (try clear hb2)
       (try clear hk)
       (try clear hi)
       refine hK.out _ _ ⟨(blk_cell BK210.out 0).trans rfl, (blk_cell BK210.out 1).trans rfl, (blk_cell BK210.out 2).trans rfl⟩ (fun hHeld => ?_)
       clear hK K
       refine norm_ (a' := ?_) ?_ ?_
       rotate_left
       ·show Act.put _ (some 43) _ = _
        exact pT
       refine pu_ 7 4 (z 9 255) HT_ ?_
       refine pu_ 8 5 (z 9 511) HT_ ?_
       refine done_ (done_of HT_.out kr) ?_
       try go_wp2
       go_ret2
       exact ⟨b60_, b3_⟩
      ·rw [if_neg c19] at H
       exact absurd H (by simp)
     ·rw [if_neg c18] at H
      exact absurd H (by simp)
    ·replace c15 := Bool.eq_false_iff.mpr c15
     subst c15
     have H1 : ((segment_sound_coded.f kj3 a0 a1_0 a1_1).bind fun bt215 => (if bt215.2.2 = true then (segment_Put.j1 kj3 a0 bt215.1 bt215.2.1 (decide ((bt215.1.size : Int) < (a0.size : Int))) a0 a1_0 a1_1) else (segment_Put.j1 kj3 a0 bt215.1 bt215.2.1 false a0 a1_0 a1_1))) = some (r1, r2) := by rw [if_neg (show ¬ (false = true) by decide)] at H; exact H
     clear H
     have H := H1
     clear H1
     replace H := Option.bind_eq_some_iff.mp H
     obtain ⟨⟨t215, t216, t217⟩, A300, H⟩ := H
     replace H : (if t217 = true then (segment_Put.j1 kj3 a0 t215 t216 (decide ((t215.size : Int) < (a0.size : Int))) a0 a1_0 a1_1) else (segment_Put.j1 kj3 a0 t215 t216 false a0 a1_0 a1_1)) = some (r1, r2) := H
     have A30 := Aside0.mk A300
     clear A300
     have HC31 := Aside0.mk H
     clear H
     have hcz32_0 : wc.cell? ⟨gb204, 0, none⟩ = some (.int .i64 a1_0) := (blk_cell BK204.out 0).trans rfl
     have hcz32_1 : wc.cell? ⟨gb204, 1, none⟩ = some (.int .i64 a1_1) := (blk_cell BK204.out 1).trans rfl
     have hfz32_0 := blk_frozen BK204.out 0
     have hfz32_1 := blk_frozen BK204.out 1
     go_upto_region 8 with (first | ((with_reducible refine gate_dst (N := 8) rfl ?_); (try (refine gate_guard (by rfl) ?_; dsimp only)); refine box_event ?hg (N := 8) ?hd (cs := #[.string (⟨#[]⟩ : ByteArray), .int .i64 0, .int .i64 0]) (t := 133) ?hr ?_; (case hd => rfl); (case hg => rfl); (case hr => first | (go_simp; done) | (go_simp; rfl)); intro gb210 hg w33 hbox hb; have n0_ := Aside0.mk (blk_below (g := gb204) (o := .cells #[.int .i64 a1_0, .int .i64 a1_1] 69 (0, 0)) b39_ hb); have n1_ := Aside0.mk (below_step b11_ hb); have n2_ := Aside0.mk (hbox); have n3_ := Aside0.mk ((by rw [hg]; exact (below_size b11_) : w.heap.size ≤ gb210)); have n4_ := Aside0.mk ((by rw [hg]; exact (below_size b11_) : w.heap.size ≤ gb210)); have n5_ := Aside0.mk ((by rw [hg]; exact Nat.ne_of_lt (blk_lt (g := gb204) (o := .cells #[.int .i64 a1_0, .int .i64 a1_1] 69 (0, 0)) b39_) : gb204 ≠ gb210)); have n6_ := Aside0.mk ((by rw [hg]; exact Nat.ne_of_gt (blk_lt (g := gb204) (o := .cells #[.int .i64 a1_0, .int .i64 a1_1] 69 (0, 0)) b39_) : gb210 ≠ gb204)); clear BK204; clear HB; have BK204 := n0_; have HB := n1_; have BK210 := n2_; have GW210 := n3_; have GE210 := n4_; have NB204_210 := n5_; have NB210_204 := n6_; clear n0_ n1_ n2_ n3_ n4_ n5_ n6_; clear hb hbox hg; have hnb34 := NB210_204.out; have hnc34 := NB204_210.out; have hcz35_0 : w33.cell? ⟨gb210, 0, none⟩ = some (.string (⟨#[]⟩ : ByteArray)) := (blk_cell BK210.out 0).trans rfl; have hcz35_1 : w33.cell? ⟨gb210, 1, none⟩ = some (.int .i64 0) := (blk_cell BK210.out 1).trans rfl; have hcz35_2 : w33.cell? ⟨gb210, 2, none⟩ = some (.int .i64 0) := (blk_cell BK210.out 2).trans rfl; have hfz35_0 := blk_frozen BK210.out 0; have hfz35_1 := blk_frozen BK210.out 1; have hfz35_2 := blk_frozen BK210.out 2) | ((with_reducible refine gate_callee (f := 76) rfl ?_); refine goesL_ (some 36) rfl rfl Tryz.func76 kr rfl #[.agg #[.string a0, .int .i64 a1_0, .int .i64 a1_1]] rfl b24_ ?_; (with_reducible refine (segment_sound_constant.calls a0 a1_0 a1_1 false _ A14.out).mono ?_); rintro e w36 ⟨rfl, hb⟩; refine ⟨_, rfl, ?_⟩; have n0_ := Aside0.mk (blk_below (g := gb204) (o := .cells #[.int .i64 a1_0, .int .i64 a1_1] 69 (0, 0)) (by (with_reducible repeat (first | refine blk_drewN ?_ _ | refine blk_drew ?_ | refine blk_alloc ?_ _)); refine blk_far ?_ NB204_210.out _; (with_reducible repeat (first | refine blk_drewN ?_ _ | refine blk_drew ?_ | refine blk_alloc ?_ _)); refine blk_far ?_ NB204_210.out _; (with_reducible repeat (first | refine blk_drewN ?_ _ | refine blk_drew ?_ | refine blk_alloc ?_ _)); refine blk_far ?_ NB204_210.out _; (with_reducible repeat (first | refine blk_drewN ?_ _ | refine blk_drew ?_ | refine blk_alloc ?_ _)); exact BK204.out) hb); have n1_ := Aside0.mk (blk_below (g := gb210) (o := .cells #[.string a0, .int .i64 a1_0, .int .i64 a1_1] 133 (0, 0)) (by (with_reducible repeat (first | refine blk_drewN ?_ _ | refine blk_drew ?_ | refine blk_alloc ?_ _)); refine blk_put (cs := #[.string a0, .int .i64 a1_0, .int .i64 0]) ?_ 2 _ rfl; (with_reducible repeat (first | refine blk_drewN ?_ _ | refine blk_drew ?_ | refine blk_alloc ?_ _)); refine blk_put (cs := #[.string a0, .int .i64 0, .int .i64 0]) ?_ 1 _ rfl; (with_reducible repeat (first | refine blk_drewN ?_ _ | refine blk_drew ?_ | refine blk_alloc ?_ _)); refine blk_put (cs := #[.string (⟨#[]⟩ : ByteArray), .int .i64 0, .int .i64 0]) ?_ 0 _ rfl; (with_reducible repeat (first | refine blk_drewN ?_ _ | refine blk_drew ?_ | refine blk_alloc ?_ _)); exact BK210.out) hb); have n2_ := Aside0.mk (below_step b1_ hb); clear BK204; clear BK210; clear HB; have BK204 := n0_; have BK210 := n1_; have HB := n2_; clear n0_ n1_ n2_; (try clear hb); (try clear hb2); (try clear hk); (try clear hi); have hcz37_0 : w36.cell? ⟨gb210, 0, none⟩ = some (.string a0) := (blk_cell BK210.out 0).trans rfl; have hcz37_1 : w36.cell? ⟨gb210, 1, none⟩ = some (.int .i64 a1_0) := (blk_cell BK210.out 1).trans rfl; have hcz37_2 : w36.cell? ⟨gb210, 2, none⟩ = some (.int .i64 a1_1) := (blk_cell BK210.out 2).trans rfl; have hfz37_0 := blk_frozen BK210.out 0; have hfz37_1 := blk_frozen BK210.out 1; have hfz37_2 := blk_frozen BK210.out 2) | ((with_reducible refine gate_callee (f := 80) rfl ?_); refine goesL_ (some 46) rfl rfl Tryz.func80 kr rfl #[.agg #[.string a0, .int .i64 a1_0, .int .i64 a1_1]] rfl b24_ ?_; (with_reducible refine (segment_sound_coded.calls kj3 a0 a1_0 a1_1 t215 t216 t217 _ A30.out).mono ?_); rintro e w38 ⟨rfl, hb⟩; refine ⟨_, rfl, ?_⟩; have n0_ := Aside0.mk (blk_below (g := gb204) (o := .cells #[.int .i64 a1_0, .int .i64 a1_1] 69 (0, 0)) b39_ hb); have n1_ := Aside0.mk (blk_below (g := gb210) (o := .cells #[.string a0, .int .i64 a1_0, .int .i64 a1_1] 133 (0, 0)) b40_ hb); have n2_ := Aside0.mk (below_step b1_ hb); clear BK204; clear BK210; clear HB; have BK204 := n0_; have BK210 := n1_; have HB := n2_; clear n0_ n1_ n2_; (try clear hb); (try clear hb2); (try clear hk); (try clear hi)))
     (try simp only [Act.put, List.setIfInBounds_toArray, List.set_cons_zero, List.set_cons_succ])
     go_cut [57] (fun v57 wc => ∃ (kq : Nat) (x57_30 : Bool), v57 = .bool x57_30 ∧ Aside0 (segment_Put.j1 kq a0 t215 t216 x57_30 a0 a1_0 a1_1 = some (r1, r2)) ∧ Aside0 (kq ≤ kj3) ∧ Aside0 (wc.heap[gb204]? = some (.cells #[.int .i64 a1_0, .int .i64 a1_1] 69 (0, 0))) ∧ Aside0 (wc.heap[gb210]? = some (.cells #[.string a0, .int .i64 a1_0, .int .i64 a1_1] 133 (0, 0))) ∧ Aside0 (Below w.heap.size w wc))
     case first =>
      have H := HC31.out
      clear HC31
      by_cases c39 : t217 = true
      ·subst c39
       have H1 : (segment_Put.j1 kj3 a0 t215 t216 (decide ((t215.size : Int) < (a0.size : Int))) a0 a1_0 a1_1) = some (r1, r2) := by rw [if_pos rfl] at H; exact H
       clear H
       have H := H1
       clear H1
       have H' := Aside0.mk H
       clear H
       go_wp2
       go_meet
       case rel => exact ⟨_, (decide ((t215.size : Int) < (a0.size : Int))), b75_, H', ⟨by have := HJ3.out; first | omega | exact Nat.le_refl _⟩, ⟨b47_⟩, ⟨by (with_reducible repeat (first | refine blk_drewN ?_ _ | refine blk_drew ?_ | refine blk_alloc ?_ _)); exact BK210.out⟩, ⟨b3_⟩⟩
      ·replace c39 := Bool.eq_false_iff.mpr c39
       subst c39
       have H1 : (segment_Put.j1 kj3 a0 t215 t216 false a0 a1_0 a1_1) = some (r1, r2) := by rw [if_neg (show ¬ (false = true) by decide)] at H; exact H
       clear H
       have H := H1
       clear H1
       have H' := Aside0.mk H
       clear H
       go_wp2
       go_meet
       case rel => exact ⟨_, (false), b75_, H', ⟨by have := HJ3.out; first | omega | exact Nat.le_refl _⟩, ⟨b47_⟩, ⟨by (with_reducible repeat (first | refine blk_drewN ?_ _ | refine blk_drew ?_ | refine blk_alloc ?_ _)); exact BK210.out⟩, ⟨b3_⟩⟩
     case rest =>
      clear HC31
      try clear c1
      try clear c2
      try clear p2
      try clear c3
      try clear p6
      try clear c7
      try clear c8
      try clear c8b0
      try clear c8b1
      try clear c9
      try clear c9b0
      try clear c9b1
      try clear c13
      try clear c15
      try clear c18
      try clear c18b0
      try clear c18b1
      try clear c19
      try clear c19b0
      try clear c19b1
      try clear c23
      try clear c28
      try clear c29
      try clear c34
      try clear c39
      try clear hcz11_0
      try clear hcz11_1
      try clear hcz21_0
      try clear hcz21_1
      try clear hcz24_0
      try clear hcz24_1
      try clear hcz24_2
      try clear hcz32_0
      try clear hcz32_1
      try clear hcz35_0
      try clear hcz35_1
      try clear hcz35_2
      try clear hcz37_0
      try clear hcz37_1
      try clear hcz37_2
      try clear hcz6_0
      try clear hcz6_1
      try clear hfz11_0
      try clear hfz11_1
      try clear hfz21_0
      try clear hfz21_1
      try clear hfz24_0
      try clear hfz24_1
      try clear hfz24_2
      try clear hfz32_0
      try clear hfz32_1
      try clear hfz35_0
      try clear hfz35_1
      try clear hfz35_2
      try clear hfz37_0
      try clear hfz37_1
      try clear hfz37_2
      try clear hfz6_0
      try clear hfz6_1
      try clear p2
      try clear p6
      obtain ⟨kq, x57_30, rfl, HA, HJ30, BK204, BK210, HB⟩ := hcut
      cases kq with
      | zero => exact absurd HA.out (by simp [segment_Put.j1])
      | succ kj30 =>
       have H := HA.out
       clear HA
       simp only [segment_Put.j1] at H
       by_cases c40 : x57_30 = true
       ·subst c40
        have H1 : ((segment_sound_many.f a0 a1_0 a1_1).bind fun t218 => ((segment_told.f kj30 1 t216 t218 t215).bind fun t219 => (some (t219, 0)))) = some (r1, r2) := by rw [if_pos rfl] at H; exact H
        clear H
        have H := H1
        clear H1
        replace H := Option.bind_eq_some_iff.mp H
        obtain ⟨t218, A410, H⟩ := H
        replace H : ((segment_told.f kj30 1 t216 t218 t215).bind fun t219 => (some (t219, 0))) = some (r1, r2) := H
        have A41 := Aside0.mk A410
        clear A410
        replace H := Option.bind_eq_some_iff.mp H
        obtain ⟨t219, A420, H⟩ := H
        replace H : (some (t219, 0)) = some (r1, r2) := H
        have A42 := Aside0.mk A420
        clear A420
        simp only [Option.some.injEq, Prod.mk.injEq] at H
        obtain ⟨rfl, rfl⟩ := H
        have hnb43 := NB210_204.out
        have hnc43 := NB204_210.out
        have hcz44_0 : wc.cell? ⟨gb210, 0, none⟩ = some (.string a0) := (blk_cell BK210.out 0).trans rfl
        have hcz44_1 : wc.cell? ⟨gb210, 1, none⟩ = some (.int .i64 a1_0) := (blk_cell BK210.out 1).trans rfl
        have hcz44_2 : wc.cell? ⟨gb210, 2, none⟩ = some (.int .i64 a1_1) := (blk_cell BK210.out 2).trans rfl
        have hfz44_0 := blk_frozen BK210.out 0
        have hfz44_1 := blk_frozen BK210.out 1
        have hfz44_2 := blk_frozen BK210.out 2
        go_wp2_with (first | ((with_reducible refine gate_callee (f := 78) rfl ?_); refine goesL_ (some 60) rfl rfl Tryz.func78 kr rfl #[.agg #[.string a0, .int .i64 a1_0, .int .i64 a1_1]] rfl b24_ ?_; (with_reducible refine (segment_sound_many.calls a0 a1_0 a1_1 t218 _ A41.out).mono ?_); rintro e w45 ⟨rfl, hb⟩; refine ⟨_, rfl, ?_⟩; have n0_ := Aside0.mk (blk_below (g := gb204) (o := .cells #[.int .i64 a1_0, .int .i64 a1_1] 69 (0, 0)) b39_ hb); have n1_ := Aside0.mk (blk_below (g := gb210) (o := .cells #[.string a0, .int .i64 a1_0, .int .i64 a1_1] 133 (0, 0)) b40_ hb); have n2_ := Aside0.mk (below_step b1_ hb); clear BK204; clear BK210; clear HB; have BK204 := n0_; have BK210 := n1_; have HB := n2_; clear n0_ n1_ n2_; (try clear hb); (try clear hb2); (try clear hk); (try clear hi)) | ((with_reducible refine gate_callee (f := 77) rfl ?_); refine goesL_ (some 62) rfl rfl Tryz.func77 kr rfl #[.int .i64 1, .int .i64 t216, .int .i64 t218, .string t215] rfl b24_ ?_; (with_reducible refine (segment_told.calls kj30 1 t216 t218 t215 t219 _ A42.out).mono ?_); rintro e w46 ⟨rfl, hb⟩; refine ⟨_, rfl, ?_⟩; have n0_ := Aside0.mk (blk_below (g := gb204) (o := .cells #[.int .i64 a1_0, .int .i64 a1_1] 69 (0, 0)) b39_ hb); have n1_ := Aside0.mk (blk_below (g := gb210) (o := .cells #[.string a0, .int .i64 a1_0, .int .i64 a1_1] 133 (0, 0)) b40_ hb); have n2_ := Aside0.mk (below_step b1_ hb); clear BK204; clear BK210; clear HB; have BK204 := n0_; have BK210 := n1_; have HB := n2_; clear n0_ n1_ n2_; (try clear hb); (try clear hb2); (try clear hk); (try clear hi)))
        go_ret2
        exact ⟨b60_, b3_⟩
       ·replace c40 := Bool.eq_false_iff.mpr c40
        subst c40
        have H1 : ((segment_sound_many.f a0 a1_0 a1_1).bind fun t220 => ((segment_told.f kj30 0 0 t220 a0).bind fun t221 => (some (t221, 0)))) = some (r1, r2) := by rw [if_neg (show ¬ (false = true) by decide)] at H; exact H
        clear H
        have H := H1
        clear H1
        replace H := Option.bind_eq_some_iff.mp H
        obtain ⟨t220, A470, H⟩ := H
        replace H : ((segment_told.f kj30 0 0 t220 a0).bind fun t221 => (some (t221, 0))) = some (r1, r2) := H
        have A47 := Aside0.mk A470
        clear A470
        replace H := Option.bind_eq_some_iff.mp H
        obtain ⟨t221, A480, H⟩ := H
        replace H : (some (t221, 0)) = some (r1, r2) := H
        have A48 := Aside0.mk A480
        clear A480
        simp only [Option.some.injEq, Prod.mk.injEq] at H
        obtain ⟨rfl, rfl⟩ := H
        have hnb49 := NB210_204.out
        have hnc49 := NB204_210.out
        have hcz50_0 : wc.cell? ⟨gb210, 0, none⟩ = some (.string a0) := (blk_cell BK210.out 0).trans rfl
        have hcz50_1 : wc.cell? ⟨gb210, 1, none⟩ = some (.int .i64 a1_0) := (blk_cell BK210.out 1).trans rfl
        have hcz50_2 : wc.cell? ⟨gb210, 2, none⟩ = some (.int .i64 a1_1) := (blk_cell BK210.out 2).trans rfl
        have hfz50_0 := blk_frozen BK210.out 0
        have hfz50_1 := blk_frozen BK210.out 1
        have hfz50_2 := blk_frozen BK210.out 2
        go_wp2_with (first | ((with_reducible refine gate_callee (f := 78) rfl ?_); refine goesL_ (some 64) rfl rfl Tryz.func78 kr rfl #[.agg #[.string a0, .int .i64 a1_0, .int .i64 a1_1]] rfl b24_ ?_; (with_reducible refine (segment_sound_many.calls a0 a1_0 a1_1 t220 _ A47.out).mono ?_); rintro e w51 ⟨rfl, hb⟩; refine ⟨_, rfl, ?_⟩; have n0_ := Aside0.mk (blk_below (g := gb204) (o := .cells #[.int .i64 a1_0, .int .i64 a1_1] 69 (0, 0)) b39_ hb); have n1_ := Aside0.mk (blk_below (g := gb210) (o := .cells #[.string a0, .int .i64 a1_0, .int .i64 a1_1] 133 (0, 0)) b40_ hb); have n2_ := Aside0.mk (below_step b1_ hb); clear BK204; clear BK210; clear HB; have BK204 := n0_; have BK210 := n1_; have HB := n2_; clear n0_ n1_ n2_; (try clear hb); (try clear hb2); (try clear hk); (try clear hi)) | ((with_reducible refine gate_callee (f := 77) rfl ?_); refine goesL_ (some 66) rfl rfl Tryz.func77 kr rfl #[.int .i64 0, .int .i64 0, .int .i64 t220, .string a0] rfl b24_ ?_; (with_reducible refine (segment_told.calls kj30 0 0 t220 a0 t221 _ A48.out).mono ?_); rintro e w52 ⟨rfl, hb⟩; refine ⟨_, rfl, ?_⟩; have n0_ := Aside0.mk (blk_below (g := gb204) (o := .cells #[.int .i64 a1_0, .int .i64 a1_1] 69 (0, 0)) b39_ hb); have n1_ := Aside0.mk (blk_below (g := gb210) (o := .cells #[.string a0, .int .i64 a1_0, .int .i64 a1_1] 133 (0, 0)) b40_ hb); have n2_ := Aside0.mk (below_step b1_ hb); clear BK204; clear BK210; clear HB; have BK204 := n0_; have BK210 := n1_; have HB := n2_; clear n0_ n1_ n2_; (try clear hb); (try clear hb2); (try clear hk); (try clear hi)))
        go_ret2
        exact ⟨b60_, b3_⟩
end Go.Proofs.YtnoibcdojfnicaaGreatDoor.PG
namespace Go.Proofs.YtnoibcdojfnicaaGreatDoor.PG
open Go.Proofs.YtnoibcdojfnicaaGreatDoorW.Short
open Bool renaming true → Y, false → J
open Go Go.RowKit Go.Proofs.YtnoibcdojfnicaaGreatDoorW.PrintWords Go.Proofs.YtnoibcdojfnicaaGreatDoorW.PrintMore Go.Proofs.YtnoibcdojfnicaaGreatDoorW.PrintLast
open Go.Proofs.YtnoibcdojfnicaaGreatDoor.Bytes
theorem crc_in (s : ByteArray) : 0 ≤ PTp.crcF s ∧ PTp.crcF s < 4294967296 := by
 have h : ∀ x y : Int, 0 ≤ Go.bits .xor .u32 x y ∧ Go.bits .xor .u32 x y < 4294967296 := fun x y => by
  show 0 ≤ IntKind.u32.wrap _ ∧ IntKind.u32.wrap _ < 4294967296
  rw [IntKind.wrap_u32]
  omega
 unfold PTp.crcF
 have := h IntKind.u32.max (PTp.crcRun s.toList 4294967295)
 rw [Num.w64 (by omega) (by omega)]
 exact this
theorem told_is (k : Nat) (kd w m : Int) (body : ByteArray) (hb : body.size ≤ 65535) : ∃ t, segment_told.f (k + 8) kd w m body = some t ∧ t.size = body.size + 9 ∧ bt t 0 = kd % 256 ∧ bt t 1 = w % 256 ∧ t.extract 5 (t.size - 4) = body := by
 have p1 := put_in (k := k + 1) (x := (body.size : Int)) (m := 2) (by decide) (by decide) (by omega) (by show (body.size : Int) < 65536; omega)
 have l1 : bytesOf (strOfNums (low 2 (body.size : Int))) = low 2 (body.size : Int) := of_nums_in (low_in 2 _)
 have l0 : bytesOf (strOfNums [kd % 256, w % 256, m % 256]) = [kd % 256, w % 256, m % 256] := of_nums_in (by
  intro x hx
  simp only [List.mem_cons, List.not_mem_nil, or_false] at hx
  rcases hx with rfl | rfl | rfl <;> omega)
 have z0 : (strOfNums [kd % 256, w % 256, m % 256]).size = 3 := by rw [size_eq, l0]; rfl
 have z1 : (strOfNums (low 2 (body.size : Int))).size = 2 := by rw [size_eq, l1, low_length]
 obtain ⟨h1, hh1⟩ : ∃ h, h = strOfNums [kd % 256, w % 256, m % 256] := ⟨_, rfl⟩
 obtain ⟨h2, hh2⟩ : ∃ h, h = strOfNums (low 2 (body.size : Int)) := ⟨_, rfl⟩
 have sz : ∀ a b : ByteArray, (a ++ b).size = a.size + b.size := fun a b => by simp
 obtain ⟨cs, hcs⟩ : ∃ cs, cs = PTp.crcF ((h1 ++ h2) ++ body) := ⟨_, rfl⟩
 have ci := crc_in ((h1 ++ h2) ++ body)
 rw [← hcs] at ci
 have p2 := put_in (k := k + 1) (x := cs) (m := 4) (by decide) (by decide) ci.1 (by show cs < 4294967296; exact ci.2)
 have l2 : bytesOf (strOfNums (low 4 cs)) = low 4 cs := of_nums_in (low_in 4 _)
 have z2 : (strOfNums (low 4 cs)).size = 4 := by rw [size_eq, l2, low_length]
 obtain ⟨h3, hh3⟩ : ∃ h, h = strOfNums (low 4 cs) := ⟨_, rfl⟩
 have e2 : (2 : Int).toNat = 2 := rfl
 have e4 : (4 : Int).toNat = 4 := rfl
 rw [e2, ← hh2] at p1
 rw [e4, ← hh3] at p2
 rw [← hh1] at l0 z0
 rw [← hh2] at l1 z1
 rw [← hh3] at l2 z2
 have cf : crc_Sum.f ((h1 ++ h2) ++ body) = some cs := by unfold crc_Sum.f; rw [if_pos (by rw [sz, sz]; omega), hcs]
 refine ⟨((h1 ++ h2) ++ body) ++ h3, ?_, ?_, ?_, ?_, ?_⟩
 ·unfold segment_told.f
  rw [show k + 8 = k + 1 + 7 by omega, p1]
  simp only [Option.bind_some]
  rw [← hh1, if_pos (by omega), if_pos (by omega), cf]
  simp only [Option.bind_some]
  rw [p2]
  simp only [Option.bind_some]
  rw [if_pos (by omega)]
 ·rw [sz, sz, sz]; omega
 ·rw [bt_eq, of_append, of_append, of_append, l0]; rfl
 ·rw [bt_eq, of_append, of_append, of_append, l0]; rfl
 ·apply inj
  rw [of_extract, of_append, of_append, of_append, l0, l1, l2, sz, sz, sz, z0, z1, z2]
  rw [show [kd % 256, w % 256, m % 256] ++ low 2 (body.size : Int) ++ bytesOf body ++ low 4 cs = ([kd % 256, w % 256, m % 256] ++ low 2 (body.size : Int)) ++ (bytesOf body ++ low 4 cs) by simp]
  rw [List.drop_left' (by rw [List.length_append, low_length]; rfl), show 3 + 2 + body.size + 4 - 4 - 5 = body.size by omega]
  rw [List.take_left' (by rw [← size_eq])]
end Go.Proofs.YtnoibcdojfnicaaGreatDoor.PG
