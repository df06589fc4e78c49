-- Printed by a program of this session over the kit's printer (wip/gen/pr.py). Not trusted: Lean checks it.
import Derived.Test.YthiknekmgjnkdaaPAllx0
import Derived.Test.YthiknekmgjnkdaaPAllx2
import Derived.Test.YthiknekmgjnkdaaPAllx3
import Derived.Test.YthiknekmgjnkdaaPAllx9
import Derived.Test.YthiknekmgjnkdaaPAllx10
namespace Go.Proofs.Ythiknekmgjnkdaa.PAll
open Go.RowKit Go.Proofs.YthiknekmgjnkdaaW.PrintWords Go.Proofs.YthiknekmgjnkdaaW.PrintLast Go.Proofs.YthiknekmgjnkdaaW.PrintMore
attribute [local go_sem] max2_int min2_int max_two min_two max_three min_three max_four min_four   -- for this text's walks alone
set_option linter.unusedVariables false
set_option linter.unusedSimpArgs false

/-! ### descantlaw19_PcmJoin: function 6 -/
mutual
def descantlaw19_PcmJoin.j0 : Nat → ByteArray → ByteArray → List (List Int) → Int → List (List Int) → Int → List (List Int) → Bool → Int → Int → Option (Bool)
 | 0, _, _, _, _, _, _, _, _, _, _ => none
 | k + 1, x0, x1, x7, x8, x9, x10, x11, x49, x381000, x381001 => if x49 = true then ((descantlaw0_Num.f x8).bind fun t397 => (if t397 = 0 then ((descantlaw0_Num.f x10).bind fun t398 => (if t398 = 0 then (some (decide ((wrap64 ((x0.size : Int) + (x1.size : Int))) > 4096))) else (some true))) else (some true))) else (if (x7.length : Int) = (x11.length : Int) then (if (x9.length : Int) = (x11.length : Int) then ((descantref13_FormatMay.f x381000 x381001).bind fun t399 => (descantlaw19_PcmJoin.j1 k x7 x9 x11 (!t399))) else (descantlaw19_PcmJoin.j1 k x7 x9 x11 true)) else (descantlaw19_PcmJoin.j1 k x7 x9 x11 true))
def descantlaw19_PcmJoin.j1 : Nat → List (List Int) → List (List Int) → List (List Int) → Bool → Option (Bool)
 | 0, _, _, _, _ => none
 | k + 1, x7, x9, x11, x82 => if x82 = true then (none) else (descantlaw19_PcmJoin.l0 k x7 x9 x11 0)
def descantlaw19_PcmJoin.l0 : Nat → List (List Int) → List (List Int) → List (List Int) → Int → Option (Bool)
 | 0, _, _, _, _ => none
 | k + 1, x7, x9, x11, x13 => if x13 < (x11.length : Int) then ((some (([] : List Int) : List Int)).bind fun y400 => (if 0 ≤ x13 then (if x13 < (x7.length : Int) then (if y400.length + (rd_L1 x7 x13).length < 17592186044416 then ((some (y400 ++ (rd_L1 x7 x13) : List Int)).bind fun y404 => (if x13 < (x9.length : Int) then (if y404.length + (rd_L1 x9 x13).length < 17592186044416 then ((descantlaw0_SameInts.f k (y404 ++ (rd_L1 x9 x13)) (rd_L1 x11 x13)).bind fun t412 => (if t412 = true then (descantlaw19_PcmJoin.l0 k x7 x9 x11 (wrap64 (x13 + 1))) else (none))) else (none)) else (none))) else (none)) else (none)) else (none))) else (some true)
end
def descantlaw19_PcmJoin.f (k : Nat) (a0 : ByteArray) (a1 : ByteArray) (a2_0 : Int) (a2_1 : Int) : Option (Bool) := (descantlaw19_awake.f k).bind fun t381 => (if t381 = true then ((pcm_Get.f k a0 a2_0 a2_1).bind fun bt382 => ((pcm_Get.f k a1 a2_0 a2_1).bind fun bt386 => (if a0.size + a1.size ≤ 9223372036854775807 then ((pcm_Get.f k (a0 ++ a1) a2_0 a2_1).bind fun bt390 => ((descantlaw0_Num.f bt382.2).bind fun t394 => (if t394 = 0 then ((descantlaw0_Num.f bt386.2).bind fun t395 => (if t395 = 0 then ((descantlaw0_Num.f bt390.2).bind fun t396 => (descantlaw19_PcmJoin.j0 k a0 a1 bt382.1 bt382.2 bt386.1 bt386.2 bt390.1 (t396 != 0) a2_0 a2_1)) else (descantlaw19_PcmJoin.j0 k a0 a1 bt382.1 bt382.2 bt386.1 bt386.2 bt390.1 true a2_0 a2_1))) else (descantlaw19_PcmJoin.j0 k a0 a1 bt382.1 bt382.2 bt386.1 bt386.2 bt390.1 true a2_0 a2_1)))) else (none)))) else (none))
theorem descantlaw19_PcmJoin.mono_l : ∀ k, (∀ y0 y1 y2 y3 y4 y5 y6 y7 y8 y9, LeO (descantlaw19_PcmJoin.j0 k y0 y1 y2 y3 y4 y5 y6 y7 y8 y9) (descantlaw19_PcmJoin.j0 (k + 1) y0 y1 y2 y3 y4 y5 y6 y7 y8 y9)) ∧ (∀ y0 y1 y2 y3, LeO (descantlaw19_PcmJoin.j1 k y0 y1 y2 y3) (descantlaw19_PcmJoin.j1 (k + 1) y0 y1 y2 y3)) ∧ (∀ y0 y1 y2 y3, LeO (descantlaw19_PcmJoin.l0 k y0 y1 y2 y3) (descantlaw19_PcmJoin.l0 (k + 1) y0 y1 y2 y3))
 | 0 => ⟨fun _ _ _ _ _ _ _ _ _ _ r h => by simp [descantlaw19_PcmJoin.j0] at h, fun _ _ _ _ r h => by simp [descantlaw19_PcmJoin.j1] at h, fun _ _ _ _ r h => by simp [descantlaw19_PcmJoin.l0] at h⟩
 | k + 1 => by
  obtain ⟨ih0, ih1, ih2⟩ := descantlaw19_PcmJoin.mono_l k
  refine ⟨?_, ?_, ?_⟩
  ·intro y0 y1 y2 y3 y4 y5 y6 y7 y8 y9
   unfold descantlaw19_PcmJoin.j0
   repeat' first
   | (with_reducible exact ih0 _ _ _ _ _ _ _ _ _ _)
   | (with_reducible exact ih1 _ _ _ _)
   | (with_reducible exact ih2 _ _ _ _)
   | (with_reducible exact descantlaw0_SameInts.mono _ _ _)
   | (with_reducible exact descantlaw19_awake.mono _)
   | (with_reducible exact pcm_Get.mono _ _ _ _)
   | (with_reducible exact LeO.refl _)
   | (with_reducible exact LeO.none _)
   | (with_reducible refine LeO.ite ?_ ?_)
   | (with_reducible refine LeO.bind ?_ (fun _ => ?_))
   | exact ih0 _ _ _ _ _ _ _ _ _ _
   | exact ih1 _ _ _ _
   | exact ih2 _ _ _ _
   | exact descantlaw0_SameInts.mono _ _ _
   | exact descantlaw19_awake.mono _
   | exact pcm_Get.mono _ _ _ _
   | exact LeO.none _
   | refine LeO.ite ?_ ?_
   | refine LeO.bind ?_ (fun _ => ?_)
  ·intro y0 y1 y2 y3
   unfold descantlaw19_PcmJoin.j1
   repeat' first
   | (with_reducible exact ih0 _ _ _ _ _ _ _ _ _ _)
   | (with_reducible exact ih1 _ _ _ _)
   | (with_reducible exact ih2 _ _ _ _)
   | (with_reducible exact descantlaw0_SameInts.mono _ _ _)
   | (with_reducible exact descantlaw19_awake.mono _)
   | (with_reducible exact pcm_Get.mono _ _ _ _)
   | (with_reducible exact LeO.refl _)
   | (with_reducible exact LeO.none _)
   | (with_reducible refine LeO.ite ?_ ?_)
   | (with_reducible refine LeO.bind ?_ (fun _ => ?_))
   | exact ih0 _ _ _ _ _ _ _ _ _ _
   | exact ih1 _ _ _ _
   | exact ih2 _ _ _ _
   | exact descantlaw0_SameInts.mono _ _ _
   | exact descantlaw19_awake.mono _
   | exact pcm_Get.mono _ _ _ _
   | exact LeO.none _
   | refine LeO.ite ?_ ?_
   | refine LeO.bind ?_ (fun _ => ?_)
  ·intro y0 y1 y2 y3
   unfold descantlaw19_PcmJoin.l0
   repeat' first
   | (with_reducible exact ih0 _ _ _ _ _ _ _ _ _ _)
   | (with_reducible exact ih1 _ _ _ _)
   | (with_reducible exact ih2 _ _ _ _)
   | (with_reducible exact descantlaw0_SameInts.mono _ _ _)
   | (with_reducible exact descantlaw19_awake.mono _)
   | (with_reducible exact pcm_Get.mono _ _ _ _)
   | (with_reducible exact LeO.refl _)
   | (with_reducible exact LeO.none _)
   | (with_reducible refine LeO.ite ?_ ?_)
   | (with_reducible refine LeO.bind ?_ (fun _ => ?_))
   | exact ih0 _ _ _ _ _ _ _ _ _ _
   | exact ih1 _ _ _ _
   | exact ih2 _ _ _ _
   | exact descantlaw0_SameInts.mono _ _ _
   | exact descantlaw19_awake.mono _
   | exact pcm_Get.mono _ _ _ _
   | exact LeO.none _
   | refine LeO.ite ?_ ?_
   | refine LeO.bind ?_ (fun _ => ?_)
theorem descantlaw19_PcmJoin.mono : ∀ a0 a1 a2 a3 k, LeO (descantlaw19_PcmJoin.f k a0 a1 a2 a3) (descantlaw19_PcmJoin.f (k + 1) a0 a1 a2 a3) := by
 intro a0 a1 a2 a3 k
 obtain ⟨ih0, ih1, ih2⟩ := descantlaw19_PcmJoin.mono_l k
 unfold descantlaw19_PcmJoin.f
 repeat' first
   | (with_reducible exact ih0 _ _ _ _ _ _ _ _ _ _)
   | (with_reducible exact ih1 _ _ _ _)
   | (with_reducible exact ih2 _ _ _ _)
   | (with_reducible exact descantlaw0_SameInts.mono _ _ _)
   | (with_reducible exact descantlaw19_awake.mono _)
   | (with_reducible exact pcm_Get.mono _ _ _ _)
   | (with_reducible exact LeO.refl _)
   | (with_reducible exact LeO.none _)
   | (with_reducible refine LeO.ite ?_ ?_)
   | (with_reducible refine LeO.bind ?_ (fun _ => ?_))
   | exact ih0 _ _ _ _ _ _ _ _ _ _
   | exact ih1 _ _ _ _
   | exact ih2 _ _ _ _
   | exact descantlaw0_SameInts.mono _ _ _
   | exact descantlaw19_awake.mono _
   | exact pcm_Get.mono _ _ _ _
   | exact LeO.none _
   | refine LeO.ite ?_ ?_
   | refine LeO.bind ?_ (fun _ => ?_)
set_option maxHeartbeats 8000000 in
set_option maxRecDepth 100000 in
theorem descantlaw19_PcmJoin.calls (k : Nat) (a0 : ByteArray) (a1 : ByteArray) (a2_0 : Int) (a2_1 : Int) (r : Bool) (w : World) (h : descantlaw19_PcmJoin.f k a0 a1 a2_0 a2_1 = some r) :
  Calls Try.prog 6 #[.string a0, .string a1, .agg #[.int .i64 a2_0, .int .i64 a2_1]] w fun e w' => e = .returned (.bool r) ∧ Below w.heap.size w w' := by
 have hu24 := Try.underlying24
 have HB := Aside0.mk (Below.refl w.heap.size w)
 have H : ((descantlaw19_awake.f k).bind fun t381 => (if t381 = true then ((pcm_Get.f k a0 a2_0 a2_1).bind fun bt382 => ((pcm_Get.f k a1 a2_0 a2_1).bind fun bt386 => (if a0.size + a1.size ≤ 9223372036854775807 then ((pcm_Get.f k (a0 ++ a1) a2_0 a2_1).bind fun bt390 => ((descantlaw0_Num.f bt382.2).bind fun t394 => (if t394 = 0 then ((descantlaw0_Num.f bt386.2).bind fun t395 => (if t395 = 0 then ((descantlaw0_Num.f bt390.2).bind fun t396 => (descantlaw19_PcmJoin.j0 k a0 a1 bt382.1 bt382.2 bt386.1 bt386.2 bt390.1 (t396 != 0) a2_0 a2_1)) else (descantlaw19_PcmJoin.j0 k a0 a1 bt382.1 bt382.2 bt386.1 bt386.2 bt390.1 true a2_0 a2_1))) else (descantlaw19_PcmJoin.j0 k a0 a1 bt382.1 bt382.2 bt386.1 bt386.2 bt390.1 true a2_0 a2_1)))) else (none)))) else (none))) = some r := h
 clear h
 replace H := Option.bind_eq_some_iff.mp H
 obtain ⟨t381, A40, H⟩ := H
 replace H : (if t381 = true then ((pcm_Get.f k a0 a2_0 a2_1).bind fun bt382 => ((pcm_Get.f k a1 a2_0 a2_1).bind fun bt386 => (if a0.size + a1.size ≤ 9223372036854775807 then ((pcm_Get.f k (a0 ++ a1) a2_0 a2_1).bind fun bt390 => ((descantlaw0_Num.f bt382.2).bind fun t394 => (if t394 = 0 then ((descantlaw0_Num.f bt386.2).bind fun t395 => (if t395 = 0 then ((descantlaw0_Num.f bt390.2).bind fun t396 => (descantlaw19_PcmJoin.j0 k a0 a1 bt382.1 bt382.2 bt386.1 bt386.2 bt390.1 (t396 != 0) a2_0 a2_1)) else (descantlaw19_PcmJoin.j0 k a0 a1 bt382.1 bt382.2 bt386.1 bt386.2 bt390.1 true a2_0 a2_1))) else (descantlaw19_PcmJoin.j0 k a0 a1 bt382.1 bt382.2 bt386.1 bt386.2 bt390.1 true a2_0 a2_1)))) else (none)))) else (none)) = some r := H
 have A4 := Aside0.mk A40
 clear A40
 by_cases c5 : t381 = true
 ·subst c5
  have H1 : ((pcm_Get.f k a0 a2_0 a2_1).bind fun bt382 => ((pcm_Get.f k a1 a2_0 a2_1).bind fun bt386 => (if a0.size + a1.size ≤ 9223372036854775807 then ((pcm_Get.f k (a0 ++ a1) a2_0 a2_1).bind fun bt390 => ((descantlaw0_Num.f bt382.2).bind fun t394 => (if t394 = 0 then ((descantlaw0_Num.f bt386.2).bind fun t395 => (if t395 = 0 then ((descantlaw0_Num.f bt390.2).bind fun t396 => (descantlaw19_PcmJoin.j0 k a0 a1 bt382.1 bt382.2 bt386.1 bt386.2 bt390.1 (t396 != 0) a2_0 a2_1)) else (descantlaw19_PcmJoin.j0 k a0 a1 bt382.1 bt382.2 bt386.1 bt386.2 bt390.1 true a2_0 a2_1))) else (descantlaw19_PcmJoin.j0 k a0 a1 bt382.1 bt382.2 bt386.1 bt386.2 bt390.1 true a2_0 a2_1)))) else (none)))) = some r := by rw [if_pos rfl] at H; exact H
  clear H
  have H := H1
  clear H1
  replace H := Option.bind_eq_some_iff.mp H
  obtain ⟨⟨t382, t385⟩, A60, H⟩ := H
  replace H : ((pcm_Get.f k a1 a2_0 a2_1).bind fun bt386 => (if a0.size + a1.size ≤ 9223372036854775807 then ((pcm_Get.f k (a0 ++ a1) a2_0 a2_1).bind fun bt390 => ((descantlaw0_Num.f t385).bind fun t394 => (if t394 = 0 then ((descantlaw0_Num.f bt386.2).bind fun t395 => (if t395 = 0 then ((descantlaw0_Num.f bt390.2).bind fun t396 => (descantlaw19_PcmJoin.j0 k a0 a1 t382 t385 bt386.1 bt386.2 bt390.1 (t396 != 0) a2_0 a2_1)) else (descantlaw19_PcmJoin.j0 k a0 a1 t382 t385 bt386.1 bt386.2 bt390.1 true a2_0 a2_1))) else (descantlaw19_PcmJoin.j0 k a0 a1 t382 t385 bt386.1 bt386.2 bt390.1 true a2_0 a2_1)))) else (none))) = some r := H
  have A6 := Aside0.mk A60
  clear A60
  replace H := Option.bind_eq_some_iff.mp H
  obtain ⟨⟨t386, t389⟩, A70, H⟩ := H
  replace H : (if a0.size + a1.size ≤ 9223372036854775807 then ((pcm_Get.f k (a0 ++ a1) a2_0 a2_1).bind fun bt390 => ((descantlaw0_Num.f t385).bind fun t394 => (if t394 = 0 then ((descantlaw0_Num.f t389).bind fun t395 => (if t395 = 0 then ((descantlaw0_Num.f bt390.2).bind fun t396 => (descantlaw19_PcmJoin.j0 k a0 a1 t382 t385 t386 t389 bt390.1 (t396 != 0) a2_0 a2_1)) else (descantlaw19_PcmJoin.j0 k a0 a1 t382 t385 t386 t389 bt390.1 true a2_0 a2_1))) else (descantlaw19_PcmJoin.j0 k a0 a1 t382 t385 t386 t389 bt390.1 true a2_0 a2_1)))) else (none)) = some r := H
  have A7 := Aside0.mk A70
  clear A70
  by_cases c8 : a0.size + a1.size ≤ 9223372036854775807
  ·rw [if_pos c8] at H
   have c8b0 := eq_true c8
   have c8b1 : decide (a0.size + a1.size ≤ 9223372036854775807) = true := decide_eq_true c8
   try have c8b2 : (9223372036854775807 < a0.size + a1.size) = False := eq_false (Nat.not_lt.2 c8)
   replace H := Option.bind_eq_some_iff.mp H
   obtain ⟨⟨t390, t393⟩, A90, H⟩ := H
   replace H : ((descantlaw0_Num.f t385).bind fun t394 => (if t394 = 0 then ((descantlaw0_Num.f t389).bind fun t395 => (if t395 = 0 then ((descantlaw0_Num.f t393).bind fun t396 => (descantlaw19_PcmJoin.j0 k a0 a1 t382 t385 t386 t389 t390 (t396 != 0) a2_0 a2_1)) else (descantlaw19_PcmJoin.j0 k a0 a1 t382 t385 t386 t389 t390 true a2_0 a2_1))) else (descantlaw19_PcmJoin.j0 k a0 a1 t382 t385 t386 t389 t390 true a2_0 a2_1))) = some r := H
   have A9 := Aside0.mk A90
   clear A90
   have HC10 := Aside0.mk H
   clear H
   go_enter Try.func6, Try.ntmps6
   go_upto_region 6 with (first | ((with_reducible refine gate_dst (N := 5) rfl ?_); (try (refine gate_guard (by rfl) ?_; dsimp only)); refine box_event ?hg (N := 5) ?hd (cs := #[.int .i64 a2_0, .int .i64 a2_1]) (t := 24) ?hr ?_; (case hd => rfl); (case hg => rfl); (case hr => first | (go_simp; done) | (go_simp; rfl)); intro gb380 hg w11 hbox hb; have n0_ := Aside0.mk (below_step (by repeat (first | (with_reducible first | exact HB.out | apply below_alloc | apply pw_below_drewN | apply below_drew1) | exact HB.out)) hb); have n1_ := Aside0.mk (hbox); have n2_ := Aside0.mk ((by rw [hg]; exact (below_size (by repeat (first | (with_reducible first | exact HB.out | apply below_alloc | apply pw_below_drewN | apply below_drew1) | exact HB.out))) : w.heap.size ≤ gb380)); have n3_ := Aside0.mk ((by rw [hg]; exact (below_size (by repeat (first | (with_reducible first | exact HB.out | apply below_alloc | apply pw_below_drewN | apply below_drew1) | exact HB.out))) : w.heap.size ≤ gb380)); clear HB; have HB := n0_; have BK380 := n1_; have GW380 := n2_; have GE380 := n3_; clear n0_ n1_ n2_ n3_; clear hb hbox hg) | ((with_reducible refine gate_callee (f := 21) rfl ?_); refine goesL_ (some 15) rfl rfl Try.func21 (by kernel_rfl) rfl #[] rfl (by (try simp only [List.map_toArray, List.map_cons, List.map_nil]); first | done | rfl | (simp only [List.length_drop, List.length_take]; rfl)) ?_; (with_reducible refine (descantlaw19_awake.calls k  true _ A4.out).mono ?_); rintro e w12 ⟨rfl, hb⟩; refine ⟨_, rfl, ?_⟩; have n0_ := Aside0.mk (blk_below (g := gb380) (o := .cells #[.int .i64 a2_0, .int .i64 a2_1] 24 (0, 0)) (by (with_reducible repeat (first | refine blk_drewN ?_ _ | refine blk_drew ?_ | refine blk_alloc ?_ _)); exact BK380.out) hb); have n1_ := Aside0.mk (below_step (by repeat (first | (with_reducible first | exact HB.out | apply below_alloc | apply pw_below_drewN | apply below_drew1 | refine below_set ?_ GE380.out) | exact HB.out)) hb); clear BK380; clear HB; have BK380 := n0_; have HB := n1_; clear n0_ n1_; (try clear hb); (try clear hb2); (try clear hk); (try clear hi); have hcz13_0 : w12.cell? ⟨gb380, 0, none⟩ = some (.int .i64 a2_0) := (blk_cell BK380.out 0).trans rfl; have hcz13_1 : w12.cell? ⟨gb380, 1, none⟩ = some (.int .i64 a2_1) := (blk_cell BK380.out 1).trans rfl; have hfz13_0 := blk_frozen BK380.out 0; have hfz13_1 := blk_frozen BK380.out 1) | ((with_reducible refine gate_callee (f := 12) rfl ?_); refine goesL_ (some 20) rfl rfl Try.func12 (by kernel_rfl) rfl #[.string a0, .agg #[.int .i64 a2_0, .int .i64 a2_1]] rfl (by (try simp only [List.map_toArray, List.map_cons, List.map_nil]); first | done | rfl | (simp only [List.length_drop, List.length_take]; rfl)) ?_; (with_reducible refine (pcm_Get.calls k a0 a2_0 a2_1 t382 t385 _ A6.out).mono ?_); rintro e w14 ⟨v383, rfl, ho0, hb⟩; refine ⟨_, rfl, ?_⟩; have n0_ := Aside0.mk (Kd.S_lower ho0 (below_size (by repeat (first | (with_reducible first | exact HB.out | apply below_alloc | apply pw_below_drewN | apply below_drew1 | refine below_set ?_ GE380.out) | exact HB.out)))); have n1_ := Aside0.mk (blk_below (g := gb380) (o := .cells #[.int .i64 a2_0, .int .i64 a2_1] 24 (0, 0)) (by (with_reducible repeat (first | refine blk_drewN ?_ _ | refine blk_drew ?_ | refine blk_alloc ?_ _)); exact BK380.out) hb); have n2_ := Aside0.mk (below_step (by repeat (first | (with_reducible first | exact HB.out | apply below_alloc | apply pw_below_drewN | apply below_drew1 | refine below_set ?_ GE380.out) | exact HB.out)) hb); clear BK380; clear HB; have HO384 := n0_; have BK380 := n1_; have HB := n2_; clear n0_ n1_ n2_; (try clear hb); (try clear hb2); (try clear hk); (try clear hi); (try clear ho0); have hcz15_0 : w14.cell? ⟨gb380, 0, none⟩ = some (.int .i64 a2_0) := (blk_cell BK380.out 0).trans rfl; have hcz15_1 : w14.cell? ⟨gb380, 1, none⟩ = some (.int .i64 a2_1) := (blk_cell BK380.out 1).trans rfl; have hfz15_0 := blk_frozen BK380.out 0; have hfz15_1 := blk_frozen BK380.out 1) | ((with_reducible refine gate_callee (f := 12) rfl ?_); refine goesL_ (some 26) rfl rfl Try.func12 (by kernel_rfl) rfl #[.string a1, .agg #[.int .i64 a2_0, .int .i64 a2_1]] rfl (by (try simp only [List.map_toArray, List.map_cons, List.map_nil]); first | done | rfl | (simp only [List.length_drop, List.length_take]; rfl)) ?_; (with_reducible refine (pcm_Get.calls k a1 a2_0 a2_1 t386 t389 _ A7.out).mono ?_); rintro e w16 ⟨v387, rfl, ho0, hb⟩; refine ⟨_, rfl, ?_⟩; have n0_ := Aside0.mk (Kd.S_elder' (by (with_reducible repeat (first | apply Kd.S_alloc | apply Kd.S_drewN | apply Kd.S_drew)); exact HO384.out) (Kd.S_base ho0) hb); have n1_ := Aside0.mk (Kd.S_lower (Kd.S_new' ho0 (Kd.S_lt (by (with_reducible repeat (first | apply Kd.S_alloc | apply Kd.S_drewN | apply Kd.S_drew)); exact HO384.out))) (below_size (by repeat (first | (with_reducible first | exact HB.out | apply below_alloc | apply pw_below_drewN | apply below_drew1 | refine below_set ?_ GE380.out) | exact HB.out)))); have n2_ := Aside0.mk (blk_below (g := gb380) (o := .cells #[.int .i64 a2_0, .int .i64 a2_1] 24 (0, 0)) (by (with_reducible repeat (first | refine blk_drewN ?_ _ | refine blk_drew ?_ | refine blk_alloc ?_ _)); exact BK380.out) hb); have n3_ := Aside0.mk (below_step (by repeat (first | (with_reducible first | exact HB.out | apply below_alloc | apply pw_below_drewN | apply below_drew1 | refine below_set ?_ GE380.out) | exact HB.out)) hb); clear HO384; clear BK380; clear HB; have HO384 := n0_; have HO388 := n1_; have BK380 := n2_; have HB := n3_; clear n0_ n1_ n2_ n3_; (try clear hb); (try clear hb2); (try clear hk); (try clear hi); (try clear ho0); have hcz17_0 : w16.cell? ⟨gb380, 0, none⟩ = some (.int .i64 a2_0) := (blk_cell BK380.out 0).trans rfl; have hcz17_1 : w16.cell? ⟨gb380, 1, none⟩ = some (.int .i64 a2_1) := (blk_cell BK380.out 1).trans rfl; have hfz17_0 := blk_frozen BK380.out 0; have hfz17_1 := blk_frozen BK380.out 1) | ((with_reducible refine gate_callee (f := 12) rfl ?_); refine goesL_ (some 34) rfl rfl Try.func12 (by kernel_rfl) rfl #[.string (a0 ++ a1), .agg #[.int .i64 a2_0, .int .i64 a2_1]] rfl (by (try simp only [List.map_toArray, List.map_cons, List.map_nil]); first | done | rfl | (simp only [List.length_drop, List.length_take]; rfl)) ?_; (with_reducible refine (pcm_Get.calls k (a0 ++ a1) a2_0 a2_1 t390 t393 _ A9.out).mono ?_); rintro e w18 ⟨v391, rfl, ho0, hb⟩; refine ⟨_, rfl, ?_⟩; have n0_ := Aside0.mk (Kd.S_elder' (by (with_reducible repeat (first | apply Kd.S_alloc | apply Kd.S_drewN | apply Kd.S_drew)); exact HO384.out) (Kd.S_base ho0) hb); have n1_ := Aside0.mk (Kd.S_elder' (by (with_reducible repeat (first | apply Kd.S_alloc | apply Kd.S_drewN | apply Kd.S_drew)); exact HO388.out) (Kd.S_base ho0) hb); have n2_ := Aside0.mk (Kd.S_lower (Kd.S_new' (Kd.S_new' ho0 (Kd.S_lt (by (with_reducible repeat (first | apply Kd.S_alloc | apply Kd.S_drewN | apply Kd.S_drew)); exact HO384.out))) (Kd.S_lt (by (with_reducible repeat (first | apply Kd.S_alloc | apply Kd.S_drewN | apply Kd.S_drew)); exact HO388.out))) (below_size (by repeat (first | (with_reducible first | exact HB.out | apply below_alloc | apply pw_below_drewN | apply below_drew1 | refine below_set ?_ GE380.out) | exact HB.out)))); have n3_ := Aside0.mk (blk_below (g := gb380) (o := .cells #[.int .i64 a2_0, .int .i64 a2_1] 24 (0, 0)) (by (with_reducible repeat (first | refine blk_drewN ?_ _ | refine blk_drew ?_ | refine blk_alloc ?_ _)); exact BK380.out) hb); have n4_ := Aside0.mk (below_step (by repeat (first | (with_reducible first | exact HB.out | apply below_alloc | apply pw_below_drewN | apply below_drew1 | refine below_set ?_ GE380.out) | exact HB.out)) hb); clear HO384; clear HO388; clear BK380; clear HB; have HO384 := n0_; have HO388 := n1_; have HO392 := n2_; have BK380 := n3_; have HB := n4_; clear n0_ n1_ n2_ n3_ n4_; (try clear hb); (try clear hb2); (try clear hk); (try clear hi); (try clear ho0)))
   (try simp only [Act.put, List.setIfInBounds_toArray, List.set_cons_zero, List.set_cons_succ])
   go_cut [49] (fun v49 wc => ∃ (kq : Nat) (x49_9 : Bool), v49 = .bool x49_9 ∧ Aside0 (descantlaw19_PcmJoin.j0 kq a0 a1 t382 t385 t386 t389 t390 x49_9 a2_0 a2_1 = some r) ∧ Aside0 (kq ≤ k) ∧ Aside0 (Kd.S (Kd.slice 3 (Kd.int .i64)) 44 wc w.heap.size (fun k_ => some k_ ≠ (v387 : Value).ownBlock ∧ some k_ ≠ (v391 : Value).ownBlock) v383 t382) ∧ Aside0 (Kd.S (Kd.slice 3 (Kd.int .i64)) 44 wc w.heap.size (fun k_ => some k_ ≠ (v383 : Value).ownBlock ∧ some k_ ≠ (v391 : Value).ownBlock) v387 t386) ∧ Aside0 (Kd.S (Kd.slice 3 (Kd.int .i64)) 44 wc w.heap.size (fun k_ => some k_ ≠ (v383 : Value).ownBlock ∧ some k_ ≠ (v387 : Value).ownBlock) v391 t390) ∧ Aside0 (wc.heap[gb380]? = some (.cells #[.int .i64 a2_0, .int .i64 a2_1] 24 (0, 0))) ∧ Aside0 (Below w.heap.size w wc))
   case first =>
    have H := HC10.out
    clear HC10
    replace H := Option.bind_eq_some_iff.mp H
    obtain ⟨t394, A190, H⟩ := H
    replace H : (if t394 = 0 then ((descantlaw0_Num.f t389).bind fun t395 => (if t395 = 0 then ((descantlaw0_Num.f t393).bind fun t396 => (descantlaw19_PcmJoin.j0 k a0 a1 t382 t385 t386 t389 t390 (t396 != 0) a2_0 a2_1)) else (descantlaw19_PcmJoin.j0 k a0 a1 t382 t385 t386 t389 t390 true a2_0 a2_1))) else (descantlaw19_PcmJoin.j0 k a0 a1 t382 t385 t386 t389 t390 true a2_0 a2_1)) = some r := H
    have A19 := Aside0.mk A190
    clear A190
    by_cases c20 : t394 = 0
    ·rw [if_pos c20] at H
     have c20b0 : (t394 == 0) = true := beq_iff_eq.mpr c20
     have c20b1 : (t394 != 0) = false := bne_eq_false_iff_eq.mpr c20
     clear c20
     (first | rw [c20b0] | (simp only [i64_w, i32_w]; rw [c20b0]) | skip)
     replace H := Option.bind_eq_some_iff.mp H
     obtain ⟨t395, A210, H⟩ := H
     replace H : (if t395 = 0 then ((descantlaw0_Num.f t393).bind fun t396 => (descantlaw19_PcmJoin.j0 k a0 a1 t382 t385 t386 t389 t390 (t396 != 0) a2_0 a2_1)) else (descantlaw19_PcmJoin.j0 k a0 a1 t382 t385 t386 t389 t390 true a2_0 a2_1)) = some r := H
     have A21 := Aside0.mk A210
     clear A210
     by_cases c22 : t395 = 0
     ·rw [if_pos c22] at H
      have c22b0 : (t395 == 0) = true := beq_iff_eq.mpr c22
      have c22b1 : (t395 != 0) = false := bne_eq_false_iff_eq.mpr c22
      clear c22
      replace H := Option.bind_eq_some_iff.mp H
      obtain ⟨t396, A230, H⟩ := H
      replace H : (descantlaw19_PcmJoin.j0 k a0 a1 t382 t385 t386 t389 t390 (t396 != 0) a2_0 a2_1) = some r := H
      have A23 := Aside0.mk A230
      clear A230
      have H' := Aside0.mk H
      clear H
      go_wp2_with (first | ((with_reducible refine gate_callee (f := 17) rfl ?_); refine goesL_ (some 38) rfl rfl Try.func17 (by kernel_rfl) rfl #[.int .i64 t385] rfl (by (try simp only [List.map_toArray, List.map_cons, List.map_nil]); first | done | rfl | (simp only [List.length_drop, List.length_take]; rfl)) ?_; (with_reducible refine (descantlaw0_Num.calls t385 t394 _ A19.out).mono ?_); rintro e w' ⟨rfl, ⟨nd, rfl⟩⟩; refine ⟨_, rfl, ?_⟩) | (go_at_call 17; (with_reducible refine (descantlaw0_Num.calls t389 t395 _ A21.out).mono ?_); rintro e w' ⟨rfl, ⟨nd, rfl⟩⟩) | (go_at_call 17; (with_reducible refine (descantlaw0_Num.calls t393 t396 _ A23.out).mono ?_); rintro e w' ⟨rfl, ⟨nd, rfl⟩⟩))
      go_meet
      case rel => exact ⟨_, ((t396 != 0)), (by first | rfl | (simp; done) | (simp [*]; done)), H', ⟨by first | omega | exact Nat.le_refl _⟩, ⟨by (with_reducible repeat (first | apply Kd.S_alloc | apply Kd.S_drewN | apply Kd.S_drew)); exact Kd.S_mono HO384.out (fun _ hk => ⟨hk.1.2, hk.2⟩)⟩, ⟨by (with_reducible repeat (first | apply Kd.S_alloc | apply Kd.S_drewN | apply Kd.S_drew)); exact Kd.S_mono HO388.out (fun _ hk => ⟨hk.1.2, hk.2⟩)⟩, ⟨by (with_reducible repeat (first | apply Kd.S_alloc | apply Kd.S_drewN | apply Kd.S_drew)); exact Kd.S_mono HO392.out (fun _ hk => ⟨hk.1.2, hk.2⟩)⟩, ⟨by (with_reducible repeat (first | refine blk_drewN ?_ _ | refine blk_drew ?_ | refine blk_alloc ?_ _)); exact BK380.out⟩, ⟨by repeat (first | (with_reducible first | exact HB.out | apply below_alloc | apply pw_below_drewN | apply below_drew1 | refine below_set ?_ GE380.out) | exact HB.out)⟩⟩
     ·rw [if_neg c22] at H
      have c22b0 : (t395 == 0) = false := beq_eq_false_iff_ne.mpr c22
      have c22b1 : (t395 != 0) = true := bne_iff_ne.mpr c22
      have H' := Aside0.mk H
      clear H
      go_wp2_with (first | ((with_reducible refine gate_callee (f := 17) rfl ?_); refine goesL_ (some 38) rfl rfl Try.func17 (by kernel_rfl) rfl #[.int .i64 t385] rfl (by (try simp only [List.map_toArray, List.map_cons, List.map_nil]); first | done | rfl | (simp only [List.length_drop, List.length_take]; rfl)) ?_; (with_reducible refine (descantlaw0_Num.calls t385 t394 _ A19.out).mono ?_); rintro e w' ⟨rfl, ⟨nd, rfl⟩⟩; refine ⟨_, rfl, ?_⟩) | (go_at_call 17; (with_reducible refine (descantlaw0_Num.calls t389 t395 _ A21.out).mono ?_); rintro e w' ⟨rfl, ⟨nd, rfl⟩⟩))
      go_meet
      case rel => exact ⟨_, (true), (by first | rfl | (simp; done) | (simp [*]; done)), H', ⟨by first | omega | exact Nat.le_refl _⟩, ⟨by (with_reducible repeat (first | apply Kd.S_alloc | apply Kd.S_drewN | apply Kd.S_drew)); exact Kd.S_mono HO384.out (fun _ hk => ⟨hk.1.2, hk.2⟩)⟩, ⟨by (with_reducible repeat (first | apply Kd.S_alloc | apply Kd.S_drewN | apply Kd.S_drew)); exact Kd.S_mono HO388.out (fun _ hk => ⟨hk.1.2, hk.2⟩)⟩, ⟨by (with_reducible repeat (first | apply Kd.S_alloc | apply Kd.S_drewN | apply Kd.S_drew)); exact Kd.S_mono HO392.out (fun _ hk => ⟨hk.1.2, hk.2⟩)⟩, ⟨by (with_reducible repeat (first | refine blk_drewN ?_ _ | refine blk_drew ?_ | refine blk_alloc ?_ _)); exact BK380.out⟩, ⟨by repeat (first | (with_reducible first | exact HB.out | apply below_alloc | apply pw_below_drewN | apply below_drew1 | refine below_set ?_ GE380.out) | exact HB.out)⟩⟩
    ·rw [if_neg c20] at H
     have c20b0 : (t394 == 0) = false := beq_eq_false_iff_ne.mpr c20
     have c20b1 : (t394 != 0) = true := bne_iff_ne.mpr c20
     (first | rw [c20b0] | (simp only [i64_w, i32_w]; rw [c20b0]) | skip)
     have H' := Aside0.mk H
     clear H
     go_wp2_with (first | ((with_reducible refine gate_callee (f := 17) rfl ?_); refine goesL_ (some 38) rfl rfl Try.func17 (by kernel_rfl) rfl #[.int .i64 t385] rfl (by (try simp only [List.map_toArray, List.map_cons, List.map_nil]); first | done | rfl | (simp only [List.length_drop, List.length_take]; rfl)) ?_; (with_reducible refine (descantlaw0_Num.calls t385 t394 _ A19.out).mono ?_); rintro e w' ⟨rfl, ⟨nd, rfl⟩⟩; refine ⟨_, rfl, ?_⟩))
     go_meet
     case rel => exact ⟨_, (true), (by first | rfl | (simp; done) | (simp [*]; done)), H', ⟨by first | omega | exact Nat.le_refl _⟩, ⟨by (with_reducible repeat (first | apply Kd.S_alloc | apply Kd.S_drewN | apply Kd.S_drew)); exact Kd.S_mono HO384.out (fun _ hk => ⟨hk.1.2, hk.2⟩)⟩, ⟨by (with_reducible repeat (first | apply Kd.S_alloc | apply Kd.S_drewN | apply Kd.S_drew)); exact Kd.S_mono HO388.out (fun _ hk => ⟨hk.1.2, hk.2⟩)⟩, ⟨by (with_reducible repeat (first | apply Kd.S_alloc | apply Kd.S_drewN | apply Kd.S_drew)); exact Kd.S_mono HO392.out (fun _ hk => ⟨hk.1.2, hk.2⟩)⟩, ⟨by (with_reducible repeat (first | refine blk_drewN ?_ _ | refine blk_drew ?_ | refine blk_alloc ?_ _)); exact BK380.out⟩, ⟨by repeat (first | (with_reducible first | exact HB.out | apply below_alloc | apply pw_below_drewN | apply below_drew1 | refine below_set ?_ GE380.out) | exact HB.out)⟩⟩
   case rest =>
    clear HC10
    try clear c1
    try clear c2
    try clear p2
    try clear c5
    try clear c6
    try clear c8
    try clear c8b0
    try clear c8b1
    try clear c8b2
    try clear c12
    try clear c17
    try clear c20
    try clear c20b0
    try clear c20b1
    try clear c21
    try clear c22
    try clear c22b0
    try clear c22b1
    try clear hcz13_0
    try clear hcz13_1
    try clear hcz15_0
    try clear hcz15_1
    try clear hcz17_0
    try clear hcz17_1
    try clear hfz13_0
    try clear hfz13_1
    try clear hfz15_0
    try clear hfz15_1
    try clear hfz17_0
    try clear hfz17_1
    obtain ⟨kq, x49_9, rfl, HA, HJ9, HO_7, HO_9, HO_11, BK380, HB⟩ := hcut
    cases kq with
    | zero => exact absurd HA.out (by simp [descantlaw19_PcmJoin.j0])
    | succ kj9 =>
     have H := HA.out
     clear HA
     simp only [descantlaw19_PcmJoin.j0] at H
     by_cases c24 : x49_9 = true
     ·subst c24
      have H1 : ((descantlaw0_Num.f t385).bind fun t397 => (if t397 = 0 then ((descantlaw0_Num.f t389).bind fun t398 => (if t398 = 0 then (some (decide ((wrap64 ((a0.size : Int) + (a1.size : Int))) > 4096))) else (some true))) else (some true))) = some r := by rw [if_pos rfl] at H; exact H
      clear H
      have H := H1
      clear H1
      replace H := Option.bind_eq_some_iff.mp H
      obtain ⟨t397, A250, H⟩ := H
      replace H : (if t397 = 0 then ((descantlaw0_Num.f t389).bind fun t398 => (if t398 = 0 then (some (decide ((wrap64 ((a0.size : Int) + (a1.size : Int))) > 4096))) else (some true))) else (some true)) = some r := H
      have A25 := Aside0.mk A250
      clear A250
      by_cases c26 : t397 = 0
      ·rw [if_pos c26] at H
       have c26b0 : (t397 == 0) = true := beq_iff_eq.mpr c26
       have c26b1 : (t397 != 0) = false := bne_eq_false_iff_eq.mpr c26
       clear c26
       replace H := Option.bind_eq_some_iff.mp H
       obtain ⟨t398, A270, H⟩ := H
       replace H : (if t398 = 0 then (some (decide ((wrap64 ((a0.size : Int) + (a1.size : Int))) > 4096))) else (some true)) = some r := H
       have A27 := Aside0.mk A270
       clear A270
       by_cases c28 : t398 = 0
       ·rw [if_pos c28] at H
        have c28b0 : (t398 == 0) = true := beq_iff_eq.mpr c28
        have c28b1 : (t398 != 0) = false := bne_eq_false_iff_eq.mpr c28
        clear c28
        obtain rfl := Option.some.inj H
        go_wp2_with (first | ((with_reducible refine gate_callee (f := 17) rfl ?_); refine goesL_ (some 51) rfl rfl Try.func17 (by kernel_rfl) rfl #[.int .i64 t385] rfl (by (try simp only [List.map_toArray, List.map_cons, List.map_nil]); first | done | rfl | (simp only [List.length_drop, List.length_take]; rfl)) ?_; (with_reducible refine (descantlaw0_Num.calls t385 t397 _ A25.out).mono ?_); rintro e w' ⟨rfl, ⟨nd, rfl⟩⟩; refine ⟨_, rfl, ?_⟩) | (go_at_call 17; (with_reducible refine (descantlaw0_Num.calls t389 t398 _ A27.out).mono ?_); rintro e w' ⟨rfl, ⟨nd, rfl⟩⟩))
        go_ret
        exact ⟨by first | rfl | (simp [errW_none, errW_some] <;> rfl) | (simp [*, errW_none, errW_some] <;> rfl), by repeat (first | (with_reducible first | exact HB.out | apply below_alloc | apply pw_below_drewN | apply below_drew1 | refine below_set ?_ GE380.out) | exact HB.out)⟩
       ·rw [if_neg c28] at H
        have c28b0 : (t398 == 0) = false := beq_eq_false_iff_ne.mpr c28
        have c28b1 : (t398 != 0) = true := bne_iff_ne.mpr c28
        obtain rfl := Option.some.inj H
        go_wp2_with (first | ((with_reducible refine gate_callee (f := 17) rfl ?_); refine goesL_ (some 51) rfl rfl Try.func17 (by kernel_rfl) rfl #[.int .i64 t385] rfl (by (try simp only [List.map_toArray, List.map_cons, List.map_nil]); first | done | rfl | (simp only [List.length_drop, List.length_take]; rfl)) ?_; (with_reducible refine (descantlaw0_Num.calls t385 t397 _ A25.out).mono ?_); rintro e w' ⟨rfl, ⟨nd, rfl⟩⟩; refine ⟨_, rfl, ?_⟩) | (go_at_call 17; (with_reducible refine (descantlaw0_Num.calls t389 t398 _ A27.out).mono ?_); rintro e w' ⟨rfl, ⟨nd, rfl⟩⟩))
        go_ret
        exact ⟨by first | rfl | (simp [errW_none, errW_some] <;> rfl) | (simp [*, errW_none, errW_some] <;> rfl), by repeat (first | (with_reducible first | exact HB.out | apply below_alloc | apply pw_below_drewN | apply below_drew1 | refine below_set ?_ GE380.out) | exact HB.out)⟩
      ·rw [if_neg c26] at H
       have c26b0 : (t397 == 0) = false := beq_eq_false_iff_ne.mpr c26
       have c26b1 : (t397 != 0) = true := bne_iff_ne.mpr c26
       obtain rfl := Option.some.inj H
       go_wp2_with (first | ((with_reducible refine gate_callee (f := 17) rfl ?_); refine goesL_ (some 51) rfl rfl Try.func17 (by kernel_rfl) rfl #[.int .i64 t385] rfl (by (try simp only [List.map_toArray, List.map_cons, List.map_nil]); first | done | rfl | (simp only [List.length_drop, List.length_take]; rfl)) ?_; (with_reducible refine (descantlaw0_Num.calls t385 t397 _ A25.out).mono ?_); rintro e w' ⟨rfl, ⟨nd, rfl⟩⟩; refine ⟨_, rfl, ?_⟩))
       go_ret
       exact ⟨by first | rfl | (simp [errW_none, errW_some] <;> rfl) | (simp [*, errW_none, errW_some] <;> rfl), by repeat (first | (with_reducible first | exact HB.out | apply below_alloc | apply pw_below_drewN | apply below_drew1 | refine below_set ?_ GE380.out) | exact HB.out)⟩
     ·replace c24 := Bool.eq_false_iff.mpr c24
      subst c24
      have H1 : (if (t382.length : Int) = (t390.length : Int) then (if (t386.length : Int) = (t390.length : Int) then ((descantref13_FormatMay.f a2_0 a2_1).bind fun t399 => (descantlaw19_PcmJoin.j1 kj9 t382 t386 t390 (!t399))) else (descantlaw19_PcmJoin.j1 kj9 t382 t386 t390 true)) else (descantlaw19_PcmJoin.j1 kj9 t382 t386 t390 true)) = some r := by rw [if_neg (show ¬ (false = true) by decide)] at H; exact H
      clear H
      have H := H1
      clear H1
      have HC29 := Aside0.mk H
      clear H
      go_upto_region 8 with (fail)
      go_cut [82] (fun v82 wc => ∃ (kq : Nat) (x82_28 : Bool), v82 = .bool x82_28 ∧ Aside0 (descantlaw19_PcmJoin.j1 kq t382 t386 t390 x82_28 = some r) ∧ Aside0 (kq ≤ kj9) ∧ Aside0 (Kd.S (Kd.slice 3 (Kd.int .i64)) 44 wc w.heap.size (fun k_ => some k_ ≠ (v387 : Value).ownBlock ∧ some k_ ≠ (v391 : Value).ownBlock) v383 t382) ∧ Aside0 (Kd.S (Kd.slice 3 (Kd.int .i64)) 44 wc w.heap.size (fun k_ => some k_ ≠ (v383 : Value).ownBlock ∧ some k_ ≠ (v391 : Value).ownBlock) v387 t386) ∧ Aside0 (Kd.S (Kd.slice 3 (Kd.int .i64)) 44 wc w.heap.size (fun k_ => some k_ ≠ (v383 : Value).ownBlock ∧ some k_ ≠ (v387 : Value).ownBlock) v391 t390) ∧ Aside0 (wc.heap[gb380]? = some (.cells #[.int .i64 a2_0, .int .i64 a2_1] 24 (0, 0))) ∧ Aside0 (Below w.heap.size w wc))
      case first =>
       have H := HC29.out
       clear HC29
       by_cases c30 : (t382.length : Int) = (t390.length : Int)
       ·rw [if_pos c30] at H
        have c30b0 : ((t382.length : Int) == (t390.length : Int)) = true := beq_iff_eq.mpr c30
        have c30b1 : ((t382.length : Int) != (t390.length : Int)) = false := bne_eq_false_iff_eq.mpr c30
        have c30b2 : (t382.length == t390.length) = true := by first | simpa using c30 | (simp at c30 ⊢; omega)
        clear c30
        (first | rw [c30b0] | (simp only [i64_w, i32_w]; rw [c30b0]) | skip)
        by_cases c31 : (t386.length : Int) = (t390.length : Int)
        ·rw [if_pos c31] at H
         have c31b0 : ((t386.length : Int) == (t390.length : Int)) = true := beq_iff_eq.mpr c31
         have c31b1 : ((t386.length : Int) != (t390.length : Int)) = false := bne_eq_false_iff_eq.mpr c31
         have c31b2 : (t386.length == t390.length) = true := by first | simpa using c31 | (simp at c31 ⊢; omega)
         clear c31
         replace H := Option.bind_eq_some_iff.mp H
         obtain ⟨t399, A320, H⟩ := H
         replace H : (descantlaw19_PcmJoin.j1 kj9 t382 t386 t390 (!t399)) = some r := H
         have A32 := Aside0.mk A320
         clear A320
         have H' := Aside0.mk H
         clear H
         obtain ⟨Ao33, co33, eo33⟩ := Kd.S_slice HO_7.out
         subst eo33
         obtain ⟨Ao34, co34, eo34⟩ := Kd.S_slice HO_11.out
         subst eo34
         obtain ⟨Ao35, co35, eo35⟩ := Kd.S_slice HO_9.out
         subst eo35
         have hcz36_0 : wc.cell? ⟨gb380, 0, none⟩ = some (.int .i64 a2_0) := (blk_cell BK380.out 0).trans rfl
         have hcz36_1 : wc.cell? ⟨gb380, 1, none⟩ = some (.int .i64 a2_1) := (blk_cell BK380.out 1).trans rfl
         have hfz36_0 := blk_frozen BK380.out 0
         have hfz36_1 := blk_frozen BK380.out 1
         go_wp2_with (first | (go_at_call 19; (with_reducible refine (descantref13_FormatMay.calls a2_0 a2_1 t399 _ A32.out).mono ?_); rintro e w37 ⟨rfl, hb⟩; have n0_ := Aside0.mk (Kd.S_below (by (with_reducible repeat (first | apply Kd.S_alloc | apply Kd.S_drewN | apply Kd.S_drew)); exact HO_7.out) hb); have n1_ := Aside0.mk (Kd.S_below (by (with_reducible repeat (first | apply Kd.S_alloc | apply Kd.S_drewN | apply Kd.S_drew)); exact HO_9.out) hb); have n2_ := Aside0.mk (Kd.S_below (by (with_reducible repeat (first | apply Kd.S_alloc | apply Kd.S_drewN | apply Kd.S_drew)); exact HO_11.out) hb); have n3_ := Aside0.mk (blk_below (g := gb380) (o := .cells #[.int .i64 a2_0, .int .i64 a2_1] 24 (0, 0)) (by (with_reducible repeat (first | refine blk_drewN ?_ _ | refine blk_drew ?_ | refine blk_alloc ?_ _)); exact BK380.out) hb); have n4_ := Aside0.mk (below_step (by repeat (first | (with_reducible first | exact HB.out | apply below_alloc | apply pw_below_drewN | apply below_drew1 | refine below_set ?_ GE380.out) | exact HB.out)) hb); clear HO_7; clear HO_9; clear HO_11; clear BK380; clear HB; have HO_7 := n0_; have HO_9 := n1_; have HO_11 := n2_; have BK380 := n3_; have HB := n4_; clear n0_ n1_ n2_ n3_ n4_; (try clear hb); (try clear hb2); (try clear hk); (try clear hi)))
         go_meet
         case rel => exact ⟨_, (!t399), (by first | rfl | (simp; done) | (simp [*]; done)), H', ⟨by have := HJ9.out; first | omega | exact Nat.le_refl _⟩, ⟨by (with_reducible repeat (first | apply Kd.S_alloc | apply Kd.S_drewN | apply Kd.S_drew)); exact HO_7.out⟩, ⟨by (with_reducible repeat (first | apply Kd.S_alloc | apply Kd.S_drewN | apply Kd.S_drew)); exact HO_9.out⟩, ⟨by (with_reducible repeat (first | apply Kd.S_alloc | apply Kd.S_drewN | apply Kd.S_drew)); exact HO_11.out⟩, ⟨by (with_reducible repeat (first | refine blk_drewN ?_ _ | refine blk_drew ?_ | refine blk_alloc ?_ _)); exact BK380.out⟩, ⟨by repeat (first | (with_reducible first | exact HB.out | apply below_alloc | apply pw_below_drewN | apply below_drew1 | refine below_set ?_ GE380.out) | exact HB.out)⟩⟩
        ·rw [if_neg c31] at H
         have c31b0 : ((t386.length : Int) == (t390.length : Int)) = false := beq_eq_false_iff_ne.mpr c31
         have c31b1 : ((t386.length : Int) != (t390.length : Int)) = true := bne_iff_ne.mpr c31
         have c31b2 : (t386.length == t390.length) = false := by first | simpa using c31 | (simp at c31 ⊢; omega)
         have H' := Aside0.mk H
         clear H
         obtain ⟨Ao38, co38, eo38⟩ := Kd.S_slice HO_7.out
         subst eo38
         obtain ⟨Ao39, co39, eo39⟩ := Kd.S_slice HO_11.out
         subst eo39
         obtain ⟨Ao40, co40, eo40⟩ := Kd.S_slice HO_9.out
         subst eo40
         go_wp2
         go_meet
         case rel => exact ⟨_, (true), (by first | rfl | (simp; done) | (simp [*]; done)), H', ⟨by have := HJ9.out; first | omega | exact Nat.le_refl _⟩, ⟨by (with_reducible repeat (first | apply Kd.S_alloc | apply Kd.S_drewN | apply Kd.S_drew)); exact HO_7.out⟩, ⟨by (with_reducible repeat (first | apply Kd.S_alloc | apply Kd.S_drewN | apply Kd.S_drew)); exact HO_9.out⟩, ⟨by (with_reducible repeat (first | apply Kd.S_alloc | apply Kd.S_drewN | apply Kd.S_drew)); exact HO_11.out⟩, ⟨by (with_reducible repeat (first | refine blk_drewN ?_ _ | refine blk_drew ?_ | refine blk_alloc ?_ _)); exact BK380.out⟩, ⟨by repeat (first | (with_reducible first | exact HB.out | apply below_alloc | apply pw_below_drewN | apply below_drew1 | refine below_set ?_ GE380.out) | exact HB.out)⟩⟩
       ·rw [if_neg c30] at H
        have c30b0 : ((t382.length : Int) == (t390.length : Int)) = false := beq_eq_false_iff_ne.mpr c30
        have c30b1 : ((t382.length : Int) != (t390.length : Int)) = true := bne_iff_ne.mpr c30
        have c30b2 : (t382.length == t390.length) = false := by first | simpa using c30 | (simp at c30 ⊢; omega)
        (first | rw [c30b0] | (simp only [i64_w, i32_w]; rw [c30b0]) | skip)
        have H' := Aside0.mk H
        clear H
        obtain ⟨Ao41, co41, eo41⟩ := Kd.S_slice HO_7.out
        subst eo41
        obtain ⟨Ao42, co42, eo42⟩ := Kd.S_slice HO_11.out
        subst eo42
        go_wp2
        go_meet
        case rel => exact ⟨_, (true), (by first | rfl | (simp; done) | (simp [*]; done)), H', ⟨by have := HJ9.out; first | omega | exact Nat.le_refl _⟩, ⟨by (with_reducible repeat (first | apply Kd.S_alloc | apply Kd.S_drewN | apply Kd.S_drew)); exact HO_7.out⟩, ⟨by (with_reducible repeat (first | apply Kd.S_alloc | apply Kd.S_drewN | apply Kd.S_drew)); exact HO_9.out⟩, ⟨by (with_reducible repeat (first | apply Kd.S_alloc | apply Kd.S_drewN | apply Kd.S_drew)); exact HO_11.out⟩, ⟨by (with_reducible repeat (first | refine blk_drewN ?_ _ | refine blk_drew ?_ | refine blk_alloc ?_ _)); exact BK380.out⟩, ⟨by repeat (first | (with_reducible first | exact HB.out | apply below_alloc | apply pw_below_drewN | apply below_drew1 | refine below_set ?_ GE380.out) | exact HB.out)⟩⟩
      case rest =>
       clear HC29
       try clear c1
       try clear c2
       try clear p2
       try clear c3
       try clear c5
       try clear c6
       try clear p6
       try clear c8
       try clear c8b0
       try clear c8b1
       try clear c8b2
       try clear c12
       try clear c17
       try clear c20
       try clear c20b0
       try clear c20b1
       try clear c21
       try clear c22
       try clear c22b0
       try clear c22b1
       try clear c24
       try clear c26
       try clear c26b0
       try clear c26b1
       try clear c28
       try clear c28b0
       try clear c28b1
       try clear c30
       try clear c30b0
       try clear c30b1
       try clear c30b2
       try clear c31
       try clear c31b0
       try clear c31b1
       try clear c31b2
       try clear hcz13_0
       try clear hcz13_1
       try clear hcz15_0
       try clear hcz15_1
       try clear hcz17_0
       try clear hcz17_1
       try clear hcz36_0
       try clear hcz36_1
       try clear hfz13_0
       try clear hfz13_1
       try clear hfz15_0
       try clear hfz15_1
       try clear hfz17_0
       try clear hfz17_1
       try clear hfz36_0
       try clear hfz36_1
       try clear p2
       obtain ⟨kq, x82_28, rfl, HA, HJ28, HO_7, HO_9, HO_11, BK380, HB⟩ := hcut
       cases kq with
       | zero => exact absurd HA.out (by simp [descantlaw19_PcmJoin.j1])
       | succ kj28 =>
        have H := HA.out
        clear HA
        simp only [descantlaw19_PcmJoin.j1] at H
        by_cases c43 : x82_28 = true
        ·subst c43
         have H1 : (none) = some r := by rw [if_pos rfl] at H; exact H
         clear H
         have H := H1
         clear H1
         exact absurd H (by simp)
        ·replace c43 := Bool.eq_false_iff.mpr c43
         subst c43
         have H1 : (descantlaw19_PcmJoin.l0 kj28 t382 t386 t390 0) = some r := by rw [if_neg (show ¬ (false = true) by decide)] at H; exact H
         clear H
         have H := H1
         clear H1
         have H' := Aside0.mk H
         clear H
         go_wp2
         go_loopg [13] kj28 (fun kq v13 w' => ∃ (x13_3 : Int), v13 = .int .i64 x13_3 ∧ Aside0 (descantlaw19_PcmJoin.l0 kq t382 t386 t390 x13_3 = some r) ∧ Aside0 (kq ≤ kj28) ∧ Aside0 (Kd.S (Kd.slice 3 (Kd.int .i64)) 44 w' w.heap.size (fun k_ => some k_ ≠ (v387 : Value).ownBlock ∧ some k_ ≠ (v391 : Value).ownBlock) v383 t382) ∧ Aside0 (Kd.S (Kd.slice 3 (Kd.int .i64)) 44 w' w.heap.size (fun k_ => some k_ ≠ (v383 : Value).ownBlock ∧ some k_ ≠ (v391 : Value).ownBlock) v387 t386) ∧ Aside0 (Kd.S (Kd.slice 3 (Kd.int .i64)) 44 w' w.heap.size (fun k_ => some k_ ≠ (v383 : Value).ownBlock ∧ some k_ ≠ (v387 : Value).ownBlock) v391 t390) ∧ Aside0 (w'.heap[gb380]? = some (.cells #[.int .i64 a2_0, .int .i64 a2_1] 24 (0, 0))) ∧ Aside0 (Below w.heap.size w w'))
         case atStart => exact ⟨(0), (by first | rfl | (simp; done) | (simp [*]; done)), H', ⟨Nat.le_refl _⟩, ⟨by (with_reducible repeat (first | apply Kd.S_alloc | apply Kd.S_drewN | apply Kd.S_drew)); exact HO_7.out⟩, ⟨by (with_reducible repeat (first | apply Kd.S_alloc | apply Kd.S_drewN | apply Kd.S_drew)); exact HO_9.out⟩, ⟨by (with_reducible repeat (first | apply Kd.S_alloc | apply Kd.S_drewN | apply Kd.S_drew)); exact HO_11.out⟩, ⟨by (with_reducible repeat (first | refine blk_drewN ?_ _ | refine blk_drew ?_ | refine blk_alloc ?_ _)); exact BK380.out⟩, ⟨by repeat (first | (with_reducible first | exact HB.out | apply below_alloc | apply pw_below_drewN | apply below_drew1 | refine below_set ?_ GE380.out) | exact HB.out)⟩⟩
         case round =>
          clear H'
          try clear c1
          try clear c2
          try clear p2
          try clear c3
          try clear c4
          try clear c5
          try clear c6
          try clear p6
          try clear c8
          try clear c8b0
          try clear c8b1
          try clear c8b2
          try clear c12
          try clear c17
          try clear c20
          try clear c20b0
          try clear c20b1
          try clear c21
          try clear c22
          try clear c22b0
          try clear c22b1
          try clear c24
          try clear c26
          try clear c26b0
          try clear c26b1
          try clear c28
          try clear c28b0
          try clear c28b1
          try clear c30
          try clear c30b0
          try clear c30b1
          try clear c30b2
          try clear c31
          try clear c31b0
          try clear c31b1
          try clear c31b2
          try clear c43
          try clear hcz13_0
          try clear hcz13_1
          try clear hcz15_0
          try clear hcz15_1
          try clear hcz17_0
          try clear hcz17_1
          try clear hcz36_0
          try clear hcz36_1
          try clear hfz13_0
          try clear hfz13_1
          try clear hfz15_0
          try clear hfz15_1
          try clear hfz17_0
          try clear hfz17_1
          try clear hfz36_0
          try clear hfz36_1
          try clear p2
          try clear p6
          obtain ⟨x13_3, rfl, HA, HK3, HO_7, HO_9, HO_11, BK380, HB⟩ := hrel
          cases gk with
          | zero => exact absurd HA.out (by simp [descantlaw19_PcmJoin.l0])
          | succ k3 =>
           have H := HA.out
           clear HA
           simp only [descantlaw19_PcmJoin.l0] at H
           by_cases c44 : x13_3 < (t390.length : Int)
           ·rw [if_pos c44] at H
            have c44b0 : decide (x13_3 < (t390.length : Int)) = true := decide_eq_true c44
            clear c44
            obtain ⟨y400, hy400⟩ : ∃ y_ : List Int, y_ = (([] : List Int)) := ⟨_, rfl⟩
            replace H : (if 0 ≤ x13_3 then (if x13_3 < (t382.length : Int) then (if y400.length + (rd_L1 t382 x13_3).length < 17592186044416 then ((some (y400 ++ (rd_L1 t382 x13_3) : List Int)).bind fun y404 => (if x13_3 < (t386.length : Int) then (if y404.length + (rd_L1 t386 x13_3).length < 17592186044416 then ((descantlaw0_SameInts.f k3 (y404 ++ (rd_L1 t386 x13_3)) (rd_L1 t390 x13_3)).bind fun t412 => (if t412 = true then (descantlaw19_PcmJoin.l0 k3 t382 t386 t390 (wrap64 (x13_3 + 1))) else (none))) else (none)) else (none))) else (none)) else (none)) else (none)) = some r := by first | (rw [hy400]; with_reducible exact H) | (have H2_ := (Option.bind_some _ _).symm.trans H; rw [hy400]; with_reducible exact H2_) | (have H2_ := (Option.bind_some _ _).symm.trans H; with_reducible exact H2_) | with_reducible exact H | (rw [hy400]; exact H) | exact H
            have Ny400 := Aside0.mk hy400
            clear hy400
            by_cases c45 : 0 ≤ x13_3
            ·rw [if_pos c45] at H
             have c45b0 : decide (0 ≤ x13_3) = true := decide_eq_true c45
             clear c45
             by_cases c46 : x13_3 < (t382.length : Int)
             ·rw [if_pos c46] at H
              have c46b0 : decide (x13_3 < (t382.length : Int)) = true := decide_eq_true c46
              clear c46
              by_cases c47 : y400.length + (rd_L1 t382 x13_3).length < 17592186044416
              ·rw [if_pos c47] at H
               have LMc47 := Aside0.mk c47
               clear c47
               obtain ⟨y404, hy404⟩ : ∃ y_ : List Int, y_ = (y400 ++ (rd_L1 t382 x13_3)) := ⟨_, rfl⟩
               replace H : (if x13_3 < (t386.length : Int) then (if y404.length + (rd_L1 t386 x13_3).length < 17592186044416 then ((descantlaw0_SameInts.f k3 (y404 ++ (rd_L1 t386 x13_3)) (rd_L1 t390 x13_3)).bind fun t412 => (if t412 = true then (descantlaw19_PcmJoin.l0 k3 t382 t386 t390 (wrap64 (x13_3 + 1))) else (none))) else (none)) else (none)) = some r := by first | (rw [hy404]; with_reducible exact H) | (have H2_ := (Option.bind_some _ _).symm.trans H; rw [hy404]; with_reducible exact H2_) | (have H2_ := (Option.bind_some _ _).symm.trans H; with_reducible exact H2_) | with_reducible exact H | (rw [hy404]; exact H) | exact H
               have Ny404 := Aside0.mk hy404
               clear hy404
               by_cases c48 : x13_3 < (t386.length : Int)
               ·rw [if_pos c48] at H
                have c48b0 : decide (x13_3 < (t386.length : Int)) = true := decide_eq_true c48
                clear c48
                by_cases c49 : y404.length + (rd_L1 t386 x13_3).length < 17592186044416
                ·rw [if_pos c49] at H
                 have LMc49 := Aside0.mk c49
                 clear c49
                 obtain ⟨y408, hy408⟩ : ∃ y_ : List Int, y_ = (y404 ++ (rd_L1 t386 x13_3)) := ⟨_, rfl⟩
                 replace H : ((descantlaw0_SameInts.f k3 y408 (rd_L1 t390 x13_3)).bind fun t412 => (if t412 = true then (descantlaw19_PcmJoin.l0 k3 t382 t386 t390 (wrap64 (x13_3 + 1))) else (none))) = some r := by first | (rw [hy408]; with_reducible exact H) | (have H2_ := (Option.bind_some _ _).symm.trans H; rw [hy408]; with_reducible exact H2_) | (have H2_ := (Option.bind_some _ _).symm.trans H; with_reducible exact H2_) | with_reducible exact H | (rw [hy408]; exact H) | exact H
                 have Ny408 := Aside0.mk hy408
                 clear hy408
                 replace H := Option.bind_eq_some_iff.mp H
                 obtain ⟨t412, A500, H⟩ := H
                 replace H : (if t412 = true then (descantlaw19_PcmJoin.l0 k3 t382 t386 t390 (wrap64 (x13_3 + 1))) else (none)) = some r := H
                 have A50 := Aside0.mk A500
                 clear A500
                 by_cases c51 : t412 = true
                 ·subst c51
                  have H1 : (descantlaw19_PcmJoin.l0 k3 t382 t386 t390 (wrap64 (x13_3 + 1))) = some r := by rw [if_pos rfl] at H; exact H
                  clear H
                  have H := H1
                  clear H1
                  have H' := Aside0.mk H
                  clear H
                  obtain ⟨Ao52, co52, eo52⟩ := Kd.S_slice HO_11.out
                  subst eo52
                  go_wp2_with (first | ((with_reducible refine gate_dst (N := 89) rfl ?_); (try (refine gate_guard (by rfl) ?_; dsimp only)); refine Kd.R_lit (Kd.int .i64) _ 3 ?hg (N := 89) ?hd (xs := ([] : List Int)) (inner := []) (ok := fun _ => True) (okp := fun _ => True) ?hr ?hp (fun _ hk => hk) trivial (Below.refl _ _) (Nat.le_refl _) (by simp) ?_; (case hd => rfl); (case hg => rfl); (case hr => first | (go_simp; done) | (go_simp; rfl)); (case hp => exact (Reps.none _ _)); intro v401 w53 ho54 hb hg_ hnew_; clear hg_ hnew_; (first | rw [← Ny400.out] at ho54 | (simp only [Int.reduceToNat] at ho54; rw [← Ny400.out] at ho54)); have n0_ := Aside0.mk (Kd.S_elder' (by (with_reducible repeat (first | apply Kd.S_alloc | apply Kd.S_drewN | apply Kd.S_drew)); exact HO_7.out) (Kd.R_base ho54) hb); have n1_ := Aside0.mk (Kd.S_elder' (by (with_reducible repeat (first | apply Kd.S_alloc | apply Kd.S_drewN | apply Kd.S_drew)); exact HO_9.out) (Kd.R_base ho54) hb); have n2_ := Aside0.mk (Kd.S_elder' (by (with_reducible repeat (first | apply Kd.S_alloc | apply Kd.S_drewN | apply Kd.S_drew)); exact HO_11.out) (Kd.R_base ho54) hb); have n3_ := Aside0.mk (Kd.R_lower ho54 (below_size (by repeat (first | (with_reducible first | exact HB.out | apply below_alloc | apply pw_below_drewN | apply below_drew1 | refine below_set ?_ GE380.out) | exact HB.out)))); have n4_ := Aside0.mk (blk_below (g := gb380) (o := .cells #[.int .i64 a2_0, .int .i64 a2_1] 24 (0, 0)) (by (with_reducible repeat (first | refine blk_drewN ?_ _ | refine blk_drew ?_ | refine blk_alloc ?_ _)); exact BK380.out) hb); have n5_ := Aside0.mk (below_step (by repeat (first | (with_reducible first | exact HB.out | apply below_alloc | apply pw_below_drewN | apply below_drew1 | refine below_set ?_ GE380.out) | exact HB.out)) hb); clear HO_7; clear HO_9; clear HO_11; clear BK380; clear HB; have HO_7 := n0_; have HO_9 := n1_; have HO_11 := n2_; have HO402 := n3_; have BK380 := n4_; have HB := n5_; clear n0_ n1_ n2_ n3_ n4_ n5_; clear hb ho54; obtain ⟨Ao55, co55, eo55⟩ := Kd.S_slice HO_7.out; subst eo55; have p403 : 0 ≤ (x13_3 : Int) := of_decide_eq_true (by first | (with_reducible assumption) | assumption); have q403 : x13_3 < (t382.length : Int) := of_decide_eq_true (by first | (with_reducible assumption) | assumption); obtain ⟨ad403, A403_0, c403_0, e403, hx403_0, hl403_0, hi403_0⟩ := at_L1 (Kd.S_reads' HO_7.out).2.2 x13_3 p403 q403; cases e403; obtain ⟨ce403, hce403, hMe403, hcc403⟩ := Kd.S_get HO_7.out [] x13_3 p403 (by first | exact q403 | exact of_decide_eq_true (by first | (with_reducible assumption) | assumption) | (have e_ := (Kd.S_reads' HO_7.out).1; omega)); obtain ⟨ve403_0, rfl, ge403_0⟩ := hMe403; have hv403_0 := hcc403 0 _ rfl; rw [Nat.add_zero, show ((Kd.slice 3 (Kd.int .i64))).sz = 1 from rfl, Nat.mul_one] at hv403_0; replace hv403_0 := Option.some.inj (hv403_0.symm.trans hx403_0); rw [hv403_0] at ge403_0; have HL403_0 := Aside0.mk (show Kd.R (Kd.int .i64) 3 _ _ _ _ (rd_L1 t382 x13_3) from ge403_0); clear hv403_0 ge403_0; clear hcc403 hce403; have HR403_0 := Aside0.mk hi403_0; have HC403_0 := Aside0.mk hl403_0; clear hi403_0 hl403_0; replace p403 := eq_true p403; replace q403 := eq_true q403) | ((with_reducible refine gate_builtin (b := .append) (xs := #[.tmp 89, .tmp 93]) rfl ?_); (try (refine gate_guard (by rfl) ?_; dsimp only)); at_builtin; refine Kd.R_append_rows (Kd.int .i64) (w0 := w) w.heap.size rfl (.tmp 89) (.tmp 93) 44 3 (.int .i64 0) 8 rfl Try.underlying44 info3 rfl (by decide) (by omega) v401 y400 (rd_L1 t382 x13_3) _ _ _ (fun _ => True) (fun _ => False) rfl rfl ?aO ?aR (fun _ _ h => h) (fun _ h => h.elim) ?aF ?aB ?aS ?aL ?_; (case aR => repeat (first | exact (by repeat (first | (with_reducible exact HR403_0.out) | (with_reducible refine Kd.C_alloc ?_ _) | (with_reducible refine Kd.C_drewN ?_ _) | (with_reducible refine Kd.C_drew ?_) | exact HR403_0.out)) | (with_reducible refine Kd.C_alloc ?_ _) | (with_reducible refine Kd.C_drewN ?_ _) | (with_reducible refine Kd.C_drew ?_))); (case aB => exact (by repeat (first | (with_reducible first | exact HB.out | apply below_alloc | apply pw_below_drewN | apply below_drew1 | refine below_set ?_ GE380.out) | exact HB.out))); (case aF => exact (fun _ _ => trivial)); (case aO => exact (by (with_reducible repeat (first | apply Kd.R_alloc | apply Kd.R_drewN | apply Kd.R_drew)); exact HO402.out)); (case aS => exact (below_size (by repeat (first | (with_reducible first | exact HB.out | apply below_alloc | apply pw_below_drewN | apply below_drew1 | refine below_set ?_ GE380.out) | exact HB.out)))); (case aL => have := LMc47.out; omega); intro v405 w56 ho hb hg hat; rw [← Ny404.out] at ho; have n0_ := Aside0.mk (Kd.S_after (ok := (fun k_ => some k_ ≠ (v387 : Value).ownBlock ∧ some k_ ≠ (.slice Ao52 t390.length co52 : Value).ownBlock)) (by (with_reducible repeat (first | apply Kd.S_alloc | apply Kd.S_drewN | apply Kd.S_drew)); exact HO_7.out) hg hat); have n1_ := Aside0.mk (Kd.S_after (ok := (fun k_ => some k_ ≠ (.slice (some ad403) t382.length co55 : Value).ownBlock ∧ some k_ ≠ (.slice Ao52 t390.length co52 : Value).ownBlock)) (by (with_reducible repeat (first | apply Kd.S_alloc | apply Kd.S_drewN | apply Kd.S_drew)); exact HO_9.out) hg hat); have n2_ := Aside0.mk (Kd.S_after (ok := (fun k_ => some k_ ≠ (.slice (some ad403) t382.length co55 : Value).ownBlock ∧ some k_ ≠ (v387 : Value).ownBlock)) (by (with_reducible repeat (first | apply Kd.S_alloc | apply Kd.S_drewN | apply Kd.S_drew)); exact HO_11.out) hg hat); have n3_ := Aside0.mk (blk_grown (g := gb380) (o := .cells #[.int .i64 a2_0, .int .i64 a2_1] 24 (0, 0)) (by (with_reducible repeat (first | refine blk_drewN ?_ _ | refine blk_drew ?_ | refine blk_alloc ?_ _)); exact BK380.out) hg (Kd.R_ne HO402.out BK380.out (by decide))); have n4_ := Aside0.mk (Kd.R_after (ok := (fun k_ => some k_ ≠ (.slice (some ad403) t382.length co55 : Value).ownBlock ∧ some k_ ≠ (v387 : Value).ownBlock ∧ some k_ ≠ (.slice Ao52 t390.length co52 : Value).ownBlock)) (by (with_reducible repeat (first | apply Kd.R_alloc | apply Kd.R_drewN | apply Kd.R_drew)); exact Kd.R_mono HL403_0.out (fun _ hk => ⟨⟨hk.2, ⟨hk.1.1.1, hk.1.1.2⟩⟩, hk.1.2⟩)) hg hat); have n5_ := Aside0.mk (hb); have n6_ := Aside0.mk (ho); clear HO_7; clear HO_9; clear HO_11; clear BK380; clear HL403_0; clear HB; clear HO402; have HO_7 := n0_; have HO_9 := n1_; have HO_11 := n2_; have BK380 := n3_; have HL403_0 := n4_; have HB := n5_; have HO406 := n6_; clear n0_ n1_ n2_ n3_ n4_ n5_ n6_; clear ho hb hg hat; obtain ⟨Ao57, co57, eo57⟩ := Kd.S_slice HO_9.out; subst eo57; have p407 : 0 ≤ (x13_3 : Int) := of_decide_eq_true (by first | (with_reducible assumption) | assumption); have q407 : x13_3 < (t386.length : Int) := of_decide_eq_true (by first | (with_reducible assumption) | assumption); obtain ⟨ad407, A407_0, c407_0, e407, hx407_0, hl407_0, hi407_0⟩ := at_L1 (Kd.S_reads' HO_9.out).2.2 x13_3 p407 q407; cases e407; obtain ⟨ce407, hce407, hMe407, hcc407⟩ := Kd.S_get HO_9.out [] x13_3 p407 (by first | exact q407 | exact of_decide_eq_true (by first | (with_reducible assumption) | assumption) | (have e_ := (Kd.S_reads' HO_9.out).1; omega)); obtain ⟨ve407_0, rfl, ge407_0⟩ := hMe407; have hv407_0 := hcc407 0 _ rfl; rw [Nat.add_zero, show ((Kd.slice 3 (Kd.int .i64))).sz = 1 from rfl, Nat.mul_one] at hv407_0; replace hv407_0 := Option.some.inj (hv407_0.symm.trans hx407_0); rw [hv407_0] at ge407_0; have HL407_0 := Aside0.mk (show Kd.R (Kd.int .i64) 3 _ _ _ _ (rd_L1 t386 x13_3) from ge407_0); clear hv407_0 ge407_0; clear hcc407 hce407; have HR407_0 := Aside0.mk hi407_0; have HC407_0 := Aside0.mk hl407_0; clear hi407_0 hl407_0; replace p407 := eq_true p407; replace q407 := eq_true q407) | ((with_reducible refine gate_builtin (b := .append) (xs := #[.tmp 95, .tmp 99]) rfl ?_); (try (refine gate_guard (by rfl) ?_; dsimp only)); at_builtin; refine Kd.R_append_rows (Kd.int .i64) (w0 := w) w.heap.size rfl (.tmp 95) (.tmp 99) 44 3 (.int .i64 0) 8 rfl Try.underlying44 info3 rfl (by decide) (by omega) v405 y404 (rd_L1 t386 x13_3) _ _ _ (fun _ => True) (fun _ => False) rfl rfl ?aO ?aR (fun _ _ h => h) (fun _ h => h.elim) ?aF ?aB ?aS ?aL ?_; (case aR => repeat (first | exact (by repeat (first | (with_reducible exact HR407_0.out) | (with_reducible refine Kd.C_alloc ?_ _) | (with_reducible refine Kd.C_drewN ?_ _) | (with_reducible refine Kd.C_drew ?_) | exact HR407_0.out)) | (with_reducible refine Kd.C_alloc ?_ _) | (with_reducible refine Kd.C_drewN ?_ _) | (with_reducible refine Kd.C_drew ?_))); (case aB => exact (by repeat (first | (with_reducible first | exact HB.out | apply below_alloc | apply pw_below_drewN | apply below_drew1 | refine below_set ?_ GE380.out) | exact HB.out))); (case aF => exact (fun _ _ => trivial)); (case aO => exact (by (with_reducible repeat (first | apply Kd.R_alloc | apply Kd.R_drewN | apply Kd.R_drew)); exact HO406.out)); (case aS => exact (below_size (by repeat (first | (with_reducible first | exact HB.out | apply below_alloc | apply pw_below_drewN | apply below_drew1 | refine below_set ?_ GE380.out) | exact HB.out)))); (case aL => have := LMc49.out; omega); intro v409 w58 ho hb hg hat; rw [← Ny408.out] at ho; have n0_ := Aside0.mk (Kd.S_after (ok := (fun k_ => some k_ ≠ (.slice (some ad407) t386.length co57 : Value).ownBlock ∧ some k_ ≠ (.slice Ao52 t390.length co52 : Value).ownBlock)) (by (with_reducible repeat (first | apply Kd.S_alloc | apply Kd.S_drewN | apply Kd.S_drew)); exact HO_7.out) hg hat); have n1_ := Aside0.mk (Kd.S_after (ok := (fun k_ => some k_ ≠ (.slice (some ad403) t382.length co55 : Value).ownBlock ∧ some k_ ≠ (.slice Ao52 t390.length co52 : Value).ownBlock)) (by (with_reducible repeat (first | apply Kd.S_alloc | apply Kd.S_drewN | apply Kd.S_drew)); exact HO_9.out) hg hat); have n2_ := Aside0.mk (Kd.S_after (ok := (fun k_ => some k_ ≠ (.slice (some ad403) t382.length co55 : Value).ownBlock ∧ some k_ ≠ (.slice (some ad407) t386.length co57 : Value).ownBlock)) (by (with_reducible repeat (first | apply Kd.S_alloc | apply Kd.S_drewN | apply Kd.S_drew)); exact HO_11.out) hg hat); have n3_ := Aside0.mk (blk_grown (g := gb380) (o := .cells #[.int .i64 a2_0, .int .i64 a2_1] 24 (0, 0)) (by (with_reducible repeat (first | refine blk_drewN ?_ _ | refine blk_drew ?_ | refine blk_alloc ?_ _)); exact BK380.out) hg (Kd.R_ne HO406.out BK380.out (by decide))); have n4_ := Aside0.mk (Kd.R_after (ok := (fun k_ => some k_ ≠ (.slice (some ad403) t382.length co55 : Value).ownBlock ∧ some k_ ≠ (.slice (some ad407) t386.length co57 : Value).ownBlock ∧ some k_ ≠ (.slice Ao52 t390.length co52 : Value).ownBlock)) (by (with_reducible repeat (first | apply Kd.R_alloc | apply Kd.R_drewN | apply Kd.R_drew)); exact HL403_0.out) hg hat); have n5_ := Aside0.mk (Kd.R_after (ok := (fun k_ => some k_ ≠ (.slice (some ad403) t382.length co55 : Value).ownBlock ∧ some k_ ≠ (.slice (some ad407) t386.length co57 : Value).ownBlock ∧ some k_ ≠ (.slice Ao52 t390.length co52 : Value).ownBlock)) (by (with_reducible repeat (first | apply Kd.R_alloc | apply Kd.R_drewN | apply Kd.R_drew)); exact Kd.R_mono HL407_0.out (fun _ hk => ⟨⟨hk.1.1.1, ⟨hk.2, hk.1.1.2⟩⟩, hk.1.2⟩)) hg hat); have n6_ := Aside0.mk (hb); have n7_ := Aside0.mk (ho); clear HO_7; clear HO_9; clear HO_11; clear BK380; clear HL403_0; clear HL407_0; clear HB; clear HO406; have HO_7 := n0_; have HO_9 := n1_; have HO_11 := n2_; have BK380 := n3_; have HL403_0 := n4_; have HL407_0 := n5_; have HB := n6_; have HO410 := n7_; clear n0_ n1_ n2_ n3_ n4_ n5_ n6_ n7_; clear ho hb hg hat; have p411 : 0 ≤ (x13_3 : Int) := of_decide_eq_true (by first | (with_reducible assumption) | assumption); have q411 : x13_3 < (t390.length : Int) := of_decide_eq_true (by first | (with_reducible assumption) | assumption); obtain ⟨ad411, A411_0, c411_0, e411, hx411_0, hl411_0, hi411_0⟩ := at_L1 (Kd.S_reads' HO_11.out).2.2 x13_3 p411 q411; cases e411; obtain ⟨ce411, hce411, hMe411, hcc411⟩ := Kd.S_get HO_11.out [] x13_3 p411 (by first | exact q411 | exact of_decide_eq_true (by first | (with_reducible assumption) | assumption) | (have e_ := (Kd.S_reads' HO_11.out).1; omega)); obtain ⟨ve411_0, rfl, ge411_0⟩ := hMe411; have hv411_0 := hcc411 0 _ rfl; rw [Nat.add_zero, show ((Kd.slice 3 (Kd.int .i64))).sz = 1 from rfl, Nat.mul_one] at hv411_0; replace hv411_0 := Option.some.inj (hv411_0.symm.trans hx411_0); rw [hv411_0] at ge411_0; have HL411_0 := Aside0.mk (show Kd.R (Kd.int .i64) 3 _ _ _ _ (rd_L1 t390 x13_3) from ge411_0); clear hv411_0 ge411_0; clear hcc411 hce411; have HR411_0 := Aside0.mk hi411_0; have HC411_0 := Aside0.mk hl411_0; clear hi411_0 hl411_0; replace p411 := eq_true p411; replace q411 := eq_true q411; obtain ⟨Ao59, co59, eo59⟩ := Kd.R_slice HO410.out; subst eo59) | ((with_reducible refine gate_callee (f := 22) rfl ?_); refine goesL_ (some 106) rfl rfl Try.func22 (by kernel_rfl) rfl #[.slice Ao59 y408.length co59, .slice A411_0 (rd_L1 t390 x13_3).length c411_0] rfl (by (try simp only [List.map_toArray, List.map_cons, List.map_nil]); first | done | rfl | (simp only [List.length_drop, List.length_take]; rfl)) ?_; (with_reducible refine (descantlaw0_SameInts.calls k3 _ _ y408 _ _ (rd_L1 t390 x13_3) true _ ?side1 ?side2 ?side3 ?side4 A50.out).mono ?_); (case side1 => repeat (first | exact (Kd.R_reads' HO410.out).2.2 | (with_reducible refine Kd.C_alloc ?_ _) | (with_reducible refine Kd.C_drewN ?_ _) | (with_reducible refine Kd.C_drew ?_))); (case side2 => exact (Kd.R_reads' HO410.out).2.1); (case side3 => repeat (first | exact (by repeat (first | (with_reducible exact HR411_0.out) | (with_reducible refine Kd.C_alloc ?_ _) | (with_reducible refine Kd.C_drewN ?_ _) | (with_reducible refine Kd.C_drew ?_) | exact HR411_0.out)) | (with_reducible refine Kd.C_alloc ?_ _) | (with_reducible refine Kd.C_drewN ?_ _) | (with_reducible refine Kd.C_drew ?_))); (case side4 => exact HC411_0.out); rintro e w' ⟨rfl, ⟨nd, rfl⟩⟩; refine ⟨_, rfl, ?_⟩))
                  go_roundg k3
                  case measure => have := HJ9.out; have := HJ28.out; have := HK3.out; omega
                  case rel => exact ⟨(wrap64 (x13_3 + 1)), (by first | rfl | (simp; done) | (simp [*]; done)), H', ⟨by have := HJ9.out; have := HJ28.out; have := HK3.out; omega⟩, ⟨by (with_reducible repeat (first | apply Kd.S_alloc | apply Kd.S_drewN | apply Kd.S_drew)); exact Kd.S_mono HO_7.out (fun _ hk => ⟨hk.1.1, hk.1.2⟩)⟩, ⟨by (with_reducible repeat (first | apply Kd.S_alloc | apply Kd.S_drewN | apply Kd.S_drew)); exact Kd.S_mono HO_9.out (fun _ hk => ⟨hk.1.1, hk.1.2⟩)⟩, ⟨by (with_reducible repeat (first | apply Kd.S_alloc | apply Kd.S_drewN | apply Kd.S_drew)); exact Kd.S_mono HO_11.out (fun _ hk => ⟨hk.1.1, hk.1.2⟩)⟩, ⟨by (with_reducible repeat (first | refine blk_drewN ?_ _ | refine blk_drew ?_ | refine blk_alloc ?_ _)); exact BK380.out⟩, ⟨by repeat (first | (with_reducible first | exact HB.out | apply below_alloc | apply pw_below_drewN | apply below_drew1 | refine below_set ?_ GE380.out) | exact HB.out)⟩⟩
                 ·replace c51 := Bool.eq_false_iff.mpr c51
                  subst c51
                  have H1 : (none) = some r := by rw [if_neg (show ¬ (false = true) by decide)] at H; exact H
                  clear H
                  have H := H1
                  clear H1
                  exact absurd H (by simp)
                ·rw [if_neg c49] at H
                 exact absurd H (by simp)
               ·rw [if_neg c48] at H
                exact absurd H (by simp)
              ·rw [if_neg c47] at H
               exact absurd H (by simp)
             ·rw [if_neg c46] at H
              exact absurd H (by simp)
            ·rw [if_neg c45] at H
             exact absurd H (by simp)
           ·rw [if_neg c44] at H
            have c44b0 : decide (x13_3 < (t390.length : Int)) = false := decide_eq_false c44
            clear c44
            obtain rfl := Option.some.inj H
            obtain ⟨Ao60, co60, eo60⟩ := Kd.S_slice HO_11.out
            subst eo60
            go_wp2
            go_ret
            exact ⟨by first | rfl | (simp [errW_none, errW_some] <;> rfl) | (simp [*, errW_none, errW_some] <;> rfl), by repeat (first | (with_reducible first | exact HB.out | apply below_alloc | apply pw_below_drewN | apply below_drew1 | refine below_set ?_ GE380.out) | exact HB.out)⟩
  ·rw [if_neg c8] at H
   exact absurd H (by simp)
 ·replace c5 := Bool.eq_false_iff.mpr c5
  subst c5
  have H1 : (none) = some r := by rw [if_neg (show ¬ (false = true) by decide)] at H; exact H
  clear H
  have H := H1
  clear H1
  exact absurd H (by simp)

end Go.Proofs.Ythiknekmgjnkdaa.PAll
