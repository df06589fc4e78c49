-- Printed by a program of this session over the kit's printer (wip/gen/pr.py). Not trusted: Lean checks it.
import Derived.Test.YthiknekmgjnkdaaPAllx0
import Derived.Test.YthiknekmgjnkdaaPAllx2
import Derived.Test.YthiknekmgjnkdaaPAllx9
import Derived.Test.YthiknekmgjnkdaaPAllx10
namespace Go.Proofs.Ythiknekmgjnkdaa.PAll
open Go.RowKit Go.Proofs.YthiknekmgjnkdaaW.PrintWords Go.Proofs.YthiknekmgjnkdaaW.PrintLast Go.Proofs.YthiknekmgjnkdaaW.PrintMore
attribute [local go_sem] max2_int min2_int max_two min_two max_three min_three max_four min_four   -- for this text's walks alone
set_option linter.unusedVariables false
set_option linter.unusedSimpArgs false

/-! ### descantlaw19_PcmFrames: function 5 -/
mutual
def descantlaw19_PcmFrames.j0 : Nat → ByteArray → Bool → Int → Int → Option (Bool)
 | 0, _, _, _, _ => none
 | k + 1, x0, x2, x367000, x367001 => if x2 = true then (descantlaw19_PcmFrames.j1 k x0 x2 x367000 16) else (descantlaw19_PcmFrames.j1 k x0 x2 x367000 x367001)
def descantlaw19_PcmFrames.j1 : Nat → ByteArray → Bool → Int → Int → Option (Bool)
 | 0, _, _, _, _ => none
 | k + 1, x0, x2, x367000, x367001 => if (wrap64 (Int.tdiv (wrap64 (x367000 * x367001)) 8)) = 0 then (none) else (if 0 ≤ (wrap64 ((wrap64 ((x0.size : Int) / (wrap64 (Int.tdiv (wrap64 (x367000 * x367001)) 8)))) * (wrap64 (Int.tdiv (wrap64 (x367000 * x367001)) 8)))) then (if (wrap64 ((wrap64 ((x0.size : Int) / (wrap64 (Int.tdiv (wrap64 (x367000 * x367001)) 8)))) * (wrap64 (Int.tdiv (wrap64 (x367000 * x367001)) 8)))) ≤ (x0.size : Int) then ((pcm_Get.f k (x0.extract 0 ((wrap64 ((wrap64 ((x0.size : Int) / (wrap64 (Int.tdiv (wrap64 (x367000 * x367001)) 8)))) * (wrap64 (Int.tdiv (wrap64 (x367000 * x367001)) 8)))) : Int).toNat) x367000 x367001).bind fun bt367 => ((descantlaw0_Num.f bt367.2).bind fun t371 => (if t371 = 0 then (descantlaw19_PcmFrames.j2 k x2 (wrap64 (Int.tdiv (wrap64 (x367000 * x367001)) 8)) (x0.extract 0 ((wrap64 ((wrap64 ((x0.size : Int) / (wrap64 (Int.tdiv (wrap64 (x367000 * x367001)) 8)))) * (wrap64 (Int.tdiv (wrap64 (x367000 * x367001)) 8)))) : Int).toNat) bt367.1 ((bt367.1.length : Int) != x367000) x367000 x367001) else (descantlaw19_PcmFrames.j2 k x2 (wrap64 (Int.tdiv (wrap64 (x367000 * x367001)) 8)) (x0.extract 0 ((wrap64 ((wrap64 ((x0.size : Int) / (wrap64 (Int.tdiv (wrap64 (x367000 * x367001)) 8)))) * (wrap64 (Int.tdiv (wrap64 (x367000 * x367001)) 8)))) : Int).toNat) bt367.1 true x367000 x367001)))) else (none)) else (none))
def descantlaw19_PcmFrames.j2 : Nat → Bool → Int → ByteArray → List (List Int) → Bool → Int → Int → Option (Bool)
 | 0, _, _, _, _, _, _, _ => none
 | k + 1, x2, x8, x9, x10, x52, x367000, x367001 => if x52 = true then (some (decide ((x9.size : Int) > 4096))) else (descantlaw19_PcmFrames.l0 k x2 x8 x9 x10 0 x367000 x367001)
def descantlaw19_PcmFrames.l0 : Nat → Bool → Int → ByteArray → List (List Int) → Int → Int → Int → Option (Bool)
 | 0, _, _, _, _, _, _, _ => none
 | k + 1, x2, x8, x9, x10, x12, x367000, x367001 => if x12 < x367000 then (if 0 ≤ x12 then (if x12 < (x10.length : Int) then (if x8 = 0 then (none) else (if ((rd_L1 x10 x12).length : Int) = (wrap64 ((x9.size : Int) / x8)) then (descantlaw19_PcmFrames.l1 k x2 x8 x9 x10 x12 0 x367000 x367001) else (none))) else (none)) else (none)) else (some true)
def descantlaw19_PcmFrames.l1 : Nat → Bool → Int → ByteArray → List (List Int) → Int → Int → Int → Int → Option (Bool)
 | 0, _, _, _, _, _, _, _, _ => none
 | k + 1, x2, x8, x9, x10, x12, x13, x367000, x367001 => if 0 ≤ x12 then (if x12 < (x10.length : Int) then (if x13 < ((rd_L1 x10 x12).length : Int) then (if 0 ≤ (wrap64 ((wrap64 (x13 * x8)) + (wrap64 (Int.tdiv (wrap64 (x12 * x367001)) 8)))) then (if (wrap64 ((wrap64 (x13 * x8)) + (wrap64 (Int.tdiv (wrap64 (x12 * x367001)) 8)))) < (x9.size : Int) then (if x2 = true then (if 0 ≤ (wrap64 ((wrap64 ((wrap64 (x13 * x8)) + (wrap64 (Int.tdiv (wrap64 (x12 * x367001)) 8)))) + 1)) then (if (wrap64 ((wrap64 ((wrap64 (x13 * x8)) + (wrap64 (Int.tdiv (wrap64 (x12 * x367001)) 8)))) + 1)) < (x9.size : Int) then (if (wrap64 ((wrap64 (bt x9 (wrap64 ((wrap64 (x13 * x8)) + (wrap64 (Int.tdiv (wrap64 (x12 * x367001)) 8)))))) + (wrap64 (256 * (wrap64 (bt x9 (wrap64 ((wrap64 ((wrap64 (x13 * x8)) + (wrap64 (Int.tdiv (wrap64 (x12 * x367001)) 8)))) + 1)))))))) > 32767 then (if 0 ≤ x13 then (if (rd (rd_L1 x10 x12) x13) = (wrap64 ((wrap64 ((wrap64 (bt x9 (wrap64 ((wrap64 (x13 * x8)) + (wrap64 (Int.tdiv (wrap64 (x12 * x367001)) 8)))))) + (wrap64 (256 * (wrap64 (bt x9 (wrap64 ((wrap64 ((wrap64 (x13 * x8)) + (wrap64 (Int.tdiv (wrap64 (x12 * x367001)) 8)))) + 1)))))))) - 65536)) then (descantlaw19_PcmFrames.l1 k x2 x8 x9 x10 x12 (wrap64 (x13 + 1)) x367000 x367001) else (none)) else (none)) else (if 0 ≤ x13 then (if (rd (rd_L1 x10 x12) x13) = (wrap64 ((wrap64 (bt x9 (wrap64 ((wrap64 (x13 * x8)) + (wrap64 (Int.tdiv (wrap64 (x12 * x367001)) 8)))))) + (wrap64 (256 * (wrap64 (bt x9 (wrap64 ((wrap64 ((wrap64 (x13 * x8)) + (wrap64 (Int.tdiv (wrap64 (x12 * x367001)) 8)))) + 1)))))))) then (descantlaw19_PcmFrames.l1 k x2 x8 x9 x10 x12 (wrap64 (x13 + 1)) x367000 x367001) else (none)) else (none))) else (none)) else (none)) else (if 0 ≤ x13 then (if (rd (rd_L1 x10 x12) x13) = (wrap64 ((wrap64 (bt x9 (wrap64 ((wrap64 (x13 * x8)) + (wrap64 (Int.tdiv (wrap64 (x12 * x367001)) 8)))))) - 128)) then (descantlaw19_PcmFrames.l1 k x2 x8 x9 x10 x12 (wrap64 (x13 + 1)) x367000 x367001) else (none)) else (none))) else (none)) else (none)) else (descantlaw19_PcmFrames.l0 k x2 x8 x9 x10 (wrap64 (x12 + 1)) x367000 x367001)) else (none)) else (none)
end
def descantlaw19_PcmFrames.f (k : Nat) (a0 : ByteArray) (a1 : Bool) (a2 : Bool) : Option (Bool) := (descantlaw19_awake.f k).bind fun t365 => (if t365 = true then (if a1 = true then (descantlaw19_PcmFrames.j0 k a0 a2 2 8) else (descantlaw19_PcmFrames.j0 k a0 a2 1 8)) else (none))
theorem descantlaw19_PcmFrames.mono_l : ∀ k, (∀ y0 y1 y2 y3, LeO (descantlaw19_PcmFrames.j0 k y0 y1 y2 y3) (descantlaw19_PcmFrames.j0 (k + 1) y0 y1 y2 y3)) ∧ (∀ y0 y1 y2 y3, LeO (descantlaw19_PcmFrames.j1 k y0 y1 y2 y3) (descantlaw19_PcmFrames.j1 (k + 1) y0 y1 y2 y3)) ∧ (∀ y0 y1 y2 y3 y4 y5 y6, LeO (descantlaw19_PcmFrames.j2 k y0 y1 y2 y3 y4 y5 y6) (descantlaw19_PcmFrames.j2 (k + 1) y0 y1 y2 y3 y4 y5 y6)) ∧ (∀ y0 y1 y2 y3 y4 y5 y6, LeO (descantlaw19_PcmFrames.l0 k y0 y1 y2 y3 y4 y5 y6) (descantlaw19_PcmFrames.l0 (k + 1) y0 y1 y2 y3 y4 y5 y6)) ∧ (∀ y0 y1 y2 y3 y4 y5 y6 y7, LeO (descantlaw19_PcmFrames.l1 k y0 y1 y2 y3 y4 y5 y6 y7) (descantlaw19_PcmFrames.l1 (k + 1) y0 y1 y2 y3 y4 y5 y6 y7))
 | 0 => ⟨fun _ _ _ _ r h => by simp [descantlaw19_PcmFrames.j0] at h, fun _ _ _ _ r h => by simp [descantlaw19_PcmFrames.j1] at h, fun _ _ _ _ _ _ _ r h => by simp [descantlaw19_PcmFrames.j2] at h, fun _ _ _ _ _ _ _ r h => by simp [descantlaw19_PcmFrames.l0] at h, fun _ _ _ _ _ _ _ _ r h => by simp [descantlaw19_PcmFrames.l1] at h⟩
 | k + 1 => by
  obtain ⟨ih0, ih1, ih2, ih3, ih4⟩ := descantlaw19_PcmFrames.mono_l k
  refine ⟨?_, ?_, ?_, ?_, ?_⟩
  ·intro y0 y1 y2 y3
   unfold descantlaw19_PcmFrames.j0
   repeat' first
   | (with_reducible exact ih0 _ _ _ _)
   | (with_reducible exact ih1 _ _ _ _)
   | (with_reducible exact ih2 _ _ _ _ _ _ _)
   | (with_reducible exact ih3 _ _ _ _ _ _ _)
   | (with_reducible exact ih4 _ _ _ _ _ _ _ _)
   | (with_reducible exact descantlaw19_awake.mono _)
   | (with_reducible exact pcm_Get.mono _ _ _ _)
   | (with_reducible exact LeO.refl _)
   | (with_reducible exact LeO.none _)
   | (with_reducible refine LeO.ite ?_ ?_)
   | (with_reducible refine LeO.bind ?_ (fun _ => ?_))
   | exact ih0 _ _ _ _
   | exact ih1 _ _ _ _
   | exact ih2 _ _ _ _ _ _ _
   | exact ih3 _ _ _ _ _ _ _
   | exact ih4 _ _ _ _ _ _ _ _
   | exact descantlaw19_awake.mono _
   | exact pcm_Get.mono _ _ _ _
   | exact LeO.none _
   | refine LeO.ite ?_ ?_
   | refine LeO.bind ?_ (fun _ => ?_)
  ·intro y0 y1 y2 y3
   unfold descantlaw19_PcmFrames.j1
   repeat' first
   | (with_reducible exact ih0 _ _ _ _)
   | (with_reducible exact ih1 _ _ _ _)
   | (with_reducible exact ih2 _ _ _ _ _ _ _)
   | (with_reducible exact ih3 _ _ _ _ _ _ _)
   | (with_reducible exact ih4 _ _ _ _ _ _ _ _)
   | (with_reducible exact descantlaw19_awake.mono _)
   | (with_reducible exact pcm_Get.mono _ _ _ _)
   | (with_reducible exact LeO.refl _)
   | (with_reducible exact LeO.none _)
   | (with_reducible refine LeO.ite ?_ ?_)
   | (with_reducible refine LeO.bind ?_ (fun _ => ?_))
   | exact ih0 _ _ _ _
   | exact ih1 _ _ _ _
   | exact ih2 _ _ _ _ _ _ _
   | exact ih3 _ _ _ _ _ _ _
   | exact ih4 _ _ _ _ _ _ _ _
   | exact descantlaw19_awake.mono _
   | exact pcm_Get.mono _ _ _ _
   | exact LeO.none _
   | refine LeO.ite ?_ ?_
   | refine LeO.bind ?_ (fun _ => ?_)
  ·intro y0 y1 y2 y3 y4 y5 y6
   unfold descantlaw19_PcmFrames.j2
   repeat' first
   | (with_reducible exact ih0 _ _ _ _)
   | (with_reducible exact ih1 _ _ _ _)
   | (with_reducible exact ih2 _ _ _ _ _ _ _)
   | (with_reducible exact ih3 _ _ _ _ _ _ _)
   | (with_reducible exact ih4 _ _ _ _ _ _ _ _)
   | (with_reducible exact descantlaw19_awake.mono _)
   | (with_reducible exact pcm_Get.mono _ _ _ _)
   | (with_reducible exact LeO.refl _)
   | (with_reducible exact LeO.none _)
   | (with_reducible refine LeO.ite ?_ ?_)
   | (with_reducible refine LeO.bind ?_ (fun _ => ?_))
   | exact ih0 _ _ _ _
   | exact ih1 _ _ _ _
   | exact ih2 _ _ _ _ _ _ _
   | exact ih3 _ _ _ _ _ _ _
   | exact ih4 _ _ _ _ _ _ _ _
   | exact descantlaw19_awake.mono _
   | exact pcm_Get.mono _ _ _ _
   | exact LeO.none _
   | refine LeO.ite ?_ ?_
   | refine LeO.bind ?_ (fun _ => ?_)
  ·intro y0 y1 y2 y3 y4 y5 y6
   unfold descantlaw19_PcmFrames.l0
   repeat' first
   | (with_reducible exact ih0 _ _ _ _)
   | (with_reducible exact ih1 _ _ _ _)
   | (with_reducible exact ih2 _ _ _ _ _ _ _)
   | (with_reducible exact ih3 _ _ _ _ _ _ _)
   | (with_reducible exact ih4 _ _ _ _ _ _ _ _)
   | (with_reducible exact descantlaw19_awake.mono _)
   | (with_reducible exact pcm_Get.mono _ _ _ _)
   | (with_reducible exact LeO.refl _)
   | (with_reducible exact LeO.none _)
   | (with_reducible refine LeO.ite ?_ ?_)
   | (with_reducible refine LeO.bind ?_ (fun _ => ?_))
   | exact ih0 _ _ _ _
   | exact ih1 _ _ _ _
   | exact ih2 _ _ _ _ _ _ _
   | exact ih3 _ _ _ _ _ _ _
   | exact ih4 _ _ _ _ _ _ _ _
   | exact descantlaw19_awake.mono _
   | exact pcm_Get.mono _ _ _ _
   | exact LeO.none _
   | refine LeO.ite ?_ ?_
   | refine LeO.bind ?_ (fun _ => ?_)
  ·intro y0 y1 y2 y3 y4 y5 y6 y7
   unfold descantlaw19_PcmFrames.l1
   repeat' first
   | (with_reducible exact ih0 _ _ _ _)
   | (with_reducible exact ih1 _ _ _ _)
   | (with_reducible exact ih2 _ _ _ _ _ _ _)
   | (with_reducible exact ih3 _ _ _ _ _ _ _)
   | (with_reducible exact ih4 _ _ _ _ _ _ _ _)
   | (with_reducible exact descantlaw19_awake.mono _)
   | (with_reducible exact pcm_Get.mono _ _ _ _)
   | (with_reducible exact LeO.refl _)
   | (with_reducible exact LeO.none _)
   | (with_reducible refine LeO.ite ?_ ?_)
   | (with_reducible refine LeO.bind ?_ (fun _ => ?_))
   | exact ih0 _ _ _ _
   | exact ih1 _ _ _ _
   | exact ih2 _ _ _ _ _ _ _
   | exact ih3 _ _ _ _ _ _ _
   | exact ih4 _ _ _ _ _ _ _ _
   | exact descantlaw19_awake.mono _
   | exact pcm_Get.mono _ _ _ _
   | exact LeO.none _
   | refine LeO.ite ?_ ?_
   | refine LeO.bind ?_ (fun _ => ?_)
theorem descantlaw19_PcmFrames.mono : ∀ a0 a1 a2 k, LeO (descantlaw19_PcmFrames.f k a0 a1 a2) (descantlaw19_PcmFrames.f (k + 1) a0 a1 a2) := by
 intro a0 a1 a2 k
 obtain ⟨ih0, ih1, ih2, ih3, ih4⟩ := descantlaw19_PcmFrames.mono_l k
 unfold descantlaw19_PcmFrames.f
 repeat' first
   | (with_reducible exact ih0 _ _ _ _)
   | (with_reducible exact ih1 _ _ _ _)
   | (with_reducible exact ih2 _ _ _ _ _ _ _)
   | (with_reducible exact ih3 _ _ _ _ _ _ _)
   | (with_reducible exact ih4 _ _ _ _ _ _ _ _)
   | (with_reducible exact descantlaw19_awake.mono _)
   | (with_reducible exact pcm_Get.mono _ _ _ _)
   | (with_reducible exact LeO.refl _)
   | (with_reducible exact LeO.none _)
   | (with_reducible refine LeO.ite ?_ ?_)
   | (with_reducible refine LeO.bind ?_ (fun _ => ?_))
   | exact ih0 _ _ _ _
   | exact ih1 _ _ _ _
   | exact ih2 _ _ _ _ _ _ _
   | exact ih3 _ _ _ _ _ _ _
   | exact ih4 _ _ _ _ _ _ _ _
   | exact descantlaw19_awake.mono _
   | exact pcm_Get.mono _ _ _ _
   | exact LeO.none _
   | refine LeO.ite ?_ ?_
   | refine LeO.bind ?_ (fun _ => ?_)
set_option maxHeartbeats 8000000 in
set_option maxRecDepth 100000 in
theorem descantlaw19_PcmFrames.calls (k : Nat) (a0 : ByteArray) (a1 : Bool) (a2 : Bool) (r : Bool) (w : World) (h : descantlaw19_PcmFrames.f k a0 a1 a2 = some r) :
  Calls Try.prog 5 #[.string a0, .bool a1, .bool a2] w fun e w' => e = .returned (.bool r) ∧ Below w.heap.size w w' := by
 have hu24 := Try.underlying24
 have HB := Aside0.mk (Below.refl w.heap.size w)
 have H : ((descantlaw19_awake.f k).bind fun t365 => (if t365 = true then (if a1 = true then (descantlaw19_PcmFrames.j0 k a0 a2 2 8) else (descantlaw19_PcmFrames.j0 k a0 a2 1 8)) else (none))) = some r := h
 clear h
 replace H := Option.bind_eq_some_iff.mp H
 obtain ⟨t365, A40, H⟩ := H
 replace H : (if t365 = true then (if a1 = true then (descantlaw19_PcmFrames.j0 k a0 a2 2 8) else (descantlaw19_PcmFrames.j0 k a0 a2 1 8)) else (none)) = some r := H
 have A4 := Aside0.mk A40
 clear A40
 by_cases c5 : t365 = true
 ·subst c5
  have H1 : (if a1 = true then (descantlaw19_PcmFrames.j0 k a0 a2 2 8) else (descantlaw19_PcmFrames.j0 k a0 a2 1 8)) = some r := by rw [if_pos rfl] at H; exact H
  clear H
  have H := H1
  clear H1
  have HC6 := Aside0.mk H
  clear H
  go_enter Try.func5, Try.ntmps5
  go_upto_if 19 with (first | (go_at_call 21; (with_reducible refine (descantlaw19_awake.calls k  true _ A4.out).mono ?_); rintro e w7 ⟨rfl, hb⟩; have n0_ := Aside0.mk (below_step (by repeat (first | (with_reducible first | exact HB.out | apply below_alloc | apply pw_below_drewN | apply below_drew1) | exact HB.out)) hb); clear HB; have HB := n0_; clear n0_; (try clear hb); (try clear hb2); (try clear hk); (try clear hi)) | ((with_reducible refine gate_dst (N := 7) rfl ?_); (try (refine gate_guard (by rfl) ?_; dsimp only)); refine box_event ?hg (N := 7) ?hd (cs := #[.int .i64 0, .int .i64 0]) (t := 24) ?hr ?_; (case hd => rfl); (case hg => rfl); (case hr => first | (go_simp; done) | (go_simp; rfl)); intro gb366 hg w8 hbox hb; have n0_ := Aside0.mk (below_step (by repeat (first | (with_reducible first | exact HB.out | apply below_alloc | apply pw_below_drewN | apply below_drew1) | exact HB.out)) hb); have n1_ := Aside0.mk (hbox); have n2_ := Aside0.mk ((by rw [hg]; exact (below_size (by repeat (first | (with_reducible first | exact HB.out | apply below_alloc | apply pw_below_drewN | apply below_drew1) | exact HB.out))) : w.heap.size ≤ gb366)); have n3_ := Aside0.mk ((by rw [hg]; exact (below_size (by repeat (first | (with_reducible first | exact HB.out | apply below_alloc | apply pw_below_drewN | apply below_drew1) | exact HB.out))) : w.heap.size ≤ gb366)); clear HB; have HB := n0_; have BK366 := n1_; have GW366 := n2_; have GE366 := n3_; clear n0_ n1_ n2_ n3_; clear hb hbox hg; have hcz9_0 : w8.cell? ⟨gb366, 0, none⟩ = some (.int .i64 0) := (blk_cell BK366.out 0).trans rfl; have hcz9_1 : w8.cell? ⟨gb366, 1, none⟩ = some (.int .i64 0) := (blk_cell BK366.out 1).trans rfl; have hfz9_0 := blk_frozen BK366.out 0; have hfz9_1 := blk_frozen BK366.out 1))
  repeat (go_quiet (first | (go_at_call 21; (with_reducible refine (descantlaw19_awake.calls k  true _ A4.out).mono ?_); rintro e w7 ⟨rfl, hb⟩; have n0_ := Aside0.mk (below_step (by repeat (first | (with_reducible first | exact HB.out | apply below_alloc | apply pw_below_drewN | apply below_drew1) | exact HB.out)) hb); clear HB; have HB := n0_; clear n0_; (try clear hb); (try clear hb2); (try clear hk); (try clear hi)) | ((with_reducible refine gate_dst (N := 7) rfl ?_); (try (refine gate_guard (by rfl) ?_; dsimp only)); refine box_event ?hg (N := 7) ?hd (cs := #[.int .i64 0, .int .i64 0]) (t := 24) ?hr ?_; (case hd => rfl); (case hg => rfl); (case hr => first | (go_simp; done) | (go_simp; rfl)); intro gb366 hg w8 hbox hb; have n0_ := Aside0.mk (below_step (by repeat (first | (with_reducible first | exact HB.out | apply below_alloc | apply pw_below_drewN | apply below_drew1) | exact HB.out)) hb); have n1_ := Aside0.mk (hbox); have n2_ := Aside0.mk ((by rw [hg]; exact (below_size (by repeat (first | (with_reducible first | exact HB.out | apply below_alloc | apply pw_below_drewN | apply below_drew1) | exact HB.out))) : w.heap.size ≤ gb366)); have n3_ := Aside0.mk ((by rw [hg]; exact (below_size (by repeat (first | (with_reducible first | exact HB.out | apply below_alloc | apply pw_below_drewN | apply below_drew1) | exact HB.out))) : w.heap.size ≤ gb366)); clear HB; have HB := n0_; have BK366 := n1_; have GW366 := n2_; have GE366 := n3_; clear n0_ n1_ n2_ n3_; clear hb hbox hg; have hcz9_0 : w8.cell? ⟨gb366, 0, none⟩ = some (.int .i64 0) := (blk_cell BK366.out 0).trans rfl; have hcz9_1 : w8.cell? ⟨gb366, 1, none⟩ = some (.int .i64 0) := (blk_cell BK366.out 1).trans rfl; have hfz9_0 := blk_frozen BK366.out 0; have hfz9_1 := blk_frozen BK366.out 1)); go_upto_if 19 with (first | (go_at_call 21; (with_reducible refine (descantlaw19_awake.calls k  true _ A4.out).mono ?_); rintro e w7 ⟨rfl, hb⟩; have n0_ := Aside0.mk (below_step (by repeat (first | (with_reducible first | exact HB.out | apply below_alloc | apply pw_below_drewN | apply below_drew1) | exact HB.out)) hb); clear HB; have HB := n0_; clear n0_; (try clear hb); (try clear hb2); (try clear hk); (try clear hi)) | ((with_reducible refine gate_dst (N := 7) rfl ?_); (try (refine gate_guard (by rfl) ?_; dsimp only)); refine box_event ?hg (N := 7) ?hd (cs := #[.int .i64 0, .int .i64 0]) (t := 24) ?hr ?_; (case hd => rfl); (case hg => rfl); (case hr => first | (go_simp; done) | (go_simp; rfl)); intro gb366 hg w8 hbox hb; have n0_ := Aside0.mk (below_step (by repeat (first | (with_reducible first | exact HB.out | apply below_alloc | apply pw_below_drewN | apply below_drew1) | exact HB.out)) hb); have n1_ := Aside0.mk (hbox); have n2_ := Aside0.mk ((by rw [hg]; exact (below_size (by repeat (first | (with_reducible first | exact HB.out | apply below_alloc | apply pw_below_drewN | apply below_drew1) | exact HB.out))) : w.heap.size ≤ gb366)); have n3_ := Aside0.mk ((by rw [hg]; exact (below_size (by repeat (first | (with_reducible first | exact HB.out | apply below_alloc | apply pw_below_drewN | apply below_drew1) | exact HB.out))) : w.heap.size ≤ gb366)); clear HB; have HB := n0_; have BK366 := n1_; have GW366 := n2_; have GE366 := n3_; clear n0_ n1_ n2_ n3_; clear hb hbox hg; have hcz9_0 : w8.cell? ⟨gb366, 0, none⟩ = some (.int .i64 0) := (blk_cell BK366.out 0).trans rfl; have hcz9_1 : w8.cell? ⟨gb366, 1, none⟩ = some (.int .i64 0) := (blk_cell BK366.out 1).trans rfl; have hfz9_0 := blk_frozen BK366.out 0; have hfz9_1 := blk_frozen BK366.out 1)))
  (try simp only [Act.put, List.setIfInBounds_toArray, List.set_cons_zero, List.set_cons_succ])
  go_cut [] (fun wc => ∃ (kq : Nat) (x367000_5 : Int), Aside0 (descantlaw19_PcmFrames.j0 kq a0 a2 x367000_5 8 = some r) ∧ Aside0 (kq ≤ k) ∧ Aside0 (wc.heap[gb366]? = some (.cells #[.int .i64 x367000_5, .int .i64 8] 24 (0, 0))) ∧ Aside0 (Below w.heap.size w wc))
  case first =>
   have H := HC6.out
   clear HC6
   by_cases c10 : a1 = true
   ·subst c10
    have H1 : (descantlaw19_PcmFrames.j0 k a0 a2 2 8) = some r := by rw [if_pos rfl] at H; exact H
    clear H
    have H := H1
    clear H1
    have H' := Aside0.mk H
    clear H
    have hcz11_0 : w8.cell? ⟨gb366, 0, none⟩ = some (.int .i64 0) := (blk_cell BK366.out 0).trans rfl
    have hcz11_1 : w8.cell? ⟨gb366, 1, none⟩ = some (.int .i64 0) := (blk_cell BK366.out 1).trans rfl
    have hfz11_0 := blk_frozen BK366.out 0
    have hfz11_1 := blk_frozen BK366.out 1
    go_wp2
    repeat ((fail_if_success (with_reducible (first | refine Extra.ahead_loop ?_ | refine Extra.ahead_loop_seq ?_))); go_quiet (fail); try go_wp2)
    go_meet
    case rel => exact ⟨_, (2), H', ⟨by first | omega | exact Nat.le_refl _⟩, ⟨by (with_reducible repeat (first | refine blk_drewN ?_ _ | refine blk_drew ?_ | refine blk_alloc ?_ _)); refine blk_put (cs := #[.int .i64 1, .int .i64 8]) ?_ 0 _ rfl; (with_reducible repeat (first | refine blk_drewN ?_ _ | refine blk_drew ?_ | refine blk_alloc ?_ _)); refine blk_put (cs := #[.int .i64 1, .int .i64 0]) ?_ 1 _ rfl; (with_reducible repeat (first | refine blk_drewN ?_ _ | refine blk_drew ?_ | refine blk_alloc ?_ _)); refine blk_put (cs := #[.int .i64 0, .int .i64 0]) ?_ 0 _ rfl; (with_reducible repeat (first | refine blk_drewN ?_ _ | refine blk_drew ?_ | refine blk_alloc ?_ _)); exact BK366.out⟩, ⟨by repeat (first | (with_reducible first | exact HB.out | apply below_alloc | apply pw_below_drewN | apply below_drew1 | refine below_set ?_ GE366.out) | exact HB.out)⟩⟩
   ·replace c10 := Bool.eq_false_iff.mpr c10
    subst c10
    have H1 : (descantlaw19_PcmFrames.j0 k a0 a2 1 8) = some r := by rw [if_neg (show ¬ (false = true) by decide)] at H; exact H
    clear H
    have H := H1
    clear H1
    have H' := Aside0.mk H
    clear H
    go_wp2
    repeat ((fail_if_success (with_reducible (first | refine Extra.ahead_loop ?_ | refine Extra.ahead_loop_seq ?_))); go_quiet (fail); try go_wp2)
    go_meet
    case rel => exact ⟨_, (1), H', ⟨by first | omega | exact Nat.le_refl _⟩, ⟨by (with_reducible repeat (first | refine blk_drewN ?_ _ | refine blk_drew ?_ | refine blk_alloc ?_ _)); refine blk_put (cs := #[.int .i64 1, .int .i64 0]) ?_ 1 _ rfl; (with_reducible repeat (first | refine blk_drewN ?_ _ | refine blk_drew ?_ | refine blk_alloc ?_ _)); refine blk_put (cs := #[.int .i64 0, .int .i64 0]) ?_ 0 _ rfl; (with_reducible repeat (first | refine blk_drewN ?_ _ | refine blk_drew ?_ | refine blk_alloc ?_ _)); exact BK366.out⟩, ⟨by repeat (first | (with_reducible first | exact HB.out | apply below_alloc | apply pw_below_drewN | apply below_drew1 | refine below_set ?_ GE366.out) | exact HB.out)⟩⟩
  case rest =>
   clear HC6
   try clear c1
   try clear p2
   try clear c5
   try clear c10
   try clear hcz11_0
   try clear hcz11_1
   try clear hcz9_0
   try clear hcz9_1
   try clear hfz11_0
   try clear hfz11_1
   try clear hfz9_0
   try clear hfz9_1
   obtain ⟨kq, x367000_5, HA, HJ5, BK366, HB⟩ := hcut
   cases kq with
   | zero => exact absurd HA.out (by simp [descantlaw19_PcmFrames.j0])
   | succ kj5 =>
    have H := HA.out
    clear HA
    simp only [descantlaw19_PcmFrames.j0] at H
    have HC12 := Aside0.mk H
    clear H
    go_upto_if 21 with (fail)
    repeat (go_quiet (fail); go_upto_if 21 with (fail))
    go_cut [] (fun wc => ∃ (kq : Nat) (x367001_11 : Int), Aside0 (descantlaw19_PcmFrames.j1 kq a0 a2 x367000_5 x367001_11 = some r) ∧ Aside0 (kq ≤ kj5) ∧ Aside0 (wc.heap[gb366]? = some (.cells #[.int .i64 x367000_5, .int .i64 x367001_11] 24 (0, 0))) ∧ Aside0 (Below w.heap.size w wc))
    case first =>
     have H := HC12.out
     clear HC12
     by_cases c13 : a2 = true
     ·subst c13
      have H1 : (descantlaw19_PcmFrames.j1 kj5 a0 true x367000_5 16) = some r := by rw [if_pos rfl] at H; exact H
      clear H
      have H := H1
      clear H1
      have H' := Aside0.mk H
      clear H
      have hcz14_0 : wc.cell? ⟨gb366, 0, none⟩ = some (.int .i64 x367000_5) := (blk_cell BK366.out 0).trans rfl
      have hcz14_1 : wc.cell? ⟨gb366, 1, none⟩ = some (.int .i64 8) := (blk_cell BK366.out 1).trans rfl
      have hfz14_0 := blk_frozen BK366.out 0
      have hfz14_1 := blk_frozen BK366.out 1
      go_wp2
      repeat ((fail_if_success (with_reducible (first | refine Extra.ahead_loop ?_ | refine Extra.ahead_loop_seq ?_))); go_quiet (fail); try go_wp2)
      go_meet
      case rel => exact ⟨_, (16), H', ⟨by have := HJ5.out; first | omega | exact Nat.le_refl _⟩, ⟨by (with_reducible repeat (first | refine blk_drewN ?_ _ | refine blk_drew ?_ | refine blk_alloc ?_ _)); refine blk_put (cs := #[.int .i64 x367000_5, .int .i64 8]) ?_ 1 _ rfl; (with_reducible repeat (first | refine blk_drewN ?_ _ | refine blk_drew ?_ | refine blk_alloc ?_ _)); exact BK366.out⟩, ⟨by repeat (first | (with_reducible first | exact HB.out | apply below_alloc | apply pw_below_drewN | apply below_drew1 | refine below_set ?_ GE366.out) | exact HB.out)⟩⟩
     ·replace c13 := Bool.eq_false_iff.mpr c13
      subst c13
      have H1 : (descantlaw19_PcmFrames.j1 kj5 a0 false x367000_5 8) = some r := by rw [if_neg (show ¬ (false = true) by decide)] at H; exact H
      clear H
      have H := H1
      clear H1
      have H' := Aside0.mk H
      clear H
      go_wp2
      repeat ((fail_if_success (with_reducible (first | refine Extra.ahead_loop ?_ | refine Extra.ahead_loop_seq ?_))); go_quiet (fail); try go_wp2)
      go_meet
      case rel => exact ⟨_, (8), H', ⟨by have := HJ5.out; first | omega | exact Nat.le_refl _⟩, ⟨by (with_reducible repeat (first | refine blk_drewN ?_ _ | refine blk_drew ?_ | refine blk_alloc ?_ _)); exact BK366.out⟩, ⟨by repeat (first | (with_reducible first | exact HB.out | apply below_alloc | apply pw_below_drewN | apply below_drew1 | refine below_set ?_ GE366.out) | exact HB.out)⟩⟩
    case rest =>
     clear HC12
     try clear c1
     try clear p2
     try clear c5
     try clear c10
     try clear c13
     try clear hcz11_0
     try clear hcz11_1
     try clear hcz14_0
     try clear hcz14_1
     try clear hcz9_0
     try clear hcz9_1
     try clear hfz11_0
     try clear hfz11_1
     try clear hfz14_0
     try clear hfz14_1
     try clear hfz9_0
     try clear hfz9_1
     try clear p2
     obtain ⟨kq, x367001_11, HA, HJ11, BK366, HB⟩ := hcut
     cases kq with
     | zero => exact absurd HA.out (by simp [descantlaw19_PcmFrames.j1])
     | succ kj11 =>
      have H := HA.out
      clear HA
      simp only [descantlaw19_PcmFrames.j1] at H
      by_cases c15 : (wrap64 (Int.tdiv (wrap64 (x367000_5 * x367001_11)) 8)) = 0
      ·rw [if_pos c15] at H
       exact absurd H (by simp)
      ·rw [if_neg c15] at H
       have c15b0 : ((wrap64 (Int.tdiv (wrap64 (x367000_5 * x367001_11)) 8)) == 0) = false := beq_eq_false_iff_ne.mpr c15
       have c15b1 : ((wrap64 (Int.tdiv (wrap64 (x367000_5 * x367001_11)) 8)) != 0) = true := bne_iff_ne.mpr c15
       obtain ⟨ji16, hji16⟩ : ∃ j_ : Int, (wrap64 ((wrap64 ((a0.size : Int) / (wrap64 (Int.tdiv (wrap64 (x367000_5 * x367001_11)) 8)))) * (wrap64 (Int.tdiv (wrap64 (x367000_5 * x367001_11)) 8)))) = j_ := ⟨_, rfl⟩
       replace H : (if 0 ≤ (ji16) then (if (ji16) ≤ (a0.size : Int) then ((pcm_Get.f kj11 (a0.extract 0 ((ji16) : Int).toNat) x367000_5 x367001_11).bind fun bt367 => ((descantlaw0_Num.f bt367.2).bind fun t371 => (if t371 = 0 then (descantlaw19_PcmFrames.j2 kj11 a2 (wrap64 (Int.tdiv (wrap64 (x367000_5 * x367001_11)) 8)) (a0.extract 0 ((ji16) : Int).toNat) bt367.1 ((bt367.1.length : Int) != x367000_5) x367000_5 x367001_11) else (descantlaw19_PcmFrames.j2 kj11 a2 (wrap64 (Int.tdiv (wrap64 (x367000_5 * x367001_11)) 8)) (a0.extract 0 ((ji16) : Int).toNat) bt367.1 true x367000_5 x367001_11)))) else (none)) else (none)) = some r := by first | (rw [hji16] at H; exact H) | (simp only [hji16] at H ⊢; exact H)
       have hji16w : (IntKind.i64.wrap ((wrap64 ((a0.size : Int) / (wrap64 (Int.tdiv (wrap64 (x367000_5 * x367001_11)) 8)))) * (wrap64 (Int.tdiv (wrap64 (x367000_5 * x367001_11)) 8)))) = ji16 := (i64_w _).trans hji16
       by_cases c17 : 0 ≤ (ji16)
       ·rw [if_pos c17] at H
        have c17b0 := eq_true c17
        have c17b1 : decide (0 ≤ (ji16)) = true := decide_eq_true c17
        clear c17
        by_cases c18 : (ji16) ≤ (a0.size : Int)
        ·rw [if_pos c18] at H
         have c18b0 := eq_true c18
         have c18b1 : decide ((ji16) ≤ (a0.size : Int)) = true := decide_eq_true c18
         clear c18
         replace H := Option.bind_eq_some_iff.mp H
         obtain ⟨⟨t367, t370⟩, A190, H⟩ := H
         replace H : ((descantlaw0_Num.f t370).bind fun t371 => (if t371 = 0 then (descantlaw19_PcmFrames.j2 kj11 a2 (wrap64 (Int.tdiv (wrap64 (x367000_5 * x367001_11)) 8)) (a0.extract 0 ((ji16) : Int).toNat) t367 ((t367.length : Int) != x367000_5) x367000_5 x367001_11) else (descantlaw19_PcmFrames.j2 kj11 a2 (wrap64 (Int.tdiv (wrap64 (x367000_5 * x367001_11)) 8)) (a0.extract 0 ((ji16) : Int).toNat) t367 true x367000_5 x367001_11))) = some r := H
         have A19 := Aside0.mk A190
         clear A190
         have HC20 := Aside0.mk H
         clear H
         have hcz21_0 : wc.cell? ⟨gb366, 0, none⟩ = some (.int .i64 x367000_5) := (blk_cell BK366.out 0).trans rfl
         have hcz21_1 : wc.cell? ⟨gb366, 1, none⟩ = some (.int .i64 x367001_11) := (blk_cell BK366.out 1).trans rfl
         have hfz21_0 := blk_frozen BK366.out 0
         have hfz21_1 := blk_frozen BK366.out 1
         go_upto_region 11 with (first | (go_at_call 12; (with_reducible refine (pcm_Get.calls kj11 (a0.extract 0 ((ji16) : Int).toNat) x367000_5 x367001_11 t367 t370 _ A19.out).mono ?_); rintro e w22 ⟨v368, rfl, ho0, hb⟩; have n0_ := Aside0.mk (Kd.S_lower ho0 (below_size (by repeat (first | (with_reducible first | exact HB.out | apply below_alloc | apply pw_below_drewN | apply below_drew1 | refine below_set ?_ GE366.out) | exact HB.out)))); have n1_ := Aside0.mk (blk_below (g := gb366) (o := .cells #[.int .i64 x367000_5, .int .i64 x367001_11] 24 (0, 0)) (by (with_reducible repeat (first | refine blk_drewN ?_ _ | refine blk_drew ?_ | refine blk_alloc ?_ _)); exact BK366.out) hb); have n2_ := Aside0.mk (below_step (by repeat (first | (with_reducible first | exact HB.out | apply below_alloc | apply pw_below_drewN | apply below_drew1 | refine below_set ?_ GE366.out) | exact HB.out)) hb); clear BK366; clear HB; have HO369 := n0_; have BK366 := n1_; have HB := n2_; clear n0_ n1_ n2_; (try clear hb); (try clear hb2); (try clear hk); (try clear hi); (try clear ho0)))
         repeat (go_quiet (first | (go_at_call 12; (with_reducible refine (pcm_Get.calls kj11 (a0.extract 0 ((ji16) : Int).toNat) x367000_5 x367001_11 t367 t370 _ A19.out).mono ?_); rintro e w22 ⟨v368, rfl, ho0, hb⟩; have n0_ := Aside0.mk (Kd.S_lower ho0 (below_size (by repeat (first | (with_reducible first | exact HB.out | apply below_alloc | apply pw_below_drewN | apply below_drew1 | refine below_set ?_ GE366.out) | exact HB.out)))); have n1_ := Aside0.mk (blk_below (g := gb366) (o := .cells #[.int .i64 x367000_5, .int .i64 x367001_11] 24 (0, 0)) (by (with_reducible repeat (first | refine blk_drewN ?_ _ | refine blk_drew ?_ | refine blk_alloc ?_ _)); exact BK366.out) hb); have n2_ := Aside0.mk (below_step (by repeat (first | (with_reducible first | exact HB.out | apply below_alloc | apply pw_below_drewN | apply below_drew1 | refine below_set ?_ GE366.out) | exact HB.out)) hb); clear BK366; clear HB; have HO369 := n0_; have BK366 := n1_; have HB := n2_; clear n0_ n1_ n2_; (try clear hb); (try clear hb2); (try clear hk); (try clear hi); (try clear ho0))); go_upto_region 11 with (first | (go_at_call 12; (with_reducible refine (pcm_Get.calls kj11 (a0.extract 0 ((ji16) : Int).toNat) x367000_5 x367001_11 t367 t370 _ A19.out).mono ?_); rintro e w22 ⟨v368, rfl, ho0, hb⟩; have n0_ := Aside0.mk (Kd.S_lower ho0 (below_size (by repeat (first | (with_reducible first | exact HB.out | apply below_alloc | apply pw_below_drewN | apply below_drew1 | refine below_set ?_ GE366.out) | exact HB.out)))); have n1_ := Aside0.mk (blk_below (g := gb366) (o := .cells #[.int .i64 x367000_5, .int .i64 x367001_11] 24 (0, 0)) (by (with_reducible repeat (first | refine blk_drewN ?_ _ | refine blk_drew ?_ | refine blk_alloc ?_ _)); exact BK366.out) hb); have n2_ := Aside0.mk (below_step (by repeat (first | (with_reducible first | exact HB.out | apply below_alloc | apply pw_below_drewN | apply below_drew1 | refine below_set ?_ GE366.out) | exact HB.out)) hb); clear BK366; clear HB; have HO369 := n0_; have BK366 := n1_; have HB := n2_; clear n0_ n1_ n2_; (try clear hb); (try clear hb2); (try clear hk); (try clear hi); (try clear ho0))))
         (try simp only [Act.put, List.setIfInBounds_toArray, List.set_cons_zero, List.set_cons_succ])
         go_cut [52] (fun v52 wc => ∃ (kq : Nat) (x52_19 : Bool), v52 = .bool x52_19 ∧ Aside0 (descantlaw19_PcmFrames.j2 kq a2 (wrap64 (Int.tdiv (wrap64 (x367000_5 * x367001_11)) 8)) (a0.extract 0 ((ji16) : Int).toNat) t367 x52_19 x367000_5 x367001_11 = some r) ∧ Aside0 (kq ≤ kj11) ∧ Aside0 (Kd.S (Kd.slice 3 (Kd.int .i64)) 44 wc w.heap.size (fun _ => True) v368 t367) ∧ Aside0 (wc.heap[gb366]? = some (.cells #[.int .i64 x367000_5, .int .i64 x367001_11] 24 (0, 0))) ∧ Aside0 (Below w.heap.size w wc))
         case first =>
          have H := HC20.out
          clear HC20
          replace H := Option.bind_eq_some_iff.mp H
          obtain ⟨t371, A230, H⟩ := H
          replace H : (if t371 = 0 then (descantlaw19_PcmFrames.j2 kj11 a2 (wrap64 (Int.tdiv (wrap64 (x367000_5 * x367001_11)) 8)) (a0.extract 0 ((ji16) : Int).toNat) t367 ((t367.length : Int) != x367000_5) x367000_5 x367001_11) else (descantlaw19_PcmFrames.j2 kj11 a2 (wrap64 (Int.tdiv (wrap64 (x367000_5 * x367001_11)) 8)) (a0.extract 0 ((ji16) : Int).toNat) t367 true x367000_5 x367001_11)) = some r := H
          have A23 := Aside0.mk A230
          clear A230
          by_cases c24 : t371 = 0
          ·rw [if_pos c24] at H
           have c24b0 : (t371 == 0) = true := beq_iff_eq.mpr c24
           have c24b1 : (t371 != 0) = false := bne_eq_false_iff_eq.mpr c24
           clear c24
           (first | rw [c24b0] | (simp only [i64_w, i32_w]; rw [c24b0]) | skip)
           have H' := Aside0.mk H
           clear H
           go_wp2_with (first | (go_at_call 17; (with_reducible refine (descantlaw0_Num.calls t370 t371 _ A23.out).mono ?_); rintro e w' ⟨rfl, ⟨nd, rfl⟩⟩; (try first | exact ⟨rfl, _, World.drewN_drewN _ _ _⟩ | exact ⟨rfl, _, Eq.trans (World.drewN_drewN _ _ _) (congrArg (World.drewN _) (Nat.add_assoc _ _ _))⟩); obtain ⟨Ao25, co25, eo25⟩ := Kd.S_slice HO369.out; subst eo25; have hcz26_0 : w22.cell? ⟨gb366, 0, none⟩ = some (.int .i64 x367000_5) := (blk_cell BK366.out 0).trans rfl; have hcz26_1 : w22.cell? ⟨gb366, 1, none⟩ = some (.int .i64 x367001_11) := (blk_cell BK366.out 1).trans rfl; have hfz26_0 := blk_frozen BK366.out 0; have hfz26_1 := blk_frozen BK366.out 1))
           repeat ((fail_if_success (with_reducible (first | refine Extra.ahead_loop ?_ | refine Extra.ahead_loop_seq ?_))); go_quiet (first | (go_at_call 17; (with_reducible refine (descantlaw0_Num.calls t370 t371 _ A23.out).mono ?_); rintro e w' ⟨rfl, ⟨nd, rfl⟩⟩; (try first | exact ⟨rfl, _, World.drewN_drewN _ _ _⟩ | exact ⟨rfl, _, Eq.trans (World.drewN_drewN _ _ _) (congrArg (World.drewN _) (Nat.add_assoc _ _ _))⟩); obtain ⟨Ao25, co25, eo25⟩ := Kd.S_slice HO369.out; subst eo25; have hcz26_0 : w22.cell? ⟨gb366, 0, none⟩ = some (.int .i64 x367000_5) := (blk_cell BK366.out 0).trans rfl; have hcz26_1 : w22.cell? ⟨gb366, 1, none⟩ = some (.int .i64 x367001_11) := (blk_cell BK366.out 1).trans rfl; have hfz26_0 := blk_frozen BK366.out 0; have hfz26_1 := blk_frozen BK366.out 1)); try go_wp2_with (first | (go_at_call 17; (with_reducible refine (descantlaw0_Num.calls t370 t371 _ A23.out).mono ?_); rintro e w' ⟨rfl, ⟨nd, rfl⟩⟩; (try first | exact ⟨rfl, _, World.drewN_drewN _ _ _⟩ | exact ⟨rfl, _, Eq.trans (World.drewN_drewN _ _ _) (congrArg (World.drewN _) (Nat.add_assoc _ _ _))⟩); obtain ⟨Ao25, co25, eo25⟩ := Kd.S_slice HO369.out; subst eo25; have hcz26_0 : w22.cell? ⟨gb366, 0, none⟩ = some (.int .i64 x367000_5) := (blk_cell BK366.out 0).trans rfl; have hcz26_1 : w22.cell? ⟨gb366, 1, none⟩ = some (.int .i64 x367001_11) := (blk_cell BK366.out 1).trans rfl; have hfz26_0 := blk_frozen BK366.out 0; have hfz26_1 := blk_frozen BK366.out 1)))
           go_meet
           case rel => exact ⟨_, (((t367.length : Int) != x367000_5)), (by first | rfl | (simp; done) | (simp [*]; done)), H', ⟨by have := HJ5.out; have := HJ11.out; first | omega | exact Nat.le_refl _⟩, ⟨by (with_reducible repeat (first | apply Kd.S_alloc | apply Kd.S_drewN | apply Kd.S_drew)); exact HO369.out⟩, ⟨by (with_reducible repeat (first | refine blk_drewN ?_ _ | refine blk_drew ?_ | refine blk_alloc ?_ _)); exact BK366.out⟩, ⟨by repeat (first | (with_reducible first | exact HB.out | apply below_alloc | apply pw_below_drewN | apply below_drew1 | refine below_set ?_ GE366.out) | exact HB.out)⟩⟩
          ·rw [if_neg c24] at H
           have c24b0 : (t371 == 0) = false := beq_eq_false_iff_ne.mpr c24
           have c24b1 : (t371 != 0) = true := bne_iff_ne.mpr c24
           (first | rw [c24b0] | (simp only [i64_w, i32_w]; rw [c24b0]) | skip)
           have H' := Aside0.mk H
           clear H
           go_wp2_with (first | (go_at_call 17; (with_reducible refine (descantlaw0_Num.calls t370 t371 _ A23.out).mono ?_); rintro e w' ⟨rfl, ⟨nd, rfl⟩⟩; (try first | exact ⟨rfl, _, World.drewN_drewN _ _ _⟩ | exact ⟨rfl, _, Eq.trans (World.drewN_drewN _ _ _) (congrArg (World.drewN _) (Nat.add_assoc _ _ _))⟩)))
           repeat ((fail_if_success (with_reducible (first | refine Extra.ahead_loop ?_ | refine Extra.ahead_loop_seq ?_))); go_quiet (first | (go_at_call 17; (with_reducible refine (descantlaw0_Num.calls t370 t371 _ A23.out).mono ?_); rintro e w' ⟨rfl, ⟨nd, rfl⟩⟩; (try first | exact ⟨rfl, _, World.drewN_drewN _ _ _⟩ | exact ⟨rfl, _, Eq.trans (World.drewN_drewN _ _ _) (congrArg (World.drewN _) (Nat.add_assoc _ _ _))⟩))); try go_wp2_with (first | (go_at_call 17; (with_reducible refine (descantlaw0_Num.calls t370 t371 _ A23.out).mono ?_); rintro e w' ⟨rfl, ⟨nd, rfl⟩⟩; (try first | exact ⟨rfl, _, World.drewN_drewN _ _ _⟩ | exact ⟨rfl, _, Eq.trans (World.drewN_drewN _ _ _) (congrArg (World.drewN _) (Nat.add_assoc _ _ _))⟩))))
           go_meet
           case rel => exact ⟨_, (true), (by first | rfl | (simp; done) | (simp [*]; done)), H', ⟨by have := HJ5.out; have := HJ11.out; first | omega | exact Nat.le_refl _⟩, ⟨by (with_reducible repeat (first | apply Kd.S_alloc | apply Kd.S_drewN | apply Kd.S_drew)); exact HO369.out⟩, ⟨by (with_reducible repeat (first | refine blk_drewN ?_ _ | refine blk_drew ?_ | refine blk_alloc ?_ _)); exact BK366.out⟩, ⟨by repeat (first | (with_reducible first | exact HB.out | apply below_alloc | apply pw_below_drewN | apply below_drew1 | refine below_set ?_ GE366.out) | exact HB.out)⟩⟩
         case rest =>
          clear HC20
          try clear c1
          try clear c2
          try clear p2
          try clear c5
          try clear p6
          try clear c10
          try clear c13
          try clear c15
          try clear c15b0
          try clear c15b1
          try clear c17
          try clear c17b0
          try clear c17b1
          try clear c18
          try clear c18b0
          try clear c18b1
          try clear c24
          try clear c24b0
          try clear c24b1
          try clear hcz11_0
          try clear hcz11_1
          try clear hcz14_0
          try clear hcz14_1
          try clear hcz21_0
          try clear hcz21_1
          try clear hcz26_0
          try clear hcz26_1
          try clear hcz9_0
          try clear hcz9_1
          try clear hfz11_0
          try clear hfz11_1
          try clear hfz14_0
          try clear hfz14_1
          try clear hfz21_0
          try clear hfz21_1
          try clear hfz26_0
          try clear hfz26_1
          try clear hfz9_0
          try clear hfz9_1
          try clear p2
          obtain ⟨kq, x52_19, rfl, HA, HJ19, HO_10, BK366, HB⟩ := hcut
          cases kq with
          | zero => exact absurd HA.out (by simp [descantlaw19_PcmFrames.j2])
          | succ kj19 =>
           have H := HA.out
           clear HA
           simp only [descantlaw19_PcmFrames.j2] at H
           by_cases c27 : x52_19 = true
           ·subst c27
            have H1 : (some (decide (((a0.extract 0 ((ji16) : Int).toNat).size : Int) > 4096))) = some r := by rw [if_pos rfl] at H; exact H
            clear H
            have H := H1
            clear H1
            obtain rfl := Option.some.inj H
            go_wp2
            repeat ((fail_if_success (with_reducible (first | refine Extra.ahead_loop ?_ | refine Extra.ahead_loop_seq ?_))); go_quiet (fail); try go_wp2)
            go_ret
            exact ⟨by first | rfl | (simp [errW_none, errW_some] <;> rfl) | (simp only [← hji16]; first | rfl | (simp [errW_none, errW_some] <;> rfl)) | (simp [*, errW_none, errW_some] <;> rfl), by repeat (first | (with_reducible first | exact HB.out | apply below_alloc | apply pw_below_drewN | apply below_drew1 | refine below_set ?_ GE366.out) | exact HB.out)⟩
           ·replace c27 := Bool.eq_false_iff.mpr c27
            subst c27
            have H1 : (descantlaw19_PcmFrames.l0 kj19 a2 (wrap64 (Int.tdiv (wrap64 (x367000_5 * x367001_11)) 8)) (a0.extract 0 ((ji16) : Int).toNat) t367 0 x367000_5 x367001_11) = some r := by rw [if_neg (show ¬ (false = true) by decide)] at H; exact H
            clear H
            have H := H1
            clear H1
            have H' := Aside0.mk H
            clear H
            go_wp2
            repeat ((fail_if_success (with_reducible (first | refine Extra.ahead_loop ?_ | refine Extra.ahead_loop_seq ?_))); go_quiet (fail); try go_wp2)
            go_loopg [12] kj19 (fun kq v12 w' => ∃ (x12_4 : Int), v12 = .int .i64 x12_4 ∧ Aside0 (descantlaw19_PcmFrames.l0 kq a2 (wrap64 (Int.tdiv (wrap64 (x367000_5 * x367001_11)) 8)) (a0.extract 0 ((ji16) : Int).toNat) t367 x12_4 x367000_5 x367001_11 = some r) ∧ Aside0 (kq ≤ kj19) ∧ Aside0 (Kd.S (Kd.slice 3 (Kd.int .i64)) 44 w' w.heap.size (fun _ => True) v368 t367) ∧ Aside0 (w'.heap[gb366]? = some (.cells #[.int .i64 x367000_5, .int .i64 x367001_11] 24 (0, 0))) ∧ Aside0 (Below w.heap.size w w'))
            case atStart => exact ⟨(0), (by first | rfl | (simp; done) | (simp [*]; done)), H', ⟨Nat.le_refl _⟩, ⟨by (with_reducible repeat (first | apply Kd.S_alloc | apply Kd.S_drewN | apply Kd.S_drew)); exact HO_10.out⟩, ⟨by (with_reducible repeat (first | refine blk_drewN ?_ _ | refine blk_drew ?_ | refine blk_alloc ?_ _)); exact BK366.out⟩, ⟨by repeat (first | (with_reducible first | exact HB.out | apply below_alloc | apply pw_below_drewN | apply below_drew1 | refine below_set ?_ GE366.out) | exact HB.out)⟩⟩
            case round =>
             clear H'
             try clear c1
             try clear c2
             try clear p2
             try clear c5
             try clear p6
             try clear c10
             try clear c13
             try clear c15
             try clear c15b0
             try clear c15b1
             try clear c17
             try clear c17b0
             try clear c17b1
             try clear c18
             try clear c18b0
             try clear c18b1
             try clear c24
             try clear c24b0
             try clear c24b1
             try clear c27
             try clear hcz11_0
             try clear hcz11_1
             try clear hcz14_0
             try clear hcz14_1
             try clear hcz21_0
             try clear hcz21_1
             try clear hcz26_0
             try clear hcz26_1
             try clear hcz9_0
             try clear hcz9_1
             try clear hfz11_0
             try clear hfz11_1
             try clear hfz14_0
             try clear hfz14_1
             try clear hfz21_0
             try clear hfz21_1
             try clear hfz26_0
             try clear hfz26_1
             try clear hfz9_0
             try clear hfz9_1
             try clear p2
             try clear p6
             obtain ⟨x12_4, rfl, HA, HK4, HO_10, BK366, HB⟩ := hrel
             cases gk with
             | zero => exact absurd HA.out (by simp [descantlaw19_PcmFrames.l0])
             | succ k4 =>
              have H := HA.out
              clear HA
              simp only [descantlaw19_PcmFrames.l0] at H
              by_cases c28 : x12_4 < x367000_5
              ·rw [if_pos c28] at H
               have c28b0 : decide (x12_4 < x367000_5) = true := decide_eq_true c28
               clear c28
               by_cases c29 : 0 ≤ x12_4
               ·rw [if_pos c29] at H
                have c29b0 : decide (0 ≤ x12_4) = true := decide_eq_true c29
                clear c29
                by_cases c30 : x12_4 < (t367.length : Int)
                ·rw [if_pos c30] at H
                 have c30b0 : decide (x12_4 < (t367.length : Int)) = true := decide_eq_true c30
                 clear c30
                 by_cases c31 : (wrap64 (Int.tdiv (wrap64 (x367000_5 * x367001_11)) 8)) = 0
                 ·rw [if_pos c31] at H
                  exact absurd H (by simp)
                 ·rw [if_neg c31] at H
                  have c31b0 : ((wrap64 (Int.tdiv (wrap64 (x367000_5 * x367001_11)) 8)) == 0) = false := beq_eq_false_iff_ne.mpr c31
                  have c31b1 : ((wrap64 (Int.tdiv (wrap64 (x367000_5 * x367001_11)) 8)) != 0) = true := bne_iff_ne.mpr c31
                  by_cases c32 : ((rd_L1 t367 x12_4).length : Int) = (wrap64 (((a0.extract 0 ((ji16) : Int).toNat).size : Int) / (wrap64 (Int.tdiv (wrap64 (x367000_5 * x367001_11)) 8))))
                  ·rw [if_pos c32] at H
                   have c32b0 : (((rd_L1 t367 x12_4).length : Int) == (wrap64 (((a0.extract 0 ((ji16) : Int).toNat).size : Int) / (wrap64 (Int.tdiv (wrap64 (x367000_5 * x367001_11)) 8))))) = true := beq_iff_eq.mpr c32
                   have c32b0x : (((rd_L1 t367 x12_4).length : Int) == (wrap64 (((min ((ji16) : Int).toNat a0.size : Nat) : Int) / (wrap64 (Int.tdiv (wrap64 (x367000_5 * x367001_11)) 8))))) = true := by have e_ := c32b0; rwa [show (a0.extract 0 ((ji16) : Int).toNat).size = min ((ji16) : Int).toNat a0.size by simp] at e_
                   have c32b1 : (((rd_L1 t367 x12_4).length : Int) != (wrap64 (((a0.extract 0 ((ji16) : Int).toNat).size : Int) / (wrap64 (Int.tdiv (wrap64 (x367000_5 * x367001_11)) 8))))) = false := bne_eq_false_iff_eq.mpr c32
                   have c32b1x : (((rd_L1 t367 x12_4).length : Int) != (wrap64 (((min ((ji16) : Int).toNat a0.size : Nat) : Int) / (wrap64 (Int.tdiv (wrap64 (x367000_5 * x367001_11)) 8))))) = false := by have e_ := c32b1; rwa [show (a0.extract 0 ((ji16) : Int).toNat).size = min ((ji16) : Int).toNat a0.size by simp] at e_
                   clear c32
                   have H' := Aside0.mk H
                   clear H
                   have hcz33_0 : wr.cell? ⟨gb366, 0, none⟩ = some (.int .i64 x367000_5) := (blk_cell BK366.out 0).trans rfl
                   have hcz33_1 : wr.cell? ⟨gb366, 1, none⟩ = some (.int .i64 x367001_11) := (blk_cell BK366.out 1).trans rfl
                   have hfz33_0 := blk_frozen BK366.out 0
                   have hfz33_1 := blk_frozen BK366.out 1
                   obtain ⟨Ao34, co34, eo34⟩ := Kd.S_slice HO_10.out
                   subst eo34
                   have p372 : 0 ≤ (x12_4 : Int) := of_decide_eq_true (by first | (with_reducible assumption) | assumption)
                   have q372 : x12_4 < (t367.length : Int) := of_decide_eq_true (by first | (with_reducible assumption) | assumption)
                   obtain ⟨ad372, A372_0, c372_0, e372, hx372_0, hl372_0, hi372_0⟩ := at_L1 (Kd.S_reads' HO_10.out).2.2 x12_4 p372 q372
                   cases e372
                   obtain ⟨ce372, hce372, hMe372, hcc372⟩ := Kd.S_get HO_10.out [] x12_4 p372 (by first | exact q372 | exact of_decide_eq_true (by first | (with_reducible assumption) | assumption) | (have e_ := (Kd.S_reads' HO_10.out).1; omega))
                   obtain ⟨ve372_0, rfl, ge372_0⟩ := hMe372
                   have hv372_0 := hcc372 0 _ rfl
                   rw [Nat.add_zero, show ((Kd.slice 3 (Kd.int .i64))).sz = 1 from rfl, Nat.mul_one] at hv372_0
                   replace hv372_0 := Option.some.inj (hv372_0.symm.trans hx372_0)
                   rw [hv372_0] at ge372_0
                   have HL372_0 := Aside0.mk (show Kd.R (Kd.int .i64) 3 _ _ _ _ (rd_L1 t367 x12_4) from ge372_0)
                   clear hv372_0 ge372_0
                   clear hcc372 hce372
                   have HR372_0 := Aside0.mk hi372_0
                   have HC372_0 := Aside0.mk hl372_0
                   clear hi372_0 hl372_0
                   replace p372 := eq_true p372
                   replace q372 := eq_true q372
                   go_wp2
                   repeat ((fail_if_success (with_reducible (first | refine Extra.ahead_loop ?_ | refine Extra.ahead_loop_seq ?_))); go_quiet (fail); try go_wp2)
                   go_loopg [13] k4 (fun kq v13 w' => ∃ (x13_5 : Int), v13 = .int .i64 x13_5 ∧ Aside0 (descantlaw19_PcmFrames.l1 kq a2 (wrap64 (Int.tdiv (wrap64 (x367000_5 * x367001_11)) 8)) (a0.extract 0 ((ji16) : Int).toNat) t367 x12_4 x13_5 x367000_5 x367001_11 = some r) ∧ Aside0 (kq ≤ k4) ∧ Aside0 (Kd.S (Kd.slice 3 (Kd.int .i64)) 44 w' w.heap.size (fun _ => True) (.slice (some ad372) t367.length co34) t367) ∧ Aside0 (w'.heap[gb366]? = some (.cells #[.int .i64 x367000_5, .int .i64 x367001_11] 24 (0, 0))) ∧ Aside0 (Kd.C (Kd.int .i64) w' A372_0 (rd_L1 t367 x12_4).length (rd_L1 t367 x12_4)) ∧ Aside0 (Below w.heap.size w w'))
                   case atStart => exact ⟨(0), (by first | rfl | (simp; done) | (simp [*]; done)), H', ⟨Nat.le_refl _⟩, ⟨by (with_reducible repeat (first | apply Kd.S_alloc | apply Kd.S_drewN | apply Kd.S_drew)); exact HO_10.out⟩, ⟨by (with_reducible repeat (first | refine blk_drewN ?_ _ | refine blk_drew ?_ | refine blk_alloc ?_ _)); exact BK366.out⟩, ⟨by repeat (first | (with_reducible exact HR372_0.out) | (with_reducible refine Kd.C_alloc ?_ _) | (with_reducible refine Kd.C_drewN ?_ _) | (with_reducible refine Kd.C_drew ?_) | exact HR372_0.out)⟩, ⟨by repeat (first | (with_reducible first | exact HB.out | apply below_alloc | apply pw_below_drewN | apply below_drew1 | refine below_set ?_ GE366.out) | exact HB.out)⟩⟩
                   case round =>
                    clear H'
                    try clear c1
                    try clear c2
                    try clear p2
                    try clear c3
                    try clear p3
                    try clear q3
                    try clear hx3
                    try clear c5
                    try clear p6
                    try clear c10
                    try clear c13
                    try clear c15
                    try clear c15b0
                    try clear c15b1
                    try clear c17
                    try clear c17b0
                    try clear c17b1
                    try clear c18
                    try clear c18b0
                    try clear c18b1
                    try clear c24
                    try clear c24b0
                    try clear c24b1
                    try clear c27
                    try clear c28
                    try clear c28b0
                    try clear c29
                    try clear c29b0
                    try clear c30
                    try clear c30b0
                    try clear c31
                    try clear c31b0
                    try clear c31b1
                    try clear c32
                    try clear c32b0
                    try clear c32b1
                    try clear hcz11_0
                    try clear hcz11_1
                    try clear hcz14_0
                    try clear hcz14_1
                    try clear hcz21_0
                    try clear hcz21_1
                    try clear hcz26_0
                    try clear hcz26_1
                    try clear hcz33_0
                    try clear hcz33_1
                    try clear hcz9_0
                    try clear hcz9_1
                    try clear hfz11_0
                    try clear hfz11_1
                    try clear hfz14_0
                    try clear hfz14_1
                    try clear hfz21_0
                    try clear hfz21_1
                    try clear hfz26_0
                    try clear hfz26_1
                    try clear hfz33_0
                    try clear hfz33_1
                    try clear hfz9_0
                    try clear hfz9_1
                    try clear hx372_0
                    try clear p2
                    try clear p372
                    try clear p6
                    try clear q372
                    obtain ⟨x13_5, rfl, HA, HK5, HO_10, BK366, HR372_0, HB⟩ := hrel
                    cases gk with
                    | zero => exact absurd HA.out (by simp [descantlaw19_PcmFrames.l1])
                    | succ k5 =>
                     have H := HA.out
                     clear HA
                     simp only [descantlaw19_PcmFrames.l1] at H
                     by_cases c35 : 0 ≤ x12_4
                     ·rw [if_pos c35] at H
                      have c35b0 : decide (0 ≤ x12_4) = true := decide_eq_true c35
                      clear c35
                      by_cases c36 : x12_4 < (t367.length : Int)
                      ·rw [if_pos c36] at H
                       have c36b0 : decide (x12_4 < (t367.length : Int)) = true := decide_eq_true c36
                       clear c36
                       by_cases c37 : x13_5 < ((rd_L1 t367 x12_4).length : Int)
                       ·rw [if_pos c37] at H
                        have c37b0 : decide (x13_5 < ((rd_L1 t367 x12_4).length : Int)) = true := decide_eq_true c37
                        clear c37
                        obtain ⟨ji38, hji38⟩ : ∃ j_ : Int, (wrap64 ((wrap64 (x13_5 * (wrap64 (Int.tdiv (wrap64 (x367000_5 * x367001_11)) 8)))) + (wrap64 (Int.tdiv (wrap64 (x12_4 * x367001_11)) 8)))) = j_ := ⟨_, rfl⟩
                        replace H : (if 0 ≤ (ji38) then (if (ji38) < ((a0.extract 0 ((ji16) : Int).toNat).size : Int) then (if a2 = true then (if 0 ≤ (wrap64 ((ji38) + 1)) then (if (wrap64 ((ji38) + 1)) < ((a0.extract 0 ((ji16) : Int).toNat).size : Int) then (if (wrap64 ((wrap64 (bt (a0.extract 0 ((ji16) : Int).toNat) (ji38))) + (wrap64 (256 * (wrap64 (bt (a0.extract 0 ((ji16) : Int).toNat) (wrap64 ((ji38) + 1)))))))) > 32767 then (if 0 ≤ x13_5 then (if (rd (rd_L1 t367 x12_4) x13_5) = (wrap64 ((wrap64 ((wrap64 (bt (a0.extract 0 ((ji16) : Int).toNat) (ji38))) + (wrap64 (256 * (wrap64 (bt (a0.extract 0 ((ji16) : Int).toNat) (wrap64 ((ji38) + 1)))))))) - 65536)) then (descantlaw19_PcmFrames.l1 k5 a2 (wrap64 (Int.tdiv (wrap64 (x367000_5 * x367001_11)) 8)) (a0.extract 0 ((ji16) : Int).toNat) t367 x12_4 (wrap64 (x13_5 + 1)) x367000_5 x367001_11) else (none)) else (none)) else (if 0 ≤ x13_5 then (if (rd (rd_L1 t367 x12_4) x13_5) = (wrap64 ((wrap64 (bt (a0.extract 0 ((ji16) : Int).toNat) (ji38))) + (wrap64 (256 * (wrap64 (bt (a0.extract 0 ((ji16) : Int).toNat) (wrap64 ((ji38) + 1)))))))) then (descantlaw19_PcmFrames.l1 k5 a2 (wrap64 (Int.tdiv (wrap64 (x367000_5 * x367001_11)) 8)) (a0.extract 0 ((ji16) : Int).toNat) t367 x12_4 (wrap64 (x13_5 + 1)) x367000_5 x367001_11) else (none)) else (none))) else (none)) else (none)) else (if 0 ≤ x13_5 then (if (rd (rd_L1 t367 x12_4) x13_5) = (wrap64 ((wrap64 (bt (a0.extract 0 ((ji16) : Int).toNat) (ji38))) - 128)) then (descantlaw19_PcmFrames.l1 k5 a2 (wrap64 (Int.tdiv (wrap64 (x367000_5 * x367001_11)) 8)) (a0.extract 0 ((ji16) : Int).toNat) t367 x12_4 (wrap64 (x13_5 + 1)) x367000_5 x367001_11) else (none)) else (none))) else (none)) else (none)) = some r := by first | (rw [hji38] at H; exact H) | (simp only [hji38] at H ⊢; exact H)
                        have hji38w : (IntKind.i64.wrap ((wrap64 (x13_5 * (wrap64 (Int.tdiv (wrap64 (x367000_5 * x367001_11)) 8)))) + (wrap64 (Int.tdiv (wrap64 (x12_4 * x367001_11)) 8)))) = ji38 := (i64_w _).trans hji38
                        by_cases c39 : 0 ≤ (ji38)
                        ·rw [if_pos c39] at H
                         have c39b0 : decide (0 ≤ (ji38)) = true := decide_eq_true c39
                         clear c39
                         by_cases c40 : (ji38) < ((a0.extract 0 ((ji16) : Int).toNat).size : Int)
                         ·rw [if_pos c40] at H
                          have c40b0 : decide ((ji38) < ((a0.extract 0 ((ji16) : Int).toNat).size : Int)) = true := decide_eq_true c40
                          have c40b0x : decide ((ji38) < ((min ((ji16) : Int).toNat a0.size : Nat) : Int)) = true := by have e_ := c40b0; rwa [show (a0.extract 0 ((ji16) : Int).toNat).size = min ((ji16) : Int).toNat a0.size by simp] at e_
                          clear c40
                          by_cases c42 : a2 = true
                          ·subst c42
                           have H1 : (if 0 ≤ (wrap64 ((ji38) + 1)) then (if (wrap64 ((ji38) + 1)) < ((a0.extract 0 ((ji16) : Int).toNat).size : Int) then (if (wrap64 ((wrap64 (bt (a0.extract 0 ((ji16) : Int).toNat) (ji38))) + (wrap64 (256 * (wrap64 (bt (a0.extract 0 ((ji16) : Int).toNat) (wrap64 ((ji38) + 1)))))))) > 32767 then (if 0 ≤ x13_5 then (if (rd (rd_L1 t367 x12_4) x13_5) = (wrap64 ((wrap64 ((wrap64 (bt (a0.extract 0 ((ji16) : Int).toNat) (ji38))) + (wrap64 (256 * (wrap64 (bt (a0.extract 0 ((ji16) : Int).toNat) (wrap64 ((ji38) + 1)))))))) - 65536)) then (descantlaw19_PcmFrames.l1 k5 true (wrap64 (Int.tdiv (wrap64 (x367000_5 * x367001_11)) 8)) (a0.extract 0 ((ji16) : Int).toNat) t367 x12_4 (wrap64 (x13_5 + 1)) x367000_5 x367001_11) else (none)) else (none)) else (if 0 ≤ x13_5 then (if (rd (rd_L1 t367 x12_4) x13_5) = (wrap64 ((wrap64 (bt (a0.extract 0 ((ji16) : Int).toNat) (ji38))) + (wrap64 (256 * (wrap64 (bt (a0.extract 0 ((ji16) : Int).toNat) (wrap64 ((ji38) + 1)))))))) then (descantlaw19_PcmFrames.l1 k5 true (wrap64 (Int.tdiv (wrap64 (x367000_5 * x367001_11)) 8)) (a0.extract 0 ((ji16) : Int).toNat) t367 x12_4 (wrap64 (x13_5 + 1)) x367000_5 x367001_11) else (none)) else (none))) else (none)) else (none)) = some r := by rw [if_pos rfl] at H; exact H
                           clear H
                           have H := H1
                           clear H1
                           obtain ⟨ji44, hji44⟩ : ∃ j_ : Int, (wrap64 ((ji38) + 1)) = j_ := ⟨_, rfl⟩
                           replace H : (if 0 ≤ (ji44) then (if (ji44) < ((a0.extract 0 ((ji16) : Int).toNat).size : Int) then (if (wrap64 ((wrap64 (bt (a0.extract 0 ((ji16) : Int).toNat) (ji38))) + (wrap64 (256 * (wrap64 (bt (a0.extract 0 ((ji16) : Int).toNat) (ji44))))))) > 32767 then (if 0 ≤ x13_5 then (if (rd (rd_L1 t367 x12_4) x13_5) = (wrap64 ((wrap64 ((wrap64 (bt (a0.extract 0 ((ji16) : Int).toNat) (ji38))) + (wrap64 (256 * (wrap64 (bt (a0.extract 0 ((ji16) : Int).toNat) (ji44))))))) - 65536)) then (descantlaw19_PcmFrames.l1 k5 true (wrap64 (Int.tdiv (wrap64 (x367000_5 * x367001_11)) 8)) (a0.extract 0 ((ji16) : Int).toNat) t367 x12_4 (wrap64 (x13_5 + 1)) x367000_5 x367001_11) else (none)) else (none)) else (if 0 ≤ x13_5 then (if (rd (rd_L1 t367 x12_4) x13_5) = (wrap64 ((wrap64 (bt (a0.extract 0 ((ji16) : Int).toNat) (ji38))) + (wrap64 (256 * (wrap64 (bt (a0.extract 0 ((ji16) : Int).toNat) (ji44))))))) then (descantlaw19_PcmFrames.l1 k5 true (wrap64 (Int.tdiv (wrap64 (x367000_5 * x367001_11)) 8)) (a0.extract 0 ((ji16) : Int).toNat) t367 x12_4 (wrap64 (x13_5 + 1)) x367000_5 x367001_11) else (none)) else (none))) else (none)) else (none)) = some r := by first | (rw [hji44] at H; exact H) | (simp only [hji44] at H ⊢; exact H)
                           have hji44w : (IntKind.i64.wrap ((ji38) + 1)) = ji44 := (i64_w _).trans hji44
                           by_cases c45 : 0 ≤ (ji44)
                           ·rw [if_pos c45] at H
                            have c45b0 : decide (0 ≤ (ji44)) = true := decide_eq_true c45
                            clear c45
                            by_cases c46 : (ji44) < ((a0.extract 0 ((ji16) : Int).toNat).size : Int)
                            ·rw [if_pos c46] at H
                             have c46b0 : decide ((ji44) < ((a0.extract 0 ((ji16) : Int).toNat).size : Int)) = true := decide_eq_true c46
                             have c46b0x : decide ((ji44) < ((min ((ji16) : Int).toNat a0.size : Nat) : Int)) = true := by have e_ := c46b0; rwa [show (a0.extract 0 ((ji16) : Int).toNat).size = min ((ji16) : Int).toNat a0.size by simp] at e_
                             clear c46
                             by_cases c48 : (wrap64 ((wrap64 (bt (a0.extract 0 ((ji16) : Int).toNat) (ji38))) + (wrap64 (256 * (wrap64 (bt (a0.extract 0 ((ji16) : Int).toNat) (ji44))))))) > 32767
                             ·rw [if_pos c48] at H
                              have c48b0 : decide (32767 < (wrap64 ((wrap64 (bt (a0.extract 0 ((ji16) : Int).toNat) (ji38))) + (wrap64 (256 * (wrap64 (bt (a0.extract 0 ((ji16) : Int).toNat) (ji44)))))))) = true := decide_eq_true c48
                              clear c48
                              by_cases c49 : 0 ≤ x13_5
                              ·rw [if_pos c49] at H
                               have c49b0 : decide (0 ≤ x13_5) = true := decide_eq_true c49
                               clear c49
                               by_cases c50 : (rd (rd_L1 t367 x12_4) x13_5) = (wrap64 ((wrap64 ((wrap64 (bt (a0.extract 0 ((ji16) : Int).toNat) (ji38))) + (wrap64 (256 * (wrap64 (bt (a0.extract 0 ((ji16) : Int).toNat) (ji44))))))) - 65536))
                               ·rw [if_pos c50] at H
                                have c50b0 : ((rd (rd_L1 t367 x12_4) x13_5) == (wrap64 ((wrap64 ((wrap64 (bt (a0.extract 0 ((ji16) : Int).toNat) (ji38))) + (wrap64 (256 * (wrap64 (bt (a0.extract 0 ((ji16) : Int).toNat) (ji44))))))) - 65536))) = true := beq_iff_eq.mpr c50
                                have c50b1 : ((rd (rd_L1 t367 x12_4) x13_5) != (wrap64 ((wrap64 ((wrap64 (bt (a0.extract 0 ((ji16) : Int).toNat) (ji38))) + (wrap64 (256 * (wrap64 (bt (a0.extract 0 ((ji16) : Int).toNat) (ji44))))))) - 65536))) = false := bne_eq_false_iff_eq.mpr c50
                                clear c50
                                have H' := Aside0.mk H
                                clear H
                                have p373 : 0 ≤ (x12_4 : Int) := of_decide_eq_true (by first | (with_reducible assumption) | assumption)
                                have q373 : x12_4 < (t367.length : Int) := of_decide_eq_true (by first | (with_reducible assumption) | assumption)
                                obtain ⟨ad373, A373_0, c373_0, e373, hx373_0, hl373_0, hi373_0⟩ := at_L1 (Kd.S_reads' HO_10.out).2.2 x12_4 p373 q373
                                obtain rfl : ad372 = ad373 := (by injection e373)
                                obtain ⟨ce373, hce373, hMe373, hcc373⟩ := Kd.S_get HO_10.out [] x12_4 p373 (by first | exact q373 | exact of_decide_eq_true (by first | (with_reducible assumption) | assumption) | (have e_ := (Kd.S_reads' HO_10.out).1; omega))
                                obtain ⟨ve373_0, rfl, ge373_0⟩ := hMe373
                                have hv373_0 := hcc373 0 _ rfl
                                rw [Nat.add_zero, show ((Kd.slice 3 (Kd.int .i64))).sz = 1 from rfl, Nat.mul_one] at hv373_0
                                replace hv373_0 := Option.some.inj (hv373_0.symm.trans hx373_0)
                                rw [hv373_0] at ge373_0
                                have HL373_0 := Aside0.mk (show Kd.R (Kd.int .i64) 3 _ _ _ _ (rd_L1 t367 x12_4) from ge373_0)
                                clear hv373_0 ge373_0
                                clear hcc373 hce373
                                have HR373_0 := Aside0.mk hi373_0
                                have HC373_0 := Aside0.mk hl373_0
                                clear hi373_0 hl373_0
                                replace p373 := eq_true p373
                                replace q373 := eq_true q373
                                have hcz51_0 : wr.cell? ⟨gb366, 0, none⟩ = some (.int .i64 x367000_5) := (blk_cell BK366.out 0).trans rfl
                                have hcz51_1 : wr.cell? ⟨gb366, 1, none⟩ = some (.int .i64 x367001_11) := (blk_cell BK366.out 1).trans rfl
                                have hfz51_0 := blk_frozen BK366.out 0
                                have hfz51_1 := blk_frozen BK366.out 1
                                have p41 : 0 ≤ ((ji38) : Int) := of_decide_eq_true (by first | (with_reducible assumption) | assumption)
                                have q41 : (ji38) < ((a0.extract 0 ((ji16) : Int).toNat).size : Int) := of_decide_eq_true (by first | (with_reducible assumption) | assumption)
                                have q41x : (ji38) < ((min ((ji16) : Int).toNat a0.size : Nat) : Int) := by have e_ := q41; rwa [show (a0.extract 0 ((ji16) : Int).toNat).size = min ((ji16) : Int).toNat a0.size by simp] at e_
                                have hx41 := bt_at (a0.extract 0 ((ji16) : Int).toNat) (ji38)
                                replace p41 := eq_true p41
                                replace q41 := eq_true q41
                                have p43 : 0 ≤ ((ji38) : Int) := of_decide_eq_true (by first | (with_reducible assumption) | assumption)
                                have q43 : (ji38) < ((a0.extract 0 ((ji16) : Int).toNat).size : Int) := of_decide_eq_true (by first | (with_reducible assumption) | assumption)
                                have q43x : (ji38) < ((min ((ji16) : Int).toNat a0.size : Nat) : Int) := by have e_ := q43; rwa [show (a0.extract 0 ((ji16) : Int).toNat).size = min ((ji16) : Int).toNat a0.size by simp] at e_
                                have hx43 := bt_at (a0.extract 0 ((ji16) : Int).toNat) (ji38)
                                replace p43 := eq_true p43
                                replace q43 := eq_true q43
                                have p47 : 0 ≤ ((ji44) : Int) := of_decide_eq_true (by first | (with_reducible assumption) | assumption)
                                have q47 : (ji44) < ((a0.extract 0 ((ji16) : Int).toNat).size : Int) := of_decide_eq_true (by first | (with_reducible assumption) | assumption)
                                have q47x : (ji44) < ((min ((ji16) : Int).toNat a0.size : Nat) : Int) := by have e_ := q47; rwa [show (a0.extract 0 ((ji16) : Int).toNat).size = min ((ji16) : Int).toNat a0.size by simp] at e_
                                have hx47 := bt_at (a0.extract 0 ((ji16) : Int).toNat) (ji44)
                                replace p47 := eq_true p47
                                replace q47 := eq_true q47
                                have p374 : 0 ≤ (x12_4 : Int) := of_decide_eq_true (by first | (with_reducible assumption) | assumption)
                                have q374 : x12_4 < (t367.length : Int) := of_decide_eq_true (by first | (with_reducible assumption) | assumption)
                                obtain ⟨ad374, A374_0, c374_0, e374, hx374_0, hl374_0, hi374_0⟩ := at_L1 (Kd.S_reads' HO_10.out).2.2 x12_4 p374 q374
                                obtain rfl : ad372 = ad374 := (by injection e374)
                                obtain ⟨ce374, hce374, hMe374, hcc374⟩ := Kd.S_get HO_10.out [] x12_4 p374 (by first | exact q374 | exact of_decide_eq_true (by first | (with_reducible assumption) | assumption) | (have e_ := (Kd.S_reads' HO_10.out).1; omega))
                                obtain ⟨ve374_0, rfl, ge374_0⟩ := hMe374
                                have hv374_0 := hcc374 0 _ rfl
                                rw [Nat.add_zero, show ((Kd.slice 3 (Kd.int .i64))).sz = 1 from rfl, Nat.mul_one] at hv374_0
                                replace hv374_0 := Option.some.inj (hv374_0.symm.trans hx374_0)
                                rw [hv374_0] at ge374_0
                                have HL374_0 := Aside0.mk (show Kd.R (Kd.int .i64) 3 _ _ _ _ (rd_L1 t367 x12_4) from ge374_0)
                                clear hv374_0 ge374_0
                                clear hcc374 hce374
                                have HR374_0 := Aside0.mk hi374_0
                                have HC374_0 := Aside0.mk hl374_0
                                clear hi374_0 hl374_0
                                replace p374 := eq_true p374
                                replace q374 := eq_true q374
                                have ea_ := Option.some.inj (hx373_0.symm.trans hx374_0)
                                injection ea_ with ea_ en_ ec_
                                subst ea_
                                subst ec_
                                clear en_
                                have p375 : 0 ≤ (x13_5 : Int) := of_decide_eq_true (by first | (with_reducible assumption) | assumption)
                                have q375 : x13_5 < ((rd_L1 t367 x12_4).length : Int) := of_decide_eq_true (by first | (with_reducible assumption) | assumption)
                                obtain ⟨ad375, e375, hx375_0⟩ := Kd.at_int (by repeat (first | (with_reducible exact HR374_0.out) | (with_reducible refine Kd.C_alloc ?_ _) | (with_reducible refine Kd.C_drewN ?_ _) | (with_reducible refine Kd.C_drew ?_) | exact HR374_0.out)) x13_5 p375 q375
                                cases e375
                                replace p375 := eq_true p375
                                replace q375 := eq_true q375
                                go_wp2
                                repeat ((fail_if_success (with_reducible (first | refine Extra.ahead_loop ?_ | refine Extra.ahead_loop_seq ?_))); go_quiet (fail); try go_wp2)
                                go_roundg k5
                                case measure => have := HJ5.out; have := HJ11.out; have := HJ19.out; have := HK4.out; have := HK5.out; omega
                                case rel => exact ⟨(wrap64 (x13_5 + 1)), (by first | rfl | (simp; done) | (simp [*]; done)), H', ⟨by have := HJ5.out; have := HJ11.out; have := HJ19.out; have := HK4.out; have := HK5.out; omega⟩, ⟨by (with_reducible repeat (first | apply Kd.S_alloc | apply Kd.S_drewN | apply Kd.S_drew)); exact HO_10.out⟩, ⟨by (with_reducible repeat (first | refine blk_drewN ?_ _ | refine blk_drew ?_ | refine blk_alloc ?_ _)); exact BK366.out⟩, ⟨by repeat (first | (with_reducible exact HR372_0.out) | (with_reducible refine Kd.C_alloc ?_ _) | (with_reducible refine Kd.C_drewN ?_ _) | (with_reducible refine Kd.C_drew ?_) | exact HR372_0.out)⟩, ⟨by repeat (first | (with_reducible first | exact HB.out | apply below_alloc | apply pw_below_drewN | apply below_drew1 | refine below_set ?_ GE366.out) | exact HB.out)⟩⟩
                               ·rw [if_neg c50] at H
                                exact absurd H (by simp)
                              ·rw [if_neg c49] at H
                               exact absurd H (by simp)
                             ·rw [if_neg c48] at H
                              have c48b0 : decide (32767 < (wrap64 ((wrap64 (bt (a0.extract 0 ((ji16) : Int).toNat) (ji38))) + (wrap64 (256 * (wrap64 (bt (a0.extract 0 ((ji16) : Int).toNat) (ji44)))))))) = false := decide_eq_false c48
                              clear c48
                              by_cases c52 : 0 ≤ x13_5
                              ·rw [if_pos c52] at H
                               have c52b0 : decide (0 ≤ x13_5) = true := decide_eq_true c52
                               clear c52
                               by_cases c53 : (rd (rd_L1 t367 x12_4) x13_5) = (wrap64 ((wrap64 (bt (a0.extract 0 ((ji16) : Int).toNat) (ji38))) + (wrap64 (256 * (wrap64 (bt (a0.extract 0 ((ji16) : Int).toNat) (ji44)))))))
                               ·rw [if_pos c53] at H
                                have c53b0 : ((rd (rd_L1 t367 x12_4) x13_5) == (wrap64 ((wrap64 (bt (a0.extract 0 ((ji16) : Int).toNat) (ji38))) + (wrap64 (256 * (wrap64 (bt (a0.extract 0 ((ji16) : Int).toNat) (ji44)))))))) = true := beq_iff_eq.mpr c53
                                have c53b1 : ((rd (rd_L1 t367 x12_4) x13_5) != (wrap64 ((wrap64 (bt (a0.extract 0 ((ji16) : Int).toNat) (ji38))) + (wrap64 (256 * (wrap64 (bt (a0.extract 0 ((ji16) : Int).toNat) (ji44)))))))) = false := bne_eq_false_iff_eq.mpr c53
                                clear c53
                                have H' := Aside0.mk H
                                clear H
                                have p373 : 0 ≤ (x12_4 : Int) := of_decide_eq_true (by first | (with_reducible assumption) | assumption)
                                have q373 : x12_4 < (t367.length : Int) := of_decide_eq_true (by first | (with_reducible assumption) | assumption)
                                obtain ⟨ad373, A373_0, c373_0, e373, hx373_0, hl373_0, hi373_0⟩ := at_L1 (Kd.S_reads' HO_10.out).2.2 x12_4 p373 q373
                                obtain rfl : ad372 = ad373 := (by injection e373)
                                obtain ⟨ce373, hce373, hMe373, hcc373⟩ := Kd.S_get HO_10.out [] x12_4 p373 (by first | exact q373 | exact of_decide_eq_true (by first | (with_reducible assumption) | assumption) | (have e_ := (Kd.S_reads' HO_10.out).1; omega))
                                obtain ⟨ve373_0, rfl, ge373_0⟩ := hMe373
                                have hv373_0 := hcc373 0 _ rfl
                                rw [Nat.add_zero, show ((Kd.slice 3 (Kd.int .i64))).sz = 1 from rfl, Nat.mul_one] at hv373_0
                                replace hv373_0 := Option.some.inj (hv373_0.symm.trans hx373_0)
                                rw [hv373_0] at ge373_0
                                have HL373_0 := Aside0.mk (show Kd.R (Kd.int .i64) 3 _ _ _ _ (rd_L1 t367 x12_4) from ge373_0)
                                clear hv373_0 ge373_0
                                clear hcc373 hce373
                                have HR373_0 := Aside0.mk hi373_0
                                have HC373_0 := Aside0.mk hl373_0
                                clear hi373_0 hl373_0
                                replace p373 := eq_true p373
                                replace q373 := eq_true q373
                                have hcz54_0 : wr.cell? ⟨gb366, 0, none⟩ = some (.int .i64 x367000_5) := (blk_cell BK366.out 0).trans rfl
                                have hcz54_1 : wr.cell? ⟨gb366, 1, none⟩ = some (.int .i64 x367001_11) := (blk_cell BK366.out 1).trans rfl
                                have hfz54_0 := blk_frozen BK366.out 0
                                have hfz54_1 := blk_frozen BK366.out 1
                                have p41 : 0 ≤ ((ji38) : Int) := of_decide_eq_true (by first | (with_reducible assumption) | assumption)
                                have q41 : (ji38) < ((a0.extract 0 ((ji16) : Int).toNat).size : Int) := of_decide_eq_true (by first | (with_reducible assumption) | assumption)
                                have q41x : (ji38) < ((min ((ji16) : Int).toNat a0.size : Nat) : Int) := by have e_ := q41; rwa [show (a0.extract 0 ((ji16) : Int).toNat).size = min ((ji16) : Int).toNat a0.size by simp] at e_
                                have hx41 := bt_at (a0.extract 0 ((ji16) : Int).toNat) (ji38)
                                replace p41 := eq_true p41
                                replace q41 := eq_true q41
                                have p43 : 0 ≤ ((ji38) : Int) := of_decide_eq_true (by first | (with_reducible assumption) | assumption)
                                have q43 : (ji38) < ((a0.extract 0 ((ji16) : Int).toNat).size : Int) := of_decide_eq_true (by first | (with_reducible assumption) | assumption)
                                have q43x : (ji38) < ((min ((ji16) : Int).toNat a0.size : Nat) : Int) := by have e_ := q43; rwa [show (a0.extract 0 ((ji16) : Int).toNat).size = min ((ji16) : Int).toNat a0.size by simp] at e_
                                have hx43 := bt_at (a0.extract 0 ((ji16) : Int).toNat) (ji38)
                                replace p43 := eq_true p43
                                replace q43 := eq_true q43
                                have p47 : 0 ≤ ((ji44) : Int) := of_decide_eq_true (by first | (with_reducible assumption) | assumption)
                                have q47 : (ji44) < ((a0.extract 0 ((ji16) : Int).toNat).size : Int) := of_decide_eq_true (by first | (with_reducible assumption) | assumption)
                                have q47x : (ji44) < ((min ((ji16) : Int).toNat a0.size : Nat) : Int) := by have e_ := q47; rwa [show (a0.extract 0 ((ji16) : Int).toNat).size = min ((ji16) : Int).toNat a0.size by simp] at e_
                                have hx47 := bt_at (a0.extract 0 ((ji16) : Int).toNat) (ji44)
                                replace p47 := eq_true p47
                                replace q47 := eq_true q47
                                have p376 : 0 ≤ (x12_4 : Int) := of_decide_eq_true (by first | (with_reducible assumption) | assumption)
                                have q376 : x12_4 < (t367.length : Int) := of_decide_eq_true (by first | (with_reducible assumption) | assumption)
                                obtain ⟨ad376, A376_0, c376_0, e376, hx376_0, hl376_0, hi376_0⟩ := at_L1 (Kd.S_reads' HO_10.out).2.2 x12_4 p376 q376
                                obtain rfl : ad372 = ad376 := (by injection e376)
                                obtain ⟨ce376, hce376, hMe376, hcc376⟩ := Kd.S_get HO_10.out [] x12_4 p376 (by first | exact q376 | exact of_decide_eq_true (by first | (with_reducible assumption) | assumption) | (have e_ := (Kd.S_reads' HO_10.out).1; omega))
                                obtain ⟨ve376_0, rfl, ge376_0⟩ := hMe376
                                have hv376_0 := hcc376 0 _ rfl
                                rw [Nat.add_zero, show ((Kd.slice 3 (Kd.int .i64))).sz = 1 from rfl, Nat.mul_one] at hv376_0
                                replace hv376_0 := Option.some.inj (hv376_0.symm.trans hx376_0)
                                rw [hv376_0] at ge376_0
                                have HL376_0 := Aside0.mk (show Kd.R (Kd.int .i64) 3 _ _ _ _ (rd_L1 t367 x12_4) from ge376_0)
                                clear hv376_0 ge376_0
                                clear hcc376 hce376
                                have HR376_0 := Aside0.mk hi376_0
                                have HC376_0 := Aside0.mk hl376_0
                                clear hi376_0 hl376_0
                                replace p376 := eq_true p376
                                replace q376 := eq_true q376
                                have ea_ := Option.some.inj (hx373_0.symm.trans hx376_0)
                                injection ea_ with ea_ en_ ec_
                                subst ea_
                                subst ec_
                                clear en_
                                have p377 : 0 ≤ (x13_5 : Int) := of_decide_eq_true (by first | (with_reducible assumption) | assumption)
                                have q377 : x13_5 < ((rd_L1 t367 x12_4).length : Int) := of_decide_eq_true (by first | (with_reducible assumption) | assumption)
                                obtain ⟨ad377, e377, hx377_0⟩ := Kd.at_int (by repeat (first | (with_reducible exact HR376_0.out) | (with_reducible refine Kd.C_alloc ?_ _) | (with_reducible refine Kd.C_drewN ?_ _) | (with_reducible refine Kd.C_drew ?_) | exact HR376_0.out)) x13_5 p377 q377
                                cases e377
                                replace p377 := eq_true p377
                                replace q377 := eq_true q377
                                go_wp2
                                repeat ((fail_if_success (with_reducible (first | refine Extra.ahead_loop ?_ | refine Extra.ahead_loop_seq ?_))); go_quiet (fail); try go_wp2)
                                go_roundg k5
                                case measure => have := HJ5.out; have := HJ11.out; have := HJ19.out; have := HK4.out; have := HK5.out; omega
                                case rel => exact ⟨(wrap64 (x13_5 + 1)), (by first | rfl | (simp; done) | (simp [*]; done)), H', ⟨by have := HJ5.out; have := HJ11.out; have := HJ19.out; have := HK4.out; have := HK5.out; omega⟩, ⟨by (with_reducible repeat (first | apply Kd.S_alloc | apply Kd.S_drewN | apply Kd.S_drew)); exact HO_10.out⟩, ⟨by (with_reducible repeat (first | refine blk_drewN ?_ _ | refine blk_drew ?_ | refine blk_alloc ?_ _)); exact BK366.out⟩, ⟨by repeat (first | (with_reducible exact HR372_0.out) | (with_reducible refine Kd.C_alloc ?_ _) | (with_reducible refine Kd.C_drewN ?_ _) | (with_reducible refine Kd.C_drew ?_) | exact HR372_0.out)⟩, ⟨by repeat (first | (with_reducible first | exact HB.out | apply below_alloc | apply pw_below_drewN | apply below_drew1 | refine below_set ?_ GE366.out) | exact HB.out)⟩⟩
                               ·rw [if_neg c53] at H
                                exact absurd H (by simp)
                              ·rw [if_neg c52] at H
                               exact absurd H (by simp)
                            ·rw [if_neg c46] at H
                             exact absurd H (by simp)
                           ·rw [if_neg c45] at H
                            exact absurd H (by simp)
                          ·replace c42 := Bool.eq_false_iff.mpr c42
                           subst c42
                           have H1 : (if 0 ≤ x13_5 then (if (rd (rd_L1 t367 x12_4) x13_5) = (wrap64 ((wrap64 (bt (a0.extract 0 ((ji16) : Int).toNat) (ji38))) - 128)) then (descantlaw19_PcmFrames.l1 k5 false (wrap64 (Int.tdiv (wrap64 (x367000_5 * x367001_11)) 8)) (a0.extract 0 ((ji16) : Int).toNat) t367 x12_4 (wrap64 (x13_5 + 1)) x367000_5 x367001_11) else (none)) else (none)) = some r := by rw [if_neg (show ¬ (false = true) by decide)] at H; exact H
                           clear H
                           have H := H1
                           clear H1
                           by_cases c55 : 0 ≤ x13_5
                           ·rw [if_pos c55] at H
                            have c55b0 : decide (0 ≤ x13_5) = true := decide_eq_true c55
                            clear c55
                            by_cases c56 : (rd (rd_L1 t367 x12_4) x13_5) = (wrap64 ((wrap64 (bt (a0.extract 0 ((ji16) : Int).toNat) (ji38))) - 128))
                            ·rw [if_pos c56] at H
                             have c56b0 : ((rd (rd_L1 t367 x12_4) x13_5) == (wrap64 ((wrap64 (bt (a0.extract 0 ((ji16) : Int).toNat) (ji38))) - 128))) = true := beq_iff_eq.mpr c56
                             have c56b1 : ((rd (rd_L1 t367 x12_4) x13_5) != (wrap64 ((wrap64 (bt (a0.extract 0 ((ji16) : Int).toNat) (ji38))) - 128))) = false := bne_eq_false_iff_eq.mpr c56
                             clear c56
                             have H' := Aside0.mk H
                             clear H
                             have p373 : 0 ≤ (x12_4 : Int) := of_decide_eq_true (by first | (with_reducible assumption) | assumption)
                             have q373 : x12_4 < (t367.length : Int) := of_decide_eq_true (by first | (with_reducible assumption) | assumption)
                             obtain ⟨ad373, A373_0, c373_0, e373, hx373_0, hl373_0, hi373_0⟩ := at_L1 (Kd.S_reads' HO_10.out).2.2 x12_4 p373 q373
                             obtain rfl : ad372 = ad373 := (by injection e373)
                             obtain ⟨ce373, hce373, hMe373, hcc373⟩ := Kd.S_get HO_10.out [] x12_4 p373 (by first | exact q373 | exact of_decide_eq_true (by first | (with_reducible assumption) | assumption) | (have e_ := (Kd.S_reads' HO_10.out).1; omega))
                             obtain ⟨ve373_0, rfl, ge373_0⟩ := hMe373
                             have hv373_0 := hcc373 0 _ rfl
                             rw [Nat.add_zero, show ((Kd.slice 3 (Kd.int .i64))).sz = 1 from rfl, Nat.mul_one] at hv373_0
                             replace hv373_0 := Option.some.inj (hv373_0.symm.trans hx373_0)
                             rw [hv373_0] at ge373_0
                             have HL373_0 := Aside0.mk (show Kd.R (Kd.int .i64) 3 _ _ _ _ (rd_L1 t367 x12_4) from ge373_0)
                             clear hv373_0 ge373_0
                             clear hcc373 hce373
                             have HR373_0 := Aside0.mk hi373_0
                             have HC373_0 := Aside0.mk hl373_0
                             clear hi373_0 hl373_0
                             replace p373 := eq_true p373
                             replace q373 := eq_true q373
                             have hcz57_0 : wr.cell? ⟨gb366, 0, none⟩ = some (.int .i64 x367000_5) := (blk_cell BK366.out 0).trans rfl
                             have hcz57_1 : wr.cell? ⟨gb366, 1, none⟩ = some (.int .i64 x367001_11) := (blk_cell BK366.out 1).trans rfl
                             have hfz57_0 := blk_frozen BK366.out 0
                             have hfz57_1 := blk_frozen BK366.out 1
                             have p41 : 0 ≤ ((ji38) : Int) := of_decide_eq_true (by first | (with_reducible assumption) | assumption)
                             have q41 : (ji38) < ((a0.extract 0 ((ji16) : Int).toNat).size : Int) := of_decide_eq_true (by first | (with_reducible assumption) | assumption)
                             have q41x : (ji38) < ((min ((ji16) : Int).toNat a0.size : Nat) : Int) := by have e_ := q41; rwa [show (a0.extract 0 ((ji16) : Int).toNat).size = min ((ji16) : Int).toNat a0.size by simp] at e_
                             have hx41 := bt_at (a0.extract 0 ((ji16) : Int).toNat) (ji38)
                             replace p41 := eq_true p41
                             replace q41 := eq_true q41
                             have p378 : 0 ≤ (x12_4 : Int) := of_decide_eq_true (by first | (with_reducible assumption) | assumption)
                             have q378 : x12_4 < (t367.length : Int) := of_decide_eq_true (by first | (with_reducible assumption) | assumption)
                             obtain ⟨ad378, A378_0, c378_0, e378, hx378_0, hl378_0, hi378_0⟩ := at_L1 (Kd.S_reads' HO_10.out).2.2 x12_4 p378 q378
                             obtain rfl : ad372 = ad378 := (by injection e378)
                             obtain ⟨ce378, hce378, hMe378, hcc378⟩ := Kd.S_get HO_10.out [] x12_4 p378 (by first | exact q378 | exact of_decide_eq_true (by first | (with_reducible assumption) | assumption) | (have e_ := (Kd.S_reads' HO_10.out).1; omega))
                             obtain ⟨ve378_0, rfl, ge378_0⟩ := hMe378
                             have hv378_0 := hcc378 0 _ rfl
                             rw [Nat.add_zero, show ((Kd.slice 3 (Kd.int .i64))).sz = 1 from rfl, Nat.mul_one] at hv378_0
                             replace hv378_0 := Option.some.inj (hv378_0.symm.trans hx378_0)
                             rw [hv378_0] at ge378_0
                             have HL378_0 := Aside0.mk (show Kd.R (Kd.int .i64) 3 _ _ _ _ (rd_L1 t367 x12_4) from ge378_0)
                             clear hv378_0 ge378_0
                             clear hcc378 hce378
                             have HR378_0 := Aside0.mk hi378_0
                             have HC378_0 := Aside0.mk hl378_0
                             clear hi378_0 hl378_0
                             replace p378 := eq_true p378
                             replace q378 := eq_true q378
                             have ea_ := Option.some.inj (hx373_0.symm.trans hx378_0)
                             injection ea_ with ea_ en_ ec_
                             subst ea_
                             subst ec_
                             clear en_
                             have p379 : 0 ≤ (x13_5 : Int) := of_decide_eq_true (by first | (with_reducible assumption) | assumption)
                             have q379 : x13_5 < ((rd_L1 t367 x12_4).length : Int) := of_decide_eq_true (by first | (with_reducible assumption) | assumption)
                             obtain ⟨ad379, e379, hx379_0⟩ := Kd.at_int (by repeat (first | (with_reducible exact HR378_0.out) | (with_reducible refine Kd.C_alloc ?_ _) | (with_reducible refine Kd.C_drewN ?_ _) | (with_reducible refine Kd.C_drew ?_) | exact HR378_0.out)) x13_5 p379 q379
                             cases e379
                             replace p379 := eq_true p379
                             replace q379 := eq_true q379
                             go_wp2
                             repeat ((fail_if_success (with_reducible (first | refine Extra.ahead_loop ?_ | refine Extra.ahead_loop_seq ?_))); go_quiet (fail); try go_wp2)
                             go_roundg k5
                             case measure => have := HJ5.out; have := HJ11.out; have := HJ19.out; have := HK4.out; have := HK5.out; omega
                             case rel => exact ⟨(wrap64 (x13_5 + 1)), (by first | rfl | (simp; done) | (simp [*]; done)), H', ⟨by have := HJ5.out; have := HJ11.out; have := HJ19.out; have := HK4.out; have := HK5.out; omega⟩, ⟨by (with_reducible repeat (first | apply Kd.S_alloc | apply Kd.S_drewN | apply Kd.S_drew)); exact HO_10.out⟩, ⟨by (with_reducible repeat (first | refine blk_drewN ?_ _ | refine blk_drew ?_ | refine blk_alloc ?_ _)); exact BK366.out⟩, ⟨by repeat (first | (with_reducible exact HR372_0.out) | (with_reducible refine Kd.C_alloc ?_ _) | (with_reducible refine Kd.C_drewN ?_ _) | (with_reducible refine Kd.C_drew ?_) | exact HR372_0.out)⟩, ⟨by repeat (first | (with_reducible first | exact HB.out | apply below_alloc | apply pw_below_drewN | apply below_drew1 | refine below_set ?_ GE366.out) | exact HB.out)⟩⟩
                            ·rw [if_neg c56] at H
                             exact absurd H (by simp)
                           ·rw [if_neg c55] at H
                            exact absurd H (by simp)
                         ·rw [if_neg c40] at H
                          exact absurd H (by simp)
                        ·rw [if_neg c39] at H
                         exact absurd H (by simp)
                       ·rw [if_neg c37] at H
                        have c37b0 : decide (x13_5 < ((rd_L1 t367 x12_4).length : Int)) = false := decide_eq_false c37
                        clear c37
                        have H' := Aside0.mk H
                        clear H
                        have p373 : 0 ≤ (x12_4 : Int) := of_decide_eq_true (by first | (with_reducible assumption) | assumption)
                        have q373 : x12_4 < (t367.length : Int) := of_decide_eq_true (by first | (with_reducible assumption) | assumption)
                        obtain ⟨ad373, A373_0, c373_0, e373, hx373_0, hl373_0, hi373_0⟩ := at_L1 (Kd.S_reads' HO_10.out).2.2 x12_4 p373 q373
                        obtain rfl : ad372 = ad373 := (by injection e373)
                        obtain ⟨ce373, hce373, hMe373, hcc373⟩ := Kd.S_get HO_10.out [] x12_4 p373 (by first | exact q373 | exact of_decide_eq_true (by first | (with_reducible assumption) | assumption) | (have e_ := (Kd.S_reads' HO_10.out).1; omega))
                        obtain ⟨ve373_0, rfl, ge373_0⟩ := hMe373
                        have hv373_0 := hcc373 0 _ rfl
                        rw [Nat.add_zero, show ((Kd.slice 3 (Kd.int .i64))).sz = 1 from rfl, Nat.mul_one] at hv373_0
                        replace hv373_0 := Option.some.inj (hv373_0.symm.trans hx373_0)
                        rw [hv373_0] at ge373_0
                        have HL373_0 := Aside0.mk (show Kd.R (Kd.int .i64) 3 _ _ _ _ (rd_L1 t367 x12_4) from ge373_0)
                        clear hv373_0 ge373_0
                        clear hcc373 hce373
                        have HR373_0 := Aside0.mk hi373_0
                        have HC373_0 := Aside0.mk hl373_0
                        clear hi373_0 hl373_0
                        replace p373 := eq_true p373
                        replace q373 := eq_true q373
                        go_wp2
                        repeat ((fail_if_success (with_reducible (first | refine Extra.ahead_loop ?_ | refine Extra.ahead_loop_seq ?_))); go_quiet (fail); try go_wp2)
                        go_roundg k5
                        case measure => have := HJ5.out; have := HJ11.out; have := HJ19.out; have := HK4.out; have := HK5.out; omega
                        case rel => exact ⟨(wrap64 (x12_4 + 1)), (by first | rfl | (simp; done) | (simp [*]; done)), H', ⟨by have := HJ5.out; have := HJ11.out; have := HJ19.out; have := HK4.out; have := HK5.out; omega⟩, ⟨by (with_reducible repeat (first | apply Kd.S_alloc | apply Kd.S_drewN | apply Kd.S_drew)); exact HO_10.out⟩, ⟨by (with_reducible repeat (first | refine blk_drewN ?_ _ | refine blk_drew ?_ | refine blk_alloc ?_ _)); exact BK366.out⟩, ⟨by repeat (first | (with_reducible first | exact HB.out | apply below_alloc | apply pw_below_drewN | apply below_drew1 | refine below_set ?_ GE366.out) | exact HB.out)⟩⟩
                      ·rw [if_neg c36] at H
                       exact absurd H (by simp)
                     ·rw [if_neg c35] at H
                      exact absurd H (by simp)
                  ·rw [if_neg c32] at H
                   exact absurd H (by simp)
                ·rw [if_neg c30] at H
                 exact absurd H (by simp)
               ·rw [if_neg c29] at H
                exact absurd H (by simp)
              ·rw [if_neg c28] at H
               have c28b0 : decide (x12_4 < x367000_5) = false := decide_eq_false c28
               clear c28
               obtain rfl := Option.some.inj H
               have hcz58_0 : wr.cell? ⟨gb366, 0, none⟩ = some (.int .i64 x367000_5) := (blk_cell BK366.out 0).trans rfl
               have hcz58_1 : wr.cell? ⟨gb366, 1, none⟩ = some (.int .i64 x367001_11) := (blk_cell BK366.out 1).trans rfl
               have hfz58_0 := blk_frozen BK366.out 0
               have hfz58_1 := blk_frozen BK366.out 1
               go_wp2
               repeat ((fail_if_success (with_reducible (first | refine Extra.ahead_loop ?_ | refine Extra.ahead_loop_seq ?_))); go_quiet (fail); try go_wp2)
               go_ret
               exact ⟨by first | rfl | (simp [errW_none, errW_some] <;> rfl) | (simp only [← hji16]; first | rfl | (simp [errW_none, errW_some] <;> rfl)) | (simp [*, errW_none, errW_some] <;> rfl), by repeat (first | (with_reducible first | exact HB.out | apply below_alloc | apply pw_below_drewN | apply below_drew1 | refine below_set ?_ GE366.out) | exact HB.out)⟩
        ·rw [if_neg c18] at H
         exact absurd H (by simp)
       ·rw [if_neg c17] at H
        exact absurd H (by simp)
 ·replace c5 := Bool.eq_false_iff.mpr c5
  subst c5
  have H1 : (none) = some r := by rw [if_neg (show ¬ (false = true) by decide)] at H; exact H
  clear H
  have H := H1
  clear H1
  exact absurd H (by simp)

/-- THE ONE PURE STATEMENT of descantlaw19_PcmFrames: yours. -/
def descantlaw19_PcmFrames.Pure : Prop := ∀ (a0 : ByteArray) (a1 : Bool) (a2 : Bool), a0.size ≤ 140737488351232 → ∃ k, descantlaw19_PcmFrames.f k a0 a1 a2 = some true
theorem descantlaw19_PcmFrames.walk (P : descantlaw19_PcmFrames.Pure) (a0 : ByteArray) (a1 : Bool) (a2 : Bool) (w : World) (w0 : a0.size ≤ 140737488351232) :
  Calls Try.prog 5 #[.string a0, .bool a1, .bool a2] w fun e w' => e = .returned (.bool true) ∧ Below w.heap.size w w' := by
 obtain ⟨k, h⟩ := P a0 a1 a2 w0
 refine (descantlaw19_PcmFrames.calls k a0 a1 a2 true w h).mono ?_
 rintro e w' ⟨rfl, hd⟩
 exact ⟨rfl, hd⟩

end Go.Proofs.Ythiknekmgjnkdaa.PAll
