-- Printed by a program of this session over the kit's printer (wip/gen/pr.py). Not trusted: Lean checks it.
import Derived.Test.YtpojgfpfkfjegaaPLinex0
import Derived.Test.YtpojgfpfkfjegaaPLinex1
namespace Go.Proofs.Ytpojgfpfkfjegaa.PLine
open Go.RowKit Go.Proofs.YtpojgfpfkfjegaaW.PrintWords Go.Proofs.YtpojgfpfkfjegaaW.PrintLast Go.Proofs.YtpojgfpfkfjegaaW.PrintMore
attribute [local go_sem] max2_int min2_int max_two min_two max_three min_three max_four min_four   -- for this text's walks alone
set_option linter.unusedVariables false
set_option linter.unusedSimpArgs false

/-! ### descantlaw16_LineUnlike: function 7 -/
mutual
def descantlaw16_LineUnlike.j0 : Nat → List Int → Int → Int → List Int → Int → Bool → Option (Bool)
 | 0, _, _, _, _, _, _ => none
 | k + 1, x0, x1, x2, x7, x8, x27 => if x27 = true then ((descantlaw0_Num.f x8).bind fun t216 => (if t216 = 0 then (some true) else (some ((x7.length : Int) == 0)))) else ((some (([] : List Int) : List Int)).bind fun y217 => (if y217.length + x0.length < 17592186044416 then ((some (y217 ++ x0 : List Int)).bind fun y220 => (if (IntKind.u64.wrap ((y220.length : Int))) = 0 then (none) else (if 0 ≤ (wrap64 (Int.tmod (IntKind.u64.wrap (x1)) (IntKind.u64.wrap ((y220.length : Int))))) then (if (wrap64 (Int.tmod (IntKind.u64.wrap (x1)) (IntKind.u64.wrap ((y220.length : Int))))) < (y220.length : Int) then ((some (y220.set ((wrap64 (Int.tmod (IntKind.u64.wrap (x1)) (IntKind.u64.wrap ((y220.length : Int))))) : Int).toNat (Go.bits .xor .i64 (rd y220 (wrap64 (Int.tmod (IntKind.u64.wrap (x1)) (IntKind.u64.wrap ((y220.length : Int)))))) (wrap64 (1 + (Go.bits .and .i64 x2 7)))) : List Int)).bind fun y224 => ((line_Put.f y224).bind fun bt225 => ((descantlaw0_Num.f bt225.2).bind fun t229 => (if t229 = 0 then (descantlaw16_LineUnlike.j1 k x0 x7 y224 (wrap64 (Int.tmod (IntKind.u64.wrap (x1)) (IntKind.u64.wrap ((y220.length : Int))))) bt225.1 bt225.2 ((bt225.1.length : Int) != (x7.length : Int))) else (descantlaw16_LineUnlike.j1 k x0 x7 y224 (wrap64 (Int.tmod (IntKind.u64.wrap (x1)) (IntKind.u64.wrap ((y220.length : Int))))) bt225.1 bt225.2 true))))) else (none)) else (none)))) else (none)))
def descantlaw16_LineUnlike.j1 : Nat → List Int → List Int → List Int → Int → List Int → Int → Bool → Option (Bool)
 | 0, _, _, _, _, _, _, _ => none
 | k + 1, x0, x7, x9, x10, x11, x12, x71 => if x71 = true then ((descantlaw0_Num.f x12).bind fun t230 => (some (t230 != 0))) else (if 0 ≤ x10 then (if x10 ≤ (x7.length : Int) then (if x10 ≤ (x11.length : Int) then ((descantlaw0_SameInts.f k (x7.take (x10 : Int).toNat) (x11.take (x10 : Int).toNat)).bind fun t239 => (if t239 = true then (if x10 < (x7.length : Int) then (if x10 < (x11.length : Int) then (if x10 < (x0.length : Int) then (if x10 < (x9.length : Int) then (some ((wrap64 ((rd x7 x10) - (rd x11 x10))) == (wrap64 ((rd x0 x10) - (rd x9 x10))))) else (none)) else (none)) else (none)) else (none)) else (none))) else (none)) else (none)) else (none))
end
def descantlaw16_LineUnlike.f (k : Nat) (l0 : List Int) (a1 : Int) (a2 : Int) : Option (Bool) := (descantlaw16_awake.f k).bind fun t210 => (if t210 = true then ((line_Put.f l0).bind fun bt211 => ((descantlaw0_Num.f bt211.2).bind fun t215 => (if t215 = 0 then (descantlaw16_LineUnlike.j0 k l0 a1 a2 bt211.1 bt211.2 ((l0.length : Int) == 0)) else (descantlaw16_LineUnlike.j0 k l0 a1 a2 bt211.1 bt211.2 true)))) else (none))
theorem descantlaw16_LineUnlike.mono_l : ∀ k, (∀ y0 y1 y2 y3 y4 y5, LeO (descantlaw16_LineUnlike.j0 k y0 y1 y2 y3 y4 y5) (descantlaw16_LineUnlike.j0 (k + 1) y0 y1 y2 y3 y4 y5)) ∧ (∀ y0 y1 y2 y3 y4 y5 y6, LeO (descantlaw16_LineUnlike.j1 k y0 y1 y2 y3 y4 y5 y6) (descantlaw16_LineUnlike.j1 (k + 1) y0 y1 y2 y3 y4 y5 y6))
 | 0 => ⟨fun _ _ _ _ _ _ r h => by simp [descantlaw16_LineUnlike.j0] at h, fun _ _ _ _ _ _ _ r h => by simp [descantlaw16_LineUnlike.j1] at h⟩
 | k + 1 => by
  obtain ⟨ih0, ih1⟩ := descantlaw16_LineUnlike.mono_l k
  refine ⟨?_, ?_⟩
  ·intro y0 y1 y2 y3 y4 y5
   unfold descantlaw16_LineUnlike.j0
   repeat' first
   | (with_reducible exact ih0 _ _ _ _ _ _)
   | (with_reducible exact ih1 _ _ _ _ _ _ _)
   | (with_reducible exact descantlaw0_SameInts.mono _ _ _)
   | (with_reducible exact descantlaw16_awake.mono _)
   | (with_reducible exact LeO.refl _)
   | (with_reducible exact LeO.none _)
   | (with_reducible refine LeO.ite ?_ ?_)
   | (with_reducible refine LeO.bind ?_ (fun _ => ?_))
   | exact ih0 _ _ _ _ _ _
   | exact ih1 _ _ _ _ _ _ _
   | exact descantlaw0_SameInts.mono _ _ _
   | exact descantlaw16_awake.mono _
   | exact LeO.none _
   | refine LeO.ite ?_ ?_
   | refine LeO.bind ?_ (fun _ => ?_)
  ·intro y0 y1 y2 y3 y4 y5 y6
   unfold descantlaw16_LineUnlike.j1
   repeat' first
   | (with_reducible exact ih0 _ _ _ _ _ _)
   | (with_reducible exact ih1 _ _ _ _ _ _ _)
   | (with_reducible exact descantlaw0_SameInts.mono _ _ _)
   | (with_reducible exact descantlaw16_awake.mono _)
   | (with_reducible exact LeO.refl _)
   | (with_reducible exact LeO.none _)
   | (with_reducible refine LeO.ite ?_ ?_)
   | (with_reducible refine LeO.bind ?_ (fun _ => ?_))
   | exact ih0 _ _ _ _ _ _
   | exact ih1 _ _ _ _ _ _ _
   | exact descantlaw0_SameInts.mono _ _ _
   | exact descantlaw16_awake.mono _
   | exact LeO.none _
   | refine LeO.ite ?_ ?_
   | refine LeO.bind ?_ (fun _ => ?_)
theorem descantlaw16_LineUnlike.mono : ∀ a0 a1 a2 k, LeO (descantlaw16_LineUnlike.f k a0 a1 a2) (descantlaw16_LineUnlike.f (k + 1) a0 a1 a2) := by
 intro a0 a1 a2 k
 obtain ⟨ih0, ih1⟩ := descantlaw16_LineUnlike.mono_l k
 unfold descantlaw16_LineUnlike.f
 repeat' first
   | (with_reducible exact ih0 _ _ _ _ _ _)
   | (with_reducible exact ih1 _ _ _ _ _ _ _)
   | (with_reducible exact descantlaw0_SameInts.mono _ _ _)
   | (with_reducible exact descantlaw16_awake.mono _)
   | (with_reducible exact LeO.refl _)
   | (with_reducible exact LeO.none _)
   | (with_reducible refine LeO.ite ?_ ?_)
   | (with_reducible refine LeO.bind ?_ (fun _ => ?_))
   | exact ih0 _ _ _ _ _ _
   | exact ih1 _ _ _ _ _ _ _
   | exact descantlaw0_SameInts.mono _ _ _
   | exact descantlaw16_awake.mono _
   | exact LeO.none _
   | refine LeO.ite ?_ ?_
   | refine LeO.bind ?_ (fun _ => ?_)
set_option maxHeartbeats 8000000 in
set_option maxRecDepth 100000 in
theorem descantlaw16_LineUnlike.calls (k : Nat) (A0 : Option Addr) (c0 : Nat) (l0 : List Int) (a1 : Int) (a2 : Int) (r : Bool) (w : World) (hr0 : Kd.C (Kd.int .i64) w A0 l0.length l0) (hc0 : l0.length ≤ c0) (h : descantlaw16_LineUnlike.f k l0 a1 a2 = some r) :
  Calls Try.prog 7 #[.slice A0 l0.length c0, .int .i64 a1, .int .i64 a2] w fun e w' => e = .returned (.bool r) ∧ Below w.heap.size w w' := by
 have HR0 := Aside0.mk hr0
 have HC0 := Aside0.mk hc0
 clear hr0 hc0
 have HB := Aside0.mk (Below.refl w.heap.size w)
 have H : ((descantlaw16_awake.f k).bind fun t210 => (if t210 = true then ((line_Put.f l0).bind fun bt211 => ((descantlaw0_Num.f bt211.2).bind fun t215 => (if t215 = 0 then (descantlaw16_LineUnlike.j0 k l0 a1 a2 bt211.1 bt211.2 ((l0.length : Int) == 0)) else (descantlaw16_LineUnlike.j0 k l0 a1 a2 bt211.1 bt211.2 true)))) else (none))) = some r := h
 clear h
 replace H := Option.bind_eq_some_iff.mp H
 obtain ⟨t210, A40, H⟩ := H
 replace H : (if t210 = true then ((line_Put.f l0).bind fun bt211 => ((descantlaw0_Num.f bt211.2).bind fun t215 => (if t215 = 0 then (descantlaw16_LineUnlike.j0 k l0 a1 a2 bt211.1 bt211.2 ((l0.length : Int) == 0)) else (descantlaw16_LineUnlike.j0 k l0 a1 a2 bt211.1 bt211.2 true)))) else (none)) = some r := H
 have A4 := Aside0.mk A40
 clear A40
 by_cases c5 : t210 = true
 ·subst c5
  have H1 : ((line_Put.f l0).bind fun bt211 => ((descantlaw0_Num.f bt211.2).bind fun t215 => (if t215 = 0 then (descantlaw16_LineUnlike.j0 k l0 a1 a2 bt211.1 bt211.2 ((l0.length : Int) == 0)) else (descantlaw16_LineUnlike.j0 k l0 a1 a2 bt211.1 bt211.2 true)))) = some r := by rw [if_pos rfl] at H; exact H
  clear H
  have H := H1
  clear H1
  replace H := Option.bind_eq_some_iff.mp H
  obtain ⟨⟨t211, t212⟩, A60, H⟩ := H
  replace H : ((descantlaw0_Num.f t212).bind fun t215 => (if t215 = 0 then (descantlaw16_LineUnlike.j0 k l0 a1 a2 t211 t212 ((l0.length : Int) == 0)) else (descantlaw16_LineUnlike.j0 k l0 a1 a2 t211 t212 true))) = some r := H
  have A6 := Aside0.mk A60
  clear A60
  have HC7 := Aside0.mk H
  clear H
  go_enter Try.func7, Try.ntmps7
  go_upto_region 4 with (first | (go_at_call 17; (with_reducible refine (descantlaw16_awake.calls k  true _ A4.out).mono ?_); rintro e w8 ⟨rfl, hb⟩; have n0_ := Aside0.mk (below_step (by repeat (first | (with_reducible first | exact HB.out | apply below_alloc | apply pw_below_drewN | apply below_drew1) | exact HB.out)) hb); clear HB; have HB := n0_; clear n0_; (try clear hb); (try clear hb2); (try clear hk); (try clear hi)) | (go_at_call 9; (with_reducible refine (line_Put.calls _ _ l0 t211 t212 _ ?side1 ?side2 A6.out).mono ?_); (case side1 => repeat (first | exact (Kd.C_below HR0.out HB.out) | (with_reducible refine Kd.C_alloc ?_ _) | (with_reducible refine Kd.C_drewN ?_ _) | (with_reducible refine Kd.C_drew ?_))); (case side2 => exact HC0.out); rintro e w9 ⟨v213, rfl, ho0, hb⟩; have n0_ := Aside0.mk (Kd.R_lower ho0 (below_size (by repeat (first | (with_reducible first | exact HB.out | apply below_alloc | apply pw_below_drewN | apply below_drew1) | exact HB.out)))); have n1_ := Aside0.mk (below_step (by repeat (first | (with_reducible first | exact HB.out | apply below_alloc | apply pw_below_drewN | apply below_drew1) | exact HB.out)) hb); clear HB; have HO214 := n0_; have HB := n1_; clear n0_ n1_; (try clear hb); (try clear hb2); (try clear hk); (try clear hi); (try clear ho0)))
  repeat (go_quiet (first | (go_at_call 17; (with_reducible refine (descantlaw16_awake.calls k  true _ A4.out).mono ?_); rintro e w8 ⟨rfl, hb⟩; have n0_ := Aside0.mk (below_step (by repeat (first | (with_reducible first | exact HB.out | apply below_alloc | apply pw_below_drewN | apply below_drew1) | exact HB.out)) hb); clear HB; have HB := n0_; clear n0_; (try clear hb); (try clear hb2); (try clear hk); (try clear hi)) | (go_at_call 9; (with_reducible refine (line_Put.calls _ _ l0 t211 t212 _ ?side1 ?side2 A6.out).mono ?_); (case side1 => repeat (first | exact (Kd.C_below HR0.out HB.out) | (with_reducible refine Kd.C_alloc ?_ _) | (with_reducible refine Kd.C_drewN ?_ _) | (with_reducible refine Kd.C_drew ?_))); (case side2 => exact HC0.out); rintro e w9 ⟨v213, rfl, ho0, hb⟩; have n0_ := Aside0.mk (Kd.R_lower ho0 (below_size (by repeat (first | (with_reducible first | exact HB.out | apply below_alloc | apply pw_below_drewN | apply below_drew1) | exact HB.out)))); have n1_ := Aside0.mk (below_step (by repeat (first | (with_reducible first | exact HB.out | apply below_alloc | apply pw_below_drewN | apply below_drew1) | exact HB.out)) hb); clear HB; have HO214 := n0_; have HB := n1_; clear n0_ n1_; (try clear hb); (try clear hb2); (try clear hk); (try clear hi); (try clear ho0))); go_upto_region 4 with (first | (go_at_call 17; (with_reducible refine (descantlaw16_awake.calls k  true _ A4.out).mono ?_); rintro e w8 ⟨rfl, hb⟩; have n0_ := Aside0.mk (below_step (by repeat (first | (with_reducible first | exact HB.out | apply below_alloc | apply pw_below_drewN | apply below_drew1) | exact HB.out)) hb); clear HB; have HB := n0_; clear n0_; (try clear hb); (try clear hb2); (try clear hk); (try clear hi)) | (go_at_call 9; (with_reducible refine (line_Put.calls _ _ l0 t211 t212 _ ?side1 ?side2 A6.out).mono ?_); (case side1 => repeat (first | exact (Kd.C_below HR0.out HB.out) | (with_reducible refine Kd.C_alloc ?_ _) | (with_reducible refine Kd.C_drewN ?_ _) | (with_reducible refine Kd.C_drew ?_))); (case side2 => exact HC0.out); rintro e w9 ⟨v213, rfl, ho0, hb⟩; have n0_ := Aside0.mk (Kd.R_lower ho0 (below_size (by repeat (first | (with_reducible first | exact HB.out | apply below_alloc | apply pw_below_drewN | apply below_drew1) | exact HB.out)))); have n1_ := Aside0.mk (below_step (by repeat (first | (with_reducible first | exact HB.out | apply below_alloc | apply pw_below_drewN | apply below_drew1) | exact HB.out)) hb); clear HB; have HO214 := n0_; have HB := n1_; clear n0_ n1_; (try clear hb); (try clear hb2); (try clear hk); (try clear hi); (try clear ho0))))
  (try simp only [Act.put, List.setIfInBounds_toArray, List.set_cons_zero, List.set_cons_succ])
  go_cut [27] (fun v27 wc => ∃ (kq : Nat) (x27_6 : Bool), v27 = .bool x27_6 ∧ Aside0 (descantlaw16_LineUnlike.j0 kq l0 a1 a2 t211 t212 x27_6 = some r) ∧ Aside0 (kq ≤ k) ∧ Aside0 (Kd.R (Kd.int .i64) 3 wc w.heap.size (fun _ => True) v213 t211) ∧ Aside0 (Below w.heap.size w wc))
  case first =>
   have H := HC7.out
   clear HC7
   replace H := Option.bind_eq_some_iff.mp H
   obtain ⟨t215, A100, H⟩ := H
   replace H : (if t215 = 0 then (descantlaw16_LineUnlike.j0 k l0 a1 a2 t211 t212 ((l0.length : Int) == 0)) else (descantlaw16_LineUnlike.j0 k l0 a1 a2 t211 t212 true)) = some r := H
   have A10 := Aside0.mk A100
   clear A100
   by_cases c11 : t215 = 0
   ·rw [if_pos c11] at H
    have c11b0 : (t215 == 0) = true := beq_iff_eq.mpr c11
    have c11b1 : (t215 != 0) = false := bne_eq_false_iff_eq.mpr c11
    clear c11
    (first | rw [c11b0] | (simp only [i64_w, i32_w]; rw [c11b0]) | skip)
    have H' := Aside0.mk H
    clear H
    go_wp2_with (first | (go_at_call 14; (with_reducible refine (descantlaw0_Num.calls t212 t215 _ A10.out).mono ?_); rintro e w' ⟨rfl, ⟨nd, rfl⟩⟩; (try first | exact ⟨rfl, _, World.drewN_drewN _ _ _⟩ | exact ⟨rfl, _, Eq.trans (World.drewN_drewN _ _ _) (congrArg (World.drewN _) (Nat.add_assoc _ _ _))⟩)))
    repeat ((fail_if_success (with_reducible (first | refine Extra.ahead_loop ?_ | refine Extra.ahead_loop_seq ?_))); go_quiet (first | (go_at_call 14; (with_reducible refine (descantlaw0_Num.calls t212 t215 _ A10.out).mono ?_); rintro e w' ⟨rfl, ⟨nd, rfl⟩⟩; (try first | exact ⟨rfl, _, World.drewN_drewN _ _ _⟩ | exact ⟨rfl, _, Eq.trans (World.drewN_drewN _ _ _) (congrArg (World.drewN _) (Nat.add_assoc _ _ _))⟩))); try go_wp2_with (first | (go_at_call 14; (with_reducible refine (descantlaw0_Num.calls t212 t215 _ A10.out).mono ?_); rintro e w' ⟨rfl, ⟨nd, rfl⟩⟩; (try first | exact ⟨rfl, _, World.drewN_drewN _ _ _⟩ | exact ⟨rfl, _, Eq.trans (World.drewN_drewN _ _ _) (congrArg (World.drewN _) (Nat.add_assoc _ _ _))⟩))))
    go_meet
    case rel => exact ⟨_, (((l0.length : Int) == 0)), (by first | rfl | (simp; done) | (simp [*]; done)), H', ⟨by first | omega | exact Nat.le_refl _⟩, ⟨by (with_reducible repeat (first | apply Kd.R_alloc | apply Kd.R_drewN | apply Kd.R_drew)); exact HO214.out⟩, ⟨by repeat (first | (with_reducible first | exact HB.out | apply below_alloc | apply pw_below_drewN | apply below_drew1) | exact HB.out)⟩⟩
   ·rw [if_neg c11] at H
    have c11b0 : (t215 == 0) = false := beq_eq_false_iff_ne.mpr c11
    have c11b1 : (t215 != 0) = true := bne_iff_ne.mpr c11
    (first | rw [c11b0] | (simp only [i64_w, i32_w]; rw [c11b0]) | skip)
    have H' := Aside0.mk H
    clear H
    go_wp2_with (first | (go_at_call 14; (with_reducible refine (descantlaw0_Num.calls t212 t215 _ A10.out).mono ?_); rintro e w' ⟨rfl, ⟨nd, rfl⟩⟩; (try first | exact ⟨rfl, _, World.drewN_drewN _ _ _⟩ | exact ⟨rfl, _, Eq.trans (World.drewN_drewN _ _ _) (congrArg (World.drewN _) (Nat.add_assoc _ _ _))⟩)))
    repeat ((fail_if_success (with_reducible (first | refine Extra.ahead_loop ?_ | refine Extra.ahead_loop_seq ?_))); go_quiet (first | (go_at_call 14; (with_reducible refine (descantlaw0_Num.calls t212 t215 _ A10.out).mono ?_); rintro e w' ⟨rfl, ⟨nd, rfl⟩⟩; (try first | exact ⟨rfl, _, World.drewN_drewN _ _ _⟩ | exact ⟨rfl, _, Eq.trans (World.drewN_drewN _ _ _) (congrArg (World.drewN _) (Nat.add_assoc _ _ _))⟩))); try go_wp2_with (first | (go_at_call 14; (with_reducible refine (descantlaw0_Num.calls t212 t215 _ A10.out).mono ?_); rintro e w' ⟨rfl, ⟨nd, rfl⟩⟩; (try first | exact ⟨rfl, _, World.drewN_drewN _ _ _⟩ | exact ⟨rfl, _, Eq.trans (World.drewN_drewN _ _ _) (congrArg (World.drewN _) (Nat.add_assoc _ _ _))⟩))))
    go_meet
    case rel => exact ⟨_, (true), (by first | rfl | (simp; done) | (simp [*]; done)), H', ⟨by first | omega | exact Nat.le_refl _⟩, ⟨by (with_reducible repeat (first | apply Kd.R_alloc | apply Kd.R_drewN | apply Kd.R_drew)); exact HO214.out⟩, ⟨by repeat (first | (with_reducible first | exact HB.out | apply below_alloc | apply pw_below_drewN | apply below_drew1) | exact HB.out)⟩⟩
  case rest =>
   clear HC7
   try clear c1
   try clear p2
   try clear c5
   try clear c7
   try clear c11
   try clear c11b0
   try clear c11b1
   obtain ⟨kq, x27_6, rfl, HA, HJ6, HO_7, HB⟩ := hcut
   cases kq with
   | zero => exact absurd HA.out (by simp [descantlaw16_LineUnlike.j0])
   | succ kj6 =>
    have H := HA.out
    clear HA
    simp only [descantlaw16_LineUnlike.j0] at H
    by_cases c12 : x27_6 = true
    ·subst c12
     have H1 : ((descantlaw0_Num.f t212).bind fun t216 => (if t216 = 0 then (some true) else (some ((t211.length : Int) == 0)))) = some r := by rw [if_pos rfl] at H; exact H
     clear H
     have H := H1
     clear H1
     replace H := Option.bind_eq_some_iff.mp H
     obtain ⟨t216, A130, H⟩ := H
     replace H : (if t216 = 0 then (some true) else (some ((t211.length : Int) == 0))) = some r := H
     have A13 := Aside0.mk A130
     clear A130
     by_cases c14 : t216 = 0
     ·rw [if_pos c14] at H
      have c14b0 : (t216 == 0) = true := beq_iff_eq.mpr c14
      have c14b1 : (t216 != 0) = false := bne_eq_false_iff_eq.mpr c14
      clear c14
      obtain rfl := Option.some.inj H
      go_wp2_with (first | (go_at_call 14; (with_reducible refine (descantlaw0_Num.calls t212 t216 _ A13.out).mono ?_); rintro e w' ⟨rfl, ⟨nd, rfl⟩⟩; (try first | exact ⟨rfl, _, World.drewN_drewN _ _ _⟩ | exact ⟨rfl, _, Eq.trans (World.drewN_drewN _ _ _) (congrArg (World.drewN _) (Nat.add_assoc _ _ _))⟩)))
      repeat ((fail_if_success (with_reducible (first | refine Extra.ahead_loop ?_ | refine Extra.ahead_loop_seq ?_))); go_quiet (first | (go_at_call 14; (with_reducible refine (descantlaw0_Num.calls t212 t216 _ A13.out).mono ?_); rintro e w' ⟨rfl, ⟨nd, rfl⟩⟩; (try first | exact ⟨rfl, _, World.drewN_drewN _ _ _⟩ | exact ⟨rfl, _, Eq.trans (World.drewN_drewN _ _ _) (congrArg (World.drewN _) (Nat.add_assoc _ _ _))⟩))); try go_wp2_with (first | (go_at_call 14; (with_reducible refine (descantlaw0_Num.calls t212 t216 _ A13.out).mono ?_); rintro e w' ⟨rfl, ⟨nd, rfl⟩⟩; (try first | exact ⟨rfl, _, World.drewN_drewN _ _ _⟩ | exact ⟨rfl, _, Eq.trans (World.drewN_drewN _ _ _) (congrArg (World.drewN _) (Nat.add_assoc _ _ _))⟩))))
      go_ret
      exact ⟨by first | rfl | (simp only [i64_w]; rfl) | (simp [errW_none, errW_some] <;> rfl) | (simp [*, errW_none, errW_some] <;> rfl), by repeat (first | (with_reducible first | exact HB.out | apply below_alloc | apply pw_below_drewN | apply below_drew1) | exact HB.out)⟩
     ·rw [if_neg c14] at H
      have c14b0 : (t216 == 0) = false := beq_eq_false_iff_ne.mpr c14
      have c14b1 : (t216 != 0) = true := bne_iff_ne.mpr c14
      obtain rfl := Option.some.inj H
      go_wp2_with (first | (go_at_call 14; (with_reducible refine (descantlaw0_Num.calls t212 t216 _ A13.out).mono ?_); rintro e w' ⟨rfl, ⟨nd, rfl⟩⟩; (try first | exact ⟨rfl, _, World.drewN_drewN _ _ _⟩ | exact ⟨rfl, _, Eq.trans (World.drewN_drewN _ _ _) (congrArg (World.drewN _) (Nat.add_assoc _ _ _))⟩); obtain ⟨Ao15, co15, eo15⟩ := Kd.R_slice HO_7.out; subst eo15))
      repeat ((fail_if_success (with_reducible (first | refine Extra.ahead_loop ?_ | refine Extra.ahead_loop_seq ?_))); go_quiet (first | (go_at_call 14; (with_reducible refine (descantlaw0_Num.calls t212 t216 _ A13.out).mono ?_); rintro e w' ⟨rfl, ⟨nd, rfl⟩⟩; (try first | exact ⟨rfl, _, World.drewN_drewN _ _ _⟩ | exact ⟨rfl, _, Eq.trans (World.drewN_drewN _ _ _) (congrArg (World.drewN _) (Nat.add_assoc _ _ _))⟩); obtain ⟨Ao15, co15, eo15⟩ := Kd.R_slice HO_7.out; subst eo15)); try go_wp2_with (first | (go_at_call 14; (with_reducible refine (descantlaw0_Num.calls t212 t216 _ A13.out).mono ?_); rintro e w' ⟨rfl, ⟨nd, rfl⟩⟩; (try first | exact ⟨rfl, _, World.drewN_drewN _ _ _⟩ | exact ⟨rfl, _, Eq.trans (World.drewN_drewN _ _ _) (congrArg (World.drewN _) (Nat.add_assoc _ _ _))⟩); obtain ⟨Ao15, co15, eo15⟩ := Kd.R_slice HO_7.out; subst eo15)))
      go_ret
      exact ⟨by first | rfl | (simp only [i64_w]; rfl) | (simp [errW_none, errW_some] <;> rfl) | (simp [*, errW_none, errW_some] <;> rfl), by repeat (first | (with_reducible first | exact HB.out | apply below_alloc | apply pw_below_drewN | apply below_drew1) | exact HB.out)⟩
    ·replace c12 := Bool.eq_false_iff.mpr c12
     subst c12
     have H1 : ((some (([] : List Int) : List Int)).bind fun y217 => (if y217.length + l0.length < 17592186044416 then ((some (y217 ++ l0 : List Int)).bind fun y220 => (if (IntKind.u64.wrap ((y220.length : Int))) = 0 then (none) else (if 0 ≤ (wrap64 (Int.tmod (IntKind.u64.wrap (a1)) (IntKind.u64.wrap ((y220.length : Int))))) then (if (wrap64 (Int.tmod (IntKind.u64.wrap (a1)) (IntKind.u64.wrap ((y220.length : Int))))) < (y220.length : Int) then ((some (y220.set ((wrap64 (Int.tmod (IntKind.u64.wrap (a1)) (IntKind.u64.wrap ((y220.length : Int))))) : Int).toNat (Go.bits .xor .i64 (rd y220 (wrap64 (Int.tmod (IntKind.u64.wrap (a1)) (IntKind.u64.wrap ((y220.length : Int)))))) (wrap64 (1 + (Go.bits .and .i64 a2 7)))) : List Int)).bind fun y224 => ((line_Put.f y224).bind fun bt225 => ((descantlaw0_Num.f bt225.2).bind fun t229 => (if t229 = 0 then (descantlaw16_LineUnlike.j1 kj6 l0 t211 y224 (wrap64 (Int.tmod (IntKind.u64.wrap (a1)) (IntKind.u64.wrap ((y220.length : Int))))) bt225.1 bt225.2 ((bt225.1.length : Int) != (t211.length : Int))) else (descantlaw16_LineUnlike.j1 kj6 l0 t211 y224 (wrap64 (Int.tmod (IntKind.u64.wrap (a1)) (IntKind.u64.wrap ((y220.length : Int))))) bt225.1 bt225.2 true))))) else (none)) else (none)))) else (none))) = some r := by rw [if_neg (show ¬ (false = true) by decide)] at H; exact H
     clear H
     have H := H1
     clear H1
     obtain ⟨y217, hy217⟩ : ∃ y_ : List Int, y_ = (([] : List Int)) := ⟨_, rfl⟩
     replace H : (if y217.length + l0.length < 17592186044416 then ((some (y217 ++ l0 : List Int)).bind fun y220 => (if (IntKind.u64.wrap ((y220.length : Int))) = 0 then (none) else (if 0 ≤ (wrap64 (Int.tmod (IntKind.u64.wrap (a1)) (IntKind.u64.wrap ((y220.length : Int))))) then (if (wrap64 (Int.tmod (IntKind.u64.wrap (a1)) (IntKind.u64.wrap ((y220.length : Int))))) < (y220.length : Int) then ((some (y220.set ((wrap64 (Int.tmod (IntKind.u64.wrap (a1)) (IntKind.u64.wrap ((y220.length : Int))))) : Int).toNat (Go.bits .xor .i64 (rd y220 (wrap64 (Int.tmod (IntKind.u64.wrap (a1)) (IntKind.u64.wrap ((y220.length : Int)))))) (wrap64 (1 + (Go.bits .and .i64 a2 7)))) : List Int)).bind fun y224 => ((line_Put.f y224).bind fun bt225 => ((descantlaw0_Num.f bt225.2).bind fun t229 => (if t229 = 0 then (descantlaw16_LineUnlike.j1 kj6 l0 t211 y224 (wrap64 (Int.tmod (IntKind.u64.wrap (a1)) (IntKind.u64.wrap ((y220.length : Int))))) bt225.1 bt225.2 ((bt225.1.length : Int) != (t211.length : Int))) else (descantlaw16_LineUnlike.j1 kj6 l0 t211 y224 (wrap64 (Int.tmod (IntKind.u64.wrap (a1)) (IntKind.u64.wrap ((y220.length : Int))))) bt225.1 bt225.2 true))))) else (none)) else (none)))) else (none)) = some r := by first | (rw [hy217]; with_reducible exact H) | (have H2_ := (Option.bind_some _ _).symm.trans H; rw [hy217]; with_reducible exact H2_) | (have H2_ := (Option.bind_some _ _).symm.trans H; with_reducible exact H2_) | with_reducible exact H | (rw [hy217]; exact H) | exact H
     have Ny217 := Aside0.mk hy217
     clear hy217
     by_cases c16 : y217.length + l0.length < 17592186044416
     ·rw [if_pos c16] at H
      have LMc16 := Aside0.mk c16
      clear c16
      obtain ⟨y220, hy220⟩ : ∃ y_ : List Int, y_ = (y217 ++ l0) := ⟨_, rfl⟩
      replace H : (if (IntKind.u64.wrap ((y220.length : Int))) = 0 then (none) else (if 0 ≤ (wrap64 (Int.tmod (IntKind.u64.wrap (a1)) (IntKind.u64.wrap ((y220.length : Int))))) then (if (wrap64 (Int.tmod (IntKind.u64.wrap (a1)) (IntKind.u64.wrap ((y220.length : Int))))) < (y220.length : Int) then ((some (y220.set ((wrap64 (Int.tmod (IntKind.u64.wrap (a1)) (IntKind.u64.wrap ((y220.length : Int))))) : Int).toNat (Go.bits .xor .i64 (rd y220 (wrap64 (Int.tmod (IntKind.u64.wrap (a1)) (IntKind.u64.wrap ((y220.length : Int)))))) (wrap64 (1 + (Go.bits .and .i64 a2 7)))) : List Int)).bind fun y224 => ((line_Put.f y224).bind fun bt225 => ((descantlaw0_Num.f bt225.2).bind fun t229 => (if t229 = 0 then (descantlaw16_LineUnlike.j1 kj6 l0 t211 y224 (wrap64 (Int.tmod (IntKind.u64.wrap (a1)) (IntKind.u64.wrap ((y220.length : Int))))) bt225.1 bt225.2 ((bt225.1.length : Int) != (t211.length : Int))) else (descantlaw16_LineUnlike.j1 kj6 l0 t211 y224 (wrap64 (Int.tmod (IntKind.u64.wrap (a1)) (IntKind.u64.wrap ((y220.length : Int))))) bt225.1 bt225.2 true))))) else (none)) else (none))) = some r := by first | (rw [hy220]; with_reducible exact H) | (have H2_ := (Option.bind_some _ _).symm.trans H; rw [hy220]; with_reducible exact H2_) | (have H2_ := (Option.bind_some _ _).symm.trans H; with_reducible exact H2_) | with_reducible exact H | (rw [hy220]; exact H) | exact H
      have Ny220 := Aside0.mk hy220
      clear hy220
      by_cases c17 : (IntKind.u64.wrap ((y220.length : Int))) = 0
      ·rw [if_pos c17] at H
       exact absurd H (by simp)
      ·rw [if_neg c17] at H
       have c17b0 : ((IntKind.u64.wrap ((y220.length : Int))) == 0) = false := beq_eq_false_iff_ne.mpr c17
       have c17b1 : ((IntKind.u64.wrap ((y220.length : Int))) != 0) = true := bne_iff_ne.mpr c17
       obtain ⟨ji18, hji18⟩ : ∃ j_ : Int, (wrap64 (Int.tmod (IntKind.u64.wrap (a1)) (IntKind.u64.wrap ((y220.length : Int))))) = j_ := ⟨_, rfl⟩
       replace H : (if 0 ≤ (ji18) then (if (ji18) < (y220.length : Int) then ((some (y220.set ((ji18) : Int).toNat (Go.bits .xor .i64 (rd y220 (ji18)) (wrap64 (1 + (Go.bits .and .i64 a2 7)))) : List Int)).bind fun y224 => ((line_Put.f y224).bind fun bt225 => ((descantlaw0_Num.f bt225.2).bind fun t229 => (if t229 = 0 then (descantlaw16_LineUnlike.j1 kj6 l0 t211 y224 ji18 bt225.1 bt225.2 ((bt225.1.length : Int) != (t211.length : Int))) else (descantlaw16_LineUnlike.j1 kj6 l0 t211 y224 ji18 bt225.1 bt225.2 true))))) else (none)) else (none)) = some r := by first | (rw [hji18] at H; exact H) | (simp only [hji18] at H ⊢; exact H)
       have hji18w : (IntKind.i64.wrap (Int.tmod (IntKind.u64.wrap (a1)) (IntKind.u64.wrap ((y220.length : Int))))) = ji18 := (i64_w _).trans hji18
       by_cases c19 : 0 ≤ (ji18)
       ·rw [if_pos c19] at H
        have c19b0 : decide (0 ≤ (ji18)) = true := decide_eq_true c19
        clear c19
        by_cases c20 : (ji18) < (y220.length : Int)
        ·rw [if_pos c20] at H
         have c20b0 : decide ((ji18) < (y220.length : Int)) = true := decide_eq_true c20
         clear c20
         obtain ⟨y224, hy224⟩ : ∃ y_ : List Int, y_ = (y220.set ((ji18) : Int).toNat (Go.bits .xor .i64 (rd y220 (ji18)) (wrap64 (1 + (Go.bits .and .i64 a2 7))))) := ⟨_, rfl⟩
         replace H : ((line_Put.f y224).bind fun bt225 => ((descantlaw0_Num.f bt225.2).bind fun t229 => (if t229 = 0 then (descantlaw16_LineUnlike.j1 kj6 l0 t211 y224 ji18 bt225.1 bt225.2 ((bt225.1.length : Int) != (t211.length : Int))) else (descantlaw16_LineUnlike.j1 kj6 l0 t211 y224 ji18 bt225.1 bt225.2 true)))) = some r := by first | (rw [hy224]; with_reducible exact H) | (have H2_ := (Option.bind_some _ _).symm.trans H; rw [hy224]; with_reducible exact H2_) | (have H2_ := (Option.bind_some _ _).symm.trans H; with_reducible exact H2_) | with_reducible exact H | (rw [hy224]; exact H) | exact H
         have Ny224 := Aside0.mk hy224
         clear hy224
         replace H := Option.bind_eq_some_iff.mp H
         obtain ⟨⟨t225, t226⟩, A220, H⟩ := H
         replace H : ((descantlaw0_Num.f t226).bind fun t229 => (if t229 = 0 then (descantlaw16_LineUnlike.j1 kj6 l0 t211 y224 ji18 t225 t226 ((t225.length : Int) != (t211.length : Int))) else (descantlaw16_LineUnlike.j1 kj6 l0 t211 y224 ji18 t225 t226 true))) = some r := H
         have A22 := Aside0.mk A220
         clear A220
         have HC23 := Aside0.mk H
         clear H
         go_upto_region 10 with (first | ((with_reducible refine gate_dst (N := 36) rfl ?_); (try (refine gate_guard (by rfl) ?_; dsimp only)); refine Kd.R_lit (Kd.int .i64) _ 3 ?hg (N := 36) ?hd (xs := ([] : List Int)) (inner := []) (ok := fun _ => True) (okp := fun _ => True) ?hr ?hp (fun _ hk => hk) trivial (Below.refl _ _) (Nat.le_refl _) (by simp) ?_; (case hd => rfl); (case hg => rfl); (case hr => first | (go_simp; done) | (go_simp; rfl)); (case hp => exact (Reps.none _ _)); intro v218 w24 ho25 hb hg_ hnew_; clear hg_ hnew_; (first | rw [← Ny217.out] at ho25 | (simp only [Int.reduceToNat] at ho25; rw [← Ny217.out] at ho25)); have n0_ := Aside0.mk (Kd.R_elder' (by (with_reducible repeat (first | apply Kd.R_alloc | apply Kd.R_drewN | apply Kd.R_drew)); exact HO_7.out) (Kd.R_base ho25) hb); have n1_ := Aside0.mk (Kd.R_lower (Kd.R_new' ho25 (Kd.R_lt (by (with_reducible repeat (first | apply Kd.R_alloc | apply Kd.R_drewN | apply Kd.R_drew)); exact HO_7.out))) (below_size (by repeat (first | (with_reducible first | exact HB.out | apply below_alloc | apply pw_below_drewN | apply below_drew1) | exact HB.out)))); have n2_ := Aside0.mk (below_step (by repeat (first | (with_reducible first | exact HB.out | apply below_alloc | apply pw_below_drewN | apply below_drew1) | exact HB.out)) hb); clear HO_7; clear HB; have HO_7 := n0_; have HO219 := n1_; have HB := n2_; clear n0_ n1_ n2_; clear hb ho25) | ((with_reducible refine gate_builtin (b := .append) (xs := #[.tmp 36, .tmp 37]) rfl ?_); (try (refine gate_guard (by rfl) ?_; dsimp only)); at_builtin; refine Kd.R_append_rows (Kd.int .i64) (w0 := w) w.heap.size rfl (.tmp 36) (.tmp 37) 22 3 (.int .i64 0) 8 rfl Try.underlying22 info3 rfl (by decide) (by omega) v218 y217 l0 _ _ _ (fun k_ => some k_ ≠ (v213 : Value).ownBlock) (fun _ => False) rfl rfl ?aO ?aR (fun _ _ h => h) (fun _ h => h.elim) ?aF ?aB ?aS ?aL ?_; (case aR => repeat (first | exact (Kd.C_below HR0.out HB.out) | (with_reducible refine Kd.C_alloc ?_ _) | (with_reducible refine Kd.C_drewN ?_ _) | (with_reducible refine Kd.C_drew ?_))); (case aB => exact (by repeat (first | (with_reducible first | exact HB.out | apply below_alloc | apply pw_below_drewN | apply below_drew1) | exact HB.out))); (case aF => exact (fun k_ hk => Kd.fresh' (Kd.R_lt (by (with_reducible repeat (first | apply Kd.R_alloc | apply Kd.R_drewN | apply Kd.R_drew)); exact HO_7.out)) k_ hk)); (case aO => exact (by (with_reducible repeat (first | apply Kd.R_alloc | apply Kd.R_drewN | apply Kd.R_drew)); exact Kd.R_mono HO219.out (fun _ hk => hk.2))); (case aS => exact (below_size (by repeat (first | (with_reducible first | exact HB.out | apply below_alloc | apply pw_below_drewN | apply below_drew1) | exact HB.out)))); (case aL => have := LMc16.out; omega); intro v221 w26 ho hb hg hat; rw [← Ny220.out] at ho; have n0_ := Aside0.mk (Kd.R_after (ok := (fun _ => True)) (by (with_reducible repeat (first | apply Kd.R_alloc | apply Kd.R_drewN | apply Kd.R_drew)); exact HO_7.out) hg hat); have n1_ := Aside0.mk (hb); have n2_ := Aside0.mk (ho); clear HO_7; clear HB; clear HO219; have HO_7 := n0_; have HB := n1_; have HO222 := n2_; clear n0_ n1_ n2_; clear ho hb hg hat; obtain ⟨Ao27, co27, eo27⟩ := Kd.R_slice HO222.out; subst eo27; have p223 : 0 ≤ ((ji18) : Int) := of_decide_eq_true (by first | (with_reducible assumption) | assumption); have q223 : (ji18) < (y220.length : Int) := of_decide_eq_true (by first | (with_reducible assumption) | assumption); obtain ⟨ad223, e223, hx223_0⟩ := Kd.at_int (Kd.R_reads' HO222.out).2.2 (ji18) p223 q223; cases e223; replace p223 := eq_true p223; replace q223 := eq_true q223; have p21 : 0 ≤ ((ji18) : Int) := of_decide_eq_true (by first | (with_reducible assumption) | assumption); have q21 : ((ji18) : Int) < ((y220.length : Int) : Int) := of_decide_eq_true (by first | (with_reducible assumption) | assumption); obtain ⟨go21, co21, eo21, gb21, gl21, cl21, HG21⟩ := Kd.R_form HO222.out (by omega); (first | cases eo21 | (injection eo21 with ea_ en_ ec_; (first | subst ea_ | (injection ea_ with ea_; subst ea_)); subst ec_; clear en_)); have GB21 := Aside0.mk gb21; have GG21 := Aside0.mk HG21; clear gb21 gl21 HG21; (first | simp only [add_plain] at hx223_0 | skip); obtain ⟨hx21_0, hf21_0⟩ := Kd.R_celln 0 HO222.out ((ji18) : Int) p21 q21; replace p21 := eq_true p21; replace q21 := eq_true q21; obtain ⟨hy28_, hz28_⟩ := Kd.R_celln 0 HO222.out ((ji18) : Int) (of_decide_eq_true (by first | (with_reducible assumption) | assumption)) (of_decide_eq_true (by first | (with_reducible assumption) | assumption)); have HP28 := Kd.R_putg HO222.out ((ji18) : Int) (Go.bits .xor .i64 (rd y220 (ji18)) (wrap64 (1 + (Go.bits .and .i64 a2 7))))) | ((with_reducible refine gate_store (t := 3) (p := 56) rfl ?_); (try (rw [drewN_self w26]; generalize hq_ : World.drewN w26 _ = w26; have n0_ := Aside0.mk (Kd.R_at hq_ HO_7.out); have n1_ := Aside0.mk (Kd.R_at hq_ HO222.out); have n2_ := Aside0.mk (below_at hq_ HB.out); clear hq_ HO_7 HO222 HB; have HO_7 := n0_; have HO222 := n1_; have HB := n2_; clear n0_ n1_ n2_; (try (obtain ⟨hy28_, hz28_⟩ := Kd.R_celln 0 HO222.out ((ji18) : Int) (of_decide_eq_true (by first | (with_reducible assumption) | assumption)) (of_decide_eq_true (by first | (with_reducible assumption) | assumption)))); (try (have HP28 := Kd.R_putg HO222.out ((ji18) : Int) (Go.bits .xor .i64 (rd y220 (ji18)) (wrap64 (1 + (Go.bits .and .i64 a2 7)))))))); refine store_event (t := 3) (p := 56) (v := ?vo_w29) (w1 := (w26.setCell ⟨go21, ((ji18) : Int).toNat, none⟩ (.int .i64 (Go.bits .xor .i64 (rd y220 (ji18)) (wrap64 (1 + (Go.bits .and .i64 a2 7))))))) ?hg ?ho ?hn ?hr ?_; (case ho => rfl); (case hg => rfl); (case hn => rfl); (case hr => first | (go_simp; done) | (go_simp; rfl)); intro w29 hw; have hg : w26.grownBy w29 (some go21) := (by rw [hw]; exact HP28.2); have hp_ : Kd.R (Kd.int .i64) 3 w29 w.heap.size (fun k_ => some k_ ≠ (v213 : Value).ownBlock) (.slice (some ⟨go21, 0, none⟩) y220.length co27) y224 := (by rw [hw, Ny224.out]; exact HP28.1); clear HP28; have n0_ := Aside0.mk (Kd.R_after (v := (.slice (some ⟨go21, 0, none⟩) y220.length co27)) (v1 := (.slice (some ⟨go21, 0, none⟩) y220.length co27)) (ok := (fun _ => True)) (by (with_reducible repeat (first | apply Kd.R_alloc | apply Kd.R_drewN | apply Kd.R_drew)); exact HO_7.out) hg (.inl rfl)); have n1_ := Aside0.mk (hp_); have n2_ := Aside0.mk ((by rw [hw]; exact below_set (HB.out) GB21.out : Below w.heap.size w w29)); clear HO_7; clear HO222; clear HB; have HO_7 := n0_; have HO222 := n1_; have HB := n2_; clear n0_ n1_ n2_; clear hg hw hp_) | (go_at_call 9; refine calls_of_args (args' := #[.slice (some ⟨go21, 0, none⟩) y224.length co27]) (by first | (rw [show y224.length = y220.length from (Kd.R_reads' HO222.out).1.symm] <;> rfl) | rfl) ?_; (with_reducible refine (line_Put.calls _ _ y224 t225 t226 _ ?side1 ?side2 A22.out).mono ?_); (case side1 => repeat (first | exact (Kd.R_reads' HO222.out).2.2 | (with_reducible refine Kd.C_alloc ?_ _) | (with_reducible refine Kd.C_drewN ?_ _) | (with_reducible refine Kd.C_drew ?_))); (case side2 => rw [show y224.length = y220.length from (Kd.R_reads' HO222.out).1.symm]; exact (Kd.R_reads' HO222.out).2.1); rintro e w30 ⟨v227, rfl, ho0, hb⟩; have n0_ := Aside0.mk (Kd.R_elder' (by (with_reducible repeat (first | apply Kd.R_alloc | apply Kd.R_drewN | apply Kd.R_drew)); exact HO_7.out) (Kd.R_base ho0) hb); have n1_ := Aside0.mk (Kd.R_elder' (by (with_reducible repeat (first | apply Kd.R_alloc | apply Kd.R_drewN | apply Kd.R_drew)); exact HO222.out) (Kd.R_base ho0) hb); have n2_ := Aside0.mk (Kd.R_lower (Kd.R_new' (Kd.R_new' ho0 (Kd.R_lt (by (with_reducible repeat (first | apply Kd.R_alloc | apply Kd.R_drewN | apply Kd.R_drew)); exact HO_7.out))) (Kd.R_lt (by (with_reducible repeat (first | apply Kd.R_alloc | apply Kd.R_drewN | apply Kd.R_drew)); exact HO222.out))) (below_size (by repeat (first | (with_reducible first | exact HB.out | apply below_alloc | apply pw_below_drewN | apply below_drew1) | exact HB.out)))); have n3_ := Aside0.mk (below_step (by repeat (first | (with_reducible first | exact HB.out | apply below_alloc | apply pw_below_drewN | apply below_drew1) | exact HB.out)) hb); clear HO_7; clear HO222; clear HB; have HO_7 := n0_; have HO222 := n1_; have HO228 := n2_; have HB := n3_; clear n0_ n1_ n2_ n3_; (try clear hb); (try clear hb2); (try clear hk); (try clear hi); (try clear ho0)))
         repeat (go_quiet (first | ((with_reducible refine gate_dst (N := 36) rfl ?_); (try (refine gate_guard (by rfl) ?_; dsimp only)); refine Kd.R_lit (Kd.int .i64) _ 3 ?hg (N := 36) ?hd (xs := ([] : List Int)) (inner := []) (ok := fun _ => True) (okp := fun _ => True) ?hr ?hp (fun _ hk => hk) trivial (Below.refl _ _) (Nat.le_refl _) (by simp) ?_; (case hd => rfl); (case hg => rfl); (case hr => first | (go_simp; done) | (go_simp; rfl)); (case hp => exact (Reps.none _ _)); intro v218 w24 ho25 hb hg_ hnew_; clear hg_ hnew_; (first | rw [← Ny217.out] at ho25 | (simp only [Int.reduceToNat] at ho25; rw [← Ny217.out] at ho25)); have n0_ := Aside0.mk (Kd.R_elder' (by (with_reducible repeat (first | apply Kd.R_alloc | apply Kd.R_drewN | apply Kd.R_drew)); exact HO_7.out) (Kd.R_base ho25) hb); have n1_ := Aside0.mk (Kd.R_lower (Kd.R_new' ho25 (Kd.R_lt (by (with_reducible repeat (first | apply Kd.R_alloc | apply Kd.R_drewN | apply Kd.R_drew)); exact HO_7.out))) (below_size (by repeat (first | (with_reducible first | exact HB.out | apply below_alloc | apply pw_below_drewN | apply below_drew1) | exact HB.out)))); have n2_ := Aside0.mk (below_step (by repeat (first | (with_reducible first | exact HB.out | apply below_alloc | apply pw_below_drewN | apply below_drew1) | exact HB.out)) hb); clear HO_7; clear HB; have HO_7 := n0_; have HO219 := n1_; have HB := n2_; clear n0_ n1_ n2_; clear hb ho25) | ((with_reducible refine gate_builtin (b := .append) (xs := #[.tmp 36, .tmp 37]) rfl ?_); (try (refine gate_guard (by rfl) ?_; dsimp only)); at_builtin; refine Kd.R_append_rows (Kd.int .i64) (w0 := w) w.heap.size rfl (.tmp 36) (.tmp 37) 22 3 (.int .i64 0) 8 rfl Try.underlying22 info3 rfl (by decide) (by omega) v218 y217 l0 _ _ _ (fun k_ => some k_ ≠ (v213 : Value).ownBlock) (fun _ => False) rfl rfl ?aO ?aR (fun _ _ h => h) (fun _ h => h.elim) ?aF ?aB ?aS ?aL ?_; (case aR => repeat (first | exact (Kd.C_below HR0.out HB.out) | (with_reducible refine Kd.C_alloc ?_ _) | (with_reducible refine Kd.C_drewN ?_ _) | (with_reducible refine Kd.C_drew ?_))); (case aB => exact (by repeat (first | (with_reducible first | exact HB.out | apply below_alloc | apply pw_below_drewN | apply below_drew1) | exact HB.out))); (case aF => exact (fun k_ hk => Kd.fresh' (Kd.R_lt (by (with_reducible repeat (first | apply Kd.R_alloc | apply Kd.R_drewN | apply Kd.R_drew)); exact HO_7.out)) k_ hk)); (case aO => exact (by (with_reducible repeat (first | apply Kd.R_alloc | apply Kd.R_drewN | apply Kd.R_drew)); exact Kd.R_mono HO219.out (fun _ hk => hk.2))); (case aS => exact (below_size (by repeat (first | (with_reducible first | exact HB.out | apply below_alloc | apply pw_below_drewN | apply below_drew1) | exact HB.out)))); (case aL => have := LMc16.out; omega); intro v221 w26 ho hb hg hat; rw [← Ny220.out] at ho; have n0_ := Aside0.mk (Kd.R_after (ok := (fun _ => True)) (by (with_reducible repeat (first | apply Kd.R_alloc | apply Kd.R_drewN | apply Kd.R_drew)); exact HO_7.out) hg hat); have n1_ := Aside0.mk (hb); have n2_ := Aside0.mk (ho); clear HO_7; clear HB; clear HO219; have HO_7 := n0_; have HB := n1_; have HO222 := n2_; clear n0_ n1_ n2_; clear ho hb hg hat; obtain ⟨Ao27, co27, eo27⟩ := Kd.R_slice HO222.out; subst eo27; have p223 : 0 ≤ ((ji18) : Int) := of_decide_eq_true (by first | (with_reducible assumption) | assumption); have q223 : (ji18) < (y220.length : Int) := of_decide_eq_true (by first | (with_reducible assumption) | assumption); obtain ⟨ad223, e223, hx223_0⟩ := Kd.at_int (Kd.R_reads' HO222.out).2.2 (ji18) p223 q223; cases e223; replace p223 := eq_true p223; replace q223 := eq_true q223; have p21 : 0 ≤ ((ji18) : Int) := of_decide_eq_true (by first | (with_reducible assumption) | assumption); have q21 : ((ji18) : Int) < ((y220.length : Int) : Int) := of_decide_eq_true (by first | (with_reducible assumption) | assumption); obtain ⟨go21, co21, eo21, gb21, gl21, cl21, HG21⟩ := Kd.R_form HO222.out (by omega); (first | cases eo21 | (injection eo21 with ea_ en_ ec_; (first | subst ea_ | (injection ea_ with ea_; subst ea_)); subst ec_; clear en_)); have GB21 := Aside0.mk gb21; have GG21 := Aside0.mk HG21; clear gb21 gl21 HG21; (first | simp only [add_plain] at hx223_0 | skip); obtain ⟨hx21_0, hf21_0⟩ := Kd.R_celln 0 HO222.out ((ji18) : Int) p21 q21; replace p21 := eq_true p21; replace q21 := eq_true q21; obtain ⟨hy28_, hz28_⟩ := Kd.R_celln 0 HO222.out ((ji18) : Int) (of_decide_eq_true (by first | (with_reducible assumption) | assumption)) (of_decide_eq_true (by first | (with_reducible assumption) | assumption)); have HP28 := Kd.R_putg HO222.out ((ji18) : Int) (Go.bits .xor .i64 (rd y220 (ji18)) (wrap64 (1 + (Go.bits .and .i64 a2 7))))) | ((with_reducible refine gate_store (t := 3) (p := 56) rfl ?_); (try (rw [drewN_self w26]; generalize hq_ : World.drewN w26 _ = w26; have n0_ := Aside0.mk (Kd.R_at hq_ HO_7.out); have n1_ := Aside0.mk (Kd.R_at hq_ HO222.out); have n2_ := Aside0.mk (below_at hq_ HB.out); clear hq_ HO_7 HO222 HB; have HO_7 := n0_; have HO222 := n1_; have HB := n2_; clear n0_ n1_ n2_; (try (obtain ⟨hy28_, hz28_⟩ := Kd.R_celln 0 HO222.out ((ji18) : Int) (of_decide_eq_true (by first | (with_reducible assumption) | assumption)) (of_decide_eq_true (by first | (with_reducible assumption) | assumption)))); (try (have HP28 := Kd.R_putg HO222.out ((ji18) : Int) (Go.bits .xor .i64 (rd y220 (ji18)) (wrap64 (1 + (Go.bits .and .i64 a2 7)))))))); refine store_event (t := 3) (p := 56) (v := ?vo_w29) (w1 := (w26.setCell ⟨go21, ((ji18) : Int).toNat, none⟩ (.int .i64 (Go.bits .xor .i64 (rd y220 (ji18)) (wrap64 (1 + (Go.bits .and .i64 a2 7))))))) ?hg ?ho ?hn ?hr ?_; (case ho => rfl); (case hg => rfl); (case hn => rfl); (case hr => first | (go_simp; done) | (go_simp; rfl)); intro w29 hw; have hg : w26.grownBy w29 (some go21) := (by rw [hw]; exact HP28.2); have hp_ : Kd.R (Kd.int .i64) 3 w29 w.heap.size (fun k_ => some k_ ≠ (v213 : Value).ownBlock) (.slice (some ⟨go21, 0, none⟩) y220.length co27) y224 := (by rw [hw, Ny224.out]; exact HP28.1); clear HP28; have n0_ := Aside0.mk (Kd.R_after (v := (.slice (some ⟨go21, 0, none⟩) y220.length co27)) (v1 := (.slice (some ⟨go21, 0, none⟩) y220.length co27)) (ok := (fun _ => True)) (by (with_reducible repeat (first | apply Kd.R_alloc | apply Kd.R_drewN | apply Kd.R_drew)); exact HO_7.out) hg (.inl rfl)); have n1_ := Aside0.mk (hp_); have n2_ := Aside0.mk ((by rw [hw]; exact below_set (HB.out) GB21.out : Below w.heap.size w w29)); clear HO_7; clear HO222; clear HB; have HO_7 := n0_; have HO222 := n1_; have HB := n2_; clear n0_ n1_ n2_; clear hg hw hp_) | (go_at_call 9; refine calls_of_args (args' := #[.slice (some ⟨go21, 0, none⟩) y224.length co27]) (by first | (rw [show y224.length = y220.length from (Kd.R_reads' HO222.out).1.symm] <;> rfl) | rfl) ?_; (with_reducible refine (line_Put.calls _ _ y224 t225 t226 _ ?side1 ?side2 A22.out).mono ?_); (case side1 => repeat (first | exact (Kd.R_reads' HO222.out).2.2 | (with_reducible refine Kd.C_alloc ?_ _) | (with_reducible refine Kd.C_drewN ?_ _) | (with_reducible refine Kd.C_drew ?_))); (case side2 => rw [show y224.length = y220.length from (Kd.R_reads' HO222.out).1.symm]; exact (Kd.R_reads' HO222.out).2.1); rintro e w30 ⟨v227, rfl, ho0, hb⟩; have n0_ := Aside0.mk (Kd.R_elder' (by (with_reducible repeat (first | apply Kd.R_alloc | apply Kd.R_drewN | apply Kd.R_drew)); exact HO_7.out) (Kd.R_base ho0) hb); have n1_ := Aside0.mk (Kd.R_elder' (by (with_reducible repeat (first | apply Kd.R_alloc | apply Kd.R_drewN | apply Kd.R_drew)); exact HO222.out) (Kd.R_base ho0) hb); have n2_ := Aside0.mk (Kd.R_lower (Kd.R_new' (Kd.R_new' ho0 (Kd.R_lt (by (with_reducible repeat (first | apply Kd.R_alloc | apply Kd.R_drewN | apply Kd.R_drew)); exact HO_7.out))) (Kd.R_lt (by (with_reducible repeat (first | apply Kd.R_alloc | apply Kd.R_drewN | apply Kd.R_drew)); exact HO222.out))) (below_size (by repeat (first | (with_reducible first | exact HB.out | apply below_alloc | apply pw_below_drewN | apply below_drew1) | exact HB.out)))); have n3_ := Aside0.mk (below_step (by repeat (first | (with_reducible first | exact HB.out | apply below_alloc | apply pw_below_drewN | apply below_drew1) | exact HB.out)) hb); clear HO_7; clear HO222; clear HB; have HO_7 := n0_; have HO222 := n1_; have HO228 := n2_; have HB := n3_; clear n0_ n1_ n2_ n3_; (try clear hb); (try clear hb2); (try clear hk); (try clear hi); (try clear ho0))); go_upto_region 10 with (first | ((with_reducible refine gate_dst (N := 36) rfl ?_); (try (refine gate_guard (by rfl) ?_; dsimp only)); refine Kd.R_lit (Kd.int .i64) _ 3 ?hg (N := 36) ?hd (xs := ([] : List Int)) (inner := []) (ok := fun _ => True) (okp := fun _ => True) ?hr ?hp (fun _ hk => hk) trivial (Below.refl _ _) (Nat.le_refl _) (by simp) ?_; (case hd => rfl); (case hg => rfl); (case hr => first | (go_simp; done) | (go_simp; rfl)); (case hp => exact (Reps.none _ _)); intro v218 w24 ho25 hb hg_ hnew_; clear hg_ hnew_; (first | rw [← Ny217.out] at ho25 | (simp only [Int.reduceToNat] at ho25; rw [← Ny217.out] at ho25)); have n0_ := Aside0.mk (Kd.R_elder' (by (with_reducible repeat (first | apply Kd.R_alloc | apply Kd.R_drewN | apply Kd.R_drew)); exact HO_7.out) (Kd.R_base ho25) hb); have n1_ := Aside0.mk (Kd.R_lower (Kd.R_new' ho25 (Kd.R_lt (by (with_reducible repeat (first | apply Kd.R_alloc | apply Kd.R_drewN | apply Kd.R_drew)); exact HO_7.out))) (below_size (by repeat (first | (with_reducible first | exact HB.out | apply below_alloc | apply pw_below_drewN | apply below_drew1) | exact HB.out)))); have n2_ := Aside0.mk (below_step (by repeat (first | (with_reducible first | exact HB.out | apply below_alloc | apply pw_below_drewN | apply below_drew1) | exact HB.out)) hb); clear HO_7; clear HB; have HO_7 := n0_; have HO219 := n1_; have HB := n2_; clear n0_ n1_ n2_; clear hb ho25) | ((with_reducible refine gate_builtin (b := .append) (xs := #[.tmp 36, .tmp 37]) rfl ?_); (try (refine gate_guard (by rfl) ?_; dsimp only)); at_builtin; refine Kd.R_append_rows (Kd.int .i64) (w0 := w) w.heap.size rfl (.tmp 36) (.tmp 37) 22 3 (.int .i64 0) 8 rfl Try.underlying22 info3 rfl (by decide) (by omega) v218 y217 l0 _ _ _ (fun k_ => some k_ ≠ (v213 : Value).ownBlock) (fun _ => False) rfl rfl ?aO ?aR (fun _ _ h => h) (fun _ h => h.elim) ?aF ?aB ?aS ?aL ?_; (case aR => repeat (first | exact (Kd.C_below HR0.out HB.out) | (with_reducible refine Kd.C_alloc ?_ _) | (with_reducible refine Kd.C_drewN ?_ _) | (with_reducible refine Kd.C_drew ?_))); (case aB => exact (by repeat (first | (with_reducible first | exact HB.out | apply below_alloc | apply pw_below_drewN | apply below_drew1) | exact HB.out))); (case aF => exact (fun k_ hk => Kd.fresh' (Kd.R_lt (by (with_reducible repeat (first | apply Kd.R_alloc | apply Kd.R_drewN | apply Kd.R_drew)); exact HO_7.out)) k_ hk)); (case aO => exact (by (with_reducible repeat (first | apply Kd.R_alloc | apply Kd.R_drewN | apply Kd.R_drew)); exact Kd.R_mono HO219.out (fun _ hk => hk.2))); (case aS => exact (below_size (by repeat (first | (with_reducible first | exact HB.out | apply below_alloc | apply pw_below_drewN | apply below_drew1) | exact HB.out)))); (case aL => have := LMc16.out; omega); intro v221 w26 ho hb hg hat; rw [← Ny220.out] at ho; have n0_ := Aside0.mk (Kd.R_after (ok := (fun _ => True)) (by (with_reducible repeat (first | apply Kd.R_alloc | apply Kd.R_drewN | apply Kd.R_drew)); exact HO_7.out) hg hat); have n1_ := Aside0.mk (hb); have n2_ := Aside0.mk (ho); clear HO_7; clear HB; clear HO219; have HO_7 := n0_; have HB := n1_; have HO222 := n2_; clear n0_ n1_ n2_; clear ho hb hg hat; obtain ⟨Ao27, co27, eo27⟩ := Kd.R_slice HO222.out; subst eo27; have p223 : 0 ≤ ((ji18) : Int) := of_decide_eq_true (by first | (with_reducible assumption) | assumption); have q223 : (ji18) < (y220.length : Int) := of_decide_eq_true (by first | (with_reducible assumption) | assumption); obtain ⟨ad223, e223, hx223_0⟩ := Kd.at_int (Kd.R_reads' HO222.out).2.2 (ji18) p223 q223; cases e223; replace p223 := eq_true p223; replace q223 := eq_true q223; have p21 : 0 ≤ ((ji18) : Int) := of_decide_eq_true (by first | (with_reducible assumption) | assumption); have q21 : ((ji18) : Int) < ((y220.length : Int) : Int) := of_decide_eq_true (by first | (with_reducible assumption) | assumption); obtain ⟨go21, co21, eo21, gb21, gl21, cl21, HG21⟩ := Kd.R_form HO222.out (by omega); (first | cases eo21 | (injection eo21 with ea_ en_ ec_; (first | subst ea_ | (injection ea_ with ea_; subst ea_)); subst ec_; clear en_)); have GB21 := Aside0.mk gb21; have GG21 := Aside0.mk HG21; clear gb21 gl21 HG21; (first | simp only [add_plain] at hx223_0 | skip); obtain ⟨hx21_0, hf21_0⟩ := Kd.R_celln 0 HO222.out ((ji18) : Int) p21 q21; replace p21 := eq_true p21; replace q21 := eq_true q21; obtain ⟨hy28_, hz28_⟩ := Kd.R_celln 0 HO222.out ((ji18) : Int) (of_decide_eq_true (by first | (with_reducible assumption) | assumption)) (of_decide_eq_true (by first | (with_reducible assumption) | assumption)); have HP28 := Kd.R_putg HO222.out ((ji18) : Int) (Go.bits .xor .i64 (rd y220 (ji18)) (wrap64 (1 + (Go.bits .and .i64 a2 7))))) | ((with_reducible refine gate_store (t := 3) (p := 56) rfl ?_); (try (rw [drewN_self w26]; generalize hq_ : World.drewN w26 _ = w26; have n0_ := Aside0.mk (Kd.R_at hq_ HO_7.out); have n1_ := Aside0.mk (Kd.R_at hq_ HO222.out); have n2_ := Aside0.mk (below_at hq_ HB.out); clear hq_ HO_7 HO222 HB; have HO_7 := n0_; have HO222 := n1_; have HB := n2_; clear n0_ n1_ n2_; (try (obtain ⟨hy28_, hz28_⟩ := Kd.R_celln 0 HO222.out ((ji18) : Int) (of_decide_eq_true (by first | (with_reducible assumption) | assumption)) (of_decide_eq_true (by first | (with_reducible assumption) | assumption)))); (try (have HP28 := Kd.R_putg HO222.out ((ji18) : Int) (Go.bits .xor .i64 (rd y220 (ji18)) (wrap64 (1 + (Go.bits .and .i64 a2 7)))))))); refine store_event (t := 3) (p := 56) (v := ?vo_w29) (w1 := (w26.setCell ⟨go21, ((ji18) : Int).toNat, none⟩ (.int .i64 (Go.bits .xor .i64 (rd y220 (ji18)) (wrap64 (1 + (Go.bits .and .i64 a2 7))))))) ?hg ?ho ?hn ?hr ?_; (case ho => rfl); (case hg => rfl); (case hn => rfl); (case hr => first | (go_simp; done) | (go_simp; rfl)); intro w29 hw; have hg : w26.grownBy w29 (some go21) := (by rw [hw]; exact HP28.2); have hp_ : Kd.R (Kd.int .i64) 3 w29 w.heap.size (fun k_ => some k_ ≠ (v213 : Value).ownBlock) (.slice (some ⟨go21, 0, none⟩) y220.length co27) y224 := (by rw [hw, Ny224.out]; exact HP28.1); clear HP28; have n0_ := Aside0.mk (Kd.R_after (v := (.slice (some ⟨go21, 0, none⟩) y220.length co27)) (v1 := (.slice (some ⟨go21, 0, none⟩) y220.length co27)) (ok := (fun _ => True)) (by (with_reducible repeat (first | apply Kd.R_alloc | apply Kd.R_drewN | apply Kd.R_drew)); exact HO_7.out) hg (.inl rfl)); have n1_ := Aside0.mk (hp_); have n2_ := Aside0.mk ((by rw [hw]; exact below_set (HB.out) GB21.out : Below w.heap.size w w29)); clear HO_7; clear HO222; clear HB; have HO_7 := n0_; have HO222 := n1_; have HB := n2_; clear n0_ n1_ n2_; clear hg hw hp_) | (go_at_call 9; refine calls_of_args (args' := #[.slice (some ⟨go21, 0, none⟩) y224.length co27]) (by first | (rw [show y224.length = y220.length from (Kd.R_reads' HO222.out).1.symm] <;> rfl) | rfl) ?_; (with_reducible refine (line_Put.calls _ _ y224 t225 t226 _ ?side1 ?side2 A22.out).mono ?_); (case side1 => repeat (first | exact (Kd.R_reads' HO222.out).2.2 | (with_reducible refine Kd.C_alloc ?_ _) | (with_reducible refine Kd.C_drewN ?_ _) | (with_reducible refine Kd.C_drew ?_))); (case side2 => rw [show y224.length = y220.length from (Kd.R_reads' HO222.out).1.symm]; exact (Kd.R_reads' HO222.out).2.1); rintro e w30 ⟨v227, rfl, ho0, hb⟩; have n0_ := Aside0.mk (Kd.R_elder' (by (with_reducible repeat (first | apply Kd.R_alloc | apply Kd.R_drewN | apply Kd.R_drew)); exact HO_7.out) (Kd.R_base ho0) hb); have n1_ := Aside0.mk (Kd.R_elder' (by (with_reducible repeat (first | apply Kd.R_alloc | apply Kd.R_drewN | apply Kd.R_drew)); exact HO222.out) (Kd.R_base ho0) hb); have n2_ := Aside0.mk (Kd.R_lower (Kd.R_new' (Kd.R_new' ho0 (Kd.R_lt (by (with_reducible repeat (first | apply Kd.R_alloc | apply Kd.R_drewN | apply Kd.R_drew)); exact HO_7.out))) (Kd.R_lt (by (with_reducible repeat (first | apply Kd.R_alloc | apply Kd.R_drewN | apply Kd.R_drew)); exact HO222.out))) (below_size (by repeat (first | (with_reducible first | exact HB.out | apply below_alloc | apply pw_below_drewN | apply below_drew1) | exact HB.out)))); have n3_ := Aside0.mk (below_step (by repeat (first | (with_reducible first | exact HB.out | apply below_alloc | apply pw_below_drewN | apply below_drew1) | exact HB.out)) hb); clear HO_7; clear HO222; clear HB; have HO_7 := n0_; have HO222 := n1_; have HO228 := n2_; have HB := n3_; clear n0_ n1_ n2_ n3_; (try clear hb); (try clear hb2); (try clear hk); (try clear hi); (try clear ho0))))
         (try simp only [Act.put, List.setIfInBounds_toArray, List.set_cons_zero, List.set_cons_succ])
         go_cut [71] (fun v71 wc => ∃ (kq : Nat) (x71_22 : Bool), v71 = .bool x71_22 ∧ Aside0 (descantlaw16_LineUnlike.j1 kq l0 t211 y224 ji18 t225 t226 x71_22 = some r) ∧ Aside0 (kq ≤ kj6) ∧ Aside0 (Kd.R (Kd.int .i64) 3 wc w.heap.size (fun k_ => some k_ ≠ ((.slice (some ⟨go21, 0, none⟩) y220.length co27) : Value).ownBlock ∧ some k_ ≠ (v227 : Value).ownBlock) v213 t211) ∧ Aside0 (Kd.R (Kd.int .i64) 3 wc w.heap.size (fun k_ => some k_ ≠ (v213 : Value).ownBlock ∧ some k_ ≠ (v227 : Value).ownBlock) (.slice (some ⟨go21, 0, none⟩) y220.length co27) y224) ∧ Aside0 (Kd.R (Kd.int .i64) 3 wc w.heap.size (fun k_ => some k_ ≠ (v213 : Value).ownBlock ∧ some k_ ≠ ((.slice (some ⟨go21, 0, none⟩) y220.length co27) : Value).ownBlock) v227 t225) ∧ Aside0 (Below w.heap.size w wc))
         case first =>
          have H := HC23.out
          clear HC23
          replace H := Option.bind_eq_some_iff.mp H
          obtain ⟨t229, A310, H⟩ := H
          replace H : (if t229 = 0 then (descantlaw16_LineUnlike.j1 kj6 l0 t211 y224 ji18 t225 t226 ((t225.length : Int) != (t211.length : Int))) else (descantlaw16_LineUnlike.j1 kj6 l0 t211 y224 ji18 t225 t226 true)) = some r := H
          have A31 := Aside0.mk A310
          clear A310
          by_cases c32 : t229 = 0
          ·rw [if_pos c32] at H
           have c32b0 : (t229 == 0) = true := beq_iff_eq.mpr c32
           have c32b1 : (t229 != 0) = false := bne_eq_false_iff_eq.mpr c32
           clear c32
           (first | rw [c32b0] | (simp only [i64_w, i32_w]; rw [c32b0]) | skip)
           have H' := Aside0.mk H
           clear H
           go_wp2_with (first | (go_at_call 14; (with_reducible refine (descantlaw0_Num.calls t226 t229 _ A31.out).mono ?_); rintro e w' ⟨rfl, ⟨nd, rfl⟩⟩; (try first | exact ⟨rfl, _, World.drewN_drewN _ _ _⟩ | exact ⟨rfl, _, Eq.trans (World.drewN_drewN _ _ _) (congrArg (World.drewN _) (Nat.add_assoc _ _ _))⟩); obtain ⟨Ao33, co33, eo33⟩ := Kd.R_slice HO228.out; subst eo33; obtain ⟨Ao34, co34, eo34⟩ := Kd.R_slice HO_7.out; subst eo34))
           repeat ((fail_if_success (with_reducible (first | refine Extra.ahead_loop ?_ | refine Extra.ahead_loop_seq ?_))); go_quiet (first | (go_at_call 14; (with_reducible refine (descantlaw0_Num.calls t226 t229 _ A31.out).mono ?_); rintro e w' ⟨rfl, ⟨nd, rfl⟩⟩; (try first | exact ⟨rfl, _, World.drewN_drewN _ _ _⟩ | exact ⟨rfl, _, Eq.trans (World.drewN_drewN _ _ _) (congrArg (World.drewN _) (Nat.add_assoc _ _ _))⟩); obtain ⟨Ao33, co33, eo33⟩ := Kd.R_slice HO228.out; subst eo33; obtain ⟨Ao34, co34, eo34⟩ := Kd.R_slice HO_7.out; subst eo34)); try go_wp2_with (first | (go_at_call 14; (with_reducible refine (descantlaw0_Num.calls t226 t229 _ A31.out).mono ?_); rintro e w' ⟨rfl, ⟨nd, rfl⟩⟩; (try first | exact ⟨rfl, _, World.drewN_drewN _ _ _⟩ | exact ⟨rfl, _, Eq.trans (World.drewN_drewN _ _ _) (congrArg (World.drewN _) (Nat.add_assoc _ _ _))⟩); obtain ⟨Ao33, co33, eo33⟩ := Kd.R_slice HO228.out; subst eo33; obtain ⟨Ao34, co34, eo34⟩ := Kd.R_slice HO_7.out; subst eo34)))
           go_meet
           case rel => exact ⟨_, (((t225.length : Int) != (t211.length : Int))), (by first | rfl | (simp; done) | (simp [*]; done)), H', ⟨by have := HJ6.out; first | omega | exact Nat.le_refl _⟩, ⟨by (with_reducible repeat (first | apply Kd.R_alloc | apply Kd.R_drewN | apply Kd.R_drew)); exact Kd.R_mono HO_7.out (fun _ hk => ⟨hk.1.2, hk.2⟩)⟩, ⟨by (with_reducible repeat (first | apply Kd.R_alloc | apply Kd.R_drewN | apply Kd.R_drew)); exact HO222.out⟩, ⟨by (with_reducible repeat (first | apply Kd.R_alloc | apply Kd.R_drewN | apply Kd.R_drew)); exact Kd.R_mono HO228.out (fun _ hk => ⟨hk.1.2, hk.2⟩)⟩, ⟨by repeat (first | (with_reducible first | exact HB.out | apply below_alloc | apply pw_below_drewN | apply below_drew1) | exact HB.out)⟩⟩
          ·rw [if_neg c32] at H
           have c32b0 : (t229 == 0) = false := beq_eq_false_iff_ne.mpr c32
           have c32b1 : (t229 != 0) = true := bne_iff_ne.mpr c32
           (first | rw [c32b0] | (simp only [i64_w, i32_w]; rw [c32b0]) | skip)
           have H' := Aside0.mk H
           clear H
           go_wp2_with (first | (go_at_call 14; (with_reducible refine (descantlaw0_Num.calls t226 t229 _ A31.out).mono ?_); rintro e w' ⟨rfl, ⟨nd, rfl⟩⟩; (try first | exact ⟨rfl, _, World.drewN_drewN _ _ _⟩ | exact ⟨rfl, _, Eq.trans (World.drewN_drewN _ _ _) (congrArg (World.drewN _) (Nat.add_assoc _ _ _))⟩)))
           repeat ((fail_if_success (with_reducible (first | refine Extra.ahead_loop ?_ | refine Extra.ahead_loop_seq ?_))); go_quiet (first | (go_at_call 14; (with_reducible refine (descantlaw0_Num.calls t226 t229 _ A31.out).mono ?_); rintro e w' ⟨rfl, ⟨nd, rfl⟩⟩; (try first | exact ⟨rfl, _, World.drewN_drewN _ _ _⟩ | exact ⟨rfl, _, Eq.trans (World.drewN_drewN _ _ _) (congrArg (World.drewN _) (Nat.add_assoc _ _ _))⟩))); try go_wp2_with (first | (go_at_call 14; (with_reducible refine (descantlaw0_Num.calls t226 t229 _ A31.out).mono ?_); rintro e w' ⟨rfl, ⟨nd, rfl⟩⟩; (try first | exact ⟨rfl, _, World.drewN_drewN _ _ _⟩ | exact ⟨rfl, _, Eq.trans (World.drewN_drewN _ _ _) (congrArg (World.drewN _) (Nat.add_assoc _ _ _))⟩))))
           go_meet
           case rel => exact ⟨_, (true), (by first | rfl | (simp; done) | (simp [*]; done)), H', ⟨by have := HJ6.out; first | omega | exact Nat.le_refl _⟩, ⟨by (with_reducible repeat (first | apply Kd.R_alloc | apply Kd.R_drewN | apply Kd.R_drew)); exact Kd.R_mono HO_7.out (fun _ hk => ⟨hk.1.2, hk.2⟩)⟩, ⟨by (with_reducible repeat (first | apply Kd.R_alloc | apply Kd.R_drewN | apply Kd.R_drew)); exact HO222.out⟩, ⟨by (with_reducible repeat (first | apply Kd.R_alloc | apply Kd.R_drewN | apply Kd.R_drew)); exact Kd.R_mono HO228.out (fun _ hk => ⟨hk.1.2, hk.2⟩)⟩, ⟨by repeat (first | (with_reducible first | exact HB.out | apply below_alloc | apply pw_below_drewN | apply below_drew1) | exact HB.out)⟩⟩
         case rest =>
          clear HC23
          try clear c1
          try clear c2
          try clear p2
          try clear q2
          try clear hx2
          try clear c3
          try clear c5
          try clear p6
          try clear c7
          try clear c11
          try clear c11b0
          try clear c11b1
          try clear c12
          try clear c14
          try clear c14b0
          try clear c14b1
          try clear c16
          try clear c17
          try clear c17b0
          try clear c17b1
          try clear c19
          try clear c19b0
          try clear c20
          try clear c20b0
          try clear p21
          try clear q21
          try clear hx21
          try clear hf21
          try clear p22
          try clear q22
          try clear hx22
          try clear c32
          try clear c32b0
          try clear c32b1
          try clear hx21_0
          try clear hx223_0
          try clear p2
          try clear p21
          try clear p223
          try clear q21
          try clear q223
          obtain ⟨kq, x71_22, rfl, HA, HJ22, HO_7, HO_9, HO_11, HB⟩ := hcut
          have hl9_22 := (Kd.R_reads' HO_9.out).1
          rw [hl9_22] at HO_9
          (try simp only [hl9_22])
          (try simp only [hl9_22] at HO_7)
          (try simp only [hl9_22] at HO_11)
          cases kq with
          | zero => exact absurd HA.out (by simp [descantlaw16_LineUnlike.j1])
          | succ kj22 =>
           have H := HA.out
           clear HA
           simp only [descantlaw16_LineUnlike.j1] at H
           by_cases c35 : x71_22 = true
           ·subst c35
            have H1 : ((descantlaw0_Num.f t226).bind fun t230 => (some (t230 != 0))) = some r := by rw [if_pos rfl] at H; exact H
            clear H
            have H := H1
            clear H1
            replace H := Option.bind_eq_some_iff.mp H
            obtain ⟨t230, A360, H⟩ := H
            replace H : (some (t230 != 0)) = some r := H
            have A36 := Aside0.mk A360
            clear A360
            obtain rfl := Option.some.inj H
            go_wp2_with (first | (go_at_call 14; (with_reducible refine (descantlaw0_Num.calls t226 t230 _ A36.out).mono ?_); rintro e w' ⟨rfl, ⟨nd, rfl⟩⟩; (try first | exact ⟨rfl, _, World.drewN_drewN _ _ _⟩ | exact ⟨rfl, _, Eq.trans (World.drewN_drewN _ _ _) (congrArg (World.drewN _) (Nat.add_assoc _ _ _))⟩)))
            repeat ((fail_if_success (with_reducible (first | refine Extra.ahead_loop ?_ | refine Extra.ahead_loop_seq ?_))); go_quiet (first | (go_at_call 14; (with_reducible refine (descantlaw0_Num.calls t226 t230 _ A36.out).mono ?_); rintro e w' ⟨rfl, ⟨nd, rfl⟩⟩; (try first | exact ⟨rfl, _, World.drewN_drewN _ _ _⟩ | exact ⟨rfl, _, Eq.trans (World.drewN_drewN _ _ _) (congrArg (World.drewN _) (Nat.add_assoc _ _ _))⟩))); try go_wp2_with (first | (go_at_call 14; (with_reducible refine (descantlaw0_Num.calls t226 t230 _ A36.out).mono ?_); rintro e w' ⟨rfl, ⟨nd, rfl⟩⟩; (try first | exact ⟨rfl, _, World.drewN_drewN _ _ _⟩ | exact ⟨rfl, _, Eq.trans (World.drewN_drewN _ _ _) (congrArg (World.drewN _) (Nat.add_assoc _ _ _))⟩))))
            go_ret
            exact ⟨by first | rfl | (simp only [i64_w]; rfl) | (simp [errW_none, errW_some] <;> rfl) | (simp only [← hji18]; first | rfl | (simp [errW_none, errW_some] <;> rfl)) | (simp [*, errW_none, errW_some] <;> rfl), by repeat (first | (with_reducible first | exact HB.out | apply below_alloc | apply pw_below_drewN | apply below_drew1) | exact HB.out)⟩
           ·replace c35 := Bool.eq_false_iff.mpr c35
            subst c35
            have H1 : (if 0 ≤ ji18 then (if ji18 ≤ (t211.length : Int) then (if ji18 ≤ (t225.length : Int) then ((descantlaw0_SameInts.f kj22 (t211.take (ji18 : Int).toNat) (t225.take (ji18 : Int).toNat)).bind fun t239 => (if t239 = true then (if ji18 < (t211.length : Int) then (if ji18 < (t225.length : Int) then (if ji18 < (l0.length : Int) then (if ji18 < (y224.length : Int) then (some ((wrap64 ((rd t211 ji18) - (rd t225 ji18))) == (wrap64 ((rd l0 ji18) - (rd y224 ji18))))) else (none)) else (none)) else (none)) else (none)) else (none))) else (none)) else (none)) else (none)) = some r := by rw [if_neg (show ¬ (false = true) by decide)] at H; exact H
            clear H
            have H := H1
            clear H1
            by_cases c37 : 0 ≤ ji18
            ·rw [if_pos c37] at H
             have c37b0 := eq_true c37
             have c37b1 : decide (0 ≤ ji18) = true := decide_eq_true c37
             clear c37
             by_cases c38 : ji18 ≤ (t211.length : Int)
             ·rw [if_pos c38] at H
              have c38b0 := eq_true c38
              have c38b1 : decide (ji18 ≤ (t211.length : Int)) = true := decide_eq_true c38
              clear c38
              obtain ⟨y231, hy231⟩ : ∃ y_ : List Int, y_ = (t211.take (ji18 : Int).toNat) := ⟨_, rfl⟩
              replace H : (if ji18 ≤ (t225.length : Int) then ((descantlaw0_SameInts.f kj22 y231 (t225.take (ji18 : Int).toNat)).bind fun t239 => (if t239 = true then (if ji18 < (t211.length : Int) then (if ji18 < (t225.length : Int) then (if ji18 < (l0.length : Int) then (if ji18 < (y224.length : Int) then (some ((wrap64 ((rd t211 ji18) - (rd t225 ji18))) == (wrap64 ((rd l0 ji18) - (rd y224 ji18))))) else (none)) else (none)) else (none)) else (none)) else (none))) else (none)) = some r := by first | (rw [hy231]; with_reducible exact H) | (have H2_ := (Option.bind_some _ _).symm.trans H; rw [hy231]; with_reducible exact H2_) | (have H2_ := (Option.bind_some _ _).symm.trans H; with_reducible exact H2_) | with_reducible exact H | (rw [hy231]; exact H) | exact H
              have Ny231 := Aside0.mk hy231
              clear hy231
              have c39b0 := eq_true (of_decide_eq_true (by first | (with_reducible assumption) | assumption) : 0 ≤ ji18)
              by_cases c40 : ji18 ≤ (t225.length : Int)
              ·rw [if_pos c40] at H
               have c40b0 := eq_true c40
               have c40b1 : decide (ji18 ≤ (t225.length : Int)) = true := decide_eq_true c40
               clear c40
               obtain ⟨y235, hy235⟩ : ∃ y_ : List Int, y_ = (t225.take (ji18 : Int).toNat) := ⟨_, rfl⟩
               replace H : ((descantlaw0_SameInts.f kj22 y231 y235).bind fun t239 => (if t239 = true then (if ji18 < (t211.length : Int) then (if ji18 < (t225.length : Int) then (if ji18 < (l0.length : Int) then (if ji18 < (y224.length : Int) then (some ((wrap64 ((rd t211 ji18) - (rd t225 ji18))) == (wrap64 ((rd l0 ji18) - (rd y224 ji18))))) else (none)) else (none)) else (none)) else (none)) else (none))) = some r := by first | (rw [hy235]; with_reducible exact H) | (have H2_ := (Option.bind_some _ _).symm.trans H; rw [hy235]; with_reducible exact H2_) | (have H2_ := (Option.bind_some _ _).symm.trans H; with_reducible exact H2_) | with_reducible exact H | (rw [hy235]; exact H) | exact H
               have Ny235 := Aside0.mk hy235
               clear hy235
               replace H := Option.bind_eq_some_iff.mp H
               obtain ⟨t239, A410, H⟩ := H
               replace H : (if t239 = true then (if ji18 < (t211.length : Int) then (if ji18 < (t225.length : Int) then (if ji18 < (l0.length : Int) then (if ji18 < (y224.length : Int) then (some ((wrap64 ((rd t211 ji18) - (rd t225 ji18))) == (wrap64 ((rd l0 ji18) - (rd y224 ji18))))) else (none)) else (none)) else (none)) else (none)) else (none)) = some r := H
               have A41 := Aside0.mk A410
               clear A410
               by_cases c42 : t239 = true
               ·subst c42
                have H1 : (if ji18 < (t211.length : Int) then (if ji18 < (t225.length : Int) then (if ji18 < (l0.length : Int) then (if ji18 < (y224.length : Int) then (some ((wrap64 ((rd t211 ji18) - (rd t225 ji18))) == (wrap64 ((rd l0 ji18) - (rd y224 ji18))))) else (none)) else (none)) else (none)) else (none)) = some r := by rw [if_pos rfl] at H; exact H
                clear H
                have H := H1
                clear H1
                by_cases c43 : ji18 < (t211.length : Int)
                ·rw [if_pos c43] at H
                 have c43b0 : decide (ji18 < (t211.length : Int)) = true := decide_eq_true c43
                 (try (have c43b0h := c43b0; simp only [hl9_22] at c43b0h))
                 clear c43
                 by_cases c44 : ji18 < (t225.length : Int)
                 ·rw [if_pos c44] at H
                  have c44b0 : decide (ji18 < (t225.length : Int)) = true := decide_eq_true c44
                  (try (have c44b0h := c44b0; simp only [hl9_22] at c44b0h))
                  clear c44
                  by_cases c45 : ji18 < (l0.length : Int)
                  ·rw [if_pos c45] at H
                   have c45b0 : decide (ji18 < (l0.length : Int)) = true := decide_eq_true c45
                   (try (have c45b0h := c45b0; simp only [hl9_22] at c45b0h))
                   clear c45
                   by_cases c46 : ji18 < (y224.length : Int)
                   ·rw [if_pos c46] at H
                    have c46b0 : decide (ji18 < (y224.length : Int)) = true := decide_eq_true c46
                    (try (have c46b0h := c46b0; simp only [hl9_22] at c46b0h))
                    clear c46
                    obtain rfl := Option.some.inj H
                    obtain ⟨Ao48, co48, eo48⟩ := Kd.R_slice HO_7.out
                    subst eo48
                    have q47 : (ji18 : Int) ≤ ((t211.length : Int) : Int) := of_decide_eq_true (by first | (with_reducible assumption) | assumption)
                    obtain ⟨i047, hi047, _, hsz47, _⟩ := info_parts info3
                    have hroom47 : t211.length ≤ co48 := (Kd.R_reads' HO_7.out).2.1
                    have hC47 : Kd.C (Kd.int .i64) _ Ao48 t211.length t211 := (Kd.R_reads' HO_7.out).2.2
                    have hcut47 := cut_to (P := Try.prog) 22 3 .i64 Try.underlying22 hi047 Ao48 t211.length co48 ji18 (of_decide_eq_true (by first | (with_reducible assumption) | assumption)) q47 hroom47
                    have hr47 := Kd.C_take (m := (ji18 : Int).toNat) hC47 (by omega)
                    have hy47 : y231.length = (ji18 : Int).toNat := (by rw [Ny231.out, List.length_take]; omega)
                    rw [← Ny231.out] at hr47
                    rw [← hy47] at hcut47
                    have HR234 := Aside0.mk hr47
                    have HC234 := Aside0.mk (show y231.length ≤ co48 from by omega)
                    clear hr47 hC47 hroom47 hi047 hsz47
                    have KY47 := Aside0.mk hy47
                    clear hy47
                    have KL47 := Aside0.mk (show (ji18 : Int).toNat ≤ t211.length from by omega)
                    replace q47 := eq_true q47
                    obtain ⟨Ao50, co50, eo50⟩ := Kd.R_slice HO_11.out
                    subst eo50
                    have q49 : (ji18 : Int) ≤ ((t225.length : Int) : Int) := of_decide_eq_true (by first | (with_reducible assumption) | assumption)
                    obtain ⟨i049, hi049, _, hsz49, _⟩ := info_parts info3
                    have hroom49 : t225.length ≤ co50 := (Kd.R_reads' HO_11.out).2.1
                    have hC49 : Kd.C (Kd.int .i64) _ Ao50 t225.length t225 := (Kd.R_reads' HO_11.out).2.2
                    have hcut49 := cut_to (P := Try.prog) 22 3 .i64 Try.underlying22 hi049 Ao50 t225.length co50 ji18 (of_decide_eq_true (by first | (with_reducible assumption) | assumption)) q49 hroom49
                    have hr49 := Kd.C_take (m := (ji18 : Int).toNat) hC49 (by omega)
                    have hy49 : y235.length = (ji18 : Int).toNat := (by rw [Ny235.out, List.length_take]; omega)
                    rw [← Ny235.out] at hr49
                    rw [← hy49] at hcut49
                    have HR238 := Aside0.mk hr49
                    have HC238 := Aside0.mk (show y235.length ≤ co50 from by omega)
                    clear hr49 hC49 hroom49 hi049 hsz49
                    have KY49 := Aside0.mk hy49
                    clear hy49
                    have KL49 := Aside0.mk (show (ji18 : Int).toNat ≤ t225.length from by omega)
                    replace q49 := eq_true q49
                    go_wp2_with (first | (go_at_call 13; (with_reducible refine (descantlaw0_SameInts.calls kj22 _ _ y231 _ _ y235 true _ ?side1 ?side2 ?side3 ?side4 A41.out).mono ?_); (case side1 => repeat (first | exact (by repeat (first | (with_reducible exact HR234.out) | (with_reducible refine Kd.C_alloc ?_ _) | (with_reducible refine Kd.C_drewN ?_ _) | (with_reducible refine Kd.C_drew ?_) | exact HR234.out)) | (with_reducible refine Kd.C_alloc ?_ _) | (with_reducible refine Kd.C_drewN ?_ _) | (with_reducible refine Kd.C_drew ?_))); (case side2 => exact HC234.out); (case side3 => repeat (first | exact (by repeat (first | (with_reducible exact HR238.out) | (with_reducible refine Kd.C_alloc ?_ _) | (with_reducible refine Kd.C_drewN ?_ _) | (with_reducible refine Kd.C_drew ?_) | exact HR238.out)) | (with_reducible refine Kd.C_alloc ?_ _) | (with_reducible refine Kd.C_drewN ?_ _) | (with_reducible refine Kd.C_drew ?_))); (case side4 => exact HC238.out); rintro e w' ⟨rfl, ⟨nd, rfl⟩⟩; (try first | exact ⟨rfl, _, World.drewN_drewN _ _ _⟩ | exact ⟨rfl, _, Eq.trans (World.drewN_drewN _ _ _) (congrArg (World.drewN _) (Nat.add_assoc _ _ _))⟩); have p240 : 0 ≤ (ji18 : Int) := of_decide_eq_true (by first | (with_reducible assumption) | assumption); have q240 : ji18 < (t211.length : Int) := of_decide_eq_true (by first | (with_reducible assumption) | assumption); obtain ⟨ad240, e240, hx240_0⟩ := Kd.at_int (Kd.R_reads' HO_7.out).2.2 ji18 p240 q240; cases e240; replace p240 := eq_true p240; replace q240 := eq_true q240; have p241 : 0 ≤ (ji18 : Int) := of_decide_eq_true (by first | (with_reducible assumption) | assumption); have q241 : ji18 < (t225.length : Int) := of_decide_eq_true (by first | (with_reducible assumption) | assumption); obtain ⟨ad241, e241, hx241_0⟩ := Kd.at_int (Kd.R_reads' HO_11.out).2.2 ji18 p241 q241; cases e241; replace p241 := eq_true p241; replace q241 := eq_true q241; have p242 : 0 ≤ (ji18 : Int) := of_decide_eq_true (by first | (with_reducible assumption) | assumption); have q242 : ji18 < (l0.length : Int) := of_decide_eq_true (by first | (with_reducible assumption) | assumption); obtain ⟨ad242, e242, hx242_0⟩ := Kd.at_int HR0.out ji18 p242 q242; cases e242; replace hx242_0 := (HB.out.cell (World.block_lt_of_cell? w _ hx242_0)).trans hx242_0; replace p242 := eq_true p242; replace q242 := eq_true q242; have p243 : 0 ≤ (ji18 : Int) := of_decide_eq_true (by first | (with_reducible assumption) | assumption); have q243 : ji18 < (y224.length : Int) := of_decide_eq_true (by first | (with_reducible assumption) | assumption); obtain ⟨ad243, e243, hx243_0⟩ := Kd.at_int (Kd.R_reads' HO_9.out).2.2 ji18 p243 q243; obtain rfl : (⟨go21, 0, none⟩ : Addr) = ad243 := (by injection e243); (first | simp only [add_plain] at hx243_0 | simp only [add_at] at hx243_0 | simp only [Addr.add, Nat.zero_add] at hx243_0 | skip); replace p243 := eq_true p243; replace q243 := eq_true q243))
                    repeat ((fail_if_success (with_reducible (first | refine Extra.ahead_loop ?_ | refine Extra.ahead_loop_seq ?_))); go_quiet (first | (go_at_call 13; (with_reducible refine (descantlaw0_SameInts.calls kj22 _ _ y231 _ _ y235 true _ ?side1 ?side2 ?side3 ?side4 A41.out).mono ?_); (case side1 => repeat (first | exact (by repeat (first | (with_reducible exact HR234.out) | (with_reducible refine Kd.C_alloc ?_ _) | (with_reducible refine Kd.C_drewN ?_ _) | (with_reducible refine Kd.C_drew ?_) | exact HR234.out)) | (with_reducible refine Kd.C_alloc ?_ _) | (with_reducible refine Kd.C_drewN ?_ _) | (with_reducible refine Kd.C_drew ?_))); (case side2 => exact HC234.out); (case side3 => repeat (first | exact (by repeat (first | (with_reducible exact HR238.out) | (with_reducible refine Kd.C_alloc ?_ _) | (with_reducible refine Kd.C_drewN ?_ _) | (with_reducible refine Kd.C_drew ?_) | exact HR238.out)) | (with_reducible refine Kd.C_alloc ?_ _) | (with_reducible refine Kd.C_drewN ?_ _) | (with_reducible refine Kd.C_drew ?_))); (case side4 => exact HC238.out); rintro e w' ⟨rfl, ⟨nd, rfl⟩⟩; (try first | exact ⟨rfl, _, World.drewN_drewN _ _ _⟩ | exact ⟨rfl, _, Eq.trans (World.drewN_drewN _ _ _) (congrArg (World.drewN _) (Nat.add_assoc _ _ _))⟩); have p240 : 0 ≤ (ji18 : Int) := of_decide_eq_true (by first | (with_reducible assumption) | assumption); have q240 : ji18 < (t211.length : Int) := of_decide_eq_true (by first | (with_reducible assumption) | assumption); obtain ⟨ad240, e240, hx240_0⟩ := Kd.at_int (Kd.R_reads' HO_7.out).2.2 ji18 p240 q240; cases e240; replace p240 := eq_true p240; replace q240 := eq_true q240; have p241 : 0 ≤ (ji18 : Int) := of_decide_eq_true (by first | (with_reducible assumption) | assumption); have q241 : ji18 < (t225.length : Int) := of_decide_eq_true (by first | (with_reducible assumption) | assumption); obtain ⟨ad241, e241, hx241_0⟩ := Kd.at_int (Kd.R_reads' HO_11.out).2.2 ji18 p241 q241; cases e241; replace p241 := eq_true p241; replace q241 := eq_true q241; have p242 : 0 ≤ (ji18 : Int) := of_decide_eq_true (by first | (with_reducible assumption) | assumption); have q242 : ji18 < (l0.length : Int) := of_decide_eq_true (by first | (with_reducible assumption) | assumption); obtain ⟨ad242, e242, hx242_0⟩ := Kd.at_int HR0.out ji18 p242 q242; cases e242; replace hx242_0 := (HB.out.cell (World.block_lt_of_cell? w _ hx242_0)).trans hx242_0; replace p242 := eq_true p242; replace q242 := eq_true q242; have p243 : 0 ≤ (ji18 : Int) := of_decide_eq_true (by first | (with_reducible assumption) | assumption); have q243 : ji18 < (y224.length : Int) := of_decide_eq_true (by first | (with_reducible assumption) | assumption); obtain ⟨ad243, e243, hx243_0⟩ := Kd.at_int (Kd.R_reads' HO_9.out).2.2 ji18 p243 q243; obtain rfl : (⟨go21, 0, none⟩ : Addr) = ad243 := (by injection e243); (first | simp only [add_plain] at hx243_0 | simp only [add_at] at hx243_0 | simp only [Addr.add, Nat.zero_add] at hx243_0 | skip); replace p243 := eq_true p243; replace q243 := eq_true q243)); try go_wp2_with (first | (go_at_call 13; (with_reducible refine (descantlaw0_SameInts.calls kj22 _ _ y231 _ _ y235 true _ ?side1 ?side2 ?side3 ?side4 A41.out).mono ?_); (case side1 => repeat (first | exact (by repeat (first | (with_reducible exact HR234.out) | (with_reducible refine Kd.C_alloc ?_ _) | (with_reducible refine Kd.C_drewN ?_ _) | (with_reducible refine Kd.C_drew ?_) | exact HR234.out)) | (with_reducible refine Kd.C_alloc ?_ _) | (with_reducible refine Kd.C_drewN ?_ _) | (with_reducible refine Kd.C_drew ?_))); (case side2 => exact HC234.out); (case side3 => repeat (first | exact (by repeat (first | (with_reducible exact HR238.out) | (with_reducible refine Kd.C_alloc ?_ _) | (with_reducible refine Kd.C_drewN ?_ _) | (with_reducible refine Kd.C_drew ?_) | exact HR238.out)) | (with_reducible refine Kd.C_alloc ?_ _) | (with_reducible refine Kd.C_drewN ?_ _) | (with_reducible refine Kd.C_drew ?_))); (case side4 => exact HC238.out); rintro e w' ⟨rfl, ⟨nd, rfl⟩⟩; (try first | exact ⟨rfl, _, World.drewN_drewN _ _ _⟩ | exact ⟨rfl, _, Eq.trans (World.drewN_drewN _ _ _) (congrArg (World.drewN _) (Nat.add_assoc _ _ _))⟩); have p240 : 0 ≤ (ji18 : Int) := of_decide_eq_true (by first | (with_reducible assumption) | assumption); have q240 : ji18 < (t211.length : Int) := of_decide_eq_true (by first | (with_reducible assumption) | assumption); obtain ⟨ad240, e240, hx240_0⟩ := Kd.at_int (Kd.R_reads' HO_7.out).2.2 ji18 p240 q240; cases e240; replace p240 := eq_true p240; replace q240 := eq_true q240; have p241 : 0 ≤ (ji18 : Int) := of_decide_eq_true (by first | (with_reducible assumption) | assumption); have q241 : ji18 < (t225.length : Int) := of_decide_eq_true (by first | (with_reducible assumption) | assumption); obtain ⟨ad241, e241, hx241_0⟩ := Kd.at_int (Kd.R_reads' HO_11.out).2.2 ji18 p241 q241; cases e241; replace p241 := eq_true p241; replace q241 := eq_true q241; have p242 : 0 ≤ (ji18 : Int) := of_decide_eq_true (by first | (with_reducible assumption) | assumption); have q242 : ji18 < (l0.length : Int) := of_decide_eq_true (by first | (with_reducible assumption) | assumption); obtain ⟨ad242, e242, hx242_0⟩ := Kd.at_int HR0.out ji18 p242 q242; cases e242; replace hx242_0 := (HB.out.cell (World.block_lt_of_cell? w _ hx242_0)).trans hx242_0; replace p242 := eq_true p242; replace q242 := eq_true q242; have p243 : 0 ≤ (ji18 : Int) := of_decide_eq_true (by first | (with_reducible assumption) | assumption); have q243 : ji18 < (y224.length : Int) := of_decide_eq_true (by first | (with_reducible assumption) | assumption); obtain ⟨ad243, e243, hx243_0⟩ := Kd.at_int (Kd.R_reads' HO_9.out).2.2 ji18 p243 q243; obtain rfl : (⟨go21, 0, none⟩ : Addr) = ad243 := (by injection e243); (first | simp only [add_plain] at hx243_0 | simp only [add_at] at hx243_0 | simp only [Addr.add, Nat.zero_add] at hx243_0 | skip); replace p243 := eq_true p243; replace q243 := eq_true q243)))
                    go_ret
                    exact ⟨by first | rfl | (simp only [i64_w]; rfl) | (simp [errW_none, errW_some] <;> rfl) | (simp only [← hji18]; first | rfl | (simp [errW_none, errW_some] <;> rfl)) | (simp [*, errW_none, errW_some] <;> rfl), by repeat (first | (with_reducible first | exact HB.out | apply below_alloc | apply pw_below_drewN | apply below_drew1) | exact HB.out)⟩
                   ·rw [if_neg c46] at H
                    exact absurd H (by simp)
                  ·rw [if_neg c45] at H
                   exact absurd H (by simp)
                 ·rw [if_neg c44] at H
                  exact absurd H (by simp)
                ·rw [if_neg c43] at H
                 exact absurd H (by simp)
               ·replace c42 := Bool.eq_false_iff.mpr c42
                subst c42
                have H1 : (none) = some r := by rw [if_neg (show ¬ (false = true) by decide)] at H; exact H
                clear H
                have H := H1
                clear H1
                exact absurd H (by simp)
              ·rw [if_neg c40] at H
               exact absurd H (by simp)
             ·rw [if_neg c38] at H
              exact absurd H (by simp)
            ·rw [if_neg c37] at H
             exact absurd H (by simp)
        ·rw [if_neg c20] at H
         exact absurd H (by simp)
       ·rw [if_neg c19] at H
        exact absurd H (by simp)
     ·rw [if_neg c16] at H
      exact absurd H (by simp)
 ·replace c5 := Bool.eq_false_iff.mpr c5
  subst c5
  have H1 : (none) = some r := by rw [if_neg (show ¬ (false = true) by decide)] at H; exact H
  clear H
  have H := H1
  clear H1
  exact absurd H (by simp)

/-- THE ONE PURE STATEMENT of descantlaw16_LineUnlike: yours. -/
def descantlaw16_LineUnlike.Pure : Prop := ∀ (l0 : List Int) (a1 : Int) (a2 : Int), l0.length ≤ maxLen → l0.length * 8 ≤ 140737488351232 → (∀ x ∈ l0, (Lit.int .i64 x).wf = true) → (Lit.int .i64 a1).wf = true → (Lit.int .i64 a2).wf = true → ∃ k, descantlaw16_LineUnlike.f k l0 a1 a2 = some true
theorem descantlaw16_LineUnlike.walk (P : descantlaw16_LineUnlike.Pure) (a0 : Option Addr) (len0 cap0 : Nat) (z0 : List Int) (a1 : Int) (a2 : Int) (w : World) (w0 : (a0 = none ∧ len0 = 0 ∧ cap0 = 0 ∧ z0 = []) ∨ ∃ x, a0 = some x ∧ len0 ≤ cap0 ∧ cap0 ≤ maxLen ∧ z0.length = cap0 ∧ (∀ i, i < z0.length → w.cell? (x.add i) = some (.int .i64 (z0.getD i 0))) ∧ ∀ n ∈ z0, (Lit.int .i64 n).wf = true) (y0 : len0 * 8 ≤ 140737488351232) (w1 : (Lit.int .i64 a1).wf = true) (w2 : (Lit.int .i64 a2).wf = true) :
  Calls Try.prog 7 #[.slice a0 len0 cap0, .int .i64 a1, .int .i64 a2] w fun e w' => e = .returned (.bool true) ∧ Below w.heap.size w w' := by
 obtain ⟨l0, rfl, hr0, hm0, hw0, hc0⟩ := ReadsInt.ofRowC w0
 obtain ⟨k, h⟩ := P l0 a1 a2 hm0 y0 hw0 w1 w2
 refine (descantlaw16_LineUnlike.calls k _ _ l0 a1 a2 true w (Kd.C_of_reads (d := (0 : Int)) (h1 := fun _ => rfl) hr0) hc0 h).mono ?_
 rintro e w' ⟨rfl, hd⟩
 exact ⟨rfl, hd⟩

end Go.Proofs.Ytpojgfpfkfjegaa.PLine
