-- Printed by a program of this session over the kit's printer (wip/gen/pr.py). Not trusted: Lean checks it.
import Derived.Test.YthiknekmgjnkdaaPRpx0
import Derived.Test.YthiknekmgjnkdaaPRpx1
namespace Go.Proofs.Ythiknekmgjnkdaa.PRp
open Go.RowKit Go.Proofs.YthiknekmgjnkdaaW.PrintWords Go.Proofs.YthiknekmgjnkdaaW.PrintLast Go.Proofs.YthiknekmgjnkdaaW.PrintMore
attribute [local go_sem] max2_int min2_int max_two min_two max_three min_three max_four min_four   -- for this text's walks alone
set_option linter.unusedVariables false
set_option linter.unusedSimpArgs false

/-! ### descantref13_sampleMay: function 38 -/
def descantref13_sampleMay.f (a0 : Int) : Option (Bool) := (descantref13_upTo.f a0 (-131072) 131072).bind fun t118 => (some t118)
set_option maxHeartbeats 8000000 in
set_option maxRecDepth 100000 in
theorem descantref13_sampleMay.calls (a0 : Int) (r : Bool) (w : World) (h : descantref13_sampleMay.f a0 = some r) :
  Calls Try.prog 38 #[.int .i64 a0] w fun e w' => e = .returned (.bool r) ∧ Drawn0 w w' := by
 have H : ((descantref13_upTo.f a0 (-131072) 131072).bind fun t118 => (some t118)) = some r := h
 clear h
 replace H := Option.bind_eq_some_iff.mp H
 obtain ⟨t118, A20, H⟩ := H
 replace H : (some t118) = some r := H
 have A2 := Aside0.mk A20
 clear A20
 obtain rfl := Option.some.inj H
 go_enter Try.func38, Try.ntmps38
 go_wp2_with (first | ((with_reducible refine gate_callee (f := 34) rfl ?_); refine goesL_ (some 4) rfl rfl Try.func34 (by kernel_rfl) rfl #[.int .i64 a0, .int .i64 (-131072), .int .i64 131072] rfl (by (try simp only [List.map_toArray, List.map_cons, List.map_nil]); first | done | rfl | (simp only [List.length_drop, List.length_take]; rfl)) ?_; (with_reducible refine (descantref13_upTo.calls a0 (-131072) 131072 t118 _ A2.out).mono ?_); rintro e w' ⟨rfl, ⟨nd, rfl⟩⟩; refine ⟨_, rfl, ?_⟩))
 go_ret
 exact ⟨by first | rfl | (simp; done) | (simp [*]; done), by repeat (first | exact Drawn0.refl _ | apply Drawn0.step)⟩

/-! ### descantref13_ChannelsMay: function 33 -/
mutual
def descantref13_ChannelsMay.l0 : Nat → List (List Int) → Int → Option (Bool)
 | 0, _, _ => none
 | k + 1, x0, x3 => if x3 < (x0.length : Int) then (if 0 ≤ x3 then (if 0 < (x0.length : Int) then (if ((rd_L1 x0 x3).length : Int) = ((rd_L1 x0 0).length : Int) then (descantref13_ChannelsMay.l1 k x0 x3 0) else (some false)) else (none)) else (none)) else (some true)
def descantref13_ChannelsMay.l1 : Nat → List (List Int) → Int → Int → Option (Bool)
 | 0, _, _, _ => none
 | k + 1, x0, x3, x4 => if 0 ≤ x3 then (if x3 < (x0.length : Int) then (if x4 < ((rd_L1 x0 x3).length : Int) then (if 0 ≤ x4 then ((descantref13_sampleMay.f (rd (rd_L1 x0 x3) x4)).bind fun t125 => (if t125 = true then (descantref13_ChannelsMay.l1 k x0 x3 (wrap64 (x4 + 1))) else (some false))) else (none)) else (descantref13_ChannelsMay.l0 k x0 (wrap64 (x3 + 1)))) else (none)) else (none)
end
def descantref13_ChannelsMay.f (k : Nat) (l0 : List (List Int)) : Option (Bool) := (descantref13_upTo.f (l0.length : Int) 1 2).bind fun t119 => (if t119 = true then (descantref13_ChannelsMay.l0 k l0 0) else (some false))
theorem descantref13_ChannelsMay.mono_l : ∀ k, (∀ y0 y1, LeO (descantref13_ChannelsMay.l0 k y0 y1) (descantref13_ChannelsMay.l0 (k + 1) y0 y1)) ∧ (∀ y0 y1 y2, LeO (descantref13_ChannelsMay.l1 k y0 y1 y2) (descantref13_ChannelsMay.l1 (k + 1) y0 y1 y2))
 | 0 => ⟨fun _ _ r h => by simp [descantref13_ChannelsMay.l0] at h, fun _ _ _ r h => by simp [descantref13_ChannelsMay.l1] at h⟩
 | k + 1 => by
  obtain ⟨ih0, ih1⟩ := descantref13_ChannelsMay.mono_l k
  refine ⟨?_, ?_⟩
  ·intro y0 y1
   unfold descantref13_ChannelsMay.l0
   repeat' first
   | (with_reducible exact ih0 _ _)
   | (with_reducible exact ih1 _ _ _)
   | (with_reducible exact LeO.refl _)
   | (with_reducible exact LeO.none _)
   | (with_reducible refine LeO.ite ?_ ?_)
   | (with_reducible refine LeO.bind ?_ (fun _ => ?_))
   | exact ih0 _ _
   | exact ih1 _ _ _
   | exact LeO.none _
   | refine LeO.ite ?_ ?_
   | refine LeO.bind ?_ (fun _ => ?_)
  ·intro y0 y1 y2
   unfold descantref13_ChannelsMay.l1
   repeat' first
   | (with_reducible exact ih0 _ _)
   | (with_reducible exact ih1 _ _ _)
   | (with_reducible exact LeO.refl _)
   | (with_reducible exact LeO.none _)
   | (with_reducible refine LeO.ite ?_ ?_)
   | (with_reducible refine LeO.bind ?_ (fun _ => ?_))
   | exact ih0 _ _
   | exact ih1 _ _ _
   | exact LeO.none _
   | refine LeO.ite ?_ ?_
   | refine LeO.bind ?_ (fun _ => ?_)
theorem descantref13_ChannelsMay.mono : ∀ a0 k, LeO (descantref13_ChannelsMay.f k a0) (descantref13_ChannelsMay.f (k + 1) a0) := by
 intro a0 k
 obtain ⟨ih0, ih1⟩ := descantref13_ChannelsMay.mono_l k
 unfold descantref13_ChannelsMay.f
 repeat' first
   | (with_reducible exact ih0 _ _)
   | (with_reducible exact ih1 _ _ _)
   | (with_reducible exact LeO.refl _)
   | (with_reducible exact LeO.none _)
   | (with_reducible refine LeO.ite ?_ ?_)
   | (with_reducible refine LeO.bind ?_ (fun _ => ?_))
   | exact ih0 _ _
   | exact ih1 _ _ _
   | exact LeO.none _
   | refine LeO.ite ?_ ?_
   | refine LeO.bind ?_ (fun _ => ?_)
set_option maxHeartbeats 8000000 in
set_option maxRecDepth 100000 in
theorem descantref13_ChannelsMay.calls (k : Nat) (A0 : Option Addr) (c0 : Nat) (l0 : List (List Int)) (r : Bool) (w : World) (hr0 : Kd.C (Kd.slice 3 (Kd.int .i64)) w A0 l0.length l0) (hc0 : l0.length ≤ c0) (h : descantref13_ChannelsMay.f k l0 = some r) :
  Calls Try.prog 33 #[.slice A0 l0.length c0] w fun e w' => e = .returned (.bool r) ∧ Drawn0 w w' := by
 have HR0 := Aside0.mk hr0
 have HC0 := Aside0.mk hc0
 clear hr0 hc0
 have H : ((descantref13_upTo.f (l0.length : Int) 1 2).bind fun t119 => (if t119 = true then (descantref13_ChannelsMay.l0 k l0 0) else (some false))) = some r := h
 clear h
 replace H := Option.bind_eq_some_iff.mp H
 obtain ⟨t119, A20, H⟩ := H
 replace H : (if t119 = true then (descantref13_ChannelsMay.l0 k l0 0) else (some false)) = some r := H
 have A2 := Aside0.mk A20
 clear A20
 by_cases c3 : t119 = true
 ·subst c3
  have H1 : (descantref13_ChannelsMay.l0 k l0 0) = some r := by rw [if_pos rfl] at H; exact H
  clear H
  have H := H1
  clear H1
  have H' := Aside0.mk H
  clear H
  go_enter Try.func33, Try.ntmps33
  go_wp2_with (first | (go_at_call 34; (with_reducible refine (descantref13_upTo.calls (l0.length : Int) 1 2 true _ A2.out).mono ?_); rintro e w' ⟨rfl, ⟨nd, rfl⟩⟩; (try first | exact ⟨rfl, _, World.drewN_drewN _ _ _⟩ | exact ⟨rfl, _, Eq.trans (World.drewN_drewN _ _ _) (congrArg (World.drewN _) (Nat.add_assoc _ _ _))⟩)))
  repeat ((fail_if_success (with_reducible (first | refine Extra.ahead_loop ?_ | refine Extra.ahead_loop_seq ?_))); go_quiet (first | (go_at_call 34; (with_reducible refine (descantref13_upTo.calls (l0.length : Int) 1 2 true _ A2.out).mono ?_); rintro e w' ⟨rfl, ⟨nd, rfl⟩⟩; (try first | exact ⟨rfl, _, World.drewN_drewN _ _ _⟩ | exact ⟨rfl, _, Eq.trans (World.drewN_drewN _ _ _) (congrArg (World.drewN _) (Nat.add_assoc _ _ _))⟩))); try go_wp2_with (first | (go_at_call 34; (with_reducible refine (descantref13_upTo.calls (l0.length : Int) 1 2 true _ A2.out).mono ?_); rintro e w' ⟨rfl, ⟨nd, rfl⟩⟩; (try first | exact ⟨rfl, _, World.drewN_drewN _ _ _⟩ | exact ⟨rfl, _, Eq.trans (World.drewN_drewN _ _ _) (congrArg (World.drewN _) (Nat.add_assoc _ _ _))⟩))))
  go_loopg [3] k (fun kq v3 w' => ∃ (x3_1 : Int), v3 = .int .i64 x3_1 ∧ Aside0 (descantref13_ChannelsMay.l0 kq l0 x3_1 = some r) ∧ Aside0 (kq ≤ k) ∧ Drawn0 w w')
  case atStart => exact ⟨(0), (by first | rfl | (simp; done) | (simp [*]; done)), H', ⟨Nat.le_refl _⟩, by repeat (first | exact Drawn0.refl _ | apply Drawn0.step)⟩
  case round =>
   clear H'
   try clear p2
   try clear c3
   obtain ⟨x3_1, rfl, HA, HK1, ⟨m1, rfl⟩⟩ := hrel
   cases gk with
   | zero => exact absurd HA.out (by simp [descantref13_ChannelsMay.l0])
   | succ k1 =>
    have H := HA.out
    clear HA
    simp only [descantref13_ChannelsMay.l0] at H
    by_cases c4 : x3_1 < (l0.length : Int)
    ·rw [if_pos c4] at H
     have c4b0 : decide (x3_1 < (l0.length : Int)) = true := decide_eq_true c4
     clear c4
     by_cases c5 : 0 ≤ x3_1
     ·rw [if_pos c5] at H
      have c5b0 : decide (0 ≤ x3_1) = true := decide_eq_true c5
      clear c5
      by_cases c6 : 0 < (l0.length : Int)
      ·rw [if_pos c6] at H
       have c6b0 : decide (0 < (l0.length : Int)) = true := decide_eq_true c6
       have c6b1 : decide (0 < l0.length) = true := decide_eq_true (by omega)
       clear c6
       by_cases c7 : ((rd_L1 l0 x3_1).length : Int) = ((rd_L1 l0 0).length : Int)
       ·rw [if_pos c7] at H
        have c7b0 : (((rd_L1 l0 x3_1).length : Int) == ((rd_L1 l0 0).length : Int)) = true := beq_iff_eq.mpr c7
        have c7b1 : (((rd_L1 l0 x3_1).length : Int) != ((rd_L1 l0 0).length : Int)) = false := bne_eq_false_iff_eq.mpr c7
        have c7b2 : ((rd_L1 l0 x3_1).length == (rd_L1 l0 0).length) = true := by first | simpa using c7 | (simp at c7 ⊢; omega)
        clear c7
        have H' := Aside0.mk H
        clear H
        have p120 : 0 ≤ (x3_1 : Int) := of_decide_eq_true (by first | (with_reducible assumption) | assumption)
        have q120 : x3_1 < (l0.length : Int) := of_decide_eq_true (by first | (with_reducible assumption) | assumption)
        obtain ⟨ad120, A120_0, c120_0, e120, hx120_0, hl120_0, hi120_0⟩ := at_L1 HR0.out x3_1 p120 q120
        cases e120
        have HR120_0 := Aside0.mk hi120_0
        have HC120_0 := Aside0.mk hl120_0
        clear hi120_0 hl120_0
        replace p120 := eq_true p120
        replace q120 := eq_true q120
        have p121 : 0 ≤ (0 : Int) := (by omega)
        have q121 : 0 < (l0.length : Int) := of_decide_eq_true (by first | (with_reducible assumption) | assumption)
        obtain ⟨ad121, A121_0, c121_0, e121, hx121_0, hl121_0, hi121_0⟩ := at_L1 HR0.out 0 p121 q121
        obtain rfl : ad120 = ad121 := (by injection e121)
        have qi121 : (0 < l0.length) = True := eq_true (by omega)
        (try rw [show ((0 : Int)).toNat = 0 from rfl] at hx121_0)
        (try rw [Addr.add_zero'] at hx121_0)
        have HR121_0 := Aside0.mk hi121_0
        have HC121_0 := Aside0.mk hl121_0
        clear hi121_0 hl121_0
        replace p121 := eq_true p121
        replace q121 := eq_true q121
        go_wp2
        repeat ((fail_if_success (with_reducible (first | refine Extra.ahead_loop ?_ | refine Extra.ahead_loop_seq ?_))); go_quiet (fail); try go_wp2)
        go_loopg [4] k1 (fun kq v4 w' => ∃ (x4_2 : Int), v4 = .int .i64 x4_2 ∧ Aside0 (descantref13_ChannelsMay.l1 kq l0 x3_1 x4_2 = some r) ∧ Aside0 (kq ≤ k1) ∧ Drawn0 w w')
        case atStart => exact ⟨(0), (by first | rfl | (simp; done) | (simp [*]; done)), H', ⟨Nat.le_refl _⟩, by repeat (first | exact Drawn0.refl _ | apply Drawn0.step)⟩
        case round =>
         clear H'
         try clear c1
         try clear p1
         try clear q1
         try clear hx1
         try clear qi1
         try clear p2
         try clear c3
         try clear c4
         try clear c4b0
         try clear c5
         try clear c5b0
         try clear c6
         try clear c6b0
         try clear c6b1
         try clear c7
         try clear c7b0
         try clear c7b1
         try clear c7b2
         try clear hx120_0
         try clear hx121_0
         try clear p120
         try clear p121
         try clear p2
         try clear q120
         try clear q121
         obtain ⟨x4_2, rfl, HA, HK2, ⟨m2, rfl⟩⟩ := hrel
         cases gk with
         | zero => exact absurd HA.out (by simp [descantref13_ChannelsMay.l1])
         | succ k2 =>
          have H := HA.out
          clear HA
          simp only [descantref13_ChannelsMay.l1] at H
          by_cases c8 : 0 ≤ x3_1
          ·rw [if_pos c8] at H
           have c8b0 : decide (0 ≤ x3_1) = true := decide_eq_true c8
           clear c8
           by_cases c9 : x3_1 < (l0.length : Int)
           ·rw [if_pos c9] at H
            have c9b0 : decide (x3_1 < (l0.length : Int)) = true := decide_eq_true c9
            clear c9
            by_cases c10 : x4_2 < ((rd_L1 l0 x3_1).length : Int)
            ·rw [if_pos c10] at H
             have c10b0 : decide (x4_2 < ((rd_L1 l0 x3_1).length : Int)) = true := decide_eq_true c10
             clear c10
             by_cases c11 : 0 ≤ x4_2
             ·rw [if_pos c11] at H
              have c11b0 : decide (0 ≤ x4_2) = true := decide_eq_true c11
              clear c11
              replace H := Option.bind_eq_some_iff.mp H
              obtain ⟨t125, A120, H⟩ := H
              replace H : (if t125 = true then (descantref13_ChannelsMay.l1 k2 l0 x3_1 (wrap64 (x4_2 + 1))) else (some false)) = some r := H
              have A12 := Aside0.mk A120
              clear A120
              by_cases c13 : t125 = true
              ·subst c13
               have H1 : (descantref13_ChannelsMay.l1 k2 l0 x3_1 (wrap64 (x4_2 + 1))) = some r := by rw [if_pos rfl] at H; exact H
               clear H
               have H := H1
               clear H1
               have H' := Aside0.mk H
               clear H
               have p122 : 0 ≤ (x3_1 : Int) := of_decide_eq_true (by first | (with_reducible assumption) | assumption)
               have q122 : x3_1 < (l0.length : Int) := of_decide_eq_true (by first | (with_reducible assumption) | assumption)
               obtain ⟨ad122, A122_0, c122_0, e122, hx122_0, hl122_0, hi122_0⟩ := at_L1 HR0.out x3_1 p122 q122
               obtain rfl : ad120 = ad122 := (by injection e122)
               have HR122_0 := Aside0.mk hi122_0
               have HC122_0 := Aside0.mk hl122_0
               clear hi122_0 hl122_0
               replace p122 := eq_true p122
               replace q122 := eq_true q122
               have p123 : 0 ≤ (x3_1 : Int) := of_decide_eq_true (by first | (with_reducible assumption) | assumption)
               have q123 : x3_1 < (l0.length : Int) := of_decide_eq_true (by first | (with_reducible assumption) | assumption)
               obtain ⟨ad123, A123_0, c123_0, e123, hx123_0, hl123_0, hi123_0⟩ := at_L1 HR0.out x3_1 p123 q123
               obtain rfl : ad120 = ad123 := (by injection e123)
               have HR123_0 := Aside0.mk hi123_0
               have HC123_0 := Aside0.mk hl123_0
               clear hi123_0 hl123_0
               replace p123 := eq_true p123
               replace q123 := eq_true q123
               have ea_ := Option.some.inj (hx122_0.symm.trans hx123_0)
               injection ea_ with ea_ en_ ec_
               subst ea_
               subst ec_
               clear en_
               have p124 : 0 ≤ (x4_2 : Int) := of_decide_eq_true (by first | (with_reducible assumption) | assumption)
               have q124 : x4_2 < ((rd_L1 l0 x3_1).length : Int) := of_decide_eq_true (by first | (with_reducible assumption) | assumption)
               obtain ⟨ad124, e124, hx124_0⟩ := Kd.at_int HR123_0.out x4_2 p124 q124
               cases e124
               replace p124 := eq_true p124
               replace q124 := eq_true q124
               go_wp2_with (first | (go_at_call 38; (with_reducible refine (descantref13_sampleMay.calls (rd (rd_L1 l0 x3_1) x4_2) true _ A12.out).mono ?_); rintro e w' ⟨rfl, ⟨nd, rfl⟩⟩; (try first | exact ⟨rfl, _, World.drewN_drewN _ _ _⟩ | exact ⟨rfl, _, Eq.trans (World.drewN_drewN _ _ _) (congrArg (World.drewN _) (Nat.add_assoc _ _ _))⟩)))
               repeat ((fail_if_success (with_reducible (first | refine Extra.ahead_loop ?_ | refine Extra.ahead_loop_seq ?_))); go_quiet (first | (go_at_call 38; (with_reducible refine (descantref13_sampleMay.calls (rd (rd_L1 l0 x3_1) x4_2) true _ A12.out).mono ?_); rintro e w' ⟨rfl, ⟨nd, rfl⟩⟩; (try first | exact ⟨rfl, _, World.drewN_drewN _ _ _⟩ | exact ⟨rfl, _, Eq.trans (World.drewN_drewN _ _ _) (congrArg (World.drewN _) (Nat.add_assoc _ _ _))⟩))); try go_wp2_with (first | (go_at_call 38; (with_reducible refine (descantref13_sampleMay.calls (rd (rd_L1 l0 x3_1) x4_2) true _ A12.out).mono ?_); rintro e w' ⟨rfl, ⟨nd, rfl⟩⟩; (try first | exact ⟨rfl, _, World.drewN_drewN _ _ _⟩ | exact ⟨rfl, _, Eq.trans (World.drewN_drewN _ _ _) (congrArg (World.drewN _) (Nat.add_assoc _ _ _))⟩))))
               go_roundg k2
               case measure => have := HK1.out; have := HK2.out; omega
               case rel => exact ⟨(wrap64 (x4_2 + 1)), (by first | rfl | (simp; done) | (simp [*]; done)), H', ⟨by have := HK1.out; have := HK2.out; omega⟩, by repeat (first | exact Drawn0.refl _ | apply Drawn0.step)⟩
              ·replace c13 := Bool.eq_false_iff.mpr c13
               subst c13
               have H1 : (some false) = some r := by rw [if_neg (show ¬ (false = true) by decide)] at H; exact H
               clear H
               have H := H1
               clear H1
               obtain rfl := Option.some.inj H
               have p122 : 0 ≤ (x3_1 : Int) := of_decide_eq_true (by first | (with_reducible assumption) | assumption)
               have q122 : x3_1 < (l0.length : Int) := of_decide_eq_true (by first | (with_reducible assumption) | assumption)
               obtain ⟨ad122, A122_0, c122_0, e122, hx122_0, hl122_0, hi122_0⟩ := at_L1 HR0.out x3_1 p122 q122
               obtain rfl : ad120 = ad122 := (by injection e122)
               have HR122_0 := Aside0.mk hi122_0
               have HC122_0 := Aside0.mk hl122_0
               clear hi122_0 hl122_0
               replace p122 := eq_true p122
               replace q122 := eq_true q122
               have p123 : 0 ≤ (x3_1 : Int) := of_decide_eq_true (by first | (with_reducible assumption) | assumption)
               have q123 : x3_1 < (l0.length : Int) := of_decide_eq_true (by first | (with_reducible assumption) | assumption)
               obtain ⟨ad123, A123_0, c123_0, e123, hx123_0, hl123_0, hi123_0⟩ := at_L1 HR0.out x3_1 p123 q123
               obtain rfl : ad120 = ad123 := (by injection e123)
               have HR123_0 := Aside0.mk hi123_0
               have HC123_0 := Aside0.mk hl123_0
               clear hi123_0 hl123_0
               replace p123 := eq_true p123
               replace q123 := eq_true q123
               have ea_ := Option.some.inj (hx122_0.symm.trans hx123_0)
               injection ea_ with ea_ en_ ec_
               subst ea_
               subst ec_
               clear en_
               have p124 : 0 ≤ (x4_2 : Int) := of_decide_eq_true (by first | (with_reducible assumption) | assumption)
               have q124 : x4_2 < ((rd_L1 l0 x3_1).length : Int) := of_decide_eq_true (by first | (with_reducible assumption) | assumption)
               obtain ⟨ad124, e124, hx124_0⟩ := Kd.at_int HR123_0.out x4_2 p124 q124
               cases e124
               replace p124 := eq_true p124
               replace q124 := eq_true q124
               go_wp2_with (first | (go_at_call 38; (with_reducible refine (descantref13_sampleMay.calls (rd (rd_L1 l0 x3_1) x4_2) false _ A12.out).mono ?_); rintro e w' ⟨rfl, ⟨nd, rfl⟩⟩; (try first | exact ⟨rfl, _, World.drewN_drewN _ _ _⟩ | exact ⟨rfl, _, Eq.trans (World.drewN_drewN _ _ _) (congrArg (World.drewN _) (Nat.add_assoc _ _ _))⟩)))
               repeat ((fail_if_success (with_reducible (first | refine Extra.ahead_loop ?_ | refine Extra.ahead_loop_seq ?_))); go_quiet (first | (go_at_call 38; (with_reducible refine (descantref13_sampleMay.calls (rd (rd_L1 l0 x3_1) x4_2) false _ A12.out).mono ?_); rintro e w' ⟨rfl, ⟨nd, rfl⟩⟩; (try first | exact ⟨rfl, _, World.drewN_drewN _ _ _⟩ | exact ⟨rfl, _, Eq.trans (World.drewN_drewN _ _ _) (congrArg (World.drewN _) (Nat.add_assoc _ _ _))⟩))); try go_wp2_with (first | (go_at_call 38; (with_reducible refine (descantref13_sampleMay.calls (rd (rd_L1 l0 x3_1) x4_2) false _ A12.out).mono ?_); rintro e w' ⟨rfl, ⟨nd, rfl⟩⟩; (try first | exact ⟨rfl, _, World.drewN_drewN _ _ _⟩ | exact ⟨rfl, _, Eq.trans (World.drewN_drewN _ _ _) (congrArg (World.drewN _) (Nat.add_assoc _ _ _))⟩))))
               go_ret
               exact ⟨by first | rfl | (simp; done) | (simp [*]; done), by repeat (first | exact Drawn0.refl _ | apply Drawn0.step)⟩
             ·rw [if_neg c11] at H
              exact absurd H (by simp)
            ·rw [if_neg c10] at H
             have c10b0 : decide (x4_2 < ((rd_L1 l0 x3_1).length : Int)) = false := decide_eq_false c10
             clear c10
             have H' := Aside0.mk H
             clear H
             have p122 : 0 ≤ (x3_1 : Int) := of_decide_eq_true (by first | (with_reducible assumption) | assumption)
             have q122 : x3_1 < (l0.length : Int) := of_decide_eq_true (by first | (with_reducible assumption) | assumption)
             obtain ⟨ad122, A122_0, c122_0, e122, hx122_0, hl122_0, hi122_0⟩ := at_L1 HR0.out x3_1 p122 q122
             obtain rfl : ad120 = ad122 := (by injection e122)
             have HR122_0 := Aside0.mk hi122_0
             have HC122_0 := Aside0.mk hl122_0
             clear hi122_0 hl122_0
             replace p122 := eq_true p122
             replace q122 := eq_true q122
             go_wp2
             repeat ((fail_if_success (with_reducible (first | refine Extra.ahead_loop ?_ | refine Extra.ahead_loop_seq ?_))); go_quiet (fail); try go_wp2)
             go_roundg k2
             case measure => have := HK1.out; have := HK2.out; omega
             case rel => exact ⟨(wrap64 (x3_1 + 1)), (by first | rfl | (simp; done) | (simp [*]; done)), H', ⟨by have := HK1.out; have := HK2.out; omega⟩, by repeat (first | exact Drawn0.refl _ | apply Drawn0.step)⟩
           ·rw [if_neg c9] at H
            exact absurd H (by simp)
          ·rw [if_neg c8] at H
           exact absurd H (by simp)
       ·rw [if_neg c7] at H
        have c7b0 : (((rd_L1 l0 x3_1).length : Int) == ((rd_L1 l0 0).length : Int)) = false := beq_eq_false_iff_ne.mpr c7
        have c7b1 : (((rd_L1 l0 x3_1).length : Int) != ((rd_L1 l0 0).length : Int)) = true := bne_iff_ne.mpr c7
        have c7b2 : ((rd_L1 l0 x3_1).length == (rd_L1 l0 0).length) = false := by first | simpa using c7 | (simp at c7 ⊢; omega)
        obtain rfl := Option.some.inj H
        have p120 : 0 ≤ (x3_1 : Int) := of_decide_eq_true (by first | (with_reducible assumption) | assumption)
        have q120 : x3_1 < (l0.length : Int) := of_decide_eq_true (by first | (with_reducible assumption) | assumption)
        obtain ⟨ad120, A120_0, c120_0, e120, hx120_0, hl120_0, hi120_0⟩ := at_L1 HR0.out x3_1 p120 q120
        cases e120
        have HR120_0 := Aside0.mk hi120_0
        have HC120_0 := Aside0.mk hl120_0
        clear hi120_0 hl120_0
        replace p120 := eq_true p120
        replace q120 := eq_true q120
        have p121 : 0 ≤ (0 : Int) := (by omega)
        have q121 : 0 < (l0.length : Int) := of_decide_eq_true (by first | (with_reducible assumption) | assumption)
        obtain ⟨ad121, A121_0, c121_0, e121, hx121_0, hl121_0, hi121_0⟩ := at_L1 HR0.out 0 p121 q121
        obtain rfl : ad120 = ad121 := (by injection e121)
        have qi121 : (0 < l0.length) = True := eq_true (by omega)
        (try rw [show ((0 : Int)).toNat = 0 from rfl] at hx121_0)
        (try rw [Addr.add_zero'] at hx121_0)
        have HR121_0 := Aside0.mk hi121_0
        have HC121_0 := Aside0.mk hl121_0
        clear hi121_0 hl121_0
        replace p121 := eq_true p121
        replace q121 := eq_true q121
        go_wp2
        repeat ((fail_if_success (with_reducible (first | refine Extra.ahead_loop ?_ | refine Extra.ahead_loop_seq ?_))); go_quiet (fail); try go_wp2)
        go_ret
        exact ⟨by first | rfl | (simp; done) | (simp [*]; done), by repeat (first | exact Drawn0.refl _ | apply Drawn0.step)⟩
      ·rw [if_neg c6] at H
       exact absurd H (by simp)
     ·rw [if_neg c5] at H
      exact absurd H (by simp)
    ·rw [if_neg c4] at H
     have c4b0 : decide (x3_1 < (l0.length : Int)) = false := decide_eq_false c4
     clear c4
     obtain rfl := Option.some.inj H
     go_wp2
     repeat ((fail_if_success (with_reducible (first | refine Extra.ahead_loop ?_ | refine Extra.ahead_loop_seq ?_))); go_quiet (fail); try go_wp2)
     go_ret
     exact ⟨by first | rfl | (simp; done) | (simp [*]; done), by repeat (first | exact Drawn0.refl _ | apply Drawn0.step)⟩
 ·replace c3 := Bool.eq_false_iff.mpr c3
  subst c3
  have H1 : (some false) = some r := by rw [if_neg (show ¬ (false = true) by decide)] at H; exact H
  clear H
  have H := H1
  clear H1
  obtain rfl := Option.some.inj H
  go_enter Try.func33, Try.ntmps33
  go_wp2_with (first | (go_at_call 34; (with_reducible refine (descantref13_upTo.calls (l0.length : Int) 1 2 false _ A2.out).mono ?_); rintro e w' ⟨rfl, ⟨nd, rfl⟩⟩; (try first | exact ⟨rfl, _, World.drewN_drewN _ _ _⟩ | exact ⟨rfl, _, Eq.trans (World.drewN_drewN _ _ _) (congrArg (World.drewN _) (Nat.add_assoc _ _ _))⟩)))
  repeat ((fail_if_success (with_reducible (first | refine Extra.ahead_loop ?_ | refine Extra.ahead_loop_seq ?_))); go_quiet (first | (go_at_call 34; (with_reducible refine (descantref13_upTo.calls (l0.length : Int) 1 2 false _ A2.out).mono ?_); rintro e w' ⟨rfl, ⟨nd, rfl⟩⟩; (try first | exact ⟨rfl, _, World.drewN_drewN _ _ _⟩ | exact ⟨rfl, _, Eq.trans (World.drewN_drewN _ _ _) (congrArg (World.drewN _) (Nat.add_assoc _ _ _))⟩))); try go_wp2_with (first | (go_at_call 34; (with_reducible refine (descantref13_upTo.calls (l0.length : Int) 1 2 false _ A2.out).mono ?_); rintro e w' ⟨rfl, ⟨nd, rfl⟩⟩; (try first | exact ⟨rfl, _, World.drewN_drewN _ _ _⟩ | exact ⟨rfl, _, Eq.trans (World.drewN_drewN _ _ _) (congrArg (World.drewN _) (Nat.add_assoc _ _ _))⟩))))
  go_ret
  exact ⟨by first | rfl | (simp; done) | (simp [*]; done), by repeat (first | exact Drawn0.refl _ | apply Drawn0.step)⟩

end Go.Proofs.Ythiknekmgjnkdaa.PRp
