/- A part of the proof of a law of descanttop: this session's own texts and printed texts, shortened and joined. -/
import Derived.Test.YtnoibcdojfnicaaGreatDoorD4
import Derived.Test.YtnoibcdojfnicaaGreatDoorD25
import Derived.Test.YtnoibcdojfnicaaGreatDoorD3
set_option linter.unusedVariables false
set_option linter.unusedSimpArgs false
namespace Go.Proofs.YtnoibcdojfnicaaGreatDoor.PG
open Go.Proofs.YtnoibcdojfnicaaGreatDoorW.Short
open Bool renaming true → Y, false → J
open Go.RowKit Go.Proofs.YtnoibcdojfnicaaGreatDoorW.PrintWords Go.Proofs.YtnoibcdojfnicaaGreatDoorW.PrintLast Go.Proofs.YtnoibcdojfnicaaGreatDoorW.PrintMore
attribute [local go_sem] max2_int min2_int max_two min_two max_three min_three max_four min_four
def stream_number.f (k : Nat) (a0 : Int) : Option (ByteArray) := (varint_Put.f k a0).bind fun bt267 => (some bt267.1)
set_option maxHeartbeats 8000000 in
set_option maxRecDepth 100000 in
theorem stream_number.calls (k : Nat) (a0 : Int) (r : ByteArray) (w : World) (h : stream_number.f k a0 = some r) :
  Calls Tryz.prog 133 #[.int .i64 a0] w fun e w' => e = .returned (.string r) ∧ Below w.heap.size w w' := by
 have HB := Aside0.mk (Below.refl w.heap.size w)
 have H : ((varint_Put.f k a0).bind fun bt267 => (some bt267.1)) = some r := h
 clear h
 replace H := Option.bind_eq_some_iff.mp H
 obtain ⟨⟨t267, t268⟩, A20, H⟩ := H
 replace H : (some t267) = some r := H
 have A2 := Aside0.mk A20
 clear A20
 obtain rfl := Option.some.inj H
 go_enter Tryz.func133, Tryz.ntmps133
 go_wp2_with (first | ((with_reducible refine gate_callee (f := 159) rfl ?_); refine goesL_ (some 7) rfl rfl Tryz.func159 kr rfl #[.int .i64 a0] rfl b22_ ?_; (with_reducible refine (varint_Put.calls k a0 t267 t268 _ A2.out).mono ?_); rintro e w3 ⟨rfl, hb⟩; refine ⟨_, rfl, ?_⟩; have n0_ := Aside0.mk (below_step b24_ hb); clear HB; have HB := n0_; clear n0_; (try clear hb); (try clear hb2); (try clear hk); (try clear hi)))
 go_ret
 exact ⟨b48_, b25_⟩
mutual
def varint_Get.j0 : Nat → ByteArray → Int → Bool → Option (Int × Int × Int)
 | 0, _, _, _ => none
 | k + 1, x0, x1, x20 => if x20 = true then (some (0, 0, 200)) else (varint_Get.l0 k x0 x1 0 0 x1)
def varint_Get.l0 : Nat → ByteArray → Int → Int → Int → Int → Option (Int × Int × Int)
 | 0, _, _, _, _, _ => none
 | k + 1, x0, x1, x7, x8, x9 => if x9 < (x0.size : Int) then (varint_Get.j2 k x0 x1 x7 x8 x9 (decide (x8 < 35))) else (varint_Get.j2 k x0 x1 x7 x8 x9 false)
def varint_Get.j2 : Nat → ByteArray → Int → Int → Int → Int → Bool → Option (Int × Int × Int)
 | 0, _, _, _, _, _, _ => none
 | k + 1, x0, x1, x7, x8, x9, x29 => if x29 = true then (if 0 ≤ x9 then (if x9 < (x0.size : Int) then (if 0 ≤ x8 then (if (wrap64 (bt x0 x9)) ≥ 128 then (varint_Get.l0 k x0 x1 (Go.bits .or .i64 x7 (shl .i64 (Int.tmod (wrap64 (bt x0 x9)) 128) x8)) (wrap64 (x8 + 7)) (wrap64 (x9 + 1))) else ((varint_Put.f k (Go.bits .or .i64 x7 (shl .i64 (Int.tmod (wrap64 (bt x0 x9)) 128) x8))).bind fun bt285 => (if bt285.2 = 0 then (if 0 ≤ x1 then (if x1 ≤ (wrap64 (x9 + 1)) then (if (wrap64 (x9 + 1)) ≤ (x0.size : Int) then (if bt285.1.toList = (x0.extract (x1 : Int).toNat ((wrap64 (x9 + 1)) : Int).toNat).toList then (some (Go.bits .or .i64 x7 (shl .i64 (Int.tmod (wrap64 (bt x0 x9)) 128) x8), wrap64 (x9 + 1), 0)) else (some (0, 0, 200))) else (none)) else (none)) else (none)) else (some (0, 0, 200))))) else (none)) else (none)) else (none)) else (some (0, 0, 200))
end
def varint_Get.f (k : Nat) (a0 : ByteArray) (a1 : Int) : Option (Int × Int × Int) := if a1 < 0 then (varint_Get.j0 k a0 a1 true) else (varint_Get.j0 k a0 a1 (decide (a1 > (a0.size : Int))))
set_option maxHeartbeats 8000000 in
set_option maxRecDepth 100000 in
theorem varint_Get.calls (k : Nat) (a0 : ByteArray) (a1 : Int) (r1 : Int) (r2 : Int) (r3 : Int) (w : World) (h : varint_Get.f k a0 a1 = some (r1, r2, r3)) :
  Calls Tryz.prog 139 #[.string a0, .int .i64 a1] w fun e w' => e = .returned (.tuple #[.int .i64 r1, .int .i64 r2, .int .i64 r3]) ∧ Below w.heap.size w w' := by
 have HB := Aside0.mk (Below.refl w.heap.size w)
 have H : (if a1 < 0 then (varint_Get.j0 k a0 a1 true) else (varint_Get.j0 k a0 a1 (decide (a1 > (a0.size : Int))))) = some (r1, r2, r3) := h
 clear h
 have HC3 := Aside0.mk H
 clear H
 go_enter Tryz.func139, Tryz.ntmps139
 go_upto_region 1 with (fail)
 go_cut [20] (fun v20 wc => ∃ (kq : Nat) (x20_2 : Bool), v20 = .bool x20_2 ∧ Aside0 (varint_Get.j0 kq a0 a1 x20_2 = some (r1, r2, r3)) ∧ Aside0 (kq ≤ k) ∧ Aside0 (Below w.heap.size w wc))
 case first =>
  have H := HC3.out
  clear HC3
  by_cases c4 : a1 < 0
  ·rw [if_pos c4] at H
   have c4b0 : decide (a1 < 0) = true := decide_eq_true c4
   clear c4
   (first | rw [c4b0] | (simp only [i64_w, i32_w]; rw [c4b0]) | skip)
   have H' := Aside0.mk H
   clear H
   go_wp2
   go_meet
   case rel => exact ⟨_, (true), b56_, H', ⟨b60_⟩, ⟨b25_⟩⟩
  ·rw [if_neg c4] at H
   have c4b0 : decide (a1 < 0) = false := decide_eq_false c4
   clear c4
   (first | rw [c4b0] | (simp only [i64_w, i32_w]; rw [c4b0]) | skip)
   have H' := Aside0.mk H
   clear H
   go_wp2
   go_meet
   case rel => exact ⟨_, (decide (a1 > (a0.size : Int))), b56_, H', ⟨b60_⟩, ⟨b25_⟩⟩
 case rest =>
  clear HC3
  try clear c1
  try clear p2
  try clear c4
  try clear c4b0
  obtain ⟨kq, x20_2, rfl, HA, HJ2, HB⟩ := hcut
  cases kq with
  | zero => exact absurd HA.out (by simp [varint_Get.j0])
  | succ kj2 =>
   have H := HA.out
   clear HA
   simp only [varint_Get.j0] at H
   by_cases c5 : x20_2 = true
   ·subst c5
    have H1 : (some (0, 0, 200)) = some (r1, r2, r3) := by rw [if_pos rfl] at H; exact H
    clear H
    have H := H1
    clear H1
    simp only [Option.some.injEq, Prod.mk.injEq] at H
    obtain ⟨rfl, rfl, rfl⟩ := H
    go_wp2
    go_ret3
    exact ⟨b48_, b25_⟩
   ·replace c5 := Bool.eq_false_iff.mpr c5
    subst c5
    have H1 : (varint_Get.l0 kj2 a0 a1 0 0 a1) = some (r1, r2, r3) := by rw [if_neg (show ¬ (false = true) by decide)] at H; exact H
    clear H
    have H := H1
    clear H1
    have H' := Aside0.mk H
    clear H
    go_wp2
    go_loopg [7, 8, 9] kj2 (fun kq v7 v8 v9 w' => ∃ (x7_2 : Int) (x8_2 : Int) (x9_2 : Int), v7 = .int .i64 x7_2 ∧ v8 = .int .i64 x8_2 ∧ v9 = .int .i64 x9_2 ∧ Aside0 (varint_Get.l0 kq a0 a1 x7_2 x8_2 x9_2 = some (r1, r2, r3)) ∧ Aside0 (kq ≤ kj2) ∧ Aside0 (Below w.heap.size w w'))
    case atStart => exact ⟨(0), (0), (a1), b56_, b56_, b56_, H', ⟨Nat.le_refl _⟩, ⟨b25_⟩⟩
    case round =>
     clear H'
     try clear c1
     try clear p2
     try clear c4
     try clear c4b0
     try clear c5
     try clear p2
     obtain ⟨x7_2, x8_2, x9_2, rfl, rfl, rfl, HA, HK2, HB⟩ := hrel
     cases gk with
     | zero => exact absurd HA.out (by simp [varint_Get.l0])
     | succ k2 =>
      have H := HA.out
      clear HA
      simp only [varint_Get.l0] at H
      have HC6 := Aside0.mk H
      clear H
      go_upto_region 5 with (fail)
      go_cut [29] (fun v29 wc => ∃ (kq : Nat) (x29_5 : Bool), v29 = .bool x29_5 ∧ Aside0 (varint_Get.j2 kq a0 a1 x7_2 x8_2 x9_2 x29_5 = some (r1, r2, r3)) ∧ Aside0 (kq ≤ k2) ∧ Aside0 (Below w.heap.size w wc))
      case first =>
       have H := HC6.out
       clear HC6
       by_cases c7 : x9_2 < (a0.size : Int)
       ·rw [if_pos c7] at H
        have c7b0 : decide (x9_2 < (a0.size : Int)) = true := decide_eq_true c7
        clear c7
        (first | rw [c7b0] | (simp only [i64_w, i32_w]; rw [c7b0]) | skip)
        have H' := Aside0.mk H
        clear H
        go_wp2
        go_meet
        case rel => exact ⟨_, (decide (x8_2 < 35)), b56_, H', ⟨by have := HJ2.out; have := HK2.out; first | omega | exact Nat.le_refl _⟩, ⟨b25_⟩⟩
       ·rw [if_neg c7] at H
        have c7b0 : decide (x9_2 < (a0.size : Int)) = false := decide_eq_false c7
        clear c7
        (first | rw [c7b0] | (simp only [i64_w, i32_w]; rw [c7b0]) | skip)
        have H' := Aside0.mk H
        clear H
        go_wp2
        go_meet
        case rel => exact ⟨_, (false), b56_, H', ⟨by have := HJ2.out; have := HK2.out; first | omega | exact Nat.le_refl _⟩, ⟨b25_⟩⟩
      case rest =>
       clear HC6
       try clear c1
       try clear p2
       try clear c4
       try clear c4b0
       try clear c5
       try clear c7
       try clear c7b0
       try clear p2
       obtain ⟨kq, x29_5, rfl, HA, HJ5, HB⟩ := hcut
       cases kq with
       | zero => exact absurd HA.out (by simp [varint_Get.j2])
       | succ kj5 =>
        have H := HA.out
        clear HA
        simp only [varint_Get.j2] at H
        by_cases c8 : x29_5 = true
        ·subst c8
         have H1 : (if 0 ≤ x9_2 then (if x9_2 < (a0.size : Int) then (if 0 ≤ x8_2 then (if (wrap64 (bt a0 x9_2)) ≥ 128 then (varint_Get.l0 kj5 a0 a1 (Go.bits .or .i64 x7_2 (shl .i64 (Int.tmod (wrap64 (bt a0 x9_2)) 128) x8_2)) (wrap64 (x8_2 + 7)) (wrap64 (x9_2 + 1))) else ((varint_Put.f kj5 (Go.bits .or .i64 x7_2 (shl .i64 (Int.tmod (wrap64 (bt a0 x9_2)) 128) x8_2))).bind fun bt285 => (if bt285.2 = 0 then (if 0 ≤ a1 then (if a1 ≤ (wrap64 (x9_2 + 1)) then (if (wrap64 (x9_2 + 1)) ≤ (a0.size : Int) then (if bt285.1.toList = (a0.extract (a1 : Int).toNat ((wrap64 (x9_2 + 1)) : Int).toNat).toList then (some (Go.bits .or .i64 x7_2 (shl .i64 (Int.tmod (wrap64 (bt a0 x9_2)) 128) x8_2), wrap64 (x9_2 + 1), 0)) else (some (0, 0, 200))) else (none)) else (none)) else (none)) else (some (0, 0, 200))))) else (none)) else (none)) else (none)) = some (r1, r2, r3) := by rw [if_pos rfl] at H; exact H
         clear H
         have H := H1
         clear H1
         by_cases c9 : 0 ≤ x9_2
         ·rw [if_pos c9] at H
          have c9b0 : decide (0 ≤ x9_2) = true := decide_eq_true c9
          clear c9
          by_cases c10 : x9_2 < (a0.size : Int)
          ·rw [if_pos c10] at H
           have c10b0 : decide (x9_2 < (a0.size : Int)) = true := decide_eq_true c10
           clear c10
           by_cases c12 : 0 ≤ x8_2
           ·rw [if_pos c12] at H
            have c12b0 := eq_true c12
            have c12b1 : decide (0 ≤ x8_2) = true := decide_eq_true c12
            clear c12
            obtain ⟨ji13, hji13⟩ : ∃ j_ : Int, (shl .i64 (Int.tmod (wrap64 (bt a0 x9_2)) 128) x8_2) = j_ := ⟨_, rfl⟩
            replace H : (if (wrap64 (bt a0 x9_2)) ≥ 128 then (varint_Get.l0 kj5 a0 a1 (Go.bits .or .i64 x7_2 (ji13)) (wrap64 (x8_2 + 7)) (wrap64 (x9_2 + 1))) else ((varint_Put.f kj5 (Go.bits .or .i64 x7_2 (ji13))).bind fun bt285 => (if bt285.2 = 0 then (if 0 ≤ a1 then (if a1 ≤ (wrap64 (x9_2 + 1)) then (if (wrap64 (x9_2 + 1)) ≤ (a0.size : Int) then (if bt285.1.toList = (a0.extract (a1 : Int).toNat ((wrap64 (x9_2 + 1)) : Int).toNat).toList then (some (Go.bits .or .i64 x7_2 (ji13), wrap64 (x9_2 + 1), 0)) else (some (0, 0, 200))) else (none)) else (none)) else (none)) else (some (0, 0, 200))))) = some (r1, r2, r3) := by first | (rw [hji13] at H; exact H) | (simp only [hji13] at H ⊢; exact H)
            have hji13_ : (IntKind.i64.wrap ((Int.tmod (wrap64 (bt a0 x9_2)) 128) * 2 ^ min x8_2.toNat 64)) = ji13 := hji13
            have hji13z : x8_2 ≤ 64 → (IntKind.i64.wrap ((Int.tmod (wrap64 (bt a0 x9_2)) 128) * 2 ^ x8_2.toNat)) = ji13 := shl_small hji13
            have hji13y : (wrap64 ((Int.tmod (wrap64 (bt a0 x9_2)) 128) * 2 ^ min x8_2.toNat 64)) = ji13 := (i64_w _).symm.trans hji13_
            have hji13x : x8_2 ≤ 64 → (wrap64 ((Int.tmod (wrap64 (bt a0 x9_2)) 128) * 2 ^ x8_2.toNat)) = ji13 := fun h_ => (i64_w _).symm.trans (hji13z h_)
            by_cases c14 : (wrap64 (bt a0 x9_2)) ≥ 128
            ·rw [if_pos c14] at H
             have c14b0 : decide (128 ≤ (wrap64 (bt a0 x9_2))) = true := decide_eq_true c14
             clear c14
             have H' := Aside0.mk H
             clear H
             have p11 : 0 ≤ (x9_2 : Int) := of_decide_eq_true b55_
             have q11 : x9_2 < (a0.size : Int) := of_decide_eq_true b55_
             have hx11 := bt_at a0 x9_2
             replace p11 := eq_true p11
             replace q11 := eq_true q11
             go_wp2
             go_roundg kj5
             case measure => have := HJ2.out; have := HK2.out; have := HJ5.out; omega
             case rel => exact ⟨(Go.bits .or .i64 x7_2 (ji13)), (wrap64 (x8_2 + 7)), (wrap64 (x9_2 + 1)), (by first | rfl | (simp; done) | (simp only [← hji13] <;> (first | rfl | simp)) | (simp [*]; done)), b56_, b56_, H', ⟨by have := HJ2.out; have := HK2.out; have := HJ5.out; omega⟩, ⟨b25_⟩⟩
            ·rw [if_neg c14] at H
             have c14b0 : decide (128 ≤ (wrap64 (bt a0 x9_2))) = false := decide_eq_false c14
             clear c14
             replace H := Option.bind_eq_some_iff.mp H
             obtain ⟨⟨t285, t286⟩, A150, H⟩ := H
             replace H : (if t286 = 0 then (if 0 ≤ a1 then (if a1 ≤ (wrap64 (x9_2 + 1)) then (if (wrap64 (x9_2 + 1)) ≤ (a0.size : Int) then (if t285.toList = (a0.extract (a1 : Int).toNat ((wrap64 (x9_2 + 1)) : Int).toNat).toList then (some (Go.bits .or .i64 x7_2 (ji13), wrap64 (x9_2 + 1), 0)) else (some (0, 0, 200))) else (none)) else (none)) else (none)) else (some (0, 0, 200))) = some (r1, r2, r3) := H
             have A15 := Aside0.mk A150
             clear A150
             by_cases c16 : t286 = 0
             ·rw [if_pos c16] at H
              have c16b0 : (t286 == 0) = true := beq_iff_eq.mpr c16
              have c16b1 : (t286 != 0) = false := bne_eq_false_iff_eq.mpr c16
              clear c16
              by_cases c17 : 0 ≤ a1
              ·rw [if_pos c17] at H
               have c17b0 := eq_true c17
               have c17b1 : decide (0 ≤ a1) = true := decide_eq_true c17
               clear c17
               by_cases c18 : a1 ≤ (wrap64 (x9_2 + 1))
               ·rw [if_pos c18] at H
                have c18b0 := eq_true c18
                have c18b1 : decide (a1 ≤ (wrap64 (x9_2 + 1))) = true := decide_eq_true c18
                by_cases c19 : (wrap64 (x9_2 + 1)) ≤ (a0.size : Int)
                ·rw [if_pos c19] at H
                 have c19b0 := eq_true c19
                 have c19b1 : decide ((wrap64 (x9_2 + 1)) ≤ (a0.size : Int)) = true := decide_eq_true c19
                 by_cases c20 : t285.toList = (a0.extract (a1 : Int).toNat ((wrap64 (x9_2 + 1)) : Int).toNat).toList
                 ·rw [if_pos c20] at H
                  have c20b0 : (t285.toList == (a0.extract (a1 : Int).toNat ((wrap64 (x9_2 + 1)) : Int).toNat).toList) = true := beq_iff_eq.mpr c20
                  have c20b1 : (t285.toList != (a0.extract (a1 : Int).toNat ((wrap64 (x9_2 + 1)) : Int).toNat).toList) = false := bne_eq_false_iff_eq.mpr c20
                  clear c20
                  simp only [Option.some.injEq, Prod.mk.injEq] at H
                  obtain ⟨rfl, rfl, rfl⟩ := H
                  have p11 : 0 ≤ (x9_2 : Int) := of_decide_eq_true b55_
                  have q11 : x9_2 < (a0.size : Int) := of_decide_eq_true b55_
                  have hx11 := bt_at a0 x9_2
                  replace p11 := eq_true p11
                  replace q11 := eq_true q11
                  go_wp2_with (first | ((with_reducible refine gate_callee (f := 159) rfl ?_); refine goesL_ (some 48) rfl rfl Tryz.func159 kr rfl #[.int .i64 (Go.bits .or .i64 x7_2 (ji13))] rfl b5_ ?_; (with_reducible refine (varint_Put.calls kj5 (Go.bits .or .i64 x7_2 (ji13)) t285 t286 _ A15.out).mono ?_); rintro e w21 ⟨rfl, hb⟩; refine ⟨_, rfl, ?_⟩; have n0_ := Aside0.mk (below_step b24_ hb); clear HB; have HB := n0_; clear n0_; (try clear hb); (try clear hb2); (try clear hk); (try clear hi)))
                  go_ret3
                  exact ⟨b4_, b25_⟩
                 ·rw [if_neg c20] at H
                  have c20b0 : (t285.toList == (a0.extract (a1 : Int).toNat ((wrap64 (x9_2 + 1)) : Int).toNat).toList) = false := beq_eq_false_iff_ne.mpr c20
                  have c20b1 : (t285.toList != (a0.extract (a1 : Int).toNat ((wrap64 (x9_2 + 1)) : Int).toNat).toList) = true := bne_iff_ne.mpr c20
                  simp only [Option.some.injEq, Prod.mk.injEq] at H
                  obtain ⟨rfl, rfl, rfl⟩ := H
                  have p11 : 0 ≤ (x9_2 : Int) := of_decide_eq_true b55_
                  have q11 : x9_2 < (a0.size : Int) := of_decide_eq_true b55_
                  have hx11 := bt_at a0 x9_2
                  replace p11 := eq_true p11
                  replace q11 := eq_true q11
                  go_wp2_with (first | ((with_reducible refine gate_callee (f := 159) rfl ?_); refine goesL_ (some 48) rfl rfl Tryz.func159 kr rfl #[.int .i64 (Go.bits .or .i64 x7_2 (ji13))] rfl b5_ ?_; (with_reducible refine (varint_Put.calls kj5 (Go.bits .or .i64 x7_2 (ji13)) t285 t286 _ A15.out).mono ?_); rintro e w22 ⟨rfl, hb⟩; refine ⟨_, rfl, ?_⟩; have n0_ := Aside0.mk (below_step b24_ hb); clear HB; have HB := n0_; clear n0_; (try clear hb); (try clear hb2); (try clear hk); (try clear hi)))
                  go_ret3
                  exact ⟨b4_, b25_⟩
                ·rw [if_neg c19] at H
                 exact absurd H (by simp)
               ·rw [if_neg c18] at H
                exact absurd H (by simp)
              ·rw [if_neg c17] at H
               exact absurd H (by simp)
             ·rw [if_neg c16] at H
              have c16b0 : (t286 == 0) = false := beq_eq_false_iff_ne.mpr c16
              have c16b1 : (t286 != 0) = true := bne_iff_ne.mpr c16
              simp only [Option.some.injEq, Prod.mk.injEq] at H
              obtain ⟨rfl, rfl, rfl⟩ := H
              have p11 : 0 ≤ (x9_2 : Int) := of_decide_eq_true b55_
              have q11 : x9_2 < (a0.size : Int) := of_decide_eq_true b55_
              have hx11 := bt_at a0 x9_2
              replace p11 := eq_true p11
              replace q11 := eq_true q11
              go_wp2_with (first | ((with_reducible refine gate_callee (f := 159) rfl ?_); refine goesL_ (some 48) rfl rfl Tryz.func159 kr rfl #[.int .i64 (Go.bits .or .i64 x7_2 (ji13))] rfl b5_ ?_; (with_reducible refine (varint_Put.calls kj5 (Go.bits .or .i64 x7_2 (ji13)) t285 t286 _ A15.out).mono ?_); rintro e w23 ⟨rfl, hb⟩; refine ⟨_, rfl, ?_⟩; have n0_ := Aside0.mk (below_step b24_ hb); clear HB; have HB := n0_; clear n0_; (try clear hb); (try clear hb2); (try clear hk); (try clear hi)))
              go_ret3
              exact ⟨b4_, b25_⟩
           ·rw [if_neg c12] at H
            exact absurd H (by simp)
          ·rw [if_neg c10] at H
           exact absurd H (by simp)
         ·rw [if_neg c9] at H
          exact absurd H (by simp)
        ·replace c8 := Bool.eq_false_iff.mpr c8
         subst c8
         have H1 : (some (0, 0, 200)) = some (r1, r2, r3) := by rw [if_neg (show ¬ (false = true) by decide)] at H; exact H
         clear H
         have H := H1
         clear H1
         simp only [Option.some.injEq, Prod.mk.injEq] at H
         obtain ⟨rfl, rfl, rfl⟩ := H
         go_wp2
         go_ret3
         exact ⟨b48_, b25_⟩
end Go.Proofs.YtnoibcdojfnicaaGreatDoor.PG
