/- A part of the proof of a law of descanttop: this session's own texts and printed texts, shortened and joined. -/
import Derived.Test.YtnoibcdojfnicaaGreatDoorE9
set_option linter.unusedVariables false
set_option linter.unusedSimpArgs false
set_option maxRecDepth 100000
set_option maxHeartbeats 16000000
namespace Go.Proofs.YtnoibcdojfnicaaGreatDoor.PG
open Go.Proofs.YtnoibcdojfnicaaGreatDoorW.Short
open Bool renaming true → Y, false → J
open Go.RowKit Go.Proofs.YtnoibcdojfnicaaGreatDoorW.PrintWords Go.Proofs.YtnoibcdojfnicaaGreatDoorW.PrintLast Go.Proofs.YtnoibcdojfnicaaGreatDoorW.PrintMore
attribute [local go_sem] max2_int min2_int max_two min_two max_three min_three max_four min_four
mutual
def riff_Chunks.j0 : Nat → ByteArray → Bool → Option ((List (S151)) × Int)
 | 0, _, _ => none
 | k + 1, x0, x33 => if x33 = true then (none) else (riff_Chunks.l0 k x0 ([] : List (S151)) 12)
def riff_Chunks.l0 : Nat → ByteArray → List (S151) → Int → Option ((List (S151)) × Int)
 | 0, _, _, _ => none
 | k + 1, x0, x4, x5 => if x5 < (x0.size : Int) then (if (x4.length : Int) = 64 then (none) else (riff_Chunks.j2 k x0 x4 x5 (decide ((wrap64 ((x0.size : Int) - x5)) < 8)))) else (some (x4, 0))
def riff_Chunks.j2 : Nat → ByteArray → List (S151) → Int → Bool → Option ((List (S151)) × Int)
 | 0, _, _, _, _ => none
 | k + 1, x0, x4, x5, x47 => if x47 = true then (none) else (if 0 ≤ x5 then (if x5 ≤ (wrap64 (x5 + 4)) then (if (wrap64 (x5 + 4)) ≤ (x0.size : Int) then ((riff_size.f k x0 (wrap64 (x5 + 4))).bind fun t226 => (if (wrap64 (t226 + (Int.tmod t226 2))) > (wrap64 ((x0.size : Int) - (wrap64 (x5 + 8)))) then (none) else (if x4.length < 4398046511104 then (riff_Chunks.l0 k x0 (x4 ++ [(⟨x0.extract (x5 : Int).toNat ((wrap64 (x5 + 4)) : Int).toNat, wrap64 (x5 + 8), t226⟩ : S151)]) (wrap64 ((wrap64 (x5 + 8)) + (wrap64 (t226 + (Int.tmod t226 2)))))) else (none)))) else (none)) else (none)) else (none))
end
def riff_Chunks.f (k : Nat) (a0 : ByteArray) : Option ((List (S151)) × Int) := if (a0.size : Int) > 4096 then (none) else (if (a0.size : Int) < 12 then (none) else ((strings_HasPrefix.f a0 (⟨#[82, 73, 70, 70]⟩ : ByteArray)).bind fun t224 => (if t224 = true then ((riff_size.f k a0 4).bind fun t225 => (if t225 = (wrap64 ((a0.size : Int) - 8)) then (if 8 ≤ 12 then (if 12 ≤ (a0.size : Int) then (riff_Chunks.j0 k a0 ((a0.extract 8 12).toList != ([87, 65, 86, 69] : List UInt8))) else (none)) else (none)) else (none))) else (none))))
def riff_Chunks.T8 : Bool × List (List Nat × List Nat) := (true, [([], []), ([], []), ([], []), ([2], [2]), ([0, 1, 3], [0, 1, 3]), ([], []), ([5], [5]), ([], []), ([], []), ([8], [8]), ([7, 9], [7, 9]), ([4, 6, 10], [4, 6, 10]), ([], []), ([12, 11, 10, 0, 1, 2, 3, 4, 5, 6, 7, 8, 9, 10, 11, 12], [11, 12])])
def riff_Chunks.B8 : List Nat := [0, 0, 0, 4, 15, 0, 32, 0, 0, 256, 896, 2047, 0, 8191]
theorem riff_Chunks.tab8 : rtab .any (opsOf Tryz.f38 8) = riff_Chunks.T8 := by kernel_rfl
theorem riff_Chunks.bits8 : waitsOk riff_Chunks.T8.2 riff_Chunks.B8 = true := by kernel_rfl
theorem riff_Chunks.calls (k : Nat) (a0 : ByteArray) (r1 : List (S151)) (r2 : Int) (w : World) (h : riff_Chunks.f k a0 = some (r1, r2)) :
  Calls Tryz.prog 38 #[.string a0] w fun e w' => ∃ v0_ : Value, e = .returned (.tuple #[v0_, .int .i64 r2]) ∧ Kd.R k151 151 w' w.heap.size (fun _ => True) v0_ r1 ∧ Below w.heap.size w w' := by
 have hu151 := Tryz.underlying151
 have HB := Aside0.mk (Below.refl w.heap.size w)
 have H : (if (a0.size : Int) > 4096 then (none) else (if (a0.size : Int) < 12 then (none) else ((strings_HasPrefix.f a0 (⟨#[82, 73, 70, 70]⟩ : ByteArray)).bind fun t224 => (if t224 = true then ((riff_size.f k a0 4).bind fun t225 => (if t225 = (wrap64 ((a0.size : Int) - 8)) then (if 8 ≤ 12 then (if 12 ≤ (a0.size : Int) then (riff_Chunks.j0 k a0 ((a0.extract 8 12).toList != ([87, 65, 86, 69] : List UInt8))) else (none)) else (none)) else (none))) else (none))))) = some (r1, r2) := h
 clear h
 have HC2 := Aside0.mk H
 clear H
 go_enter Tryz.func38, Tryz.ntmps38
 go_upto_region 1 with (fail)
 go_cut [33] (fun v33 wc => ∃ (kq : Nat) (x33_1 : Bool), v33 = .bool x33_1 ∧ Aside0 (riff_Chunks.j0 kq a0 x33_1 = some (r1, r2)) ∧ Aside0 (kq ≤ k) ∧ Aside0 (Below w.heap.size w wc))
 case first =>
  have H := HC2.out
  clear HC2
  by_cases c3 : (a0.size : Int) > 4096
  ·rw [if_pos c3] at H
   exact absurd H (by simp)
  ·rw [if_neg c3] at H
   have c3b0 : decide (4096 < (a0.size : Int)) = false := decide_eq_false c3
   have c3b1 : decide (4096 < a0.size) = false := decide_eq_false (by omega)
   clear c3
   (first | rw [c3b0] | (simp only [i64_w, i32_w]; rw [c3b0]) | skip)
   by_cases c4 : (a0.size : Int) < 12
   ·rw [if_pos c4] at H
    exact absurd H (by simp)
   ·rw [if_neg c4] at H
    have c4b0 : decide ((a0.size : Int) < 12) = false := decide_eq_false c4
    have c4b1 : decide (a0.size < 12) = false := decide_eq_false (by omega)
    clear c4
    replace H := Option.bind_eq_some_iff.mp H
    obtain ⟨t224, A50, H⟩ := H
    replace H : (if t224 = true then ((riff_size.f k a0 4).bind fun t225 => (if t225 = (wrap64 ((a0.size : Int) - 8)) then (if 8 ≤ 12 then (if 12 ≤ (a0.size : Int) then (riff_Chunks.j0 k a0 ((a0.extract 8 12).toList != ([87, 65, 86, 69] : List UInt8))) else (none)) else (none)) else (none))) else (none)) = some (r1, r2) := H
    have A5 := Aside0.mk A50
    clear A50
    by_cases c6 : t224 = true
    ·subst c6
     have H1 : ((riff_size.f k a0 4).bind fun t225 => (if t225 = (wrap64 ((a0.size : Int) - 8)) then (if 8 ≤ 12 then (if 12 ≤ (a0.size : Int) then (riff_Chunks.j0 k a0 ((a0.extract 8 12).toList != ([87, 65, 86, 69] : List UInt8))) else (none)) else (none)) else (none))) = some (r1, r2) := by rw [if_pos rfl] at H; exact H
     clear H
     have H := H1
     clear H1
     replace H := Option.bind_eq_some_iff.mp H
     obtain ⟨t225, A70, H⟩ := H
     replace H : (if t225 = (wrap64 ((a0.size : Int) - 8)) then (if 8 ≤ 12 then (if 12 ≤ (a0.size : Int) then (riff_Chunks.j0 k a0 ((a0.extract 8 12).toList != ([87, 65, 86, 69] : List UInt8))) else (none)) else (none)) else (none)) = some (r1, r2) := H
     have A7 := Aside0.mk A70
     clear A70
     by_cases c8 : t225 = (wrap64 ((a0.size : Int) - 8))
     ·rw [if_pos c8] at H
      have c8b0 : (t225 == (wrap64 ((a0.size : Int) - 8))) = true := beq_iff_eq.mpr c8
      have c8b1 : (t225 != (wrap64 ((a0.size : Int) - 8))) = false := bne_eq_false_iff_eq.mpr c8
      clear c8
      by_cases c9 : 8 ≤ 12
      ·rw [if_pos c9] at H
       have c9b0 := eq_true c9
       have c9b1 : decide (8 ≤ 12) = true := decide_eq_true c9
       clear c9
       by_cases c10 : 12 ≤ (a0.size : Int)
       ·rw [if_pos c10] at H
        have c10b0 := eq_true c10
        have c10b1 : decide (12 ≤ (a0.size : Int)) = true := decide_eq_true c10
        clear c10
        have H' := Aside0.mk H
        clear H
        go_wp2_with (first | (go_at_call 98; (with_reducible refine (strings_HasPrefix.calls a0 (⟨#[82, 73, 70, 70]⟩ : ByteArray) true _ A5.out).mono ?_); rintro e w' ⟨rfl, ⟨nd, rfl⟩⟩) | (go_at_call 99; (with_reducible refine (riff_size.calls k a0 4 t225 _ A7.out).mono ?_); rintro e w' ⟨rfl, ⟨nd, rfl⟩⟩))
        go_meet
        case rel => exact ⟨_, (((a0.extract 8 12).toList != ([87, 65, 86, 69] : List UInt8))), b75_, H', ⟨b79_⟩, ⟨b29_⟩⟩
       ·rw [if_neg c10] at H
        exact absurd H (by simp)
      ·rw [if_neg c9] at H
       exact absurd H (by simp)
     ·rw [if_neg c8] at H
      exact absurd H (by simp)
    ·replace c6 := Bool.eq_false_iff.mpr c6
     subst c6
     have H1 : (none) = some (r1, r2) := by rw [if_neg (show ¬ (false = true) by decide)] at H; exact H
     clear H
     have H := H1
     clear H1
     exact absurd H (by simp)
 case rest =>
  clear HC2
  try clear c1
  try clear p2
  try clear c3
  try clear c3b0
  try clear c3b1
  try clear c4
  try clear c4b0
  try clear c4b1
  try clear c6
  try clear p6
  try clear c8
  try clear c8b0
  try clear c8b1
  try clear c9
  try clear c9b0
  try clear c9b1
  try clear c10
  try clear c10b0
  try clear c10b1
  obtain ⟨kq, x33_1, rfl, HA, HJ1, HB⟩ := hcut
  cases kq with
  | zero => exact absurd HA.out (by simp [riff_Chunks.j0])
  | succ kj1 =>
   have H := HA.out
   clear HA
   simp only [riff_Chunks.j0] at H
   by_cases c11 : x33_1 = true
   ·subst c11
    have H1 : (none) = some (r1, r2) := by rw [if_pos rfl] at H; exact H
    clear H
    have H := H1
    clear H1
    exact absurd H (by simp)
   ·replace c11 := Bool.eq_false_iff.mpr c11
    subst c11
    have H1 : (riff_Chunks.l0 kj1 a0 ([] : List (S151)) 12) = some (r1, r2) := by rw [if_neg (show ¬ (false = true) by decide)] at H; exact H
    clear H
    have H := H1
    clear H1
    have H' := Aside0.mk H
    clear H
    go_wp2
    go_loopg [4, 5] kj1 (fun kq v4 v5 w' => ∃ (x4_2 : List (S151)) (x5_2 : Int), v5 = .int .i64 x5_2 ∧ Aside0 (riff_Chunks.l0 kq a0 x4_2 x5_2 = some (r1, r2)) ∧ Aside0 (kq ≤ kj1) ∧ Aside0 (Kd.R k151 151 w' w.heap.size (fun _ => True) v4 x4_2) ∧ Aside0 (Below w.heap.size w w'))
    case atStart => exact ⟨(([] : List (S151))), (12), b75_, H', ⟨Nat.le_refl _⟩, ⟨b26_⟩, ⟨b29_⟩⟩
    case round =>
     clear H'
     try clear c1
     try clear p2
     try clear c3
     try clear c3b0
     try clear c3b1
     try clear c4
     try clear c4b0
     try clear c4b1
     try clear c6
     try clear p6
     try clear c8
     try clear c8b0
     try clear c8b1
     try clear c9
     try clear c9b0
     try clear c9b1
     try clear c10
     try clear c10b0
     try clear c10b1
     try clear c11
     try clear p2
     try clear p6
     obtain ⟨x4_2, x5_2, rfl, HA, HK2, HO_4, HB⟩ := hrel
     cases gk with
     | zero => exact absurd HA.out (by simp [riff_Chunks.l0])
     | succ k2 =>
      have H := HA.out
      clear HA
      simp only [riff_Chunks.l0] at H
      by_cases c12 : x5_2 < (a0.size : Int)
      ·rw [if_pos c12] at H
       have c12b0 : decide (x5_2 < (a0.size : Int)) = true := decide_eq_true c12
       clear c12
       have HC13 := Aside0.mk H
       clear H
       go_upto_region 6 with (fail)
       go_cut [47] (fun v47 wc => ∃ (kq : Nat) (x47_12 : Bool), v47 = .bool x47_12 ∧ Aside0 (riff_Chunks.j2 kq a0 x4_2 x5_2 x47_12 = some (r1, r2)) ∧ Aside0 (kq ≤ k2) ∧ Aside0 (Kd.R k151 151 wc w.heap.size (fun _ => True) u4 x4_2) ∧ Aside0 (Below w.heap.size w wc))
       case first =>
        have H := HC13.out
        clear HC13
        by_cases c14 : (x4_2.length : Int) = 64
        ·rw [if_pos c14] at H
         exact absurd H (by simp)
        ·rw [if_neg c14] at H
         have c14b0 : ((x4_2.length : Int) == 64) = false := beq_eq_false_iff_ne.mpr c14
         have c14b1 : ((x4_2.length : Int) != 64) = true := bne_iff_ne.mpr c14
         (first | rw [c14b0] | (simp only [i64_w, i32_w]; rw [c14b0]) | skip)
         have H' := Aside0.mk H
         clear H
         obtain ⟨Ao15, co15, eo15⟩ := Kd.R_slice HO_4.out
         subst eo15
         go_wp2
         go_meet
         case rel => exact ⟨_, (decide ((wrap64 ((a0.size : Int) - x5_2)) < 8)), b75_, H', ⟨by have := HJ1.out; have := HK2.out; first | omega | exact Nat.le_refl _⟩, ⟨by (with_reducible repeat (first | apply Kd.R_alloc | apply Kd.R_drewN | apply Kd.R_drew)); exact HO_4.out⟩, ⟨b29_⟩⟩
       case rest =>
        clear HC13
        try clear c1
        try clear p2
        try clear c3
        try clear c3b0
        try clear c3b1
        try clear c4
        try clear c4b0
        try clear c4b1
        try clear c6
        try clear p6
        try clear c8
        try clear c8b0
        try clear c8b1
        try clear c9
        try clear c9b0
        try clear c9b1
        try clear c10
        try clear c10b0
        try clear c10b1
        try clear c11
        try clear c12
        try clear c12b0
        try clear c14
        try clear c14b0
        try clear c14b1
        try clear p2
        try clear p6
        obtain ⟨kq, x47_12, rfl, HA, HJ12, HO_4, HB⟩ := hcut
        cases kq with
        | zero => exact absurd HA.out (by simp [riff_Chunks.j2])
        | succ kj12 =>
         have H := HA.out
         clear HA
         simp only [riff_Chunks.j2] at H
         by_cases c16 : x47_12 = true
         ·subst c16
          have H1 : (none) = some (r1, r2) := by rw [if_pos rfl] at H; exact H
          clear H
          have H := H1
          clear H1
          exact absurd H (by simp)
         ·replace c16 := Bool.eq_false_iff.mpr c16
          subst c16
          have H1 : (if 0 ≤ x5_2 then (if x5_2 ≤ (wrap64 (x5_2 + 4)) then (if (wrap64 (x5_2 + 4)) ≤ (a0.size : Int) then ((riff_size.f kj12 a0 (wrap64 (x5_2 + 4))).bind fun t226 => (if (wrap64 (t226 + (Int.tmod t226 2))) > (wrap64 ((a0.size : Int) - (wrap64 (x5_2 + 8)))) then (none) else (if x4_2.length < 4398046511104 then (riff_Chunks.l0 kj12 a0 (x4_2 ++ [(⟨a0.extract (x5_2 : Int).toNat ((wrap64 (x5_2 + 4)) : Int).toNat, wrap64 (x5_2 + 8), t226⟩ : S151)]) (wrap64 ((wrap64 (x5_2 + 8)) + (wrap64 (t226 + (Int.tmod t226 2)))))) else (none)))) else (none)) else (none)) else (none)) = some (r1, r2) := by rw [if_neg (show ¬ (false = true) by decide)] at H; exact H
          clear H
          have H := H1
          clear H1
          by_cases c17 : 0 ≤ x5_2
          ·rw [if_pos c17] at H
           have c17b0 := eq_true c17
           have c17b1 : decide (0 ≤ x5_2) = true := decide_eq_true c17
           clear c17
           by_cases c18 : x5_2 ≤ (wrap64 (x5_2 + 4))
           ·rw [if_pos c18] at H
            have c18b0 := eq_true c18
            have c18b1 : decide (x5_2 ≤ (wrap64 (x5_2 + 4))) = true := decide_eq_true c18
            by_cases c19 : (wrap64 (x5_2 + 4)) ≤ (a0.size : Int)
            ·rw [if_pos c19] at H
             have c19b0 := eq_true c19
             have c19b1 : decide ((wrap64 (x5_2 + 4)) ≤ (a0.size : Int)) = true := decide_eq_true c19
             replace H := Option.bind_eq_some_iff.mp H
             obtain ⟨t226, A200, H⟩ := H
             replace H : (if (wrap64 (t226 + (Int.tmod t226 2))) > (wrap64 ((a0.size : Int) - (wrap64 (x5_2 + 8)))) then (none) else (if x4_2.length < 4398046511104 then (riff_Chunks.l0 kj12 a0 (x4_2 ++ [(⟨a0.extract (x5_2 : Int).toNat ((wrap64 (x5_2 + 4)) : Int).toNat, wrap64 (x5_2 + 8), t226⟩ : S151)]) (wrap64 ((wrap64 (x5_2 + 8)) + (wrap64 (t226 + (Int.tmod t226 2)))))) else (none))) = some (r1, r2) := H
             have A20 := Aside0.mk A200
             clear A200
             by_cases c21 : (wrap64 (t226 + (Int.tmod t226 2))) > (wrap64 ((a0.size : Int) - (wrap64 (x5_2 + 8))))
             ·rw [if_pos c21] at H
              exact absurd H (by simp)
             ·rw [if_neg c21] at H
              have c21b0 : decide ((wrap64 ((a0.size : Int) - (wrap64 (x5_2 + 8)))) < (wrap64 (t226 + (Int.tmod t226 2)))) = false := decide_eq_false c21
              clear c21
              by_cases c22 : x4_2.length < 4398046511104
              ·rw [if_pos c22] at H
               have LMc22 := Aside0.mk c22
               clear c22
               obtain ⟨y228, hy228⟩ : ∃ y_ : List (S151), y_ = (x4_2 ++ [(⟨a0.extract (x5_2 : Int).toNat ((wrap64 (x5_2 + 4)) : Int).toNat, wrap64 (x5_2 + 8), t226⟩ : S151)]) := ⟨_, rfl⟩
               replace H : (riff_Chunks.l0 kj12 a0 y228 (wrap64 ((wrap64 (x5_2 + 8)) + (wrap64 (t226 + (Int.tmod t226 2)))))) = some (r1, r2) := by first | (rw [hy228]; with_reducible exact H) | (have H2_ := (Option.bind_some _ _).symm.trans H; rw [hy228]; with_reducible exact H2_) | (have H2_ := (Option.bind_some _ _).symm.trans H; with_reducible exact H2_) | with_reducible exact H | (rw [hy228]; exact H) | exact H
               have Ny228 := Aside0.mk hy228
               clear hy228
               have H' := Aside0.mk H
               clear H
               try go_wp2
               have n0_ := Aside0.mk (Kd.R_drew HO_4.out)
               have n1_ := Aside0.mk (below_drew1 HB.out)
               clear HO_4
               clear HB
               have HO_4 := n0_
               have HB := n1_
               clear n0_ n1_
               refine start_ (n := 14) (S := fun w' => True) (ds := []) #[J,J,J,J,J,J,J,J,J,J,J,J,J,J] kr rfl rfl trivial (fun hHeld => ?_); refine with_tabW riff_Chunks.tab8 riff_Chunks.bits8 (fun HT_ HW_ => ?_)
               generalize wc.drew = w23 at HO_4 HB hHeld ⊢
               refine pu_ 0 48 #[Y,J,J,J,J,J,J,J,J,J,J,J,J,J] HT_ ?_
               refine pu_ 1 49 #[Y,Y,J,J,J,J,J,J,J,J,J,J,J,J] HT_ ?_
               refine pu_ 2 50 #[Y,Y,Y,J,J,J,J,J,J,J,J,J,J,J] HT_ ?_
               refine pu_ 3 51 #[Y,Y,Y,Y,J,J,J,J,J,J,J,J,J,J] HT_ ?_
               refine pu_ 4 52 #[Y,Y,Y,Y,Y,J,J,J,J,J,J,J,J,J] HT_ ?_
               refine pu_ 5 53 #[Y,Y,Y,Y,Y,Y,J,J,J,J,J,J,J,J] HT_ ?_
               refine pu_ 6 54 #[Y,Y,Y,Y,Y,Y,Y,J,J,J,J,J,J,J] HT_ ?_
               refine pu_ 7 55 #[Y,Y,Y,Y,Y,Y,Y,Y,J,J,J,J,J,J] HT_ ?_
               refine pu_ 8 56 #[Y,Y,Y,Y,Y,Y,Y,Y,Y,J,J,J,J,J] HT_ ?_
               refine pu_ 9 57 #[Y,Y,Y,Y,Y,Y,Y,Y,Y,Y,J,J,J,J] HT_ ?_
               refine join_ (σ := Nat) 1 #[Y,Y,Y,Y,Y,Y,Y,Y,Y,Y,Y,Y,Y,J] (fun s_ => [(58, .int .i64 t226), (6, .pointer (some ⟨s_, 0, none⟩)), (59, .agg #[.string (a0.extract (x5_2 : Int).toNat ((wrap64 (x5_2 + 4)) : Int).toNat), .int .i64 (wrap64 (x5_2 + 8)), .int .i64 t226])]) (fun s_ w' => (Kd.R k151 151 w' w.heap.size (fun k_ => k_ ≠ s_) u4 x4_2) ∧ (w'.heap[s_]? = some (.cells #[.string (⟨#[]⟩ : ByteArray), .int .i64 0, .int .i64 0] 151 (0, 0))) ∧ (w.heap.size ≤ s_) ∧ (w.heap.size ≤ s_) ∧ (Below w.heap.size w w')) ?_ ?_
               rotate_left
               ·intro hCont
                refine two_ (i := 10) (j := 12) (Ni := some 58) (Nj := some 6) #[Y,Y,Y,Y,Y,Y,Y,Y,Y,Y,Y,J,J,J] #[Y,Y,Y,Y,Y,Y,Y,Y,Y,Y,J,J,Y,J] rfl rfl rfl rfl (two_of HT_.out kr) (by decide) (by decide) (fun K hK => ?_) (fun K hK => ?_)
                ·skip
                 refine goes_ Tryz.func99 kr rfl #[.string a0, .int .i64 (wrap64 (x5_2 + 4))] (by rfl) rfl rfl b24_ ?_
                 with_reducible refine (riff_size.calls kj12 a0 (wrap64 (x5_2 + 4)) t226 _ A20.out).mono ?_
                 rintro e w' ⟨rfl, ⟨nd, rfl⟩⟩
                 refine ⟨_, rfl, ?_⟩
                 refine hK.out _ _ trivial (fun hHeld => ?_)
                 clear hK K
                 refine norm_ (a' := ?_) ?_ ?_
                 rotate_left
                 ·show Act.put _ (some 58) _ = _
                  exact pT
                 refine pu_ 11 59 #[Y,Y,Y,Y,Y,Y,Y,Y,Y,Y,Y,Y,J,J] HT_ ?_
                 refine one_ (i := 12) (N := some 6) #[Y,Y,Y,Y,Y,Y,Y,Y,Y,Y,Y,Y,Y,J] rfl rfl (one_of HT_.out kr) (by decide) (fun K hK => ?_)
                 refine box_step ?hg (N := 6) ?hd (cs := #[.string (⟨#[]⟩ : ByteArray), .int .i64 0, .int .i64 0]) (t := 151) ?hr ?_; (case hd => rfl); (case hg => rfl); (case hr => first | (go_simp; done) | (go_simp; rfl))
                 intro gb227 hg w24 hbox hb
                 have n0_ := Aside0.mk (Kd.R_below (Kd.R_elderB b54_ gb227 (Nat.le_of_eq hg.symm)) hb)
                 have n1_ := Aside0.mk (below_step b28_ hb)
                 have n2_ := Aside0.mk (hbox)
                 have n3_ := Aside0.mk ((by rw [hg]; exact (below_size b28_) : w.heap.size ≤ gb227))
                 have n4_ := Aside0.mk ((by rw [hg]; exact (below_size b28_) : w.heap.size ≤ gb227))
                 clear HO_4
                 clear HB
                 have HO_4 := n0_
                 have HB := n1_
                 have BK227 := n2_
                 have GW227 := n3_
                 have GE227 := n4_
                 clear n0_ n1_ n2_ n3_ n4_
                 clear hb hbox hg
                 refine hK.out _ _ trivial (fun hHeld => ?_)
                 clear hK K
                 refine norm_ (a' := ?_) ?_ ?_
                 rotate_left
                 ·show Act.put _ (some 6) _ = _
                  exact pT
                 exact norm_ b58_ (hCont (gb227) _ ⟨(by (with_reducible repeat (first | apply Kd.R_alloc | apply Kd.R_drewN | apply Kd.R_drew)); exact Kd.R_mono HO_4.out (fun _ hk => hk.2)), (by (with_reducible repeat (first | refine blk_drewN ?_ _ | refine blk_drew ?_ | refine blk_alloc ?_ _)); exact BK227.out), GW227.out, GE227.out, b12_⟩)
                ·skip
                 refine box_step ?hg (N := 6) ?hd (cs := #[.string (⟨#[]⟩ : ByteArray), .int .i64 0, .int .i64 0]) (t := 151) ?hr ?_; (case hd => rfl); (case hg => rfl); (case hr => first | (go_simp; done) | (go_simp; rfl))
                 intro gb227 hg w24 hbox hb
                 have n0_ := Aside0.mk (Kd.R_below (Kd.R_elderB b54_ gb227 (Nat.le_of_eq hg.symm)) hb)
                 have n1_ := Aside0.mk (below_step b28_ hb)
                 have n2_ := Aside0.mk (hbox)
                 have n3_ := Aside0.mk ((by rw [hg]; exact (below_size b28_) : w.heap.size ≤ gb227))
                 have n4_ := Aside0.mk ((by rw [hg]; exact (below_size b28_) : w.heap.size ≤ gb227))
                 clear HO_4
                 clear HB
                 have HO_4 := n0_
                 have HB := n1_
                 have BK227 := n2_
                 have GW227 := n3_
                 have GE227 := n4_
                 clear n0_ n1_ n2_ n3_ n4_
                 clear hb hbox hg
                 refine hK.out _ _ trivial (fun hHeld => ?_)
                 clear hK K
                 refine norm_ (a' := ?_) ?_ ?_
                 rotate_left
                 ·show Act.put _ (some 6) _ = _
                  exact pT
                 refine one_ (i := 10) (N := some 58) #[Y,Y,Y,Y,Y,Y,Y,Y,Y,Y,Y,J,Y,J] rfl rfl (one_of HT_.out kr) (by decide) (fun K hK => ?_)
                 refine goes_ Tryz.func99 kr rfl #[.string a0, .int .i64 (wrap64 (x5_2 + 4))] (by rfl) rfl rfl b24_ ?_
                 with_reducible refine (riff_size.calls kj12 a0 (wrap64 (x5_2 + 4)) t226 _ A20.out).mono ?_
                 rintro e w' ⟨rfl, ⟨nd, rfl⟩⟩
                 refine ⟨_, rfl, ?_⟩
                 refine hK.out _ _ trivial (fun hHeld => ?_)
                 clear hK K
                 refine norm_ (a' := ?_) ?_ ?_
                 rotate_left
                 ·show Act.put _ (some 58) _ = _
                  exact pT
                 refine pu_ 11 59 #[Y,Y,Y,Y,Y,Y,Y,Y,Y,Y,Y,Y,Y,J] HT_ ?_
                 exact norm_ b58_ (hCont (gb227) _ ⟨(by (with_reducible repeat (first | apply Kd.R_alloc | apply Kd.R_drewN | apply Kd.R_drew)); exact Kd.R_mono HO_4.out (fun _ hk => hk.2)), (by (with_reducible repeat (first | refine blk_drewN ?_ _ | refine blk_drew ?_ | refine blk_alloc ?_ _)); exact BK227.out), GW227.out, GE227.out, b12_⟩)
               rintro gb227 w25 ⟨h0_, h1_, h2_, h3_, h4_⟩
               have n0_ : Aside0 (Kd.R k151 151 w25 w.heap.size (fun k_ => k_ ≠ gb227) u4 x4_2) := ⟨h0_⟩
               have n1_ : Aside0 (w25.heap[gb227]? = some (.cells #[.string (⟨#[]⟩ : ByteArray), .int .i64 0, .int .i64 0] 151 (0, 0))) := ⟨h1_⟩
               have n2_ : Aside0 (w.heap.size ≤ gb227) := ⟨h2_⟩
               have n3_ : Aside0 (w.heap.size ≤ gb227) := ⟨h3_⟩
               have n4_ : Aside0 (Below w.heap.size w w25) := ⟨h4_⟩
               clear HO_4
               clear HB
               clear h0_ h1_ h2_ h3_ h4_
               have HO_4 := n0_
               have BK227 := n1_
               have GW227 := n2_
               have GE227 := n3_
               have HB := n4_
               clear n0_ n1_ n2_ n3_ n4_
               have hHeld := trivial
               refine norm_ (a' := ?_) ?_ ?_
               rotate_left
               ·simp only [putAll, Act.put, List.setIfInBounds_toArray, List.set_cons_zero, List.set_cons_succ]
                rfl
               refine one_ (i := 13) (N := none) #[Y,Y,Y,Y,Y,Y,Y,Y,Y,Y,Y,Y,Y,Y] rfl rfl (one_of HT_.out kr) (by decide) (fun K hK => ?_)
               have hs26 : w25.cell? ⟨gb227, 0, none⟩ = some (.string (⟨#[]⟩ : ByteArray)) := (blk_cell BK227.out 0).trans rfl
               have hfs26 := blk_frozen BK227.out 0
               have hs27 : w25.cell? ⟨gb227, 1, none⟩ = some (.int .i64 0) := (blk_cell BK227.out 1).trans rfl
               have hfs27 := blk_frozen BK227.out 1
               have hs28 : w25.cell? ⟨gb227, 2, none⟩ = some (.int .i64 0) := (blk_cell BK227.out 2).trans rfl
               have hfs28 := blk_frozen BK227.out 2
               refine skip_ (w1 := ?_) (by rfl) rfl ?_ ?_
               rotate_left
               ·go_simp
                rfl
               refine hK.out _ _ trivial (fun hHeld => ?_)
               clear hK K
               refine done_ (done_of HT_.out kr) ?_
               have hcz29_0 : w25.cell? ⟨gb227, 0, none⟩ = some (.string (⟨#[]⟩ : ByteArray)) := (blk_cell BK227.out 0).trans rfl
               have hcz29_1 : w25.cell? ⟨gb227, 1, none⟩ = some (.int .i64 0) := (blk_cell BK227.out 1).trans rfl
               have hcz29_2 : w25.cell? ⟨gb227, 2, none⟩ = some (.int .i64 0) := (blk_cell BK227.out 2).trans rfl
               have hfz29_0 := blk_frozen BK227.out 0
               have hfz29_1 := blk_frozen BK227.out 1
               have hfz29_2 := blk_frozen BK227.out 2
               try go_wp2_with (first | ((with_reducible refine gate_builtin (b := .append) (xs := #[.tmp 73, .tmp 75]) rfl ?_); (try (refine gate_guard (by rfl) ?_; dsimp only)); at_builtin; refine Kd.R_append k151 (w0 := w) w.heap.size rfl (.tmp 73) (.tmp 75) 89 151 (.agg #[(.string ⟨#[]⟩), (.int .i64 0), (.int .i64 0)]) 32 rfl Tryz.underlying89 info151 rfl (by decide) (by omega) u4 x4_2 (⟨a0.extract (x5_2 : Int).toNat ((wrap64 (x5_2 + 4)) : Int).toNat, wrap64 (x5_2 + 8), t226⟩ : S151) [.string (a0.extract (x5_2 : Int).toNat ((wrap64 (x5_2 + 4)) : Int).toNat), .int .i64 (wrap64 (x5_2 + 8)), .int .i64 t226] (fun k_ => k_ ≠ gb227) (fun _ => False) rfl (by first | (go_simp; done) | (go_simp; rfl)) ?aP (fun _ hk => hk.elim) ?aF ?aO ?aB ?aS ?aL ?_; (case aP => exact k151_mkM _ _ _ (⟨a0.extract (x5_2 : Int).toNat ((wrap64 (x5_2 + 4)) : Int).toNat, wrap64 (x5_2 + 8), t226⟩ : S151)); (case aB => exact b12_); (case aF => exact (fun k_ hk => Kd.freshB (g := gb227) (o := .cells #[.string (a0.extract (x5_2 : Int).toNat ((wrap64 (x5_2 + 4)) : Int).toNat), .int .i64 (wrap64 (x5_2 + 8)), .int .i64 t226] 151 (0, 0)) (by (with_reducible repeat (first | refine blk_drewN ?_ _ | refine blk_drew ?_ | refine blk_alloc ?_ _)); refine blk_put (cs := #[.string (a0.extract (x5_2 : Int).toNat ((wrap64 (x5_2 + 4)) : Int).toNat), .int .i64 (wrap64 (x5_2 + 8)), .int .i64 0]) ?_ 2 _ rfl; (with_reducible repeat (first | refine blk_drewN ?_ _ | refine blk_drew ?_ | refine blk_alloc ?_ _)); refine blk_put (cs := #[.string (a0.extract (x5_2 : Int).toNat ((wrap64 (x5_2 + 4)) : Int).toNat), .int .i64 0, .int .i64 0]) ?_ 1 _ rfl; (with_reducible repeat (first | refine blk_drewN ?_ _ | refine blk_drew ?_ | refine blk_alloc ?_ _)); refine blk_put (cs := #[.string (⟨#[]⟩ : ByteArray), .int .i64 0, .int .i64 0]) ?_ 0 _ rfl; (with_reducible repeat (first | refine blk_drewN ?_ _ | refine blk_drew ?_ | refine blk_alloc ?_ _)); exact BK227.out) k_ hk)); (case aO => exact (by (with_reducible repeat (first | apply Kd.R_alloc | apply Kd.R_drewN | apply Kd.R_drew)); exact Kd.R_mono (Kd.R_far (p := ⟨gb227, 2, none⟩) (Kd.R_far (p := ⟨gb227, 1, none⟩) (Kd.R_far (p := ⟨gb227, 0, none⟩) (Kd.R_mono HO_4.out (fun k_ hk => (⟨hk, hk⟩ : _ ∧ k_ ≠ gb227))) (fun _ hk => hk.2) (.string (a0.extract (x5_2 : Int).toNat ((wrap64 (x5_2 + 4)) : Int).toNat))) (fun _ hk => hk.2) (.int .i64 (wrap64 (x5_2 + 8)))) (fun _ hk => hk.2) (.int .i64 t226)) (fun _ hk => hk.1))); (case aS => exact (below_size b12_)); (case aL => have := LMc22.out; omega); intro v229 w30 ho hb hg hat; rw [← Ny228.out] at ho; have n0_ := Aside0.mk (blk_grown (g := gb227) (o := .cells #[.string (a0.extract (x5_2 : Int).toNat ((wrap64 (x5_2 + 4)) : Int).toNat), .int .i64 (wrap64 (x5_2 + 8)), .int .i64 t226] 151 (0, 0)) (by (with_reducible repeat (first | refine blk_drewN ?_ _ | refine blk_drew ?_ | refine blk_alloc ?_ _)); refine blk_put (cs := #[.string (a0.extract (x5_2 : Int).toNat ((wrap64 (x5_2 + 4)) : Int).toNat), .int .i64 (wrap64 (x5_2 + 8)), .int .i64 0]) ?_ 2 _ rfl; (with_reducible repeat (first | refine blk_drewN ?_ _ | refine blk_drew ?_ | refine blk_alloc ?_ _)); refine blk_put (cs := #[.string (a0.extract (x5_2 : Int).toNat ((wrap64 (x5_2 + 4)) : Int).toNat), .int .i64 0, .int .i64 0]) ?_ 1 _ rfl; (with_reducible repeat (first | refine blk_drewN ?_ _ | refine blk_drew ?_ | refine blk_alloc ?_ _)); refine blk_put (cs := #[.string (⟨#[]⟩ : ByteArray), .int .i64 0, .int .i64 0]) ?_ 0 _ rfl; (with_reducible repeat (first | refine blk_drewN ?_ _ | refine blk_drew ?_ | refine blk_alloc ?_ _)); exact BK227.out) hg (Kd.R_away HO_4.out (fun _ hk => hk))); have n1_ := Aside0.mk (hb); have n2_ := Aside0.mk (ho); clear BK227; clear HB; clear HO_4; have BK227 := n0_; have HB := n1_; have HO230 := n2_; clear n0_ n1_ n2_; clear ho hb hg hat; have hcz31_0 : w30.cell? ⟨gb227, 0, none⟩ = some (.string (a0.extract (x5_2 : Int).toNat ((wrap64 (x5_2 + 4)) : Int).toNat)) := (blk_cell BK227.out 0).trans rfl; have hcz31_1 : w30.cell? ⟨gb227, 1, none⟩ = some (.int .i64 (wrap64 (x5_2 + 8))) := (blk_cell BK227.out 1).trans rfl; have hcz31_2 : w30.cell? ⟨gb227, 2, none⟩ = some (.int .i64 t226) := (blk_cell BK227.out 2).trans rfl; have hfz31_0 := blk_frozen BK227.out 0; have hfz31_1 := blk_frozen BK227.out 1; have hfz31_2 := blk_frozen BK227.out 2))
               go_roundg kj12
               case measure => have := HJ1.out; have := HK2.out; have := HJ12.out; omega
               case rel => exact ⟨(y228), (wrap64 ((wrap64 (x5_2 + 8)) + (wrap64 (t226 + (Int.tmod t226 2))))), b75_, H', ⟨by have := HJ1.out; have := HK2.out; have := HJ12.out; omega⟩, ⟨by (with_reducible repeat (first | apply Kd.R_alloc | apply Kd.R_drewN | apply Kd.R_drew)); exact Kd.R_mono HO230.out (fun _ hk => trivial)⟩, ⟨by repeat (first | (with_reducible first | exact HB.out | apply below_alloc | apply pw_below_drewN | apply below_drew1 | refine below_set ?_ GE227.out) | exact HB.out)⟩⟩
              ·rw [if_neg c22] at H
               exact absurd H (by simp)
            ·rw [if_neg c19] at H
             exact absurd H (by simp)
           ·rw [if_neg c18] at H
            exact absurd H (by simp)
          ·rw [if_neg c17] at H
           exact absurd H (by simp)
      ·rw [if_neg c12] at H
       have c12b0 : decide (x5_2 < (a0.size : Int)) = false := decide_eq_false c12
       clear c12
       simp only [Option.some.injEq, Prod.mk.injEq] at H
       obtain ⟨rfl, rfl⟩ := H
       go_wp2
       go_ret2
       exact ⟨_, b60_, by (with_reducible repeat (first | apply Kd.R_alloc | apply Kd.R_drewN | apply Kd.R_drew)); exact HO_4.out, b29_⟩
end Go.Proofs.YtnoibcdojfnicaaGreatDoor.PG
