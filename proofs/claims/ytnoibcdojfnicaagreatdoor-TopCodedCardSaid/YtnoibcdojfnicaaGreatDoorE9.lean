/- A part of the proof of a law of descanttop: this session's own texts and printed texts, shortened and joined. -/
import Derived.Test.YtnoibcdojfnicaaGreatDoorE8
set_option linter.unusedVariables false
set_option linter.unusedSimpArgs false
set_option maxRecDepth 100000
set_option maxHeartbeats 16000000
namespace Go.Proofs.YtnoibcdojfnicaaGreatDoor.PG
open Go.Proofs.YtnoibcdojfnicaaGreatDoorW.Short
open Bool renaming true → Y, false → J
open Go.RowKit Go.Proofs.YtnoibcdojfnicaaGreatDoorW.PrintWords Go.Proofs.YtnoibcdojfnicaaGreatDoorW.PrintLast Go.Proofs.YtnoibcdojfnicaaGreatDoorW.PrintMore
attribute [local go_sem] max2_int min2_int max_two min_two max_three min_three max_four min_four
mutual
def field_Put.j0 : Nat → Int → Int → Bool → Option (ByteArray × Int)
 | 0, _, _, _ => none
 | k + 1, x0, x1, x24 => if x24 = true then (some ((⟨#[]⟩ : ByteArray), 100)) else (if 0 ≤ x1 then (if (x1 : Int).toNat ≤ 281474976710656 then ((some (List.replicate (x1 : Int).toNat 0 : List Int)).bind fun y128 => (field_Put.l0 k x0 y128 (y128.length : Int) 0)) else (none)) else (none))
def field_Put.l0 : Nat → Int → List Int → Int → Int → Option (ByteArray × Int)
 | 0, _, _, _, _ => none
 | k + 1, x0, x6, x28, x29 => if x29 < x28 then (if 0 ≤ (wrap64 (8 * x29)) then (if 0 ≤ x29 then (if x29 < (x6.length : Int) then (field_Put.l0 k x0 (x6.set (x29 : Int).toNat ((shr .i64 x0 (wrap64 (8 * x29))) % 256)) x28 (wrap64 (x29 + 1))) else (none)) else (none)) else (none)) else (some (strOfNums x6, 0))
end
def field_Put.f (k : Nat) (a0 : Int) (a1 : Int) : Option (ByteArray × Int) := if a1 < 1 then (field_Put.j0 k a0 a1 true) else (if a1 > 4 then (field_Put.j0 k a0 a1 true) else (if a0 < 0 then (field_Put.j0 k a0 a1 true) else (if 0 ≤ (wrap64 (8 * a1)) then (field_Put.j0 k a0 a1 ((shr .i64 a0 (wrap64 (8 * a1))) != 0)) else (none))))
theorem field_Put.calls (k : Nat) (a0 : Int) (a1 : Int) (r1 : ByteArray) (r2 : Int) (w : World) (h : field_Put.f k a0 a1 = some (r1, r2)) :
  Calls Tryz.prog 126 #[.int .i64 a0, .int .i64 a1] w fun e w' => e = .returned (.tuple #[.string r1, .int .i64 r2]) ∧ Below w.heap.size w w' := by
 have HB := Aside0.mk (Below.refl w.heap.size w)
 have H : (if a1 < 1 then (field_Put.j0 k a0 a1 true) else (if a1 > 4 then (field_Put.j0 k a0 a1 true) else (if a0 < 0 then (field_Put.j0 k a0 a1 true) else (if 0 ≤ (wrap64 (8 * a1)) then (field_Put.j0 k a0 a1 ((shr .i64 a0 (wrap64 (8 * a1))) != 0)) else (none))))) = some (r1, r2) := h
 clear h
 have HC3 := Aside0.mk H
 clear H
 go_enter Tryz.func126, Tryz.ntmps126
 go_upto_region 1 with (fail)
 go_cut [24] (fun v24 wc => ∃ (kq : Nat) (x24_2 : Bool), v24 = .bool x24_2 ∧ Aside0 (field_Put.j0 kq a0 a1 x24_2 = some (r1, r2)) ∧ Aside0 (kq ≤ k) ∧ Aside0 (Below w.heap.size w wc))
 case first =>
  have H := HC3.out
  clear HC3
  by_cases c4 : a1 < 1
  ·rw [if_pos c4] at H
   have c4b0 : decide (a1 < 1) = true := decide_eq_true c4
   clear c4
   (first | rw [c4b0] | (simp only [i64_w, i32_w]; rw [c4b0]) | skip)
   have H' := Aside0.mk H
   clear H
   go_wp2
   go_meet
   case rel => exact ⟨_, (true), b75_, H', ⟨b79_⟩, ⟨b29_⟩⟩
  ·rw [if_neg c4] at H
   have c4b0 : decide (a1 < 1) = false := decide_eq_false c4
   clear c4
   (first | rw [c4b0] | (simp only [i64_w, i32_w]; rw [c4b0]) | skip)
   by_cases c5 : a1 > 4
   ·rw [if_pos c5] at H
    have c5b0 : decide (4 < a1) = true := decide_eq_true c5
    clear c5
    have H' := Aside0.mk H
    clear H
    go_wp2
    go_meet
    case rel => exact ⟨_, (true), b75_, H', ⟨b79_⟩, ⟨b29_⟩⟩
   ·rw [if_neg c5] at H
    have c5b0 : decide (4 < a1) = false := decide_eq_false c5
    clear c5
    by_cases c6 : a0 < 0
    ·rw [if_pos c6] at H
     have c6b0 : decide (a0 < 0) = true := decide_eq_true c6
     clear c6
     have H' := Aside0.mk H
     clear H
     go_wp2
     go_meet
     case rel => exact ⟨_, (true), b75_, H', ⟨b79_⟩, ⟨b29_⟩⟩
    ·rw [if_neg c6] at H
     have c6b0 : decide (a0 < 0) = false := decide_eq_false c6
     clear c6
     obtain ⟨ji7, hji7⟩ : ∃ j_ : Int, (wrap64 (8 * a1)) = j_ := ⟨_, rfl⟩
     replace H : (if 0 ≤ (ji7) then (field_Put.j0 k a0 a1 ((shr .i64 a0 (ji7)) != 0)) else (none)) = some (r1, r2) := by first | (rw [hji7] at H; exact H) | (simp only [hji7] at H ⊢; exact H)
     have hji7w : (IntKind.i64.wrap (8 * a1)) = ji7 := (i64_w _).trans hji7
     by_cases c8 : 0 ≤ (ji7)
     ·rw [if_pos c8] at H
      have c8b0 := eq_true c8
      have c8b1 : decide (0 ≤ (ji7)) = true := decide_eq_true c8
      clear c8
      obtain ⟨ji9, hji9⟩ : ∃ j_ : Int, (shr .i64 a0 (ji7)) = j_ := ⟨_, rfl⟩
      replace H : (field_Put.j0 k a0 a1 ((ji9) != 0)) = some (r1, r2) := by first | (rw [hji9] at H; exact H) | (simp only [hji9] at H ⊢; exact H)
      have hji9_ : (a0 / 2 ^ min (ji7).toNat 64) = ji9 := hji9
      have hji9z : (ji7) ≤ 64 → (a0 / 2 ^ (ji7).toNat) = ji9 := shr_small hji9
      have H' := Aside0.mk H
      clear H
      go_wp2
      go_meet
      case rel => exact ⟨_, (((ji9) != 0)), (by first | rfl | (simp; done) | (simp only [← hji9] <;> (first | rfl | simp)) | (simp [*]; done)), H', ⟨b79_⟩, ⟨b29_⟩⟩
     ·rw [if_neg c8] at H
      exact absurd H (by simp)
 case rest =>
  clear HC3
  try clear c1
  try clear p2
  try clear c4
  try clear c4b0
  try clear c5
  try clear c5b0
  try clear c6
  try clear c6b0
  try clear p6
  try clear c8
  try clear c8b0
  try clear c8b1
  obtain ⟨kq, x24_2, rfl, HA, HJ2, HB⟩ := hcut
  cases kq with
  | zero => exact absurd HA.out (by simp [field_Put.j0])
  | succ kj2 =>
   have H := HA.out
   clear HA
   simp only [field_Put.j0] at H
   by_cases c10 : x24_2 = true
   ·subst c10
    have H1 : (some ((⟨#[]⟩ : ByteArray), 100)) = some (r1, r2) := by rw [if_pos rfl] at H; exact H
    clear H
    have H := H1
    clear H1
    simp only [Option.some.injEq, Prod.mk.injEq] at H
    obtain ⟨rfl, rfl⟩ := H
    go_wp2
    go_ret2
    exact ⟨b60_, b29_⟩
   ·replace c10 := Bool.eq_false_iff.mpr c10
    subst c10
    have H1 : (if 0 ≤ a1 then (if (a1 : Int).toNat ≤ 281474976710656 then ((some (List.replicate (a1 : Int).toNat 0 : List Int)).bind fun y128 => (field_Put.l0 kj2 a0 y128 (y128.length : Int) 0)) else (none)) else (none)) = some (r1, r2) := by rw [if_neg (show ¬ (false = true) by decide)] at H; exact H
    clear H
    have H := H1
    clear H1
    by_cases c11 : 0 ≤ a1
    ·rw [if_pos c11] at H
     have c11b0 := eq_true c11
     have c11b1 : decide (0 ≤ a1) = true := decide_eq_true c11
     clear c11
     by_cases c12 : (a1 : Int).toNat ≤ 281474976710656
     ·rw [if_pos c12] at H
      have c12b0 := eq_true c12
      have c12b1 : decide ((a1 : Int).toNat ≤ 281474976710656) = true := decide_eq_true c12
      clear c12
      obtain ⟨y128, hy128⟩ : ∃ y_ : List Int, y_ = (List.replicate (a1 : Int).toNat 0) := ⟨_, rfl⟩
      replace H : (field_Put.l0 kj2 a0 y128 (y128.length : Int) 0) = some (r1, r2) := by first | (rw [hy128]; with_reducible exact H) | (have H2_ := (Option.bind_some _ _).symm.trans H; rw [hy128]; with_reducible exact H2_) | (have H2_ := (Option.bind_some _ _).symm.trans H; with_reducible exact H2_) | with_reducible exact H | (rw [hy128]; exact H) | exact H
      have Ny128 := Aside0.mk hy128
      clear hy128
      have H' := Aside0.mk H
      clear H
      go_wp2_with (first | ((with_reducible refine gate_dst (N := 26) rfl ?_); refine Kd.R_make (Kd.int .u8) _ 5 rfl (N := 26) rfl 96 _ _ rfl a1 rfl rfl Tryz.underlying96 (.int .u8 0) 1 info5 rfl (by decide) (by omega) 0 (ok := fun _ => True) (okp := fun _ => True) rfl (fun _ hk => hk) trivial (of_decide_eq_true b73_) (Nat.le_trans (Nat.mul_le_mul_right _ (of_decide_eq_true b73_ : a1.toNat ≤ 281474976710656)) (by omega)) (Below.refl _ _) (Nat.le_refl _) ?_; intro v129 w13 ho14 hb hg_ hnew_; clear hg_ hnew_; (first | rw [← Ny128.out] at ho14 | (simp only [Int.reduceToNat] at ho14; rw [← Ny128.out] at ho14)); have n0_ := Aside0.mk (Kd.R_lower ho14 (below_size b28_)); have n1_ := Aside0.mk (below_step b28_ hb); clear HB; have HO130 := n0_; have HB := n1_; clear n0_ n1_; clear hb ho14; obtain ⟨Ao15, co15, eo15⟩ := Kd.R_slice HO130.out; subst eo15))
      go_loopg [29] kj2 (fun kq v29 w' => ∃ (x6_2 : List Int) (x29_2 : Int), v29 = .int .i64 x29_2 ∧ Aside0 (field_Put.l0 kq a0 x6_2 (y128.length : Int) x29_2 = some (r1, r2)) ∧ Aside0 (kq ≤ kj2) ∧ Aside0 (Kd.R (Kd.int .u8) 5 w' w.heap.size (fun _ => True) (.slice Ao15 y128.length co15) x6_2) ∧ Aside0 (Below w.heap.size w w'))
      case atStart => exact ⟨(y128), (0), b75_, H', ⟨Nat.le_refl _⟩, ⟨by (with_reducible repeat (first | apply Kd.R_alloc | apply Kd.R_drewN | apply Kd.R_drew)); exact HO130.out⟩, ⟨b29_⟩⟩
      case round =>
       clear H'
       try clear c1
       try clear p2
       try clear c4
       try clear c4b0
       try clear c5
       try clear c5b0
       try clear c6
       try clear c6b0
       try clear p6
       try clear c8
       try clear c8b0
       try clear c8b1
       try clear c10
       try clear c11
       try clear c11b0
       try clear c11b1
       try clear c12
       try clear c12b0
       try clear c12b1
       try clear p2
       try clear p6
       obtain ⟨x6_2, x29_2, rfl, HA, HK2, HO_6, HB⟩ := hrel
       have hl6_2 := (Kd.R_reads' HO_6.out).1
       rw [hl6_2] at HO_6
       (try simp only [hl6_2])
       cases gk with
       | zero => exact absurd HA.out (by simp [field_Put.l0])
       | succ k2 =>
        have H := HA.out
        clear HA
        simp only [field_Put.l0] at H
        by_cases c16 : x29_2 < (y128.length : Int)
        ·rw [if_pos c16] at H
         have c16b0 : decide (x29_2 < (y128.length : Int)) = true := decide_eq_true c16
         (try (have c16b0h := c16b0; simp only [hl6_2] at c16b0h))
         clear c16
         obtain ⟨ji17, hji17⟩ : ∃ j_ : Int, (wrap64 (8 * x29_2)) = j_ := ⟨_, rfl⟩
         replace H : (if 0 ≤ (ji17) then (if 0 ≤ x29_2 then (if x29_2 < (x6_2.length : Int) then (field_Put.l0 k2 a0 (x6_2.set (x29_2 : Int).toNat ((shr .i64 a0 (ji17)) % 256)) (y128.length : Int) (wrap64 (x29_2 + 1))) else (none)) else (none)) else (none)) = some (r1, r2) := by first | (rw [hji17] at H; exact H) | (simp only [hji17] at H ⊢; exact H)
         have hji17w : (IntKind.i64.wrap (8 * x29_2)) = ji17 := (i64_w _).trans hji17
         by_cases c18 : 0 ≤ (ji17)
         ·rw [if_pos c18] at H
          have c18b0 := eq_true c18
          have c18b1 : decide (0 ≤ (ji17)) = true := decide_eq_true c18
          clear c18
          obtain ⟨ji19, hji19⟩ : ∃ j_ : Int, (shr .i64 a0 (ji17)) = j_ := ⟨_, rfl⟩
          replace H : (if 0 ≤ x29_2 then (if x29_2 < (x6_2.length : Int) then (field_Put.l0 k2 a0 (x6_2.set (x29_2 : Int).toNat ((ji19) % 256)) (y128.length : Int) (wrap64 (x29_2 + 1))) else (none)) else (none)) = some (r1, r2) := by first | (rw [hji19] at H; exact H) | (simp only [hji19] at H ⊢; exact H)
          have hji19_ : (a0 / 2 ^ min (ji17).toNat 64) = ji19 := hji19
          have hji19z : (ji17) ≤ 64 → (a0 / 2 ^ (ji17).toNat) = ji19 := shr_small hji19
          by_cases c20 : 0 ≤ x29_2
          ·rw [if_pos c20] at H
           have c20b0 : decide (0 ≤ x29_2) = true := decide_eq_true c20
           clear c20
           by_cases c21 : x29_2 < (x6_2.length : Int)
           ·rw [if_pos c21] at H
            have c21b0 : decide (x29_2 < (x6_2.length : Int)) = true := decide_eq_true c21
            (try (have c21b0h := c21b0; simp only [hl6_2] at c21b0h))
            clear c21
            obtain ⟨y131, hy131⟩ : ∃ y_ : List Int, y_ = (x6_2.set (x29_2 : Int).toNat ((ji19) % 256)) := ⟨_, rfl⟩
            replace H : (field_Put.l0 k2 a0 y131 (y128.length : Int) (wrap64 (x29_2 + 1))) = some (r1, r2) := by first | (rw [hy131]; with_reducible exact H) | (have H2_ := (Option.bind_some _ _).symm.trans H; rw [hy131]; with_reducible exact H2_) | (have H2_ := (Option.bind_some _ _).symm.trans H; with_reducible exact H2_) | with_reducible exact H | (rw [hy131]; exact H) | exact H
            have Ny131 := Aside0.mk hy131
            clear hy131
            have H' := Aside0.mk H
            clear H
            have p22 : 0 ≤ (x29_2 : Int) := of_decide_eq_true b73_
            have q22 : (x29_2 : Int) < ((x6_2.length : Int) : Int) := of_decide_eq_true b73_
            obtain ⟨go22, co22, eo22, gb22, gl22, cl22, HG22⟩ := Kd.R_form HO_6.out (by omega)
            (first | cases eo22 | (injection eo22 with ea_ en_ ec_; (first | subst ea_ | (injection ea_ with ea_; subst ea_)); subst ec_; clear en_))
            have GB22 := Aside0.mk gb22
            have GG22 := Aside0.mk HG22
            clear gb22 gl22 HG22
            obtain ⟨hx22_0, hf22_0⟩ := Kd.R_celln 0 HO_6.out (x29_2 : Int) p22 q22
            replace p22 := eq_true p22
            replace q22 := eq_true q22
            have HP23 := Kd.R_putg HO_6.out (x29_2 : Int) ((ji19) % 256)
            go_wp2_with (first | ((with_reducible refine gate_store (t := 5) (p := 39) rfl ?_); refine store_event (t := 5) (p := 39) (v := ?vo_w24) (w1 := (wr.setCell ⟨go22, (x29_2 : Int).toNat, none⟩ (.int .u8 ((ji19) % 256)))) ?hg ?ho ?hn ?hr ?_; (case ho => rfl); (case hg => rfl); (case hn => rfl); (case hr => first | (go_simp; done) | (go_simp; rfl)); intro w24 hw; have hg : wr.grownBy w24 (some go22) := (by rw [hw]; exact HP23.2); have hp_ : Kd.R (Kd.int .u8) 5 w24 w.heap.size (fun _ => True) (.slice (some ⟨go22, 0, none⟩) x6_2.length co15) y131 := (by rw [hw, Ny131.out]; exact HP23.1); clear HP23; have n0_ := Aside0.mk (hp_); have n1_ := Aside0.mk ((by rw [hw]; exact below_set (HB.out) GB22.out : Below w.heap.size w w24)); clear HO_6; clear HB; have HO_6 := n0_; have HB := n1_; clear n0_ n1_; clear hg hw hp_))
            (try simp only [← hl6_2])
            go_roundg k2
            case measure => have := HJ2.out; have := HK2.out; omega
            case rel => exact ⟨(y131), (wrap64 (x29_2 + 1)), b75_, H', ⟨by have := HJ2.out; have := HK2.out; omega⟩, ⟨by (try simp only [hl6_2]); (with_reducible repeat (first | apply Kd.R_alloc | apply Kd.R_drewN | apply Kd.R_drew)); exact HO_6.out⟩, ⟨b29_⟩⟩
           ·rw [if_neg c21] at H
            exact absurd H (by simp)
          ·rw [if_neg c20] at H
           exact absurd H (by simp)
         ·rw [if_neg c18] at H
          exact absurd H (by simp)
        ·rw [if_neg c16] at H
         have c16b0 : decide (x29_2 < (y128.length : Int)) = false := decide_eq_false c16
         (try (have c16b0h := c16b0; simp only [hl6_2] at c16b0h))
         clear c16
         simp only [Option.some.injEq, Prod.mk.injEq] at H
         obtain ⟨rfl, rfl⟩ := H
         have hcv25 := own_string (P := Tryz.prog) Tryz.underlying96 Tryz.underlying5 Tryz.underlying9 (Kd.own_of_R HO_6.out)
         go_wp2
         go_ret2
         exact ⟨b60_, b29_⟩
     ·rw [if_neg c12] at H
      exact absurd H (by simp)
    ·rw [if_neg c11] at H
     exact absurd H (by simp)
def segment_told.f (k : Nat) (a0 : Int) (a1 : Int) (a2 : Int) (a3 : ByteArray) : Option (ByteArray) := (field_Put.f k (a3.size : Int) 2).bind fun bt132 => ((some (([(a0) % 256, (a1) % 256, (a2) % 256] : List Int) : List Int)).bind fun y134 => (if (strOfNums y134).size + bt132.1.size ≤ 9223372036854775807 then (if (strOfNums y134).size + bt132.1.size + a3.size ≤ 9223372036854775807 then ((crc_Sum.f (((strOfNums y134) ++ bt132.1) ++ a3)).bind fun t137 => ((field_Put.f k t137 4).bind fun bt138 => (if (strOfNums y134).size + bt132.1.size + a3.size + bt138.1.size ≤ 9223372036854775807 then (some ((((strOfNums y134) ++ bt132.1) ++ a3) ++ bt138.1)) else (none)))) else (none)) else (none)))
theorem segment_told.calls (k : Nat) (a0 : Int) (a1 : Int) (a2 : Int) (a3 : ByteArray) (r : ByteArray) (w : World) (h : segment_told.f k a0 a1 a2 a3 = some r) :
  Calls Tryz.prog 77 #[.int .i64 a0, .int .i64 a1, .int .i64 a2, .string a3] w fun e w' => e = .returned (.string r) ∧ Below w.heap.size w w' := by
 have HB := Aside0.mk (Below.refl w.heap.size w)
 have H : ((field_Put.f k (a3.size : Int) 2).bind fun bt132 => ((some (([(a0) % 256, (a1) % 256, (a2) % 256] : List Int) : List Int)).bind fun y134 => (if (strOfNums y134).size + bt132.1.size ≤ 9223372036854775807 then (if (strOfNums y134).size + bt132.1.size + a3.size ≤ 9223372036854775807 then ((crc_Sum.f (((strOfNums y134) ++ bt132.1) ++ a3)).bind fun t137 => ((field_Put.f k t137 4).bind fun bt138 => (if (strOfNums y134).size + bt132.1.size + a3.size + bt138.1.size ≤ 9223372036854775807 then (some ((((strOfNums y134) ++ bt132.1) ++ a3) ++ bt138.1)) else (none)))) else (none)) else (none)))) = some r := h
 clear h
 replace H := Option.bind_eq_some_iff.mp H
 obtain ⟨⟨t132, t133⟩, A50, H⟩ := H
 replace H : ((some (([(a0) % 256, (a1) % 256, (a2) % 256] : List Int) : List Int)).bind fun y134 => (if (strOfNums y134).size + t132.size ≤ 9223372036854775807 then (if (strOfNums y134).size + t132.size + a3.size ≤ 9223372036854775807 then ((crc_Sum.f (((strOfNums y134) ++ t132) ++ a3)).bind fun t137 => ((field_Put.f k t137 4).bind fun bt138 => (if (strOfNums y134).size + t132.size + a3.size + bt138.1.size ≤ 9223372036854775807 then (some ((((strOfNums y134) ++ t132) ++ a3) ++ bt138.1)) else (none)))) else (none)) else (none))) = some r := H
 have A5 := Aside0.mk A50
 clear A50
 obtain ⟨y134, hy134⟩ : ∃ y_ : List Int, y_ = (([(a0) % 256, (a1) % 256, (a2) % 256] : List Int)) := ⟨_, rfl⟩
 replace H : (if (strOfNums y134).size + t132.size ≤ 9223372036854775807 then (if (strOfNums y134).size + t132.size + a3.size ≤ 9223372036854775807 then ((crc_Sum.f (((strOfNums y134) ++ t132) ++ a3)).bind fun t137 => ((field_Put.f k t137 4).bind fun bt138 => (if (strOfNums y134).size + t132.size + a3.size + bt138.1.size ≤ 9223372036854775807 then (some ((((strOfNums y134) ++ t132) ++ a3) ++ bt138.1)) else (none)))) else (none)) else (none)) = some r := by first | (rw [hy134]; with_reducible exact H) | (have H2_ := (Option.bind_some _ _).symm.trans H; rw [hy134]; with_reducible exact H2_) | (have H2_ := (Option.bind_some _ _).symm.trans H; with_reducible exact H2_) | with_reducible exact H | (rw [hy134]; exact H) | exact H
 have Ny134 := Aside0.mk hy134
 clear hy134
 by_cases c6 : (strOfNums y134).size + t132.size ≤ 9223372036854775807
 ·rw [if_pos c6] at H
  have c6b0 := eq_true c6
  have c6b1 : decide ((strOfNums y134).size + t132.size ≤ 9223372036854775807) = true := decide_eq_true c6
  try have c6b2 : (9223372036854775807 < (strOfNums y134).size + t132.size) = False := eq_false (Nat.not_lt.2 c6)
  by_cases c7 : (strOfNums y134).size + t132.size + a3.size ≤ 9223372036854775807
  ·rw [if_pos c7] at H
   have c7b0 := eq_true c7
   have c7b1 : decide ((strOfNums y134).size + t132.size + a3.size ≤ 9223372036854775807) = true := decide_eq_true c7
   try have c7b2 : (9223372036854775807 < (strOfNums y134).size + t132.size + a3.size) = False := eq_false (Nat.not_lt.2 c7)
   replace H := Option.bind_eq_some_iff.mp H
   obtain ⟨t137, A80, H⟩ := H
   replace H : ((field_Put.f k t137 4).bind fun bt138 => (if (strOfNums y134).size + t132.size + a3.size + bt138.1.size ≤ 9223372036854775807 then (some ((((strOfNums y134) ++ t132) ++ a3) ++ bt138.1)) else (none))) = some r := H
   have A8 := Aside0.mk A80
   clear A80
   replace H := Option.bind_eq_some_iff.mp H
   obtain ⟨⟨t138, t139⟩, A90, H⟩ := H
   replace H : (if (strOfNums y134).size + t132.size + a3.size + t138.size ≤ 9223372036854775807 then (some ((((strOfNums y134) ++ t132) ++ a3) ++ t138)) else (none)) = some r := H
   have A9 := Aside0.mk A90
   clear A90
   by_cases c10 : (strOfNums y134).size + t132.size + a3.size + t138.size ≤ 9223372036854775807
   ·rw [if_pos c10] at H
    have c10b0 := eq_true c10
    have c10b1 : decide ((strOfNums y134).size + t132.size + a3.size + t138.size ≤ 9223372036854775807) = true := decide_eq_true c10
    try have c10b2 : (9223372036854775807 < (strOfNums y134).size + t132.size + a3.size + t138.size) = False := eq_false (Nat.not_lt.2 c10)
    obtain rfl := Option.some.inj H
    go_enter Tryz.func77, Tryz.ntmps77
    go_wp2_with (first | ((with_reducible refine gate_callee (f := 126) rfl ?_); refine goesL_ (some 17) rfl rfl Tryz.func126 kr rfl #[.int .i64 (a3.size : Int), .int .i64 2] rfl b24_ ?_; (with_reducible refine (field_Put.calls k (a3.size : Int) 2 t132 t133 _ A5.out).mono ?_); rintro e w11 ⟨rfl, hb⟩; refine ⟨_, rfl, ?_⟩; have n0_ := Aside0.mk (below_step b28_ hb); clear HB; have HB := n0_; clear n0_; (try clear hb); (try clear hb2); (try clear hk); (try clear hi)) | ((with_reducible refine gate_dst (N := 26) rfl ?_); refine Kd.R_lit (Kd.int .u8) _ 5 ?hg (N := 26) ?hd (xs := ([(a0) % 256, (a1) % 256, (a2) % 256] : List Int)) (inner := [.int .u8 ((a0) % 256), .int .u8 ((a1) % 256), .int .u8 ((a2) % 256)]) (ok := fun _ => True) (okp := fun _ => True) ?hr ?hp (fun _ hk => hk) trivial (Below.refl _ _) (Nat.le_refl _) (by simp) ?_; (case hd => rfl); (case hg => rfl); (case hr => first | (go_simp; done) | (go_simp; rfl)); (case hp => exact (Reps.one (show Kd.M (Kd.int .u8) _ _ _ ((a0) % 256) [.int .u8 ((a0) % 256)] from rfl) (Reps.one (show Kd.M (Kd.int .u8) _ _ _ ((a1) % 256) [.int .u8 ((a1) % 256)] from rfl) (Reps.one (show Kd.M (Kd.int .u8) _ _ _ ((a2) % 256) [.int .u8 ((a2) % 256)] from rfl) (Reps.none _ _))))); intro v135 w12 ho13 hb hg_ hnew_; clear hg_ hnew_; (first | rw [← Ny134.out] at ho13 | (simp only [Int.reduceToNat] at ho13; rw [← Ny134.out] at ho13)); have n0_ := Aside0.mk (Kd.R_lower ho13 (below_size b28_)); have n1_ := Aside0.mk (below_step b28_ hb); clear HB; have HO136 := n0_; have HB := n1_; clear n0_ n1_; clear hb ho13; have hcv14 := own_string (P := Tryz.prog) Tryz.underlying96 Tryz.underlying5 Tryz.underlying9 (Kd.own_of_R HO136.out)) | ((with_reducible refine gate_callee (f := 33) rfl ?_); refine goesL_ (some 34) rfl rfl Tryz.func33 kr rfl #[.string (((strOfNums y134) ++ t132) ++ a3)] rfl b24_ ?_; (with_reducible refine (crc_Sum.calls (((strOfNums y134) ++ t132) ++ a3) t137 _ A8.out).mono ?_); rintro e w15 ⟨rfl, hb⟩; refine ⟨_, rfl, ?_⟩; have n0_ := Aside0.mk (Kd.R_below (by (with_reducible repeat (first | apply Kd.R_alloc | apply Kd.R_drewN | apply Kd.R_drew)); exact HO136.out) hb); have n1_ := Aside0.mk (below_step b28_ hb); clear HO136; clear HB; have HO136 := n0_; have HB := n1_; clear n0_ n1_; (try clear hb); (try clear hb2); (try clear hk); (try clear hi)) | ((with_reducible refine gate_callee (f := 126) rfl ?_); refine goesL_ (some 35) rfl rfl Tryz.func126 kr rfl #[.int .i64 t137, .int .i64 4] rfl b24_ ?_; (with_reducible refine (field_Put.calls k t137 4 t138 t139 _ A9.out).mono ?_); rintro e w16 ⟨rfl, hb⟩; refine ⟨_, rfl, ?_⟩; have n0_ := Aside0.mk (Kd.R_below (by (with_reducible repeat (first | apply Kd.R_alloc | apply Kd.R_drewN | apply Kd.R_drew)); exact HO136.out) hb); have n1_ := Aside0.mk (below_step b28_ hb); clear HO136; clear HB; have HO136 := n0_; have HB := n1_; clear n0_ n1_; (try clear hb); (try clear hb2); (try clear hk); (try clear hi)))
    go_ret
    exact ⟨b60_, b29_⟩
   ·rw [if_neg c10] at H
    exact absurd H (by simp)
  ·rw [if_neg c7] at H
   exact absurd H (by simp)
 ·rw [if_neg c6] at H
  exact absurd H (by simp)
def fold_Number.f (a0 : Int) : Option (Bool) := if a0 ≥ (-16777216) then (some (decide (a0 ≤ 16777216))) else (some false)
theorem fold_Number.calls (a0 : Int) (r : Bool) (w : World) (h : fold_Number.f a0 = some r) :
  Calls Tryz.prog 60 #[.int .i64 a0] w fun e w' => e = .returned (.bool r) ∧ Drawn0 w w' := by
 have H : (if a0 ≥ (-16777216) then (some (decide (a0 ≤ 16777216))) else (some false)) = some r := h
 clear h
 by_cases c2 : a0 ≥ (-16777216)
 ·rw [if_pos c2] at H
  have c2b0 : decide ((-16777216) ≤ a0) = true := decide_eq_true c2
  clear c2
  obtain rfl := Option.some.inj H
  go_enter Tryz.func60, Tryz.ntmps60
  go_wp2
  go_ret
  exact ⟨b76_, b69_⟩
 ·rw [if_neg c2] at H
  have c2b0 : decide ((-16777216) ≤ a0) = false := decide_eq_false c2
  clear c2
  obtain rfl := Option.some.inj H
  go_enter Tryz.func60, Tryz.ntmps60
  go_wp2
  go_ret
  exact ⟨b76_, b69_⟩
end Go.Proofs.YtnoibcdojfnicaaGreatDoor.PG
namespace Go.Proofs.YtnoibcdojfnicaaGreatDoor.PG
open Go.Proofs.YtnoibcdojfnicaaGreatDoorW.Short
open Bool renaming true → Y, false → J
open Go.RowKit Go.Proofs.YtnoibcdojfnicaaGreatDoorW.PrintWords Go.Proofs.YtnoibcdojfnicaaGreatDoorW.PrintLast Go.Proofs.YtnoibcdojfnicaaGreatDoorW.PrintMore
attribute [local go_sem] max2_int min2_int max_two min_two max_three min_three max_four min_four
mutual
def field_Get.j0 : Nat → ByteArray → Bool → Option (Int × Int)
 | 0, _, _ => none
 | k + 1, x0, x12 => if x12 = true then (some (0, 100)) else (field_Get.l0 k x0 0 (x0.size : Int) 0)
def field_Get.l0 : Nat → ByteArray → Int → Int → Int → Option (Int × Int)
 | 0, _, _, _, _ => none
 | k + 1, x0, x4, x14, x15 => if x15 < x14 then (if 0 ≤ x15 then (if x15 < (x0.size : Int) then (if 0 ≤ (wrap64 (8 * x15)) then (field_Get.l0 k x0 (Go.bits .or .i64 x4 (shl .i64 (wrap64 (bt x0 x15)) (wrap64 (8 * x15)))) x14 (wrap64 (x15 + 1))) else (none)) else (none)) else (none)) else (some (x4, 0))
end
def field_Get.f (k : Nat) (a0 : ByteArray) : Option (Int × Int) := if a0.toList = ([] : List UInt8) then (field_Get.j0 k a0 true) else (field_Get.j0 k a0 (decide ((a0.size : Int) > 4)))
theorem field_Get.calls (k : Nat) (a0 : ByteArray) (r1 : Int) (r2 : Int) (w : World) (h : field_Get.f k a0 = some (r1, r2)) :
  Calls Tryz.prog 106 #[.string a0] w fun e w' => e = .returned (.tuple #[.int .i64 r1, .int .i64 r2]) ∧ Drawn0 w w' := by
 have H : (if a0.toList = ([] : List UInt8) then (field_Get.j0 k a0 true) else (field_Get.j0 k a0 (decide ((a0.size : Int) > 4)))) = some (r1, r2) := h
 clear h
 have HC2 := Aside0.mk H
 clear H
 go_enter Tryz.func106, Tryz.ntmps106
 go_upto_region 1 with (fail)
 go_cut [12] (fun v12 wc => ∃ (kq : Nat) (x12_1 : Bool), v12 = .bool x12_1 ∧ Aside0 (field_Get.j0 kq a0 x12_1 = some (r1, r2)) ∧ Aside0 (kq ≤ k) ∧ Drawn0 w wc)
 case first =>
  have H := HC2.out
  clear HC2
  by_cases c3 : a0.toList = ([] : List UInt8)
  ·rw [if_pos c3] at H
   have c3b0 : (a0.toList == ([] : List UInt8)) = true := beq_iff_eq.mpr c3
   have c3b1 : (a0.toList != ([] : List UInt8)) = false := bne_eq_false_iff_eq.mpr c3
   clear c3
   (first | rw [c3b0] | (simp only [i64_w, i32_w]; rw [c3b0]) | skip)
   have H' := Aside0.mk H
   clear H
   go_wp2
   go_meet
   case rel => exact ⟨_, (true), b75_, H', ⟨b79_⟩, b69_⟩
  ·rw [if_neg c3] at H
   have c3b0 : (a0.toList == ([] : List UInt8)) = false := beq_eq_false_iff_ne.mpr c3
   have c3b1 : (a0.toList != ([] : List UInt8)) = true := bne_iff_ne.mpr c3
   (first | rw [c3b0] | (simp only [i64_w, i32_w]; rw [c3b0]) | skip)
   have H' := Aside0.mk H
   clear H
   go_wp2
   go_meet
   case rel => exact ⟨_, (decide ((a0.size : Int) > 4)), b75_, H', ⟨b79_⟩, b69_⟩
 case rest =>
  clear HC2
  try clear c1
  try clear p2
  try clear c3
  try clear c3b0
  try clear c3b1
  obtain ⟨kq, x12_1, rfl, HA, HJ1, ⟨mc1, rfl⟩⟩ := hcut
  cases kq with
  | zero => exact absurd HA.out (by simp [field_Get.j0])
  | succ kj1 =>
   have H := HA.out
   clear HA
   simp only [field_Get.j0] at H
   by_cases c4 : x12_1 = true
   ·subst c4
    have H1 : (some (0, 100)) = some (r1, r2) := by rw [if_pos rfl] at H; exact H
    clear H
    have H := H1
    clear H1
    simp only [Option.some.injEq, Prod.mk.injEq] at H
    obtain ⟨rfl, rfl⟩ := H
    go_wp2
    go_ret2
    exact ⟨b76_, b69_⟩
   ·replace c4 := Bool.eq_false_iff.mpr c4
    subst c4
    have H1 : (field_Get.l0 kj1 a0 0 (a0.size : Int) 0) = some (r1, r2) := by rw [if_neg (show ¬ (false = true) by decide)] at H; exact H
    clear H
    have H := H1
    clear H1
    have H' := Aside0.mk H
    clear H
    go_wp2
    go_loopg [4, 15] kj1 (fun kq v4 v15 w' => ∃ (x4_2 : Int) (x15_2 : Int), v4 = .int .i64 x4_2 ∧ v15 = .int .i64 x15_2 ∧ Aside0 (field_Get.l0 kq a0 x4_2 (a0.size : Int) x15_2 = some (r1, r2)) ∧ Aside0 (kq ≤ kj1) ∧ Drawn0 w w')
    case atStart => exact ⟨(0), (0), b75_, b75_, H', ⟨Nat.le_refl _⟩, b69_⟩
    case round =>
     clear H'
     try clear c1
     try clear p2
     try clear c3
     try clear c3b0
     try clear c3b1
     try clear c4
     try clear p2
     obtain ⟨x4_2, x15_2, rfl, rfl, HA, HK2, ⟨m2, rfl⟩⟩ := hrel
     cases gk with
     | zero => exact absurd HA.out (by simp [field_Get.l0])
     | succ k2 =>
      have H := HA.out
      clear HA
      simp only [field_Get.l0] at H
      by_cases c5 : x15_2 < (a0.size : Int)
      ·rw [if_pos c5] at H
       have c5b0 : decide (x15_2 < (a0.size : Int)) = true := decide_eq_true c5
       clear c5
       by_cases c6 : 0 ≤ x15_2
       ·rw [if_pos c6] at H
        have c6b0 : decide (0 ≤ x15_2) = true := decide_eq_true c6
        clear c6
        by_cases c7 : x15_2 < (a0.size : Int)
        ·rw [if_pos c7] at H
         have c7b0 : decide (x15_2 < (a0.size : Int)) = true := decide_eq_true c7
         clear c7
         obtain ⟨ji9, hji9⟩ : ∃ j_ : Int, (wrap64 (8 * x15_2)) = j_ := ⟨_, rfl⟩
         replace H : (if 0 ≤ (ji9) then (field_Get.l0 k2 a0 (Go.bits .or .i64 x4_2 (shl .i64 (wrap64 (bt a0 x15_2)) (ji9))) (a0.size : Int) (wrap64 (x15_2 + 1))) else (none)) = some (r1, r2) := by first | (rw [hji9] at H; exact H) | (simp only [hji9] at H ⊢; exact H)
         have hji9w : (IntKind.i64.wrap (8 * x15_2)) = ji9 := (i64_w _).trans hji9
         by_cases c10 : 0 ≤ (ji9)
         ·rw [if_pos c10] at H
          have c10b0 := eq_true c10
          have c10b1 : decide (0 ≤ (ji9)) = true := decide_eq_true c10
          clear c10
          obtain ⟨ji11, hji11⟩ : ∃ j_ : Int, (shl .i64 (wrap64 (bt a0 x15_2)) (ji9)) = j_ := ⟨_, rfl⟩
          replace H : (field_Get.l0 k2 a0 (Go.bits .or .i64 x4_2 (ji11)) (a0.size : Int) (wrap64 (x15_2 + 1))) = some (r1, r2) := by first | (rw [hji11] at H; exact H) | (simp only [hji11] at H ⊢; exact H)
          have hji11_ : (IntKind.i64.wrap ((wrap64 (bt a0 x15_2)) * 2 ^ min (ji9).toNat 64)) = ji11 := hji11
          have hji11z : (ji9) ≤ 64 → (IntKind.i64.wrap ((wrap64 (bt a0 x15_2)) * 2 ^ (ji9).toNat)) = ji11 := shl_small hji11
          have hji11y : (wrap64 ((wrap64 (bt a0 x15_2)) * 2 ^ min (ji9).toNat 64)) = ji11 := (i64_w _).symm.trans hji11_
          have hji11x : (ji9) ≤ 64 → (wrap64 ((wrap64 (bt a0 x15_2)) * 2 ^ (ji9).toNat)) = ji11 := fun h_ => (i64_w _).symm.trans (hji11z h_)
          have H' := Aside0.mk H
          clear H
          have p8 : 0 ≤ (x15_2 : Int) := of_decide_eq_true b73_
          have q8 : x15_2 < (a0.size : Int) := of_decide_eq_true b73_
          have hx8 := bt_at a0 x15_2
          replace p8 := eq_true p8
          replace q8 := eq_true q8
          go_wp2
          go_roundg k2
          case measure => have := HJ1.out; have := HK2.out; omega
          case rel => exact ⟨(Go.bits .or .i64 x4_2 (ji11)), (wrap64 (x15_2 + 1)), (by first | rfl | (simp; done) | (simp only [← hji11] <;> (first | rfl | simp)) | (simp [*]; done)), b75_, H', ⟨by have := HJ1.out; have := HK2.out; omega⟩, b69_⟩
         ·rw [if_neg c10] at H
          exact absurd H (by simp)
        ·rw [if_neg c7] at H
         exact absurd H (by simp)
       ·rw [if_neg c6] at H
        exact absurd H (by simp)
      ·rw [if_neg c5] at H
       have c5b0 : decide (x15_2 < (a0.size : Int)) = false := decide_eq_false c5
       clear c5
       simp only [Option.some.injEq, Prod.mk.injEq] at H
       obtain ⟨rfl, rfl⟩ := H
       go_wp2
       go_ret2
       exact ⟨b76_, b69_⟩
def riff_size.f (k : Nat) (a0 : ByteArray) (a1 : Int) : Option (Int) := if 0 ≤ a1 then (if a1 ≤ (wrap64 (a1 + 4)) then (if (wrap64 (a1 + 4)) ≤ (a0.size : Int) then ((field_Get.f k (a0.extract (a1 : Int).toNat ((wrap64 (a1 + 4)) : Int).toNat)).bind fun bt222 => (some bt222.1)) else (none)) else (none)) else (none)
theorem riff_size.calls (k : Nat) (a0 : ByteArray) (a1 : Int) (r : Int) (w : World) (h : riff_size.f k a0 a1 = some r) :
  Calls Tryz.prog 99 #[.string a0, .int .i64 a1] w fun e w' => e = .returned (.int .i64 r) ∧ Drawn0 w w' := by
 have H : (if 0 ≤ a1 then (if a1 ≤ (wrap64 (a1 + 4)) then (if (wrap64 (a1 + 4)) ≤ (a0.size : Int) then ((field_Get.f k (a0.extract (a1 : Int).toNat ((wrap64 (a1 + 4)) : Int).toNat)).bind fun bt222 => (some bt222.1)) else (none)) else (none)) else (none)) = some r := h
 clear h
 by_cases c3 : 0 ≤ a1
 ·rw [if_pos c3] at H
  have c3b0 := eq_true c3
  have c3b1 : decide (0 ≤ a1) = true := decide_eq_true c3
  clear c3
  by_cases c4 : a1 ≤ (wrap64 (a1 + 4))
  ·rw [if_pos c4] at H
   have c4b0 := eq_true c4
   have c4b1 : decide (a1 ≤ (wrap64 (a1 + 4))) = true := decide_eq_true c4
   by_cases c5 : (wrap64 (a1 + 4)) ≤ (a0.size : Int)
   ·rw [if_pos c5] at H
    have c5b0 := eq_true c5
    have c5b1 : decide ((wrap64 (a1 + 4)) ≤ (a0.size : Int)) = true := decide_eq_true c5
    replace H := Option.bind_eq_some_iff.mp H
    obtain ⟨⟨t222, t223⟩, A60, H⟩ := H
    replace H : (some t222) = some r := H
    have A6 := Aside0.mk A60
    clear A60
    obtain rfl := Option.some.inj H
    go_enter Tryz.func99, Tryz.ntmps99
    go_wp2_with (first | ((with_reducible refine gate_callee (f := 106) rfl ?_); refine goesL_ (some 13) rfl rfl Tryz.func106 kr rfl #[.string (a0.extract (a1 : Int).toNat ((wrap64 (a1 + 4)) : Int).toNat)] rfl b24_ ?_; (with_reducible refine (field_Get.calls k (a0.extract (a1 : Int).toNat ((wrap64 (a1 + 4)) : Int).toNat) t222 t223 _ A6.out).mono ?_); rintro e w' ⟨rfl, ⟨nd, rfl⟩⟩; refine ⟨_, rfl, ?_⟩))
    go_ret
    exact ⟨b76_, b69_⟩
   ·rw [if_neg c5] at H
    exact absurd H (by simp)
  ·rw [if_neg c4] at H
   exact absurd H (by simp)
 ·rw [if_neg c3] at H
  exact absurd H (by simp)
end Go.Proofs.YtnoibcdojfnicaaGreatDoor.PG
namespace Go.Proofs.YtnoibcdojfnicaaGreatDoor.PG
open Go.Proofs.YtnoibcdojfnicaaGreatDoorW.Short
open Bool renaming true → Y, false → J
open Go Go.RowKit Go.Proofs.YtnoibcdojfnicaaGreatDoorW.PrintWords Go.Proofs.YtnoibcdojfnicaaGreatDoorW.PrintMore
def low : Nat → Int → List Int
 | 0, _ => []
 | n + 1, x => x % 256 :: low n (x / 256)
theorem low_length (n : Nat) (x : Int) : (low n x).length = n := by
 induction n generalizing x with
 | zero => rfl
 | succ n ih => simp [low, ih]
theorem low_in (n : Nat) (x : Int) : ∀ y ∈ low n x, 0 ≤ y ∧ y ≤ 255 := by
 induction n generalizing x with
 | zero => intro y h; cases h
 | succ n ih =>
  intro y h
  simp only [low, List.mem_cons] at h
  rcases h with rfl | h
  ·omega
  ·exact ih _ y h
def val : List Int → Int
 | [] => 0
 | b :: l => b + 256 * val l
theorem shr_at (x : Int) (j : Nat) (h : j ≤ 63) : shr .i64 x (j : Int) = x / 2 ^ j := by
 unfold shr
 rw [Int.toNat_natCast, Nat.min_eq_left (by show j ≤ 64; omega)]
end Go.Proofs.YtnoibcdojfnicaaGreatDoor.PG
namespace Go.Proofs.YtnoibcdojfnicaaGreatDoor.PG
open Go.Proofs.YtnoibcdojfnicaaGreatDoorW.Short
open Bool renaming true → Y, false → J
open Go Go.RowKit Go.Proofs.YtnoibcdojfnicaaGreatDoorW.PrintWords Go.Proofs.YtnoibcdojfnicaaGreatDoorW.PrintMore
theorem put_in {k : Nat} {x m : Int} (h1 : 1 ≤ m) (h4 : m ≤ 4) (h0 : 0 ≤ x) (hx : x < 256 ^ m.toNat) : field_Put.f (k + 7) x m = some (strOfNums (low m.toNat x), 0) := by
 unfold field_Put.f
 rw [if_neg (by omega), if_neg (by omega), if_neg (by omega), Num.w64 (n := 8 * m) (by omega) (by omega), if_pos (by omega)]
 have e : (shr .i64 x (8 * m) != 0) = false := by
  rw [bne_eq_false_iff_eq]
  rcases show m = 1 ∨ m = 2 ∨ m = 3 ∨ m = 4 by omega with rfl | rfl | rfl | rfl
  ·have := shr_at x 8 (by decide); rw [show ((8 : Nat) : Int) = 8 * 1 from rfl] at this; rw [this]; replace hx : x < 256 := hx; omega
  ·have := shr_at x 16 (by decide); rw [show ((16 : Nat) : Int) = 8 * 2 from rfl] at this; rw [this]; replace hx : x < 65536 := hx; omega
  ·have := shr_at x 24 (by decide); rw [show ((24 : Nat) : Int) = 8 * 3 from rfl] at this; rw [this]; replace hx : x < 16777216 := hx; omega
  ·have := shr_at x 32 (by decide); rw [show ((32 : Nat) : Int) = 8 * 4 from rfl] at this; rw [this]; replace hx : x < 4294967296 := hx; omega
 rw [e]
 have s0 : shr .i64 x 0 = x := by
  have := shr_at x 0 (by decide); rw [show (0 : Int) = ((0 : Nat) : Int) from rfl, this]; omega
 have s1 : shr .i64 x 8 = x / 256 := shr_at x 8 (by decide)
 have s2 : shr .i64 x 16 = x / 65536 := shr_at x 16 (by decide)
 have s3 : shr .i64 x 24 = x / 16777216 := shr_at x 24 (by decide)
 rcases show m = 1 ∨ m = 2 ∨ m = 3 ∨ m = 4 by omega with rfl | rfl | rfl | rfl
 ·simp [field_Put.j0, field_Put.l0, s0, wrap64, low, List.replicate]
 ·simp [field_Put.j0, field_Put.l0, s0, s1, wrap64, low, List.replicate]
 ·simp [field_Put.j0, field_Put.l0, s0, s1, s2, wrap64, low, List.replicate]
  rw [show x / 256 / 256 = x / 65536 by omega]
 ·simp [field_Put.j0, field_Put.l0, s0, s1, s2, s3, wrap64, low, List.replicate]
  rw [show x / 256 / 256 = x / 65536 by omega, show x / 65536 / 256 = x / 16777216 by omega]
end Go.Proofs.YtnoibcdojfnicaaGreatDoor.PG
namespace Go.Proofs.YtnoibcdojfnicaaGreatDoor.PL
open Go.Proofs.YtnoibcdojfnicaaGreatDoorW.Short
open Bool renaming true → Y, false → J
open Go.RowKit Go.Proofs.YtnoibcdojfnicaaGreatDoorW.PrintWords Go.Proofs.YtnoibcdojfnicaaGreatDoorW.PrintLast Go.Proofs.YtnoibcdojfnicaaGreatDoorW.PrintMore
attribute [local go_sem] max2_int min2_int max_two min_two max_three min_three max_four min_four
def errW : Option Int → Value
  | none => .nilIface
  | some c => .iface 0 (.int .i64 c)
theorem errW_none : errW none = .nilIface := rfl
theorem errW_some (c : Int) : errW (some c) = .iface 0 (.int .i64 c) := rfl
theorem info5 : (Tryz.prog.info? 5).map (fun i => (i.zero, i.size, i.bytes)) = some (some (.int .u8 0), 1, 1) := by kernel_rfl
end Go.Proofs.YtnoibcdojfnicaaGreatDoor.PL
namespace Go.Proofs.YtnoibcdojfnicaaGreatDoor.PL
open Go.Proofs.YtnoibcdojfnicaaGreatDoorW.Short
open Bool renaming true → Y, false → J
open Go Go.RowKit Go.Proofs.YtnoibcdojfnicaaGreatDoorW.PrintWords Go.Proofs.YtnoibcdojfnicaaGreatDoorW.PrintMore
def inB (x m : Int) : Bool := decide (-m ≤ x ∧ x ≤ m)
def clamp (x m : Int) : Int := mn (mx x (-m)) m
def sgn (x : Int) : Int := if x > 0 then 1 else if x < 0 then -1 else 0
theorem ri {k : IntKind} {a b : Int} (h : a = b) : Ending.returned (.int k a) = .returned (.int k b) := by rw [h]
theorem rb {a b : Bool} (h : a = b) : Ending.returned (.bool a) = .returned (.bool b) := by rw [h]
theorem in_calls (x m : Int) (w : World) (h0 : 0 ≤ m) (h1 : m ≤ 9223372036854775807) : Calls Tryz.prog 123 #[.int .i64 x, .int .i64 m] w fun e w' => e = .returned (.bool (inB x m)) ∧ w' = w := by
 by_cases c : -m ≤ x
 ·have c1 : decide (x ≥ -m) = true := decide_eq_true c
  go_enter Tryz.func123, Tryz.ntmps123
  go_wp2
  go_ret
  exact ⟨by simp [inB, c], rfl⟩
 ·have c1 : decide (x ≥ -m) = false := decide_eq_false (by omega)
  go_enter Tryz.func123, Tryz.ntmps123
  go_wp2
  go_ret
  exact ⟨by simp [inB]; omega, rfl⟩
attribute [local go_sem] max2_int min2_int max_two min_two
theorem bound_calls (x m : Int) (w : World) (h0 : 0 ≤ m) (h1 : m ≤ 9223372036854775807) : Calls Tryz.prog 122 #[.int .i64 x, .int .i64 m] w fun e w' => e = .returned (.int .i64 (clamp x m)) ∧ w' = w := by
 go_enter Tryz.func122, Tryz.ntmps122
 go_wp2
 all_goals
  go_ret
  exact ⟨ri (by unfold clamp mn mx; (repeat' split) <;> omega), rfl⟩
theorem sign_calls (x : Int) (w : World) : Calls Tryz.prog 124 #[.int .i64 x] w fun e w' => e = .returned (.int .i64 (sgn x)) ∧ w' = w := by
 by_cases c : x > 0
 ·have c1 : decide (x > 0) = true := decide_eq_true c
  go_enter Tryz.func124, Tryz.ntmps124
  go_wp2
  go_ret
  exact ⟨by simp [sgn, c], rfl⟩
 ·by_cases c2 : x < 0
  ·have c1 : decide (x > 0) = false := decide_eq_false c
   have c3 : decide (x < 0) = true := decide_eq_true c2
   go_enter Tryz.func124, Tryz.ntmps124
   go_wp2
   go_ret
   exact ⟨by simp [sgn, c2]; omega, rfl⟩
  ·have c1 : decide (x > 0) = false := decide_eq_false c
   have c3 : decide (x < 0) = false := decide_eq_false c2
   go_enter Tryz.func124, Tryz.ntmps124
   go_wp2
   go_ret
   exact ⟨ri (by unfold sgn; rw [if_neg (by omega), if_neg (by omega)]), rfl⟩
end Go.Proofs.YtnoibcdojfnicaaGreatDoor.PL
