/- A part of the proof of a law of descanttop: this session's own texts and printed texts, shortened and joined. -/
import Derived.Test.YtnoibcdojfnicaaGreatDoorD4
import Derived.Test.YtnoibcdojfnicaaGreatDoorD7
import Derived.Test.YtnoibcdojfnicaaGreatDoorD3
import Derived.Test.YtnoibcdojfnicaaGreatDoorProg
import Derived.Below
import Derived.Deep.Draws
import Derived.Deep.AppendLies
import Derived.Maps.AppendAt
import Derived.OwnWalk
import Derived.Laws.BytesArg
import Derived.Laws.MakeOwn
import Derived.Laws.OwnMore
import Derived.Deep.OwnRows
import Derived.Tactics
import Derived.Lib.ConvBytes
import Derived.Laws.Slices
import Derived.WalkKit
import Derived.KernelRfl
import Derived.RowKit3
import Derived.Deep.LoopGhost
import Derived.Deep.QuietTactic
import Derived.BigQuiet
import Derived.WideLaws
import Derived.Deep.DeepCutAuto
import Derived.Deep.CutBlock
import Derived.Deep.RegionHeld3
import Derived.Laws.Rows
import Derived.Lib.AppendStr
import Derived.ArgAppend
import Derived.Laws.IdiomCopy
import Derived.OrdersHeld
import Derived.Laws.BitsLemmas
import Derived.RowKit
import Derived.Test.YtnoibcdojfnicaaGreatDoorD0
import Derived.Test.YtnoibcdojfnicaaGreatDoorD1
import Derived.Test.YtnoibcdojfnicaaGreatDoorD2
import Derived.Lib.Hide
set_option linter.unusedVariables false
set_option linter.unusedSimpArgs false
namespace Go.Proofs.YtnoibcdojfnicaaGreatDoor.PG
open Go.Proofs.YtnoibcdojfnicaaGreatDoorW.Short
open Bool renaming true → Y, false → J
open Go.RowKit Go.Proofs.YtnoibcdojfnicaaGreatDoorW.PrintWords Go.Proofs.YtnoibcdojfnicaaGreatDoorW.PrintLast Go.Proofs.YtnoibcdojfnicaaGreatDoorW.PrintMore
attribute [local go_sem] max2_int min2_int max_two min_two max_three min_three max_four min_four
mutual
def field_Put.j0 : Nat → Int → Int → Bool → Option (ByteArray × Int)
 | 0, _, _, _ => none
 | k + 1, x0, x1, x24 => if x24 = true then (some ((⟨#[]⟩ : ByteArray), 100)) else (if 0 ≤ x1 then (if (x1 : Int).toNat ≤ 281474976710656 then ((some (List.replicate (x1 : Int).toNat 0 : List Int)).bind fun y128 => (field_Put.l0 k x0 y128 (y128.length : Int) 0)) else (none)) else (none))
def field_Put.l0 : Nat → Int → List Int → Int → Int → Option (ByteArray × Int)
 | 0, _, _, _, _ => none
 | k + 1, x0, x6, x28, x29 => if x29 < x28 then (if 0 ≤ (wrap64 (8 * x29)) then (if 0 ≤ x29 then (if x29 < (x6.length : Int) then (field_Put.l0 k x0 (x6.set (x29 : Int).toNat ((shr .i64 x0 (wrap64 (8 * x29))) % 256)) x28 (wrap64 (x29 + 1))) else (none)) else (none)) else (none)) else (some (strOfNums x6, 0))
end
def field_Put.f (k : Nat) (a0 : Int) (a1 : Int) : Option (ByteArray × Int) := if a1 < 1 then (field_Put.j0 k a0 a1 true) else (if a1 > 4 then (field_Put.j0 k a0 a1 true) else (if a0 < 0 then (field_Put.j0 k a0 a1 true) else (if 0 ≤ (wrap64 (8 * a1)) then (field_Put.j0 k a0 a1 ((shr .i64 a0 (wrap64 (8 * a1))) != 0)) else (none))))
set_option maxHeartbeats 8000000 in
set_option maxRecDepth 100000 in
theorem field_Put.calls (k : Nat) (a0 : Int) (a1 : Int) (r1 : ByteArray) (r2 : Int) (w : World) (h : field_Put.f k a0 a1 = some (r1, r2)) :
  Calls Tryz.prog 126 #[.int .i64 a0, .int .i64 a1] w fun e w' => e = .returned (.tuple #[.string r1, .int .i64 r2]) ∧ Below w.heap.size w w' := by
 have HB := Aside0.mk (Below.refl w.heap.size w)
 have H : (if a1 < 1 then (field_Put.j0 k a0 a1 true) else (if a1 > 4 then (field_Put.j0 k a0 a1 true) else (if a0 < 0 then (field_Put.j0 k a0 a1 true) else (if 0 ≤ (wrap64 (8 * a1)) then (field_Put.j0 k a0 a1 ((shr .i64 a0 (wrap64 (8 * a1))) != 0)) else (none))))) = some (r1, r2) := h
 clear h
 have HC3 := Aside0.mk H
 clear H
 go_enter Tryz.func126, Tryz.ntmps126
 go_upto_region 1 with (fail)
 go_cut [24] (fun v24 wc => ∃ (kq : Nat) (x24_2 : Bool), v24 = .bool x24_2 ∧ Aside0 (field_Put.j0 kq a0 a1 x24_2 = some (r1, r2)) ∧ Aside0 (kq ≤ k) ∧ Aside0 (Below w.heap.size w wc))
 case first =>
  have H := HC3.out
  clear HC3
  by_cases c4 : a1 < 1
  ·rw [if_pos c4] at H
   have c4b0 : decide (a1 < 1) = true := decide_eq_true c4
   clear c4
   (first | rw [c4b0] | (simp only [i64_w, i32_w]; rw [c4b0]) | skip)
   have H' := Aside0.mk H
   clear H
   go_wp2
   go_meet
   case rel => exact ⟨_, (true), b56_, H', ⟨b60_⟩, ⟨b25_⟩⟩
  ·rw [if_neg c4] at H
   have c4b0 : decide (a1 < 1) = false := decide_eq_false c4
   clear c4
   (first | rw [c4b0] | (simp only [i64_w, i32_w]; rw [c4b0]) | skip)
   by_cases c5 : a1 > 4
   ·rw [if_pos c5] at H
    have c5b0 : decide (4 < a1) = true := decide_eq_true c5
    clear c5
    have H' := Aside0.mk H
    clear H
    go_wp2
    go_meet
    case rel => exact ⟨_, (true), b56_, H', ⟨b60_⟩, ⟨b25_⟩⟩
   ·rw [if_neg c5] at H
    have c5b0 : decide (4 < a1) = false := decide_eq_false c5
    clear c5
    by_cases c6 : a0 < 0
    ·rw [if_pos c6] at H
     have c6b0 : decide (a0 < 0) = true := decide_eq_true c6
     clear c6
     have H' := Aside0.mk H
     clear H
     go_wp2
     go_meet
     case rel => exact ⟨_, (true), b56_, H', ⟨b60_⟩, ⟨b25_⟩⟩
    ·rw [if_neg c6] at H
     have c6b0 : decide (a0 < 0) = false := decide_eq_false c6
     clear c6
     obtain ⟨ji7, hji7⟩ : ∃ j_ : Int, (wrap64 (8 * a1)) = j_ := ⟨_, rfl⟩
     replace H : (if 0 ≤ (ji7) then (field_Put.j0 k a0 a1 ((shr .i64 a0 (ji7)) != 0)) else (none)) = some (r1, r2) := by first | (rw [hji7] at H; exact H) | (simp only [hji7] at H ⊢; exact H)
     have hji7w : (IntKind.i64.wrap (8 * a1)) = ji7 := (i64_w _).trans hji7
     by_cases c8 : 0 ≤ (ji7)
     ·rw [if_pos c8] at H
      have c8b0 := eq_true c8
      have c8b1 : decide (0 ≤ (ji7)) = true := decide_eq_true c8
      clear c8
      obtain ⟨ji9, hji9⟩ : ∃ j_ : Int, (shr .i64 a0 (ji7)) = j_ := ⟨_, rfl⟩
      replace H : (field_Put.j0 k a0 a1 ((ji9) != 0)) = some (r1, r2) := by first | (rw [hji9] at H; exact H) | (simp only [hji9] at H ⊢; exact H)
      have hji9_ : (a0 / 2 ^ min (ji7).toNat 64) = ji9 := hji9
      have hji9z : (ji7) ≤ 64 → (a0 / 2 ^ (ji7).toNat) = ji9 := shr_small hji9
      have H' := Aside0.mk H
      clear H
      go_wp2
      go_meet
      case rel => exact ⟨_, (((ji9) != 0)), (by first | rfl | (simp; done) | (simp only [← hji9] <;> (first | rfl | simp)) | (simp [*]; done)), H', ⟨b60_⟩, ⟨b25_⟩⟩
     ·rw [if_neg c8] at H
      exact absurd H (by simp)
 case rest =>
  clear HC3
  try clear c1
  try clear p2
  try clear c4
  try clear c4b0
  try clear c5
  try clear c5b0
  try clear c6
  try clear c6b0
  try clear p6
  try clear c8
  try clear c8b0
  try clear c8b1
  obtain ⟨kq, x24_2, rfl, HA, HJ2, HB⟩ := hcut
  cases kq with
  | zero => exact absurd HA.out (by simp [field_Put.j0])
  | succ kj2 =>
   have H := HA.out
   clear HA
   simp only [field_Put.j0] at H
   by_cases c10 : x24_2 = true
   ·subst c10
    have H1 : (some ((⟨#[]⟩ : ByteArray), 100)) = some (r1, r2) := by rw [if_pos rfl] at H; exact H
    clear H
    have H := H1
    clear H1
    simp only [Option.some.injEq, Prod.mk.injEq] at H
    obtain ⟨rfl, rfl⟩ := H
    go_wp2
    go_ret2
    exact ⟨b48_, b25_⟩
   ·replace c10 := Bool.eq_false_iff.mpr c10
    subst c10
    have H1 : (if 0 ≤ a1 then (if (a1 : Int).toNat ≤ 281474976710656 then ((some (List.replicate (a1 : Int).toNat 0 : List Int)).bind fun y128 => (field_Put.l0 kj2 a0 y128 (y128.length : Int) 0)) else (none)) else (none)) = some (r1, r2) := by rw [if_neg (show ¬ (false = true) by decide)] at H; exact H
    clear H
    have H := H1
    clear H1
    by_cases c11 : 0 ≤ a1
    ·rw [if_pos c11] at H
     have c11b0 := eq_true c11
     have c11b1 : decide (0 ≤ a1) = true := decide_eq_true c11
     clear c11
     by_cases c12 : (a1 : Int).toNat ≤ 281474976710656
     ·rw [if_pos c12] at H
      have c12b0 := eq_true c12
      have c12b1 : decide ((a1 : Int).toNat ≤ 281474976710656) = true := decide_eq_true c12
      clear c12
      obtain ⟨y128, hy128⟩ : ∃ y_ : List Int, y_ = (List.replicate (a1 : Int).toNat 0) := ⟨_, rfl⟩
      replace H : (field_Put.l0 kj2 a0 y128 (y128.length : Int) 0) = some (r1, r2) := by first | (rw [hy128]; with_reducible exact H) | (have H2_ := (Option.bind_some _ _).symm.trans H; rw [hy128]; with_reducible exact H2_) | (have H2_ := (Option.bind_some _ _).symm.trans H; with_reducible exact H2_) | with_reducible exact H | (rw [hy128]; exact H) | exact H
      have Ny128 := Aside0.mk hy128
      clear hy128
      have H' := Aside0.mk H
      clear H
      go_wp2_with (first | ((with_reducible refine gate_dst (N := 26) rfl ?_); refine Kd.R_make (Kd.int .u8) _ 5 rfl (N := 26) rfl 96 _ _ rfl a1 rfl rfl Tryz.underlying96 (.int .u8 0) 1 info5 rfl (by decide) (by omega) 0 (ok := fun _ => True) (okp := fun _ => True) rfl (fun _ hk => hk) trivial (of_decide_eq_true b55_) (Nat.le_trans (Nat.mul_le_mul_right _ (of_decide_eq_true b55_ : a1.toNat ≤ 281474976710656)) (by omega)) (Below.refl _ _) (Nat.le_refl _) ?_; intro v129 w13 ho14 hb hg_ hnew_; clear hg_ hnew_; (first | rw [← Ny128.out] at ho14 | (simp only [Int.reduceToNat] at ho14; rw [← Ny128.out] at ho14)); have n0_ := Aside0.mk (Kd.R_lower ho14 (below_size b24_)); have n1_ := Aside0.mk (below_step b24_ hb); clear HB; have HO130 := n0_; have HB := n1_; clear n0_ n1_; clear hb ho14; obtain ⟨Ao15, co15, eo15⟩ := Kd.R_slice HO130.out; subst eo15))
      go_loopg [29] kj2 (fun kq v29 w' => ∃ (x6_2 : List Int) (x29_2 : Int), v29 = .int .i64 x29_2 ∧ Aside0 (field_Put.l0 kq a0 x6_2 (y128.length : Int) x29_2 = some (r1, r2)) ∧ Aside0 (kq ≤ kj2) ∧ Aside0 (Kd.R (Kd.int .u8) 5 w' w.heap.size (fun _ => True) (.slice Ao15 y128.length co15) x6_2) ∧ Aside0 (Below w.heap.size w w'))
      case atStart => exact ⟨(y128), (0), b56_, H', ⟨Nat.le_refl _⟩, ⟨by (with_reducible repeat (first | apply Kd.R_alloc | apply Kd.R_drewN | apply Kd.R_drew)); exact HO130.out⟩, ⟨b25_⟩⟩
      case round =>
       clear H'
       try clear c1
       try clear p2
       try clear c4
       try clear c4b0
       try clear c5
       try clear c5b0
       try clear c6
       try clear c6b0
       try clear p6
       try clear c8
       try clear c8b0
       try clear c8b1
       try clear c10
       try clear c11
       try clear c11b0
       try clear c11b1
       try clear c12
       try clear c12b0
       try clear c12b1
       try clear p2
       try clear p6
       obtain ⟨x6_2, x29_2, rfl, HA, HK2, HO_6, HB⟩ := hrel
       have hl6_2 := (Kd.R_reads' HO_6.out).1
       rw [hl6_2] at HO_6
       (try simp only [hl6_2])
       cases gk with
       | zero => exact absurd HA.out (by simp [field_Put.l0])
       | succ k2 =>
        have H := HA.out
        clear HA
        simp only [field_Put.l0] at H
        by_cases c16 : x29_2 < (y128.length : Int)
        ·rw [if_pos c16] at H
         have c16b0 : decide (x29_2 < (y128.length : Int)) = true := decide_eq_true c16
         (try (have c16b0h := c16b0; simp only [hl6_2] at c16b0h))
         clear c16
         obtain ⟨ji17, hji17⟩ : ∃ j_ : Int, (wrap64 (8 * x29_2)) = j_ := ⟨_, rfl⟩
         replace H : (if 0 ≤ (ji17) then (if 0 ≤ x29_2 then (if x29_2 < (x6_2.length : Int) then (field_Put.l0 k2 a0 (x6_2.set (x29_2 : Int).toNat ((shr .i64 a0 (ji17)) % 256)) (y128.length : Int) (wrap64 (x29_2 + 1))) else (none)) else (none)) else (none)) = some (r1, r2) := by first | (rw [hji17] at H; exact H) | (simp only [hji17] at H ⊢; exact H)
         have hji17w : (IntKind.i64.wrap (8 * x29_2)) = ji17 := (i64_w _).trans hji17
         by_cases c18 : 0 ≤ (ji17)
         ·rw [if_pos c18] at H
          have c18b0 := eq_true c18
          have c18b1 : decide (0 ≤ (ji17)) = true := decide_eq_true c18
          clear c18
          obtain ⟨ji19, hji19⟩ : ∃ j_ : Int, (shr .i64 a0 (ji17)) = j_ := ⟨_, rfl⟩
          replace H : (if 0 ≤ x29_2 then (if x29_2 < (x6_2.length : Int) then (field_Put.l0 k2 a0 (x6_2.set (x29_2 : Int).toNat ((ji19) % 256)) (y128.length : Int) (wrap64 (x29_2 + 1))) else (none)) else (none)) = some (r1, r2) := by first | (rw [hji19] at H; exact H) | (simp only [hji19] at H ⊢; exact H)
          have hji19_ : (a0 / 2 ^ min (ji17).toNat 64) = ji19 := hji19
          have hji19z : (ji17) ≤ 64 → (a0 / 2 ^ (ji17).toNat) = ji19 := shr_small hji19
          by_cases c20 : 0 ≤ x29_2
          ·rw [if_pos c20] at H
           have c20b0 : decide (0 ≤ x29_2) = true := decide_eq_true c20
           clear c20
           by_cases c21 : x29_2 < (x6_2.length : Int)
           ·rw [if_pos c21] at H
            have c21b0 : decide (x29_2 < (x6_2.length : Int)) = true := decide_eq_true c21
            (try (have c21b0h := c21b0; simp only [hl6_2] at c21b0h))
            clear c21
            obtain ⟨y131, hy131⟩ : ∃ y_ : List Int, y_ = (x6_2.set (x29_2 : Int).toNat ((ji19) % 256)) := ⟨_, rfl⟩
            replace H : (field_Put.l0 k2 a0 y131 (y128.length : Int) (wrap64 (x29_2 + 1))) = some (r1, r2) := by first | (rw [hy131]; with_reducible exact H) | (have H2_ := (Option.bind_some _ _).symm.trans H; rw [hy131]; with_reducible exact H2_) | (have H2_ := (Option.bind_some _ _).symm.trans H; with_reducible exact H2_) | with_reducible exact H | (rw [hy131]; exact H) | exact H
            have Ny131 := Aside0.mk hy131
            clear hy131
            have H' := Aside0.mk H
            clear H
            have p22 : 0 ≤ (x29_2 : Int) := of_decide_eq_true b55_
            have q22 : (x29_2 : Int) < ((x6_2.length : Int) : Int) := of_decide_eq_true b55_
            obtain ⟨go22, co22, eo22, gb22, gl22, cl22, HG22⟩ := Kd.R_form HO_6.out (by omega)
            (first | cases eo22 | (injection eo22 with ea_ en_ ec_; (first | subst ea_ | (injection ea_ with ea_; subst ea_)); subst ec_; clear en_))
            have GB22 := Aside0.mk gb22
            have GG22 := Aside0.mk HG22
            clear gb22 gl22 HG22
            obtain ⟨hx22_0, hf22_0⟩ := Kd.R_celln 0 HO_6.out (x29_2 : Int) p22 q22
            replace p22 := eq_true p22
            replace q22 := eq_true q22
            have HP23 := Kd.R_putg HO_6.out (x29_2 : Int) ((ji19) % 256)
            go_wp2_with (first | ((with_reducible refine gate_store (t := 5) (p := 39) rfl ?_); refine store_event (t := 5) (p := 39) (v := ?vo_w24) (w1 := (wr.setCell ⟨go22, (x29_2 : Int).toNat, none⟩ (.int .u8 ((ji19) % 256)))) ?hg ?ho ?hn ?hr ?_; (case ho => rfl); (case hg => rfl); (case hn => rfl); (case hr => first | (go_simp; done) | (go_simp; rfl)); intro w24 hw; have hg : wr.grownBy w24 (some go22) := (by rw [hw]; exact HP23.2); have hp_ : Kd.R (Kd.int .u8) 5 w24 w.heap.size (fun _ => True) (.slice (some ⟨go22, 0, none⟩) x6_2.length co15) y131 := (by rw [hw, Ny131.out]; exact HP23.1); clear HP23; have n0_ := Aside0.mk (hp_); have n1_ := Aside0.mk ((by rw [hw]; exact below_set (HB.out) GB22.out : Below w.heap.size w w24)); clear HO_6; clear HB; have HO_6 := n0_; have HB := n1_; clear n0_ n1_; clear hg hw hp_))
            (try simp only [← hl6_2])
            go_roundg k2
            case measure => have := HJ2.out; have := HK2.out; omega
            case rel => exact ⟨(y131), (wrap64 (x29_2 + 1)), b56_, H', ⟨by have := HJ2.out; have := HK2.out; omega⟩, ⟨by (try simp only [hl6_2]); (with_reducible repeat (first | apply Kd.R_alloc | apply Kd.R_drewN | apply Kd.R_drew)); exact HO_6.out⟩, ⟨b25_⟩⟩
           ·rw [if_neg c21] at H
            exact absurd H (by simp)
          ·rw [if_neg c20] at H
           exact absurd H (by simp)
         ·rw [if_neg c18] at H
          exact absurd H (by simp)
        ·rw [if_neg c16] at H
         have c16b0 : decide (x29_2 < (y128.length : Int)) = false := decide_eq_false c16
         (try (have c16b0h := c16b0; simp only [hl6_2] at c16b0h))
         clear c16
         simp only [Option.some.injEq, Prod.mk.injEq] at H
         obtain ⟨rfl, rfl⟩ := H
         have hcv25 := own_string (P := Tryz.prog) Tryz.underlying96 Tryz.underlying5 Tryz.underlying9 (Kd.own_of_R HO_6.out)
         go_wp2
         go_ret2
         exact ⟨b48_, b25_⟩
     ·rw [if_neg c12] at H
      exact absurd H (by simp)
    ·rw [if_neg c11] at H
     exact absurd H (by simp)
def segment_told.f (k : Nat) (a0 : Int) (a1 : Int) (a2 : Int) (a3 : ByteArray) : Option (ByteArray) := (field_Put.f k (a3.size : Int) 2).bind fun bt132 => ((some (([(a0) % 256, (a1) % 256, (a2) % 256] : List Int) : List Int)).bind fun y134 => (if (strOfNums y134).size + bt132.1.size ≤ 9223372036854775807 then (if (strOfNums y134).size + bt132.1.size + a3.size ≤ 9223372036854775807 then ((crc_Sum.f (((strOfNums y134) ++ bt132.1) ++ a3)).bind fun t137 => ((field_Put.f k t137 4).bind fun bt138 => (if (strOfNums y134).size + bt132.1.size + a3.size + bt138.1.size ≤ 9223372036854775807 then (some ((((strOfNums y134) ++ bt132.1) ++ a3) ++ bt138.1)) else (none)))) else (none)) else (none)))
set_option maxHeartbeats 8000000 in
set_option maxRecDepth 100000 in
theorem segment_told.calls (k : Nat) (a0 : Int) (a1 : Int) (a2 : Int) (a3 : ByteArray) (r : ByteArray) (w : World) (h : segment_told.f k a0 a1 a2 a3 = some r) :
  Calls Tryz.prog 77 #[.int .i64 a0, .int .i64 a1, .int .i64 a2, .string a3] w fun e w' => e = .returned (.string r) ∧ Below w.heap.size w w' := by
 have HB := Aside0.mk (Below.refl w.heap.size w)
 have H : ((field_Put.f k (a3.size : Int) 2).bind fun bt132 => ((some (([(a0) % 256, (a1) % 256, (a2) % 256] : List Int) : List Int)).bind fun y134 => (if (strOfNums y134).size + bt132.1.size ≤ 9223372036854775807 then (if (strOfNums y134).size + bt132.1.size + a3.size ≤ 9223372036854775807 then ((crc_Sum.f (((strOfNums y134) ++ bt132.1) ++ a3)).bind fun t137 => ((field_Put.f k t137 4).bind fun bt138 => (if (strOfNums y134).size + bt132.1.size + a3.size + bt138.1.size ≤ 9223372036854775807 then (some ((((strOfNums y134) ++ bt132.1) ++ a3) ++ bt138.1)) else (none)))) else (none)) else (none)))) = some r := h
 clear h
 replace H := Option.bind_eq_some_iff.mp H
 obtain ⟨⟨t132, t133⟩, A50, H⟩ := H
 replace H : ((some (([(a0) % 256, (a1) % 256, (a2) % 256] : List Int) : List Int)).bind fun y134 => (if (strOfNums y134).size + t132.size ≤ 9223372036854775807 then (if (strOfNums y134).size + t132.size + a3.size ≤ 9223372036854775807 then ((crc_Sum.f (((strOfNums y134) ++ t132) ++ a3)).bind fun t137 => ((field_Put.f k t137 4).bind fun bt138 => (if (strOfNums y134).size + t132.size + a3.size + bt138.1.size ≤ 9223372036854775807 then (some ((((strOfNums y134) ++ t132) ++ a3) ++ bt138.1)) else (none)))) else (none)) else (none))) = some r := H
 have A5 := Aside0.mk A50
 clear A50
 obtain ⟨y134, hy134⟩ : ∃ y_ : List Int, y_ = (([(a0) % 256, (a1) % 256, (a2) % 256] : List Int)) := ⟨_, rfl⟩
 replace H : (if (strOfNums y134).size + t132.size ≤ 9223372036854775807 then (if (strOfNums y134).size + t132.size + a3.size ≤ 9223372036854775807 then ((crc_Sum.f (((strOfNums y134) ++ t132) ++ a3)).bind fun t137 => ((field_Put.f k t137 4).bind fun bt138 => (if (strOfNums y134).size + t132.size + a3.size + bt138.1.size ≤ 9223372036854775807 then (some ((((strOfNums y134) ++ t132) ++ a3) ++ bt138.1)) else (none)))) else (none)) else (none)) = some r := by first | (rw [hy134]; with_reducible exact H) | (have H2_ := (Option.bind_some _ _).symm.trans H; rw [hy134]; with_reducible exact H2_) | (have H2_ := (Option.bind_some _ _).symm.trans H; with_reducible exact H2_) | with_reducible exact H | (rw [hy134]; exact H) | exact H
 have Ny134 := Aside0.mk hy134
 clear hy134
 by_cases c6 : (strOfNums y134).size + t132.size ≤ 9223372036854775807
 ·rw [if_pos c6] at H
  have c6b0 := eq_true c6
  have c6b1 : decide ((strOfNums y134).size + t132.size ≤ 9223372036854775807) = true := decide_eq_true c6
  try have c6b2 : (9223372036854775807 < (strOfNums y134).size + t132.size) = False := eq_false (Nat.not_lt.2 c6)
  by_cases c7 : (strOfNums y134).size + t132.size + a3.size ≤ 9223372036854775807
  ·rw [if_pos c7] at H
   have c7b0 := eq_true c7
   have c7b1 : decide ((strOfNums y134).size + t132.size + a3.size ≤ 9223372036854775807) = true := decide_eq_true c7
   try have c7b2 : (9223372036854775807 < (strOfNums y134).size + t132.size + a3.size) = False := eq_false (Nat.not_lt.2 c7)
   replace H := Option.bind_eq_some_iff.mp H
   obtain ⟨t137, A80, H⟩ := H
   replace H : ((field_Put.f k t137 4).bind fun bt138 => (if (strOfNums y134).size + t132.size + a3.size + bt138.1.size ≤ 9223372036854775807 then (some ((((strOfNums y134) ++ t132) ++ a3) ++ bt138.1)) else (none))) = some r := H
   have A8 := Aside0.mk A80
   clear A80
   replace H := Option.bind_eq_some_iff.mp H
   obtain ⟨⟨t138, t139⟩, A90, H⟩ := H
   replace H : (if (strOfNums y134).size + t132.size + a3.size + t138.size ≤ 9223372036854775807 then (some ((((strOfNums y134) ++ t132) ++ a3) ++ t138)) else (none)) = some r := H
   have A9 := Aside0.mk A90
   clear A90
   by_cases c10 : (strOfNums y134).size + t132.size + a3.size + t138.size ≤ 9223372036854775807
   ·rw [if_pos c10] at H
    have c10b0 := eq_true c10
    have c10b1 : decide ((strOfNums y134).size + t132.size + a3.size + t138.size ≤ 9223372036854775807) = true := decide_eq_true c10
    try have c10b2 : (9223372036854775807 < (strOfNums y134).size + t132.size + a3.size + t138.size) = False := eq_false (Nat.not_lt.2 c10)
    obtain rfl := Option.some.inj H
    go_enter Tryz.func77, Tryz.ntmps77
    go_wp2_with (first | ((with_reducible refine gate_callee (f := 126) rfl ?_); refine goesL_ (some 17) rfl rfl Tryz.func126 kr rfl #[.int .i64 (a3.size : Int), .int .i64 2] rfl b22_ ?_; (with_reducible refine (field_Put.calls k (a3.size : Int) 2 t132 t133 _ A5.out).mono ?_); rintro e w11 ⟨rfl, hb⟩; refine ⟨_, rfl, ?_⟩; have n0_ := Aside0.mk (below_step b24_ hb); clear HB; have HB := n0_; clear n0_; (try clear hb); (try clear hb2); (try clear hk); (try clear hi)) | ((with_reducible refine gate_dst (N := 26) rfl ?_); refine Kd.R_lit (Kd.int .u8) _ 5 ?hg (N := 26) ?hd (xs := ([(a0) % 256, (a1) % 256, (a2) % 256] : List Int)) (inner := [.int .u8 ((a0) % 256), .int .u8 ((a1) % 256), .int .u8 ((a2) % 256)]) (ok := fun _ => True) (okp := fun _ => True) ?hr ?hp (fun _ hk => hk) trivial (Below.refl _ _) (Nat.le_refl _) (by simp) ?_; (case hd => rfl); (case hg => rfl); (case hr => first | (go_simp; done) | (go_simp; rfl)); (case hp => exact (Reps.one (show Kd.M (Kd.int .u8) _ _ _ ((a0) % 256) [.int .u8 ((a0) % 256)] from rfl) (Reps.one (show Kd.M (Kd.int .u8) _ _ _ ((a1) % 256) [.int .u8 ((a1) % 256)] from rfl) (Reps.one (show Kd.M (Kd.int .u8) _ _ _ ((a2) % 256) [.int .u8 ((a2) % 256)] from rfl) (Reps.none _ _))))); intro v135 w12 ho13 hb hg_ hnew_; clear hg_ hnew_; (first | rw [← Ny134.out] at ho13 | (simp only [Int.reduceToNat] at ho13; rw [← Ny134.out] at ho13)); have n0_ := Aside0.mk (Kd.R_lower ho13 (below_size b24_)); have n1_ := Aside0.mk (below_step b24_ hb); clear HB; have HO136 := n0_; have HB := n1_; clear n0_ n1_; clear hb ho13; have hcv14 := own_string (P := Tryz.prog) Tryz.underlying96 Tryz.underlying5 Tryz.underlying9 (Kd.own_of_R HO136.out)) | ((with_reducible refine gate_callee (f := 33) rfl ?_); refine goesL_ (some 34) rfl rfl Tryz.func33 kr rfl #[.string (((strOfNums y134) ++ t132) ++ a3)] rfl b22_ ?_; (with_reducible refine (crc_Sum.calls (((strOfNums y134) ++ t132) ++ a3) t137 _ A8.out).mono ?_); rintro e w15 ⟨rfl, hb⟩; refine ⟨_, rfl, ?_⟩; have n0_ := Aside0.mk (Kd.R_below (by (with_reducible repeat (first | apply Kd.R_alloc | apply Kd.R_drewN | apply Kd.R_drew)); exact HO136.out) hb); have n1_ := Aside0.mk (below_step b24_ hb); clear HO136; clear HB; have HO136 := n0_; have HB := n1_; clear n0_ n1_; (try clear hb); (try clear hb2); (try clear hk); (try clear hi)) | ((with_reducible refine gate_callee (f := 126) rfl ?_); refine goesL_ (some 35) rfl rfl Tryz.func126 kr rfl #[.int .i64 t137, .int .i64 4] rfl b22_ ?_; (with_reducible refine (field_Put.calls k t137 4 t138 t139 _ A9.out).mono ?_); rintro e w16 ⟨rfl, hb⟩; refine ⟨_, rfl, ?_⟩; have n0_ := Aside0.mk (Kd.R_below (by (with_reducible repeat (first | apply Kd.R_alloc | apply Kd.R_drewN | apply Kd.R_drew)); exact HO136.out) hb); have n1_ := Aside0.mk (below_step b24_ hb); clear HO136; clear HB; have HO136 := n0_; have HB := n1_; clear n0_ n1_; (try clear hb); (try clear hb2); (try clear hk); (try clear hi)))
    go_ret
    exact ⟨b48_, b25_⟩
   ·rw [if_neg c10] at H
    exact absurd H (by simp)
  ·rw [if_neg c7] at H
   exact absurd H (by simp)
 ·rw [if_neg c6] at H
  exact absurd H (by simp)
def fold_Number.f (a0 : Int) : Option (Bool) := if a0 ≥ (-16777216) then (some (decide (a0 ≤ 16777216))) else (some false)
set_option maxHeartbeats 8000000 in
set_option maxRecDepth 100000 in
theorem fold_Number.calls (a0 : Int) (r : Bool) (w : World) (h : fold_Number.f a0 = some r) :
  Calls Tryz.prog 60 #[.int .i64 a0] w fun e w' => e = .returned (.bool r) ∧ Drawn0 w w' := by
 have H : (if a0 ≥ (-16777216) then (some (decide (a0 ≤ 16777216))) else (some false)) = some r := h
 clear h
 by_cases c2 : a0 ≥ (-16777216)
 ·rw [if_pos c2] at H
  have c2b0 : decide ((-16777216) ≤ a0) = true := decide_eq_true c2
  clear c2
  obtain rfl := Option.some.inj H
  go_enter Tryz.func60, Tryz.ntmps60
  go_wp2
  go_ret
  exact ⟨b57_, b52_⟩
 ·rw [if_neg c2] at H
  have c2b0 : decide ((-16777216) ≤ a0) = false := decide_eq_false c2
  clear c2
  obtain rfl := Option.some.inj H
  go_enter Tryz.func60, Tryz.ntmps60
  go_wp2
  go_ret
  exact ⟨b57_, b52_⟩
end Go.Proofs.YtnoibcdojfnicaaGreatDoor.PG
namespace Go.Proofs.YtnoibcdojfnicaaGreatDoor.PL
open Go.Proofs.YtnoibcdojfnicaaGreatDoorW.Short
open Bool renaming true → Y, false → J
open Go.RowKit Go.Proofs.YtnoibcdojfnicaaGreatDoorW.PrintWords Go.Proofs.YtnoibcdojfnicaaGreatDoorW.PrintLast Go.Proofs.YtnoibcdojfnicaaGreatDoorW.PrintMore
attribute [local go_sem] max2_int min2_int max_two min_two max_three min_three max_four min_four
def errW : Option Int → Value
  | none => .nilIface
  | some c => .iface 0 (.int .i64 c)
theorem errW_none : errW none = .nilIface := rfl
theorem errW_some (c : Int) : errW (some c) = .iface 0 (.int .i64 c) := rfl
theorem info5 : (Tryz.prog.info? 5).map (fun i => (i.zero, i.size, i.bytes)) = some (some (.int .u8 0), 1, 1) := by kernel_rfl
end Go.Proofs.YtnoibcdojfnicaaGreatDoor.PL
namespace Go.Proofs.YtnoibcdojfnicaaGreatDoor.PL
open Go.Proofs.YtnoibcdojfnicaaGreatDoorW.Short
open Bool renaming true → Y, false → J
open Go Go.RowKit Go.Proofs.YtnoibcdojfnicaaGreatDoorW.PrintWords Go.Proofs.YtnoibcdojfnicaaGreatDoorW.PrintMore
def inB (x m : Int) : Bool := decide (-m ≤ x ∧ x ≤ m)
def clamp (x m : Int) : Int := mn (mx x (-m)) m
def sgn (x : Int) : Int := if x > 0 then 1 else if x < 0 then -1 else 0
theorem ri {k : IntKind} {a b : Int} (h : a = b) : Ending.returned (.int k a) = .returned (.int k b) := by rw [h]
theorem rb {a b : Bool} (h : a = b) : Ending.returned (.bool a) = .returned (.bool b) := by rw [h]
theorem in_calls (x m : Int) (w : World) (h0 : 0 ≤ m) (h1 : m ≤ 9223372036854775807) : Calls Tryz.prog 123 #[.int .i64 x, .int .i64 m] w fun e w' => e = .returned (.bool (inB x m)) ∧ w' = w := by
 by_cases c : -m ≤ x
 ·have c1 : decide (x ≥ -m) = true := decide_eq_true c
  go_enter Tryz.func123, Tryz.ntmps123
  go_wp2
  go_ret
  exact ⟨by simp [inB, c], rfl⟩
 ·have c1 : decide (x ≥ -m) = false := decide_eq_false (by omega)
  go_enter Tryz.func123, Tryz.ntmps123
  go_wp2
  go_ret
  exact ⟨by simp [inB]; omega, rfl⟩
attribute [local go_sem] max2_int min2_int max_two min_two
theorem bound_calls (x m : Int) (w : World) (h0 : 0 ≤ m) (h1 : m ≤ 9223372036854775807) : Calls Tryz.prog 122 #[.int .i64 x, .int .i64 m] w fun e w' => e = .returned (.int .i64 (clamp x m)) ∧ w' = w := by
 go_enter Tryz.func122, Tryz.ntmps122
 go_wp2
 all_goals
  go_ret
  exact ⟨ri (by unfold clamp mn mx; (repeat' split) <;> omega), rfl⟩
theorem sign_calls (x : Int) (w : World) : Calls Tryz.prog 124 #[.int .i64 x] w fun e w' => e = .returned (.int .i64 (sgn x)) ∧ w' = w := by
 by_cases c : x > 0
 ·have c1 : decide (x > 0) = true := decide_eq_true c
  go_enter Tryz.func124, Tryz.ntmps124
  go_wp2
  go_ret
  exact ⟨by simp [sgn, c], rfl⟩
 ·by_cases c2 : x < 0
  ·have c1 : decide (x > 0) = false := decide_eq_false c
   have c3 : decide (x < 0) = true := decide_eq_true c2
   go_enter Tryz.func124, Tryz.ntmps124
   go_wp2
   go_ret
   exact ⟨by simp [sgn, c2]; omega, rfl⟩
  ·have c1 : decide (x > 0) = false := decide_eq_false c
   have c3 : decide (x < 0) = false := decide_eq_false c2
   go_enter Tryz.func124, Tryz.ntmps124
   go_wp2
   go_ret
   exact ⟨ri (by unfold sgn; rw [if_neg (by omega), if_neg (by omega)]), rfl⟩
end Go.Proofs.YtnoibcdojfnicaaGreatDoor.PL
namespace Go.Proofs.YtnoibcdojfnicaaGreatDoor.PL
open Go.Proofs.YtnoibcdojfnicaaGreatDoorW.Short
open Bool renaming true → Y, false → J
set_option maxRecDepth 100000
open Go Go.RowKit Go.Proofs.YtnoibcdojfnicaaGreatDoorW.PrintWords Go.Proofs.YtnoibcdojfnicaaGreatDoorW.PrintMore
structure Lms where
 w : Nat → Int
 h : Nat → Int
abbrev Lms.v (l : Lms) : Value := .agg #[.int .i64 (l.w 0), .int .i64 (l.w 1), .int .i64 (l.w 2), .int .i64 (l.w 3), .int .i64 (l.w 4), .int .i64 (l.w 5), .int .i64 (l.w 6), .int .i64 (l.w 7), .int .i64 (l.h 0), .int .i64 (l.h 1), .int .i64 (l.h 2), .int .i64 (l.h 3), .int .i64 (l.h 4), .int .i64 (l.h 5), .int .i64 (l.h 6), .int .i64 (l.h 7)]
def okAt (l : Lms) (k : Nat) : Bool := inB (l.w k) 1048576 && inB (l.h k) 4194304
def lmsMay (l : Lms) : Bool := (List.range 8).all (okAt l)
theorem may_yes {l : Lms} (h : ∀ j, j < 8 → okAt l j = true) : lmsMay l = true := by
 unfold lmsMay; rw [List.all_eq_true]; intro j hj; exact h j (List.mem_range.1 hj)
theorem may_no {l : Lms} {j : Nat} (hj : j < 8) (h : okAt l j = false) : lmsMay l = false := by
 unfold lmsMay; rw [List.all_eq_false]; exact ⟨j, List.mem_range.2 hj, by rw [h]; decide⟩
theorem may_at {l : Lms} (h : lmsMay l = true) {j : Nat} (hj : j < 8) : okAt l j = true := by
 unfold lmsMay at h; rw [List.all_eq_true] at h; exact h j (List.mem_range.2 hj)
theorem bcell {W w1 : World} (hb : Below W.heap.size W w1) : (∀ b o, b < W.heap.size → w1.cell? ⟨b, o, none⟩ = W.cell? ⟨b, o, none⟩) ∧ (∀ b o, b < W.heap.size → w1.frozen? ⟨b, o, none⟩ = W.frozen? ⟨b, o, none⟩) :=
 ⟨fun b o h => hb.cell (p := ⟨b, o, none⟩) h, fun b o h => hb.frozen (p := ⟨b, o, none⟩) h⟩
theorem idx8 (x : Nat → Int) (k : Nat) (hk : k < 8) (W : World) : (Instr.index 59 (.agg #[.int .i64 (x 0), .int .i64 (x 1), .int .i64 (x 2), .int .i64 (x 3), .int .i64 (x 4), .int .i64 (x 5), .int .i64 (x 6), .int .i64 (x 7)]) (.int .i64 (k : Int))).run Tryz.prog W = .ok (.int .i64 (x k)) W := by
 rcases show k = 0 ∨ k = 1 ∨ k = 2 ∨ k = 3 ∨ k = 4 ∨ k = 5 ∨ k = 6 ∨ k = 7 by omega with rfl | rfl | rfl | rfl | rfl | rfl | rfl | rfl <;> rfl
theorem cellH (l : Lms) (W : World) (T : TypeId) (k : Nat) (hk : k < 8) : (W.alloc (.cells #[.int .i64 (l.w 0), .int .i64 (l.w 1), .int .i64 (l.w 2), .int .i64 (l.w 3), .int .i64 (l.w 4), .int .i64 (l.w 5), .int .i64 (l.w 6), .int .i64 (l.w 7), .int .i64 (l.h 0), .int .i64 (l.h 1), .int .i64 (l.h 2), .int .i64 (l.h 3), .int .i64 (l.h 4), .int .i64 (l.h 5), .int .i64 (l.h 6), .int .i64 (l.h 7)] T)).cell? ⟨W.heap.size, 8 + k, none⟩ = some (.int .i64 (l.h k)) := by
 rcases show k = 0 ∨ k = 1 ∨ k = 2 ∨ k = 3 ∨ k = 4 ∨ k = 5 ∨ k = 6 ∨ k = 7 by omega with rfl | rfl | rfl | rfl | rfl | rfl | rfl | rfl <;> simp [World.cell?_alloc_new]
set_option maxHeartbeats 1000000 in
theorem may_calls (l : Lms) (W : World) : Calls Tryz.prog 121 #[l.v] W fun e W' => e = .returned (.bool (lmsMay l)) ∧ Below W.heap.size W W' := by
 go_enter Tryz.func121, Tryz.ntmps121
 go_wp2
 go_loop [7] (fun i => ∃ k : Nat, k ≤ 8 ∧ i = .int .i64 k ∧ ∀ j, j < k → okAt l j = true) (fun i => 8 - (intOf i).toNat)
 case atStart => exact ⟨0, by omega, rfl, fun j hj => by omega⟩
 case round =>
  obtain ⟨k, hk, rfl, hok⟩ := hrel
  have Hok := Lib.hid hok; clear hok
  by_cases hlt : k < 8
  ·have i0 := idx8 l.w k hlt
   have c0 := cellH l W 61 k hlt
   cases c1 : inB (l.w k) 1048576
   ·have hno := Lib.hid (may_no hlt (show okAt l k = false by unfold okAt; rw [c1]; rfl))
    go_wp2_with (go_at_call 123; refine (in_calls _ _ _ (by omega) (by omega)).mono ?_; rintro e w' ⟨rfl, rfl⟩)
    go_ret
    exact ⟨rb hno.out.symm, (Below.refl _ _).alloc (Nat.le_refl _) _⟩
   ·cases c2 : inB (l.h k) 4194304
    ·have hno := Lib.hid (may_no hlt (show okAt l k = false by unfold okAt; rw [c1, c2]; rfl))
     go_wp2_with (go_at_call 123; refine (in_calls _ _ _ (by omega) (by omega)).mono ?_; rintro e w' ⟨rfl, rfl⟩)
     go_ret
     exact ⟨rb hno.out.symm, (Below.refl _ _).alloc (Nat.le_refl _) _⟩
    ·have hyes := Lib.hid (show okAt l k = true by unfold okAt; rw [c1, c2]; rfl)
     go_wp2_with (go_at_call 123; refine (in_calls _ _ _ (by omega) (by omega)).mono ?_; rintro e w' ⟨rfl, rfl⟩)
     go_round
     case rel =>
      refine ⟨k + 1, by omega, by go_num, fun j hj => ?_⟩
      by_cases hjk : j = k
      ·rw [hjk]; exact hyes.out
      ·exact Hok.out j (by omega)
     case measure => simp [intOf]; omega
  ·have hyes := Lib.hid (may_yes (fun j hj => Hok.out j (by omega)))
   go_wp2
   go_ret
   exact ⟨rb hyes.out.symm, (Below.refl _ _).alloc (Nat.le_refl _) _⟩
def dot (w h : Nat → Int) : Nat → Int
 | 0 => 0
 | k + 1 => dot w h k + w k * h k
def lmsGuess (l : Lms) : Int × Int := if lmsMay l = true then (clamp (dot l.w l.h 8 / 4096) 1048576, 0) else (0, 1400)
theorem prod_in {a b : Int} (ha : -1048576 ≤ a) (ha2 : a ≤ 1048576) (hb : -4194304 ≤ b) (hb2 : b ≤ 4194304) : -4398046511104 ≤ a * b ∧ a * b ≤ 4398046511104 := by
 have h1 : a * b ≤ a.natAbs * b.natAbs := by rw [← Int.natCast_mul, ← Int.natAbs_mul]; exact Int.le_natAbs
 have h2 : -(a * b) ≤ a.natAbs * b.natAbs := by rw [← Int.natCast_mul, ← Int.natAbs_mul, ← Int.natAbs_neg]; exact Int.le_natAbs
 have h3 : (a.natAbs : Int) * b.natAbs ≤ 1048576 * 4194304 := Int.mul_le_mul (by omega) (by omega) (by omega) (by omega)
 omega
theorem okAt_in {l : Lms} {k : Nat} (h : okAt l k = true) : (-1048576 ≤ l.w k ∧ l.w k ≤ 1048576) ∧ (-4194304 ≤ l.h k ∧ l.h k ≤ 4194304) := by
 unfold okAt inB at h
 rw [Bool.and_eq_true, decide_eq_true_iff, decide_eq_true_iff] at h
 exact h
theorem dot_in {l : Lms} (h : lmsMay l = true) : ∀ k, k ≤ 8 → -4398046511104 * k ≤ dot l.w l.h k ∧ dot l.w l.h k ≤ 4398046511104 * k := by
 intro k
 induction k with
 | zero => intro _; simp [dot]
 | succ k ih =>
  intro hk
  have a := ih (by omega)
  have o := okAt_in (may_at h (show k < 8 by omega))
  have p := prod_in o.1.1 o.1.2 o.2.1 o.2.2
  simp only [dot]
  omega
set_option maxHeartbeats 1000000 in
theorem guess_calls (l : Lms) (W : World) : Calls Tryz.prog 72 #[l.v] W fun e W' => e = .returned (.tuple #[.int .i64 (lmsGuess l).1, .int .i64 (lmsGuess l).2]) ∧ Below W.heap.size W W' := by
 cases hm : lmsMay l
 ·have hg := Lib.hid (show lmsGuess l = (0, 1400) by unfold lmsGuess; rw [hm]; rfl)
  go_enter Tryz.func72, Tryz.ntmps72
  go_wp2_with fail
  refine (may_calls l _).mono ?_
  rintro e W1 ⟨rfl, hb⟩
  rw [hm]
  go_wp2
  go_ret2
  exact ⟨by rw [hg.out]; rfl, ((Below.refl _ _).alloc (Nat.le_refl _) _).trans (hb.mono (by simp))⟩
 ·have hg := Lib.hid (show lmsGuess l = (clamp (dot l.w l.h 8 / 4096) 1048576, 0) by unfold lmsGuess; rw [hm]; rfl)
  have hd := Lib.hid (dot_in hm)
  have Hm := Lib.hid hm
  go_enter Tryz.func72, Tryz.ntmps72
  go_wp2_with fail
  refine (may_calls l _).mono ?_
  rintro e W1 ⟨rfl, hb⟩
  rw [hm]
  obtain ⟨hc, hf⟩ := bcell hb
  have hB := Lib.hid (((Below.refl W.heap.size W).alloc (Nat.le_refl _) (.cells #[.int .i64 (l.w 0), .int .i64 (l.w 1), .int .i64 (l.w 2), .int .i64 (l.w 3), .int .i64 (l.w 4), .int .i64 (l.w 5), .int .i64 (l.w 6), .int .i64 (l.w 7), .int .i64 (l.h 0), .int .i64 (l.h 1), .int .i64 (l.h 2), .int .i64 (l.h 3), .int .i64 (l.h 4), .int .i64 (l.h 5), .int .i64 (l.h 6), .int .i64 (l.h 7)] 61)).trans (hb.mono (by simp)))
  clear hb hm
  go_wp2
  go_loop [4, 12] (fun t i => ∃ k : Nat, k ≤ 8 ∧ i = .int .i64 k ∧ t = .int .i64 (dot l.w l.h k)) (fun _ i => 8 - (intOf i).toNat)
  case atStart => exact ⟨0, by omega, rfl, rfl⟩
  case round =>
   obtain ⟨k, hk, rfl, rfl⟩ := hrel
   have d1 := (hd.out k hk).1
   have d2 := (hd.out k hk).2
   by_cases hlt : k < 8
   ·have i0 := idx8 l.w k hlt
    have c0 := (hc W.heap.size (8 + k) (by simp)).trans (cellH l W 61 k hlt)
    have o := okAt_in (may_at Hm.out hlt)
    have p1 := (prod_in o.1.1 o.1.2 o.2.1 o.2.2).1
    have p2 := (prod_in o.1.1 o.1.2 o.2.1 o.2.2).2
    have hs := Lib.hid (show dot l.w l.h (k + 1) = dot l.w l.h k + l.w k * l.h k from rfl)
    clear o hc
    go_wp2
    go_round
    case rel => exact ⟨k + 1, by omega, by go_num, by rw [hs.out]⟩
    case measure => simp [intOf]; omega
   ·obtain rfl : k = 8 := by omega
    go_wp2_with (go_at_call 122; refine (bound_calls _ _ _ (by omega) (by omega)).mono ?_; rintro e w' ⟨rfl, rfl⟩)
    go_ret2
    exact ⟨by rw [hg.out]; rfl, hB.out⟩
end Go.Proofs.YtnoibcdojfnicaaGreatDoor.PL
