/- 'SideForms' of chapter 17: channels that may not be. No condition. -/
import Derived.Test.YthiknekmgjnkdaaPSidex4
import Derived.Test.YthiknekmgjnkdaaNum
namespace Go.Proofs.Ythiknekmgjnkdaa.Pure
open Go.RowKit Go.Proofs.Ythiknekmgjnkdaa.PSide Go.Proofs.YthiknekmgjnkdaaW.PrintWords Go.Proofs.YthiknekmgjnkdaaW.PrintLast
set_option linter.unusedVariables false
set_option linter.unusedSimpArgs false
open Go.Proofs.Ythiknekmgjnkdaa.PAll (mayL allS inS)

theorem awake17 (k : Nat) : descantlaw17_awake.f (k + 60) = some true := by
  have h : descantlaw17_awake.f 60 = some true := by decide +kernel
  induction k with
  | zero => exact h
  | succ k ih => exact (descantlaw17_awake.mono _ _ ih)
theorem may_is {chs : List (List Int)} (h1 : chs.length ≤ 100) (h2 : ∀ xs ∈ chs, xs.length ≤ 100) : side_May.f chs = some (mayL chs) := by
  unfold side_May.f
  rw [if_pos ⟨by omega, List.all_eq_true.2 (fun xs hx => decide_eq_true (by have := h2 xs hx; omega))⟩]
theorem turn_bad {chs : List (List Int)} (k : Nat) (w : Int) (h : side_May.f chs = some false) : side_turn.f k chs w = some ([], 1700) := by
  unfold side_turn.f; rw [h]; rfl
theorem l1_one (k : Nat) (x0 : List (List Int)) (w : Int) (out : List (List Int)) (kk e : Int) (rows : List (List Int)) (n i : Int) (h0 : 0 < (x0.length : Int)) (h1 : 0 < ((rd_L1 x0 0).length : Int)) (ho : out.length < 100) :
    side_turn.l1 (k + 2) x0 w out kk [e] rows n i 1 0 = side_turn.l0 k x0 w (out ++ [[wrap64 (e + wrap64 (wrap64 (kk * w) * rd (rd_L1 x0 0) 0))]]) rows n (wrap64 (i + 1)) := by
  obtain ⟨m, hm⟩ : ∃ m, m = k + 1 := ⟨_, rfl⟩
  rw [show k + 2 = m + 1 by omega]
  simp only [side_turn.l1]
  rw [if_pos (by decide), if_pos (by decide), if_pos (by simp), if_pos h0, if_pos h1, show wrap64 (0 + 1) = 1 from by decide +kernel, hm]
  simp only [side_turn.l1]
  rw [if_neg (by decide), if_pos (by omega)]
  rfl
theorem turn_two (k : Nat) (x y w : Int) (hm : mayL [[x], [y]] = true) (ho : mayL [[wrap64 (x + wrap64 (wrap64 (0 * w) * x))], [wrap64 (y + wrap64 (wrap64 (1 * w) * x))]] = false) : side_turn.f (k + 8) [[x], [y]] w = some ([], 1700) := by
  have c1 : ∀ e : Int, slices_Clone_int_int.f [e] = some [e] := fun e => by unfold slices_Clone_int_int.f; rw [if_pos (by simp)]
  unfold side_turn.f
  rw [may_is (by simp) (by intro xs hx; simp at hx; rcases hx with rfl | rfl <;> simp), hm, Option.bind_some, if_pos rfl]
  rw [show k + 8 = (k + 5 + 2) + 1 by omega]
  simp only [side_turn.l0]
  rw [if_pos (by simp), if_pos (by decide), if_pos (by simp), show rd_L1 [[x], [y]] 0 = [x] from rfl, c1, Option.bind_some, show (([x].length : Nat) : Int) = 1 from rfl, l1_one (k + 5) _ _ _ _ _ _ _ _ (by simp) (by rw [show rd_L1 [[x], [y]] 0 = [x] from rfl]; simp) (by simp), show wrap64 (0 + 1) = 1 from by decide +kernel, show k + 5 = (k + 2 + 2) + 1 by omega]
  simp only [side_turn.l0]
  rw [if_pos (by simp), if_pos (by decide), if_pos (by simp), show rd_L1 [[x], [y]] 1 = [y] from rfl, c1, Option.bind_some, show (([y].length : Nat) : Int) = 1 from rfl, l1_one (k + 2) _ _ _ _ _ _ _ _ (by simp) (by rw [show rd_L1 [[x], [y]] 0 = [x] from rfl]; simp) (by simp), show wrap64 (1 + 1) = 2 from by decide +kernel, show k + 2 = (k + 1) + 1 by omega]
  simp only [side_turn.l0]
  rw [if_neg (by simp), show rd_L1 [[x], [y]] 0 = [x] from rfl, show rd [x] 0 = x from rfl, List.nil_append, List.singleton_append, may_is (by simp) (by intro xs hx; simp at hx; rcases hx with rfl | rfl <;> simp), ho]
  rfl
theorem two_ok {x y : Int} (hx : -131072 ≤ x ∧ x ≤ 131072) (hy : -131072 ≤ y ∧ y ≤ 131072) : mayL [[x], [y]] = true := by
  simp [mayL, allS, inS]; omega
theorem two_no {x y : Int} (hy : y < -131072 ∨ 131072 < y) : mayL [[x], [y]] = false := by
  simp [mayL, allS, inS]; omega
theorem one_no {y : Int} (hy : y < -131072 ∨ 131072 < y) : mayL [[y]] = false := by
  simp [mayL, allS, inS]; omega
theorem SideForms : descantlaw17_SideForms.Pure := by
  intro a0 a1 w0 w1
  refine ⟨60, ?_⟩
  have hx : Go.bits .and .i64 a1 1023 = a1 % 1024 := Num.and_mask a1 1023 10 (by omega) (by rfl)
  obtain ⟨d, hd⟩ : ∃ d, d = 1 + a1 % 1024 := ⟨_, rfl⟩
  have d1 : 1 ≤ d ∧ d ≤ 1024 := by omega
  obtain ⟨t, ht, t0, t1⟩ := Num.umod a0 6 (by omega) (by omega)
  unfold descantlaw17_SideForms.f
  rw [show 60 = 0 + 60 from rfl, awake17, Option.bind_some, if_pos rfl, Option.bind_some, hx, Num.w64 (n := 1 + a1 % 1024) (by omega) (by omega), ← hd, Num.w64 (n := 131072 + d) (by omega) (by omega), Num.w64 (n := -131072 - d) (by omega) (by omega), Num.w64 (n := -d) (by omega) (by omega), ht, if_pos t0, if_pos (by simpa using t1)]
  obtain ⟨b, hb⟩ : ∃ b, b = rd_L2 [[], [[1], [2], [3]], [[1], [2, 3]], [[1], []], [[131072 + d]], [[1], [-131072 - d]]] t := ⟨_, rfl⟩
  have hbad : side_May.f b = some false := by
    rcases show t = 0 ∨ t = 1 ∨ t = 2 ∨ t = 3 ∨ t = 4 ∨ t = 5 by omega with rfl | rfl | rfl | rfl | rfl | rfl
    · rw [hb]; rfl
    · rw [hb]; rfl
    · rw [hb]; rfl
    · rw [hb]; rfl
    · rw [hb, show rd_L2 [[], [[1], [2], [3]], [[1], [2, 3]], [[1], []], [[131072 + d]], [[1], [-131072 - d]]] 4 = [[131072 + d]] from rfl, may_is (by simp) (by simp), one_no (by omega)]
    · rw [hb, show rd_L2 [[], [[1], [2], [3]], [[1], [2, 3]], [[1], []], [[131072 + d]], [[1], [-131072 - d]]] 5 = [[1], [-131072 - d]] from rfl, may_is (by simp) (by simp), two_no (by omega)]
  have e3 : side_turn.f (0 + 60) [[-d], [131072]] (-1) = some ([], 1700) := turn_two 52 (-d) 131072 (-1) (two_ok (by omega) (by omega)) (two_no (by
    right
    rw [show wrap64 (1 * -1) = -1 from by decide +kernel, Num.w64 (n := -1 * -d) (by omega) (by omega), Num.w64 (by omega) (by omega)]; omega))
  have e4 : side_turn.f (0 + 60) [[d], [131072]] 1 = some ([], 1700) := turn_two 52 d 131072 1 (two_ok (by omega) (by omega)) (two_no (by
    right
    rw [show wrap64 (1 * 1) = 1 from by decide +kernel, Num.w64 (n := 1 * d) (by omega) (by omega), Num.w64 (by omega) (by omega)]; omega))
  rw [← hb]
  unfold side_Put.f side_Get.f
  rw [turn_bad _ _ hbad, turn_bad _ _ hbad, e3, e4]
  rfl
end Go.Proofs.Ythiknekmgjnkdaa.Pure
