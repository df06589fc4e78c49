/- 'FoldForms' of chapter 10: numbers beyond the bounds are refused by Put and by Get, the outermost ones are taken. No condition. -/
import Derived.Test.YtjdffodhbejnjaaPFoldFormsx1
import Derived.Test.YtjdffodhbejnjaaNum
namespace Go.Proofs.Ytjdffodhbejnjaa.Pure
open Go.RowKit Go.Proofs.Ytjdffodhbejnjaa.PFoldForms Go.Proofs.YtjdffodhbejnjaaW.PrintWords Go.Proofs.YtjdffodhbejnjaaW.PrintLast

theorem awake_FoldForms : descantlaw10_awake.f 1 = some true := by decide +kernel

theorem put_far {x : Int} (h : x < -16777216 ∨ 16777216 < x) : fold_Put.f x = some (0, 1000) := by
  unfold fold_Put.f fold_Number.f
  by_cases c : x ≥ -16777216
  · rw [if_pos c, show decide (x ≤ 16777216) = false by simp; omega]; rfl
  · rw [if_neg c]; rfl

theorem put_low {x : Int} (h1 : -16777216 ≤ x) (h2 : x < 0) : fold_Put.f x = some (-2 * x - 1, 0) := by
  unfold fold_Put.f fold_Number.f
  rw [if_pos (show x ≥ -16777216 from h1), show decide (x ≤ 16777216) = true by simp; omega]
  simp only [Option.bind_some, if_true]
  rw [if_pos h2, Num.w64 (n := -2 * x) (by omega) (by omega), Num.w64 (by omega) (by omega)]

theorem put_high {x : Int} (h1 : 0 ≤ x) (h2 : x ≤ 16777216) : fold_Put.f x = some (2 * x, 0) := by
  unfold fold_Put.f fold_Number.f
  rw [if_pos (show x ≥ -16777216 by omega), show decide (x ≤ 16777216) = true by simp; omega]
  simp only [Option.bind_some, if_true]
  rw [if_neg (by omega), Num.w64 (by omega) (by omega)]

theorem get_far {k : Nat} {u : Int} (h : u < 0 ∨ 33554432 < u) : fold_Get.f (k + 1) u = some (0, 1000) := by
  unfold fold_Get.f
  by_cases c : u < 0
  · rw [if_pos c]; rfl
  · rw [if_neg c, show decide (u > 33554432) = true by simp; omega]; rfl

theorem get_odd {k : Nat} {u : Int} (h1 : 0 ≤ u) (h2 : u ≤ 33554432) (h : u % 2 = 1) : fold_Get.f (k + 1) u = some (-(u / 2) - 1, 0) := by
  unfold fold_Get.f
  rw [if_neg (by omega), show decide (u > 33554432) = false by simp; omega]
  simp only [fold_Get.j0]
  rw [if_neg (by decide), Int.tmod_eq_emod_of_nonneg h1, if_pos h, Int.tdiv_eq_ediv_of_nonneg h1, Num.w64 (n := u / 2) (by omega) (by omega), Num.w64 (n := -(u / 2)) (by omega) (by omega), Num.w64 (by omega) (by omega)]

theorem get_even {k : Nat} {u : Int} (h1 : 0 ≤ u) (h2 : u ≤ 33554432) (h : u % 2 = 0) : fold_Get.f (k + 1) u = some (u / 2, 0) := by
  unfold fold_Get.f
  rw [if_neg (by omega), show decide (u > 33554432) = false by simp; omega]
  simp only [fold_Get.j0]
  rw [if_neg (by decide), Int.tmod_eq_emod_of_nonneg h1, if_neg (by omega), Int.tdiv_eq_ediv_of_nonneg h1, Num.w64 (n := u / 2) (by omega) (by omega)]

theorem FoldForms : descantlaw10_FoldForms.Pure := by
  intro x _
  refine ⟨0 + 1, ?_⟩
  unfold descantlaw10_FoldForms.f
  rw [awake_FoldForms, Num.and_mask x 1048575 20 (by decide) (by decide)]
  obtain ⟨m, hm⟩ : ∃ m, m = x % 2 ^ 20 := ⟨_, rfl⟩
  have h1 := Int.emod_nonneg x (show (2 : Int) ^ 20 ≠ 0 by decide)
  have h2 := Int.emod_lt_of_pos x (show (0 : Int) < 2 ^ 20 by decide)
  rw [← hm] at h1 h2 ⊢
  replace h2 : m < 1048576 := h2
  simp only [Option.bind_some, if_true]
  rw [Num.w64 (n := 1 + m) (by omega) (by omega), Num.w64 (n := 16777216 + (1 + m)) (by omega) (by omega), Num.w64 (n := -16777216 - (1 + m)) (by omega) (by omega), Num.w64 (n := -(1 + m)) (by omega) (by omega), Num.w64 (n := 33554432 + (1 + m)) (by omega) (by omega)]
  rw [put_far (by omega), put_far (by omega), get_far (by omega), get_far (by omega), put_low (by omega) (by omega), get_even (by omega) (by omega) (by decide)]
  simp [descantlaw0_Num.f]

end Go.Proofs.Ytjdffodhbejnjaa.Pure
