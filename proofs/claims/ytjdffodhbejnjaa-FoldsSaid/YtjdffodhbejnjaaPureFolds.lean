/- 'Folds' of chapter 10 (any numbers): the program's Put and Get answer as the document's own, and what one gives the other takes back. No condition. -/
import Derived.Test.YtjdffodhbejnjaaPFoldsx1
import Derived.Test.YtjdffodhbejnjaaNum
namespace Go.Proofs.Ytjdffodhbejnjaa.Pure
open Go.RowKit Go.Proofs.Ytjdffodhbejnjaa.PFolds Go.Proofs.YtjdffodhbejnjaaW.PrintWords Go.Proofs.YtjdffodhbejnjaaW.PrintLast

theorem awake_Folds : descantlaw10_awake.f 1 = some true := by decide +kernel

theorem put_far {x : Int} (h : x < -16777216 ∨ 16777216 < x) : fold_Put.f x = some (0, 1000) := by
  unfold fold_Put.f fold_Number.f
  by_cases c : x ≥ -16777216
  · rw [if_pos c, show decide (x ≤ 16777216) = false by simp; omega]; rfl
  · rw [if_neg c]; rfl

theorem put_low {x : Int} (h1 : -16777216 ≤ x) (h2 : x < 0) : fold_Put.f x = some (-2 * x - 1, 0) := by
  unfold fold_Put.f fold_Number.f
  rw [if_pos (show x ≥ -16777216 from h1), show decide (x ≤ 16777216) = true by simp; omega]
  simp only [Option.bind_some, if_true]
  rw [if_pos h2, Num.w64 (n := -2 * x) (by omega) (by omega), Num.w64 (by omega) (by omega)]

theorem put_high {x : Int} (h1 : 0 ≤ x) (h2 : x ≤ 16777216) : fold_Put.f x = some (2 * x, 0) := by
  unfold fold_Put.f fold_Number.f
  rw [if_pos (show x ≥ -16777216 by omega), show decide (x ≤ 16777216) = true by simp; omega]
  simp only [Option.bind_some, if_true]
  rw [if_neg (by omega), Num.w64 (by omega) (by omega)]

theorem fold_same (x : Int) : descantref1_Fold.f x = fold_Put.f x := rfl

theorem get_far {k : Nat} {u : Int} (h : u < 0 ∨ 33554432 < u) : fold_Get.f (k + 1) u = some (0, 1000) := by
  unfold fold_Get.f
  by_cases c : u < 0
  · rw [if_pos c]; rfl
  · rw [if_neg c, show decide (u > 33554432) = true by simp; omega]; rfl

theorem get_odd {k : Nat} {u : Int} (h1 : 0 ≤ u) (h2 : u ≤ 33554432) (h : u % 2 = 1) : fold_Get.f (k + 1) u = some (-(u / 2) - 1, 0) := by
  unfold fold_Get.f
  rw [if_neg (by omega), show decide (u > 33554432) = false by simp; omega]
  simp only [fold_Get.j0]
  rw [if_neg (by decide), Int.tmod_eq_emod_of_nonneg h1, if_pos h, Int.tdiv_eq_ediv_of_nonneg h1, Num.w64 (n := u / 2) (by omega) (by omega), Num.w64 (n := -(u / 2)) (by omega) (by omega), Num.w64 (by omega) (by omega)]

theorem get_even {k : Nat} {u : Int} (h1 : 0 ≤ u) (h2 : u ≤ 33554432) (h : u % 2 = 0) : fold_Get.f (k + 1) u = some (u / 2, 0) := by
  unfold fold_Get.f
  rw [if_neg (by omega), show decide (u > 33554432) = false by simp; omega]
  simp only [fold_Get.j0]
  rw [if_neg (by decide), Int.tmod_eq_emod_of_nonneg h1, if_neg (by omega), Int.tdiv_eq_ediv_of_nonneg h1, Num.w64 (n := u / 2) (by omega) (by omega)]

theorem unfold_far {u : Int} (h : u < 0 ∨ 33554432 < u) : descantref1_Unfold.f u = some (0, 1000) := by
  unfold descantref1_Unfold.f descantref1_upTo.f
  by_cases c : u ≥ 0
  · rw [if_pos c, show decide (u ≤ 33554432) = false by simp; omega]; rfl
  · rw [if_neg c]; rfl

theorem mask1 (u : Int) : Go.bits .and .i64 u 1 = u % 2 := Num.and_mask u 1 1 (by decide) (by decide)

theorem unfold_odd {u : Int} (h1 : 0 ≤ u) (h2 : u ≤ 33554432) (h : u % 2 = 1) : descantref1_Unfold.f u = some (-(u / 2) - 1, 0) := by
  unfold descantref1_Unfold.f descantref1_upTo.f
  rw [if_pos (show u ≥ 0 from h1), show decide (u ≤ 33554432) = true by simp; omega]
  simp only [Option.bind_some, if_true]
  rw [mask1, if_pos h, Num.w64 (n := u + 1) (by omega) (by omega), Num.w64 (n := -(u + 1)) (by omega) (by omega), Int.neg_tdiv, Int.tdiv_eq_ediv_of_nonneg (by omega), Num.w64 (by omega) (by omega)]
  congr 2; omega

theorem unfold_even {u : Int} (h1 : 0 ≤ u) (h2 : u ≤ 33554432) (h : u % 2 = 0) : descantref1_Unfold.f u = some (u / 2, 0) := by
  unfold descantref1_Unfold.f descantref1_upTo.f
  rw [if_pos (show u ≥ 0 from h1), show decide (u ≤ 33554432) = true by simp; omega]
  simp only [Option.bind_some, if_true]
  rw [mask1, if_neg (by omega), Int.tdiv_eq_ediv_of_nonneg h1, Num.w64 (n := u / 2) (by omega) (by omega)]

theorem unfold_same (k : Nat) (u : Int) : descantref1_Unfold.f u = fold_Get.f (k + 1) u := by
  by_cases h : u < 0 ∨ 33554432 < u
  · rw [unfold_far h, get_far h]
  · by_cases e : u % 2 = 0
    · rw [unfold_even (by omega) (by omega) e, get_even (by omega) (by omega) e]
    · rw [unfold_odd (by omega) (by omega) (by omega), get_odd (by omega) (by omega) (by omega)]

/-- What one number comes to: its fold, and that it comes back. -/
theorem put_tells (k : Nat) (x : Int) : ∃ a e, fold_Put.f x = some (a, e) ∧ (e = 0 ∨ e = 1000) ∧ ∃ y i, fold_Get.f (k + 1) a = some (y, i) ∧ (e = 0 → i = 0 ∧ y = x) := by
  by_cases h : x < -16777216 ∨ 16777216 < x
  · exact ⟨0, 1000, put_far h, Or.inr rfl, 0, 0, get_even (k := k) (by omega) (by omega) (by omega), fun h => by omega⟩
  · by_cases h0 : x < 0
    · refine ⟨_, 0, put_low (by omega) h0, Or.inl rfl, _, 0, get_odd (k := k) (by omega) (by omega) (by omega), fun _ => ⟨rfl, by omega⟩⟩
    · refine ⟨_, 0, put_high (by omega) (by omega), Or.inl rfl, _, 0, get_even (k := k) (by omega) (by omega) (by omega), fun _ => ⟨rfl, by omega⟩⟩

theorem get_tells (k : Nat) (u : Int) : ∃ c g, fold_Get.f (k + 1) u = some (c, g) ∧ (g = 0 ∨ g = 1000) ∧ ∃ z j, fold_Put.f c = some (z, j) ∧ (g = 0 → j = 0 ∧ z = u) := by
  by_cases h : u < 0 ∨ 33554432 < u
  · exact ⟨0, 1000, get_far h, Or.inr rfl, 0, 0, by decide +kernel, fun h => by omega⟩
  · by_cases e : u % 2 = 0
    · refine ⟨_, 0, get_even (k := k) (by omega) (by omega) e, Or.inl rfl, _, 0, put_high (by omega) (by omega), fun _ => ⟨rfl, by omega⟩⟩
    · refine ⟨_, 0, get_odd (k := k) (by omega) (by omega) (by omega), Or.inl rfl, _, 0, put_low (by omega) (by omega), fun _ => ⟨rfl, by omega⟩⟩

theorem Folds : descantlaw10_Folds.Pure := by
  intro x u _ _
  obtain ⟨a, e, ha, he, y, i, hy, hyi⟩ := put_tells 0 x
  obtain ⟨c, g, hc, hg, z, j, hz, hzj⟩ := get_tells 1 u
  refine ⟨1 + 1, ?_⟩
  unfold descantlaw10_Folds.f
  rw [fold_same, unfold_same 1, ha, hc]
  simp only [Option.bind_some, if_true, descantlaw0_Num.f, bne_self_eq_false]
  simp only [descantlaw10_Folds.j0]
  rw [if_neg (by decide), hy, hz]
  simp only [Option.bind_some, descantlaw0_Num.f, awake_Folds]
  rcases he with rfl | rfl
  · obtain ⟨rfl, rfl⟩ := hyi rfl
    rcases hg with rfl | rfl
    · obtain ⟨rfl, rfl⟩ := hzj rfl
      simp
    · simp
  · rcases hg with rfl | rfl
    · obtain ⟨rfl, rfl⟩ := hzj rfl
      simp
    · simp

end Go.Proofs.Ytjdffodhbejnjaa.Pure
