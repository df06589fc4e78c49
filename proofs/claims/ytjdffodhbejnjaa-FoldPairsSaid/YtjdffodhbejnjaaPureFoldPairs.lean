/- 'FoldPairs' of chapter 10: a number and its opposite fold to neighbours. No condition. -/
import Derived.Test.YtjdffodhbejnjaaPFoldPairsx1
import Derived.Test.YtjdffodhbejnjaaNum
namespace Go.Proofs.Ytjdffodhbejnjaa.Pure
open Go.RowKit Go.Proofs.Ytjdffodhbejnjaa.PFoldPairs Go.Proofs.YtjdffodhbejnjaaW.PrintWords Go.Proofs.YtjdffodhbejnjaaW.PrintLast

theorem awake_FoldPairs : descantlaw10_awake.f 1 = some true := by decide +kernel

theorem put_far {x : Int} (h : x < -16777216 ∨ 16777216 < x) : fold_Put.f x = some (0, 1000) := by
  unfold fold_Put.f fold_Number.f
  by_cases c : x ≥ -16777216
  · rw [if_pos c, show decide (x ≤ 16777216) = false by simp; omega]; rfl
  · rw [if_neg c]; rfl

theorem put_low {x : Int} (h1 : -16777216 ≤ x) (h2 : x < 0) : fold_Put.f x = some (-2 * x - 1, 0) := by
  unfold fold_Put.f fold_Number.f
  rw [if_pos (show x ≥ -16777216 from h1), show decide (x ≤ 16777216) = true by simp; omega]
  simp only [Option.bind_some, if_true]
  rw [if_pos h2, Num.w64 (n := -2 * x) (by omega) (by omega), Num.w64 (by omega) (by omega)]

theorem put_high {x : Int} (h1 : 0 ≤ x) (h2 : x ≤ 16777216) : fold_Put.f x = some (2 * x, 0) := by
  unfold fold_Put.f fold_Number.f
  rw [if_pos (show x ≥ -16777216 by omega), show decide (x ≤ 16777216) = true by simp; omega]
  simp only [Option.bind_some, if_true]
  rw [if_neg (by omega), Num.w64 (by omega) (by omega)]

theorem FoldPairs : descantlaw10_FoldPairs.Pure := by
  intro x _
  refine ⟨0 + 1, ?_⟩
  unfold descantlaw10_FoldPairs.f
  rw [awake_FoldPairs, Num.and_mask x 1048575 20 (by decide) (by decide)]
  obtain ⟨m, hm⟩ : ∃ m, m = x % 2 ^ 20 := ⟨_, rfl⟩
  have h1 := Int.emod_nonneg x (show (2 : Int) ^ 20 ≠ 0 by decide)
  have h2 := Int.emod_lt_of_pos x (show (0 : Int) < 2 ^ 20 by decide)
  rw [← hm] at h1 h2 ⊢
  replace h2 : m < 1048576 := h2
  simp only [Option.bind_some, if_true]
  rw [Num.w64 (n := 1 + m) (by omega) (by omega), Num.w64 (n := -(1 + m)) (by omega) (by omega), put_high (by omega) (by omega), put_low (by omega) (by omega), put_high (by omega) (by omega)]
  simp only [Option.bind_some, descantlaw0_Num.f, if_true]
  rw [Num.w64 (n := 2 * (1 + m)) (by omega) (by omega), if_pos rfl, Num.w64 (n := 2 * (1 + m) - 1) (by omega) (by omega), if_pos (by omega)]
  rfl

end Go.Proofs.Ytjdffodhbejnjaa.Pure
