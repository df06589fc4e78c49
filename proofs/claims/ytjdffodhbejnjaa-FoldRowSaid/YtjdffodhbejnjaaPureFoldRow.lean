/- 'FoldRow' of chapter 10: numbers of lesser size fold to lesser ones, unlike ones to unlike ones, those from 0 on to even ones. No condition. -/
import Derived.Test.YtjdffodhbejnjaaPFoldRowx1
import Derived.Test.YtjdffodhbejnjaaNum
namespace Go.Proofs.Ytjdffodhbejnjaa.Pure
open Go.RowKit Go.Proofs.Ytjdffodhbejnjaa.PFoldRow Go.Proofs.YtjdffodhbejnjaaW.PrintWords Go.Proofs.YtjdffodhbejnjaaW.PrintLast

theorem awake_FoldRow : descantlaw10_awake.f 1 = some true := by decide +kernel

theorem put_far {x : Int} (h : x < -16777216 ∨ 16777216 < x) : fold_Put.f x = some (0, 1000) := by
  unfold fold_Put.f fold_Number.f
  by_cases c : x ≥ -16777216
  · rw [if_pos c, show decide (x ≤ 16777216) = false by simp; omega]; rfl
  · rw [if_neg c]; rfl

theorem put_low {x : Int} (h1 : -16777216 ≤ x) (h2 : x < 0) : fold_Put.f x = some (-2 * x - 1, 0) := by
  unfold fold_Put.f fold_Number.f
  rw [if_pos (show x ≥ -16777216 from h1), show decide (x ≤ 16777216) = true by simp; omega]
  simp only [Option.bind_some, if_true]
  rw [if_pos h2, Num.w64 (n := -2 * x) (by omega) (by omega), Num.w64 (by omega) (by omega)]

theorem put_high {x : Int} (h1 : 0 ≤ x) (h2 : x ≤ 16777216) : fold_Put.f x = some (2 * x, 0) := by
  unfold fold_Put.f fold_Number.f
  rw [if_pos (show x ≥ -16777216 by omega), show decide (x ≤ 16777216) = true by simp; omega]
  simp only [Option.bind_some, if_true]
  rw [if_neg (by omega), Num.w64 (by omega) (by omega)]

theorem mxabs {a : Int} (h1 : -32768 ≤ a) (h2 : a ≤ 32767) : ∃ s, mx a (wrap64 (-a)) = s ∧ (0 ≤ a → s = a) ∧ (a < 0 → s = -a) := by
  rw [Num.w64 (by omega) (by omega)]
  refine ⟨_, rfl, ?_, ?_⟩ <;> · unfold mx; split <;> omega

theorem put_all {a : Int} (h1 : -32768 ≤ a) (h2 : a ≤ 32767) : ∃ p, fold_Put.f a = some (p, 0) ∧ 0 ≤ p ∧ p ≤ 65536 ∧ (0 ≤ a → p = 2 * a) ∧ (a < 0 → p = -2 * a - 1) := by
  by_cases h : a < 0
  · exact ⟨_, put_low (by omega) h, by omega, by omega, fun _ => by omega, fun _ => rfl⟩
  · exact ⟨_, put_high (by omega) (by omega), by omega, by omega, fun _ => rfl, fun _ => by omega⟩

theorem FoldRow : descantlaw10_FoldRow.Pure := by
  intro x y _ _
  refine ⟨0 + 1, ?_⟩
  unfold descantlaw10_FoldRow.f
  rw [awake_FoldRow, Num.and_mask x 65535 16 (by decide) (by decide), Num.and_mask y 65535 16 (by decide) (by decide)]
  have h1 := Int.emod_nonneg x (show (2 : Int) ^ 16 ≠ 0 by decide)
  have h2 := Int.emod_lt_of_pos x (show (0 : Int) < 2 ^ 16 by decide)
  have h3 := Int.emod_nonneg y (show (2 : Int) ^ 16 ≠ 0 by decide)
  have h4 := Int.emod_lt_of_pos y (show (0 : Int) < 2 ^ 16 by decide)
  obtain ⟨a, ha⟩ : ∃ a, a = x % 2 ^ 16 - 32768 := ⟨_, rfl⟩
  obtain ⟨b, hb⟩ : ∃ b, b = y % 2 ^ 16 - 32768 := ⟨_, rfl⟩
  rw [← ha, ← hb]
  replace h2 : x % 2 ^ 16 < 65536 := h2
  replace h4 : y % 2 ^ 16 < 65536 := h4
  have a1 : -32768 ≤ a := by omega
  have a2 : a ≤ 32767 := by omega
  have b1 : -32768 ≤ b := by omega
  have b2 : b ≤ 32767 := by omega
  clear ha hb h1 h2 h3 h4
  simp only [Option.bind_some, if_true]
  rw [Num.w64 (n := a) (by omega) (by omega), Num.w64 (n := b) (by omega) (by omega)]
  obtain ⟨p, hp, p0, p1, p2, p3⟩ := put_all a1 a2
  obtain ⟨q, hq, q0, q1, q2, q3⟩ := put_all b1 b2
  obtain ⟨s, hs, s1, s2⟩ := mxabs a1 a2
  obtain ⟨t, ht, t1, t2⟩ := mxabs b1 b2
  rw [hp, hq]
  simp only [Option.bind_some, descantlaw0_Num.f, if_true]
  rw [hs, ht, Num.and_mask p 1 1 (by decide) (by decide)]
  have e1 : ((p == q) == (a == b)) = true := by
    rw [beq_iff_eq, Bool.eq_iff_iff, beq_iff_eq, beq_iff_eq]
    by_cases ca : a < 0 <;> by_cases cb : b < 0 <;> omega
  have e2 : ((p % 2 ^ 1 == 0) == (decide (a ≥ 0))) = true := by
    rw [beq_iff_eq, Bool.eq_iff_iff, beq_iff_eq, decide_eq_true_iff]
    by_cases ca : a < 0 <;> omega
  rw [e1, if_pos rfl]
  by_cases c : s ≥ t
  · rw [if_pos c, e2]
  · rw [if_neg c, if_pos (by by_cases ca : a < 0 <;> by_cases cb : b < 0 <;> omega), e2]

end Go.Proofs.Ytjdffodhbejnjaa.Pure
