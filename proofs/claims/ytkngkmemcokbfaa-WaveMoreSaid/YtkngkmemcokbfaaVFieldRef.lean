/- Numbers in bytes (layer 1): the document's own Put and Get come to the same. -/
import Derived.Test.YtkngkmemcokbfaaPWvx9
import Derived.Test.YtkngkmemcokbfaaPWvx9
import Derived.Test.YtkngkmemcokbfaaVField0
namespace Go.Proofs.Ytkngkmemcokbfaa.PWv
open Go Go.RowKit Go.Proofs.YtkngkmemcokbfaaW.PrintWords Go.Proofs.YtkngkmemcokbfaaW.PrintMore
set_option linter.unusedVariables false
set_option linter.unusedSimpArgs false

theorem upTo_eq (x a b : Int) : descantref1_upTo.f x a b = some (decide (a ≤ x ∧ x ≤ b)) := by
  unfold descantref1_upTo.f
  by_cases c : x ≥ a
  · rw [if_pos c]; congr 1; rw [decide_eq_decide]; omega
  · rw [if_neg c]; congr 1; symm; rw [decide_eq_false_iff_not]; omega

theorem ref_low {k : Nat} {x m : Int} (h1 : 1 ≤ m) (h4 : m ≤ 4) : descantref1_Low.f (k + 6) x m = some (strOfNums (low m.toNat x)) := by
  unfold descantref1_Low.f
  rw [if_pos (by omega), if_pos (by omega)]
  have s0 : shr .i64 x 0 = x := by
    have := shr_at x 0 (by decide); rw [show (0 : Int) = ((0 : Nat) : Int) from rfl, this]; omega
  have s1 : shr .i64 x 8 = x / 256 := shr_at x 8 (by decide)
  have s2 : shr .i64 x 16 = x / 65536 := shr_at x 16 (by decide)
  have s3 : shr .i64 x 24 = x / 16777216 := shr_at x 24 (by decide)
  rcases show m = 1 ∨ m = 2 ∨ m = 3 ∨ m = 4 by omega with rfl | rfl | rfl | rfl
  · simp [descantref1_Low.l0, s0, wrap64, low, List.replicate]
  · simp [descantref1_Low.l0, s0, s1, wrap64, low, List.replicate]
  · simp [descantref1_Low.l0, s0, s1, s2, wrap64, low, List.replicate]
    rw [show x / 256 / 256 = x / 65536 by omega]
  · simp [descantref1_Low.l0, s0, s1, s2, s3, wrap64, low, List.replicate]
    rw [show x / 256 / 256 = x / 65536 by omega, show x / 65536 / 256 = x / 16777216 by omega]

end Go.Proofs.Ytkngkmemcokbfaa.PWv
