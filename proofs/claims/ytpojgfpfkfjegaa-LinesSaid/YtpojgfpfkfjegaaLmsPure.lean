/- Layer 14: what learning does, in plain words: no program in sight. -/
import Derived.Test.YtpojgfpfkfjegaaLmsV
namespace Go.Proofs.Ytpojgfpfkfjegaa.PAll
open Go Go.RowKit Go.Proofs.YtpojgfpfkfjegaaW.PrintWords Go.Proofs.YtpojgfpfkfjegaaW.PrintMore Go.Proofs.YtpojgfpfkfjegaaW.PrintLast
set_option linter.unusedVariables false
set_option linter.unusedSimpArgs false
theorem clamp_in (x : Int) {m : Int} (h : 0 ≤ m) : -m ≤ clamp x m ∧ clamp x m ≤ m := by
  unfold clamp mn mx; (repeat' split) <;> omega
theorem sgn_in (x : Int) : sgn x = -1 ∨ sgn x = 0 ∨ sgn x = 1 := by unfold sgn; (repeat' split) <;> simp
theorem learn_yes_eq {l : Lms} {x : Int} (hm : lmsMay l = true) (hx : inB x 4194304 = true) : lmsLearn l x = (⟨newW l x, fun j => if j = 0 then x else l.h (j - 1)⟩, 0) := by unfold lmsLearn; rw [hm, hx]; rfl
theorem learn_no_eq {l : Lms} {x : Int} (h : ¬ (lmsMay l = true ∧ inB x 4194304 = true)) : lmsLearn l x = (lmsZero, 1400) := by unfold lmsLearn; rw [if_neg h]
theorem inB_iff {x m : Int} : inB x m = true ↔ -m ≤ x ∧ x ≤ m := by unfold inB; exact decide_eq_true_iff
theorem learn_may {l : Lms} {x : Int} (hm : lmsMay l = true) (hx : inB x 4194304 = true) : lmsMay (lmsLearn l x).1 = true := by
  rw [learn_yes_eq hm hx]
  refine may_yes (fun j hj => ?_)
  unfold okAt
  rw [Bool.and_eq_true, inB_iff, inB_iff]
  refine ⟨clamp_in _ (by omega), ?_⟩
  show -4194304 ≤ (if j = 0 then x else l.h (j - 1)) ∧ (if j = 0 then x else l.h (j - 1)) ≤ 4194304
  split
  · exact inB_iff.1 hx
  · exact (okAt_in (may_at hm (show j - 1 < 8 by omega))).2
theorem learn_h {l : Lms} {x : Int} (hm : lmsMay l = true) (hx : -4194304 ≤ x ∧ x ≤ 4194304) (j : Nat) : (lmsLearn l x).1.h j = if j = 0 then x else l.h (j - 1) := by
  rw [learn_yes_eq hm (inB_iff.2 hx)]
theorem learn_0 {l : Lms} {x : Int} (hm : lmsMay l = true) (hx : -4194304 ≤ x ∧ x ≤ 4194304) : (lmsLearn l x).2 = 0 := by
  rw [learn_yes_eq hm (inB_iff.2 hx)]
theorem may_zero : lmsMay lmsZero = true := by decide +kernel
end Go.Proofs.Ytpojgfpfkfjegaa.PAll
