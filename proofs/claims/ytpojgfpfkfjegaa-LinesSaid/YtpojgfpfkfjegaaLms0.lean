/- Layer 14 and the document's, the small functions: a bound, a sign, a number in a bound. Each: for all ints, what it answers; memory as it was. -/
import Derived.Test.YtpojgfpfkfjegaaPAllx0
import Derived.Test.YtpojgfpfkfjegaaNum
import Derived.Lib.Hide
namespace Go.Proofs.Ytpojgfpfkfjegaa.PAll
open Go Go.RowKit Go.Proofs.YtpojgfpfkfjegaaW.PrintWords Go.Proofs.YtpojgfpfkfjegaaW.PrintMore
set_option linter.unusedVariables false
set_option linter.unusedSimpArgs false

def inB (x m : Int) : Bool := decide (-m ≤ x ∧ x ≤ m)
def clamp (x m : Int) : Int := mn (mx x (-m)) m
def sgn (x : Int) : Int := if x > 0 then 1 else if x < 0 then -1 else 0

theorem ri {k : IntKind} {a b : Int} (h : a = b) : Ending.returned (.int k a) = .returned (.int k b) := by rw [h]
theorem rb {a b : Bool} (h : a = b) : Ending.returned (.bool a) = .returned (.bool b) := by rw [h]
theorem in_calls (x m : Int) (w : World) (h0 : 0 ≤ m) (h1 : m ≤ 9223372036854775807) : Calls Try.prog 41 #[.int .i64 x, .int .i64 m] w fun e w' => e = .returned (.bool (inB x m)) ∧ w' = w := by
  by_cases c : -m ≤ x
  · have c1 : decide (x ≥ -m) = true := decide_eq_true c
    go_enter Try.func41, Try.ntmps41
    go_wp2
    go_ret
    exact ⟨by simp [inB, c], rfl⟩
  · have c1 : decide (x ≥ -m) = false := decide_eq_false (by omega)
    go_enter Try.func41, Try.ntmps41
    go_wp2
    go_ret
    exact ⟨by simp [inB]; omega, rfl⟩

attribute [local go_sem] max2_int min2_int max_two min_two
theorem bound_calls (x m : Int) (w : World) (h0 : 0 ≤ m) (h1 : m ≤ 9223372036854775807) : Calls Try.prog 40 #[.int .i64 x, .int .i64 m] w fun e w' => e = .returned (.int .i64 (clamp x m)) ∧ w' = w := by
  go_enter Try.func40, Try.ntmps40
  go_wp2
  all_goals
    go_ret
    exact ⟨ri (by unfold clamp mn mx; (repeat' split) <;> omega), rfl⟩

theorem sign_calls (x : Int) (w : World) : Calls Try.prog 42 #[.int .i64 x] w fun e w' => e = .returned (.int .i64 (sgn x)) ∧ w' = w := by
  by_cases c : x > 0
  · have c1 : decide (x > 0) = true := decide_eq_true c
    go_enter Try.func42, Try.ntmps42
    go_wp2
    go_ret
    exact ⟨by simp [sgn, c], rfl⟩
  · by_cases c2 : x < 0
    · have c1 : decide (x > 0) = false := decide_eq_false c
      have c3 : decide (x < 0) = true := decide_eq_true c2
      go_enter Try.func42, Try.ntmps42
      go_wp2
      go_ret
      exact ⟨by simp [sgn, c2]; omega, rfl⟩
    · have c1 : decide (x > 0) = false := decide_eq_false c
      have c3 : decide (x < 0) = false := decide_eq_false c2
      go_enter Try.func42, Try.ntmps42
      go_wp2
      go_ret
      exact ⟨ri (by unfold sgn; rw [if_neg (by omega), if_neg (by omega)]), rfl⟩

theorem refSign_calls (x : Int) (w : World) : Calls Try.prog 38 #[.int .i64 x] w fun e w' => e = .returned (.int .i64 (sgn x)) ∧ w' = w := by
  by_cases c : x > 0
  · have c1 : decide (x > 0) = true := decide_eq_true c
    go_enter Try.func38, Try.ntmps38
    go_wp2
    go_ret
    exact ⟨by simp [sgn, c], rfl⟩
  · by_cases c2 : x < 0
    · have c1 : decide (x > 0) = false := decide_eq_false c
      have c3 : decide (x < 0) = true := decide_eq_true c2
      go_enter Try.func38, Try.ntmps38
      go_wp2
      go_ret
      exact ⟨by simp [sgn, c2]; omega, rfl⟩
    · have c1 : decide (x > 0) = false := decide_eq_false c
      have c3 : decide (x < 0) = false := decide_eq_false c2
      go_enter Try.func38, Try.ntmps38
      go_wp2
      go_ret
      exact ⟨ri (by unfold sgn; rw [if_neg (by omega), if_neg (by omega)]), rfl⟩

theorem refUpTo_calls (x a b : Int) (w : World) : Calls Try.prog 24 #[.int .i64 x, .int .i64 a, .int .i64 b] w fun e w' => e = .returned (.bool (decide (a ≤ x ∧ x ≤ b))) ∧ w' = w := by
  by_cases c : a ≤ x
  · have c1 : decide (x ≥ a) = true := decide_eq_true c
    go_enter Try.func24, Try.ntmps24
    go_wp2
    go_ret
    exact ⟨by simp [c], rfl⟩
  · have c1 : decide (x ≥ a) = false := decide_eq_false (by omega)
    go_enter Try.func24, Try.ntmps24
    go_wp2
    go_ret
    exact ⟨by simp [c], rfl⟩

theorem refWithin_calls (x m : Int) (w : World) (h0 : 0 ≤ m) (h1 : m ≤ 9223372036854775807) : Calls Try.prog 37 #[.int .i64 x, .int .i64 m] w fun e w' => e = .returned (.int .i64 (clamp x m)) ∧ w' = w := by
  go_enter Try.func37, Try.ntmps37
  go_wp2
  all_goals
    go_ret
    exact ⟨ri (by unfold clamp mn mx; (repeat' split) <;> omega), rfl⟩

end Go.Proofs.Ytpojgfpfkfjegaa.PAll
