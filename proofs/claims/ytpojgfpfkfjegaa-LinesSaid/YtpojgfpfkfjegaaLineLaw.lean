/- Layer 16: what the printed looks come to (awake, SameInts), and what lists of numbers come to. -/
import Derived.Test.YtpojgfpfkfjegaaLinePure
import Derived.Test.YtpojgfpfkfjegaaPLinex1
import Derived.Test.YtpojgfpfkfjegaaPLinex1
namespace Go.Proofs.Ytpojgfpfkfjegaa.PLine
open Go.RowKit Go.Proofs.Ytpojgfpfkfjegaa.PAll Go.Proofs.YtpojgfpfkfjegaaW.PrintWords Go.Proofs.YtpojgfpfkfjegaaW.PrintLast
set_option linter.unusedVariables false
set_option linter.unusedSimpArgs false

theorem awake16 (k : Nat) : descantlaw16_awake.f (k + 10) = some true := by
  have h : descantlaw16_awake.f 10 = some true := by decide +kernel
  induction k with
  | zero => exact h
  | succ k ih => exact (descantlaw16_awake.mono _ _ ih)
theorem same_loop (k : Nat) (l : List Int) (hl : l.length ≤ 100000) (d : Nat) : ∀ i : Nat, i + d = l.length → descantlaw0_SameInts.l0 (k + d + 1) l l i = some true := by
  induction d with
  | zero =>
    intro i hi
    simp only [descantlaw0_SameInts.l0]
    rw [if_neg (by omega)]
  | succ d ih =>
    intro i hi
    obtain ⟨m, hm⟩ : ∃ m, m = k + d + 1 := ⟨_, rfl⟩
    rw [show k + (d + 1) + 1 = m + 1 by omega]
    simp only [descantlaw0_SameInts.l0]
    rw [hm, if_pos (by omega), if_pos (by omega), if_pos (by omega), if_pos trivial, Num.w64 (n := (i : Int) + 1) (by omega) (by omega)]
    have := ih (i + 1) (by omega)
    rw [show ((i + 1 : Nat) : Int) = (i : Int) + 1 by omega] at this
    exact this
theorem same_self (k : Nat) (l : List Int) (hl : l.length ≤ 300) : descantlaw0_SameInts.f (k + 301) l l = some true := by
  unfold descantlaw0_SameInts.f
  rw [if_pos rfl, show k + 301 = (k + 300 - l.length) + l.length + 1 by omega]
  exact same_loop _ l (by omega) l.length 0 (by omega)
end Go.Proofs.Ytpojgfpfkfjegaa.PLine
