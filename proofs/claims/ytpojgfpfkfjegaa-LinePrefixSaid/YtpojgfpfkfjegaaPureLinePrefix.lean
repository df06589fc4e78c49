/- 'LinePrefix' of chapter 16: a beginning's residuals are the beginning of the residuals. No condition. -/
import Derived.Test.YtpojgfpfkfjegaaPLinex3
import Derived.Test.YtpojgfpfkfjegaaLineLaw
namespace Go.Proofs.Ytpojgfpfkfjegaa.Pure
open Go.RowKit Go.Proofs.Ytpojgfpfkfjegaa.PLine Go.Proofs.Ytpojgfpfkfjegaa.PAll Go.Proofs.YtpojgfpfkfjegaaW.PrintWords Go.Proofs.YtpojgfpfkfjegaaW.PrintLast
set_option linter.unusedVariables false
set_option linter.unusedSimpArgs false

theorem LinePrefix : descantlaw16_LinePrefix.Pure := by
  intro l0 a1 hlen hlen8 hwf ha
  refine ⟨400, ?_⟩
  have h8 : l0.length ≤ 17592186044416 := by omega
  unfold descantlaw16_LinePrefix.f
  rw [show 400 = 390 + 10 from rfl, awake16, Option.bind_some, if_pos rfl]
  rw [Num.w64 (n := (l0.length : Int) + 1) (by omega) (by omega)]
  have hu : IntKind.u64.wrap ((l0.length : Int) + 1) = (l0.length : Int) + 1 := by rw [IntKind.wrap_u64]; omega
  rw [hu, if_neg (by omega)]
  simp only [line_Put.f, Option.bind_some]
  obtain ⟨r, hr, r0, r1⟩ := Num.umod a1 ((l0.length : Int) + 1) (by omega) (by omega)
  obtain ⟨j, hj⟩ : ∃ j : Nat, (j : Int) = r := ⟨r.toNat, by omega⟩
  rw [hr, ← hj, if_pos (by omega), if_pos (by omega), Int.toNat_natCast]
  rcases line_cases putOne l0 with ⟨o, e, ht, hl, ho⟩ | e
  · have h2 := turn_take l0 chZero [] o j ht (by omega)
    rw [List.length_nil, Nat.zero_add] at h2
    have e2 : lineOf putOne (l0.take j) = (o.take j, 0) := line_some (by simp; omega) h2
    rw [e, e2]
    simp only [descantlaw0_Num.f, Option.bind_some]
    rw [if_pos trivial, if_pos trivial, if_pos (by omega), if_pos (by omega)]
    rw [show 390 + 10 = 99 + 301 from rfl, same_self 99 (o.take j) (by simp; omega)]
    rfl
  · rw [e]
    simp only [descantlaw0_Num.f, Option.bind_some]
    rw [if_neg (by decide)]
    rfl
end Go.Proofs.Ytpojgfpfkfjegaa.Pure
