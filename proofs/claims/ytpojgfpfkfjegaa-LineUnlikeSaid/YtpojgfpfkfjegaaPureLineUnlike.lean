/- 'LineUnlike' of chapter 16: unlike samples have unlike residuals, from the first unlike one on. No condition. -/
import Derived.Test.YtpojgfpfkfjegaaPLinex4
import Derived.Test.YtpojgfpfkfjegaaLineLaw
namespace Go.Proofs.Ytpojgfpfkfjegaa.Pure
open Go.RowKit Go.Proofs.Ytpojgfpfkfjegaa.PLine Go.Proofs.Ytpojgfpfkfjegaa.PAll Go.Proofs.YtpojgfpfkfjegaaW.PrintWords Go.Proofs.YtpojgfpfkfjegaaW.PrintLast
set_option linter.unusedVariables false
set_option linter.unusedSimpArgs false

theorem rd_nat (l : List Int) (j : Nat) : rd l (j : Int) = l.getD j 0 := by simp [rd]
theorem wrap_diff (x y g : Int) : wrap64 (wrap64 (x - g) - wrap64 (y - g)) = wrap64 (x - y) := by
  unfold wrap64; omega
theorem LineUnlike : descantlaw16_LineUnlike.Pure := by
  intro l0 a1 a2 hlen hlen8 hwf w1 w2
  refine ⟨400, ?_⟩
  have h8 : l0.length < 17592186044416 + 1 := by omega
  unfold descantlaw16_LineUnlike.f
  rw [show 400 = 390 + 10 from rfl, awake16]
  obtain ⟨m, hm⟩ : ∃ m, m = 398 := ⟨_, rfl⟩
  rw [show 390 + 10 = (m + 1) + 1 by omega]
  simp only [Option.bind_some, if_true, line_Put.f]
  rcases line_cases putOne l0 with ⟨o, e, ht, hl, ho⟩ | e
  · rw [e]
    simp only [descantlaw0_Num.f, Option.bind_some]
    rw [if_pos trivial]
    simp only [descantlaw16_LineUnlike.j0]
    by_cases h0 : l0.length = 0
    · rw [show ((l0.length : Int) == 0) = true by rw [beq_iff_eq]; omega, if_pos rfl]
      simp only [descantlaw0_Num.f, Option.bind_some]
      rw [if_pos trivial]
    · rw [show ((l0.length : Int) == 0) = false by rw [beq_eq_false_iff_ne]; omega, if_neg (by decide)]
      simp only [Option.bind_some, List.nil_append, List.length_nil, Nat.zero_add]
      rw [if_pos (by omega)]
      have hu : IntKind.u64.wrap (l0.length : Int) = (l0.length : Int) := by rw [IntKind.wrap_u64]; omega
      rw [hu, if_neg (by omega)]
      obtain ⟨r, hr, r0, r1⟩ := Num.umod a1 (l0.length : Int) (by omega) (by omega)
      obtain ⟨j, hj⟩ : ∃ j : Nat, (j : Int) = r := ⟨r.toNat, by omega⟩
      have hjl : j < l0.length := by omega
      rw [hr, ← hj, if_pos (by omega), if_pos (by omega), Int.toNat_natCast]
      obtain ⟨z, hz⟩ : ∃ z, z = Go.bits .xor .i64 (rd l0 (j : Int)) (wrap64 (1 + (Go.bits .and .i64 a2 7))) := ⟨_, rfl⟩
      rw [← hz]
      simp only [line_Put.f, Option.bind_some]
      rcases line_cases putOne (l0.set j z) with ⟨q, e2, ht2, hl2, hq⟩ | e2
      · rw [e2]
        simp only [descantlaw0_Num.f, Option.bind_some]
        rw [if_pos trivial]
        have hlq : q.length = o.length := by rw [hq, ho]; simp
        simp only [descantlaw16_LineUnlike.j1]
        rw [show ((q.length : Int) != (o.length : Int)) = false by rw [hlq]; simp, if_neg (by decide), if_pos (by omega), if_pos (by omega), if_pos (by omega), Int.toNat_natCast]
        have t1 := turn_take l0 chZero [] o j ht (by omega)
        have t2 := turn_take (l0.set j z) chZero [] q j ht2 (by simp; omega)
        have hst : (l0.set j z).take j = l0.take j := List.take_set_of_le (Nat.le_refl j)
        rw [hst, t1, List.length_nil, Nat.zero_add] at t2
        rw [← Option.some.inj t2, show m = 97 + 301 by omega, same_self 97 (o.take j) (by simp; omega)]
        simp only [Option.bind_some]
        rw [if_pos trivial, if_pos (by omega), if_pos (by omega), if_pos (by omega), if_pos (by simp; omega)]
        have a1 := (turn_at l0 chZero [] o j ht hjl).1
        have a2 := (turn_at (l0.set j z) chZero [] q j ht2 (by simp; omega)).1
        rw [hst] at a2
        rw [List.length_nil, Nat.zero_add] at a1 a2
        rw [rd_nat, rd_nat, rd_nat, rd_nat, a1, a2]
        congr 1
        rw [beq_iff_eq]
        exact wrap_diff _ _ _
      · rw [e2]
        simp only [descantlaw0_Num.f, Option.bind_some]
        rw [if_neg (by decide)]
        simp only [descantlaw16_LineUnlike.j1, descantlaw0_Num.f, Option.bind_some]
        rw [if_pos trivial]
        rfl
  · rw [e]
    simp only [descantlaw0_Num.f, Option.bind_some]
    rw [if_neg (by decide)]
    simp only [descantlaw16_LineUnlike.j0, descantlaw0_Num.f, Option.bind_some]
    rw [if_pos trivial, if_neg (by decide)]
    rfl
end Go.Proofs.Ytpojgfpfkfjegaa.Pure
