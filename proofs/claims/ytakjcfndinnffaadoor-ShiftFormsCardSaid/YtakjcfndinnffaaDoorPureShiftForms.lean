/- 'ShiftForms' of chapter 18: samples, shifts that may not be. No condition. -/
import Derived.Test.YtakjcfndinnffaaDoorPShiftx4
import Derived.Test.YtakjcfndinnffaaDoorShiftPure
namespace Go.Proofs.YtakjcfndinnffaaDoor.Pure
open Go.RowKit Go.Proofs.YtakjcfndinnffaaDoor.PShift Go.Proofs.YtakjcfndinnffaaDoorW.PrintWords Go.Proofs.YtakjcfndinnffaaDoorW.PrintLast
set_option linter.unusedVariables false
set_option linter.unusedSimpArgs false
open Go.Proofs.YtakjcfndinnffaaDoor.PSh (allS inS mayS downF)
theorem down_bad {xs : List Int} {by_ : Int} (h : mayS xs by_ = false) : downF xs by_ = ([], 1800) := by unfold downF; rw [h]; rfl
theorem up_bad {xs : List Int} {by_ : Int} (h : mayS xs by_ = false) : upF xs by_ = ([], 1800) := by unfold upF; rw [h]; rfl
theorem ShiftForms : descantlaw18_ShiftForms.Pure := by
  intro a0 a1 w0 w1
  refine ⟨20, ?_⟩
  have hx : Go.bits .and .i64 a1 1023 = a1 % 1024 := Num.and_mask a1 1023 10 (by omega) (by rfl)
  have h1 : Go.bits .and .i64 a0 1 = a0 % 2 := Num.and_mask a0 1 1 (by omega) (by rfl)
  obtain ⟨d, hd⟩ : ∃ d, d = 1 + a1 % 1024 := ⟨_, rfl⟩
  have d1 : 1 ≤ d ∧ d ≤ 1024 := by omega
  obtain ⟨u, hu⟩ : ∃ u, u = a0 % 2 := ⟨_, rfl⟩
  have u2 : u = 0 ∨ u = 1 := by omega
  unfold descantlaw18_ShiftForms.f
  rw [show (20 : Nat) = 0 + 20 from rfl, awakeSh 0, hx, h1, Num.w64 (n := 1 + a1 % 1024) (by omega) (by omega), ← hd, ← hu, Num.w64 (n := -131072 - d) (by omega) (by omega), Num.w64 (n := 131072 + d) (by omega) (by omega), Num.w64 (n := -d) (by omega) (by omega), Num.w64 (n := 15 + d) (by omega) (by omega), Num.w64 (n := 65536 + d) (by omega) (by omega)]
  simp only [Option.bind_some, if_true]
  obtain ⟨b, hb⟩ : ∃ b, b = rd [-131072 - d, 131072 + d] u := ⟨_, rfl⟩
  have hb2 : inS b = false := by
    rw [hb]
    rcases u2 with rfl | rfl
    · exact decide_eq_false (by show ¬ (-131072 ≤ -131072 - d ∧ _); omega)
    · exact decide_eq_false (by show ¬ (_ ∧ 131072 + d ≤ 131072); omega)
  obtain ⟨c, hc⟩ : ∃ c, c = rd [-d, 15 + d] u := ⟨_, rfl⟩
  have hc2 : ¬ (0 ≤ c ∧ c ≤ 15) := by
    rw [hc]
    rcases u2 with rfl | rfl
    · show ¬ (0 ≤ -d ∧ _); omega
    · show ¬ (_ ∧ 15 + d ≤ 15); omega
  have s1 : allS [4, b] = false := by
    show (inS 4 && (inS b && true)) = false
    rw [hb2]; simp
  have s2 : mayS [4, b] 0 = false := by unfold mayS; rw [s1, Bool.and_false]
  have s3 : mayS [0] c = false := by unfold mayS; rw [decide_eq_false hc2, Bool.false_and]
  have s4 : downF [4, 6] 2 = ([], 1800) := by decide +kernel
  have s5 : upF [65536 + d] 1 = ([], 1800) := by
    unfold upF
    have e : List.map (PSh.upS 1) [65536 + d] = [131072 + 2 * d] := by
      show [wrap64 ((65536 + d) * 2 ^ (1 : Int).toNat)] = _
      rw [show (2 : Int) ^ (1 : Int).toNat = 2 from by decide, Num.w64 (by omega) (by omega)]
      congr 1; omega
    have e2 : mayS [131072 + 2 * d] 1 = false := by
      unfold mayS allS inS
      simp
      omega
    rw [e, e2]
    split <;> rfl
  rw [if_pos (by omega), if_pos (by simp; omega), ← hb, ← hc]
  rw [wasted_no [4, b] (by simp) s1 (0 + 20), Option.bind_some, down_is _ _ (by simp), down_bad s2, Option.bind_some, show 0 + 20 = 17 + ([4, b] : List Int).length + 1 from rfl, up_is [4, b] 0 (by simp) 17, up_bad s2, Option.bind_some]
  rw [if_pos (by simp; omega), down_is _ _ (by simp), down_bad s3, Option.bind_some, if_pos (by simp; omega), show 17 + ([4, b] : List Int).length + 1 = 18 + ([0] : List Int).length + 1 from rfl, up_is [0] c (by simp) 18, up_bad s3, Option.bind_some, down_is _ _ (by simp), s4, Option.bind_some, show 18 + ([0] : List Int).length + 1 = 18 + ([65536 + d] : List Int).length + 1 from rfl, up_is [65536 + d] 1 (by simp) 18, s5]
  rfl
end Go.Proofs.YtakjcfndinnffaaDoor.Pure
