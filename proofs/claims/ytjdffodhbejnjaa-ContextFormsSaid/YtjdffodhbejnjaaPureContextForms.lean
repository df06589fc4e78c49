/- 'ContextForms' of chapter 12: numbers, bits that may not be. No condition. -/
import Derived.Test.YtjdffodhbejnjaaPCtxx2
import Derived.Test.YtjdffodhbejnjaaCtxRef
namespace Go.Proofs.Ytjdffodhbejnjaa.Pure
open Go.RowKit Go.Proofs.Ytjdffodhbejnjaa.PCtx Go.Proofs.YtjdffodhbejnjaaW.PrintWords Go.Proofs.YtjdffodhbejnjaaW.PrintLast
set_option linter.unusedVariables false
set_option linter.unusedSimpArgs false
open Go.Proofs.Ytjdffodhbejnjaa.PCt (ctxF ctxOk allB isBit ctxF_bad)
theorem of_val {b : Int} {l : List Int} (h : l.length ≤ 17592186044416) {r : Int × Int × Int × Int} (e : ctxF b l = r) : context_Of.f b l = some r := by
  unfold context_Of.f; rw [if_pos h, e]
theorem of_bad {b : Int} {l : List Int} (h : l.length ≤ 17592186044416) (e : ctxOk b l = false) : context_Of.f b l = some (0, 0, 0, 1200) := of_val h (ctxF_bad e)
theorem awakeC : descantlaw12_awake.f = some true := by decide +kernel
theorem ContextForms : descantlaw12_ContextForms.Pure := by
  intro a0 a1 w0 w1
  have hx : Go.bits .and .i64 a1 1023 = a1 % 1024 := Num.and_mask a1 1023 10 (by omega) (by rfl)
  have h1 : Go.bits .and .i64 a0 1 = a0 % 2 := Num.and_mask a0 1 1 (by omega) (by rfl)
  obtain ⟨d, hd⟩ : ∃ d, d = 1 + a1 % 1024 := ⟨_, rfl⟩
  have d1 : 1 ≤ d ∧ d ≤ 1024 := by omega
  obtain ⟨u, hu⟩ : ∃ u, u = a0 % 2 := ⟨_, rfl⟩
  have u2 : u = 0 ∨ u = 1 := by omega
  unfold descantlaw12_ContextForms.f
  rw [awakeC, hx, h1, Num.w64 (n := 1 + a1 % 1024) (by omega) (by omega), ← hd, ← hu, Num.w64 (n := -d) (by omega) (by omega), Num.w64 (n := 63 + d) (by omega) (by omega), Num.w64 (n := 1 + d) (by omega) (by omega)]
  simp only [Option.bind_some, if_true]
  have r1 : ctxOk (rd [-d, 63 + d] u) [] = false := by
    unfold ctxOk
    rcases u2 with rfl | rfl
    · rw [show rd [-d, 63 + d] 0 = -d from rfl, decide_eq_false (by omega)]; rfl
    · rw [show rd [-d, 63 + d] 1 = 63 + d from rfl, decide_eq_false (by omega)]; rfl
  have r2 : ctxOk 5 (List.replicate (63 + d).toNat 0) = false := by
    unfold ctxOk; rw [decide_eq_false (by rw [List.length_replicate]; omega)]; rfl
  have r3 : ctxOk 5 [0, 1, rd [-d, 1 + d] u] = false := by
    have hb : isBit (rd [-d, 1 + d] u) = false := by
      rcases u2 with rfl | rfl
      · rw [show rd [-d, 1 + d] 0 = -d from rfl]; exact decide_eq_false (by omega)
      · rw [show rd [-d, 1 + d] 1 = 1 + d from rfl]; exact decide_eq_false (by omega)
    unfold ctxOk
    have : allB [0, 1, rd [-d, 1 + d] u] = false := by
      show (isBit 0 && (isBit 1 && (isBit (rd [-d, 1 + d] u) && true))) = false
      rw [hb]; simp
    rw [this, Bool.and_false]
  have r4 : ctxF 63 (List.replicate 63 0) = (32, 63, 31, 0) := by decide +kernel
  rw [if_pos (by omega), if_pos (by simp; omega), of_bad (by simp) r1, Option.bind_some, if_pos (by omega), if_pos (by omega), of_bad (by rw [List.length_replicate]; omega) r2, Option.bind_some, if_pos (by simp; omega), of_bad (by simp) r3, Option.bind_some, if_pos (by decide), of_val (by simp) r4]
  rfl
end Go.Proofs.Ytjdffodhbejnjaa.Pure
