/- 'Riffs' of chapter 20 (any text): the program's Chunks answers as the document's own. No condition. -/
import Derived.Test.YtkngkmemcokbfaaPAllx8
import Derived.Test.YtkngkmemcokbfaaRiffRef
import Derived.Test.YtkngkmemcokbfaaRiffLaw
namespace Go.Proofs.Ytkngkmemcokbfaa.Pure
open Go.RowKit Go.Proofs.Ytkngkmemcokbfaa.PAll Go.Proofs.YtkngkmemcokbfaaW.PrintWords Go.Proofs.YtkngkmemcokbfaaW.PrintLast
set_option linter.unusedVariables false
set_option linter.unusedSimpArgs false

theorem spoil (k : Nat) (n : Nat) : ∀ (cs : List S34) (i : Int), cs.length ≤ 64 → 0 ≤ i → (cs.length : Int) - i ≤ n → i ≤ cs.length → ∃ ds, descantlaw0_SpoilChunks.l0 (k + n + 1) cs i = some ds := by
  induction n with
  | zero =>
    intro cs i hl h0 h h1
    simp only [descantlaw0_SpoilChunks.l0]
    rw [if_neg (by omega)]
    exact ⟨_, rfl⟩
  | succ n ih =>
    intro cs i hl h0 h h1
    rw [show k + (n + 1) + 1 = (k + n + 1) + 1 by omega]
    simp only [descantlaw0_SpoilChunks.l0]
    by_cases c : i < (cs.length : Int)
    · rw [if_pos c, if_pos h0, Num.w64 (n := i + 1) (by omega) (by omega)]
      exact ih _ _ (by simpa using hl) (by omega) (by simp; omega) (by simp; omega)
    · rw [if_neg c]
      exact ⟨_, rfl⟩

theorem Riffs : descantlaw20_Riffs.Pure := by
  intro s hs
  refine ⟨299 + 1, ?_⟩
  unfold descantlaw20_Riffs.f
  rw [show 299 + 1 = 140 + 160 from rfl, chunks_prog 140 s hs, chunks_ref 140 s hs]
  simp only [Option.bind_some]
  have hl := chunks_length s
  obtain ⟨p, hp⟩ : ∃ p, p = told [] (chunksOf s) := ⟨_, rfl⟩
  rw [← hp] at hl ⊢
  rw [show 140 + 160 = 230 + 70 from rfl, same_chunks 230 _ hl]
  simp only [Option.bind_some, if_true, descantlaw0_Num.f, bne_self_eq_false]
  rw [show 230 + 70 = 299 + 1 from rfl]
  simp only [descantlaw20_Riffs.j0]
  rw [if_neg (by decide)]
  obtain ⟨ds, hd⟩ := spoil 234 64 p.1 0 hl (by decide) (by omega) (by omega)
  unfold descantlaw0_SpoilChunks.f
  rw [show 234 + 64 + 1 = 299 from rfl] at hd
  rw [hd]
  simp only [Option.bind_some]
  rw [awake20 99]; rfl

end Go.Proofs.Ytkngkmemcokbfaa.Pure
