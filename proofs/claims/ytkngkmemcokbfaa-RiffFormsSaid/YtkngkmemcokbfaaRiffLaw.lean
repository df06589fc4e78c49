/- A file's chunks (layer 20): what the statements' own helpers come to. -/
import Derived.Test.YtkngkmemcokbfaaPAllx8
import Derived.Test.YtkngkmemcokbfaaPAllx6
import Derived.Test.YtkngkmemcokbfaaRiff
namespace Go.Proofs.Ytkngkmemcokbfaa.PAll
open Go Go.RowKit Go.Proofs.YtkngkmemcokbfaaW.PrintWords Go.Proofs.YtkngkmemcokbfaaW.PrintMore
set_option linter.unusedVariables false
set_option linter.unusedSimpArgs false

/-- Two rows of chunks that are one: told to be. -/
theorem same_self (k : Nat) (cs : List S34) (hl : cs.length ≤ 4096) (n : Nat) : ∀ (i : Int), 0 ≤ i → (cs.length : Int) - i ≤ n → i ≤ cs.length → descantlaw0_SameChunks.l0 (k + n + 1) cs cs i = some true := by
  induction n with
  | zero =>
    intro i h0 h h1
    simp only [descantlaw0_SameChunks.l0]
    rw [if_neg (by omega)]
  | succ n ih =>
    intro i h0 h h1
    rw [show k + (n + 1) + 1 = (k + n + 1) + 1 by omega]
    simp only [descantlaw0_SameChunks.l0]
    by_cases c : i < (cs.length : Int)
    · rw [if_pos c, if_pos h0, if_pos c, if_neg (by simp), Num.w64 (n := i + 1) (by omega) (by omega)]
      exact ih _ (by omega) (by omega) (by omega)
    · rw [if_neg c]
theorem same_chunks (k : Nat) (cs : List S34) (hl : cs.length ≤ 64) : descantlaw0_SameChunks.f (k + 70) cs cs = some true := by
  unfold descantlaw0_SameChunks.f
  rw [if_pos rfl, show k + 70 = (k + 5) + 64 + 1 by omega]
  exact same_self _ cs (by omega) 64 0 (by decide) (by omega) (by omega)

theorem rest_length (s : ByteArray) (d : Nat) : ∀ (p : Int) (cs : List S34), rest s d p = some cs → cs.length ≤ d := by
  induction d with
  | zero =>
    intro p cs h
    unfold rest at h
    split at h
    · cases h
    · cases h; simp
  | succ d ih =>
    intro p cs h
    unfold rest at h
    split at h
    · split at h
      · cases h
      · split at h
        · cases h
        · obtain ⟨ds, h1, rfl⟩ := Option.map_eq_some_iff.1 h
          have := ih _ _ h1
          simp; omega
    · cases h; simp
theorem chunks_length (s : ByteArray) : (told [] (chunksOf s)).1.length ≤ 64 := by
  unfold chunksOf
  split
  · cases h : rest s 64 12 with
    | none => simp [told]
    | some cs => simpa [told] using rest_length s 64 12 cs h
  · simp [told]

theorem awake20 (k : Nat) : descantlaw20_awake.f (k + 200) = some true := by
  have h : descantlaw20_awake.f 200 = some true := by decide +kernel
  induction k with
  | zero => exact h
  | succ k ih => exact (descantlaw20_awake.mono _ _ ih)

end Go.Proofs.Ytkngkmemcokbfaa.PAll
