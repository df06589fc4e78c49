/- Layer 20, RiffCut: a file cut at a chunk's end has the chunks ahead. No program in sight. -/
import Derived.Test.YtkngkmemcokbfaaRiffMany0
namespace Go.Proofs.Ytkngkmemcokbfaa.PAll
open Go Go.RowKit Go.Proofs.YtkngkmemcokbfaaW.PrintWords Go.Proofs.YtkngkmemcokbfaaW.PrintMore
set_option linter.unusedVariables false
set_option linter.unusedSimpArgs false
theorem rest_cons {s : ByteArray} {d : Nat} {p : Int} {cs : List S34} (h : rest s (d + 1) p = some cs) : (¬ p < (s.size : Int) ∧ cs = []) ∨ (p + 8 ≤ (s.size : Int) ∧ num4 s (p + 4) + num4 s (p + 4) % 2 ≤ (s.size : Int) - (p + 8) ∧ ∃ cs', rest s d (p + 8 + (num4 s (p + 4) + num4 s (p + 4) % 2)) = some cs' ∧ cs = ⟨s.extract p.toNat (p + 4).toNat, p + 8, num4 s (p + 4)⟩ :: cs') := by
  unfold rest at h
  split at h
  · split at h
    · cases h
    · split at h
      · cases h
      · obtain ⟨cs', h1, h2⟩ := Option.map_eq_some_iff.1 h
        exact .inr ⟨by omega, by omega, cs', h1, h2.symm⟩
  · exact .inl ⟨by assumption, (Option.some.inj h).symm⟩
theorem places (s : ByteArray) (d : Nat) : ∀ (p : Int) (cs : List S34), 0 ≤ p → rest s d p = some cs → ∀ c ∈ cs, p + 8 ≤ c.f1 ∧ c.f1 ≤ s.size := by
  induction d with
  | zero =>
    intro p cs hp h c hc
    unfold rest at h
    split at h
    · cases h
    · obtain rfl := Option.some.inj h; cases hc
  | succ d ih =>
    intro p cs hp h c hc
    rcases rest_cons h with ⟨_, rfl⟩ | ⟨h1, h2, cs', h3, rfl⟩
    · cases hc
    · have hn := num4_range s (p + 4) (by omega) (by omega)
      rcases List.mem_cons.1 hc with rfl | hc
      · exact ⟨by show p + 8 ≤ p + 8; omega, by show p + 8 ≤ _; omega⟩
      · have := ih _ cs' (by omega) h3 c hc
        omega
theorem rest_cut (s t : ByteArray) (e : Nat) (ht : t.size = e) (he : e ≤ s.size) (hsame : ∀ a b, 8 ≤ a → b ≤ e → t.extract a b = s.extract a b) (d : Nat) : ∀ (p : Int) (cs : List S34) (j : Nat) (hj : j < cs.length), 8 ≤ p → rest s d p = some cs → (cs[j]).f1 = e + 8 → rest t d p = some (cs.take j) := by
  induction d with
  | zero =>
    intro p cs j hj hp h hc
    unfold rest at h
    split at h
    · cases h
    · obtain rfl := Option.some.inj h; exact absurd hj (by simp)
  | succ d ih =>
    intro p cs j hj hp h hc
    rcases rest_cons h with ⟨_, rfl⟩ | ⟨h1, h2, cs', h3, rfl⟩
    · exact absurd hj (by simp)
    · have hn := num4_range s (p + 4) (by omega) (by omega)
      cases j with
      | zero =>
        have : p + 8 = (e : Int) + 8 := hc
        unfold rest
        rw [if_neg (by omega)]; rfl
      | succ j =>
        have hj' : j < cs'.length := by simpa using hj
        have hc' : (cs'[j]).f1 = e + 8 := by simpa using hc
        have hp2 := places s d _ cs' (by omega) h3 _ (List.getElem_mem hj')
        rw [hc'] at hp2
        have e1 : num4 t (p + 4) = num4 s (p + 4) := by unfold num4; rw [hsame _ _ (by omega) (by omega)]
        have e2 := hsame p.toNat (p + 4).toNat (by omega) (by omega)
        unfold rest
        rw [if_pos (by omega), if_neg (by omega), e1, if_neg (by omega), e2, ih _ cs' j hj' (by omega) h3 hc']
        rfl
theorem four (l : List Int) (h : l.length = 4) : ∃ a b c d, l = [a, b, c, d] := by
  match l, h with
  | [a, b, c, d], _ => exact ⟨a, b, c, d, rfl⟩
theorem chunks_cut (s : ByteArray) (cs : List S34) (h : chunksOf s = some cs) (j : Nat) (hj : j < cs.length) (e : Nat) (hc : (cs[j]).f1 = e + 8) : 12 ≤ e ∧ e ≤ s.size ∧ s.size ≤ 4096 ∧ ∀ t : ByteArray, bytesOf t = (((bytesOf s).take e).set 4 (((e : Int) - 8) % 256)).set 5 (((e : Int) - 8) / 256) → chunksOf t = some (cs.take j) := by
  unfold chunksOf at h
  split at h
  · rename_i hf
    have hf2 := hf
    unfold front at hf
    rw [decide_eq_true_iff] at hf
    obtain ⟨f1, f2, f3, f4, f5⟩ := hf
    have hp := places s 64 12 cs (by omega) h _ (List.getElem_mem hj)
    rw [hc] at hp
    refine ⟨by omega, by omega, f2, fun t ht => ?_⟩
    have hl : t.size = e := by
      have := congrArg List.length ht
      rw [bytesOf_length, List.length_set, List.length_set, List.length_take, bytesOf_length] at this
      omega
    have hsame : ∀ a b, 8 ≤ a → b ≤ e → t.extract a b = s.extract a b := by
      intro a b ha hb
      apply Bytes.inj
      rw [Bytes.of_extract, Bytes.of_extract, ht, List.drop_set_of_lt (by omega), List.drop_set_of_lt (by omega), List.drop_take, List.take_take]
      congr 1; omega
    have ex : ∃ l, bytesOf s = [82, 73, 70, 70] ++ l := ⟨(bytesOf s).drop 4, by
      rw [Bytes.of_extract, List.drop_zero] at f3
      rw [← f3]; exact (List.take_append_drop 4 _).symm⟩
    obtain ⟨l, hl4⟩ := ex
    have hln : l.length + 4 = s.size := by have := congrArg List.length hl4; rw [bytesOf_length, List.length_append] at this; simp at this; omega
    obtain ⟨b4, b5, b6, b7, hb⟩ := four (l.take 4) (by rw [List.length_take]; omega)
    have hl8 : l = [b4, b5, b6, b7] ++ l.drop 4 := by rw [← hb]; exact (List.take_append_drop 4 l).symm
    have hr : ∀ x ∈ [b4, b5, b6, b7], 0 ≤ x ∧ x ≤ 255 := by
      intro x hx
      refine Bytes.range (s := s) ?_
      rw [hl4, hl8]
      exact List.mem_append_right _ (List.mem_append_left _ hx)
    have r4 := hr b4 (by simp); have r5 := hr b5 (by simp); have r6 := hr b6 (by simp); have r7 := hr b7 (by simp)
    have hv : b4 + 256 * (b5 + 256 * (b6 + 256 * b7)) = (s.size : Int) - 8 := by
      rw [← f4]; unfold num4
      rw [Bytes.of_extract, hl4, hl8]
      show _ = val [b4, b5, b6, b7]
      simp [val]
    have z6 : b6 = 0 := by omega
    have z7 : b7 = 0 := by omega
    subst z6; subst z7
    have htb : bytesOf t = [82, 73, 70, 70, ((e : Int) - 8) % 256, ((e : Int) - 8) / 256, 0, 0] ++ (l.drop 4).take (e - 8) := by
      rw [ht, hl4, hl8]
      obtain ⟨m, rfl⟩ : ∃ m, e = m + 8 := ⟨e - 8, by omega⟩
      simp
    have hft : front t = true := by
      unfold front
      rw [decide_eq_true_iff]
      refine ⟨by omega, by omega, ?_, ?_, ?_⟩
      · rw [Bytes.of_extract, htb]; rfl
      · unfold num4
        rw [Bytes.of_extract, htb]
        show val [((e : Int) - 8) % 256, ((e : Int) - 8) / 256, 0, 0] = _
        simp only [val]; omega
      · rw [hsame 8 12 (by omega) (by omega)]; exact f5
    unfold chunksOf
    rw [if_pos hft]
    exact rest_cut s t e hl (by omega) hsame 64 12 cs j hj (by omega) h hc
  · cases h
end Go.Proofs.Ytkngkmemcokbfaa.PAll
