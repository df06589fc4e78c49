/- Layers 15 and 16 in plain words: a sample that stays; what a line of numbers comes to. -/
import Derived.Test.YtpojgfpfkfjegaaLine
namespace Go.Proofs.Ytpojgfpfkfjegaa.PAll
open Go Go.RowKit Go.Proofs.YtpojgfpfkfjegaaW.PrintWords Go.Proofs.YtpojgfpfkfjegaaW.PrintMore Go.Proofs.YtpojgfpfkfjegaaW.PrintLast
set_option linter.unusedVariables false
set_option linter.unusedSimpArgs false
/-- One line behind k learned numbers, the first of which was v, the others 0. -/
def One (v : Int) (l : Lms) (k : Nat) : Prop := (∀ j, j < 8 → l.w j = 0) ∧ ∀ j, j < 8 → l.h j = if j + 1 = k then v else 0
theorem one_may {v : Int} {l : Lms} {k : Nat} (h1 : 0 ≤ v) (h2 : v ≤ 65535) (h : One v l k) : lmsMay l = true := by
  refine may_yes (fun j hj => ?_)
  unfold okAt
  rw [Bool.and_eq_true, inB_iff, inB_iff, h.1 j hj, h.2 j hj]
  refine ⟨by omega, ?_⟩
  split <;> omega
theorem one_guess {v : Int} {l : Lms} {k : Nat} (h1 : 0 ≤ v) (h2 : v ≤ 65535) (h : One v l k) : (lmsGuess l).1 = 0 := by
  unfold lmsGuess
  rw [one_may h1 h2 h, if_pos rfl]
  have e : dot l.w l.h 8 = 0 := by
    simp only [dot]
    rw [h.1 0 (by omega), h.1 1 (by omega), h.1 2 (by omega), h.1 3 (by omega), h.1 4 (by omega), h.1 5 (by omega), h.1 6 (by omega), h.1 7 (by omega)]
    simp
  rw [e]; rfl
theorem one_step {v : Int} {l : Lms} {k : Nat} (h1 : 0 ≤ v) (h2 : v ≤ 65535) (h : One v l k) (d : Int) (hd : d = if k = 0 then v else 0) : One v (lmsLearn l d).1 (k + 1) := by
  have hg := one_guess h1 h2 h
  rw [learn_yes_eq (one_may h1 h2 h) (inB_iff.2 (by rw [hd]; split <;> omega))]
  refine ⟨fun j hj => ?_, fun j hj => ?_⟩
  · show newW l d j = 0
    unfold newW
    rw [hg, h.1 j hj, h.2 j hj]
    by_cases hk : k = 0
    · rw [if_neg (show ¬ j + 1 = k by omega), show sgn 0 = 0 from rfl, Int.mul_zero]; rfl
    · rw [hd, if_neg hk, show sgn (0 - 0) = 0 from rfl, Int.mul_zero, Int.zero_mul]; rfl
  · show (if j = 0 then d else l.h (j - 1)) = if j + 1 = k + 1 then v else 0
    by_cases h0 : j = 0
    · rw [if_pos h0, hd]
      by_cases hk : k = 0
      · rw [if_pos hk, if_pos (by omega)]
      · rw [if_neg hk, if_neg (by omega)]
    · rw [if_neg h0, h.2 (j - 1) (by omega)]
      by_cases hk : j = k
      · rw [if_pos (by omega), if_pos (by omega)]
      · rw [if_neg (by omega), if_neg (by omega)]
/-- After k times the sample v. -/
def St (v : Int) (c : Chain) (k : Nat) : Prop := c.last = (if k = 0 then 0 else v) ∧ One v c.a k ∧ One v c.b k
theorem st_zero (v : Int) : St v chZero 0 := ⟨rfl, ⟨fun _ _ => rfl, fun j _ => by rw [if_neg (by omega)]; rfl⟩, ⟨fun _ _ => rfl, fun j _ => by rw [if_neg (by omega)]; rfl⟩⟩
theorem st_may {v : Int} {c : Chain} {k : Nat} (h1 : 0 ≤ v) (h2 : v ≤ 65535) (h : St v c k) : chMay c = true := by
  rw [chMay_iff]
  refine ⟨inB_iff.2 ?_, one_may h1 h2 h.2.1, one_may h1 h2 h.2.2⟩
  rw [h.1]; split <;> omega
theorem st_step {v : Int} {c : Chain} {k : Nat} (h1 : 0 ≤ v) (h2 : v ≤ 65535) (h : St v c k) : St v (chLearn c v).1 (k + 1) ∧ (chLearn c v).2 = 0 := by
  have e : chLearn c v = (⟨v, (lmsLearn c.a (v - c.last)).1, (lmsLearn c.b (v - c.last - (lmsGuess c.a).1)).1⟩, 0) := by
    unfold chLearn; rw [if_pos ⟨st_may h1 h2 h, inB_iff.2 ⟨by omega, by omega⟩⟩]
  have hd : v - c.last = if k = 0 then v else 0 := by rw [h.1]; split <;> omega
  rw [e]
  refine ⟨⟨by rw [if_neg (by omega)], one_step h1 h2 h.2.1 _ hd, ?_⟩, rfl⟩
  rw [one_guess h1 h2 h.2.1, Int.sub_zero]
  exact one_step h1 h2 h.2.2 _ hd
theorem st_end {v : Int} {c : Chain} {k : Nat} (h1 : 0 ≤ v) (h2 : v ≤ 65535) (h : St v c k) (hk : 8 < k) : chGuess c = (v, 0) ∧ eq8 c.a.h (fun _ => 0) = true := by
  refine ⟨?_, (eq8_iff _ _).2 (fun j hj => by rw [h.2.1.2 j hj, if_neg (by omega)])⟩
  unfold chGuess
  rw [st_may h1 h2 h, if_pos rfl, one_guess h1 h2 h.2.1, one_guess h1 h2 h.2.2, h.1, if_neg (by omega)]
  simp


/-- What was there stays ahead, one number more for each. -/
theorem turn_len {one : Int → Int → Int × Int} : ∀ (xs : List Int) (c : Chain) (out o : List Int), turnL one xs c out = some o → ∃ t, o = out ++ t ∧ t.length = xs.length
  | [], c, out, o, h => by simp only [turnL] at h; exact ⟨[], by rw [← Option.some.inj h, List.append_nil], rfl⟩
  | x :: r, c, out, o, h => by
    simp only [turnL] at h
    split at h
    · obtain ⟨t, e, hl⟩ := turn_len r _ _ o h
      exact ⟨_ :: t, by rw [e, List.append_assoc]; rfl, by simp [hl]⟩
    · cases h
/-- The beginning's is the beginning. -/
theorem turn_take {one : Int → Int → Int × Int} : ∀ (xs : List Int) (c : Chain) (out o : List Int) (j : Nat), turnL one xs c out = some o → j ≤ xs.length → turnL one (xs.take j) c out = some (o.take (out.length + j))
  | xs, c, out, o, 0, h, _ => by
    obtain ⟨t, e, _⟩ := turn_len xs c out o h
    rw [e]
    simp [turnL]
  | [], c, out, o, j + 1, h, hj => by simp at hj
  | x :: r, c, out, o, j + 1, h, hj => by
    rw [List.take_succ_cons]
    simp only [turnL] at h ⊢
    split at h
    · rename_i hc
      rw [if_pos hc]
      have := turn_take r _ _ o j h (by simpa using hj)
      rw [this]
      congr 2
      simp; omega
    · cases h
/-- The chain behind some numbers. -/
def chainL (one : Int → Int → Int × Int) : List Int → Chain → Chain
  | [], c => c
  | x :: r, c => chainL one r (chLearn c (one x (chGuess c).1).2).1
/-- What stands at a place. -/
theorem turn_at {one : Int → Int → Int × Int} : ∀ (xs : List Int) (c : Chain) (out o : List Int) (j : Nat), turnL one xs c out = some o → j < xs.length → o.getD (out.length + j) 0 = (one (xs.getD j 0) (chGuess (chainL one (xs.take j) c)).1).1 ∧ (chLearn (chainL one (xs.take j) c) (one (xs.getD j 0) (chGuess (chainL one (xs.take j) c)).1).2).2 = 0 ∧ inB (xs.getD j 0) 16777216 = true
  | [], c, out, o, j, h, hj => by simp at hj
  | x :: r, c, out, o, 0, h, hj => by
    simp only [turnL] at h
    split at h
    · rename_i hc
      obtain ⟨t, e, _⟩ := turn_len r _ _ o h
      refine ⟨?_, hc⟩
      rw [e, List.append_assoc]
      simp [chainL]
    · cases h
  | x :: r, c, out, o, j + 1, h, hj => by
    simp only [turnL] at h
    split at h
    · have := turn_at r _ _ o j h (by simpa using hj)
      rw [List.length_append, List.length_singleton, show out.length + 1 + j = out.length + (j + 1) by omega] at this
      simpa [chainL] using this
    · cases h
theorem line_cases (one : Int → Int → Int × Int) (xs : List Int) : (∃ o, lineOf one xs = (o, 0) ∧ turnL one xs chZero [] = some o ∧ xs.length ≤ 256 ∧ o.length = xs.length) ∨ lineOf one xs = ([], 1600) := by
  by_cases hl : xs.length ≤ 256
  · cases h : turnL one xs chZero [] with
    | none => exact Or.inr (line_none hl h)
    | some o =>
      obtain ⟨t, e, ht⟩ := turn_len xs chZero [] o h
      exact Or.inl ⟨o, line_some hl h, rfl, hl, by rw [e]; simpa using ht⟩
  · exact Or.inr (line_long hl)
end Go.Proofs.Ytpojgfpfkfjegaa.PAll
