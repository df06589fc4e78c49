/- Layer 16 in plain words: what Put gives comes back by Get, and what Get gives by Put. -/
import Derived.Test.YtpojgfpfkfjegaaLinePure
import Derived.Test.YtpojgfpfkfjegaaLmsPure
import Derived.Test.YtpojgfpfkfjegaaLend
import Derived.Test.YtpojgfpfkfjegaaSpoil
namespace Go.Proofs.Ytpojgfpfkfjegaa.PAll
open Go Go.RowKit Go.Proofs.YtpojgfpfkfjegaaW.PrintWords Go.Proofs.YtpojgfpfkfjegaaW.PrintMore Go.Proofs.YtpojgfpfkfjegaaW.PrintLast
set_option linter.unusedVariables false
set_option linter.unusedSimpArgs false
theorem lb_zero : chMay chZero = true := by decide +kernel
theorem lb_may {c : Chain} {x : Int} (hm : chMay c = true) (h1 : -131072 ≤ x) (h2 : x ≤ 131072) : chMay (chLearn c x).1 = true := by
  obtain ⟨m0, mA, mB⟩ := chMay_iff.1 hm
  obtain ⟨l1, l2⟩ := inB_iff.1 m0
  obtain ⟨p1, p2⟩ := guess_in c.a
  have e : chLearn c x = (⟨x, (lmsLearn c.a (x - c.last)).1, (lmsLearn c.b (x - c.last - (lmsGuess c.a).1)).1⟩, 0) := by
    unfold chLearn; rw [if_pos ⟨hm, inB_iff.2 ⟨by omega, by omega⟩⟩]
  rw [e]
  rw [chMay_iff]
  exact ⟨inB_iff.2 ⟨by show -131072 ≤ x; omega, by show x ≤ 131072; omega⟩, learn_may mA (inB_iff.2 ⟨by omega, by omega⟩), learn_may mB (inB_iff.2 ⟨by omega, by omega⟩)⟩
theorem lb_guess {c : Chain} (hm : chMay c = true) : -2228224 ≤ (chGuess c).1 ∧ (chGuess c).1 ≤ 2228224 := by
  obtain ⟨m0, mA, mB⟩ := chMay_iff.1 hm
  obtain ⟨l1, l2⟩ := inB_iff.1 m0
  obtain ⟨p1, p2⟩ := guess_in c.a
  obtain ⟨q1, q2⟩ := guess_in c.b
  unfold chGuess
  rw [if_pos hm]
  exact ⟨by show -2228224 ≤ _ + _ + _; omega, by show _ + _ + _ ≤ (2228224 : Int); omega⟩
theorem put_back : ∀ (xs : List Int) (c : Chain) (out o : List Int), chMay c = true → turnL putOne xs c out = some o → ∃ t, o = out ++ t ∧ ∀ q, turnL getOne t c q = some (q ++ xs)
  | [], c, out, o, _, h => by simp only [turnL] at h; exact ⟨[], by rw [← Option.some.inj h, List.append_nil], fun q => by simp [turnL]⟩
  | x :: r, c, out, o, hm, h => by
    simp only [turnL] at h
    split at h
    · rename_i hc
      obtain ⟨hL, hN⟩ := hc
      have hL : (chLearn c x).2 = 0 := hL
      obtain ⟨g1, g2⟩ := lb_guess hm
      have hx := learn_ok_in hL
      obtain ⟨t, e, ht⟩ := put_back r _ _ o (lb_may hm hx.1 hx.2) h
      have e1 : (putOne x (chGuess c).1).1 = x - (chGuess c).1 := Num.w64 (by omega) (by omega)
      refine ⟨(x - (chGuess c).1) :: t, by rw [e, e1, List.append_assoc]; rfl, fun q => ?_⟩
      have e2 : getOne (x - (chGuess c).1) (chGuess c).1 = (x, x) := by
        unfold getOne
        rw [Int.sub_add_cancel, Num.w64 (by omega) (by omega)]
      simp only [turnL]
      rw [e2, if_pos ⟨hL, inB_iff.2 ⟨by omega, by omega⟩⟩]
      have ht2 := ht (q ++ [x])
      rw [List.append_assoc] at ht2
      exact ht2
    · cases h
theorem get_back : ∀ (xs : List Int) (c : Chain) (out o : List Int), chMay c = true → turnL getOne xs c out = some o → ∃ t, o = out ++ t ∧ ∀ q, turnL putOne t c q = some (q ++ xs)
  | [], c, out, o, _, h => by simp only [turnL] at h; exact ⟨[], by rw [← Option.some.inj h, List.append_nil], fun q => by simp [turnL]⟩
  | x :: r, c, out, o, hm, h => by
    simp only [turnL] at h
    split at h
    · rename_i hc
      obtain ⟨hL, hN⟩ := hc
      obtain ⟨n1, n2⟩ := inB_iff.1 hN
      obtain ⟨g1, g2⟩ := lb_guess hm
      have e1 : getOne x (chGuess c).1 = (x + (chGuess c).1, x + (chGuess c).1) := by
        unfold getOne
        rw [Num.w64 (by omega) (by omega)]
      rw [e1] at hL h
      have hL : (chLearn c (x + (chGuess c).1)).2 = 0 := hL
      have hx := learn_ok_in hL
      obtain ⟨t, e, ht⟩ := get_back r _ _ o (lb_may hm hx.1 hx.2) h
      refine ⟨(x + (chGuess c).1) :: t, by rw [e, List.append_assoc]; rfl, fun q => ?_⟩
      have e2 : putOne (x + (chGuess c).1) (chGuess c).1 = (x, x + (chGuess c).1) := by
        unfold putOne
        rw [Int.add_sub_cancel, Num.w64 (by omega) (by omega)]
      simp only [turnL]
      rw [e2, if_pos ⟨hL, inB_iff.2 ⟨by omega, by omega⟩⟩, ht, List.append_assoc]; rfl
    · cases h
theorem line_two (one : Int → Int → Int × Int) (xs : List Int) : ((lineOf one xs).2 = 0 ∨ (lineOf one xs).2 = 1600) ∧ (lineOf one xs).1.length ≤ 256 := by
  rcases line_cases one xs with ⟨o, e, _, h, h2⟩ | e
  · rw [e]; exact ⟨Or.inl rfl, by simp only; omega⟩
  · rw [e]; exact ⟨Or.inr rfl, by simp⟩
theorem line_put_back {xs : List Int} (h : (lineOf putOne xs).2 = 0) : lineOf getOne (lineOf putOne xs).1 = (xs, 0) := by
  rcases line_cases putOne xs with ⟨o, e, ht, hl, h2⟩ | e
  · obtain ⟨t, e1, h3⟩ := put_back xs chZero [] o lb_zero ht
    rw [e]
    rw [List.nil_append] at e1
    subst e1
    exact line_some (by show o.length ≤ 256; omega) (by rw [h3, List.nil_append])
  · rw [e] at h; cases h
theorem line_get_back {xs : List Int} (h : (lineOf getOne xs).2 = 0) : lineOf putOne (lineOf getOne xs).1 = (xs, 0) := by
  rcases line_cases getOne xs with ⟨o, e, ht, hl, h2⟩ | e
  · obtain ⟨t, e1, h3⟩ := get_back xs chZero [] o lb_zero ht
    rw [e]
    rw [List.nil_append] at e1
    subst e1
    exact line_some (by show o.length ≤ 256; omega) (by rw [h3, List.nil_append])
  · rw [e] at h; cases h
/-- SameInts of a list and itself. -/
theorem same_loopA (k : Nat) (l : List Int) (hl : l.length ≤ 17592186044416) (d : Nat) : ∀ i : Nat, i + d = l.length → descantlaw0_SameInts.l0 (k + d + 1) l l i = some true := by
  induction d with
  | zero =>
    intro i hi
    simp only [descantlaw0_SameInts.l0]
    rw [if_neg (by omega)]
  | succ d ih =>
    intro i hi
    obtain ⟨m, hm⟩ : ∃ m, m = k + d + 1 := ⟨_, rfl⟩
    rw [show k + (d + 1) + 1 = m + 1 by omega]
    simp only [descantlaw0_SameInts.l0]
    rw [hm, if_pos (by omega), if_pos (by omega), if_pos (by omega), if_pos trivial, Num.w64 (n := (i : Int) + 1) (by omega) (by omega)]
    have := ih (i + 1) (by omega)
    rw [show ((i + 1 : Nat) : Int) = (i : Int) + 1 by omega] at this
    exact this
theorem same_selfA (l : List Int) (hl : l.length ≤ 17592186044416) : descantlaw0_SameInts.f (l.length + 1) l l = some true := by
  unfold descantlaw0_SameInts.f
  rw [if_pos rfl, show l.length + 1 = 0 + l.length + 1 by omega]
  exact same_loopA _ l hl l.length 0 (by omega)
theorem spoil_loop (k : Nat) (d : Nat) : ∀ (i : Nat) (l : List Int), l.length ≤ 17592186044416 → i + d = l.length → ∃ r, descantlaw0_SpoilInts.l0 (k + d + 1) l i = some r := by
  induction d with
  | zero =>
    intro i l hl hi
    simp only [descantlaw0_SpoilInts.l0]
    rw [if_neg (by omega)]
    exact ⟨_, rfl⟩
  | succ d ih =>
    intro i l hl hi
    obtain ⟨m, hm⟩ : ∃ m, m = k + d + 1 := ⟨_, rfl⟩
    rw [show k + (d + 1) + 1 = m + 1 by omega]
    simp only [descantlaw0_SpoilInts.l0]
    rw [hm, if_pos (by omega), if_pos (by omega), Num.w64 (n := (i : Int) + 1) (by omega) (by omega)]
    obtain ⟨r, this⟩ := ih (i + 1) (l.set (i : Int).toNat (wrap64 ((-9) - (rd l i)))) (by rw [List.length_set]; omega) (by rw [List.length_set]; omega)
    rw [show ((i + 1 : Nat) : Int) = (i : Int) + 1 by omega] at this
    exact ⟨r, this⟩
theorem spoil_some (l : List Int) (hl : l.length ≤ 17592186044416) : ∃ r, descantlaw0_SpoilInts.f (l.length + 1) l = some r := by
  unfold descantlaw0_SpoilInts.f
  have := spoil_loop 0 l.length 0 l hl (by omega)
  rw [Nat.zero_add] at this
  exact this
theorem lend_some (l : List Int) (hl : l.length + 2 < 17592186044416) : descantlaw0_LendInts.f l = some l := by
  have h1 : descantlaw0_CopyInts.f l = some l := by
    simp only [descantlaw0_CopyInts.f, Option.bind_some, List.length_nil, List.nil_append]
    rw [if_pos (by omega)]
  simp only [descantlaw0_LendInts.f, h1, Option.bind_some]
  rw [if_pos (by simpa using hl), if_pos (by omega), if_pos (by simp; omega)]
  simp
end Go.Proofs.Ytpojgfpfkfjegaa.PAll
