/- 'LineStill' of chapter 16: of samples that stay the residuals are soon 0. No condition. -/
import Derived.Test.YtpojgfpfkfjegaaPLinex2
import Derived.Test.YtpojgfpfkfjegaaLineLaw
namespace Go.Proofs.Ytpojgfpfkfjegaa.Pure
open Go.RowKit Go.Proofs.Ytpojgfpfkfjegaa.PLine Go.Proofs.Ytpojgfpfkfjegaa.PAll Go.Proofs.YtpojgfpfkfjegaaW.PrintWords Go.Proofs.YtpojgfpfkfjegaaW.PrintLast
set_option linter.unusedVariables false
set_option linter.unusedSimpArgs false

theorem st_guess {v : Int} {c : Chain} {k : Nat} (h1 : 0 ≤ v) (h2 : v ≤ 65535) (h : St v c k) : (chGuess c).1 = if k = 0 then 0 else v := by
  unfold chGuess
  rw [st_may h1 h2 h, if_pos rfl, one_guess h1 h2 h.2.1, one_guess h1 h2 h.2.2, h.1]
  simp
theorem still_rest {v : Int} (h1 : 0 ≤ v) (h2 : v ≤ 65535) : ∀ (n : Nat) (c : Chain) (k : Nat) (out : List Int), 0 < k → St v c k → turnL putOne (List.replicate n v) c out = some (out ++ List.replicate n 0)
  | 0, c, k, out, _, _ => by simp [turnL]
  | n + 1, c, k, out, hk, h => by
    obtain ⟨hs, he⟩ := st_step h1 h2 h
    have hg : (chGuess c).1 = v := by rw [st_guess h1 h2 h, if_neg (by omega)]
    rw [List.replicate_succ, turn_yes he (inB_iff.2 ⟨by omega, by omega⟩)]
    have hp : (putOne v (chGuess c).1).1 = 0 := by rw [hg]; show wrap64 (v - v) = 0; exact (Num.w64 (by omega) (by omega)).trans (by omega)
    rw [hp]
    have := still_rest h1 h2 n (chLearn c (putOne v (chGuess c).1).2).1 (k + 1) (out ++ [0]) (by omega) hs
    rw [this, List.append_assoc]
    rfl
theorem still_all {v : Int} (h1 : 0 ≤ v) (h2 : v ≤ 65535) (n : Nat) : turnL putOne (List.replicate (n + 1) v) chZero [] = some (v :: List.replicate n 0) := by
  obtain ⟨hs, he⟩ := st_step h1 h2 (st_zero v)
  have hg : (chGuess chZero).1 = 0 := by rw [st_guess h1 h2 (st_zero v), if_pos rfl]
  rw [List.replicate_succ, turn_yes he (inB_iff.2 ⟨by omega, by omega⟩)]
  have hp : (putOne v (chGuess chZero).1).1 = v := by rw [hg]; show wrap64 (v - 0) = v; exact (Num.w64 (by omega) (by omega)).trans (by omega)
  rw [hp]
  exact still_rest h1 h2 n _ 1 [v] (by omega) hs
theorem fill_set (v : Int) (i d : Nat) : (List.replicate i v ++ List.replicate (d + 1) (0 : Int)).set i v = List.replicate (i + 1) v ++ List.replicate d 0 := by
  rw [List.set_append_right _ _ (by simp), List.length_replicate, Nat.sub_self, List.replicate_succ (n := d), List.set_cons_zero, List.replicate_succ' (n := i), List.append_assoc]
  rfl
theorem zero_loop (k : Nat) (K : Nat) (v : Int) (hK : K ≤ 200) (d : Nat) : ∀ i : Nat, 1 ≤ i → i + d = K → descantlaw16_LineStill.l1 (k + d + 1) K (v :: List.replicate (K - 1) 0) i = some true := by
  induction d with
  | zero =>
    intro i hi0 hi
    simp only [descantlaw16_LineStill.l1]
    rw [if_neg (by omega)]
  | succ d ih =>
    intro i hi0 hi
    obtain ⟨m, hm⟩ : ∃ m, m = k + d + 1 := ⟨_, rfl⟩
    rw [show k + (d + 1) + 1 = m + 1 by omega]
    simp only [descantlaw16_LineStill.l1]
    rw [hm]
    have hr : rd (v :: List.replicate (K - 1) 0) (i : Int) = 0 := by
      obtain ⟨m, rfl⟩ : ∃ m, i = m + 1 := ⟨i - 1, by omega⟩
      simp only [rd, Int.toNat_natCast]
      simp [List.getElem?_replicate]
      split <;> rfl
    rw [if_pos (by omega), if_pos (by omega), if_pos (by simp; omega), if_pos hr, Num.w64 (n := (i : Int) + 1) (by omega) (by omega)]
    have := ih (i + 1) (by omega) (by omega)
    rw [show ((i + 1 : Nat) : Int) = (i : Int) + 1 by omega] at this
    exact this
theorem fill_loop (v : Int) (h1 : 0 ≤ v) (h2 : v ≤ 65535) (K : Nat) (hK0 : 30 ≤ K) (hK : K ≤ 200) (d : Nat) : ∀ i : Nat, i + d = K → descantlaw16_LineStill.l0 (300 + d) v K (List.replicate i v ++ List.replicate d 0) i = some true := by
  induction d with
  | zero =>
    intro i hi
    obtain rfl : i = K := by omega
    obtain ⟨m1, hm1⟩ : ∃ m1, m1 = 298 := ⟨_, rfl⟩
    rw [show 300 + 0 = (m1 + 1) + 1 by omega]
    simp only [descantlaw16_LineStill.l0]
    rw [if_neg (by omega)]
    simp only [line_Put.f, Option.bind_some, List.replicate_zero, List.append_nil]
    obtain ⟨m, rfl⟩ : ∃ m, i = m + 1 := ⟨i - 1, by omega⟩
    rw [line_some (by simp; omega) (still_all h1 h2 m)]
    simp only [descantlaw0_Num.f, Option.bind_some]
    rw [if_pos trivial, if_pos (by simp), if_pos (by simp), show ((rd (v :: List.replicate m 0) 0) != v) = false by simp [rd]]
    simp only [descantlaw16_LineStill.j1]
    rw [if_neg (by decide)]
    have := zero_loop (298 - (m + 1 - 20) - 1) (m + 1) v (by omega) (m + 1 - 20) 20 (by omega) (by omega)
    rw [show 298 - (m + 1 - 20) - 1 + (m + 1 - 20) + 1 = m1 by omega] at this
    exact this
  | succ d ih =>
    intro i hi
    obtain ⟨m, hm⟩ : ∃ m, m = 300 + d := ⟨_, rfl⟩
    rw [show 300 + (d + 1) = m + 1 by omega]
    simp only [descantlaw16_LineStill.l0]
    rw [hm]
    rw [if_pos (by omega), if_pos (by omega), if_pos (by simp; omega), Int.toNat_natCast, fill_set, Num.w64 (n := (i : Int) + 1) (by omega) (by omega)]
    have := ih (i + 1) (by omega)
    rw [show ((i + 1 : Nat) : Int) = (i : Int) + 1 by omega] at this
    exact this
theorem LineStill : descantlaw16_LineStill.Pure := by
  intro a0 a1 w0 w1
  have hx : Go.bits .and .i64 a0 65535 = a0 % 65536 := Num.and_mask a0 65535 16 (by omega) (by rfl)
  have hm : Go.bits .and .i64 a1 127 = a1 % 128 := Num.and_mask a1 127 7 (by omega) (by rfl)
  obtain ⟨K, hK⟩ : ∃ K : Nat, (K : Int) = 30 + a1 % 128 := ⟨(30 + a1 % 128).toNat, by omega⟩
  refine ⟨300 + K, ?_⟩
  unfold descantlaw16_LineStill.f
  rw [show 300 + K = (290 + K) + 10 by omega, awake16, show (290 + K) + 10 = 300 + K by omega]
  simp only [Option.bind_some, if_true]
  rw [hx, hm, Num.w64 (n := 30 + a1 % 128) (by omega) (by omega), ← hK, if_pos (by omega), if_pos (by omega), Int.toNat_natCast]
  have := fill_loop (a0 % 65536) (by omega) (by omega) K (by omega) (by omega) K 0 (by omega)
  simpa using this
end Go.Proofs.Ytpojgfpfkfjegaa.Pure
