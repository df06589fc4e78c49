/- 'LineForms' of chapter 16: samples, residuals that may not be. No condition. -/
import Derived.Test.YtpojgfpfkfjegaaPLinex3
import Derived.Test.YtpojgfpfkfjegaaLineLaw
namespace Go.Proofs.Ytpojgfpfkfjegaa.Pure
open Go.RowKit Go.Proofs.Ytpojgfpfkfjegaa.PLine Go.Proofs.Ytpojgfpfkfjegaa.PAll Go.Proofs.YtpojgfpfkfjegaaW.PrintWords Go.Proofs.YtpojgfpfkfjegaaW.PrintLast
set_option linter.unusedVariables false
set_option linter.unusedSimpArgs false

theorem put_bad {xs : List Int} {j : Nat} (hj : j < xs.length) (h : xs.getD j 0 < -131072 ∨ 131072 < xs.getD j 0) : lineOf putOne xs = ([], 1600) := by
  rcases line_cases putOne xs with ⟨o, e, ht, hl, ho⟩ | e
  · have h2 : -131072 ≤ xs.getD j 0 ∧ xs.getD j 0 ≤ 131072 := learn_ok_in (turn_at xs chZero [] o j ht hj).2.1
    omega
  · exact e
theorem get_bad {xs : List Int} {j : Nat} (hj : j < xs.length) (h : xs.getD j 0 < -16777216 ∨ 16777216 < xs.getD j 0) : lineOf getOne xs = ([], 1600) := by
  rcases line_cases getOne xs with ⟨o, e, ht, hl, ho⟩ | e
  · have h2 := inB_iff.1 (turn_at xs chZero [] o j ht hj).2.2
    omega
  · exact e
theorem zero_guess {c : Chain} {k : Nat} (h : St 0 c k) : (chGuess c).1 = 0 := by
  unfold chGuess
  rw [st_may (by omega) (by omega) h, if_pos rfl, one_guess (by omega) (by omega) h.2.1, one_guess (by omega) (by omega) h.2.2, h.1]
  simp
theorem zero_chain : ∀ (n : Nat) (c : Chain) (k : Nat), St 0 c k → St 0 (chainL getOne (List.replicate n 0) c) (k + n)
  | 0, c, k, h => h
  | n + 1, c, k, h => by
    rw [List.replicate_succ]
    show St 0 (chainL getOne (List.replicate n 0) (chLearn c (getOne 0 (chGuess c).1).2).1) (k + (n + 1))
    rw [zero_guess h, show (getOne 0 0).2 = 0 from by decide +kernel, show k + (n + 1) = (k + 1) + n by omega]
    exact zero_chain n _ (k + 1) (st_step (by omega) (by omega) h).1
theorem get_bad2 {j : Nat} {V : Int} (hj : j < 8) (h1 : -140000 ≤ V) (h2 : V ≤ 140000) (h : V < -131072 ∨ 131072 < V) : lineOf getOne ((List.replicate 8 0).set j V) = ([], 1600) := by
  rcases line_cases getOne ((List.replicate 8 0).set j V) with ⟨o, e, ht, hl, ho⟩ | e
  · have h2 := (turn_at _ chZero [] o j ht (by simp; omega)).2.1
    have hst : ((List.replicate 8 (0 : Int)).set j V).take j = List.replicate j 0 := by
      rw [List.take_set_of_le (Nat.le_refl j), List.take_replicate, Nat.min_eq_left (by omega)]
    have hget : ((List.replicate 8 (0 : Int)).set j V).getD j 0 = V := by simp [hj]
    rw [hst, hget] at h2
    have hz := zero_chain j chZero 0 (st_zero 0)
    rw [Nat.zero_add] at hz
    have h3 : -131072 ≤ (getOne V (chGuess (chainL getOne (List.replicate j 0) chZero)).1).2 ∧ (getOne V (chGuess (chainL getOne (List.replicate j 0) chZero)).1).2 ≤ 131072 := learn_ok_in h2
    rw [zero_guess hz] at h3
    have h4 : (getOne V 0).2 = V := by show wrap64 (V + 0) = V; exact (Num.w64 (by omega) (by omega)).trans (by omega)
    omega
  · exact e
theorem long_bad (one : Int → Int → Int × Int) {n : Nat} (h : 256 < n) : lineOf one (List.replicate n 0) = ([], 1600) := line_long (by simp; omega)
theorem rd_two {A B t : Int} (ht : t = 0 ∨ t = 1) : rd [A, B] t = if t = 0 then A else B := by
  rcases ht with rfl | rfl <;> rfl
theorem LineForms : descantlaw16_LineForms.Pure := by
  intro a0 a1 w0 w1
  refine ⟨10, ?_⟩
  have hx : Go.bits .and .i64 a1 1023 = a1 % 1024 := Num.and_mask a1 1023 10 (by omega) (by rfl)
  have h7 : Go.bits .and .i64 a0 7 = a0 % 8 := Num.and_mask a0 7 3 (by omega) (by rfl)
  have h8 : Go.bits .and .i64 (a0 / 8) 1 = a0 / 8 % 2 := Num.and_mask (a0 / 8) 1 1 (by omega) (by rfl)
  obtain ⟨r, hr⟩ : ∃ r, r = a1 % 1024 := ⟨_, rfl⟩
  have r1 : 0 ≤ r ∧ r < 1024 := by omega
  obtain ⟨j, hj⟩ : ∃ j : Nat, (j : Int) = a0 % 8 := ⟨(a0 % 8).toNat, by omega⟩
  have hj8 : j < 8 := by omega
  obtain ⟨t, ht⟩ : ∃ t, t = a0 / 8 % 2 := ⟨_, rfl⟩
  have t2 : t = 0 ∨ t = 1 := by omega
  unfold descantlaw16_LineForms.f
  rw [show 10 = 0 + 10 from rfl, awake16]
  simp only [Option.bind_some, if_true]
  rw [hx, h7, h8, ← hr, ← hj, ← ht, Num.w64 (n := 1 + r) (by omega) (by omega), Num.w64 (n := -131072 - (1 + r)) (by omega) (by omega), Num.w64 (n := 131072 + (1 + r)) (by omega) (by omega), Num.w64 (n := -16777216 - (1 + r)) (by omega) (by omega), Num.w64 (n := 16777216 + (1 + r)) (by omega) (by omega), Num.w64 (n := 256 + (1 + r)) (by omega) (by omega), Int.toNat_natCast]
  obtain ⟨V, hV⟩ : ∃ V, V = rd [-131072 - (1 + r), 131072 + (1 + r)] t := ⟨_, rfl⟩
  obtain ⟨U, hU⟩ : ∃ U, U = rd [-16777216 - (1 + r), 16777216 + (1 + r)] t := ⟨_, rfl⟩
  obtain ⟨n, hn⟩ : ∃ n, n = (256 + (1 + r)).toNat := ⟨_, rfl⟩
  rw [← hV, ← hU, ← hn]
  rw [rd_two t2] at hV hU
  have V1 : V < -131072 ∨ 131072 < V := by split at hV <;> omega
  have V2 : -140000 ≤ V ∧ V ≤ 140000 := by split at hV <;> omega
  have U1 : U < -16777216 ∨ 16777216 < U := by split at hU <;> omega
  have e1 : lineOf putOne ((List.replicate 8 0).set j V) = ([], 1600) := put_bad (j := j) (by simp; omega) (by simpa [hj8] using V1)
  have e2 : lineOf getOne ((List.replicate 8 0).set j V) = ([], 1600) := get_bad2 hj8 V2.1 V2.2 V1
  have e3 : lineOf putOne (List.replicate n 0) = ([], 1600) := long_bad _ (by omega)
  have e4 : lineOf getOne (List.replicate n 0) = ([], 1600) := long_bad _ (by omega)
  have e5 : lineOf getOne (((List.replicate 8 0).set j V).set j U) = ([], 1600) := get_bad (j := j) (by simp; omega) (by simpa [hj8] using U1)
  simp only [line_Put.f, line_Get.f, descantlaw0_Num.f, Option.bind_some, e1, e2, e3, e4, e5]
  rw [if_pos (by omega), if_pos (by omega), if_pos (by simp; omega), if_pos (by omega), if_pos (by simp; omega), if_pos (by omega), if_pos (by omega), if_pos (by simp; omega)]
  simp
end Go.Proofs.Ytpojgfpfkfjegaa.Pure
