/- Layer 14, LmsLearns: of a number again and again the guess comes near: the plain law and the walk. -/
import Derived.Test.YtglkcjepbfpkmaaLmsSteps
namespace Go.Proofs.Ytglkcjepbfpkmaa.PAll
open Go Go.RowKit Go.Proofs.YtglkcjepbfpkmaaW.PrintWords Go.Proofs.YtglkcjepbfpkmaaW.PrintMore Go.Proofs.YtglkcjepbfpkmaaW.PrintLast
set_option linter.unusedVariables false
set_option linter.unusedSimpArgs false
attribute [-go_sem] Instr.loadAt Instr.storeAt
attribute [local go_sem high] shut16 set16_0 set16_1 set16_2 set16_3 set16_4 set16_5 set16_6 set16_7 set16_8 set16_9 set16_10 set16_11 set16_12 set16_13 set16_14 set16_15 equal_lms2 load_new_lms store_new_lms load_word store_word

/-- After k times: the weights are those of t times, all numbers known are v. -/
def Rep (v : Int) (c : Lms) (k t : Nat) : Prop := ((k ≤ 37 → t = k) ∧ (37 < k → t = 36 ∨ t = 37)) ∧ (∀ j, j < 8 → c.h j = if j < k then v else 0) ∧ ∀ j, j < 8 → c.w j = 16 * ((t - 1 - j : Nat) : Int)
def sig (t : Nat) : Nat := (t - 1) + (t - 2) + (t - 3) + (t - 4) + (t - 5) + (t - 6) + (t - 7) + (t - 8)
theorem rep_dot {v : Int} {c : Lms} {k t : Nat} (h : Rep v c k t) : dot c.w c.h 8 = v * (16 * (sig t : Int)) := by
  obtain ⟨⟨h1, h2⟩, hh, hw⟩ := h
  have e : ∀ j, j < 8 → c.w j * c.h j = v * (16 * ((t - 1 - j : Nat) : Int)) := fun j hj => by
    rw [hw j hj, hh j hj]
    by_cases hk : j < k
    · rw [if_pos hk, Int.mul_comm]
    · rw [if_neg hk, show t - 1 - j = 0 by omega]; simp
  simp only [dot]
  rw [e 0 (by omega), e 1 (by omega), e 2 (by omega), e 3 (by omega), e 4 (by omega), e 5 (by omega), e 6 (by omega), e 7 (by omega)]
  simp only [Int.zero_add, ← Int.mul_add]
  congr 2
theorem rep_ok {v : Int} {c : Lms} {k t : Nat} (hv : 1 ≤ v) (hv2 : v ≤ 1024) (h : Rep v c k t) : lmsMay c = true := by
  obtain ⟨⟨h1, h2⟩, hh, hw⟩ := h
  refine may_yes (fun j hj => ?_)
  unfold okAt
  rw [Bool.and_eq_true, inB_iff, inB_iff, hw j hj, hh j hj]
  refine ⟨by omega, ?_⟩
  split <;> omega
theorem sig_le {t : Nat} (h : t ≤ 37) : sig t ≤ 260 := by unfold sig; omega
theorem rep_guess {v : Int} {c : Lms} {k t : Nat} (hv : 1 ≤ v) (hv2 : v ≤ 1024) (h : Rep v c k t) : (lmsGuess c).1 = v * (16 * (sig t : Int)) / 4096 := by
  unfold lmsGuess
  rw [rep_ok hv hv2 h, if_pos rfl, rep_dot h]
  have ht : t ≤ 37 := by obtain ⟨⟨h1, h2⟩, _⟩ := h; omega
  have hs := sig_le ht
  have m1 : v * (16 * (sig t : Int)) ≤ 1024 * (16 * 260) := Int.mul_le_mul hv2 (by omega) (by omega) (by omega)
  have m2 : 0 ≤ v * (16 * (sig t : Int)) := Int.mul_nonneg (by omega) (by omega)
  show clamp _ _ = _
  unfold clamp mn mx
  (repeat' split) <;> omega
theorem rep_zero (v : Int) : Rep v lmsZero 0 0 := ⟨⟨fun _ => rfl, fun h => by omega⟩, fun j _ => by rw [if_neg (by omega)]; rfl, fun j _ => by simp [lmsZero]⟩
theorem rep_step {v : Int} {c : Lms} {k t : Nat} (hv : 1 ≤ v) (hv2 : v ≤ 1024) (h : Rep v c k t) : ∃ t', Rep v (lmsLearn c v).1 (k + 1) t' := by
  have hm := rep_ok hv hv2 h
  have hg := rep_guess hv hv2 h
  rw [learn_yes_eq hm (inB_iff.2 ⟨by omega, by omega⟩)]
  obtain ⟨⟨h1, h2⟩, hh, hw⟩ := h
  have ht : t ≤ 37 := by omega
  have hH : ∀ j, j < 8 → (if j = 0 then v else c.h (j - 1)) = if j < k + 1 then v else 0 := fun j hj => by
    by_cases h0 : j = 0
    · rw [if_pos h0, if_pos (by omega)]
    · rw [if_neg h0, hh (j - 1) (by omega)]
      by_cases hk : j - 1 < k
      · rw [if_pos hk, if_pos (by omega)]
      · rw [if_neg hk, if_neg (by omega)]
  have hS : ∀ j, j < 8 → sgn (c.h j) = if j < k then 1 else 0 := fun j hj => by
    rw [hh j hj]; unfold sgn; (repeat' split) <;> omega
  have key : ∀ s : Int, sgn (v - (lmsGuess c).1) = s → -1 ≤ s → s ≤ 1 → ∀ t', (∀ j, j < 8 → 16 * ((t - 1 - j : Nat) : Int) + (if j < k then 16 * s else 0) = 16 * ((t' - 1 - j : Nat) : Int)) → ∀ j, j < 8 → newW c v j = 16 * ((t' - 1 - j : Nat) : Int) := fun s hs s1 s2 t' e j hj => by
    unfold newW
    rw [hs, hS j hj, hw j hj, ← e j hj]
    have q : (16 * s * if j < k then 1 else 0) = if j < k then 16 * s else 0 := by split <;> simp
    rw [q]
    unfold clamp mn mx
    (repeat' split) <;> omega
  have low : ∀ n : Nat, n ≤ 36 → v * (16 * (sig n : Int)) / 4096 < v := fun n hn => by
    have : sig n ≤ 252 := by unfold sig; omega
    have m : v * (16 * (sig n : Int)) ≤ v * (16 * 252) := Int.mul_le_mul_of_nonneg_left (by omega) (by omega)
    omega
  have s1 : ∀ n : Nat, n ≤ 36 → t = n → sgn (v - (lmsGuess c).1) = 1 := fun n hn e => by
    have := low n hn
    rw [hg, e]; unfold sgn; rw [if_pos (by omega)]
  by_cases hk : k < 37
  · have e : t = k := h1 (by omega)
    exact ⟨k + 1, ⟨fun _ => rfl, fun h => by omega⟩, hH, key 1 (s1 k (by omega) e) (by omega) (by omega) (k + 1) (fun j hj => by split <;> omega)⟩
  · have all : ∀ j, j < 8 → j < k := fun j hj => by omega
    rcases show t = 36 ∨ t = 37 by omega with e | e
    · exact ⟨37, ⟨fun h => by omega, fun _ => Or.inr rfl⟩, hH, key 1 (s1 36 (by omega) e) (by omega) (by omega) 37 (fun j hj => by rw [if_pos (all j hj)]; omega)⟩
    · have g : (lmsGuess c).1 = v * 4160 / 4096 := by rw [hg, e]; rfl
      by_cases hb : v < 64
      · exact ⟨37, ⟨fun h => by omega, fun _ => Or.inr rfl⟩, hH, key 0 (by rw [g]; unfold sgn; rw [if_neg (by omega), if_neg (by omega)]) (by omega) (by omega) 37 (fun j hj => by rw [if_pos (all j hj)]; omega)⟩
      · exact ⟨36, ⟨fun h => by omega, fun _ => Or.inl rfl⟩, hH, key (-1) (by rw [g]; unfold sgn; rw [if_neg (by omega), if_pos (by omega)]) (by omega) (by omega) 36 (fun j hj => by rw [if_pos (all j hj)]; omega)⟩
theorem rep_near {v : Int} {c : Lms} {t : Nat} (hv : 1 ≤ v) (hv2 : v ≤ 1024) (h : Rep v c 80 t) : v - v / 8 - 2 ≤ (lmsGuess c).1 ∧ (lmsGuess c).1 ≤ v + v / 8 + 2 := by
  rw [rep_guess hv hv2 h]
  obtain ⟨⟨_, h2⟩, _⟩ := h
  rcases h2 (by omega) with e | e <;> rw [e]
  · show v - v / 8 - 2 ≤ v * 4032 / 4096 ∧ v * 4032 / 4096 ≤ v + v / 8 + 2
    omega
  · show v - v / 8 - 2 ≤ v * 4160 / 4096 ∧ v * 4160 / 4096 ≤ v + v / 8 + 2
    omega

set_option maxHeartbeats 8000000 in
theorem learns_walk (x : Int) (W : World) (_ : (Lit.int .i64 x).wf = true) : Calls Try.prog 6 #[.int .i64 x] W fun e W' => e = .returned (.bool true) ∧ Below W.heap.size W W' := by
  have hx : bits .and .i64 x 1023 = x % 1024 := Num.and_mask x 1023 10 (by omega) (by rfl)
  obtain ⟨r, hr⟩ : ∃ r, r = x % 1024 := ⟨_, rfl⟩
  have r1 : 0 ≤ r ∧ r < 1024 := by omega
  rw [← hr] at hx
  obtain ⟨r1, r2⟩ := r1
  clear hr
  go_enter Try.func6, Try.ntmps6
  go_wp2_with fail
  refine (awake14_calls _).mono ?_
  rintro e w1 ⟨rfl, hb1⟩
  have H1 := Lib.hid (below_step (Below.refl W.heap.size W) hb1)
  clear hb1
  go_wp2_with fail
  have B2 := Lib.hid (blk_new w1 (.cells lmsZero.c 24))
  have H2 := Lib.hid (below_alloc H1.out (.cells lmsZero.c 24))
  obtain ⟨n, hn⟩ : ∃ n, n = w1.heap.size := ⟨_, rfl⟩
  have hWn : W.heap.size ≤ n := hn ▸ H1.out.size
  simp only [← hn] at B2 ⊢
  clear hn H1
  obtain ⟨v, hv⟩ : ∃ v, v = 1 + r := ⟨_, rfl⟩
  have v1 : 1 ≤ v ∧ v ≤ 1024 := by omega
  rw [← hv]
  obtain ⟨v1, v2⟩ := v1
  clear hv r1 r2 hx
  go_loopw [5] (fun i wr => ∃ (k : Nat) (c : Lms), k ≤ 80 ∧ i = .int .i64 k ∧ Hid (∃ t, Rep v c k t) ∧ Hid (wr.heap[n]? = some (.cells c.c 24 (0, 0))) ∧ Hid (Below W.heap.size W wr)) (fun i _ => 80 - (intOf i).toNat)
  case atStart => exact ⟨0, lmsZero, by omega, rfl, Lib.hid ⟨0, rep_zero v⟩, B2, H2⟩
  case round =>
    obtain ⟨k, c, hk, rfl, hR, bk, hB⟩ := hrel
    have z3 : n < wr.heap.size := blk_lt bk.out
    have k1 := load_lms bk.out
    by_cases hlt : k < 80
    · go_wp2_with fail
      refine (learn_c c v _).mono ?_
      rintro e w2 ⟨rfl, hb2⟩
      obtain ⟨t, ht⟩ := hR.out
      have hR2 := Lib.hid (rep_step v1 v2 ht)
      rw [show (lmsLearn c v).2 = 0 by rw [learn_yes_eq (rep_ok v1 v2 ht) (inB_iff.2 ⟨by omega, by omega⟩)]]
      obtain ⟨m, hm⟩ : ∃ m, m = (lmsLearn c v).1 := ⟨_, rfl⟩
      rw [← hm] at hR2 ⊢
      clear hm ht hR k1
      have B3 := Lib.hid (blk_below bk.out hb2)
      have H3 := Lib.hid (below_step hB.out hb2)
      have s3 := fun o m => store_lms (blk_alloc B3.out o) m
      clear hb2 bk hB
      go_wp2_with (go_at_call 18; refine (num_calls _ _).mono ?_; rintro e w' ⟨rfl, rfl⟩)
      go_roundw
      case rel => exact ⟨k + 1, m, by omega, by go_num, hR2, Lib.hid (setRow_heap _ _ _ _ _ _ (blk_alloc B3.out _)), Lib.hid (below_row (below_alloc H3.out _) hWn _)⟩
      case measure => simp [intOf]; omega
    · obtain rfl : k = 80 := by omega
      go_wp2_with fail
      refine (guess_c c _).mono ?_
      rintro e w2 ⟨rfl, hb2⟩
      obtain ⟨t, ht⟩ := hR.out
      have hn := rep_near v1 v2 ht
      rw [show (lmsGuess c).2 = 0 by unfold lmsGuess; rw [rep_ok v1 v2 ht]; rfl]
      obtain ⟨g, hg⟩ : ∃ g, g = (lmsGuess c).1 := ⟨_, rfl⟩
      rw [← hg] at hn ⊢
      obtain ⟨n1, n2⟩ := hn
      have H3 := Lib.hid (below_step hB.out hb2)
      clear hb2 hg ht hR k1
      go_wp2_with (go_at_call 18; refine (num_calls _ _).mono ?_; rintro e w' ⟨rfl, rfl⟩)
      all_goals
        go_ret
        exact ⟨rfl, H3.out⟩
end Go.Proofs.Ytglkcjepbfpkmaa.PAll
