/- Layer 15, ChainStill: of a sample that stays the guess is that one: the plain law and the walk. -/
import Derived.Test.YtglkcjepbfpkmaaChAwake
namespace Go.Proofs.Ytglkcjepbfpkmaa.PAll
open Go Go.RowKit Go.Proofs.YtglkcjepbfpkmaaW.PrintWords Go.Proofs.YtglkcjepbfpkmaaW.PrintMore Go.Proofs.YtglkcjepbfpkmaaW.PrintLast
set_option linter.unusedVariables false
set_option linter.unusedSimpArgs false
attribute [-go_sem] Instr.loadAt Instr.storeAt Instr.build
attribute [local go_sem high] shut33 shut16 ch_set0 equal_lms2 equal_ch2 load_new_lms store_new_lms load_new_ch store_new_ch load_word store_word build_ch0 build_ch1 build_ch3
theorem build_z8 (w : World) : (Instr.build 22 #[]).run Try.prog w = .ok (.agg (A8 fun _ => 0)) w := by kernel_rfl
/-- One line behind k learned numbers, the first of which was v, the others 0. -/
def One (v : Int) (l : Lms) (k : Nat) : Prop := (∀ j, j < 8 → l.w j = 0) ∧ ∀ j, j < 8 → l.h j = if j + 1 = k then v else 0
theorem one_may {v : Int} {l : Lms} {k : Nat} (h1 : 0 ≤ v) (h2 : v ≤ 65535) (h : One v l k) : lmsMay l = true := by
  refine may_yes (fun j hj => ?_)
  unfold okAt
  rw [Bool.and_eq_true, inB_iff, inB_iff, h.1 j hj, h.2 j hj]
  refine ⟨by omega, ?_⟩
  split <;> omega
theorem one_guess {v : Int} {l : Lms} {k : Nat} (h1 : 0 ≤ v) (h2 : v ≤ 65535) (h : One v l k) : (lmsGuess l).1 = 0 := by
  unfold lmsGuess
  rw [one_may h1 h2 h, if_pos rfl]
  have e : dot l.w l.h 8 = 0 := by
    simp only [dot]
    rw [h.1 0 (by omega), h.1 1 (by omega), h.1 2 (by omega), h.1 3 (by omega), h.1 4 (by omega), h.1 5 (by omega), h.1 6 (by omega), h.1 7 (by omega)]
    simp
  rw [e]; rfl
theorem one_step {v : Int} {l : Lms} {k : Nat} (h1 : 0 ≤ v) (h2 : v ≤ 65535) (h : One v l k) (d : Int) (hd : d = if k = 0 then v else 0) : One v (lmsLearn l d).1 (k + 1) := by
  have hg := one_guess h1 h2 h
  rw [learn_yes_eq (one_may h1 h2 h) (inB_iff.2 (by rw [hd]; split <;> omega))]
  refine ⟨fun j hj => ?_, fun j hj => ?_⟩
  · show newW l d j = 0
    unfold newW
    rw [hg, h.1 j hj, h.2 j hj]
    by_cases hk : k = 0
    · rw [if_neg (show ¬ j + 1 = k by omega), show sgn 0 = 0 from rfl, Int.mul_zero]; rfl
    · rw [hd, if_neg hk, show sgn (0 - 0) = 0 from rfl, Int.mul_zero, Int.zero_mul]; rfl
  · show (if j = 0 then d else l.h (j - 1)) = if j + 1 = k + 1 then v else 0
    by_cases h0 : j = 0
    · rw [if_pos h0, hd]
      by_cases hk : k = 0
      · rw [if_pos hk, if_pos (by omega)]
      · rw [if_neg hk, if_neg (by omega)]
    · rw [if_neg h0, h.2 (j - 1) (by omega)]
      by_cases hk : j = k
      · rw [if_pos (by omega), if_pos (by omega)]
      · rw [if_neg (by omega), if_neg (by omega)]
/-- After k times the sample v. -/
def St (v : Int) (c : Chain) (k : Nat) : Prop := c.last = (if k = 0 then 0 else v) ∧ One v c.a k ∧ One v c.b k
theorem st_zero (v : Int) : St v chZero 0 := ⟨rfl, ⟨fun _ _ => rfl, fun j _ => by rw [if_neg (by omega)]; rfl⟩, ⟨fun _ _ => rfl, fun j _ => by rw [if_neg (by omega)]; rfl⟩⟩
theorem st_may {v : Int} {c : Chain} {k : Nat} (h1 : 0 ≤ v) (h2 : v ≤ 65535) (h : St v c k) : chMay c = true := by
  rw [chMay_iff]
  refine ⟨inB_iff.2 ?_, one_may h1 h2 h.2.1, one_may h1 h2 h.2.2⟩
  rw [h.1]; split <;> omega
theorem st_step {v : Int} {c : Chain} {k : Nat} (h1 : 0 ≤ v) (h2 : v ≤ 65535) (h : St v c k) : St v (chLearn c v).1 (k + 1) ∧ (chLearn c v).2 = 0 := by
  have e : chLearn c v = (⟨v, (lmsLearn c.a (v - c.last)).1, (lmsLearn c.b (v - c.last - (lmsGuess c.a).1)).1⟩, 0) := by
    unfold chLearn; rw [if_pos ⟨st_may h1 h2 h, inB_iff.2 ⟨by omega, by omega⟩⟩]
  have hd : v - c.last = if k = 0 then v else 0 := by rw [h.1]; split <;> omega
  rw [e]
  refine ⟨⟨by rw [if_neg (by omega)], one_step h1 h2 h.2.1 _ hd, ?_⟩, rfl⟩
  rw [one_guess h1 h2 h.2.1, Int.sub_zero]
  exact one_step h1 h2 h.2.2 _ hd
theorem st_end {v : Int} {c : Chain} {k : Nat} (h1 : 0 ≤ v) (h2 : v ≤ 65535) (h : St v c k) (hk : 8 < k) : chGuess c = (v, 0) ∧ eq8 c.a.h (fun _ => 0) = true := by
  refine ⟨?_, (eq8_iff _ _).2 (fun j hj => by rw [h.2.1.2 j hj, if_neg (by omega)])⟩
  unfold chGuess
  rw [st_may h1 h2 h, if_pos rfl, one_guess h1 h2 h.2.1, one_guess h1 h2 h.2.2, h.1, if_neg (by omega)]
  simp

set_option maxHeartbeats 8000000 in
theorem still_walk (x many : Int) (W : World) (_ : (Lit.int .i64 x).wf = true) (_ : (Lit.int .i64 many).wf = true) : Calls Try.prog 12 #[.int .i64 x, .int .i64 many] W fun e W' => e = .returned (.bool true) ∧ Below W.heap.size W W' := by
  have hx : bits .and .i64 x 65535 = x % 65536 := Num.and_mask x 65535 16 (by omega) (by rfl)
  have hm : bits .and .i64 many 31 = many % 32 := Num.and_mask many 31 5 (by omega) (by rfl)
  obtain ⟨v, hv⟩ : ∃ v, v = x % 65536 := ⟨_, rfl⟩
  have v1 : 0 ≤ v ∧ v ≤ 65535 := by omega
  rw [← hv] at hx
  obtain ⟨v1, v2⟩ := v1
  obtain ⟨K, hK⟩ : ∃ K : Nat, (K : Int) = many % 32 := ⟨(many % 32).toNat, by omega⟩
  have hK2 : K < 32 := by omega
  rw [← hK] at hm
  clear hv hK
  go_enter Try.func12, Try.ntmps12
  go_wp2_with fail
  refine (awake15_calls _).mono ?_
  rintro e w1 ⟨rfl, hb1⟩
  have H1 := Lib.hid (below_step (Below.refl W.heap.size W) hb1)
  clear hb1
  go_wp2_with fail
  have B2 := Lib.hid (blk_new w1 (.cells chZero.c 44))
  have H2 := Lib.hid (below_alloc H1.out (.cells chZero.c 44))
  obtain ⟨n, hn⟩ : ∃ n, n = w1.heap.size := ⟨_, rfl⟩
  have hWn : W.heap.size ≤ n := hn ▸ H1.out.size
  simp only [← hn] at B2 ⊢
  clear hn H1
  go_loopw [7] (fun i wr => ∃ (k : Nat) (c : Chain), k ≤ K + 1 ∧ i = .int .i64 k ∧ Hid (St v c (k)) ∧ Hid (wr.heap[n]? = some (.cells c.c 44 (0, 0))) ∧ Hid (Below W.heap.size W wr)) (fun i _ => K + 1 - (intOf i).toNat)
  case atStart => exact ⟨0, chZero, by omega, rfl, Lib.hid (st_zero v), B2, H2⟩
  case round =>
    obtain ⟨k, c, hk, rfl, hR, bk, hB⟩ := hrel
    have z3 : n < wr.heap.size := blk_lt bk.out
    have k1 := load_ch bk.out
    by_cases hlt : k < K + 1
    · go_wp2_with fail
      refine (chLearn_c c v _).mono ?_
      rintro e w2 ⟨rfl, hb2⟩
      have hR2 := Lib.hid (st_step v1 v2 hR.out).1
      rw [(st_step v1 v2 hR.out).2]
      obtain ⟨m, hm⟩ : ∃ m, m = (chLearn c v).1 := ⟨_, rfl⟩
      rw [← hm] at hR2 ⊢
      clear hm hR k1
      have B3 := Lib.hid (blk_below bk.out hb2)
      have H3 := Lib.hid (below_step hB.out hb2)
      have s3 := fun o m => store_ch (blk_alloc B3.out o) m
      clear hb2 bk hB
      go_wp2_with (go_at_call 18; refine (num_calls _ _).mono ?_; rintro e w' ⟨rfl, hw⟩; have hw := hw.symm; subst hw)
      go_roundw
      case rel => exact ⟨k + 1, m, by omega, by go_num, hR2, Lib.hid (blk_row (blk_alloc B3.out _) _), Lib.hid (below_row (below_alloc H3.out _) hWn _)⟩
      case measure => simp [intOf]; omega
    · obtain rfl : k = K + 1 := by omega
      go_wp2_with fail
      have hK3 : 1 ≤ K + 1 := by omega
      generalize K + 1 = K1 at *
      go_loopw [10] (fun i wr => ∃ (k : Nat) (c : Chain), k ≤ 40 ∧ i = .int .i64 k ∧ Hid (St v c (K1 + k)) ∧ Hid (wr.heap[n]? = some (.cells c.c 44 (0, 0))) ∧ Hid (Below W.heap.size W wr)) (fun i _ => 40 - (intOf i).toNat)
      case atStart => exact ⟨0, c, by omega, rfl, hR, bk, hB⟩
      case round =>
        clear hR bk hB k1
        obtain ⟨k, c, hk, rfl, hR, bk, hB⟩ := hrel
        have z3 : n < wr.heap.size := blk_lt bk.out
        have k1 := load_ch bk.out
        by_cases hlt : k < 40
        · go_wp2_with fail
          refine (chLearn_c c v _).mono ?_
          rintro e w2 ⟨rfl, hb2⟩
          have hR2 := Lib.hid (st_step v1 v2 hR.out).1
          rw [(st_step v1 v2 hR.out).2]
          obtain ⟨m, hm⟩ : ∃ m, m = (chLearn c v).1 := ⟨_, rfl⟩
          rw [← hm] at hR2 ⊢
          clear hm hR k1
          have B3 := Lib.hid (blk_below bk.out hb2)
          have H3 := Lib.hid (below_step hB.out hb2)
          have s3 := fun o m => store_ch (blk_alloc B3.out o) m
          clear hb2 bk hB
          go_wp2_with (go_at_call 18; refine (num_calls _ _).mono ?_; rintro e w' ⟨rfl, hw⟩; have hw := hw.symm; subst hw)
          go_roundw
          case rel => exact ⟨k + 1, m, by omega, by go_num, hR2, Lib.hid (blk_row (blk_alloc B3.out _) _), Lib.hid (below_row (below_alloc H3.out _) hWn _)⟩
          case measure => simp [intOf]; omega
        · obtain rfl : k = 40 := by omega
          have hE := st_end v1 v2 hR.out (by omega)
          have kh := load_chAh bk.out
          have eqh : ∀ w, (Op.equalIn 10000 22 (.agg (A8 c.a.h)) (.agg (A8 fun _ => 0))).run Try.prog w = .ok true w := fun w => by rw [equal_eight 9998 w, hE.2]
          go_wp2_with fail
          refine (chGuess_c c _).mono ?_
          rintro e w2 ⟨rfl, hb2⟩
          rw [hE.1]
          have B3 := Lib.hid (blk_below bk.out hb2)
          have H3 := Lib.hid (below_step hB.out hb2)
          have kh := load_chAh B3.out
          have bz := build_z8
          clear hb2 bk hB k1
          go_wp2_with (go_at_call 18; refine (num_calls _ _).mono ?_; rintro e w' ⟨rfl, hw⟩; have hw := hw.symm; subst hw)
          go_ret
          exact ⟨rfl, H3.out⟩
end Go.Proofs.Ytglkcjepbfpkmaa.PAll
