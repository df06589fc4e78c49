/- Layer 15, ChainBounds: whatever samples it learns it may be, and its guess is off by no more than it may: the walk. -/
import Derived.Test.YtglkcjepbfpkmaaChAwake
import Derived.Test.YtglkcjepbfpkmaaLmsHist2
namespace Go.Proofs.Ytglkcjepbfpkmaa.PAll
open Go Go.RowKit Go.Proofs.YtglkcjepbfpkmaaW.PrintWords Go.Proofs.YtglkcjepbfpkmaaW.PrintMore Go.Proofs.YtglkcjepbfpkmaaW.PrintLast
set_option linter.unusedVariables false
set_option linter.unusedSimpArgs false
attribute [-go_sem] Instr.loadAt Instr.storeAt Instr.build
attribute [local go_sem high] shut33 shut16 ch_set0 equal_lms2 equal_ch2 load_new_lms store_new_lms load_new_ch store_new_ch load_word store_word build_ch0 build_ch1 build_ch3
attribute [local go_sem] max2_int min2_int max_two min_two
theorem chMay_zero : chMay chZero = true := by decide +kernel
theorem chLearn_may {c : Chain} {x : Int} (hm : chMay c = true) (h1 : -131072 ≤ x) (h2 : x ≤ 131072) : chMay (chLearn c x).1 = true ∧ (chLearn c x).2 = 0 ∧ (chLearn c x).1.last = x := by
  obtain ⟨m0, mA, mB⟩ := chMay_iff.1 hm
  obtain ⟨l1, l2⟩ := inB_iff.1 m0
  obtain ⟨p1, p2⟩ := guess_in c.a
  have e : chLearn c x = (⟨x, (lmsLearn c.a (x - c.last)).1, (lmsLearn c.b (x - c.last - (lmsGuess c.a).1)).1⟩, 0) := by
    unfold chLearn; rw [if_pos ⟨hm, inB_iff.2 ⟨by omega, by omega⟩⟩]
  rw [e]
  refine ⟨?_, rfl, rfl⟩
  rw [chMay_iff]
  exact ⟨inB_iff.2 ⟨by show -131072 ≤ x; omega, by show x ≤ 131072; omega⟩, learn_may mA (inB_iff.2 ⟨by omega, by omega⟩), learn_may mB (inB_iff.2 ⟨by omega, by omega⟩)⟩
theorem chGuess_in {c : Chain} (hm : chMay c = true) : (chGuess c).2 = 0 ∧ -2228224 ≤ (chGuess c).1 ∧ (chGuess c).1 ≤ 2228224 := by
  obtain ⟨m0, mA, mB⟩ := chMay_iff.1 hm
  obtain ⟨l1, l2⟩ := inB_iff.1 m0
  obtain ⟨p1, p2⟩ := guess_in c.a
  obtain ⟨q1, q2⟩ := guess_in c.b
  unfold chGuess
  rw [if_pos hm]
  exact ⟨rfl, by show -2228224 ≤ _ + _ + _; omega, by show _ + _ + _ ≤ (2228224 : Int); omega⟩

set_option maxRecDepth 100000 in
set_option maxHeartbeats 16000000 in
theorem bounds_calls (a : Option Addr) (len cap : Nat) (zs : List Int) (W : World) (hz : Ints W a len cap zs) (hlen : len * 8 ≤ 140737488351232) : Calls Try.prog 11 #[.slice a len cap] W fun e W' => e = .returned (.bool true) ∧ Below W.heap.size W W' := by
  have Hz := Lib.hid hz
  clear hz
  go_enter Try.func11, Try.ntmps11
  go_wp2_with fail
  refine (awake15_calls _).mono ?_
  rintro e w1 ⟨rfl, hb1⟩
  have H1 := Lib.hid (below_step (Below.refl W.heap.size W) hb1)
  clear hb1
  go_wp2_with fail
  have B2 := Lib.hid (blk_new w1 (.cells chZero.c 44))
  have H2 := Lib.hid (below_alloc H1.out (.cells chZero.c 44))
  obtain ⟨n, hn⟩ : ∃ n, n = w1.heap.size := ⟨_, rfl⟩
  have hWn : W.heap.size ≤ n := hn ▸ H1.out.size
  simp only [← hn] at B2 ⊢
  clear hn H1
  go_loopw [4] (fun i wr => ∃ (k : Nat) (c : Chain), k ≤ len ∧ i = .int .i64 k ∧ Hid (chMay c = true) ∧ Hid (wr.heap[n]? = some (.cells c.c 44 (0, 0))) ∧ Hid (Below W.heap.size W wr)) (fun i _ => len - (intOf i).toNat)
  case atStart => exact ⟨0, chZero, by omega, rfl, Lib.hid chMay_zero, B2, H2⟩
  case round =>
    obtain ⟨k, c, hk, rfl, hM, bk, hB⟩ := hrel
    have z3 : n < wr.heap.size := blk_lt bk.out
    by_cases hlt : k < len ∧ k < 60
    · obtain ⟨l1, l2⟩ := hlt
      obtain ⟨x, rfl, hxb, hc⟩ := ints_below Hz.out hB.out l1
      obtain ⟨z, hz⟩ : ∃ z, z = zs.getD k 0 := ⟨_, rfl⟩
      rw [← hz] at hc
      have hm : bits .and .i64 z 262143 = z % 262144 := Num.and_mask _ 262143 18 (by omega) (by rfl)
      obtain ⟨r, hr⟩ : ∃ r, r = z % 262144 := ⟨_, rfl⟩
      have r1 : 0 ≤ r ∧ r < 262144 := by omega
      rw [← hr] at hm
      obtain ⟨r1, r2⟩ := r1
      obtain ⟨o, ho⟩ : ∃ o, bits .and .i64 (k : Int) 1 = o := ⟨_, rfl⟩
      have hk2 : (k : Int) < 60 := by omega
      clear hr hz
      go_wp2_with fail
      go_quiet (fail)
      have H3 := Lib.hid (below_drawn hB.out nq)
      have B3 : Hid ((wr.drewN nq).heap[n]? = some (.cells c.c 44 (0, 0))) := bk
      have z4 : n < (wr.drewN nq).heap.size := z3
      generalize wr.drewN nq = w3 at H3 B3 z4 ⊢
      generalize wrap64 ((r - 131072) * wrap64 (1 - bits .and .i64 (wrap64 (2 * o)) z)) = y
      clear bk hB hc z3 hm ho
      obtain ⟨t, ht⟩ : ∃ t, (if y < 131072 then y else 131072) = t := ⟨_, rfl⟩
      obtain ⟨X, hX⟩ : ∃ X, (if -131072 < t then t else -131072) = X := ⟨_, rfl⟩
      have X1 : -131072 ≤ X ∧ X ≤ 131072 := by
        rw [← hX, ← ht]; constructor <;> (repeat' split) <;> omega
      obtain ⟨X1, X2⟩ := X1
      have k3 := load_ch B3.out
      go_wp2_with fail
      refine (chGuess_c c _).mono ?_
      rintro e w4 ⟨rfl, hb⟩
      have G := chGuess_in hM.out
      rw [G.1]
      obtain ⟨g, hg⟩ : ∃ g, g = (chGuess c).1 := ⟨_, rfl⟩
      rw [← hg] at G ⊢
      obtain ⟨_, g1, g2⟩ := G
      have B4 := Lib.hid (blk_below B3.out hb)
      have H4 := Lib.hid (below_step H3.out hb)
      clear hb k3 B3 H3 z4 ht hX hg
      have k4 := load_ch B4.out
      go_wp2_with fail
      refine (chLearn_c c X _).mono ?_
      rintro e w5 ⟨rfl, hb⟩
      have M := chLearn_may hM.out X1 X2
      rw [M.2.1]
      obtain ⟨m, hm⟩ : ∃ m, m = (chLearn c X).1 := ⟨_, rfl⟩
      rw [← hm] at M ⊢
      have M1 := Lib.hid M.1
      have M3 := M.2.2
      have B5 := Lib.hid (blk_below B4.out hb)
      have H5 := Lib.hid (below_step H4.out hb)
      clear hb k4 B4 H4 hm M
      go_wp2_with (go_at_call 18; refine (num_calls _ _).mono ?_; rintro e w' ⟨rfl, hw⟩; have hw := hw.symm; subst hw)
      refine (chMay_c m _).mono ?_
      rintro e w6 ⟨rfl, hb⟩
      rw [M1.out]
      have B6 := Lib.hid (blk_below (blk_alloc B5.out (.cells m.c 44)) hb)
      have D6 := Lib.hid (blk_below (blk_new w5 (.cells m.c 44)) hb)
      have H6 := Lib.hid (below_step (below_alloc H5.out (.cells m.c 44)) hb)
      clear hb B5 H5
      have z6 : w5.heap.size < w6.heap.size := blk_lt D6.out
      have c6 := (blk_cell D6.out 0).trans (ch_last m)
      rw [M3] at c6
      have k6 := load_ch D6.out
      have s6 := store_ch B6.out m
      clear M3
      have e1 : wrap64 (X - g) = X - g := Num.w64 (by omega) (by omega)
      have e2 : wrap64 (g - X) = g - X := Num.w64 (by omega) (by omega)
      have d1 : decide (X - g > 16777216) = false := decide_eq_false (by omega)
      have d2 : decide (g - X > 16777216) = false := decide_eq_false (by omega)
      go_wp2_with fail
      go_roundw
      case rel => exact ⟨k + 1, m, by omega, by go_num, M1, Lib.hid (blk_row B6.out _), Lib.hid (below_row H6.out hWn _)⟩
      case measure => simp [intOf]; omega
    · have k1 := load_ch bk.out
      go_wp2_with fail
      all_goals
        refine (refChMay_c c _).mono ?_
        rintro e w6 ⟨rfl, hb⟩
        rw [hM.out]
        have H6 := Lib.hid (below_step hB.out hb)
        clear hb
        go_wp2
        go_ret
        exact ⟨rfl, H6.out⟩
end Go.Proofs.Ytglkcjepbfpkmaa.PAll
