/- Layer 15: the statements' first look ('awake'): it answers true. -/
import Derived.Test.YtglkcjepbfpkmaaCh
namespace Go.Proofs.Ytglkcjepbfpkmaa.PAll
open Go Go.RowKit Go.Proofs.YtglkcjepbfpkmaaW.PrintWords Go.Proofs.YtglkcjepbfpkmaaW.PrintMore Go.Proofs.YtglkcjepbfpkmaaW.PrintLast
set_option linter.unusedVariables false
set_option linter.unusedSimpArgs false
attribute [-go_sem] Instr.loadAt Instr.storeAt Instr.build
attribute [local go_sem high] shut33 shut16 ch_set0 equal_lms2 equal_ch2 load_new_lms store_new_lms load_new_ch store_new_ch load_word store_word build_ch0 build_ch1 build_ch3
def cA : Chain := (chLearn chZero 5).1
abbrev cB : Chain := ⟨131073, lmsZero, lmsZero⟩
theorem cw1 : (chLearn chZero 5).2 = 0 := by decide +kernel
theorem cw2 : chGuess cA = (5, 0) := by decide +kernel
theorem cw3 : chGuess cB = (0, 1500) := by decide +kernel
theorem cw4 : (chLearn cA (-131073)).2 = 1500 := by decide +kernel
theorem cw5 : chMay cA = true := by decide +kernel
theorem cw6 : cA.last = 5 := by decide +kernel
theorem cw7 : cA.a.h 0 = 5 := by decide +kernel
theorem cw8 : cA.b.h 0 = 5 := by decide +kernel
set_option maxHeartbeats 8000000 in
theorem awake15_calls (W : World) : Calls Try.prog 28 #[] W fun e W' => e = .returned (.bool true) ∧ Below W.heap.size W W' := by
  go_enter Try.func28, Try.ntmps28
  go_wp2_with fail
  refine (chLearn_c chZero 5 _).mono ?_
  rintro e w1 ⟨rfl, hb⟩
  rw [cw1, show (chLearn chZero 5).1 = cA from rfl]
  have H1 := Lib.hid (below_step (Below.refl W.heap.size W) hb)
  clear hb
  go_wp2_with fail
  refine (chGuess_c cA _).mono ?_
  rintro e w2 ⟨rfl, hb⟩
  rw [cw2]
  have B2 := Lib.hid (blk_below (blk_new w1 (.cells cA.c 44)) hb)
  have H2 := Lib.hid (below_step (below_alloc H1.out (.cells cA.c 44)) hb)
  clear hb H1
  obtain ⟨n, hn⟩ : ∃ n, n = w1.heap.size := ⟨_, rfl⟩
  simp only [← hn] at B2 ⊢
  clear hn
  go_wp2_with fail
  refine (chGuess_c cB _).mono ?_
  rintro e w3 ⟨rfl, hb⟩
  rw [cw3]
  have B3 := Lib.hid (blk_below B2.out hb)
  have H3 := Lib.hid (below_step H2.out hb)
  clear hb B2 H2
  have k3 := load_ch B3.out
  go_wp2_with fail
  refine (chLearn_c cA (-131073) _).mono ?_
  rintro e w4 ⟨rfl, hb⟩
  rw [cw4]
  have B4 := Lib.hid (blk_below B3.out hb)
  have H4 := Lib.hid (below_step H3.out hb)
  clear hb B3 H3 k3
  have z4 : n < w4.heap.size := blk_lt B4.out
  have k4 := fun o => load_ch (blk_alloc B4.out o)
  have c1 := fun o => (blk_cell (blk_alloc B4.out o) 0).trans ((ch_last cA).trans (by rw [cw6]))
  have c2 := fun o => (blk_cell (blk_alloc B4.out o) 9).trans ((ch_ah cA (show 0 < 8 by omega)).trans (by rw [cw7]))
  have c3 := fun o => (blk_cell (blk_alloc B4.out o) 25).trans ((ch_bh cA (show 0 < 8 by omega)).trans (by rw [cw8]))
  go_wp2_with (go_at_call 18; refine (num_calls _ _).mono ?_; rintro e w' ⟨rfl, rfl⟩)
  refine (chMay_c cA _).mono ?_
  rintro e w5 ⟨rfl, hb⟩
  rw [cw5]
  have H5 := below_step (below_alloc H4.out _) hb
  go_wp2
  go_ret
  exact ⟨rfl, H5⟩
end Go.Proofs.Ytglkcjepbfpkmaa.PAll
