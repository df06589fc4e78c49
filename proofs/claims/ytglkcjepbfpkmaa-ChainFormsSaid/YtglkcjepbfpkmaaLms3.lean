/- Layer 14: the statements' first look ('awake'): it answers true. -/
import Derived.Test.YtglkcjepbfpkmaaLmsV
namespace Go.Proofs.Ytglkcjepbfpkmaa.PAll
open Go Go.RowKit Go.Proofs.YtglkcjepbfpkmaaW.PrintWords Go.Proofs.YtglkcjepbfpkmaaW.PrintMore Go.Proofs.YtglkcjepbfpkmaaW.PrintLast
set_option linter.unusedVariables false
set_option linter.unusedSimpArgs false
attribute [-go_sem] Instr.loadAt Instr.storeAt
attribute [local go_sem high] shut16 set16_0 set16_1 set16_2 set16_3 set16_4 set16_5 set16_6 set16_7 set16_8 set16_9 set16_10 set16_11 set16_12 set16_13 set16_14 set16_15 equal_lms2 load_new_lms store_new_lms load_word store_word
abbrev lA : Lms := mk16 4096 0 0 0 0 0 0 0 7 (-3) 0 0 0 0 0 0
abbrev lB : Lms := mk16 4112 (-16) 0 0 0 0 0 0 9 7 (-3) 0 0 0 0 0
abbrev lC : Lms := mk16 1048577 0 0 0 0 0 0 0 0 0 0 0 0 0 0 0
theorem aw1 : lmsGuess lA = (7, 0) := by decide +kernel
theorem aw2 : (lmsLearn lA 9).1.c = lB.c := by kernel_rfl
theorem aw3 : (lmsLearn lA 9).2 = 0 := by kernel_rfl
theorem aw4 : lmsGuess lC = (0, 1400) := by decide +kernel
theorem aw5 : (lmsLearn lA 4194305).2 = 1400 := by kernel_rfl
theorem aw6 : lmsMay lB = true := by decide +kernel
theorem aw7 : lmsEq lB lB = true := lmsEq_c rfl
set_option maxHeartbeats 20000000 in
theorem awake14_calls (W : World) : Calls Try.prog 21 #[] W fun e W' => e = .returned (.bool true) ∧ Below W.heap.size W W' := by
  go_enter Try.func21, Try.ntmps21
  go_wp2_with fail
  refine (guess_c lA _).mono ?_
  rintro e w1 ⟨rfl, hb1⟩
  rw [aw1]
  have B1 := Lib.hid (blk_below (blk_new W _) hb1)
  have H1 := Lib.hid (below_step (below_alloc (Below.refl W.heap.size W) _) hb1)
  clear hb1
  have z1 : W.heap.size < w1.heap.size := blk_lt B1.out
  have k1 := load_lms B1.out
  have k1a := fun o => load_lms (blk_alloc B1.out o)
  go_wp2_with fail
  refine (learn_c lA _ _).mono ?_
  rintro e w2 ⟨rfl, hb2⟩
  rw [aw2, aw3]
  clear k1 k1a
  have B2 := Lib.hid (blk_below B1.out hb2)
  have H2 := Lib.hid (below_step H1.out hb2)
  clear hb2 B1 H1 z1
  have z2 : W.heap.size < w2.heap.size := blk_lt B2.out
  have k2 := load_lms B2.out
  have k2a := fun o => load_lms (blk_alloc B2.out o)
  go_wp2_with fail
  refine (guess_c lC _).mono ?_
  rintro e w3 ⟨rfl, hb3⟩
  rw [aw4]
  clear k2 k2a
  have B3 := Lib.hid (blk_below (blk_alloc B2.out _) hb3)
  have D3 := Lib.hid (blk_below (blk_new w2 _) hb3)
  have H3 := Lib.hid (below_step (below_alloc H2.out _) hb3)
  clear hb3 B2 H2
  obtain ⟨n2, hn2⟩ : ∃ n, n = w2.heap.size := ⟨_, rfl⟩
  simp only [← hn2] at D3 z2 ⊢
  have z3 : n2 < w3.heap.size := blk_lt D3.out
  clear hn2
  have k3 := load_lms B3.out
  have k3a := fun o => load_lms (blk_alloc B3.out o)
  have l3 := load_lms D3.out
  have l3a := fun o => load_lms (blk_alloc D3.out o)
  go_wp2_with fail
  refine (learn_c lA _ _).mono ?_
  rintro e w4 ⟨rfl, hb4⟩
  rw [aw5]
  clear k3 k3a l3 l3a
  have B4 := Lib.hid (blk_below B3.out hb4)
  have D4 := Lib.hid (blk_below D3.out hb4)
  have H4 := Lib.hid (below_step H3.out hb4)
  clear hb4 B3 D3 H3
  have z4 : n2 < w4.heap.size := blk_lt D4.out
  have l4 := load_lms D4.out
  have l4a := fun o => load_lms (blk_alloc D4.out o)
  have q7 := aw7
  go_wp2_with (go_at_call 18; refine (num_calls _ _).mono ?_; rintro e w' ⟨rfl, rfl⟩)
  refine (may_c lB _).mono ?_
  rintro e w5 ⟨rfl, hb5⟩
  rw [aw6]
  have H5 := below_step (below_alloc H4.out _) hb5
  clear hb5
  go_wp2
  go_ret
  exact ⟨rfl, H5⟩

end Go.Proofs.Ytglkcjepbfpkmaa.PAll
