/- Layer 14, LmsForms: weights, numbers that may not be: the walk. -/
import Derived.Test.YtglkcjepbfpkmaaLmsHistory
namespace Go.Proofs.Ytglkcjepbfpkmaa.PAll
open Go Go.RowKit Go.Proofs.YtglkcjepbfpkmaaW.PrintWords Go.Proofs.YtglkcjepbfpkmaaW.PrintMore Go.Proofs.YtglkcjepbfpkmaaW.PrintLast
set_option linter.unusedVariables false
set_option linter.unusedSimpArgs false
attribute [-go_sem] Instr.loadAt Instr.storeAt
attribute [local go_sem high] shut16 set16_0 set16_1 set16_2 set16_3 set16_4 set16_5 set16_6 set16_7 set16_8 set16_9 set16_10 set16_11 set16_12 set16_13 set16_14 set16_15 equal_lms2 load_new_lms store_new_lms load_word store_word

abbrev lZ : Lms := mk16 0 0 0 0 0 0 0 0 0 0 0 0 0 0 0 0
def setW (l : Lms) (k : Nat) (v : Int) : Lms := ⟨fun j => if j = k then v else l.w j, l.h⟩
def setH (l : Lms) (k : Nat) (v : Int) : Lms := ⟨l.w, fun j => if j = k then v else l.h j⟩
theorem c_setW (l : Lms) {k : Nat} (hk : k < 8) (v : Int) : l.c.setIfInBounds k (.int .i64 v) = (setW l k v).c := c16_set l.w l.h k hk v
theorem c_setH (l : Lms) {k : Nat} (hk : k < 8) (v : Int) : l.c.setIfInBounds (8 + k) (.int .i64 v) = (setH l k v).c := c16_setH l.w l.h k hk v
theorem not_setW (l : Lms) {k : Nat} (hk : k < 8) {v : Int} (hv : v < -1048576 ∨ 1048576 < v) : lmsMay (setW l k v) = false := by
  refine may_no hk ?_
  unfold okAt inB
  rw [Bool.and_eq_false_iff]
  left
  show decide (-1048576 ≤ (if k = k then v else l.w k) ∧ (if k = k then v else l.w k) ≤ 1048576) = false
  rw [if_pos rfl]
  exact decide_eq_false (by omega)
theorem not_setH (l : Lms) {k : Nat} (hk : k < 8) {v : Int} (hv : v < -4194304 ∨ 4194304 < v) : lmsMay (setH l k v) = false := by
  refine may_no hk ?_
  unfold okAt inB
  rw [Bool.and_eq_false_iff]
  right
  show decide (-4194304 ≤ (if k = k then v else l.h k) ∧ (if k = k then v else l.h k) ≤ 4194304) = false
  rw [if_pos rfl]
  exact decide_eq_false (by omega)
theorem guess_no {m : Lms} (h : lmsMay m = false) : lmsGuess m = (0, 1400) := by unfold lmsGuess; rw [h]; rfl

set_option maxHeartbeats 16000000 in
theorem forms_calls (which x : Int) (W : World) (_ : (Lit.int .i64 which).wf = true) (_ : (Lit.int .i64 x).wf = true) : Calls Try.prog 4 #[.int .i64 which, .int .i64 x] W fun e W' => e = .returned (.bool true) ∧ Below W.heap.size W W' := by
  have hx : bits .and .i64 x 1023 = x % 1024 := Num.and_mask x 1023 10 (by omega) (by rfl)
  have h7 : bits .and .i64 which 7 = which % 8 := Num.and_mask which 7 3 (by omega) (by rfl)
  have h1 : bits .and .i64 which 1 = which % 2 := Num.and_mask which 1 1 (by omega) (by rfl)
  have h16 : bits .and .i64 (which / 16) 1 = which / 16 % 2 := Num.and_mask (which / 16) 1 1 (by omega) (by rfl)
  obtain ⟨r, hr⟩ : ∃ r, r = x % 1024 := ⟨_, rfl⟩
  have r1 : 0 ≤ r ∧ r < 1024 := by omega
  rw [← hr] at hx
  obtain ⟨r1, r2⟩ := r1
  obtain ⟨k, hk⟩ : ∃ k : Nat, (k : Int) = which % 8 := ⟨(which % 8).toNat, by omega⟩
  have k8 : k < 8 := by omega
  rw [← hk] at h7
  obtain ⟨t, ht⟩ : ∃ t, t = which % 2 := ⟨_, rfl⟩
  have t2 : t = 0 ∨ t = 1 := by omega
  rw [← ht] at h1
  obtain ⟨s, hs⟩ : ∃ s, s = which / 16 % 2 := ⟨_, rfl⟩
  have s2 : s = 0 ∨ s = 1 := by omega
  rw [← hs] at h16
  obtain ⟨g, hg⟩ : ∃ g, g = bits .and .i64 which 8 := ⟨_, rfl⟩
  have hg2 := hg.symm
  clear hg hr hk ht hs
  go_enter Try.func4, Try.ntmps4
  go_wp2_with fail
  refine (awake14_calls _).mono ?_
  rintro e w1 ⟨rfl, hb1⟩
  have H1 := Lib.hid (below_step (Below.refl W.heap.size W) hb1)
  have hWn : W.heap.size ≤ w1.heap.size := H1.out.size
  clear hb1
  have c1 := fun o => (blk_cell (blk_alloc (blk_new w1 (.cells lZ.c 24)) o) k).trans (c_w lZ k8)
  have c2 := fun o => (blk_cell (blk_alloc (blk_new w1 (.cells lZ.c 24)) o) (8 + k)).trans (c_h lZ k8)
  have f1 := fun o => blk_frozen (blk_alloc (blk_new w1 (.cells lZ.c 24)) o) k
  have f2 := fun o => blk_frozen (blk_alloc (blk_new w1 (.cells lZ.c 24)) o) (8 + k)
  by_cases hg8 : g = 8
  · rcases s2 with rfl | rfl <;> rcases t2 with rfl | rfl
    · have hm := Lib.hid (not_setW lZ k8 (v := -1048576 - (1 + r)) (by omega))
      obtain ⟨m, hmm⟩ : ∃ m, m = setW lZ k (-1048576 - (1 + r)) := ⟨_, rfl⟩
      have cm := c_setW lZ k8 (-1048576 - (1 + r))
      rw [← hmm] at cm
      rw [← hmm] at hm
      clear hmm
      have B2 := Lib.hid (blk_alloc (blk_new w1 (.cells m.c 24)) (.cells #[.int .i64 (-1048576 - (1 + r)), .int .i64 (1048576 + (1 + r))] 3))
      have H2 := Lib.hid (below_alloc (below_alloc H1.out (.cells m.c 24)) (.cells #[.int .i64 (-1048576 - (1 + r)), .int .i64 (1048576 + (1 + r))] 3))
      have l1 := fun o => load_lms (blk_alloc (blk_new w1 (.cells m.c 24)) o)
      go_wp2_with fail
      refine (guess_c m _).mono ?_
      rintro e w2 ⟨rfl, hb2⟩
      rw [guess_no hm.out]
      have B3 := Lib.hid (blk_below B2.out hb2)
      have H3 := Lib.hid (below_step H2.out hb2)
      clear hb2 B2 H2 l1 c1 c2 f1 f2 cm
      have l3 := load_lms B3.out
      go_wp2_with fail
      refine (learn_c m 5 _).mono ?_
      rintro e w3 ⟨rfl, hb3⟩
      rw [learn_no_eq (fun h => by rw [hm.out] at h; exact absurd h.1 (by decide))]
      have B4 := Lib.hid (blk_below B3.out hb3)
      have H4 := Lib.hid (below_step H3.out hb3)
      clear hb3 B3 H3 l3
      go_wp2_with fail
      refine (learn_c lZ (-4194304 - (1 + r)) _).mono ?_
      rintro e w4 ⟨rfl, hb4⟩
      rw [learn_no_eq (x := -4194304 - (1 + r)) (fun h => by have := inB_iff.1 h.2; omega)]
      have B5 := Lib.hid (blk_below (blk_alloc (blk_alloc B4.out (.cells lmsZero.c 24)) (.cells #[.int .i64 (-4194304 - (1 + r)), .int .i64 (4194304 + (1 + r))] 3)) hb4)
      have D5 := Lib.hid (blk_below (blk_alloc (blk_new w3 (.cells lmsZero.c 24)) (.cells #[.int .i64 (-4194304 - (1 + r)), .int .i64 (4194304 + (1 + r))] 3)) hb4)
      have H5 := Lib.hid (below_step (below_alloc (below_alloc H4.out (.cells lmsZero.c 24)) (.cells #[.int .i64 (-4194304 - (1 + r)), .int .i64 (4194304 + (1 + r))] 3)) hb4)
      clear hb4 B4 H4
      have z5 := blk_lt D5.out
      have l5 := fun o => load_lms (blk_alloc B5.out o)
      go_wp2_with (go_at_call 18; refine (num_calls _ _).mono ?_; rintro e w' ⟨rfl, rfl⟩)
      refine (may_c m _).mono ?_
      rintro e w6 ⟨rfl, hb6⟩
      rw [hm.out]
      have D6 := Lib.hid (blk_below (blk_alloc D5.out _) hb6)
      have H6 := Lib.hid (below_step (below_alloc H5.out _) hb6)
      have l6 := load_lms D6.out
      have q6 : lmsEq lmsZero lZ = true := lmsEq_c rfl
      clear hb6
      go_wp2_with (go_at_call 18; refine (num_calls _ _).mono ?_; rintro e w' ⟨rfl, rfl⟩)
      go_ret
      exact ⟨rfl, H6.out⟩
    · have hm := Lib.hid (not_setW lZ k8 (v := -1048576 - (1 + r)) (by omega))
      obtain ⟨m, hmm⟩ : ∃ m, m = setW lZ k (-1048576 - (1 + r)) := ⟨_, rfl⟩
      have cm := c_setW lZ k8 (-1048576 - (1 + r))
      rw [← hmm] at cm
      rw [← hmm] at hm
      clear hmm
      have B2 := Lib.hid (blk_alloc (blk_new w1 (.cells m.c 24)) (.cells #[.int .i64 (-1048576 - (1 + r)), .int .i64 (1048576 + (1 + r))] 3))
      have H2 := Lib.hid (below_alloc (below_alloc H1.out (.cells m.c 24)) (.cells #[.int .i64 (-1048576 - (1 + r)), .int .i64 (1048576 + (1 + r))] 3))
      have l1 := fun o => load_lms (blk_alloc (blk_new w1 (.cells m.c 24)) o)
      go_wp2_with fail
      refine (guess_c m _).mono ?_
      rintro e w2 ⟨rfl, hb2⟩
      rw [guess_no hm.out]
      have B3 := Lib.hid (blk_below B2.out hb2)
      have H3 := Lib.hid (below_step H2.out hb2)
      clear hb2 B2 H2 l1 c1 c2 f1 f2 cm
      have l3 := load_lms B3.out
      go_wp2_with fail
      refine (learn_c m 5 _).mono ?_
      rintro e w3 ⟨rfl, hb3⟩
      rw [learn_no_eq (fun h => by rw [hm.out] at h; exact absurd h.1 (by decide))]
      have B4 := Lib.hid (blk_below B3.out hb3)
      have H4 := Lib.hid (below_step H3.out hb3)
      clear hb3 B3 H3 l3
      go_wp2_with fail
      refine (learn_c lZ (4194304 + (1 + r)) _).mono ?_
      rintro e w4 ⟨rfl, hb4⟩
      rw [learn_no_eq (x := 4194304 + (1 + r)) (fun h => by have := inB_iff.1 h.2; omega)]
      have B5 := Lib.hid (blk_below (blk_alloc (blk_alloc B4.out (.cells lmsZero.c 24)) (.cells #[.int .i64 (-4194304 - (1 + r)), .int .i64 (4194304 + (1 + r))] 3)) hb4)
      have D5 := Lib.hid (blk_below (blk_alloc (blk_new w3 (.cells lmsZero.c 24)) (.cells #[.int .i64 (-4194304 - (1 + r)), .int .i64 (4194304 + (1 + r))] 3)) hb4)
      have H5 := Lib.hid (below_step (below_alloc (below_alloc H4.out (.cells lmsZero.c 24)) (.cells #[.int .i64 (-4194304 - (1 + r)), .int .i64 (4194304 + (1 + r))] 3)) hb4)
      clear hb4 B4 H4
      have z5 := blk_lt D5.out
      have l5 := fun o => load_lms (blk_alloc B5.out o)
      go_wp2_with (go_at_call 18; refine (num_calls _ _).mono ?_; rintro e w' ⟨rfl, rfl⟩)
      refine (may_c m _).mono ?_
      rintro e w6 ⟨rfl, hb6⟩
      rw [hm.out]
      have D6 := Lib.hid (blk_below (blk_alloc D5.out _) hb6)
      have H6 := Lib.hid (below_step (below_alloc H5.out _) hb6)
      have l6 := load_lms D6.out
      have q6 : lmsEq lmsZero lZ = true := lmsEq_c rfl
      clear hb6
      go_wp2_with (go_at_call 18; refine (num_calls _ _).mono ?_; rintro e w' ⟨rfl, rfl⟩)
      go_ret
      exact ⟨rfl, H6.out⟩
    · have hm := Lib.hid (not_setW lZ k8 (v := 1048576 + (1 + r)) (by omega))
      obtain ⟨m, hmm⟩ : ∃ m, m = setW lZ k (1048576 + (1 + r)) := ⟨_, rfl⟩
      have cm := c_setW lZ k8 (1048576 + (1 + r))
      rw [← hmm] at cm
      rw [← hmm] at hm
      clear hmm
      have B2 := Lib.hid (blk_alloc (blk_new w1 (.cells m.c 24)) (.cells #[.int .i64 (-1048576 - (1 + r)), .int .i64 (1048576 + (1 + r))] 3))
      have H2 := Lib.hid (below_alloc (below_alloc H1.out (.cells m.c 24)) (.cells #[.int .i64 (-1048576 - (1 + r)), .int .i64 (1048576 + (1 + r))] 3))
      have l1 := fun o => load_lms (blk_alloc (blk_new w1 (.cells m.c 24)) o)
      go_wp2_with fail
      refine (guess_c m _).mono ?_
      rintro e w2 ⟨rfl, hb2⟩
      rw [guess_no hm.out]
      have B3 := Lib.hid (blk_below B2.out hb2)
      have H3 := Lib.hid (below_step H2.out hb2)
      clear hb2 B2 H2 l1 c1 c2 f1 f2 cm
      have l3 := load_lms B3.out
      go_wp2_with fail
      refine (learn_c m 5 _).mono ?_
      rintro e w3 ⟨rfl, hb3⟩
      rw [learn_no_eq (fun h => by rw [hm.out] at h; exact absurd h.1 (by decide))]
      have B4 := Lib.hid (blk_below B3.out hb3)
      have H4 := Lib.hid (below_step H3.out hb3)
      clear hb3 B3 H3 l3
      go_wp2_with fail
      refine (learn_c lZ (-4194304 - (1 + r)) _).mono ?_
      rintro e w4 ⟨rfl, hb4⟩
      rw [learn_no_eq (x := -4194304 - (1 + r)) (fun h => by have := inB_iff.1 h.2; omega)]
      have B5 := Lib.hid (blk_below (blk_alloc (blk_alloc B4.out (.cells lmsZero.c 24)) (.cells #[.int .i64 (-4194304 - (1 + r)), .int .i64 (4194304 + (1 + r))] 3)) hb4)
      have D5 := Lib.hid (blk_below (blk_alloc (blk_new w3 (.cells lmsZero.c 24)) (.cells #[.int .i64 (-4194304 - (1 + r)), .int .i64 (4194304 + (1 + r))] 3)) hb4)
      have H5 := Lib.hid (below_step (below_alloc (below_alloc H4.out (.cells lmsZero.c 24)) (.cells #[.int .i64 (-4194304 - (1 + r)), .int .i64 (4194304 + (1 + r))] 3)) hb4)
      clear hb4 B4 H4
      have z5 := blk_lt D5.out
      have l5 := fun o => load_lms (blk_alloc B5.out o)
      go_wp2_with (go_at_call 18; refine (num_calls _ _).mono ?_; rintro e w' ⟨rfl, rfl⟩)
      refine (may_c m _).mono ?_
      rintro e w6 ⟨rfl, hb6⟩
      rw [hm.out]
      have D6 := Lib.hid (blk_below (blk_alloc D5.out _) hb6)
      have H6 := Lib.hid (below_step (below_alloc H5.out _) hb6)
      have l6 := load_lms D6.out
      have q6 : lmsEq lmsZero lZ = true := lmsEq_c rfl
      clear hb6
      go_wp2_with (go_at_call 18; refine (num_calls _ _).mono ?_; rintro e w' ⟨rfl, rfl⟩)
      go_ret
      exact ⟨rfl, H6.out⟩
    · have hm := Lib.hid (not_setW lZ k8 (v := 1048576 + (1 + r)) (by omega))
      obtain ⟨m, hmm⟩ : ∃ m, m = setW lZ k (1048576 + (1 + r)) := ⟨_, rfl⟩
      have cm := c_setW lZ k8 (1048576 + (1 + r))
      rw [← hmm] at cm
      rw [← hmm] at hm
      clear hmm
      have B2 := Lib.hid (blk_alloc (blk_new w1 (.cells m.c 24)) (.cells #[.int .i64 (-1048576 - (1 + r)), .int .i64 (1048576 + (1 + r))] 3))
      have H2 := Lib.hid (below_alloc (below_alloc H1.out (.cells m.c 24)) (.cells #[.int .i64 (-1048576 - (1 + r)), .int .i64 (1048576 + (1 + r))] 3))
      have l1 := fun o => load_lms (blk_alloc (blk_new w1 (.cells m.c 24)) o)
      go_wp2_with fail
      refine (guess_c m _).mono ?_
      rintro e w2 ⟨rfl, hb2⟩
      rw [guess_no hm.out]
      have B3 := Lib.hid (blk_below B2.out hb2)
      have H3 := Lib.hid (below_step H2.out hb2)
      clear hb2 B2 H2 l1 c1 c2 f1 f2 cm
      have l3 := load_lms B3.out
      go_wp2_with fail
      refine (learn_c m 5 _).mono ?_
      rintro e w3 ⟨rfl, hb3⟩
      rw [learn_no_eq (fun h => by rw [hm.out] at h; exact absurd h.1 (by decide))]
      have B4 := Lib.hid (blk_below B3.out hb3)
      have H4 := Lib.hid (below_step H3.out hb3)
      clear hb3 B3 H3 l3
      go_wp2_with fail
      refine (learn_c lZ (4194304 + (1 + r)) _).mono ?_
      rintro e w4 ⟨rfl, hb4⟩
      rw [learn_no_eq (x := 4194304 + (1 + r)) (fun h => by have := inB_iff.1 h.2; omega)]
      have B5 := Lib.hid (blk_below (blk_alloc (blk_alloc B4.out (.cells lmsZero.c 24)) (.cells #[.int .i64 (-4194304 - (1 + r)), .int .i64 (4194304 + (1 + r))] 3)) hb4)
      have D5 := Lib.hid (blk_below (blk_alloc (blk_new w3 (.cells lmsZero.c 24)) (.cells #[.int .i64 (-4194304 - (1 + r)), .int .i64 (4194304 + (1 + r))] 3)) hb4)
      have H5 := Lib.hid (below_step (below_alloc (below_alloc H4.out (.cells lmsZero.c 24)) (.cells #[.int .i64 (-4194304 - (1 + r)), .int .i64 (4194304 + (1 + r))] 3)) hb4)
      clear hb4 B4 H4
      have z5 := blk_lt D5.out
      have l5 := fun o => load_lms (blk_alloc B5.out o)
      go_wp2_with (go_at_call 18; refine (num_calls _ _).mono ?_; rintro e w' ⟨rfl, rfl⟩)
      refine (may_c m _).mono ?_
      rintro e w6 ⟨rfl, hb6⟩
      rw [hm.out]
      have D6 := Lib.hid (blk_below (blk_alloc D5.out _) hb6)
      have H6 := Lib.hid (below_step (below_alloc H5.out _) hb6)
      have l6 := load_lms D6.out
      have q6 : lmsEq lmsZero lZ = true := lmsEq_c rfl
      clear hb6
      go_wp2_with (go_at_call 18; refine (num_calls _ _).mono ?_; rintro e w' ⟨rfl, rfl⟩)
      go_ret
      exact ⟨rfl, H6.out⟩
  · rcases s2 with rfl | rfl <;> rcases t2 with rfl | rfl
    · have hm := Lib.hid (not_setH lZ k8 (v := -4194304 - (1 + r)) (by omega))
      obtain ⟨m, hmm⟩ : ∃ m, m = setH lZ k (-4194304 - (1 + r)) := ⟨_, rfl⟩
      have cm := c_setH lZ k8 (-4194304 - (1 + r))
      rw [← hmm] at cm
      rw [← hmm] at hm
      clear hmm
      have B2 := Lib.hid (blk_alloc (blk_new w1 (.cells m.c 24)) (.cells #[.int .i64 (-4194304 - (1 + r)), .int .i64 (4194304 + (1 + r))] 3))
      have H2 := Lib.hid (below_alloc (below_alloc H1.out (.cells m.c 24)) (.cells #[.int .i64 (-4194304 - (1 + r)), .int .i64 (4194304 + (1 + r))] 3))
      have l1 := fun o => load_lms (blk_alloc (blk_new w1 (.cells m.c 24)) o)
      go_wp2_with fail
      refine (guess_c m _).mono ?_
      rintro e w2 ⟨rfl, hb2⟩
      rw [guess_no hm.out]
      have B3 := Lib.hid (blk_below B2.out hb2)
      have H3 := Lib.hid (below_step H2.out hb2)
      clear hb2 B2 H2 l1 c1 c2 f1 f2 cm
      have l3 := load_lms B3.out
      go_wp2_with fail
      refine (learn_c m 5 _).mono ?_
      rintro e w3 ⟨rfl, hb3⟩
      rw [learn_no_eq (fun h => by rw [hm.out] at h; exact absurd h.1 (by decide))]
      have B4 := Lib.hid (blk_below B3.out hb3)
      have H4 := Lib.hid (below_step H3.out hb3)
      clear hb3 B3 H3 l3
      go_wp2_with fail
      refine (learn_c lZ (-4194304 - (1 + r)) _).mono ?_
      rintro e w4 ⟨rfl, hb4⟩
      rw [learn_no_eq (x := -4194304 - (1 + r)) (fun h => by have := inB_iff.1 h.2; omega)]
      have B5 := Lib.hid (blk_below (blk_alloc (blk_alloc B4.out (.cells lmsZero.c 24)) (.cells #[.int .i64 (-4194304 - (1 + r)), .int .i64 (4194304 + (1 + r))] 3)) hb4)
      have D5 := Lib.hid (blk_below (blk_alloc (blk_new w3 (.cells lmsZero.c 24)) (.cells #[.int .i64 (-4194304 - (1 + r)), .int .i64 (4194304 + (1 + r))] 3)) hb4)
      have H5 := Lib.hid (below_step (below_alloc (below_alloc H4.out (.cells lmsZero.c 24)) (.cells #[.int .i64 (-4194304 - (1 + r)), .int .i64 (4194304 + (1 + r))] 3)) hb4)
      clear hb4 B4 H4
      have z5 := blk_lt D5.out
      have l5 := fun o => load_lms (blk_alloc B5.out o)
      go_wp2_with (go_at_call 18; refine (num_calls _ _).mono ?_; rintro e w' ⟨rfl, rfl⟩)
      refine (may_c m _).mono ?_
      rintro e w6 ⟨rfl, hb6⟩
      rw [hm.out]
      have D6 := Lib.hid (blk_below (blk_alloc D5.out _) hb6)
      have H6 := Lib.hid (below_step (below_alloc H5.out _) hb6)
      have l6 := load_lms D6.out
      have q6 : lmsEq lmsZero lZ = true := lmsEq_c rfl
      clear hb6
      go_wp2_with (go_at_call 18; refine (num_calls _ _).mono ?_; rintro e w' ⟨rfl, rfl⟩)
      go_ret
      exact ⟨rfl, H6.out⟩
    · have hm := Lib.hid (not_setH lZ k8 (v := -4194304 - (1 + r)) (by omega))
      obtain ⟨m, hmm⟩ : ∃ m, m = setH lZ k (-4194304 - (1 + r)) := ⟨_, rfl⟩
      have cm := c_setH lZ k8 (-4194304 - (1 + r))
      rw [← hmm] at cm
      rw [← hmm] at hm
      clear hmm
      have B2 := Lib.hid (blk_alloc (blk_new w1 (.cells m.c 24)) (.cells #[.int .i64 (-4194304 - (1 + r)), .int .i64 (4194304 + (1 + r))] 3))
      have H2 := Lib.hid (below_alloc (below_alloc H1.out (.cells m.c 24)) (.cells #[.int .i64 (-4194304 - (1 + r)), .int .i64 (4194304 + (1 + r))] 3))
      have l1 := fun o => load_lms (blk_alloc (blk_new w1 (.cells m.c 24)) o)
      go_wp2_with fail
      refine (guess_c m _).mono ?_
      rintro e w2 ⟨rfl, hb2⟩
      rw [guess_no hm.out]
      have B3 := Lib.hid (blk_below B2.out hb2)
      have H3 := Lib.hid (below_step H2.out hb2)
      clear hb2 B2 H2 l1 c1 c2 f1 f2 cm
      have l3 := load_lms B3.out
      go_wp2_with fail
      refine (learn_c m 5 _).mono ?_
      rintro e w3 ⟨rfl, hb3⟩
      rw [learn_no_eq (fun h => by rw [hm.out] at h; exact absurd h.1 (by decide))]
      have B4 := Lib.hid (blk_below B3.out hb3)
      have H4 := Lib.hid (below_step H3.out hb3)
      clear hb3 B3 H3 l3
      go_wp2_with fail
      refine (learn_c lZ (4194304 + (1 + r)) _).mono ?_
      rintro e w4 ⟨rfl, hb4⟩
      rw [learn_no_eq (x := 4194304 + (1 + r)) (fun h => by have := inB_iff.1 h.2; omega)]
      have B5 := Lib.hid (blk_below (blk_alloc (blk_alloc B4.out (.cells lmsZero.c 24)) (.cells #[.int .i64 (-4194304 - (1 + r)), .int .i64 (4194304 + (1 + r))] 3)) hb4)
      have D5 := Lib.hid (blk_below (blk_alloc (blk_new w3 (.cells lmsZero.c 24)) (.cells #[.int .i64 (-4194304 - (1 + r)), .int .i64 (4194304 + (1 + r))] 3)) hb4)
      have H5 := Lib.hid (below_step (below_alloc (below_alloc H4.out (.cells lmsZero.c 24)) (.cells #[.int .i64 (-4194304 - (1 + r)), .int .i64 (4194304 + (1 + r))] 3)) hb4)
      clear hb4 B4 H4
      have z5 := blk_lt D5.out
      have l5 := fun o => load_lms (blk_alloc B5.out o)
      go_wp2_with (go_at_call 18; refine (num_calls _ _).mono ?_; rintro e w' ⟨rfl, rfl⟩)
      refine (may_c m _).mono ?_
      rintro e w6 ⟨rfl, hb6⟩
      rw [hm.out]
      have D6 := Lib.hid (blk_below (blk_alloc D5.out _) hb6)
      have H6 := Lib.hid (below_step (below_alloc H5.out _) hb6)
      have l6 := load_lms D6.out
      have q6 : lmsEq lmsZero lZ = true := lmsEq_c rfl
      clear hb6
      go_wp2_with (go_at_call 18; refine (num_calls _ _).mono ?_; rintro e w' ⟨rfl, rfl⟩)
      go_ret
      exact ⟨rfl, H6.out⟩
    · have hm := Lib.hid (not_setH lZ k8 (v := 4194304 + (1 + r)) (by omega))
      obtain ⟨m, hmm⟩ : ∃ m, m = setH lZ k (4194304 + (1 + r)) := ⟨_, rfl⟩
      have cm := c_setH lZ k8 (4194304 + (1 + r))
      rw [← hmm] at cm
      rw [← hmm] at hm
      clear hmm
      have B2 := Lib.hid (blk_alloc (blk_new w1 (.cells m.c 24)) (.cells #[.int .i64 (-4194304 - (1 + r)), .int .i64 (4194304 + (1 + r))] 3))
      have H2 := Lib.hid (below_alloc (below_alloc H1.out (.cells m.c 24)) (.cells #[.int .i64 (-4194304 - (1 + r)), .int .i64 (4194304 + (1 + r))] 3))
      have l1 := fun o => load_lms (blk_alloc (blk_new w1 (.cells m.c 24)) o)
      go_wp2_with fail
      refine (guess_c m _).mono ?_
      rintro e w2 ⟨rfl, hb2⟩
      rw [guess_no hm.out]
      have B3 := Lib.hid (blk_below B2.out hb2)
      have H3 := Lib.hid (below_step H2.out hb2)
      clear hb2 B2 H2 l1 c1 c2 f1 f2 cm
      have l3 := load_lms B3.out
      go_wp2_with fail
      refine (learn_c m 5 _).mono ?_
      rintro e w3 ⟨rfl, hb3⟩
      rw [learn_no_eq (fun h => by rw [hm.out] at h; exact absurd h.1 (by decide))]
      have B4 := Lib.hid (blk_below B3.out hb3)
      have H4 := Lib.hid (below_step H3.out hb3)
      clear hb3 B3 H3 l3
      go_wp2_with fail
      refine (learn_c lZ (-4194304 - (1 + r)) _).mono ?_
      rintro e w4 ⟨rfl, hb4⟩
      rw [learn_no_eq (x := -4194304 - (1 + r)) (fun h => by have := inB_iff.1 h.2; omega)]
      have B5 := Lib.hid (blk_below (blk_alloc (blk_alloc B4.out (.cells lmsZero.c 24)) (.cells #[.int .i64 (-4194304 - (1 + r)), .int .i64 (4194304 + (1 + r))] 3)) hb4)
      have D5 := Lib.hid (blk_below (blk_alloc (blk_new w3 (.cells lmsZero.c 24)) (.cells #[.int .i64 (-4194304 - (1 + r)), .int .i64 (4194304 + (1 + r))] 3)) hb4)
      have H5 := Lib.hid (below_step (below_alloc (below_alloc H4.out (.cells lmsZero.c 24)) (.cells #[.int .i64 (-4194304 - (1 + r)), .int .i64 (4194304 + (1 + r))] 3)) hb4)
      clear hb4 B4 H4
      have z5 := blk_lt D5.out
      have l5 := fun o => load_lms (blk_alloc B5.out o)
      go_wp2_with (go_at_call 18; refine (num_calls _ _).mono ?_; rintro e w' ⟨rfl, rfl⟩)
      refine (may_c m _).mono ?_
      rintro e w6 ⟨rfl, hb6⟩
      rw [hm.out]
      have D6 := Lib.hid (blk_below (blk_alloc D5.out _) hb6)
      have H6 := Lib.hid (below_step (below_alloc H5.out _) hb6)
      have l6 := load_lms D6.out
      have q6 : lmsEq lmsZero lZ = true := lmsEq_c rfl
      clear hb6
      go_wp2_with (go_at_call 18; refine (num_calls _ _).mono ?_; rintro e w' ⟨rfl, rfl⟩)
      go_ret
      exact ⟨rfl, H6.out⟩
    · have hm := Lib.hid (not_setH lZ k8 (v := 4194304 + (1 + r)) (by omega))
      obtain ⟨m, hmm⟩ : ∃ m, m = setH lZ k (4194304 + (1 + r)) := ⟨_, rfl⟩
      have cm := c_setH lZ k8 (4194304 + (1 + r))
      rw [← hmm] at cm
      rw [← hmm] at hm
      clear hmm
      have B2 := Lib.hid (blk_alloc (blk_new w1 (.cells m.c 24)) (.cells #[.int .i64 (-4194304 - (1 + r)), .int .i64 (4194304 + (1 + r))] 3))
      have H2 := Lib.hid (below_alloc (below_alloc H1.out (.cells m.c 24)) (.cells #[.int .i64 (-4194304 - (1 + r)), .int .i64 (4194304 + (1 + r))] 3))
      have l1 := fun o => load_lms (blk_alloc (blk_new w1 (.cells m.c 24)) o)
      go_wp2_with fail
      refine (guess_c m _).mono ?_
      rintro e w2 ⟨rfl, hb2⟩
      rw [guess_no hm.out]
      have B3 := Lib.hid (blk_below B2.out hb2)
      have H3 := Lib.hid (below_step H2.out hb2)
      clear hb2 B2 H2 l1 c1 c2 f1 f2 cm
      have l3 := load_lms B3.out
      go_wp2_with fail
      refine (learn_c m 5 _).mono ?_
      rintro e w3 ⟨rfl, hb3⟩
      rw [learn_no_eq (fun h => by rw [hm.out] at h; exact absurd h.1 (by decide))]
      have B4 := Lib.hid (blk_below B3.out hb3)
      have H4 := Lib.hid (below_step H3.out hb3)
      clear hb3 B3 H3 l3
      go_wp2_with fail
      refine (learn_c lZ (4194304 + (1 + r)) _).mono ?_
      rintro e w4 ⟨rfl, hb4⟩
      rw [learn_no_eq (x := 4194304 + (1 + r)) (fun h => by have := inB_iff.1 h.2; omega)]
      have B5 := Lib.hid (blk_below (blk_alloc (blk_alloc B4.out (.cells lmsZero.c 24)) (.cells #[.int .i64 (-4194304 - (1 + r)), .int .i64 (4194304 + (1 + r))] 3)) hb4)
      have D5 := Lib.hid (blk_below (blk_alloc (blk_new w3 (.cells lmsZero.c 24)) (.cells #[.int .i64 (-4194304 - (1 + r)), .int .i64 (4194304 + (1 + r))] 3)) hb4)
      have H5 := Lib.hid (below_step (below_alloc (below_alloc H4.out (.cells lmsZero.c 24)) (.cells #[.int .i64 (-4194304 - (1 + r)), .int .i64 (4194304 + (1 + r))] 3)) hb4)
      clear hb4 B4 H4
      have z5 := blk_lt D5.out
      have l5 := fun o => load_lms (blk_alloc B5.out o)
      go_wp2_with (go_at_call 18; refine (num_calls _ _).mono ?_; rintro e w' ⟨rfl, rfl⟩)
      refine (may_c m _).mono ?_
      rintro e w6 ⟨rfl, hb6⟩
      rw [hm.out]
      have D6 := Lib.hid (blk_below (blk_alloc D5.out _) hb6)
      have H6 := Lib.hid (below_step (below_alloc H5.out _) hb6)
      have l6 := load_lms D6.out
      have q6 : lmsEq lmsZero lZ = true := lmsEq_c rfl
      clear hb6
      go_wp2_with (go_at_call 18; refine (num_calls _ _).mono ?_; rintro e w' ⟨rfl, rfl⟩)
      go_ret
      exact ⟨rfl, H6.out⟩
theorem forms_walk (which x : Int) (W : World) (h : (Lit.int .i64 which).wf = true) (h2 : (Lit.int .i64 x).wf = true) : Calls Try.prog 4 #[.int .i64 which, .int .i64 x] W fun e W' => e = .returned (.bool true) ∧ Below W.heap.size W W' := forms_calls which x W h h2
end Go.Proofs.Ytglkcjepbfpkmaa.PAll
