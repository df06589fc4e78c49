/- Layer 15, ChainForms: chains, samples that may not be: the walk. -/
import Derived.Test.YtglkcjepbfpkmaaChAwake
namespace Go.Proofs.Ytglkcjepbfpkmaa.PAll
open Go Go.RowKit Go.Proofs.YtglkcjepbfpkmaaW.PrintWords Go.Proofs.YtglkcjepbfpkmaaW.PrintMore Go.Proofs.YtglkcjepbfpkmaaW.PrintLast
set_option linter.unusedVariables false
set_option linter.unusedSimpArgs false
attribute [-go_sem] Instr.loadAt Instr.storeAt Instr.build
attribute [local go_sem high] shut33 shut16 equal_lms2 equal_ch2 load_new_lms store_new_lms load_new_ch store_new_ch load_word store_word build_ch0 build_ch1 build_ch3
theorem ch_setAW (x : Chain) {k : Nat} (hk : k < 8) (v : Int) : x.c.setIfInBounds (1 + k) (.int .i64 v) = (⟨x.last, putW x.a k v, x.b⟩ : Chain).c := by
  rcases show k = 0 ∨ k = 1 ∨ k = 2 ∨ k = 3 ∨ k = 4 ∨ k = 5 ∨ k = 6 ∨ k = 7 by omega with rfl | rfl | rfl | rfl | rfl | rfl | rfl | rfl <;> rfl
theorem ch_setBH (x : Chain) {k : Nat} (hk : k < 8) (v : Int) : x.c.setIfInBounds (25 + k) (.int .i64 v) = (⟨x.last, x.a, putH x.b k v⟩ : Chain).c := by
  rcases show k = 0 ∨ k = 1 ∨ k = 2 ∨ k = 3 ∨ k = 4 ∨ k = 5 ∨ k = 6 ∨ k = 7 by omega with rfl | rfl | rfl | rfl | rfl | rfl | rfl | rfl <;> rfl
theorem no_last {x : Chain} (h : x.last < -131072 ∨ 131072 < x.last) : chMay x = false := by
  unfold chMay inB; rw [decide_eq_false (by omega)]; rfl
theorem no_aw {l : Lms} {k : Nat} (hk : k < 8) {v : Int} (hv : v < -1048576 ∨ 1048576 < v) : lmsMay (putW l k v) = false := by
  refine may_no hk ?_
  unfold okAt inB
  rw [Bool.and_eq_false_iff]
  left
  show decide (-1048576 ≤ (if k = k then v else l.w k) ∧ (if k = k then v else l.w k) ≤ 1048576) = false
  rw [if_pos rfl]
  exact decide_eq_false (by omega)
theorem no_bh {l : Lms} {k : Nat} (hk : k < 8) {v : Int} (hv : v < -4194304 ∨ 4194304 < v) : lmsMay (putH l k v) = false := by
  refine may_no hk ?_
  unfold okAt inB
  rw [Bool.and_eq_false_iff]
  right
  show decide (-4194304 ≤ (if k = k then v else l.h k) ∧ (if k = k then v else l.h k) ≤ 4194304) = false
  rw [if_pos rfl]
  exact decide_eq_false (by omega)
theorem chGuess_no {m : Chain} (h : chMay m = false) : chGuess m = (0, 1500) := by unfold chGuess; rw [h]; rfl
theorem chLearn_no2 {m : Chain} {x : Int} (h : ¬ (chMay m = true ∧ inB x 131072 = true)) : chLearn m x = (chZero, 1500) := by unfold chLearn; rw [if_neg h]

set_option maxRecDepth 100000 in
set_option maxHeartbeats 16000000 in
theorem chforms_walk (which x : Int) (W : World) (_ : (Lit.int .i64 which).wf = true) (_ : (Lit.int .i64 x).wf = true) : Calls Try.prog 10 #[.int .i64 which, .int .i64 x] W fun e W' => e = .returned (.bool true) ∧ Below W.heap.size W W' := by
  have hx : bits .and .i64 x 1023 = x % 1024 := Num.and_mask x 1023 10 (by omega) (by rfl)
  have h7 : bits .and .i64 x 7 = x % 8 := Num.and_mask x 7 3 (by omega) (by rfl)
  have h3 : bits .and .i64 which 3 = which % 4 := Num.and_mask which 3 2 (by omega) (by rfl)
  have h1 : bits .and .i64 which 1 = which % 2 := Num.and_mask which 1 1 (by omega) (by rfl)
  obtain ⟨r, hr⟩ : ∃ r, r = x % 1024 := ⟨_, rfl⟩
  have r1 : 0 ≤ r ∧ r < 1024 := by omega
  rw [← hr] at hx
  obtain ⟨r1, r2⟩ := r1
  obtain ⟨k, hk⟩ : ∃ k : Nat, (k : Int) = x % 8 := ⟨(x % 8).toNat, by omega⟩
  have k8 : k < 8 := by omega
  rw [← hk] at h7
  obtain ⟨t, ht⟩ : ∃ t, t = which % 2 := ⟨_, rfl⟩
  obtain ⟨s, hs⟩ : ∃ s, s = which % 4 := ⟨_, rfl⟩
  have st : s = 0 ∧ t = 0 ∨ s = 1 ∧ t = 1 ∨ s = 2 ∧ t = 0 ∨ s = 3 ∧ t = 1 := by omega
  rw [← ht] at h1
  rw [← hs] at h3
  clear hr hk ht hs
  go_enter Try.func10, Try.ntmps10
  go_wp2_with fail
  refine (awake15_calls _).mono ?_
  rintro e w1 ⟨rfl, hb1⟩
  have H1 := Lib.hid (below_step (Below.refl W.heap.size W) hb1)
  have hWn : W.heap.size ≤ w1.heap.size := H1.out.size
  clear hb1
  have q6 := chEq_self chZero
  rcases st with ⟨rfl, rfl⟩ | ⟨rfl, rfl⟩ | ⟨rfl, rfl⟩ | ⟨rfl, rfl⟩
  · have c1 := (blk_cell (blk_new w1 (.cells chZero.c 44)) (0)).trans (ch_last chZero)
    have f1 := blk_frozen (blk_new w1 (.cells chZero.c 44)) (0)
    obtain ⟨m, hmm⟩ : ∃ m : Chain, m = ⟨131072 + (1 + r), lmsZero, lmsZero⟩ := ⟨_, rfl⟩
    have hm : Hid (chMay m = false) := Lib.hid (by rw [hmm]; exact no_last (Or.inr (by show (131072 : Int) < 131072 + (1 + r); omega)))
    have cm : chZero.c.setIfInBounds (0) (.int .i64 (131072 + (1 + r))) = m.c := by rw [hmm]; exact ch_set0 chZero (131072 + (1 + r))
    clear hmm
    have B2 := Lib.hid (blk_new w1 (.cells m.c 44))
    have H2 := Lib.hid (below_alloc H1.out (.cells m.c 44))
    go_wp2_with fail
    refine (chGuess_c m _).mono ?_
    rintro e w2 ⟨rfl, hb2⟩
    rw [chGuess_no hm.out]
    have B3 := Lib.hid (blk_below B2.out hb2)
    have H3 := Lib.hid (below_step H2.out hb2)
    clear hb2 B2 H2 c1 f1 cm
    have l3 := load_ch B3.out
    go_wp2_with fail
    refine (chLearn_c m 5 _).mono ?_
    rintro e w3 ⟨rfl, hb3⟩
    rw [chLearn_no2 (fun h => by rw [hm.out] at h; exact absurd h.1 (by decide))]
    have B4 := Lib.hid (blk_below B3.out hb3)
    have H4 := Lib.hid (below_step H3.out hb3)
    clear hb3 B3 H3 l3
    go_wp2_with fail
    refine (chLearn_c chZero (-131072 - (1 + r)) _).mono ?_
    rintro e w4 ⟨rfl, hb4⟩
    rw [chLearn_no2 (x := -131072 - (1 + r)) (fun h => by have := inB_iff.1 h.2; omega)]
    have B5 := Lib.hid (blk_below (blk_alloc (blk_alloc B4.out (.cells chZero.c 44)) (.cells #[.int .i64 (-131072 - (1 + r)), .int .i64 (131072 + (1 + r))] 3)) hb4)
    have D5 := Lib.hid (blk_below (blk_alloc (blk_new w3 (.cells chZero.c 44)) (.cells #[.int .i64 (-131072 - (1 + r)), .int .i64 (131072 + (1 + r))] 3)) hb4)
    have H5 := Lib.hid (below_step (below_alloc (below_alloc H4.out (.cells chZero.c 44)) (.cells #[.int .i64 (-131072 - (1 + r)), .int .i64 (131072 + (1 + r))] 3)) hb4)
    clear hb4 B4 H4
    have z5 := blk_lt D5.out
    have l5 := fun o => load_ch (blk_alloc B5.out o)
    go_wp2_with (go_at_call 18; refine (num_calls _ _).mono ?_; rintro e w' ⟨rfl, rfl⟩)
    refine (chMay_c m _).mono ?_
    rintro e w6 ⟨rfl, hb6⟩
    rw [hm.out]
    have D6 := Lib.hid (blk_below (blk_alloc D5.out _) hb6)
    have H6 := Lib.hid (below_step (below_alloc H5.out _) hb6)
    have l6 := load_ch D6.out
    clear hb6
    go_wp2_with (go_at_call 18; refine (num_calls _ _).mono ?_; rintro e w' ⟨rfl, hw⟩; have hw := hw.symm; subst hw)
    go_ret
    exact ⟨rfl, H6.out⟩
  · have c1 := (blk_cell (blk_new w1 (.cells chZero.c 44)) (0)).trans (ch_last chZero)
    have f1 := blk_frozen (blk_new w1 (.cells chZero.c 44)) (0)
    obtain ⟨m, hmm⟩ : ∃ m : Chain, m = ⟨-131072 - (1 + r), lmsZero, lmsZero⟩ := ⟨_, rfl⟩
    have hm : Hid (chMay m = false) := Lib.hid (by rw [hmm]; exact no_last (Or.inl (by show -131072 - (1 + r) < (-131072 : Int); omega)))
    have cm : chZero.c.setIfInBounds (0) (.int .i64 (-131072 - (1 + r))) = m.c := by rw [hmm]; exact ch_set0 chZero (-131072 - (1 + r))
    clear hmm
    have B2 := Lib.hid (blk_new w1 (.cells m.c 44))
    have H2 := Lib.hid (below_alloc H1.out (.cells m.c 44))
    go_wp2_with fail
    refine (chGuess_c m _).mono ?_
    rintro e w2 ⟨rfl, hb2⟩
    rw [chGuess_no hm.out]
    have B3 := Lib.hid (blk_below B2.out hb2)
    have H3 := Lib.hid (below_step H2.out hb2)
    clear hb2 B2 H2 c1 f1 cm
    have l3 := load_ch B3.out
    go_wp2_with fail
    refine (chLearn_c m 5 _).mono ?_
    rintro e w3 ⟨rfl, hb3⟩
    rw [chLearn_no2 (fun h => by rw [hm.out] at h; exact absurd h.1 (by decide))]
    have B4 := Lib.hid (blk_below B3.out hb3)
    have H4 := Lib.hid (below_step H3.out hb3)
    clear hb3 B3 H3 l3
    go_wp2_with fail
    refine (chLearn_c chZero (131072 + (1 + r)) _).mono ?_
    rintro e w4 ⟨rfl, hb4⟩
    rw [chLearn_no2 (x := 131072 + (1 + r)) (fun h => by have := inB_iff.1 h.2; omega)]
    have B5 := Lib.hid (blk_below (blk_alloc (blk_alloc B4.out (.cells chZero.c 44)) (.cells #[.int .i64 (-131072 - (1 + r)), .int .i64 (131072 + (1 + r))] 3)) hb4)
    have D5 := Lib.hid (blk_below (blk_alloc (blk_new w3 (.cells chZero.c 44)) (.cells #[.int .i64 (-131072 - (1 + r)), .int .i64 (131072 + (1 + r))] 3)) hb4)
    have H5 := Lib.hid (below_step (below_alloc (below_alloc H4.out (.cells chZero.c 44)) (.cells #[.int .i64 (-131072 - (1 + r)), .int .i64 (131072 + (1 + r))] 3)) hb4)
    clear hb4 B4 H4
    have z5 := blk_lt D5.out
    have l5 := fun o => load_ch (blk_alloc B5.out o)
    go_wp2_with (go_at_call 18; refine (num_calls _ _).mono ?_; rintro e w' ⟨rfl, rfl⟩)
    refine (chMay_c m _).mono ?_
    rintro e w6 ⟨rfl, hb6⟩
    rw [hm.out]
    have D6 := Lib.hid (blk_below (blk_alloc D5.out _) hb6)
    have H6 := Lib.hid (below_step (below_alloc H5.out _) hb6)
    have l6 := load_ch D6.out
    clear hb6
    go_wp2_with (go_at_call 18; refine (num_calls _ _).mono ?_; rintro e w' ⟨rfl, hw⟩; have hw := hw.symm; subst hw)
    go_ret
    exact ⟨rfl, H6.out⟩
  · have c1 := (blk_cell (blk_new w1 (.cells chZero.c 44)) (1 + k)).trans (ch_aw chZero k8)
    have f1 := blk_frozen (blk_new w1 (.cells chZero.c 44)) (1 + k)
    obtain ⟨m, hmm⟩ : ∃ m : Chain, m = ⟨0, putW lmsZero k (1048576 + (1 + r)), lmsZero⟩ := ⟨_, rfl⟩
    have hm : Hid (chMay m = false) := Lib.hid (by rw [hmm]; exact (by unfold chMay; rw [show lmsMay (putW lmsZero k (1048576 + (1 + r))) = false from no_aw k8 (by omega)]; simp))
    have cm : chZero.c.setIfInBounds (1 + k) (.int .i64 (1048576 + (1 + r))) = m.c := by rw [hmm]; exact ch_setAW chZero k8 (1048576 + (1 + r))
    clear hmm
    have B2 := Lib.hid (blk_new w1 (.cells m.c 44))
    have H2 := Lib.hid (below_alloc H1.out (.cells m.c 44))
    go_wp2_with fail
    refine (chGuess_c m _).mono ?_
    rintro e w2 ⟨rfl, hb2⟩
    rw [chGuess_no hm.out]
    have B3 := Lib.hid (blk_below B2.out hb2)
    have H3 := Lib.hid (below_step H2.out hb2)
    clear hb2 B2 H2 c1 f1 cm
    have l3 := load_ch B3.out
    go_wp2_with fail
    refine (chLearn_c m 5 _).mono ?_
    rintro e w3 ⟨rfl, hb3⟩
    rw [chLearn_no2 (fun h => by rw [hm.out] at h; exact absurd h.1 (by decide))]
    have B4 := Lib.hid (blk_below B3.out hb3)
    have H4 := Lib.hid (below_step H3.out hb3)
    clear hb3 B3 H3 l3
    go_wp2_with fail
    refine (chLearn_c chZero (-131072 - (1 + r)) _).mono ?_
    rintro e w4 ⟨rfl, hb4⟩
    rw [chLearn_no2 (x := -131072 - (1 + r)) (fun h => by have := inB_iff.1 h.2; omega)]
    have B5 := Lib.hid (blk_below (blk_alloc (blk_alloc B4.out (.cells chZero.c 44)) (.cells #[.int .i64 (-131072 - (1 + r)), .int .i64 (131072 + (1 + r))] 3)) hb4)
    have D5 := Lib.hid (blk_below (blk_alloc (blk_new w3 (.cells chZero.c 44)) (.cells #[.int .i64 (-131072 - (1 + r)), .int .i64 (131072 + (1 + r))] 3)) hb4)
    have H5 := Lib.hid (below_step (below_alloc (below_alloc H4.out (.cells chZero.c 44)) (.cells #[.int .i64 (-131072 - (1 + r)), .int .i64 (131072 + (1 + r))] 3)) hb4)
    clear hb4 B4 H4
    have z5 := blk_lt D5.out
    have l5 := fun o => load_ch (blk_alloc B5.out o)
    go_wp2_with (go_at_call 18; refine (num_calls _ _).mono ?_; rintro e w' ⟨rfl, rfl⟩)
    refine (chMay_c m _).mono ?_
    rintro e w6 ⟨rfl, hb6⟩
    rw [hm.out]
    have D6 := Lib.hid (blk_below (blk_alloc D5.out _) hb6)
    have H6 := Lib.hid (below_step (below_alloc H5.out _) hb6)
    have l6 := load_ch D6.out
    clear hb6
    go_wp2_with (go_at_call 18; refine (num_calls _ _).mono ?_; rintro e w' ⟨rfl, hw⟩; have hw := hw.symm; subst hw)
    go_ret
    exact ⟨rfl, H6.out⟩
  · have c1 := (blk_cell (blk_new w1 (.cells chZero.c 44)) (25 + k)).trans (ch_bh chZero k8)
    have f1 := blk_frozen (blk_new w1 (.cells chZero.c 44)) (25 + k)
    obtain ⟨m, hmm⟩ : ∃ m : Chain, m = ⟨0, lmsZero, putH lmsZero k (-4194304 - (1 + r))⟩ := ⟨_, rfl⟩
    have hm : Hid (chMay m = false) := Lib.hid (by rw [hmm]; exact (by unfold chMay; rw [show lmsMay (putH lmsZero k (-4194304 - (1 + r))) = false from no_bh k8 (by omega)]; simp))
    have cm : chZero.c.setIfInBounds (25 + k) (.int .i64 (-4194304 - (1 + r))) = m.c := by rw [hmm]; exact ch_setBH chZero k8 (-4194304 - (1 + r))
    clear hmm
    have B2 := Lib.hid (blk_new w1 (.cells m.c 44))
    have H2 := Lib.hid (below_alloc H1.out (.cells m.c 44))
    go_wp2_with fail
    refine (chGuess_c m _).mono ?_
    rintro e w2 ⟨rfl, hb2⟩
    rw [chGuess_no hm.out]
    have B3 := Lib.hid (blk_below B2.out hb2)
    have H3 := Lib.hid (below_step H2.out hb2)
    clear hb2 B2 H2 c1 f1 cm
    have l3 := load_ch B3.out
    go_wp2_with fail
    refine (chLearn_c m 5 _).mono ?_
    rintro e w3 ⟨rfl, hb3⟩
    rw [chLearn_no2 (fun h => by rw [hm.out] at h; exact absurd h.1 (by decide))]
    have B4 := Lib.hid (blk_below B3.out hb3)
    have H4 := Lib.hid (below_step H3.out hb3)
    clear hb3 B3 H3 l3
    go_wp2_with fail
    refine (chLearn_c chZero (131072 + (1 + r)) _).mono ?_
    rintro e w4 ⟨rfl, hb4⟩
    rw [chLearn_no2 (x := 131072 + (1 + r)) (fun h => by have := inB_iff.1 h.2; omega)]
    have B5 := Lib.hid (blk_below (blk_alloc (blk_alloc B4.out (.cells chZero.c 44)) (.cells #[.int .i64 (-131072 - (1 + r)), .int .i64 (131072 + (1 + r))] 3)) hb4)
    have D5 := Lib.hid (blk_below (blk_alloc (blk_new w3 (.cells chZero.c 44)) (.cells #[.int .i64 (-131072 - (1 + r)), .int .i64 (131072 + (1 + r))] 3)) hb4)
    have H5 := Lib.hid (below_step (below_alloc (below_alloc H4.out (.cells chZero.c 44)) (.cells #[.int .i64 (-131072 - (1 + r)), .int .i64 (131072 + (1 + r))] 3)) hb4)
    clear hb4 B4 H4
    have z5 := blk_lt D5.out
    have l5 := fun o => load_ch (blk_alloc B5.out o)
    go_wp2_with (go_at_call 18; refine (num_calls _ _).mono ?_; rintro e w' ⟨rfl, rfl⟩)
    refine (chMay_c m _).mono ?_
    rintro e w6 ⟨rfl, hb6⟩
    rw [hm.out]
    have D6 := Lib.hid (blk_below (blk_alloc D5.out _) hb6)
    have H6 := Lib.hid (below_step (below_alloc H5.out _) hb6)
    have l6 := load_ch D6.out
    clear hb6
    go_wp2_with (go_at_call 18; refine (num_calls _ _).mono ?_; rintro e w' ⟨rfl, hw⟩; have hw := hw.symm; subst hw)
    go_ret
    exact ⟨rfl, H6.out⟩
end Go.Proofs.Ytglkcjepbfpkmaa.PAll
