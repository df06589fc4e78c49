/- Layer 15, ChainParts: a chain is its last sample and two lines that learn: the walk. -/
import Derived.Test.YtglkcjepbfpkmaaChAwake
namespace Go.Proofs.Ytglkcjepbfpkmaa.PAll
open Go Go.RowKit Go.Proofs.YtglkcjepbfpkmaaW.PrintWords Go.Proofs.YtglkcjepbfpkmaaW.PrintMore Go.Proofs.YtglkcjepbfpkmaaW.PrintLast
set_option linter.unusedVariables false
set_option linter.unusedSimpArgs false
attribute [-go_sem] Instr.loadAt Instr.storeAt Instr.build
attribute [local go_sem high] shut33 shut16 ch_set0 equal_lms2 equal_ch2 load_new_lms store_new_lms load_new_ch store_new_ch load_word store_word build_ch0 build_ch1 build_ch3
theorem learn_in {l : Lms} {x : Int} (hm : lmsMay l = true) (h1 : -4194304 ≤ x) (h2 : x ≤ 4194304) : (lmsLearn l x).2 = 0 := learn_0 hm ⟨h1, h2⟩
set_option maxHeartbeats 8000000 in
theorem parts_calls (c : Chain) (x : Int) (hx64 : -9223372036854775808 ≤ x ∧ x ≤ 9223372036854775807) (W : World) : Calls Try.prog 13 #[.agg c.c, .int .i64 x] W fun e W' => e = .returned (.bool true) ∧ Below W.heap.size W W' := by
  go_enter Try.func13, Try.ntmps13
  go_wp2_with fail
  refine (awake15_calls _).mono ?_
  rintro e w1 ⟨rfl, hb⟩
  have L1 := Lib.hid (blk_below (blk_new W (.cells c.c 44)) hb)
  have H1 := Lib.hid (below_step (below_alloc (Below.refl W.heap.size W) (.cells c.c 44)) hb)
  clear hb
  have k1 := load_ch L1.out
  go_wp2_with fail
  refine (chLearn_c c x _).mono ?_
  rintro e w2 ⟨rfl, hb⟩
  have L2 := Lib.hid (blk_below L1.out hb)
  have H2 := Lib.hid (below_step H1.out hb)
  clear hb k1 L1 H1
  have k2 := fun o => load_ch (blk_alloc L2.out o)
  obtain ⟨n, hn⟩ : ∃ n, n = w2.heap.size := ⟨_, rfl⟩
  by_cases hok : chMay c = true ∧ inB x 131072 = true
  · obtain ⟨hm, hx⟩ := hok
    have hl := Lib.hid (show chLearn c x = (⟨x, (lmsLearn c.a (x - c.last)).1, (lmsLearn c.b (x - c.last - (lmsGuess c.a).1)).1⟩, 0) by unfold chLearn; rw [hm, hx]; rfl)
    have hg := Lib.hid (show chGuess c = (c.last + (lmsGuess c.a).1 + (lmsGuess c.b).1, 0) by unfold chGuess; rw [hm]; rfl)
    obtain ⟨m0, mA, mB⟩ := chMay_iff.1 hm
    obtain ⟨l1, l2⟩ := inB_iff.1 m0
    obtain ⟨x1, x2⟩ := inB_iff.1 hx
    obtain ⟨p1, p2⟩ := guess_in c.a
    obtain ⟨q1, q2⟩ := guess_in c.b
    have eA := learn_in mA (show -4194304 ≤ x - c.last by omega) (by omega)
    have eB := learn_in mB (show -4194304 ≤ x - c.last - (lmsGuess c.a).1 by omega) (by omega)
    have gA : (lmsGuess c.a).2 = 0 := by unfold lmsGuess; rw [mA]; rfl
    have gB : (lmsGuess c.b).2 = 0 := by unfold lmsGuess; rw [mB]; rfl
    obtain ⟨p, hp⟩ : ∃ p, p = (lmsGuess c.a).1 := ⟨_, rfl⟩
    obtain ⟨q, hq⟩ : ∃ q, q = (lmsGuess c.b).1 := ⟨_, rfl⟩
    obtain ⟨l, hll⟩ : ∃ l, l = c.last := ⟨_, rfl⟩
    rw [← hp] at p1 p2 hl hg eB
    rw [← hq] at q1 q2 hg
    rw [← hll] at l1 l2 hl hg eA eB
    have Hp := Lib.hid hp
    have Hq := Lib.hid hq
    have Hl := Lib.hid hll
    have EA := Lib.hid eA
    have EB := Lib.hid eB
    have GA := Lib.hid gA
    have GB := Lib.hid gB
    obtain ⟨u, hu⟩ : ∃ u, u = (lmsLearn c.a (x - l)).1 := ⟨_, rfl⟩
    obtain ⟨v, hv⟩ : ∃ v, v = (lmsLearn c.b (x - l - p)).1 := ⟨_, rfl⟩
    rw [← hu, ← hv] at hl
    have Hu := Lib.hid hu
    have Hv := Lib.hid hv
    clear eA eB gA gB hp hq hll hu hv m0 mA mB hm hx
    rw [hl.out]
    have D2 := Lib.hid (blk_new w2 (.cells (⟨x, u, v⟩ : Chain).c 44))
    go_wp2_with fail
    simp only [← hn] at D2 ⊢
    clear hn
    refine (chGuess_c c _).mono ?_
    rintro e w3 ⟨rfl, hb⟩
    rw [hg.out]
    have L3 := Lib.hid (blk_below (blk_alloc L2.out _) hb)
    have D3 := Lib.hid (blk_below D2.out hb)
    have H3 := Lib.hid (below_step (below_alloc H2.out _) hb)
    clear hb k2 L2 D2 H2
    have kA := load_chA L3.out
    go_wp2_with (go_at_call 18; refine (num_calls _ _).mono ?_; rintro e w' ⟨rfl, hw⟩; have hw := hw.symm; subst hw)
    refine (refGuess_c c.a _).mono ?_
    rintro e w4 ⟨rfl, hb⟩
    rw [← Hp.out, GA.out]
    have L4 := Lib.hid (blk_below L3.out hb)
    have D4 := Lib.hid (blk_below D3.out hb)
    have H4 := Lib.hid (below_step H3.out hb)
    clear hb kA L3 D3 H3
    have kB := load_chB L4.out
    go_wp2_with fail
    refine (refGuess_c c.b _).mono ?_
    rintro e w5 ⟨rfl, hb⟩
    rw [← Hq.out, GB.out]
    have L5 := Lib.hid (blk_below L4.out hb)
    have D5 := Lib.hid (blk_below D4.out hb)
    have H5 := Lib.hid (below_step H4.out hb)
    clear hb kB L4 D4 H4
    have kA := load_chA L5.out
    have kc := (blk_cell L5.out 0).trans (ch_last c)
    rw [← Hl.out] at kc
    go_wp2_with fail
    refine (refLearn_c c.a (x - l) _).mono ?_
    rintro e w6 ⟨rfl, hb⟩
    rw [← Hu.out, EA.out]
    have L6 := Lib.hid (blk_below L5.out hb)
    have D6 := Lib.hid (blk_below D5.out hb)
    have H6 := Lib.hid (below_step H5.out hb)
    clear hb kA kc L5 D5 H5
    have kB := fun o => load_chB (blk_alloc L6.out o)
    have kc := fun o => (blk_cell (blk_alloc L6.out o) 0).trans (ch_last c)
    rw [← Hl.out] at kc
    go_wp2_with fail
    refine (refLearn_c c.b (x - l - p) _).mono ?_
    rintro e w7 ⟨rfl, hb⟩
    rw [← Hv.out, EB.out]
    have L7 := Lib.hid (blk_below (blk_alloc L6.out _) hb)
    have D7 := Lib.hid (blk_below (blk_alloc D6.out _) hb)
    have U7 := Lib.hid (blk_below (blk_new w6 (.cells u.c 24)) hb)
    have H7 := Lib.hid (below_step (below_alloc H6.out _) hb)
    clear hb kB kc L6 D6 H6
    have z7 : w6.heap.size < w7.heap.size := blk_lt U7.out
    have zn : n < w7.heap.size := blk_lt D7.out
    have kc := fun o => (blk_cell (blk_alloc L7.out o) 0).trans (ch_last c)
    rw [← Hl.out] at kc
    have kd := fun o => load_ch (blk_alloc D7.out o)
    have ku := fun o => load_lms (blk_alloc U7.out o)
    have qe := chEq_self ⟨x, u, v⟩
    go_wp2_with fail
    go_ret
    exact ⟨rfl, below_alloc H7.out _⟩
  · have hl := Lib.hid (show chLearn c x = (chZero, 1500) by unfold chLearn; rw [if_neg hok])
    rw [hl.out]
    have D2 := Lib.hid (blk_new w2 (.cells chZero.c 44))
    go_wp2_with fail
    simp only [← hn] at D2 ⊢
    clear hn
    refine (chGuess_c c _).mono ?_
    rintro e w3 ⟨rfl, hb⟩
    have D3 := Lib.hid (blk_below D2.out hb)
    have H3 := Lib.hid (below_step (below_alloc H2.out _) hb)
    clear hb k2
    have kd := load_ch D3.out
    have qe := chEq_self chZero
    go_wp2_with (go_at_call 18; refine (num_calls _ _).mono ?_; rintro e w' ⟨rfl, hw⟩; have hw := hw.symm; subst hw)
    go_ret
    exact ⟨rfl, H3.out⟩
theorem parts_walk (xs : List Int) (x : Int) (W : World) (hl : xs.length = 33) (_ : ∀ x ∈ xs, IntKind.i64.has x) (hx : (Lit.int .i64 x).wf = true) : Calls Try.prog 13 #[.agg (xs.map (Value.int .i64)).toArray, .int .i64 x] W fun e W' => e = .returned (.bool true) ∧ Below W.heap.size W W' := by
  rw [chOf_c hl]; exact parts_calls _ _ (Num.bounds hx) _
end Go.Proofs.Ytglkcjepbfpkmaa.PAll
