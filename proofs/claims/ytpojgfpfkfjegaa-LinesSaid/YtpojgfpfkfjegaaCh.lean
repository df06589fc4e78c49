/- Layer 15: what the program's and the document's chains answer: for all chains and samples. -/
import Derived.Test.YtpojgfpfkfjegaaChV
namespace Go.Proofs.Ytpojgfpfkfjegaa.PAll
open Go Go.RowKit Go.Proofs.YtpojgfpfkfjegaaW.PrintWords Go.Proofs.YtpojgfpfkfjegaaW.PrintMore Go.Proofs.YtpojgfpfkfjegaaW.PrintLast
set_option linter.unusedVariables false
set_option linter.unusedSimpArgs false
attribute [-go_sem] Instr.loadAt Instr.storeAt Instr.build
attribute [local go_sem high] shut33 shut16 ch_set0 equal_lms2 equal_ch2 load_new_lms store_new_lms load_new_ch store_new_ch load_word store_word build_ch0 build_ch1 build_ch3

theorem sample_c (x : Int) (w : World) : Calls Try.prog 34 #[.int .i64 x] w fun e w' => e = .returned (.bool (inB x 131072)) ∧ w' = w := by
  by_cases c : -131072 ≤ x
  · have c1 : decide (x ≥ -131072) = true := decide_eq_true c
    go_enter Try.func34, Try.ntmps34
    go_wp2
    go_ret
    exact ⟨by simp [inB, c], rfl⟩
  · have c1 : decide (x ≥ -131072) = false := decide_eq_false (by omega)
    go_enter Try.func34, Try.ntmps34
    go_wp2
    go_ret
    exact ⟨by simp [inB]; omega, rfl⟩
theorem refSample_c (x : Int) (w : World) : Calls Try.prog 30 #[.int .i64 x] w fun e w' => e = .returned (.bool (inB x 131072)) ∧ w' = w := by
  go_enter Try.func30, Try.ntmps30
  go_wp2_with (go_at_call 24; refine (refUpTo_calls _ _ _ _).mono ?_; rintro e w' ⟨rfl, hw⟩; have hw := hw.symm; subst hw)
  go_ret
  exact ⟨rb (by simp [inB]), rfl⟩

set_option maxHeartbeats 4000000 in
theorem chMay_c (x : Chain) (W : World) : Calls Try.prog 32 #[.agg x.c] W fun e W' => e = .returned (.bool (chMay x)) ∧ Below W.heap.size W W' := by
  go_enter Try.func32, Try.ntmps32
  have B := Lib.hid (blk_new W (.cells x.c 43))
  have H := Lib.hid (below_alloc (Below.refl W.heap.size W) (.cells x.c 43))
  have hc := (blk_cell B.out 0).trans (ch_last x)
  have kA := load_chA B.out
  have hm : chMay x = ((inB x.last 131072 && lmsMay x.a) && lmsMay x.b) := rfl
  rw [hm]
  cases h0 : inB x.last 131072
  · go_wp2_with (go_at_call 34; refine (sample_c _ _).mono ?_; rintro e w' ⟨rfl, rfl⟩; rw [h0])
    go_ret
    exact ⟨rb (by simp [h0]), H.out⟩
  · go_wp2_with (go_at_call 34; refine (sample_c _ _).mono ?_; rintro e w' ⟨rfl, rfl⟩; rw [h0])
    refine (may_c x.a _).mono ?_
    rintro e w1 ⟨rfl, hb1⟩
    have B1 := Lib.hid (blk_below B.out hb1)
    have H1 := Lib.hid (below_step H.out hb1)
    have kB := load_chB B1.out
    clear hb1 kA hc
    cases h1 : lmsMay x.a
    · go_wp2_with fail
      go_ret
      exact ⟨rb (by simp [h0, h1]), H1.out⟩
    · go_wp2_with fail
      refine (may_c x.b _).mono ?_
      rintro e w2 ⟨rfl, hb2⟩
      have H2 := Lib.hid (below_step H1.out hb2)
      cases h2 : lmsMay x.b
      · go_wp2_with fail
        go_ret
        exact ⟨rb (by simp [h0, h1, h2]), H2.out⟩
      · go_wp2_with fail
        go_ret
        exact ⟨rb (by simp [h0, h1, h2]), H2.out⟩

set_option maxHeartbeats 4000000 in
theorem refChMay_c (x : Chain) (W : World) : Calls Try.prog 28 #[.agg x.c] W fun e W' => e = .returned (.bool (chMay x)) ∧ Below W.heap.size W W' := by
  go_enter Try.func28, Try.ntmps28
  have B := Lib.hid (blk_new W (.cells x.c 43))
  have H := Lib.hid (below_alloc (Below.refl W.heap.size W) (.cells x.c 43))
  have hc := (blk_cell B.out 0).trans (ch_last x)
  have kA := load_chA B.out
  have hm : chMay x = ((inB x.last 131072 && lmsMay x.a) && lmsMay x.b) := rfl
  rw [hm]
  cases h0 : inB x.last 131072
  · go_wp2_with (go_at_call 30; refine (refSample_c _ _).mono ?_; rintro e w' ⟨rfl, rfl⟩; rw [h0])
    go_ret
    exact ⟨rb (by simp [h0]), H.out⟩
  · go_wp2_with (go_at_call 30; refine (refSample_c _ _).mono ?_; rintro e w' ⟨rfl, rfl⟩; rw [h0])
    refine (refMay_c x.a _).mono ?_
    rintro e w1 ⟨rfl, hb1⟩
    have B1 := Lib.hid (blk_below B.out hb1)
    have H1 := Lib.hid (below_step H.out hb1)
    have kB := load_chB B1.out
    clear hb1 kA hc
    cases h1 : lmsMay x.a
    · go_wp2_with fail
      go_ret
      exact ⟨rb (by simp [h0, h1]), H1.out⟩
    · go_wp2_with fail
      refine (refMay_c x.b _).mono ?_
      rintro e w2 ⟨rfl, hb2⟩
      have H2 := Lib.hid (below_step H1.out hb2)
      cases h2 : lmsMay x.b
      · go_wp2_with fail
        go_ret
        exact ⟨rb (by simp [h0, h1, h2]), H2.out⟩
      · go_wp2_with fail
        go_ret
        exact ⟨rb (by simp [h0, h1, h2]), H2.out⟩

set_option maxHeartbeats 4000000 in
theorem chGuess_c (x : Chain) (W : World) : Calls Try.prog 25 #[.agg x.c] W fun e W' => e = .returned (.tuple #[.int .i64 (chGuess x).1, .int .i64 (chGuess x).2]) ∧ Below W.heap.size W W' := by
  cases hm : chMay x
  · have hg := Lib.hid (show chGuess x = (0, 1500) by unfold chGuess; rw [hm]; rfl)
    go_enter Try.func25, Try.ntmps25
    go_wp2_with fail
    refine (chMay_c x _).mono ?_
    rintro e w1 ⟨rfl, hb⟩
    rw [hm]
    go_wp2
    go_ret2
    exact ⟨by rw [hg.out]; rfl, below_step (below_alloc (Below.refl W.heap.size W) _) hb⟩
  · have hg := Lib.hid (show chGuess x = (x.last + (lmsGuess x.a).1 + (lmsGuess x.b).1, 0) by unfold chGuess; rw [hm]; rfl)
    obtain ⟨l1, l2⟩ := inB_iff.1 (chMay_iff.1 hm).1
    have ga := guess_in x.a
    have gb := guess_in x.b
    go_enter Try.func25, Try.ntmps25
    go_wp2_with fail
    refine (chMay_c x _).mono ?_
    rintro e w1 ⟨rfl, hb⟩
    rw [hm]
    have B1 := Lib.hid (blk_below (blk_new W (.cells x.c 43)) hb)
    have H1 := Lib.hid (below_step (below_alloc (Below.refl W.heap.size W) (.cells x.c 43)) hb)
    have kA := load_chA B1.out
    clear hb
    go_wp2_with fail
    refine (guess_c x.a _).mono ?_
    rintro e w2 ⟨rfl, hb⟩
    have B2 := Lib.hid (blk_below B1.out hb)
    have H2 := Lib.hid (below_step H1.out hb)
    have kB := load_chB B2.out
    clear hb kA B1 H1
    go_wp2_with fail
    refine (guess_c x.b _).mono ?_
    rintro e w3 ⟨rfl, hb⟩
    have B3 := Lib.hid (blk_below B2.out hb)
    have H3 := Lib.hid (below_step H2.out hb)
    have hc := (blk_cell B3.out 0).trans (ch_last x)
    clear hb kB B2 H2
    obtain ⟨p, hp⟩ : ∃ p, p = (lmsGuess x.a).1 := ⟨_, rfl⟩
    obtain ⟨q, hq⟩ : ∃ q, q = (lmsGuess x.b).1 := ⟨_, rfl⟩
    obtain ⟨c, hcc⟩ : ∃ c, c = x.last := ⟨_, rfl⟩
    rw [← hp] at ga hg ⊢
    rw [← hq] at gb hg ⊢
    rw [← hcc] at l1 l2 hc hg
    obtain ⟨ga1, ga2⟩ := ga
    obtain ⟨gb1, gb2⟩ := gb
    clear hp hq hcc hm
    go_wp2_with fail
    go_ret2
    exact ⟨by rw [hg.out]; rfl, H3.out⟩

set_option maxHeartbeats 4000000 in
theorem refChGuess_c (x : Chain) (W : World) : Calls Try.prog 21 #[.agg x.c] W fun e W' => e = .returned (.tuple #[.int .i64 (chGuess x).1, .int .i64 (chGuess x).2]) ∧ Below W.heap.size W W' := by
  cases hm : chMay x
  · have hg := Lib.hid (show chGuess x = (0, 1500) by unfold chGuess; rw [hm]; rfl)
    go_enter Try.func21, Try.ntmps21
    go_wp2_with fail
    refine (refChMay_c x _).mono ?_
    rintro e w1 ⟨rfl, hb⟩
    rw [hm]
    go_wp2
    go_ret2
    exact ⟨by rw [hg.out]; rfl, below_step (below_alloc (Below.refl W.heap.size W) _) hb⟩
  · have hg := Lib.hid (show chGuess x = (x.last + (lmsGuess x.a).1 + (lmsGuess x.b).1, 0) by unfold chGuess; rw [hm]; rfl)
    obtain ⟨l1, l2⟩ := inB_iff.1 (chMay_iff.1 hm).1
    have ga := guess_in x.a
    have gb := guess_in x.b
    go_enter Try.func21, Try.ntmps21
    go_wp2_with fail
    refine (refChMay_c x _).mono ?_
    rintro e w1 ⟨rfl, hb⟩
    rw [hm]
    have B1 := Lib.hid (blk_below (blk_new W (.cells x.c 43)) hb)
    have H1 := Lib.hid (below_step (below_alloc (Below.refl W.heap.size W) (.cells x.c 43)) hb)
    have kA := load_chA B1.out
    clear hb
    go_wp2_with fail
    refine (refGuess_c x.a _).mono ?_
    rintro e w2 ⟨rfl, hb⟩
    have B2 := Lib.hid (blk_below B1.out hb)
    have H2 := Lib.hid (below_step H1.out hb)
    have kB := load_chB B2.out
    clear hb kA B1 H1
    go_wp2_with fail
    refine (refGuess_c x.b _).mono ?_
    rintro e w3 ⟨rfl, hb⟩
    have B3 := Lib.hid (blk_below B2.out hb)
    have H3 := Lib.hid (below_step H2.out hb)
    have hc := (blk_cell B3.out 0).trans (ch_last x)
    clear hb kB B2 H2
    obtain ⟨p, hp⟩ : ∃ p, p = (lmsGuess x.a).1 := ⟨_, rfl⟩
    obtain ⟨q, hq⟩ : ∃ q, q = (lmsGuess x.b).1 := ⟨_, rfl⟩
    obtain ⟨c, hcc⟩ : ∃ c, c = x.last := ⟨_, rfl⟩
    rw [← hp] at ga hg ⊢
    rw [← hq] at gb hg ⊢
    rw [← hcc] at l1 l2 hc hg
    obtain ⟨ga1, ga2⟩ := ga
    obtain ⟨gb1, gb2⟩ := gb
    clear hp hq hcc hm
    go_wp2_with fail
    go_ret2
    exact ⟨by rw [hg.out]; rfl, H3.out⟩

theorem res_chLearn_c {tmps : Array Value} {w : World} {b : Nat} {x : Chain} {e : Int} (h4 : tmps.getD 4 undef = .pointer (some ⟨b, 0, none⟩)) (h5 : tmps.getD 5 undef = .int .i64 e) (h : w.heap[b]? = some (.cells x.c 43 (0, 0))) :
    (results Try.f26 tmps).run Try.prog w = .ok (.tuple #[.agg x.c, .int .i64 e]) w := by
  have hl := loadVar_ch h
  rw [Array.getD_eq_getD_getElem?] at h4 h5
  simp [results, Try.results26, h4, h5, asAddr, hl]
set_option maxHeartbeats 4000000 in
theorem chLearn_c_no (x : Chain) (v : Int) (W : World) (hn : ¬ (chMay x = true ∧ inB v 131072 = true)) : Calls Try.prog 26 #[.agg x.c, .int .i64 v] W fun e W' => e = .returned (.tuple #[.agg (chLearn x v).1.c, .int .i64 (chLearn x v).2]) ∧ Below W.heap.size W W' := by
  have hl := Lib.hid (show chLearn x v = (chZero, 1500) by unfold chLearn; rw [if_neg hn])
  go_enter Try.func26, Try.ntmps26
  have k1 := fun o => load_ch (blk_alloc (blk_new W (.cells x.c 43)) o)
  go_wp2_with fail
  refine (chMay_c x _).mono ?_
  rintro e W1 ⟨rfl, hb⟩
  have B := Lib.hid (blk_below (blk_new (W.alloc (.cells x.c 43)) (.cells chZero.c 43)) hb)
  have HB := Lib.hid (below_step (below_alloc (below_alloc (Below.refl W.heap.size W) (.cells x.c 43)) (.cells chZero.c 43)) hb)
  have B2 : Hid (W1.heap[W.heap.size + 1]? = some (.cells chZero.c 43 (0, 0))) := by simpa using B
  clear hb k1 B
  have s1 := store_ch B2.out
  have hWn : W.heap.size ≤ W.heap.size + 1 := by omega
  have key : ∀ (tmps : Array Value) (w : World), tmps.getD 4 undef = .pointer (some ⟨W.heap.size + 1, 0, none⟩) → tmps.getD 5 undef = .int .i64 1500 → w = W1.setRow (W.heap.size + 1) chZero.c → bodyPost Try.prog Try.f26 (fun e W' => e = .returned (.tuple #[.agg (chLearn x v).1.c, .int .i64 (chLearn x v).2]) ∧ Below W.heap.size W W') .ret { tmps := tmps, defers := [] } w := fun tmps w h4 h5 hw => by
    subst hw
    refine bodyPost_ret (v := .tuple #[.agg chZero.c, .int .i64 1500]) (res_chLearn_c (x := chZero) h4 h5 (blk_row B2.out _)) rfl ⟨by rw [hl.out], below_row HB.out hWn _⟩
  cases hm : chMay x
  · go_wp2_with fail
    exact key _ _ rfl rfl rfl
  · have hx : inB v 131072 = false := by cases h : inB v 131072 with
      | false => rfl
      | true => exact absurd ⟨hm, h⟩ hn
    go_wp2_with (go_at_call 34; refine (sample_c _ _).mono ?_; rintro e w' ⟨rfl, hw⟩; have hw := hw.symm; subst hw; rw [hx])
    exact key _ _ rfl rfl rfl

set_option maxHeartbeats 8000000 in
theorem chLearn_c_yes (x : Chain) (v : Int) (W : World) (hm : chMay x = true) (hx : inB v 131072 = true) : Calls Try.prog 26 #[.agg x.c, .int .i64 v] W fun e W' => e = .returned (.tuple #[.agg (chLearn x v).1.c, .int .i64 (chLearn x v).2]) ∧ Below W.heap.size W W' := by
  have hl := Lib.hid (show chLearn x v = (⟨v, (lmsLearn x.a (v - x.last)).1, (lmsLearn x.b (v - x.last - (lmsGuess x.a).1)).1⟩, 0) by unfold chLearn; rw [hm, hx]; rfl)
  obtain ⟨c1, c2⟩ := inB_iff.1 (chMay_iff.1 hm).1
  obtain ⟨v1, v2⟩ := inB_iff.1 hx
  obtain ⟨g1, g2⟩ := guess_in x.a
  obtain ⟨c, hcc⟩ : ∃ c, c = x.last := ⟨_, rfl⟩
  obtain ⟨g, hgg⟩ : ∃ g, g = (lmsGuess x.a).1 := ⟨_, rfl⟩
  rw [← hgg] at g1 g2 hl
  rw [← hcc] at c1 c2 hl
  have Hg := Lib.hid hgg
  have Hc := Lib.hid hcc
  clear hgg hcc
  have w1 := Lib.hid (Num.w64 (n := v - c) (by omega) (by omega))
  have w2 := Lib.hid (Num.w64 (n := v - c - g) (by omega) (by omega))
  go_enter Try.func26, Try.ntmps26
  have k1 := fun o => load_ch (blk_alloc (blk_new W (.cells x.c 43)) o)
  go_wp2_with fail
  refine (chMay_c x _).mono ?_
  rintro e W1 ⟨rfl, hb⟩
  rw [hm]
  have L1 := Lib.hid (blk_below (blk_alloc (blk_new W (.cells x.c 43)) (.cells chZero.c 43)) hb)
  have B := Lib.hid (blk_below (blk_new (W.alloc (.cells x.c 43)) (.cells chZero.c 43)) hb)
  have H1 := Lib.hid (below_step (below_alloc (below_alloc (Below.refl W.heap.size W) (.cells x.c 43)) (.cells chZero.c 43)) hb)
  have R1 : Hid (W1.heap[W.heap.size + 1]? = some (.cells chZero.c 43 (0, 0))) := by simpa using B
  clear hb k1 B
  obtain ⟨n, hn⟩ : ∃ n, n = W.heap.size := ⟨_, rfl⟩
  have hWn : W.heap.size ≤ n := by omega
  simp only [← hn] at L1 R1 ⊢
  clear hn
  have z1 : n + 1 < W1.heap.size := blk_lt R1.out
  have kA := load_chA L1.out
  have kc := (blk_cell L1.out 0).trans (ch_last x)
  rw [← Hc.out] at kc
  go_wp2_with (go_at_call 34; refine (sample_c _ _).mono ?_; rintro e w' ⟨rfl, hw⟩; have hw := hw.symm; subst hw; rw [hx])
  refine (guess_c x.a _).mono ?_
  rintro e W2 ⟨rfl, hb⟩
  rw [← Hg.out]
  have L2 := Lib.hid (blk_below L1.out hb)
  have R2 := Lib.hid (blk_below R1.out hb)
  have H2 := Lib.hid (below_step H1.out hb)
  clear hb kA kc L1 R1 H1 z1
  have z2 : n + 1 < W2.heap.size := blk_lt R2.out
  have kB := load_chB L2.out
  go_wp2_with fail
  refine (learn_c x.b (v - c - g) _).mono ?_
  rintro e W3 ⟨rfl, hb⟩
  obtain ⟨q, hq⟩ : ∃ q, q = (lmsLearn x.b (v - c - g)).1 := ⟨_, rfl⟩
  rw [← hq] at hl ⊢
  have L3 := Lib.hid (blk_below L2.out hb)
  have R3 := Lib.hid (blk_below R2.out hb)
  have H3 := Lib.hid (below_step H2.out hb)
  clear hb kB L2 R2 H2 z2 hq
  have z3 : n + 1 < W3.heap.size := blk_lt R3.out
  have sB := store_chB L3.out q
  have L4 := blk_splice (g := n) q.c.toList 17 L3.out
  rw [spl_b] at L4
  have L4 := Lib.hid L4
  have R4 := Lib.hid (blk_spliced (g := n) (o := 17) q.c.toList R3.out (by omega))
  have H4 := Lib.hid (below_spliced n 17 q.c.toList H3.out hWn)
  have kA := load_chA L4.out
  go_wp2_with fail
  refine (learn_c x.a (v - c) _).mono ?_
  rintro e W5 ⟨rfl, hb⟩
  obtain ⟨p, hp⟩ : ∃ p, p = (lmsLearn x.a (v - c)).1 := ⟨_, rfl⟩
  rw [← hp] at hl ⊢
  have L5 := Lib.hid (blk_below L4.out hb)
  have R5 := Lib.hid (blk_below R4.out hb)
  have H5 := Lib.hid (below_step H4.out hb)
  clear hb kA sB L3 R3 H3 L4 R4 H4 z3 hp
  have z5 : n + 1 < W5.heap.size := blk_lt R5.out
  have sA := store_chA L5.out p
  have L6 := blk_splice (g := n) p.c.toList 1 L5.out
  rw [spl_a] at L6
  have L6 := Lib.hid L6
  have R6 := Lib.hid (blk_spliced (g := n) (o := 1) p.c.toList R5.out (by omega))
  have H6 := Lib.hid (below_spliced n 1 p.c.toList H5.out hWn)
  have c6 := (blk_cell L6.out 0).trans (ch_last _)
  have f6 := blk_frozen L6.out 0
  have L7 := Lib.hid (blk_put L6.out 0 (.int .i64 v) (ch_set0 _ v))
  have R7 := Lib.hid (blk_far R6.out (show n + 1 ≠ n by omega) (p := ⟨n, 0, none⟩) (.int .i64 v))
  have H7 := Lib.hid (H6.out.setCell (p := ⟨n, 0, none⟩) hWn (.int .i64 v))
  have k7 := load_ch L7.out
  have s7 := store_ch R7.out ⟨v, p, q⟩
  have key : ∀ (tmps : Array Value) (w : World), tmps.getD 4 undef = .pointer (some ⟨n + 1, 0, none⟩) → tmps.getD 5 undef = .int .i64 0 → w = ((W5.setCells n 1 p.c.toList).setCell ⟨n, 0, none⟩ (.int .i64 v)).setRow (n + 1) (⟨v, p, q⟩ : Chain).c → bodyPost Try.prog Try.f26 (fun e W' => e = .returned (.tuple #[.agg (chLearn x v).1.c, .int .i64 (chLearn x v).2]) ∧ Below W.heap.size W W') .ret { tmps := tmps, defers := [] } w := fun tmps w h4 h5 hw => by
    subst hw
    exact bodyPost_ret (v := .tuple #[.agg (⟨v, p, q⟩ : Chain).c, .int .i64 0]) (res_chLearn_c h4 h5 (blk_row R7.out _)) rfl ⟨by rw [hl.out], below_row H7.out (by omega) _⟩
  go_wp2_with fail
  exact key _ _ rfl rfl rfl

theorem chLearn_c (x : Chain) (v : Int) (W : World) : Calls Try.prog 26 #[.agg x.c, .int .i64 v] W fun e W' => e = .returned (.tuple #[.agg (chLearn x v).1.c, .int .i64 (chLearn x v).2]) ∧ Below W.heap.size W W' := by
  by_cases h : chMay x = true ∧ inB v 131072 = true
  · exact chLearn_c_yes x v W h.1 h.2
  · exact chLearn_c_no x v W h

theorem res_refChLearn_c {tmps : Array Value} {w : World} {b : Nat} {x : Chain} {e : Int} (h4 : tmps.getD 4 undef = .pointer (some ⟨b, 0, none⟩)) (h5 : tmps.getD 5 undef = .int .i64 e) (h : w.heap[b]? = some (.cells x.c 43 (0, 0))) :
    (results Try.f22 tmps).run Try.prog w = .ok (.tuple #[.agg x.c, .int .i64 e]) w := by
  have hl := loadVar_ch h
  rw [Array.getD_eq_getD_getElem?] at h4 h5
  simp [results, Try.results22, h4, h5, asAddr, hl]
set_option maxHeartbeats 4000000 in
theorem refChLearn_c_no (x : Chain) (v : Int) (W : World) (hn : ¬ (chMay x = true ∧ inB v 131072 = true)) : Calls Try.prog 22 #[.agg x.c, .int .i64 v] W fun e W' => e = .returned (.tuple #[.agg (chLearn x v).1.c, .int .i64 (chLearn x v).2]) ∧ Below W.heap.size W W' := by
  have hl := Lib.hid (show chLearn x v = (chZero, 1500) by unfold chLearn; rw [if_neg hn])
  go_enter Try.func22, Try.ntmps22
  have k1 := fun o => load_ch (blk_alloc (blk_new W (.cells x.c 43)) o)
  go_wp2_with fail
  refine (refChMay_c x _).mono ?_
  rintro e W1 ⟨rfl, hb⟩
  have B := Lib.hid (blk_below (blk_new (W.alloc (.cells x.c 43)) (.cells chZero.c 43)) hb)
  have HB := Lib.hid (below_step (below_alloc (below_alloc (Below.refl W.heap.size W) (.cells x.c 43)) (.cells chZero.c 43)) hb)
  have B2 : Hid (W1.heap[W.heap.size + 1]? = some (.cells chZero.c 43 (0, 0))) := by simpa using B
  clear hb k1 B
  have s1 := store_ch B2.out
  have hWn : W.heap.size ≤ W.heap.size + 1 := by omega
  have key : ∀ (tmps : Array Value) (w : World), tmps.getD 4 undef = .pointer (some ⟨W.heap.size + 1, 0, none⟩) → tmps.getD 5 undef = .int .i64 1500 → w = W1.setRow (W.heap.size + 1) chZero.c → bodyPost Try.prog Try.f22 (fun e W' => e = .returned (.tuple #[.agg (chLearn x v).1.c, .int .i64 (chLearn x v).2]) ∧ Below W.heap.size W W') .ret { tmps := tmps, defers := [] } w := fun tmps w h4 h5 hw => by
    subst hw
    refine bodyPost_ret (v := .tuple #[.agg chZero.c, .int .i64 1500]) (res_refChLearn_c (x := chZero) h4 h5 (blk_row B2.out _)) rfl ⟨by rw [hl.out], below_row HB.out hWn _⟩
  cases hm : chMay x
  · go_wp2_with fail
    exact key _ _ rfl rfl rfl
  · have hx : inB v 131072 = false := by cases h : inB v 131072 with
      | false => rfl
      | true => exact absurd ⟨hm, h⟩ hn
    go_wp2_with (go_at_call 30; refine (refSample_c _ _).mono ?_; rintro e w' ⟨rfl, hw⟩; have hw := hw.symm; subst hw; rw [hx])
    exact key _ _ rfl rfl rfl

set_option maxHeartbeats 8000000 in
theorem refChLearn_c_yes (x : Chain) (v : Int) (W : World) (hm : chMay x = true) (hx : inB v 131072 = true) : Calls Try.prog 22 #[.agg x.c, .int .i64 v] W fun e W' => e = .returned (.tuple #[.agg (chLearn x v).1.c, .int .i64 (chLearn x v).2]) ∧ Below W.heap.size W W' := by
  have hl := Lib.hid (show chLearn x v = (⟨v, (lmsLearn x.a (v - x.last)).1, (lmsLearn x.b (v - x.last - (lmsGuess x.a).1)).1⟩, 0) by unfold chLearn; rw [hm, hx]; rfl)
  obtain ⟨c1, c2⟩ := inB_iff.1 (chMay_iff.1 hm).1
  obtain ⟨v1, v2⟩ := inB_iff.1 hx
  obtain ⟨g1, g2⟩ := guess_in x.a
  obtain ⟨c, hcc⟩ : ∃ c, c = x.last := ⟨_, rfl⟩
  obtain ⟨g, hgg⟩ : ∃ g, g = (lmsGuess x.a).1 := ⟨_, rfl⟩
  rw [← hgg] at g1 g2 hl
  rw [← hcc] at c1 c2 hl
  have Hg := Lib.hid hgg
  have Hc := Lib.hid hcc
  clear hgg hcc
  have w1 := Lib.hid (Num.w64 (n := v - c) (by omega) (by omega))
  have w2 := Lib.hid (Num.w64 (n := v - c - g) (by omega) (by omega))
  go_enter Try.func22, Try.ntmps22
  have k1 := fun o => load_ch (blk_alloc (blk_new W (.cells x.c 43)) o)
  go_wp2_with fail
  refine (refChMay_c x _).mono ?_
  rintro e W1 ⟨rfl, hb⟩
  rw [hm]
  have L1 := Lib.hid (blk_below (blk_alloc (blk_new W (.cells x.c 43)) (.cells chZero.c 43)) hb)
  have B := Lib.hid (blk_below (blk_new (W.alloc (.cells x.c 43)) (.cells chZero.c 43)) hb)
  have H1 := Lib.hid (below_step (below_alloc (below_alloc (Below.refl W.heap.size W) (.cells x.c 43)) (.cells chZero.c 43)) hb)
  have R1 : Hid (W1.heap[W.heap.size + 1]? = some (.cells chZero.c 43 (0, 0))) := by simpa using B
  clear hb k1 B
  obtain ⟨n, hn⟩ : ∃ n, n = W.heap.size := ⟨_, rfl⟩
  have hWn : W.heap.size ≤ n := by omega
  simp only [← hn] at L1 R1 ⊢
  clear hn
  have z1 : n + 1 < W1.heap.size := blk_lt R1.out
  have kA := load_chA L1.out
  have kc := (blk_cell L1.out 0).trans (ch_last x)
  rw [← Hc.out] at kc
  go_wp2_with (go_at_call 30; refine (refSample_c _ _).mono ?_; rintro e w' ⟨rfl, hw⟩; have hw := hw.symm; subst hw; rw [hx])
  refine (refGuess_c x.a _).mono ?_
  rintro e W2 ⟨rfl, hb⟩
  rw [← Hg.out]
  have L2 := Lib.hid (blk_below L1.out hb)
  have R2 := Lib.hid (blk_below R1.out hb)
  have H2 := Lib.hid (below_step H1.out hb)
  clear hb kA kc L1 R1 H1 z1
  have z2 : n + 1 < W2.heap.size := blk_lt R2.out
  have kA := load_chA L2.out
  go_wp2_with fail
  refine (refLearn_c x.a (v - c) _).mono ?_
  rintro e W3 ⟨rfl, hb⟩
  obtain ⟨p, hp⟩ : ∃ p, p = (lmsLearn x.a (v - c)).1 := ⟨_, rfl⟩
  rw [← hp] at hl ⊢
  have L3 := Lib.hid (blk_below L2.out hb)
  have R3 := Lib.hid (blk_below R2.out hb)
  have H3 := Lib.hid (below_step H2.out hb)
  clear hb kA L2 R2 H2 z2 hp
  have z3 : n + 1 < W3.heap.size := blk_lt R3.out
  have kB := fun o => load_chB (blk_alloc L3.out o)
  go_wp2_with fail
  refine (refLearn_c x.b (v - c - g) _).mono ?_
  rintro e W4 ⟨rfl, hb⟩
  obtain ⟨q, hq⟩ : ∃ q, q = (lmsLearn x.b (v - c - g)).1 := ⟨_, rfl⟩
  rw [← hq] at hl ⊢
  have P4 := Lib.hid (blk_below (blk_new W3 (.cells p.c 41)) hb)
  have R4 := Lib.hid (blk_below (blk_alloc R3.out (.cells p.c 41)) hb)
  have H4 := Lib.hid (below_step (below_alloc H3.out (.cells p.c 41)) hb)
  clear hb kB L3 R3 H3 hq
  have z4 : W3.heap.size < W4.heap.size := blk_lt P4.out
  have kp := fun o => load_lms (blk_alloc P4.out o)
  have s4 := fun o y => store_ch (blk_alloc R4.out o) y
  have R5 := Lib.hid (blk_alloc R4.out (.cells q.c 41))
  have H5 := Lib.hid (below_alloc H4.out (.cells q.c 41))
  have key : ∀ (tmps : Array Value) (w : World), tmps.getD 4 undef = .pointer (some ⟨n + 1, 0, none⟩) → tmps.getD 5 undef = .int .i64 0 → w = (W4.alloc (.cells q.c 41)).setRow (n + 1) (⟨v, p, q⟩ : Chain).c → bodyPost Try.prog Try.f22 (fun e W' => e = .returned (.tuple #[.agg (chLearn x v).1.c, .int .i64 (chLearn x v).2]) ∧ Below W.heap.size W W') .ret { tmps := tmps, defers := [] } w := fun tmps w h4 h5 hw => by
    subst hw
    exact bodyPost_ret (v := .tuple #[.agg (⟨v, p, q⟩ : Chain).c, .int .i64 0]) (res_refChLearn_c h4 h5 (blk_row R5.out _)) rfl ⟨by rw [hl.out], below_row H5.out (by omega) _⟩
  go_wp2_with fail
  exact key _ _ rfl rfl rfl

theorem refChLearn_c (x : Chain) (v : Int) (W : World) : Calls Try.prog 22 #[.agg x.c, .int .i64 v] W fun e W' => e = .returned (.tuple #[.agg (chLearn x v).1.c, .int .i64 (chLearn x v).2]) ∧ Below W.heap.size W W' := by
  by_cases h : chMay x = true ∧ inB v 131072 = true
  · exact refChLearn_c_yes x v W h.1 h.2
  · exact refChLearn_c_no x v W h
end Go.Proofs.Ytpojgfpfkfjegaa.PAll
