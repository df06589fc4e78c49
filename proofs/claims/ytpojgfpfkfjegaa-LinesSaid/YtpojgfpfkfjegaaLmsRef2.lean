/- Layer 14, the document's LmsLearn: what it answers. -/
import Derived.Test.YtpojgfpfkfjegaaLmsRef
namespace Go.Proofs.Ytpojgfpfkfjegaa.PAll
open Go Go.RowKit Go.Proofs.YtpojgfpfkfjegaaW.PrintWords Go.Proofs.YtpojgfpfkfjegaaW.PrintMore Go.Proofs.YtpojgfpfkfjegaaW.PrintLast
set_option linter.unusedVariables false
set_option linter.unusedSimpArgs false
attribute [-go_sem] Instr.loadAt Instr.storeAt
attribute [local go_sem high] shut16 set16_0 set16_1 set16_2 set16_3 set16_4 set16_5 set16_6 set16_7 set16_8 set16_9 set16_10 set16_11 set16_12 set16_13 set16_14 set16_15 equal_lms2 load_new_lms store_new_lms load_word store_word

theorem guess_no2 {m : Lms} (h : lmsMay m = false) : lmsGuess m = (0, 1400) := by unfold lmsGuess; rw [h]; rfl
abbrev lZ0 : Lms := mk16 0 0 0 0 0 0 0 0 0 0 0 0 0 0 0 0
theorem loadVar_lms {w : World} {b : Nat} {l : Lms} {fr : Nat × Nat} (h : w.heap[b]? = some (.cells l.c 41 fr)) : (loadVar 41 ⟨b, 0, none⟩).run Try.prog w = .ok (.agg l.c) w := by
  have h1 := World.rangeAt_of_block h 0 16
  rw [show l.c.extract 0 (0 + 16) = l.c by simp [c_size]] at h1
  have h2 := run_loadVar_mid (P := Try.prog) w b 0 41 _ _ h1 Try.underlying41 rfl (by rw [info24]; rfl)
  simpa using h2
theorem res_learn {tmps : Array Value} {w : World} {b : Nat} {l : Lms} {e : Int} (h4 : tmps.getD 4 undef = .pointer (some ⟨b, 0, none⟩)) (h5 : tmps.getD 5 undef = .int .i64 e) (h : w.heap[b]? = some (.cells l.c 41 (0, 0))) :
    (results Try.f31 tmps).run Try.prog w = .ok (.tuple #[.agg l.c, .int .i64 e]) w := by
  have hl := loadVar_lms h
  rw [Array.getD_eq_getD_getElem?] at h4 h5
  simp [results, Try.results31, h4, h5, asAddr, hl]
def putW (l : Lms) (k : Nat) (v : Int) : Lms := ⟨fun j => if j = k then v else l.w j, l.h⟩
def putH (l : Lms) (k : Nat) (v : Int) : Lms := ⟨l.w, fun j => if j = k then v else l.h j⟩
theorem c_putW (l : Lms) {k : Nat} (hk : k < 8) (v : Int) : l.c.setIfInBounds k (.int .i64 v) = (putW l k v).c := c16_set l.w l.h k hk v
theorem c_putH (l : Lms) {k : Nat} (hk : k < 8) (v : Int) : l.c.setIfInBounds (8 + k) (.int .i64 v) = (putH l k v).c := c16_setH l.w l.h k hk v
def lmsMix (l : Lms) (x : Int) (k : Nat) : Lms := ⟨fun j => if j < k then newW l x j else l.w j, fun j => if j = 0 then l.h 0 else if j < k then l.h (j - 1) else l.h j⟩

set_option maxHeartbeats 4000000 in
theorem refLearn_no (l : Lms) (x : Int) (W : World) (hn : ¬ (lmsMay l = true ∧ inB x 4194304 = true)) : Calls Try.prog 31 #[.agg l.c, .int .i64 x] W fun e W' => e = .returned (.tuple #[.agg (lmsLearn l x).1.c, .int .i64 (lmsLearn l x).2]) ∧ Below W.heap.size W W' := by
  have hl := Lib.hid (learn_no_eq hn)
  go_enter Try.func31, Try.ntmps31
  have k1 := fun o => load_lms (blk_alloc (blk_new W (.cells l.c 41)) o)
  go_wp2_with fail
  refine (refGuess_c l _).mono ?_
  rintro e W1 ⟨rfl, hb⟩
  have B := Lib.hid (blk_below (blk_new (W.alloc (.cells l.c 41)) (.cells lZ0.c 41)) hb)
  have HB := Lib.hid (below_step (below_alloc (below_alloc (Below.refl W.heap.size W) (.cells l.c 41)) (.cells lZ0.c 41)) hb)
  have B2 : Hid (W1.heap[W.heap.size + 1]? = some (.cells lZ0.c 41 (0, 0))) := by simpa using B
  clear hb k1 B
  have s1 := store_lms B2.out
  have hWn : W.heap.size ≤ W.heap.size + 1 := by omega
  have key : ∀ (tmps : Array Value) (w : World), tmps.getD 4 undef = .pointer (some ⟨W.heap.size + 1, 0, none⟩) → tmps.getD 5 undef = .int .i64 1400 → w = W1.setRow (W.heap.size + 1) lZ0.c → bodyPost Try.prog Try.f31 (fun e W' => e = .returned (.tuple #[.agg (lmsLearn l x).1.c, .int .i64 (lmsLearn l x).2]) ∧ Below W.heap.size W W') .ret { tmps := tmps, defers := [] } w := fun tmps w h4 h5 hw => by
    subst hw
    refine bodyPost_ret (v := .tuple #[.agg lmsZero.c, .int .i64 1400]) (res_learn (l := lmsZero) h4 h5 (blk_row B2.out _)) rfl ⟨by rw [hl.out], below_row HB.out hWn _⟩
  cases hm : lmsMay l
  · rw [guess_no2 hm]
    go_wp2_with (go_at_call 24; refine (refUpTo_calls _ _ _ _).mono ?_; rintro e w' ⟨rfl, rfl⟩)
    exact key _ _ rfl rfl rfl
  · have hx : inB x 4194304 = false := by cases h : inB x 4194304 with
      | false => rfl
      | true => exact absurd ⟨hm, h⟩ hn
    have hx2 : decide (-4194304 ≤ x ∧ x ≤ 4194304) = false := hx
    rw [show (lmsGuess l).2 = 0 by unfold lmsGuess; rw [hm]; rfl]
    go_wp2_with (go_at_call 24; refine (refUpTo_calls _ _ _ _).mono ?_; rintro e w' ⟨rfl, rfl⟩)
    exact key _ _ rfl rfl rfl

set_option maxHeartbeats 8000000 in
theorem refLearn_yes (l : Lms) (x : Int) (W : World) (hm : lmsMay l = true) (hx : inB x 4194304 = true) : Calls Try.prog 31 #[.agg l.c, .int .i64 x] W fun e W' => e = .returned (.tuple #[.agg (lmsLearn l x).1.c, .int .i64 (lmsLearn l x).2]) ∧ Below W.heap.size W W' := by
  have hl := Lib.hid (learn_yes_eq hm hx)
  have Hm := Lib.hid hm
  have hg2 : (lmsGuess l).2 = 0 := by unfold lmsGuess; rw [hm]; rfl
  have hx2 : decide (-4194304 ≤ x ∧ x ≤ 4194304) = true := hx
  obtain ⟨x1, x2⟩ := inB_iff.1 hx
  obtain ⟨g, hgg⟩ : ∃ g, g = (lmsGuess l).1 := ⟨_, rfl⟩
  have g1 : -1048576 ≤ g ∧ g ≤ 1048576 := by
    rw [hgg]; unfold lmsGuess; rw [hm]; exact clamp_in _ (by omega)
  obtain ⟨g1, g2⟩ := g1
  have Hgg := Lib.hid hgg
  clear hgg hm hx
  go_enter Try.func31, Try.ntmps31
  have k1 := fun o => load_lms (blk_alloc (blk_new W (.cells l.c 41)) o)
  go_wp2_with fail
  refine (refGuess_c l _).mono ?_
  rintro e W1 ⟨rfl, hb⟩
  rw [hg2, ← Hgg.out]
  have L1 := Lib.hid (blk_below (blk_alloc (blk_new W (.cells l.c 41)) (.cells lZ0.c 41)) hb)
  have B := Lib.hid (blk_below (blk_new (W.alloc (.cells l.c 41)) (.cells lZ0.c 41)) hb)
  have HB := Lib.hid (below_step (below_alloc (below_alloc (Below.refl W.heap.size W) (.cells l.c 41)) (.cells lZ0.c 41)) hb)
  have B1 : Hid (W1.heap[W.heap.size + 1]? = some (.cells lZ0.c 41 (0, 0))) := by simpa using B
  clear hb k1 B
  obtain ⟨n, hn⟩ : ∃ n, n = W.heap.size := ⟨_, rfl⟩
  have hWn : W.heap.size ≤ n := by omega
  simp only [← hn] at L1 B1 ⊢
  clear hn
  have z1 : n + 1 < W1.heap.size := blk_lt B1.out
  have k1 := load_lms L1.out
  go_wp2_with (go_at_call 24; refine (refUpTo_calls _ _ _ _).mono ?_; rintro e w' ⟨rfl, hw⟩; have hw := hw.symm; subst hw)
  have L2 := Lib.hid (blk_alloc L1.out (.cells l.c 41))
  have B2 := Lib.hid (blk_alloc B1.out (.cells l.c 41))
  have O2 := Lib.hid (blk_new W1 (.cells l.c 41))
  have H2 := Lib.hid (below_alloc HB.out (.cells l.c 41))
  obtain ⟨b, hb⟩ : ∃ b, b = W1.heap.size := ⟨_, rfl⟩
  have hbn : n + 1 < b := by omega
  simp only [← hb] at O2 ⊢
  clear hb z1 k1 L1 B1 HB
  go_loopw [9] (fun i wr => ∃ (k : Nat) (o : Lms), k ≤ 8 ∧ i = .int .i64 k ∧ Hid ((∀ j, j < 8 → o.w j = (lmsMix l x k).w j) ∧ ∀ j, j < 8 → o.h j = (lmsMix l x k).h j) ∧ Hid (wr.heap[n]? = some (.cells l.c 41 (0, 0))) ∧ Hid (wr.heap[n + 1]? = some (.cells lZ0.c 41 (0, 0))) ∧ Hid (wr.heap[b]? = some (.cells o.c 41 (0, 0))) ∧ Hid (Below W.heap.size W wr)) (fun i _ => 8 - (intOf i).toNat)
  case atStart => exact ⟨0, l, by omega, rfl, Lib.hid (And.intro (fun j hj => by show l.w j = if j < 0 then newW l x j else l.w j; rw [if_neg (by omega)]) (fun j hj => by show l.h j = if j = 0 then l.h 0 else if j < 0 then l.h (j - 1) else l.h j; by_cases h : j = 0 <;> simp [h])), L2, B2, O2, H2⟩
  case round =>
    obtain ⟨k, o, hk, rfl, hO, lk, bk, ok, hB⟩ := hrel
    have z3 : b < wr.heap.size := blk_lt ok.out
    by_cases hlt : k < 8
    · have c1 := (blk_cell lk.out k).trans (c_w l hlt)
      have c2 := (blk_cell lk.out (8 + k)).trans (c_h l hlt)
      have c3 := (blk_cell ok.out k).trans (c_w o hlt)
      have f3 := blk_frozen ok.out k
      have q := okAt_in (may_at Hm.out hlt)
      obtain ⟨a, ha⟩ : ∃ a, a = l.w k := ⟨_, rfl⟩
      obtain ⟨h, hh⟩ : ∃ h, h = l.h k := ⟨_, rfl⟩
      rw [← ha] at q c1
      rw [← hh] at q c2
      obtain ⟨⟨q1, q2⟩, q3, q4⟩ := q
      have Ha := Lib.hid ha
      have Hh := Lib.hid hh
      obtain ⟨s, hs0⟩ : ∃ s, s = sgn (x - g) := ⟨_, rfl⟩
      have s1 : -1 ≤ s ∧ s ≤ 1 := by rw [hs0]; rcases sgn_in (x - g) with e | e | e <;> rw [e] <;> omega
      have hs := Lib.hid hs0.symm
      obtain ⟨t, ht0⟩ : ∃ t, t = sgn h := ⟨_, rfl⟩
      have t1 : -1 ≤ t ∧ t ≤ 1 := by rw [ht0]; rcases sgn_in h with e | e | e <;> rw [e] <;> omega
      have ht := Lib.hid ht0.symm
      have hxg := Lib.hid (Num.w64 (n := x - g) (by omega) (by omega))
      obtain ⟨s1, s2⟩ := s1
      obtain ⟨t1, t2⟩ := t1
      have p : -16 ≤ 16 * s * t ∧ 16 * s * t ≤ 16 := by
        rcases show t = -1 ∨ t = 0 ∨ t = 1 by omega with rfl | rfl | rfl <;> omega
      obtain ⟨p1, p2⟩ := p
      clear ha hh hs0 ht0
      go_wp2_with fail
      refine start_ (n := 21) (S := fun w' => w'.cell? ⟨n, k, none⟩ = some (.int .i64 a) ∧ w'.cell? ⟨n, 8 + k, none⟩ = some (.int .i64 h)) (ds := [20]) #[false, false, false, false, false, false, false, false, false, false, false, false, false, false, false, false, false, false, false, false, false] (by kernel_rfl) rfl rfl (⟨c1, c2⟩) (fun hHeld => ?_)
      refine pure_ (i := 0) (N := some 28) (v := ?_) (a' := ?_) #[true, false, false, false, false, false, false, false, false, false, false, false, false, false, false, false, false, false, false, false, false] rfl rfl (by kernel_rfl) (fun _ _ _ h => h) (Or.inl ⟨by rfl, ?_⟩) ?_ ?_
      rotate_left
      · intro w'
        go_simp
        with_reducible rfl
      rotate_left
      · simp only [Act.put, List.setIfInBounds_toArray, List.set_cons_zero, List.set_cons_succ, i64_w, i32_w]
        rfl
      refine pure_ (i := 1) (N := some 29) (v := ?_) (a' := ?_) #[true, true, false, false, false, false, false, false, false, false, false, false, false, false, false, false, false, false, false, false, false] rfl rfl (by kernel_rfl) (fun _ _ _ h => h) (Or.inl ⟨by rfl, ?_⟩) ?_ ?_
      rotate_left
      · intro w'
        go_simp
        with_reducible rfl
      rotate_left
      · simp only [Act.put, List.setIfInBounds_toArray, List.set_cons_zero, List.set_cons_succ, i64_w, i32_w]
        rfl
      refine pure_ (i := 2) (N := some 30) (v := ?_) (a' := ?_) #[true, true, true, false, false, false, false, false, false, false, false, false, false, false, false, false, false, false, false, false, false] rfl rfl (by kernel_rfl) (fun _ _ _ h => h) (Or.inl ⟨by rfl, ?_⟩) ?_ ?_
      rotate_left
      · intro w'
        go_simp
        with_reducible rfl
      rotate_left
      · simp only [Act.put, List.setIfInBounds_toArray, List.set_cons_zero, List.set_cons_succ, i64_w, i32_w]
        rfl
      refine pure_ (i := 3) (N := some 31) (v := ?_) (a' := ?_) #[true, true, true, true, false, false, false, false, false, false, false, false, false, false, false, false, false, false, false, false, false] rfl rfl (by kernel_rfl) (fun _ _ _ h => h) (Or.inl ⟨by rfl, ?_⟩) ?_ ?_
      rotate_left
      · intro w'
        go_simp
        with_reducible rfl
      rotate_left
      · simp only [Act.put, List.setIfInBounds_toArray, List.set_cons_zero, List.set_cons_succ, i64_w, i32_w]
        rfl
      refine take_ (i := 4) (N := some 32) (v := ?_) (a' := ?_) #[true, true, true, true, true, false, false, false, false, false, false, false, false, false, false, false, false, false, false, false, false] rfl rfl (by kernel_rfl) (fun _ _ _ h => h) (Or.inl ⟨by rfl, ?_⟩) hHeld ?_ ?_
      rotate_left
      · rintro w' ⟨s0, s1⟩
        go_simp
        with_reducible rfl
      rotate_left
      · simp only [Act.put, List.setIfInBounds_toArray, List.set_cons_zero, List.set_cons_succ, i64_w, i32_w]
        rfl
      refine pure_ (i := 5) (N := some 33) (v := ?_) (a' := ?_) #[true, true, true, true, true, true, false, false, false, false, false, false, false, false, false, false, false, false, false, false, false] rfl rfl (by kernel_rfl) (fun _ _ _ h => h) (Or.inl ⟨by rfl, ?_⟩) ?_ ?_
      rotate_left
      · intro w'
        go_simp
        with_reducible rfl
      rotate_left
      · simp only [Act.put, List.setIfInBounds_toArray, List.set_cons_zero, List.set_cons_succ, i64_w, i32_w]
        rfl
      refine pure_ (i := 6) (N := some 34) (v := ?_) (a' := ?_) #[true, true, true, true, true, true, true, false, false, false, false, false, false, false, false, false, false, false, false, false, false] rfl rfl (by kernel_rfl) (fun _ _ _ h => h) (Or.inl ⟨by rfl, ?_⟩) ?_ ?_
      rotate_left
      · intro w'
        go_simp
        with_reducible rfl
      rotate_left
      · simp only [Act.put, List.setIfInBounds_toArray, List.set_cons_zero, List.set_cons_succ, i64_w, i32_w]
        rfl
      refine pure_ (i := 7) (N := some 35) (v := ?_) (a' := ?_) #[true, true, true, true, true, true, true, true, false, false, false, false, false, false, false, false, false, false, false, false, false] rfl rfl (by kernel_rfl) (fun _ _ _ h => h) (Or.inl ⟨by rfl, ?_⟩) ?_ ?_
      rotate_left
      · intro w'
        go_simp
        with_reducible rfl
      rotate_left
      · simp only [Act.put, List.setIfInBounds_toArray, List.set_cons_zero, List.set_cons_succ, i64_w, i32_w]
        rfl
      refine pure_ (i := 10) (N := some 38) (v := ?_) (a' := ?_) #[true, true, true, true, true, true, true, true, false, false, true, false, false, false, false, false, false, false, false, false, false] rfl rfl (by kernel_rfl) (fun _ _ _ h => h) (Or.inl ⟨by rfl, ?_⟩) ?_ ?_
      rotate_left
      · intro w'
        go_simp
        with_reducible rfl
      rotate_left
      · simp only [Act.put, List.setIfInBounds_toArray, List.set_cons_zero, List.set_cons_succ, i64_w, i32_w]
        rfl
      refine pure_ (i := 11) (N := some 39) (v := ?_) (a' := ?_) #[true, true, true, true, true, true, true, true, false, false, true, true, false, false, false, false, false, false, false, false, false] rfl rfl (by kernel_rfl) (fun _ _ _ h => h) (Or.inl ⟨by rfl, ?_⟩) ?_ ?_
      rotate_left
      · intro w'
        go_simp
        with_reducible rfl
      rotate_left
      · simp only [Act.put, List.setIfInBounds_toArray, List.set_cons_zero, List.set_cons_succ, i64_w, i32_w]
        rfl
      refine pure_ (i := 12) (N := some 40) (v := ?_) (a' := ?_) #[true, true, true, true, true, true, true, true, false, false, true, true, true, false, false, false, false, false, false, false, false] rfl rfl (by kernel_rfl) (fun _ _ _ h => h) (Or.inl ⟨by rfl, ?_⟩) ?_ ?_
      rotate_left
      · intro w'
        go_simp
        with_reducible rfl
      rotate_left
      · simp only [Act.put, List.setIfInBounds_toArray, List.set_cons_zero, List.set_cons_succ, i64_w, i32_w]
        rfl
      refine take_ (i := 13) (N := some 41) (v := ?_) (a' := ?_) #[true, true, true, true, true, true, true, true, false, false, true, true, true, true, false, false, false, false, false, false, false] rfl rfl (by kernel_rfl) (fun _ _ _ h => h) (Or.inl ⟨by rfl, ?_⟩) hHeld ?_ ?_
      rotate_left
      · rintro w' ⟨s0, s1⟩
        go_simp
        with_reducible rfl
      rotate_left
      · simp only [Act.put, List.setIfInBounds_toArray, List.set_cons_zero, List.set_cons_succ, i64_w, i32_w]
        rfl
      refine pure_ (i := 18) (N := some 46) (v := ?_) (a' := ?_) #[true, true, true, true, true, true, true, true, false, false, true, true, true, true, false, false, false, false, true, false, false] rfl rfl (by kernel_rfl) (fun _ _ _ h => h) (Or.inl ⟨by rfl, ?_⟩) ?_ ?_
      rotate_left
      · intro w'
        go_simp
        with_reducible rfl
      rotate_left
      · simp only [Act.put, List.setIfInBounds_toArray, List.set_cons_zero, List.set_cons_succ, i64_w, i32_w]
        rfl
      refine one_ (i := 8) (N := some 36) #[true, true, true, true, true, true, true, true, true, false, true, true, true, true, false, false, false, false, true, false, false] rfl rfl (by kernel_rfl) (by decide) (fun K hK => ?_)
      refine goes_ Try.func38 (by kernel_rfl) rfl #[.int .i64 _] (by rfl) rfl rfl (by (try simp only [List.map_toArray, List.map_cons, List.map_nil]); rfl) ?_
      refine (refSign_calls _ _).mono ?_
      rintro e w' ⟨rfl, rfl⟩
      rw [show wrap64 (x - g) = x - g from hxg.out, hs.out]
      refine ⟨_, rfl, ?_⟩
      refine hK.out _ _ (hHeld) (fun hHeld => ?_)
      clear hK K
      refine norm_ (a' := ?_) ?_ ?_
      rotate_left
      · show Act.put _ (some 36) _ = _
        simp only [Act.put, List.setIfInBounds_toArray, List.set_cons_zero, List.set_cons_succ, i64_w, i32_w]
        rfl
      refine pure_ (i := 9) (N := some 37) (v := ?_) (a' := ?_) #[true, true, true, true, true, true, true, true, true, true, true, true, true, true, false, false, false, false, true, false, false] rfl rfl (by kernel_rfl) (fun _ _ _ h => h) (Or.inl ⟨by rfl, ?_⟩) ?_ ?_
      rotate_left
      · intro w'
        go_simp
        with_reducible rfl
      rotate_left
      · simp only [Act.put, List.setIfInBounds_toArray, List.set_cons_zero, List.set_cons_succ, i64_w, i32_w]
        rfl
      refine one_ (i := 14) (N := some 42) #[true, true, true, true, true, true, true, true, true, true, true, true, true, true, true, false, false, false, true, false, false] rfl rfl (by kernel_rfl) (by decide) (fun K hK => ?_)
      refine goes_ Try.func38 (by kernel_rfl) rfl #[.int .i64 _] (by rfl) rfl rfl (by (try simp only [List.map_toArray, List.map_cons, List.map_nil]); rfl) ?_
      refine (refSign_calls _ _).mono ?_
      rintro e w' ⟨rfl, rfl⟩
      rw [ht.out]
      refine ⟨_, rfl, ?_⟩
      refine hK.out _ _ (hHeld) (fun hHeld => ?_)
      clear hK K
      refine norm_ (a' := ?_) ?_ ?_
      rotate_left
      · show Act.put _ (some 42) _ = _
        simp only [Act.put, List.setIfInBounds_toArray, List.set_cons_zero, List.set_cons_succ, i64_w, i32_w]
        rfl
      refine pure_ (i := 15) (N := some 43) (v := ?_) (a' := ?_) #[true, true, true, true, true, true, true, true, true, true, true, true, true, true, true, true, false, false, true, false, false] rfl rfl (by kernel_rfl) (fun _ _ _ h => h) (Or.inl ⟨by rfl, ?_⟩) ?_ ?_
      rotate_left
      · intro w'
        go_simp
        with_reducible rfl
      rotate_left
      · simp only [Act.put, List.setIfInBounds_toArray, List.set_cons_zero, List.set_cons_succ, i64_w, i32_w]
        rfl
      refine pure_ (i := 16) (N := some 44) (v := ?_) (a' := ?_) #[true, true, true, true, true, true, true, true, true, true, true, true, true, true, true, true, true, false, true, false, false] rfl rfl (by kernel_rfl) (fun _ _ _ h => h) (Or.inl ⟨by rfl, ?_⟩) ?_ ?_
      rotate_left
      · intro w'
        go_simp
        with_reducible rfl
      rotate_left
      · simp only [Act.put, List.setIfInBounds_toArray, List.set_cons_zero, List.set_cons_succ, i64_w, i32_w]
        rfl
      refine one_ (i := 17) (N := some 45) #[true, true, true, true, true, true, true, true, true, true, true, true, true, true, true, true, true, true, true, false, false] rfl rfl (by kernel_rfl) (by decide) (fun K hK => ?_)
      refine goes_ Try.func37 (by kernel_rfl) rfl #[.int .i64 _, .int .i64 1048576] (by rfl) rfl rfl (by (try simp only [List.map_toArray, List.map_cons, List.map_nil]); rfl) ?_
      refine (refWithin_calls _ _ _ (by omega) (by omega)).mono ?_
      rintro e w' ⟨rfl, rfl⟩
      refine ⟨_, rfl, ?_⟩
      refine hK.out _ _ (hHeld) (fun hHeld => ?_)
      clear hK K
      refine norm_ (a' := ?_) ?_ ?_
      rotate_left
      · show Act.put _ (some 45) _ = _
        simp only [Act.put, List.setIfInBounds_toArray, List.set_cons_zero, List.set_cons_succ, i64_w, i32_w]
        rfl
      refine pure_ (i := 19) (N := some 47) (v := ?_) (a' := ?_) #[true, true, true, true, true, true, true, true, true, true, true, true, true, true, true, true, true, true, true, true, false] rfl rfl (by kernel_rfl) (fun _ _ _ h => h) (Or.inl ⟨by rfl, ?_⟩) ?_ ?_
      rotate_left
      · intro w'
        go_simp
        with_reducible rfl
      rotate_left
      · simp only [Act.put, List.setIfInBounds_toArray, List.set_cons_zero, List.set_cons_succ, i64_w, i32_w]
        rfl
      refine last_ (i := 20) (N := none) #[true, true, true, true, true, true, true, true, true, true, true, true, true, true, true, true, true, true, true, true, true] rfl rfl (by kernel_rfl) (by decide) (fun K hK => ?_)
      refine skip_ (w1 := ?_) (by rfl) rfl ?_ ?_
      rotate_left
      · go_simp
        rfl
      refine hK.out _ _ ?_
      clear hK K
      refine done_ (by kernel_rfl) ?_
      have hv := Lib.hid (show clamp (wrap64 (a + wrap64 (wrap64 (16 * s) * t))) 1048576 = newW l x k by
        unfold newW
        rw [← Ha.out, ← Hh.out, ← Hgg.out, hs.out, ht.out]
        refine congrArg (fun v : Int => clamp v 1048576) ?_
        rcases show t = -1 ∨ t = 0 ∨ t = 1 by omega with e | e | e <;> (rw [e]; simp only [wrap64]; omega))
      rw [hv.out]
      have L5 := Lib.hid (blk_drew (blk_far lk.out (show n ≠ b by omega) (p := ⟨b, k, none⟩) (.int .i64 (newW l x k))))
      have B5 := Lib.hid (blk_drew (blk_far bk.out (show n + 1 ≠ b by omega) (p := ⟨b, k, none⟩) (.int .i64 (newW l x k))))
      have O5 := Lib.hid (blk_drew (blk_put ok.out k (.int .i64 (newW l x k)) (c_putW o hlt _)))
      have H5 := Lib.hid ((hB.out.setCell (p := ⟨b, k, none⟩) (show W.heap.size ≤ b by omega) (.int .i64 (newW l x k))).drew)
      clear c1 c2 c3 f3 hHeld lk bk ok hB
      generalize ((wr.setCell ⟨b, k, none⟩ (.int .i64 (newW l x k))).drew) = w5 at L5 B5 O5 H5 ⊢
      have z5 : b < w5.heap.size := blk_lt O5.out
      by_cases h0 : k = 0
      · have hz : (k : Int) = 0 := by omega
        go_wp2_with fail
        go_roundw
        case rel =>
          refine ⟨k + 1, putW o k (newW l x k), by omega, by go_num, Lib.hid ⟨fun j hj => ?_, fun j hj => ?_⟩, L5, B5, O5, H5⟩
          · have e := hO.out.1 j hj
            show (if j = k then newW l x k else o.w j) = if j < k + 1 then newW l x j else l.w j
            by_cases hjk : j = k
            · rw [if_pos hjk, if_pos (by omega), hjk]
            · rw [if_neg hjk, e]
              show (if j < k then newW l x j else l.w j) = _
              rw [if_neg (by omega), if_neg (by omega)]
          · have e := hO.out.2 j hj
            show o.h j = _
            rw [e]
            show (if j = 0 then l.h 0 else if j < k then l.h (j - 1) else l.h j) = if j = 0 then l.h 0 else if j < k + 1 then l.h (j - 1) else l.h j
            by_cases hj0 : j = 0
            · rw [if_pos hj0, if_pos hj0]
            · rw [if_neg hj0, if_neg hj0, if_neg (by omega), if_neg (by omega)]
        case measure => simp [intOf]; omega
      · have hk0 : (0 : Int) < k := by omega
        have c4 := (blk_cell L5.out (8 + (k - 1))).trans (c_h l (show k - 1 < 8 by omega))
        have c5 := (blk_cell O5.out (8 + k)).trans (c_h (putW o k (newW l x k)) hlt)
        have f5 := blk_frozen O5.out (8 + k)
        go_wp2_with fail
        go_roundw
        case rel =>
          refine ⟨k + 1, putH (putW o k (newW l x k)) k (l.h (k - 1)), by omega, by go_num, Lib.hid ⟨fun j hj => ?_, fun j hj => ?_⟩, Lib.hid (blk_far L5.out (show n ≠ b by omega) _), Lib.hid (blk_far B5.out (show n + 1 ≠ b by omega) _), Lib.hid (blk_put O5.out (8 + k) _ (c_putH _ hlt _)), Lib.hid (H5.out.setCell (show W.heap.size ≤ b by omega) _)⟩
          · have e := hO.out.1 j hj
            show (if j = k then newW l x k else o.w j) = if j < k + 1 then newW l x j else l.w j
            by_cases hjk : j = k
            · rw [if_pos hjk, if_pos (by omega), hjk]
            · rw [if_neg hjk, e]
              show (if j < k then newW l x j else l.w j) = _
              by_cases hj2 : j < k
              · rw [if_pos hj2, if_pos (by omega)]
              · rw [if_neg hj2, if_neg (by omega)]
          · have e := hO.out.2 j hj
            show (if j = k then l.h (k - 1) else o.h j) = if j = 0 then l.h 0 else if j < k + 1 then l.h (j - 1) else l.h j
            by_cases hjk : j = k
            · rw [if_pos hjk, if_neg (by omega), if_pos (by omega), hjk]
            · rw [if_neg hjk, e]
              show (if j = 0 then l.h 0 else if j < k then l.h (j - 1) else l.h j) = _
              by_cases hj0 : j = 0
              · rw [if_pos hj0, if_pos hj0]
              · rw [if_neg hj0, if_neg hj0]
                by_cases hj2 : j < k
                · rw [if_pos hj2, if_pos (by omega)]
                · rw [if_neg hj2, if_neg (by omega)]
        case measure => simp [intOf]; omega
    · obtain rfl : k = 8 := by omega
      have c1 := (blk_cell ok.out 8).trans (c_h o (show 0 < 8 by omega))
      have f1 := blk_frozen ok.out 8
      have O5 := Lib.hid (blk_put ok.out 8 (.int .i64 x) (c_putH o (show 0 < 8 by omega) x))
      have B5 := Lib.hid (blk_far bk.out (show n + 1 ≠ b by omega) (p := ⟨b, 8, none⟩) (.int .i64 x))
      have H5 := Lib.hid (hB.out.setCell (p := ⟨b, 8, none⟩) (show W.heap.size ≤ b by omega) (.int .i64 x))
      have l5 := load_lms O5.out
      have s5 := store_lms B5.out (putH o 0 x)
      have key : ∀ (tmps : Array Value) (w : World), tmps.getD 4 undef = .pointer (some ⟨n + 1, 0, none⟩) → tmps.getD 5 undef = .int .i64 0 → w = (wr.setCell ⟨b, 8, none⟩ (.int .i64 x)).setRow (n + 1) (putH o 0 x).c → bodyPost Try.prog Try.f31 (fun e W' => e = .returned (.tuple #[.agg (lmsLearn l x).1.c, .int .i64 (lmsLearn l x).2]) ∧ Below W.heap.size W W') .ret { tmps := tmps, defers := [] } w := fun tmps w h4 h5 hw => by
        subst hw
        refine bodyPost_ret (v := .tuple #[.agg (putH o 0 x).c, .int .i64 0]) (res_learn h4 h5 (blk_row B5.out _)) rfl ⟨?_, below_row H5.out (by omega) _⟩
        rw [hl.out]
        refine congrArg (fun c : Array Value => Ending.returned (.tuple #[.agg c, .int .i64 0])) (c_same (fun j hj => ?_) (fun j hj => ?_))
        · show o.w j = newW l x j
          rw [hO.out.1 j hj]
          show (if j < 8 then newW l x j else l.w j) = _
          rw [if_pos hj]
        · show (if j = 0 then x else o.h j) = if j = 0 then x else l.h (j - 1)
          by_cases hj0 : j = 0
          · rw [if_pos hj0, if_pos hj0]
          · rw [if_neg hj0, if_neg hj0, hO.out.2 j hj]
            show (if j = 0 then l.h 0 else if j < 8 then l.h (j - 1) else l.h j) = _
            rw [if_neg hj0, if_pos hj]
      go_wp2_with fail
      exact key _ _ rfl rfl rfl
theorem refLearn_c (l : Lms) (x : Int) (W : World) : Calls Try.prog 31 #[.agg l.c, .int .i64 x] W fun e W' => e = .returned (.tuple #[.agg (lmsLearn l x).1.c, .int .i64 (lmsLearn l x).2]) ∧ Below W.heap.size W W' := by
  by_cases h : lmsMay l = true ∧ inB x 4194304 = true
  · exact refLearn_yes l x W h.1 h.2
  · exact refLearn_no l x W h
end Go.Proofs.Ytpojgfpfkfjegaa.PAll
