/- Layer 14, LmsSteps: each weight goes by 16, or not: the walk. -/
import Derived.Test.YtglkcjepbfpkmaaLms3
import Derived.BigQuiet
import Derived.Deep.QuietTactic
namespace Go.Proofs.Ytglkcjepbfpkmaa.PAll
open Go Go.RowKit Go.Proofs.YtglkcjepbfpkmaaW.PrintWords Go.Proofs.YtglkcjepbfpkmaaW.PrintMore Go.Proofs.YtglkcjepbfpkmaaW.PrintLast
set_option linter.unusedVariables false
set_option linter.unusedSimpArgs false
attribute [-go_sem] Instr.loadAt Instr.storeAt
attribute [local go_sem high] shut16 set16_0 set16_1 set16_2 set16_3 set16_4 set16_5 set16_6 set16_7 set16_8 set16_9 set16_10 set16_11 set16_12 set16_13 set16_14 set16_15 equal_lms2 load_new_lms store_new_lms load_word store_word

theorem clamp_in (x : Int) {m : Int} (h : 0 ≤ m) : -m ≤ clamp x m ∧ clamp x m ≤ m := by
  unfold clamp mn mx; (repeat' split) <;> omega
theorem clamp_near (a d : Int) {m : Int} (h1 : -m ≤ a) (h2 : a ≤ m) (hd : -16 ≤ d) (hd2 : d ≤ 16) : -16 ≤ clamp (a + d) m - a ∧ clamp (a + d) m - a ≤ 16 ∧ (d = 0 → clamp (a + d) m = a) := by
  unfold clamp mn mx; refine ⟨?_, ?_, fun h => ?_⟩ <;> (repeat' split) <;> omega
theorem sgn_in (x : Int) : sgn x = -1 ∨ sgn x = 0 ∨ sgn x = 1 := by unfold sgn; (repeat' split) <;> simp
theorem step_in (x y : Int) : -16 ≤ 16 * sgn x * sgn y ∧ 16 * sgn x * sgn y ≤ 16 := by
  rcases sgn_in x with h | h | h <;> rcases sgn_in y with h2 | h2 | h2 <;> rw [h, h2] <;> omega
theorem learn_yes_eq {l : Lms} {x : Int} (hm : lmsMay l = true) (hx : inB x 4194304 = true) : lmsLearn l x = (⟨newW l x, fun j => if j = 0 then x else l.h (j - 1)⟩, 0) := by unfold lmsLearn; rw [hm, hx]; rfl
theorem learn_no_eq {l : Lms} {x : Int} (h : ¬ (lmsMay l = true ∧ inB x 4194304 = true)) : lmsLearn l x = (lmsZero, 1400) := by unfold lmsLearn; rw [if_neg h]
theorem inB_iff {x m : Int} : inB x m = true ↔ -m ≤ x ∧ x ≤ m := by unfold inB; exact decide_eq_true_iff
theorem learn_may {l : Lms} {x : Int} (hm : lmsMay l = true) (hx : inB x 4194304 = true) : lmsMay (lmsLearn l x).1 = true := by
  rw [learn_yes_eq hm hx]
  refine may_yes (fun j hj => ?_)
  unfold okAt
  rw [Bool.and_eq_true, inB_iff, inB_iff]
  refine ⟨clamp_in _ (by omega), ?_⟩
  show -4194304 ≤ (if j = 0 then x else l.h (j - 1)) ∧ (if j = 0 then x else l.h (j - 1)) ≤ 4194304
  split
  · exact inB_iff.1 hx
  · exact (okAt_in (may_at hm (show j - 1 < 8 by omega))).2
theorem step_of {l : Lms} {x : Int} (hm : lmsMay l = true) (j : Nat) (hj : j < 8) : (-16 ≤ newW l x j - l.w j ∧ newW l x j - l.w j ≤ 16) ∧ (l.h j = 0 → newW l x j = l.w j) := by
  have o := okAt_in (may_at hm hj)
  have s := step_in (x - (lmsGuess l).1) (l.h j)
  have c := clamp_near (l.w j) _ o.1.1 o.1.2 s.1 s.2
  refine ⟨⟨c.1, c.2.1⟩, fun h => c.2.2 ?_⟩
  rw [h]; unfold sgn; simp

set_option maxHeartbeats 4000000 in
theorem steps_no (l : Lms) (x : Int) (hn : ¬ (lmsMay l = true ∧ inB x 4194304 = true)) (W : World) : Calls Try.prog 7 #[.agg l.c, .int .i64 x] W fun e W' => e = .returned (.bool true) ∧ Below W.heap.size W W' := by
  go_enter Try.func7, Try.ntmps7
  go_wp2_with fail
  refine (awake14_calls _).mono ?_
  rintro e w1 ⟨rfl, hb1⟩
  have B1 := Lib.hid (blk_below (blk_new W (.cells l.c 24)) hb1)
  have H1 := Lib.hid (below_step (below_alloc (Below.refl W.heap.size W) _) hb1)
  clear hb1
  have z1 : W.heap.size < w1.heap.size := blk_lt B1.out
  have k1 := load_lms B1.out
  go_wp2_with fail
  refine (learn_c l x _).mono ?_
  rintro e w2 ⟨rfl, hb2⟩
  rw [learn_no_eq hn]
  clear k1
  have H2 := Lib.hid (below_step H1.out hb2)
  clear hb2 B1 H1
  have q := lmsEq_c (l := lmsZero) rfl
  have q2 : lmsEq lmsZero (mk16 0 0 0 0 0 0 0 0 0 0 0 0 0 0 0 0) = true := lmsEq_c rfl
  go_wp2_with (go_at_call 18; refine (num_calls _ _).mono ?_; rintro e w' ⟨rfl, rfl⟩)
  go_ret
  exact ⟨rfl, below_alloc H2.out _⟩

set_option maxHeartbeats 8000000 in
theorem steps_yes (l : Lms) (x : Int) (hm : lmsMay l = true) (hx : inB x 4194304 = true) (W : World) : Calls Try.prog 7 #[.agg l.c, .int .i64 x] W fun e W' => e = .returned (.bool true) ∧ Below W.heap.size W W' := by
  have Hm := Lib.hid hm
  have hl := Lib.hid (learn_yes_eq hm hx)
  have hy := Lib.hid (learn_may hm hx)
  clear hm
  go_enter Try.func7, Try.ntmps7
  go_wp2_with fail
  refine (awake14_calls _).mono ?_
  rintro e w1 ⟨rfl, hb1⟩
  have B1 := Lib.hid (blk_below (blk_new W (.cells l.c 24)) hb1)
  have H1 := Lib.hid (below_step (below_alloc (Below.refl W.heap.size W) _) hb1)
  clear hb1
  have z1 : W.heap.size < w1.heap.size := blk_lt B1.out
  have k1 := load_lms B1.out
  go_wp2_with fail
  refine (learn_c l x _).mono ?_
  rintro e w2 ⟨rfl, hb2⟩
  obtain ⟨m, hmm⟩ : ∃ m, m = (lmsLearn l x).1 := ⟨_, rfl⟩
  rw [← hmm] at hy ⊢
  rw [show (lmsLearn l x).2 = 0 by rw [hl.out]]
  have hw := Lib.hid (show m.w = newW l x by rw [hmm, hl.out])
  clear k1 hmm
  have B2 := Lib.hid (blk_below B1.out hb2)
  have H2 := Lib.hid (below_step H1.out hb2)
  clear hb2 B1 H1 z1
  have z2 : W.heap.size < w2.heap.size := blk_lt B2.out
  go_wp2_with (go_at_call 18; refine (num_calls _ _).mono ?_; rintro e w' ⟨rfl, rfl⟩)
  obtain ⟨n2, hn2⟩ : ∃ n, n = w2.heap.size := ⟨_, rfl⟩
  have D2 := Lib.hid (blk_new w2 (.cells m.c 24))
  have B3 := Lib.hid (blk_alloc B2.out (.cells m.c 24))
  have H3 := Lib.hid (below_alloc H2.out (.cells m.c 24))
  clear B2 H2
  simp only [← hn2] at D2 z2 ⊢
  clear hn2
  go_loopw [7] (fun i wr => ∃ (k : Nat), k ≤ 8 ∧ i = .int .i64 k ∧ Hid (wr.heap[W.heap.size]? = some (.cells l.c 24 (0, 0))) ∧ Hid (wr.heap[n2]? = some (.cells m.c 24 (0, 0))) ∧ Hid (Below W.heap.size W wr)) (fun i _ => 8 - (intOf i).toNat)
  case atStart => exact ⟨0, by omega, rfl, B3, D2, H3⟩
  case round =>
    obtain ⟨k, hk, rfl, bk, dk, hB⟩ := hrel
    have z3 : n2 < wr.heap.size := blk_lt dk.out
    by_cases hlt : k < 8
    · have c1 := (blk_cell dk.out k).trans (c_w m hlt)
      have c2 := (blk_cell bk.out k).trans (c_w l hlt)
      have c3 := (blk_cell bk.out (8 + k)).trans (c_h l hlt)
      have o := okAt_in (may_at Hm.out hlt)
      have s := step_of (x := x) Hm.out k hlt
      rw [hw.out] at c1
      obtain ⟨a, ha⟩ : ∃ a, a = l.w k := ⟨_, rfl⟩
      obtain ⟨b, hb⟩ : ∃ b, b = newW l x k := ⟨_, rfl⟩
      obtain ⟨h, hh⟩ : ∃ h, h = l.h k := ⟨_, rfl⟩
      rw [← ha] at o s c2
      rw [← hb] at s c1
      rw [← hh] at s c3 o
      obtain ⟨⟨s1, s2⟩, s3⟩ := s
      obtain ⟨⟨o1, o2⟩, _, _⟩ := o
      clear ha hb hh
      go_wp2_with fail
      go_quiet (fail)
      by_cases h0 : h = 0
      · have hba : b = a := s3 h0
        subst hba
        subst h0
        go_wp2_with fail
        go_roundw
        case rel => exact ⟨k + 1, by omega, by go_num, bk, dk, Lib.hid (below_drawn hB.out _)⟩
        case measure => simp [intOf]; omega
      · clear s3
        go_wp2_with fail
        go_roundw
        case rel => exact ⟨k + 1, by omega, by go_num, bk, dk, Lib.hid (below_drawn hB.out _)⟩
        case measure => simp [intOf]; omega
    · obtain rfl : k = 8 := by omega
      have k3 := load_lms dk.out
      go_wp2_with fail
      refine (may_c m _).mono ?_
      rintro e w3 ⟨rfl, hb3⟩
      rw [hy.out]
      have H4 := Lib.hid (below_step hB.out hb3)
      clear hb3
      go_wp2
      go_ret
      exact ⟨rfl, H4.out⟩
theorem steps_calls (l : Lms) (x : Int) (W : World) : Calls Try.prog 7 #[.agg l.c, .int .i64 x] W fun e W' => e = .returned (.bool true) ∧ Below W.heap.size W W' := by
  by_cases h : lmsMay l = true ∧ inB x 4194304 = true
  · exact steps_yes l x h.1 h.2 W
  · exact steps_no l x h W
theorem steps_walk (xs : List Int) (x : Int) (W : World) (hl : xs.length = 16) (_ : ∀ x ∈ xs, IntKind.i64.has x) (_ : (Lit.int .i64 x).wf = true) : Calls Try.prog 7 #[.agg (xs.map (Value.int .i64)).toArray, .int .i64 x] W fun e W' => e = .returned (.bool true) ∧ Below W.heap.size W W' := by
  rw [lmsOf_c hl]; exact steps_calls _ _ _
end Go.Proofs.Ytglkcjepbfpkmaa.PAll
