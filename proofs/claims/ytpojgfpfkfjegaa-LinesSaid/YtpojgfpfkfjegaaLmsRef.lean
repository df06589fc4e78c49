/- Layer 14, the document's own functions (LmsMay, LmsGuess): what they answer. -/
import Derived.Test.YtpojgfpfkfjegaaLmsPure
import Derived.BigQuiet
import Derived.Deep.QuietTactic
namespace Go.Proofs.Ytpojgfpfkfjegaa.PAll
open Go Go.RowKit Go.Proofs.YtpojgfpfkfjegaaW.PrintWords Go.Proofs.YtpojgfpfkfjegaaW.PrintMore Go.Proofs.YtpojgfpfkfjegaaW.PrintLast
set_option linter.unusedVariables false
set_option linter.unusedSimpArgs false
attribute [-go_sem] Instr.loadAt Instr.storeAt
attribute [local go_sem high] shut16 set16_0 set16_1 set16_2 set16_3 set16_4 set16_5 set16_6 set16_7 set16_8 set16_9 set16_10 set16_11 set16_12 set16_13 set16_14 set16_15 equal_lms2 load_new_lms store_new_lms load_word store_word

def all8 (x : Nat → Int) (m : Int) : Bool := (List.range 8).all fun j => inB (x j) m
theorem all8_yes {x : Nat → Int} {m : Int} (h : ∀ j, j < 8 → inB (x j) m = true) : all8 x m = true := by
  unfold all8; rw [List.all_eq_true]; exact fun j hj => h j (List.mem_range.1 hj)
theorem all8_no {x : Nat → Int} {m : Int} {j : Nat} (hj : j < 8) (h : inB (x j) m = false) : all8 x m = false := by
  unfold all8; rw [List.all_eq_false]; exact ⟨j, List.mem_range.2 hj, by rw [h]; decide⟩
theorem may_all8 (l : Lms) : lmsMay l = (all8 l.w 1048576 && all8 l.h 4194304) := by
  unfold lmsMay all8 okAt
  rw [Bool.eq_iff_iff, Bool.and_eq_true, List.all_eq_true, List.all_eq_true, List.all_eq_true]
  constructor
  · intro h
    exact ⟨fun j hj => by have := h j hj; rw [Bool.and_eq_true] at this; exact this.1, fun j hj => by have := h j hj; rw [Bool.and_eq_true] at this; exact this.2⟩
  · rintro ⟨h1, h2⟩ j hj
    rw [Bool.and_eq_true]
    exact ⟨h1 j hj, h2 j hj⟩
theorem a8_at (x : Nat → Int) {k : Nat} (hk : k < 8) : (A8 x)[k]? = some (.int .i64 (x k)) := by
  rcases show k = 0 ∨ k = 1 ∨ k = 2 ∨ k = 3 ∨ k = 4 ∨ k = 5 ∨ k = 6 ∨ k = 7 by omega with rfl | rfl | rfl | rfl | rfl | rfl | rfl | rfl <;> rfl
theorem upTo_in (x m : Int) : decide (-m ≤ x ∧ x ≤ m) = inB x m := rfl
set_option maxHeartbeats 4000000 in
theorem eight_calls (x : Nat → Int) (m : Int) (h0 : 0 ≤ m) (h1 : m ≤ 9223372036854775807) (W : World) : Calls Try.prog 43 #[.agg (A8 x), .int .i64 m] W fun e W' => e = .returned (.bool (all8 x m)) ∧ Below W.heap.size W W' := by
  go_enter Try.func43, Try.ntmps43
  go_wp2
  have B := Lib.hid (blk_new W (.cells (A8 x) 39))
  have H := Lib.hid (below_alloc (Below.refl W.heap.size W) (.cells (A8 x) 39))
  generalize W.alloc (.cells (A8 x) 39) = w1 at B H ⊢
  go_loop [5] (fun i => ∃ k : Nat, k ≤ 8 ∧ i = .int .i64 k ∧ ∀ j, j < k → inB (x j) m = true) (fun i => 8 - (intOf i).toNat)
  case atStart => exact ⟨0, by omega, rfl, fun j hj => by omega⟩
  case round =>
    obtain ⟨k, hk, rfl, hok⟩ := hrel
    have Hok := Lib.hid hok; clear hok
    by_cases hlt : k < 8
    · have c0 := (blk_cell B.out k).trans (a8_at x hlt)
      have hz : W.heap.size < w1.heap.size := blk_lt B.out
      have hw : wrap64 (-m) = -m := Num.w64 (by omega) (by omega)
      cases c1 : inB (x k) m
      · have hno := Lib.hid (all8_no hlt c1)
        have c2 : decide (-m ≤ x k ∧ x k ≤ m) = false := c1
        go_wp2_with (go_at_call 24; refine (refUpTo_calls _ _ _ _).mono ?_; rintro e w' ⟨rfl, rfl⟩)
        go_ret
        exact ⟨rb hno.out.symm, H.out⟩
      · have c2 : decide (-m ≤ x k ∧ x k ≤ m) = true := c1
        have Hc := Lib.hid c1
        clear c1
        go_wp2_with (go_at_call 24; refine (refUpTo_calls _ _ _ _).mono ?_; rintro e w' ⟨rfl, rfl⟩)
        go_round
        case rel =>
          refine ⟨k + 1, by omega, by go_num, fun j hj => ?_⟩
          by_cases hjk : j = k
          · rw [hjk]; exact Hc.out
          · exact Hok.out j (by omega)
        case measure => simp [intOf]; omega
    · have hyes := Lib.hid (all8_yes (fun j hj => Hok.out j (by omega)))
      go_wp2
      go_ret
      exact ⟨rb hyes.out.symm, H.out⟩
theorem info22 : (Try.prog.info? 39).map (·.size) = some 8 := by kernel_rfl
theorem load_w {w : World} {b : Nat} {l : Lms} {fr : Nat × Nat} (h : w.heap[b]? = some (.cells l.c 41 fr)) : (Instr.loadAt 39 (.pointer (some { block := b, off := 0 }))).run Try.prog w = .ok (.agg (A8 l.w)) w :=
  run_loadAt_mid (P := Try.prog) w b 0 39 _ _ (World.rangeAt_of_block h 0 8) Try.underlying39 rfl (by rw [info22]; rfl)
theorem load_h {w : World} {b : Nat} {l : Lms} {fr : Nat × Nat} (h : w.heap[b]? = some (.cells l.c 41 fr)) : (Instr.loadAt 39 (.pointer (some { block := b, off := 8 }))).run Try.prog w = .ok (.agg (A8 l.h)) w :=
  run_loadAt_mid (P := Try.prog) w b 8 39 _ _ (World.rangeAt_of_block h 8 8) Try.underlying39 rfl (by rw [info22]; rfl)
set_option maxHeartbeats 4000000 in
theorem refMay_c (l : Lms) (W : World) : Calls Try.prog 36 #[.agg l.c] W fun e W' => e = .returned (.bool (lmsMay l)) ∧ Below W.heap.size W W' := by
  have hm := Lib.hid (may_all8 l)
  go_enter Try.func36, Try.ntmps36
  have B := Lib.hid (blk_new W (.cells l.c 41))
  have H := Lib.hid (below_alloc (Below.refl W.heap.size W) (.cells l.c 41))
  have k1 := load_w B.out
  go_wp2_with fail
  refine (eight_calls l.w 1048576 (by omega) (by omega) _).mono ?_
  rintro e w1 ⟨rfl, hb1⟩
  cases h1 : all8 l.w 1048576
  · go_wp2
    go_ret
    exact ⟨rb (by rw [hm.out, h1]; rfl), below_step H.out hb1⟩
  · have B1 := Lib.hid (blk_below B.out hb1)
    have k2 := load_h B1.out
    go_wp2_with fail
    refine (eight_calls l.h 4194304 (by omega) (by omega) _).mono ?_
    rintro e w2 ⟨rfl, hb2⟩
    go_wp2
    go_ret
    exact ⟨rb (by rw [hm.out, h1]; rfl), below_step (below_step H.out hb1) hb2⟩
set_option maxHeartbeats 4000000 in
theorem refGuess_c (l : Lms) (W : World) : Calls Try.prog 29 #[.agg l.c] W fun e W' => e = .returned (.tuple #[.int .i64 (lmsGuess l).1, .int .i64 (lmsGuess l).2]) ∧ Below W.heap.size W W' := by
  cases hm : lmsMay l
  · have hg := Lib.hid (show lmsGuess l = (0, 1400) by unfold lmsGuess; rw [hm]; rfl)
    go_enter Try.func29, Try.ntmps29
    go_wp2_with fail
    refine (refMay_c l _).mono ?_
    rintro e W1 ⟨rfl, hb⟩
    rw [hm]
    go_wp2
    go_ret2
    exact ⟨by rw [hg.out]; rfl, below_step (below_alloc (Below.refl W.heap.size W) _) hb⟩
  · have hg := Lib.hid (show lmsGuess l = (clamp (dot l.w l.h 8 / 4096) 1048576, 0) by unfold lmsGuess; rw [hm]; rfl)
    have hd := Lib.hid (dot_in hm)
    have Hm := Lib.hid hm
    go_enter Try.func29, Try.ntmps29
    go_wp2_with fail
    refine (refMay_c l _).mono ?_
    rintro e W1 ⟨rfl, hb⟩
    rw [hm]
    have B := Lib.hid (blk_below (blk_new W (.cells l.c 41)) hb)
    have H := Lib.hid (below_step (below_alloc (Below.refl W.heap.size W) (.cells l.c 41)) hb)
    clear hb hm
    go_wp2
    go_loopw [4, 5] (fun t i wr => ∃ k : Nat, k ≤ 8 ∧ i = .int .i64 k ∧ t = .int .i64 (dot l.w l.h k) ∧ Hid (wr.heap[W.heap.size]? = some (.cells l.c 41 (0, 0))) ∧ Hid (Below W.heap.size W wr)) (fun _ i _ => 8 - (intOf i).toNat)
    case atStart => exact ⟨0, by omega, rfl, rfl, B, H⟩
    case round =>
      obtain ⟨k, hk, rfl, rfl, bk, hB⟩ := hrel
      have d1 := (hd.out k hk).1
      have d2 := (hd.out k hk).2
      have hz : W.heap.size < wr.heap.size := blk_lt bk.out
      by_cases hlt : k < 8
      · have c1 := (blk_cell bk.out k).trans (c_w l hlt)
        have c2 := (blk_cell bk.out (8 + k)).trans (c_h l hlt)
        have o := okAt_in (may_at Hm.out hlt)
        have p1 := (prod_in o.1.1 o.1.2 o.2.1 o.2.2).1
        have p2 := (prod_in o.1.1 o.1.2 o.2.1 o.2.2).2
        have hs := Lib.hid (show dot l.w l.h (k + 1) = dot l.w l.h k + l.w k * l.h k from rfl)
        clear o
        go_wp2_with fail
        go_quiet (fail)
        go_wp2_with fail
        go_roundw
        case rel => exact ⟨k + 1, by omega, by go_num, by rw [hs.out], bk, Lib.hid (below_drawn hB.out _)⟩
        case measure => simp [intOf]; omega
      · obtain rfl : k = 8 := by omega
        go_wp2_with (go_at_call 37; refine (refWithin_calls _ _ _ (by omega) (by omega)).mono ?_; rintro e w' ⟨rfl, rfl⟩)
        go_ret2
        exact ⟨by rw [hg.out]; rfl, hB.out⟩
end Go.Proofs.Ytpojgfpfkfjegaa.PAll
