/- A part of the proof of a law of descanttop: this session's own texts and printed texts, shortened and joined. -/
import Derived.Test.YtnoibcdojfnicaaGreatDoorE9
set_option linter.unusedVariables false
set_option linter.unusedSimpArgs false
set_option maxRecDepth 100000
set_option maxHeartbeats 16000000
namespace Go.Proofs.YtnoibcdojfnicaaGreatDoor.PL
open Go.Proofs.YtnoibcdojfnicaaGreatDoorW.Short
open Bool renaming true → Y, false → J
set_option maxRecDepth 100000
open Go Go.RowKit Go.Proofs.YtnoibcdojfnicaaGreatDoorW.PrintWords Go.Proofs.YtnoibcdojfnicaaGreatDoorW.PrintMore
structure Lms where
 w : Nat → Int
 h : Nat → Int
abbrev Lms.v (l : Lms) : Value := .agg #[.int .i64 (l.w 0), .int .i64 (l.w 1), .int .i64 (l.w 2), .int .i64 (l.w 3), .int .i64 (l.w 4), .int .i64 (l.w 5), .int .i64 (l.w 6), .int .i64 (l.w 7), .int .i64 (l.h 0), .int .i64 (l.h 1), .int .i64 (l.h 2), .int .i64 (l.h 3), .int .i64 (l.h 4), .int .i64 (l.h 5), .int .i64 (l.h 6), .int .i64 (l.h 7)]
def okAt (l : Lms) (k : Nat) : Bool := inB (l.w k) 1048576 && inB (l.h k) 4194304
def lmsMay (l : Lms) : Bool := (List.range 8).all (okAt l)
theorem may_yes {l : Lms} (h : ∀ j, j < 8 → okAt l j = true) : lmsMay l = true := by
 unfold lmsMay; rw [List.all_eq_true]; intro j hj; exact h j (List.mem_range.1 hj)
theorem may_no {l : Lms} {j : Nat} (hj : j < 8) (h : okAt l j = false) : lmsMay l = false := by
 unfold lmsMay; rw [List.all_eq_false]; exact ⟨j, List.mem_range.2 hj, by rw [h]; decide⟩
theorem may_at {l : Lms} (h : lmsMay l = true) {j : Nat} (hj : j < 8) : okAt l j = true := by
 unfold lmsMay at h; rw [List.all_eq_true] at h; exact h j (List.mem_range.2 hj)
theorem bcell {W w1 : World} (hb : Below W.heap.size W w1) : (∀ b o, b < W.heap.size → w1.cell? ⟨b, o, none⟩ = W.cell? ⟨b, o, none⟩) ∧ (∀ b o, b < W.heap.size → w1.frozen? ⟨b, o, none⟩ = W.frozen? ⟨b, o, none⟩) :=
 ⟨fun b o h => hb.cell (p := ⟨b, o, none⟩) h, fun b o h => hb.frozen (p := ⟨b, o, none⟩) h⟩
theorem idx8 (x : Nat → Int) (k : Nat) (hk : k < 8) (W : World) : (Instr.index 59 (.agg #[.int .i64 (x 0), .int .i64 (x 1), .int .i64 (x 2), .int .i64 (x 3), .int .i64 (x 4), .int .i64 (x 5), .int .i64 (x 6), .int .i64 (x 7)]) (.int .i64 (k : Int))).run Tryz.prog W = .ok (.int .i64 (x k)) W := by
 rcases show k = 0 ∨ k = 1 ∨ k = 2 ∨ k = 3 ∨ k = 4 ∨ k = 5 ∨ k = 6 ∨ k = 7 by omega with rfl | rfl | rfl | rfl | rfl | rfl | rfl | rfl <;> rfl
theorem cellH (l : Lms) (W : World) (T : TypeId) (k : Nat) (hk : k < 8) : (W.alloc (.cells #[.int .i64 (l.w 0), .int .i64 (l.w 1), .int .i64 (l.w 2), .int .i64 (l.w 3), .int .i64 (l.w 4), .int .i64 (l.w 5), .int .i64 (l.w 6), .int .i64 (l.w 7), .int .i64 (l.h 0), .int .i64 (l.h 1), .int .i64 (l.h 2), .int .i64 (l.h 3), .int .i64 (l.h 4), .int .i64 (l.h 5), .int .i64 (l.h 6), .int .i64 (l.h 7)] T)).cell? ⟨W.heap.size, 8 + k, none⟩ = some (.int .i64 (l.h k)) := by
 rcases show k = 0 ∨ k = 1 ∨ k = 2 ∨ k = 3 ∨ k = 4 ∨ k = 5 ∨ k = 6 ∨ k = 7 by omega with rfl | rfl | rfl | rfl | rfl | rfl | rfl | rfl <;> simp [World.cell?_alloc_new]
theorem may_calls (l : Lms) (W : World) : Calls Tryz.prog 121 #[l.v] W fun e W' => e = .returned (.bool (lmsMay l)) ∧ Below W.heap.size W W' := by
 go_enter Tryz.func121, Tryz.ntmps121
 go_wp2
 go_loop [7] (fun i => ∃ k : Nat, k ≤ 8 ∧ i = .int .i64 k ∧ ∀ j, j < k → okAt l j = true) (fun i => 8 - (intOf i).toNat)
 case atStart => exact ⟨0, by omega, rfl, fun j hj => by omega⟩
 case round =>
  obtain ⟨k, hk, rfl, hok⟩ := hrel
  have Hok := Lib.hid hok; clear hok
  by_cases hlt : k < 8
  ·have i0 := idx8 l.w k hlt
   have c0 := cellH l W 61 k hlt
   cases c1 : inB (l.w k) 1048576
   ·have hno := Lib.hid (may_no hlt (show okAt l k = false by unfold okAt; rw [c1]; rfl))
    go_wp2_with (go_at_call 123; refine (in_calls _ _ _ (by omega) (by omega)).mono ?_; rintro e w' ⟨rfl, rfl⟩)
    go_ret
    exact ⟨rb hno.out.symm, (Below.refl _ _).alloc (Nat.le_refl _) _⟩
   ·cases c2 : inB (l.h k) 4194304
    ·have hno := Lib.hid (may_no hlt (show okAt l k = false by unfold okAt; rw [c1, c2]; rfl))
     go_wp2_with (go_at_call 123; refine (in_calls _ _ _ (by omega) (by omega)).mono ?_; rintro e w' ⟨rfl, rfl⟩)
     go_ret
     exact ⟨rb hno.out.symm, (Below.refl _ _).alloc (Nat.le_refl _) _⟩
    ·have hyes := Lib.hid (show okAt l k = true by unfold okAt; rw [c1, c2]; rfl)
     go_wp2_with (go_at_call 123; refine (in_calls _ _ _ (by omega) (by omega)).mono ?_; rintro e w' ⟨rfl, rfl⟩)
     go_round
     case rel =>
      refine ⟨k + 1, by omega, by go_num, fun j hj => ?_⟩
      by_cases hjk : j = k
      ·rw [hjk]; exact hyes.out
      ·exact Hok.out j (by omega)
     case measure => simp [intOf]; omega
  ·have hyes := Lib.hid (may_yes (fun j hj => Hok.out j (by omega)))
   go_wp2
   go_ret
   exact ⟨rb hyes.out.symm, (Below.refl _ _).alloc (Nat.le_refl _) _⟩
def dot (w h : Nat → Int) : Nat → Int
 | 0 => 0
 | k + 1 => dot w h k + w k * h k
def lmsGuess (l : Lms) : Int × Int := if lmsMay l = true then (clamp (dot l.w l.h 8 / 4096) 1048576, 0) else (0, 1400)
theorem prod_in {a b : Int} (ha : -1048576 ≤ a) (ha2 : a ≤ 1048576) (hb : -4194304 ≤ b) (hb2 : b ≤ 4194304) : -4398046511104 ≤ a * b ∧ a * b ≤ 4398046511104 := by
 have h1 : a * b ≤ a.natAbs * b.natAbs := by rw [← Int.natCast_mul, ← Int.natAbs_mul]; exact Int.le_natAbs
 have h2 : -(a * b) ≤ a.natAbs * b.natAbs := by rw [← Int.natCast_mul, ← Int.natAbs_mul, ← Int.natAbs_neg]; exact Int.le_natAbs
 have h3 : (a.natAbs : Int) * b.natAbs ≤ 1048576 * 4194304 := Int.mul_le_mul (by omega) (by omega) (by omega) (by omega)
 omega
theorem okAt_in {l : Lms} {k : Nat} (h : okAt l k = true) : (-1048576 ≤ l.w k ∧ l.w k ≤ 1048576) ∧ (-4194304 ≤ l.h k ∧ l.h k ≤ 4194304) := by
 unfold okAt inB at h
 rw [Bool.and_eq_true, decide_eq_true_iff, decide_eq_true_iff] at h
 exact h
theorem dot_in {l : Lms} (h : lmsMay l = true) : ∀ k, k ≤ 8 → -4398046511104 * k ≤ dot l.w l.h k ∧ dot l.w l.h k ≤ 4398046511104 * k := by
 intro k
 induction k with
 | zero => intro _; simp [dot]
 | succ k ih =>
  intro hk
  have a := ih (by omega)
  have o := okAt_in (may_at h (show k < 8 by omega))
  have p := prod_in o.1.1 o.1.2 o.2.1 o.2.2
  simp only [dot]
  omega
theorem guess_calls (l : Lms) (W : World) : Calls Tryz.prog 72 #[l.v] W fun e W' => e = .returned (.tuple #[.int .i64 (lmsGuess l).1, .int .i64 (lmsGuess l).2]) ∧ Below W.heap.size W W' := by
 cases hm : lmsMay l
 ·have hg := Lib.hid (show lmsGuess l = (0, 1400) by unfold lmsGuess; rw [hm]; rfl)
  go_enter Tryz.func72, Tryz.ntmps72
  go_wp2_with fail
  refine (may_calls l _).mono ?_
  rintro e W1 ⟨rfl, hb⟩
  rw [hm]
  go_wp2
  go_ret2
  exact ⟨by rw [hg.out]; rfl, ((Below.refl _ _).alloc (Nat.le_refl _) _).trans (hb.mono (by simp))⟩
 ·have hg := Lib.hid (show lmsGuess l = (clamp (dot l.w l.h 8 / 4096) 1048576, 0) by unfold lmsGuess; rw [hm]; rfl)
  have hd := Lib.hid (dot_in hm)
  have Hm := Lib.hid hm
  go_enter Tryz.func72, Tryz.ntmps72
  go_wp2_with fail
  refine (may_calls l _).mono ?_
  rintro e W1 ⟨rfl, hb⟩
  rw [hm]
  obtain ⟨hc, hf⟩ := bcell hb
  have hB := Lib.hid (((Below.refl W.heap.size W).alloc (Nat.le_refl _) (.cells #[.int .i64 (l.w 0), .int .i64 (l.w 1), .int .i64 (l.w 2), .int .i64 (l.w 3), .int .i64 (l.w 4), .int .i64 (l.w 5), .int .i64 (l.w 6), .int .i64 (l.w 7), .int .i64 (l.h 0), .int .i64 (l.h 1), .int .i64 (l.h 2), .int .i64 (l.h 3), .int .i64 (l.h 4), .int .i64 (l.h 5), .int .i64 (l.h 6), .int .i64 (l.h 7)] 61)).trans (hb.mono (by simp)))
  clear hb hm
  go_wp2
  go_loop [4, 12] (fun t i => ∃ k : Nat, k ≤ 8 ∧ i = .int .i64 k ∧ t = .int .i64 (dot l.w l.h k)) (fun _ i => 8 - (intOf i).toNat)
  case atStart => exact ⟨0, by omega, rfl, rfl⟩
  case round =>
   obtain ⟨k, hk, rfl, rfl⟩ := hrel
   have d1 := (hd.out k hk).1
   have d2 := (hd.out k hk).2
   by_cases hlt : k < 8
   ·have i0 := idx8 l.w k hlt
    have c0 := (hc W.heap.size (8 + k) (by simp)).trans (cellH l W 61 k hlt)
    have o := okAt_in (may_at Hm.out hlt)
    have p1 := (prod_in o.1.1 o.1.2 o.2.1 o.2.2).1
    have p2 := (prod_in o.1.1 o.1.2 o.2.1 o.2.2).2
    have hs := Lib.hid (show dot l.w l.h (k + 1) = dot l.w l.h k + l.w k * l.h k from rfl)
    clear o hc
    go_wp2
    go_round
    case rel => exact ⟨k + 1, by omega, by go_num, by rw [hs.out]⟩
    case measure => simp [intOf]; omega
   ·obtain rfl : k = 8 := by omega
    go_wp2_with (go_at_call 122; refine (bound_calls _ _ _ (by omega) (by omega)).mono ?_; rintro e w' ⟨rfl, rfl⟩)
    go_ret2
    exact ⟨by rw [hg.out]; rfl, hB.out⟩
end Go.Proofs.YtnoibcdojfnicaaGreatDoor.PL
