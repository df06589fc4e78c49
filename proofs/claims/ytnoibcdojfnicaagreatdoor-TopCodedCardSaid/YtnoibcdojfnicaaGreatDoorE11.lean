/- A part of the proof of a law of descanttop: this session's own texts and printed texts, shortened and joined. -/
import Derived.Test.YtnoibcdojfnicaaGreatDoorE10
set_option linter.unusedVariables false
set_option linter.unusedSimpArgs false
set_option maxRecDepth 100000
set_option maxHeartbeats 16000000
namespace Go.Proofs.YtnoibcdojfnicaaGreatDoor.PL
open Go.Proofs.YtnoibcdojfnicaaGreatDoorW.Short
open Bool renaming true → Y, false → J
set_option maxRecDepth 100000
open Go Go.RowKit Go.Proofs.YtnoibcdojfnicaaGreatDoorW.PrintWords Go.Proofs.YtnoibcdojfnicaaGreatDoorW.PrintMore Go.Proofs.YtnoibcdojfnicaaGreatDoorW.PrintLast
def lmsZero : Lms := ⟨fun _ => 0, fun _ => 0⟩
def newW (l : Lms) (x : Int) (j : Nat) : Int := clamp (l.w j + 16 * sgn (x - (lmsGuess l).1) * sgn (l.h j)) 1048576
def lmsLearn (l : Lms) (x : Int) : Lms × Int := if lmsMay l = true ∧ inB x 4194304 = true then (⟨newW l x, fun j => if j = 0 then x else l.h (j - 1)⟩, 0) else (lmsZero, 1400)
abbrev C16 (w h : Nat → Int) : Array Value := #[.int .i64 (w 0), .int .i64 (w 1), .int .i64 (w 2), .int .i64 (w 3), .int .i64 (w 4), .int .i64 (w 5), .int .i64 (w 6), .int .i64 (w 7), .int .i64 (h 0), .int .i64 (h 1), .int .i64 (h 2), .int .i64 (h 3), .int .i64 (h 4), .int .i64 (h 5), .int .i64 (h 6), .int .i64 (h 7)]
abbrev Z16 : Array Value := #[.int .i64 0, .int .i64 0, .int .i64 0, .int .i64 0, .int .i64 0, .int .i64 0, .int .i64 0, .int .i64 0, .int .i64 0, .int .i64 0, .int .i64 0, .int .i64 0, .int .i64 0, .int .i64 0, .int .i64 0, .int .i64 0]
theorem c16_w (w h : Nat → Int) (k : Nat) (hk : k < 8) : (C16 w h)[k]? = some (.int .i64 (w k)) := by
 rcases show k = 0 ∨ k = 1 ∨ k = 2 ∨ k = 3 ∨ k = 4 ∨ k = 5 ∨ k = 6 ∨ k = 7 by omega with rfl | rfl | rfl | rfl | rfl | rfl | rfl | rfl <;> rfl
theorem c16_h (w h : Nat → Int) (k : Nat) (hk : k < 8) : (C16 w h)[8 + k]? = some (.int .i64 (h k)) := by
 rcases show k = 0 ∨ k = 1 ∨ k = 2 ∨ k = 3 ∨ k = 4 ∨ k = 5 ∨ k = 6 ∨ k = 7 by omega with rfl | rfl | rfl | rfl | rfl | rfl | rfl | rfl <;> rfl
theorem c16_set (w h : Nat → Int) (k : Nat) (hk : k < 8) (v : Int) : (C16 w h).setIfInBounds k (.int .i64 v) = C16 (fun j => if j = k then v else w j) h := by
 rcases show k = 0 ∨ k = 1 ∨ k = 2 ∨ k = 3 ∨ k = 4 ∨ k = 5 ∨ k = 6 ∨ k = 7 by omega with rfl | rfl | rfl | rfl | rfl | rfl | rfl | rfl <;> rfl
theorem c16_setH (w h : Nat → Int) (k : Nat) (hk : k < 8) (v : Int) : (C16 w h).setIfInBounds (8 + k) (.int .i64 v) = C16 w (fun j => if j = k then v else h j) := by
 rcases show k = 0 ∨ k = 1 ∨ k = 2 ∨ k = 3 ∨ k = 4 ∨ k = 5 ∨ k = 6 ∨ k = 7 by omega with rfl | rfl | rfl | rfl | rfl | rfl | rfl | rfl <;> rfl
theorem c16_congr {w w' h h' : Nat → Int} (e : ∀ j, j < 8 → w j = w' j) (e2 : ∀ j, j < 8 → h j = h' j) : C16 w h = C16 w' h' := by
 rw [C16, C16, e 0 (by omega), e 1 (by omega), e 2 (by omega), e 3 (by omega), e 4 (by omega), e 5 (by omega), e 6 (by omega), e 7 (by omega), e2 0 (by omega), e2 1 (by omega), e2 2 (by omega), e2 3 (by omega), e2 4 (by omega), e2 5 (by omega), e2 6 (by omega), e2 7 (by omega)]
theorem blk_shift {w : World} {g : Nat} {t : TypeId} (ws h : Nat → Int) (hb : w.heap[g]? = some (.cells (C16 ws h) t (0, 0))) : (w.setCells g 9 [.int .i64 (h 0), .int .i64 (h 1), .int .i64 (h 2), .int .i64 (h 3), .int .i64 (h 4), .int .i64 (h 5), .int .i64 (h 6)]).heap[g]? = some (.cells (C16 ws (fun j => if j = 0 then h 0 else h (j - 1))) t (0, 0)) := by
 simp only [World.setCells]
 have h1 := blk_put hb (8 + 1) (.int .i64 (h 0)) (c16_setH ws h 1 (by omega) _)
 have h2 := blk_put h1 (8 + 2) (.int .i64 (h 1)) (c16_setH ws _ 2 (by omega) _)
 have h3 := blk_put h2 (8 + 3) (.int .i64 (h 2)) (c16_setH ws _ 3 (by omega) _)
 have h4 := blk_put h3 (8 + 4) (.int .i64 (h 3)) (c16_setH ws _ 4 (by omega) _)
 have h5 := blk_put h4 (8 + 5) (.int .i64 (h 4)) (c16_setH ws _ 5 (by omega) _)
 have h6 := blk_put h5 (8 + 6) (.int .i64 (h 5)) (c16_setH ws _ 6 (by omega) _)
 have h7 := blk_put h6 (8 + 7) (.int .i64 (h 6)) (c16_setH ws _ 7 (by omega) _)
 rw [c16_congr (w' := ws) (h' := fun j => if j = 0 then h 0 else h (j - 1)) (fun _ _ => rfl) (fun j hj => by
  rcases show j = 0 ∨ j = 1 ∨ j = 2 ∨ j = 3 ∨ j = 4 ∨ j = 5 ∨ j = 6 ∨ j = 7 by omega with rfl | rfl | rfl | rfl | rfl | rfl | rfl | rfl <;> rfl)] at h7
 exact h7
theorem below_cells {w W : World} (h : Below w.heap.size w W) (o : Nat) : ∀ vs : List Value, Below w.heap.size w (W.setCells w.heap.size o vs) := fun vs => by
 induction vs generalizing o W with
 | nil => exact h
 | cons v r ih => rw [World.setCells]; exact ih (h.setCell (Nat.le_refl _) _) (o + 1)
theorem learn_no1 (l : Lms) (x : Int) (W : World) (hm : lmsMay l = false) : Calls Tryz.prog 74 #[l.v, .int .i64 x] W fun e W' => e = .returned (.tuple #[(lmsLearn l x).1.v, .int .i64 (lmsLearn l x).2]) ∧ Below W.heap.size W W' := by
 have hl := Lib.hid (show lmsLearn l x = (lmsZero, 1400) by unfold lmsLearn; rw [hm]; rfl)
 have hg := Lib.hid (show lmsGuess l = (0, 1400) by unfold lmsGuess; rw [hm]; rfl)
 go_enter Tryz.func74, Tryz.ntmps74
 go_wp2_with fail
 refine (guess_calls l _).mono ?_
 rintro e W1 ⟨rfl, hb⟩
 rw [hg.out]
 have BK := Lib.hid (blk_below (blk_alloc (blk_new W (.cells (C16 l.w l.h) 61)) (.cells Z16 61)) hb)
 have RK := Lib.hid (blk_below (blk_new (W.alloc (.cells (C16 l.w l.h) 61)) (.cells Z16 61)) hb)
 have HB := Lib.hid ((((Below.refl W.heap.size W).alloc (Nat.le_refl _) (.cells (C16 l.w l.h) 61)).alloc (by simp) (.cells Z16 61)).trans (hb.mono (by simp; omega)))
 clear hb
 have RK2 : Hid (W1.heap[W.heap.size + 1]? = some (.cells Z16 61 (0, 0))) := by simpa using RK
 have hcR := fun i => blk_cell RK2.out i
 have hfR := fun i => blk_frozen RK2.out i
 have hz : W.heap.size < W1.heap.size := blk_lt BK.out
 go_wp2_with (go_at_call 123; refine (in_calls _ _ _ (by omega) (by omega)).mono ?_; rintro e w' ⟨rfl, rfl⟩)
 refine bodyPost_ret (v := .tuple #[.agg #[.int .i64 0, .int .i64 0, .int .i64 0, .int .i64 0, .int .i64 0, .int .i64 0, .int .i64 0, .int .i64 0, .int .i64 0, .int .i64 0, .int .i64 0, .int .i64 0, .int .i64 0, .int .i64 0, .int .i64 0, .int .i64 0], .int .i64 1400]) (by simp [results, Tryz.results74, go_sem, hcR]) rfl ⟨?_, ?_⟩
 ·rw [hl.out]
  rfl
 ·repeat (first | (with_reducible exact HB.out) | (with_reducible refine Below.setCell ?_ (by simp) _))
theorem learn_no2 (l : Lms) (x : Int) (W : World) (hm : lmsMay l = true) (hx : inB x 4194304 = false) : Calls Tryz.prog 74 #[l.v, .int .i64 x] W fun e W' => e = .returned (.tuple #[(lmsLearn l x).1.v, .int .i64 (lmsLearn l x).2]) ∧ Below W.heap.size W W' := by
 have hl := Lib.hid (show lmsLearn l x = (lmsZero, 1400) by unfold lmsLearn; rw [hm, hx]; rfl)
 have hg := Lib.hid (show lmsGuess l = ((lmsGuess l).1, 0) by unfold lmsGuess; rw [hm]; rfl)
 go_enter Tryz.func74, Tryz.ntmps74
 go_wp2_with fail
 refine (guess_calls l _).mono ?_
 rintro e W1 ⟨rfl, hb⟩
 rw [hg.out]
 have BK := Lib.hid (blk_below (blk_alloc (blk_new W (.cells (C16 l.w l.h) 61)) (.cells Z16 61)) hb)
 have RK := Lib.hid (blk_below (blk_new (W.alloc (.cells (C16 l.w l.h) 61)) (.cells Z16 61)) hb)
 have HB := Lib.hid ((((Below.refl W.heap.size W).alloc (Nat.le_refl _) (.cells (C16 l.w l.h) 61)).alloc (by simp) (.cells Z16 61)).trans (hb.mono (by simp; omega)))
 clear hb
 have RK2 : Hid (W1.heap[W.heap.size + 1]? = some (.cells Z16 61 (0, 0))) := by simpa using RK
 have hcR := fun i => blk_cell RK2.out i
 have hfR := fun i => blk_frozen RK2.out i
 have hz : W.heap.size < W1.heap.size := blk_lt BK.out
 go_wp2_with (go_at_call 123; refine (in_calls _ _ _ (by omega) (by omega)).mono ?_; rintro e w' ⟨rfl, rfl⟩)
 refine bodyPost_ret (v := .tuple #[.agg #[.int .i64 0, .int .i64 0, .int .i64 0, .int .i64 0, .int .i64 0, .int .i64 0, .int .i64 0, .int .i64 0, .int .i64 0, .int .i64 0, .int .i64 0, .int .i64 0, .int .i64 0, .int .i64 0, .int .i64 0, .int .i64 0], .int .i64 1400]) (by simp [results, Tryz.results74, go_sem, hcR]) rfl ⟨?_, ?_⟩
 ·rw [hl.out]
  rfl
 ·repeat (first | (with_reducible exact HB.out) | (with_reducible refine Below.setCell ?_ (by simp) _))
theorem learn_yes (l : Lms) (x : Int) (W : World) (hm : lmsMay l = true) (hx : inB x 4194304 = true) : Calls Tryz.prog 74 #[l.v, .int .i64 x] W fun e W' => e = .returned (.tuple #[(lmsLearn l x).1.v, .int .i64 (lmsLearn l x).2]) ∧ Below W.heap.size W W' := by
 have hl := Lib.hid (show lmsLearn l x = (⟨newW l x, fun j => if j = 0 then x else l.h (j - 1)⟩, 0) by unfold lmsLearn; rw [hm, hx]; rfl)
 have hg := Lib.hid (show lmsGuess l = ((lmsGuess l).1, 0) by unfold lmsGuess; rw [hm]; rfl)
 have Hm := Lib.hid hm
 have hx1 := hx
 unfold inB at hx1
 rw [decide_eq_true_iff] at hx1
 obtain ⟨x1, x2⟩ := hx1
 obtain ⟨g, hgg⟩ : ∃ g, g = (lmsGuess l).1 := ⟨_, rfl⟩
 have g1 : -1048576 ≤ g ∧ g ≤ 1048576 := by
  rw [hgg]; unfold lmsGuess; rw [hm]; simp only [if_true, clamp, mn, mx]; (repeat' split) <;> omega
 obtain ⟨g1, g2⟩ := g1
 have Hgg := Lib.hid hgg
 clear hgg hm
 go_enter Tryz.func74, Tryz.ntmps74
 go_wp2_with fail
 refine (guess_calls l _).mono ?_
 rintro e W1 ⟨rfl, hb⟩
 rw [hg.out, ← Hgg.out]
 have BK := Lib.hid (blk_below (blk_alloc (blk_new W (.cells (C16 l.w l.h) 61)) (.cells Z16 61)) hb)
 have RK := Lib.hid (blk_below (blk_new (W.alloc (.cells (C16 l.w l.h) 61)) (.cells Z16 61)) hb)
 have HB := Lib.hid ((((Below.refl W.heap.size W).alloc (Nat.le_refl _) (.cells (C16 l.w l.h) 61)).alloc (by simp) (.cells Z16 61)).trans (hb.mono (by simp; omega)))
 clear hb
 go_wp2_with (first | (go_at_call 123; refine (in_calls _ _ _ (by omega) (by omega)).mono ?_; rintro e w' ⟨rfl, rfl⟩) | (go_at_call 124; refine (sign_calls _ _).mono ?_; rintro e w' ⟨rfl, rfl⟩))
 obtain ⟨s, hs⟩ : ∃ s, s = sgn (x - g) := ⟨_, rfl⟩
 have s1 : -1 ≤ s ∧ s ≤ 1 := by rw [hs]; unfold sgn; (repeat' split) <;> omega
 obtain ⟨s1, s2⟩ := s1
 rw [← hs]
 have Hs := Lib.hid hs
 clear hs
 go_loopw [27] (fun i wr => ∃ (k : Nat) (ws : Nat → Int), k ≤ 8 ∧ i = .int .i64 k ∧ Hid (∀ j, j < 8 → ws j = if j < k then newW l x j else l.w j) ∧ Hid (wr.heap[W.heap.size]? = some (.cells (C16 ws l.h) 61 (0, 0))) ∧ Hid (wr.heap[W.heap.size + 1]? = some (.cells Z16 61 (0, 0))) ∧ Hid (Below W.heap.size W wr)) (fun i _ => 8 - (intOf i).toNat)
 case atStart => exact ⟨0, l.w, by omega, rfl, Lib.hid (fun j hj => by rw [if_neg (by omega)]), by simpa using BK, by simpa using RK, HB⟩
 case round =>
  obtain ⟨k, ws, hk, rfl, hws, bk, rk, hB⟩ := hrel
  by_cases hlt : k < 8
  ·have c1 := (blk_cell bk.out k).trans (c16_w ws l.h k hlt)
   have c2 := (blk_cell bk.out (8 + k)).trans (c16_h ws l.h k hlt)
   have f1 := blk_frozen bk.out k
   have o := okAt_in (may_at Hm.out hlt)
   have hw := hws.out k hlt
   rw [if_neg (Nat.lt_irrefl k)] at hw
   obtain ⟨a, ha⟩ : ∃ a, a = l.w k := ⟨_, rfl⟩
   rw [hw, ← ha] at c1
   rw [← ha] at o
   have Ha := Lib.hid ha
   obtain ⟨a1, a2⟩ := o.1
   clear hw ha o
   obtain ⟨t, ht⟩ : ∃ t, t = sgn (l.h k) := ⟨_, rfl⟩
   have t1 : -1 ≤ t ∧ t ≤ 1 := by rw [ht]; unfold sgn; (repeat' split) <;> omega
   obtain ⟨t1, t2⟩ := t1
   have Ht := Lib.hid ht
   clear ht
   go_wp2_with fail
   have q : -16 ≤ 16 * s * t ∧ 16 * s * t ≤ 16 := by
    rcases show t = -1 ∨ t = 0 ∨ t = 1 by omega with rfl | rfl | rfl <;> omega
   obtain ⟨q1, q2⟩ := q
   refine start_ (n := 18) (S := fun w' => w'.cell? ⟨W.heap.size, k, none⟩ = some (.int .i64 a) ∧ w'.cell? ⟨W.heap.size, 8 + k, none⟩ = some (.int .i64 (l.h k))) (ds := [17]) #[J,J,J,J,J,J,J,J,J,J,J,J,J,J,J,J,J,J] kr rfl rfl (⟨c1, c2⟩) (fun hHeld => ?_)
   refine pure_ (i := 0) (N := some 30) (v := ?_) (a' := ?_) #[Y,J,J,J,J,J,J,J,J,J,J,J,J,J,J,J,J,J] rfl rfl kr (fun _ _ _ h => h) (Or.inl ⟨by rfl, ?_⟩) ?_ ?_
   rotate_left
   ·intro w'
    go_simp
    with_reducible rfl
   rotate_left
   ·exact pT
   refine pure_ (i := 1) (N := some 31) (v := ?_) (a' := ?_) #[Y,Y,J,J,J,J,J,J,J,J,J,J,J,J,J,J,J,J] rfl rfl kr (fun _ _ _ h => h) (Or.inl ⟨by rfl, ?_⟩) ?_ ?_
   rotate_left
   ·intro w'
    go_simp
    with_reducible rfl
   rotate_left
   ·exact pT
   refine pure_ (i := 2) (N := some 32) (v := ?_) (a' := ?_) #[Y,Y,Y,J,J,J,J,J,J,J,J,J,J,J,J,J,J,J] rfl rfl kr (fun _ _ _ h => h) (Or.inl ⟨by rfl, ?_⟩) ?_ ?_
   rotate_left
   ·intro w'
    go_simp
    with_reducible rfl
   rotate_left
   ·exact pT
   refine pure_ (i := 3) (N := some 33) (v := ?_) (a' := ?_) #[Y,Y,Y,Y,J,J,J,J,J,J,J,J,J,J,J,J,J,J] rfl rfl kr (fun _ _ _ h => h) (Or.inl ⟨by rfl, ?_⟩) ?_ ?_
   rotate_left
   ·intro w'
    go_simp
    with_reducible rfl
   rotate_left
   ·exact pT
   refine take_ (i := 4) (N := some 34) (v := ?_) (a' := ?_) #[Y,Y,Y,Y,Y,J,J,J,J,J,J,J,J,J,J,J,J,J] rfl rfl kr (fun _ _ _ h => h) (Or.inl ⟨by rfl, ?_⟩) hHeld ?_ ?_
   rotate_left
   ·rintro w' ⟨s0, s1⟩
    go_simp
    with_reducible rfl
   rotate_left
   ·exact pT
   refine pure_ (i := 5) (N := some 35) (v := ?_) (a' := ?_) #[Y,Y,Y,Y,Y,Y,J,J,J,J,J,J,J,J,J,J,J,J] rfl rfl kr (fun _ _ _ h => h) (Or.inl ⟨by rfl, ?_⟩) ?_ ?_
   rotate_left
   ·intro w'
    go_simp
    with_reducible rfl
   rotate_left
   ·exact pT
   refine pure_ (i := 6) (N := some 36) (v := ?_) (a' := ?_) #[Y,Y,Y,Y,Y,Y,Y,J,J,J,J,J,J,J,J,J,J,J] rfl rfl kr (fun _ _ _ h => h) (Or.inl ⟨by rfl, ?_⟩) ?_ ?_
   rotate_left
   ·intro w'
    go_simp
    with_reducible rfl
   rotate_left
   ·exact pT
   refine pure_ (i := 7) (N := some 37) (v := ?_) (a' := ?_) #[Y,Y,Y,Y,Y,Y,Y,Y,J,J,J,J,J,J,J,J,J,J] rfl rfl kr (fun _ _ _ h => h) (Or.inl ⟨by rfl, ?_⟩) ?_ ?_
   rotate_left
   ·intro w'
    go_simp
    with_reducible rfl
   rotate_left
   ·exact pT
   refine pure_ (i := 8) (N := some 38) (v := ?_) (a' := ?_) #[Y,Y,Y,Y,Y,Y,Y,Y,Y,J,J,J,J,J,J,J,J,J] rfl rfl kr (fun _ _ _ h => h) (Or.inl ⟨by rfl, ?_⟩) ?_ ?_
   rotate_left
   ·intro w'
    go_simp
    with_reducible rfl
   rotate_left
   ·exact pT
   refine pure_ (i := 9) (N := some 39) (v := ?_) (a' := ?_) #[Y,Y,Y,Y,Y,Y,Y,Y,Y,Y,J,J,J,J,J,J,J,J] rfl rfl kr (fun _ _ _ h => h) (Or.inl ⟨by rfl, ?_⟩) ?_ ?_
   rotate_left
   ·intro w'
    go_simp
    with_reducible rfl
   rotate_left
   ·exact pT
   refine take_ (i := 10) (N := some 40) (v := ?_) (a' := ?_) #[Y,Y,Y,Y,Y,Y,Y,Y,Y,Y,Y,J,J,J,J,J,J,J] rfl rfl kr (fun _ _ _ h => h) (Or.inl ⟨by rfl, ?_⟩) hHeld ?_ ?_
   rotate_left
   ·rintro w' ⟨s0, s1⟩
    go_simp
    with_reducible rfl
   rotate_left
   ·exact pT
   refine pure_ (i := 15) (N := some 45) (v := ?_) (a' := ?_) #[Y,Y,Y,Y,Y,Y,Y,Y,Y,Y,Y,J,J,J,J,Y,J,J] rfl rfl kr (fun _ _ _ h => h) (Or.inl ⟨by rfl, ?_⟩) ?_ ?_
   rotate_left
   ·intro w'
    go_simp
    with_reducible rfl
   rotate_left
   ·exact pT
   refine one_ (i := 11) (N := some 41) #[Y,Y,Y,Y,Y,Y,Y,Y,Y,Y,Y,Y,J,J,J,Y,J,J] rfl rfl kr (by decide) (fun K hK => ?_)
   refine goes_ Tryz.func124 kr rfl #[.int .i64 (l.h k)] (by rfl) rfl rfl (by (try simp only [List.map_toArray, List.map_cons, List.map_nil]); rfl) ?_
   refine (sign_calls _ _).mono ?_
   rintro e w' ⟨rfl, rfl⟩
   rw [← Ht.out]
   refine ⟨_, rfl, ?_⟩
   refine hK.out _ _ (hHeld) (fun hHeld => ?_)
   clear hK K
   refine norm_ (a' := ?_) ?_ ?_
   rotate_left
   ·show Act.put _ (some 41) _ = _
    exact pT
   refine pure_ (i := 12) (N := some 42) (v := ?_) (a' := ?_) #[Y,Y,Y,Y,Y,Y,Y,Y,Y,Y,Y,Y,Y,J,J,Y,J,J] rfl rfl kr (fun _ _ _ h => h) (Or.inl ⟨by rfl, ?_⟩) ?_ ?_
   rotate_left
   ·intro w'
    go_simp
    with_reducible rfl
   rotate_left
   ·exact pT
   refine pure_ (i := 13) (N := some 43) (v := ?_) (a' := ?_) #[Y,Y,Y,Y,Y,Y,Y,Y,Y,Y,Y,Y,Y,Y,J,Y,J,J] rfl rfl kr (fun _ _ _ h => h) (Or.inl ⟨by rfl, ?_⟩) ?_ ?_
   rotate_left
   ·intro w'
    go_simp
    with_reducible rfl
   rotate_left
   ·exact pT
   refine one_ (i := 14) (N := some 44) #[Y,Y,Y,Y,Y,Y,Y,Y,Y,Y,Y,Y,Y,Y,Y,Y,J,J] rfl rfl kr (by decide) (fun K hK => ?_)
   refine goes_ Tryz.func122 kr rfl #[.int .i64 _, .int .i64 1048576] (by rfl) rfl rfl (by (try simp only [List.map_toArray, List.map_cons, List.map_nil]); rfl) ?_
   refine (bound_calls _ _ _ (by omega) (by omega)).mono ?_
   rintro e w' ⟨rfl, rfl⟩
   refine ⟨_, rfl, ?_⟩
   refine hK.out _ _ (hHeld) (fun hHeld => ?_)
   clear hK K
   refine norm_ (a' := ?_) ?_ ?_
   rotate_left
   ·show Act.put _ (some 44) _ = _
    exact pT
   refine pure_ (i := 16) (N := some 46) (v := ?_) (a' := ?_) #[Y,Y,Y,Y,Y,Y,Y,Y,Y,Y,Y,Y,Y,Y,Y,Y,Y,J] rfl rfl kr (fun _ _ _ h => h) (Or.inl ⟨by rfl, ?_⟩) ?_ ?_
   rotate_left
   ·intro w'
    go_simp
    with_reducible rfl
   rotate_left
   ·exact pT
   refine last_ (i := 17) (N := none) #[Y,Y,Y,Y,Y,Y,Y,Y,Y,Y,Y,Y,Y,Y,Y,Y,Y,Y] rfl rfl kr (by decide) (fun K hK => ?_)
   refine skip_ (w1 := ?_) (by rfl) rfl ?_ ?_
   rotate_left
   ·go_simp
    rfl
   refine hK.out _ _ ?_
   clear hK K
   refine done_ kr ?_
   go_wp2
   go_roundw
   case rel =>
    refine ⟨k + 1, fun j => if j = k then newW l x k else ws j, by omega, by go_num, Lib.hid (fun j hj => ?_), Lib.hid ?_, Lib.hid ?_, Lib.hid ?_⟩
    ·show (if j = k then newW l x k else ws j) = if j < k + 1 then newW l x j else l.w j
     by_cases hjk : j = k
     ·rw [if_pos hjk, hjk, if_pos (by omega)]
     ·rw [if_neg hjk, hws.out j hj]
      by_cases hj2 : j < k
      ·rw [if_pos hj2, if_pos (by omega)]
      ·rw [if_neg hj2, if_neg (by omega)]
    ·refine blk_put (blk_drew bk.out) k _ ?_
     rw [← c16_set ws l.h k hlt]
     refine congrArg (fun v : Int => (C16 ws l.h).setIfInBounds k (.int .i64 v)) ?_
     unfold newW
     rw [← Ha.out, ← Ht.out, ← Hgg.out, ← Hs.out]
     refine congrArg (fun v : Int => clamp v 1048576) ?_
     rcases show t = -1 ∨ t = 0 ∨ t = 1 by omega with ht | ht | ht <;> (rw [ht]; simp only [wrap64]; omega)
    ·exact blk_far (blk_drew rk.out) (by simp) _
    ·exact (hB.out.drew).setCell (Nat.le_refl _) _
   case measure => simp [intOf]; omega
  ·obtain rfl : k = 8 := by omega
   go_wp2
   have hcp := run_copy_cells (P := Tryz.prog) wr.drew 22 22 3 3 W.heap.size 9 7 7 ⟨W.heap.size, 8, none⟩ 7 8 [.int .i64 (l.h 0), .int .i64 (l.h 1), .int .i64 (l.h 2), .int .i64 (l.h 3), .int .i64 (l.h 4), .int .i64 (l.h 5), .int .i64 (l.h 6)] (by rfl) (by rfl) (by rfl) (fun j v hv => by
    have hj : j < 7 := by have := (List.getElem?_eq_some_iff.1 hv).1; simpa using this
    rcases show j = 0 ∨ j = 1 ∨ j = 2 ∨ j = 3 ∨ j = 4 ∨ j = 5 ∨ j = 6 by omega with rfl | rfl | rfl | rfl | rfl | rfl | rfl <;> (cases hv; exact (blk_cell (blk_drew bk.out) _).trans rfl)) (fun j hj => by rw [blk_cell (blk_drew bk.out)]; simp at hj ⊢; omega) (fun j _ => blk_frozen (blk_drew bk.out) _) (by simp [Value.oneCell'])
   refine start_ (n := 5) (S := fun _ => True) (ds := [4]) #[J,J,J,J,J] kr rfl rfl (trivial) (fun hHeld => ?_)
   refine pure_ (i := 0) (N := some 48) (v := ?_) (a' := ?_) #[Y,J,J,J,J] rfl rfl kr (fun _ _ _ h => h) (Or.inl ⟨by rfl, ?_⟩) ?_ ?_
   rotate_left
   ·intro w'
    go_simp
    with_reducible rfl
   rotate_left
   ·exact pT
   refine pure_ (i := 1) (N := some 49) (v := ?_) (a' := ?_) #[Y,Y,J,J,J] rfl rfl kr (fun _ _ _ h => h) (Or.inl ⟨by rfl, ?_⟩) ?_ ?_
   rotate_left
   ·intro w'
    go_simp
    with_reducible rfl
   rotate_left
   ·exact pT
   refine pure_ (i := 2) (N := some 50) (v := ?_) (a' := ?_) #[Y,Y,Y,J,J] rfl rfl kr (fun _ _ _ h => h) (Or.inl ⟨by rfl, ?_⟩) ?_ ?_
   rotate_left
   ·intro w'
    go_simp
    with_reducible rfl
   rotate_left
   ·exact pT
   refine pure_ (i := 3) (N := some 51) (v := ?_) (a' := ?_) #[Y,Y,Y,Y,J] rfl rfl kr (fun _ _ _ h => h) (Or.inl ⟨by rfl, ?_⟩) ?_ ?_
   rotate_left
   ·intro w'
    go_simp
    with_reducible rfl
   rotate_left
   ·exact pT
   refine last_ (i := 4) (N := some 52) #[Y,Y,Y,Y,Y] rfl rfl kr (by decide) (fun K hK => ?_)
   refine value_ (w1 := wr.drew.setCells W.heap.size 9 [.int .i64 (l.h 0), .int .i64 (l.h 1), .int .i64 (l.h 2), .int .i64 (l.h 3), .int .i64 (l.h 4), .int .i64 (l.h 5), .int .i64 (l.h 6)]) (v := .int .i64 7) (by rfl) rfl ?_ ?_
   ·go_simp
   refine hK.out _ _ ?_
   clear hK K
   refine norm_ (a' := ?_) ?_ ?_
   rotate_left
   ·show Act.put _ (some 52) _ = _
    exact pT
   refine done_ kr ?_
   have bk2 := Lib.hid (blk_shift ws l.h (blk_drew bk.out))
   have rk2 := Lib.hid ((setCells_far (g := W.heap.size) [.int .i64 (l.h 0), .int .i64 (l.h 1), .int .i64 (l.h 2), .int .i64 (l.h 3), .int .i64 (l.h 4), .int .i64 (l.h 5), .int .i64 (l.h 6)] 9 (w := wr.drew) (W.heap.size + 1) (by omega)).trans (blk_drew rk.out))
   have hB2 := Lib.hid (below_cells (hB.out.drew) 9 [.int .i64 (l.h 0), .int .i64 (l.h 1), .int .i64 (l.h 2), .int .i64 (l.h 3), .int .i64 (l.h 4), .int .i64 (l.h 5), .int .i64 (l.h 6)])
   clear hcp
   generalize wr.drew.setCells W.heap.size 9 [.int .i64 (l.h 0), .int .i64 (l.h 1), .int .i64 (l.h 2), .int .i64 (l.h 3), .int .i64 (l.h 4), .int .i64 (l.h 5), .int .i64 (l.h 6)] = wc at bk2 rk2 hB2 ⊢
   have hcN := fun i => blk_cell bk2.out i
   have hfN := fun i => blk_frozen bk2.out i
   have hcR := fun i => blk_cell rk2.out i
   have hfR := fun i => blk_frozen rk2.out i
   have hz : W.heap.size < wc.heap.size := blk_lt bk2.out
   go_wp2
   have w0 := hws.out 0 (by omega)
   have w1 := hws.out 1 (by omega)
   have w2 := hws.out 2 (by omega)
   have w3 := hws.out 3 (by omega)
   have w4 := hws.out 4 (by omega)
   have w5 := hws.out 5 (by omega)
   have w6 := hws.out 6 (by omega)
   have w7 := hws.out 7 (by omega)
   refine bodyPost_ret (v := .tuple #[.agg #[.int .i64 (ws 0), .int .i64 (ws 1), .int .i64 (ws 2), .int .i64 (ws 3), .int .i64 (ws 4), .int .i64 (ws 5), .int .i64 (ws 6), .int .i64 (ws 7), .int .i64 x, .int .i64 (l.h 0), .int .i64 (l.h 1), .int .i64 (l.h 2), .int .i64 (l.h 3), .int .i64 (l.h 4), .int .i64 (l.h 5), .int .i64 (l.h 6)], .int .i64 0]) (by simp [results, Tryz.results74, go_sem, hcR]) rfl ⟨?_, ?_⟩
   ·rw [hl.out, w0, w1, w2, w3, w4, w5, w6, w7]
    rfl
   ·repeat (first | (with_reducible exact hB2.out) | (with_reducible refine Below.setCell ?_ (by simp) _))
theorem learn_calls (l : Lms) (x : Int) (W : World) : Calls Tryz.prog 74 #[l.v, .int .i64 x] W fun e W' => e = .returned (.tuple #[(lmsLearn l x).1.v, .int .i64 (lmsLearn l x).2]) ∧ Below W.heap.size W W' := by
 cases hm : lmsMay l
 ·exact learn_no1 l x W hm
 ·cases hx : inB x 4194304
  ·exact learn_no2 l x W hm hx
  ·exact learn_yes l x W hm hx
end Go.Proofs.YtnoibcdojfnicaaGreatDoor.PL
