/- A part of the proof of a law of descanttop: this session's own texts and printed texts, shortened and joined. -/
import Derived.Lib.TrailingZeros
import Derived.Test.YtnoibcdojfnicaaGreatDoorD3
import Derived.Test.YtnoibcdojfnicaaGreatDoorRows
import Derived.ProofKit
import Derived.LaidMore
import Derived.OpenShut
import Derived.ChangeSame
import Derived.Stop.Joined
import Derived.WalkKit
import Derived.ChangeOld
import Derived.Below
import Derived.Shelf.Strings.Builder1
import Derived.Shelf.Strings.Builder2
import Derived.Shelf.Strings.OnBuilder
import Derived.Shelf.Small.Bits
import Derived.Shelf.Strings.Repeat
import Derived.Test.YtnoibcdojfnicaaGreatDoorProg
import Derived.Deep.Draws
import Derived.Deep.AppendLies
import Derived.Maps.AppendAt
import Derived.OwnWalk
import Derived.Laws.BytesArg
import Derived.Laws.MakeOwn
import Derived.Laws.OwnMore
import Derived.Deep.OwnRows
import Derived.Tactics
import Derived.Lib.ConvBytes
import Derived.Laws.Slices
import Derived.KernelRfl
import Derived.RowKit3
import Derived.Deep.LoopGhost
import Derived.Deep.QuietTactic
import Derived.BigQuiet
import Derived.WideLaws
import Derived.Deep.DeepCutAuto
import Derived.Deep.CutBlock
import Derived.Deep.RegionHeld3
import Derived.Laws.Rows
import Derived.Lib.AppendStr
import Derived.ArgAppend
import Derived.Laws.IdiomCopy
import Derived.OrdersHeld
import Derived.Laws.BitsLemmas
import Derived.RowKit
import Derived.Test.YtnoibcdojfnicaaGreatDoorD0
import Derived.Test.YtnoibcdojfnicaaGreatDoorD1
import Derived.Test.YtnoibcdojfnicaaGreatDoorD2
set_option linter.unusedVariables false
set_option linter.unusedSimpArgs false
namespace Go.Proofs.YtnoibcdojfnicaaGreatDoor.Extra
open Go.Proofs.YtnoibcdojfnicaaGreatDoorW.Short
open Bool renaming true → Y, false → J
open Go Go.RowKit Go.Proofs.YtnoibcdojfnicaaGreatDoorW.PrintWords
def sqTab : List Int := [1, 2, 3, 6, 10, 16, 27, 45, 73, 120, 194, 310, 488, 747, 1101, 1546, 2047, 2549, 2994, 3348, 3607, 3785, 3901, 3975, 4022, 4050, 4068, 4079, 4085, 4089, 4092, 4093, 4094]
structure Laid (w : World) : Prop where
 tab : ∀ j, j < 33 → w.cell? ⟨0, j, none⟩ = some (.int .i64 (sqTab.getD j 0))
 out : ∀ j, j < 64 → w.cell? ⟨3, j, none⟩ = some (.int .u8 (Lib.deBruijn64tab.getD j 0))
theorem Laid.below_ {w W : World} (h : Laid w) (hb : Below w.heap.size w W) : Laid W := ⟨fun j hj => (hb.cell (World.block_lt_of_cell? w _ (h.tab j hj))).trans (h.tab j hj), fun j hj => (hb.cell (World.block_lt_of_cell? w _ (h.out j hj))).trans (h.out j hj)⟩
theorem Laid.aside {w W : World} (h : Laid w) (hb : Aside0 (Below w.heap.size w W)) : Laid W := h.below_ hb.out
theorem Laid.alloc_ {w : World} (h : Laid w) (o : Obj) : Laid (w.alloc o) := h.below_ (below_alloc (Below.refl _ _) o)
theorem Laid.drewN_ {w : World} (h : Laid w) (n : Nat) : Laid (w.drewN n) := h.below_ (pw_below_drewN (Below.refl _ _) n)
theorem Laid.drew_ {w : World} (h : Laid w) : Laid w.drew := h.below_ (below_drew (Below.refl _ _))
end Go.Proofs.YtnoibcdojfnicaaGreatDoor.Extra
namespace Go.Proofs.YtnoibcdojfnicaaGreatDoor.PTp
open Go.Proofs.YtnoibcdojfnicaaGreatDoorW.Short
open Bool renaming true → Y, false → J
open Go Go.RowKit Go.Proofs.YtnoibcdojfnicaaGreatDoorW.PrintWords Go.Proofs.YtnoibcdojfnicaaGreatDoorW.PrintMore Go.Proofs.YtnoibcdojfnicaaGreatDoorW.PrintLast
def squash (x : Int) : Int :=
 if 2047 < x then 4095 else if x < -2047 then 0 else
  (Extra.sqTab.getD ((x + 2048) / 128).toNat 0 * (128 - x % 128) + Extra.sqTab.getD ((x + 2048) / 128 + 1).toNat 0 * (x % 128) + 64) / 128
def halve (p : Int → Bool) : Nat → Int → Int → Int
 | 0, i, _ => i
 | k + 1, i, j => if i < j then (if p ((i + j) / 2) = true then halve p k i ((i + j) / 2) else halve p k ((i + j) / 2 + 1) j) else i
theorem tab_in : ∀ j, j < 33 → 1 ≤ Extra.sqTab.getD j 0 ∧ Extra.sqTab.getD j 0 ≤ 4094 := by decide
set_option maxHeartbeats 1000000 in
theorem squash_c (x : Int) (w : World) (hT : Extra.Laid w) : Calls Tryz.prog 113 #[.int .i64 x] w fun e w' => e = .returned (.int .i64 (squash x)) ∧ Drawn0 w w' := by
 by_cases c1 : 2047 < x
 ·have d1 : decide (x > 2047) = true := decide_eq_true c1
  have hs : squash x = 4095 := by unfold squash; rw [if_pos c1]
  rw [hs]
  clear hs
  go_enter Tryz.func113, Tryz.ntmps113
  go_wp2_with fail
  go_ret
  exact ⟨rfl, Drawn0.refl _⟩
 ·by_cases c2 : x < -2047
  ·have hs : squash x = 0 := by unfold squash; rw [if_neg c1, if_pos c2]
   rw [hs]
   clear hs
   have d1 : decide (x > 2047) = false := decide_eq_false c1
   have d2 : decide (x < -2047) = true := decide_eq_true c2
   go_enter Tryz.func113, Tryz.ntmps113
   go_wp2_with fail
   go_ret
   exact ⟨rfl, Drawn0.refl _⟩
  ·have d1 : decide (x > 2047) = false := decide_eq_false c1
   have d2 : decide (x < -2047) = false := decide_eq_false c2
   have hm : Go.bits .and .i64 x 127 = x % 128 := Num.and_mask x 127 7 (by omega) (by rfl)
   have hs : Hid (squash x = (Extra.sqTab.getD ((x + 2048) / 128).toNat 0 * (128 - x % 128) + Extra.sqTab.getD ((x + 2048) / 128 + 1).toNat 0 * (x % 128) + 64) / 128) := Lib.hid (by unfold squash; rw [if_neg c1, if_neg c2])
   obtain ⟨d, hd⟩ : ∃ d : Nat, d = ((x + 2048) / 128).toNat := ⟨_, rfl⟩
   have hd1 : (x + 2048) / 128 = d := by omega
   have hd2 : d < 32 := by omega
   have t1 := hT.tab d (by omega)
   have t2 := hT.tab (d + 1) (by omega)
   have r1 := tab_in d (by omega)
   have r2 := tab_in (d + 1) (by omega)
   obtain ⟨p, hp⟩ : ∃ p, p = Extra.sqTab.getD d 0 := ⟨_, rfl⟩
   obtain ⟨q, hq⟩ : ∃ q, q = Extra.sqTab.getD (d + 1) 0 := ⟨_, rfl⟩
   rw [← hp] at t1 r1
   rw [← hq] at t2 r2
   obtain ⟨m, hmm⟩ : ∃ m, m = x % 128 := ⟨_, rfl⟩
   have hs2 : Hid (squash x = (p * (128 - m) + q * m + 64) / 128) := Lib.hid (by rw [hs.out, ← hd, ← hp, ← hmm, show ((x + 2048) / 128 + 1).toNat = d + 1 by omega, ← hq])
   rw [← hmm] at hm
   have m1 : 0 ≤ m ∧ m ≤ 127 := by omega
   obtain ⟨m1, m2⟩ := m1
   obtain ⟨r1, r3⟩ := r1
   obtain ⟨r2, r4⟩ := r2
   have p1 : 0 ≤ p * (128 - m) ∧ p * (128 - m) ≤ 4094 * 128 := ⟨Int.mul_nonneg (by omega) (by omega), Int.mul_le_mul r3 (by omega) (by omega) (by omega)⟩
   have p2 : 0 ≤ q * m ∧ q * m ≤ 4094 * 127 := ⟨Int.mul_nonneg (by omega) (by omega), Int.mul_le_mul r4 (by omega) (by omega) (by omega)⟩
   obtain ⟨p1, p3⟩ := p1
   obtain ⟨p2, p4⟩ := p2
   have e1 : Int.tdiv (x + 2048) 128 = (d : Int) := by rw [Int.tdiv_eq_ediv_of_nonneg (by omega), hd1]
   have e2 : Int.tdiv (p * (128 - m) + q * m + 64) 128 = (p * (128 - m) + q * m + 64) / 128 := Int.tdiv_eq_ediv_of_nonneg (by omega)
   clear hs hmm hp hq hd
   go_enter Tryz.func113, Tryz.ntmps113
   go_wp2_with fail
   rw [show (x + 2047 + 1) / 128 = (d : Int) by omega]
   go_quiet (fail)
   go_wp2_with fail
   go_ret
   exact ⟨by rw [hs2.out]; rfl, ⟨⟨_, rfl⟩⟩⟩
theorem drawn_trans {a b c : World} (h : Drawn0 a b) (k : Drawn0 b c) : Drawn0 a c := by
 obtain ⟨n, rfl⟩ := h.out
 obtain ⟨m, rfl⟩ := k.out
 exact ⟨⟨n + m, World.drewN_drewN _ _ _⟩⟩
theorem least_c (g : Nat) (p x : Int) (w : World) (hT : Extra.Laid w) (hx : -100000 ≤ x ∧ x ≤ 100000) (hp : w.cell? ⟨g, 0, none⟩ = some (.int .i64 p)) : Calls Tryz.prog 147 #[.int .i64 x, .pointer (some ⟨g, 0, none⟩)] w fun e w' => e = .returned (.bool (decide (squash (x - 2047) ≥ p))) ∧ Drawn0 w w' := by
 obtain ⟨x1, x2⟩ := hx
 have e1 := Num.w64 (n := x - 2047) (by omega) (by omega)
 have e2 : IntKind.i64.wrap (x - 2047) = x - 2047 := (Num.wrap_eq _).trans e1
 go_enter Tryz.func147, Tryz.ntmps147
 go_wp2_with fail
 go_quiet ((go_at_call 113; refine (squash_c _ _ (hT.drewN_ _)).mono ?_; rintro e w' ⟨rfl, ⟨nd, rfl⟩⟩; first | exact ⟨rfl, _, World.drewN_drewN _ _ _⟩ | trace_state))
 go_wp2_with fail
 go_ret
 exact ⟨rfl, ⟨⟨_, rfl⟩⟩⟩
theorem halve_in (f : Int → Bool) : ∀ (k : Nat) (i j : Int), i ≤ j → i ≤ halve f k i j ∧ halve f k i j ≤ j
 | 0, i, j, h => ⟨Int.le_refl _, h⟩
 | k + 1, i, j, h => by
  unfold halve
  by_cases c : i < j
  ·rw [if_pos c]
   by_cases c2 : f ((i + j) / 2) = true
   ·rw [if_pos c2]
    have := halve_in f k i ((i + j) / 2) (by omega)
    omega
   ·rw [if_neg c2]
    have := halve_in f k ((i + j) / 2 + 1) j (by omega)
    omega
  ·rw [if_neg c]; omega
def leastF (p x : Int) : Bool := decide (squash (x - 2047) ≥ p)
set_option maxHeartbeats 1000000 in
theorem search_c (g : Nat) (p : Int) (w : World) (hT : Extra.Laid w) (hp : w.cell? ⟨g, 0, none⟩ = some (.int .i64 p)) : Calls Tryz.prog 146 #[.int .i64 4094, .func (Fn.func 147) #[] #[.pointer (some ⟨g, 0, none⟩)]] w fun e w' => e = .returned (.int .i64 (halve (leastF p) 13 0 4094)) ∧ Drawn0 w w' := by
 go_enter Tryz.func146, Tryz.ntmps146
 go_wp2_with fail
 go_loopw [5, 6] (fun a b wr => ∃ (k : Nat) (i j : Int), k ≤ 13 ∧ a = .int .i64 i ∧ b = .int .i64 j ∧ 0 ≤ i ∧ i ≤ j ∧ j ≤ 4094 ∧ j - i < 2 ^ k ∧ Hid (halve (leastF p) 13 0 4094 = halve (leastF p) k i j) ∧ Hid (Drawn0 w wr)) (fun a b _ => ((intOf b) - (intOf a)).toNat)
 case atStart => exact ⟨13, 0, 4094, by omega, rfl, rfl, by omega, by omega, by omega, by decide, Lib.hid rfl, Lib.hid (Drawn0.refl _)⟩
 case round =>
  obtain ⟨k, i, j, hk, rfl, rfl, hi, hij, hj, hkk, hT2, hD⟩ := hrel
  by_cases hlt : i < j
  ·obtain ⟨k', rfl⟩ : ∃ k', k = k' + 1 := ⟨k - 1, by
    rcases k with _ | k
    ·simp at hkk; omega
    ·rfl⟩
   have hkk2 : (2 : Int) ^ (k' + 1) = 2 * 2 ^ k' := by rw [Int.pow_succ]; omega
   obtain ⟨z, hz⟩ : ∃ z : Int, z = 2 ^ k' := ⟨_, rfl⟩
   rw [hkk2, ← hz] at hkk
   have Hz := Lib.hid hz
   clear hkk2 hz
   obtain ⟨m, hm⟩ : ∃ m, m = (i + j) / 2 := ⟨_, rfl⟩
   have hT3 := hT2.out
   have hL : halve (leastF p) (k' + 1) i j = if leastF p m = true then halve (leastF p) k' i m else halve (leastF p) k' (m + 1) j := by
    show (if i < j then _ else _) = _
    rw [if_pos hlt, ← hm]
   rw [hL] at hT3
   have HT3 := Lib.hid hT3
   clear hL hT3 hT2
   have u1 := IntKind.wrap_u64 (i + j)
   have m2 : (i + j) % 18446744073709551616 = i + j := by omega
   have hT4 := Lib.hid (hT.below_ hD.out.below)
   obtain ⟨nd, hnd⟩ := hD.out.out
   have hp4 := Lib.hid (show wr.cell? ⟨g, 0, none⟩ = some (.int .i64 p) by rw [hnd]; exact hp)
   have m3 : 0 ≤ m ∧ m ≤ 4093 := by omega
   have mm : (i + j) / 2 = m := hm.symm
   have HM := Lib.hid hm
   clear hnd hm
   cases hv : leastF p m
   ·rw [hv] at HT3
    go_wp2_with (go_at_call 147; refine (least_c g p m _ hT4.out (by omega) hp4.out).mono ?_; rintro e w' ⟨rfl, hd⟩; rw [show decide (squash (m - 2047) ≥ p) = false from hv])
    refine ⟨⟨k', m + 1, j, by omega, rfl, rfl, by omega, by omega, by omega, by rw [← Hz.out]; omega, Lib.hid HT3.out, Lib.hid (drawn_trans hD.out hd)⟩, by simp [intOf]; omega⟩
   ·rw [hv] at HT3
    go_wp2_with (go_at_call 147; refine (least_c g p m _ hT4.out (by omega) hp4.out).mono ?_; rintro e w' ⟨rfl, hd⟩; rw [show decide (squash (m - 2047) ≥ p) = true from hv])
    refine ⟨⟨k', i, m, by omega, rfl, rfl, by omega, by omega, by omega, by rw [← Hz.out]; omega, Lib.hid HT3.out, Lib.hid (drawn_trans hD.out hd)⟩, by simp [intOf]; omega⟩
  ·have hh : halve (leastF p) k i j = i := by
    cases k with
    | zero => rfl
    | succ k => show (if i < j then _ else _) = _; rw [if_neg hlt]
   have h2 := hT2.out.trans hh
   go_wp2_with fail
   go_ret
   exact ⟨rfl, hD.out⟩
def stretchF (p : Int) : Int := halve (leastF p) 13 0 4094 - 2047
theorem stretch_c (p : Int) (w : World) (hT : Extra.Laid w) (h0 : 0 ≤ p) (h1 : p ≤ 4095) : Calls Tryz.prog 115 #[.int .i64 p] w fun e w' => e = .returned (.tuple #[.int .i64 (stretchF p), .int .i64 0]) ∧ Below w.heap.size w w' := by
 have HT := Lib.hid hT
 clear hT
 have hh := halve_in (leastF p) 13 0 4094 (by omega)
 obtain ⟨h2, h3⟩ := hh
 obtain ⟨i, hi⟩ : ∃ i, i = halve (leastF p) 13 0 4094 := ⟨_, rfl⟩
 rw [← hi] at h2 h3
 have Hi := Lib.hid hi
 clear hi
 have d0 : decide (p < 0) = false := decide_eq_false (by omega)
 have d1 : decide (p > 4095) = false := decide_eq_false (by omega)
 go_enter Tryz.func115, Tryz.ntmps115
 go_wp2_with fail
 have B1 := Lib.hid (blk_new w (.cells #[.int .i64 p] 3))
 refine (search_c w.heap.size p _ (HT.out.alloc_ _) ((blk_cell B1.out 0).trans rfl)).mono ?_
 rintro e w' ⟨rfl, hd⟩
 rw [← Hi.out]
 go_wp2_with fail
 go_ret2
 exact ⟨by unfold stretchF; rw [← Hi.out]; rfl, below_step (below_alloc (Below.refl _ _) _) hd.below⟩
theorem stretch_in (p : Int) : -2047 ≤ stretchF p ∧ stretchF p ≤ 2047 := by
 have := halve_in (leastF p) 13 0 4094 (by omega)
 unfold stretchF; omega
def countMay (c : Int) : Bool := decide (0 ≤ c ∧ c ≤ 65535)
def countNext (c bit : Int) : Int := if bit = 1 then c + (65535 - c) / 16 else c - c / 16
def countP (c : Int) : Int := mn (mx (c / 16) 1) 4095
theorem countMay_c (c : Int) (w : World) : Calls Tryz.prog 109 #[.int .i64 c] w fun e w' => e = .returned (.bool (countMay c)) ∧ w' = w := by
 by_cases c0 : 0 ≤ c
 ·have d0 : decide (c ≥ 0) = true := decide_eq_true c0
  go_enter Tryz.func109, Tryz.ntmps109
  go_wp2
  go_ret
  exact ⟨by simp [countMay, c0], rfl⟩
 ·have d0 : decide (c ≥ 0) = false := decide_eq_false (by omega)
  go_enter Tryz.func109, Tryz.ntmps109
  go_wp2
  go_ret
  exact ⟨by simp [countMay]; omega, rfl⟩
attribute [local go_sem] max2_int min2_int max_two min_two
theorem rt2 {a b : Int} {v : Value} (h : a = b) : Ending.returned (.tuple #[.int .i64 a, v]) = Ending.returned (.tuple #[.int .i64 b, v]) := by rw [h]
theorem rt1 {a b : Int} (h : a = b) : Ending.returned (.int .i64 a) = Ending.returned (.int .i64 b) := by rw [h]
theorem countP_c (c : Int) (w : World) (hc : countMay c = true) : Calls Tryz.prog 114 #[.int .i64 c] w fun e w' => e = .returned (.tuple #[.int .i64 (countP c), .int .i64 0]) ∧ w' = w := by
 have h := of_decide_eq_true hc
 obtain ⟨h0, h1⟩ := h
 have HC := Lib.hid hc
 have e1 : Int.tdiv c 16 = c / 16 := Int.tdiv_eq_ediv_of_nonneg h0
 go_enter Tryz.func114, Tryz.ntmps114
 go_wp2_with (go_at_call 109; refine (countMay_c _ _).mono ?_; rintro e w' ⟨rfl, hw⟩; have hw := hw.symm; subst hw; rw [hc])
 all_goals
  go_ret2
  exact ⟨rt2 (by unfold countP mn mx; (repeat' split) <;> omega), rfl⟩
theorem countNext_c (c bit : Int) (w : World) (hc : countMay c = true) (hb : bit = 0 ∨ bit = 1) : Calls Tryz.prog 57 #[.int .i64 c, .int .i64 bit] w fun e w' => e = .returned (.tuple #[.int .i64 (countNext c bit), .int .i64 0]) ∧ w' = w := by
 have h := of_decide_eq_true hc
 obtain ⟨h0, h1⟩ := h
 have e1 : Int.tdiv c 16 = c / 16 := Int.tdiv_eq_ediv_of_nonneg h0
 have e2 : Int.tdiv (65535 - c) 16 = (65535 - c) / 16 := Int.tdiv_eq_ediv_of_nonneg (by omega)
 rcases hb with rfl | rfl
 ·go_enter Tryz.func57, Tryz.ntmps57
  go_wp2_with (go_at_call 109; refine (countMay_c _ _).mono ?_; rintro e w' ⟨rfl, hw⟩; have hw := hw.symm; subst hw; rw [hc])
  go_ret2
  exact ⟨rfl, rfl⟩
 ·go_enter Tryz.func57, Tryz.ntmps57
  go_wp2_with (go_at_call 109; refine (countMay_c _ _).mono ?_; rintro e w' ⟨rfl, hw⟩; have hw := hw.symm; subst hw; rw [hc])
  go_ret2
  exact ⟨rfl, rfl⟩
theorem countNext_may {c bit : Int} (h : countMay c = true) : countMay (countNext c bit) = true := by
 have h := of_decide_eq_true h
 unfold countNext countMay
 apply decide_eq_true
 split <;> omega
def bound (x a b : Int) : Int := mn (mx x a) b
theorem bound_c (x a b : Int) (w : World) : Calls Tryz.prog 112 #[.int .i64 x, .int .i64 a, .int .i64 b] w fun e w' => e = .returned (.int .i64 (bound x a b)) ∧ w' = w := by
 go_enter Tryz.func112, Tryz.ntmps112
 go_wp2
 all_goals
  go_ret
  exact ⟨rt1 (by unfold bound mn mx; (repeat' split) <;> omega), rfl⟩
theorem bound_in {x a b : Int} (h : a ≤ b) : a ≤ bound x a b ∧ bound x a b ≤ b := by
 unfold bound mn mx; (repeat' split) <;> omega
def T3 := Int × Int × Int
def T3.at (t : T3) (k : Nat) : Int := if k = 0 then t.1 else if k = 1 then t.2.1 else t.2.2
def T3.c (t : T3) : Array Value := #[.int .i64 (t.at 0), .int .i64 (t.at 1), .int .i64 (t.at 2)]
theorem T3.c_at (t : T3) {k : Nat} (h : k < 3) : t.c[k]? = some (.int .i64 (t.at k)) := by
 rcases show k = 0 ∨ k = 1 ∨ k = 2 by omega with rfl | rfl | rfl <;> rfl
def inR (m : Int) (x : Int) : Bool := decide (-m ≤ x ∧ x ≤ m)
def all3 (m : Int) (t : T3) : Bool := inR m (t.at 0) && inR m (t.at 1) && inR m (t.at 2)
theorem all3_iff {m : Int} {t : T3} : all3 m t = true ↔ ∀ k, k < 3 → inR m (t.at k) = true := by
 unfold all3
 rw [Bool.and_eq_true, Bool.and_eq_true]
 refine ⟨fun h k hk => ?_, fun h => ⟨⟨h 0 (by omega), h 1 (by omega)⟩, h 2 (by omega)⟩⟩
 rcases show k = 0 ∨ k = 1 ∨ k = 2 by omega with rfl | rfl | rfl
 ·exact h.1.1
 ·exact h.1.2
 ·exact h.2
theorem weights_c (g o : Nat) (t : T3) (w : World) (h : ∀ k, k < 3 → w.cell? ⟨g, o + k, none⟩ = some (.int .i64 (t.at k))) : Calls Tryz.prog 110 #[.pointer (some ⟨g, o, none⟩)] w fun e w' => e = .returned (.bool (all3 1048576 t)) ∧ w' = w := by
 have H := Lib.hid h
 clear h
 go_enter Tryz.func110, Tryz.ntmps110
 go_wp2_with fail
 go_loop [6] (fun i => ∃ k : Nat, k ≤ 3 ∧ i = .int .i64 k ∧ ∀ j, j < k → inR 1048576 (t.at j) = true) (fun i => 3 - (intOf i).toNat)
 case atStart => exact ⟨0, by omega, rfl, fun j hj => by omega⟩
 case round =>
  obtain ⟨k, hk, rfl, hok⟩ := hrel
  have Hok := Lib.hid hok; clear hok
  by_cases hlt : k < 3
  ·have c1 := H.out k hlt
   obtain ⟨x, hx⟩ : ∃ x, x = t.at k := ⟨_, rfl⟩
   rw [← hx] at c1
   have Hx := Lib.hid hx
   clear hx
   by_cases a1 : x < -1048576
   ·have hno : all3 1048576 t = false := Bool.eq_false_iff.2 (fun h => by have := of_decide_eq_true (all3_iff.1 h k hlt); rw [← Hx.out] at this; omega)
    have Hno := Lib.hid hno
    clear hno
    have d1 : decide (x < -1048576) = true := decide_eq_true a1
    go_wp2_with fail
    go_ret
    exact ⟨by rw [Hno.out]; rfl, rfl⟩
   ·have d1 : decide (x < -1048576) = false := decide_eq_false a1
    by_cases a2 : 1048576 < x
    ·have hno : all3 1048576 t = false := Bool.eq_false_iff.2 (fun h => by have := of_decide_eq_true (all3_iff.1 h k hlt); rw [← Hx.out] at this; omega)
     have Hno := Lib.hid hno
     clear hno
     have d2 : decide (x > 1048576) = true := decide_eq_true a2
     go_wp2_with fail
     go_ret
     exact ⟨by rw [Hno.out]; rfl, rfl⟩
    ·have d2 : decide (x > 1048576) = false := decide_eq_false a2
     go_wp2_with fail
     go_round
     case rel =>
      refine ⟨k + 1, by omega, by go_num, fun j hj => ?_⟩
      by_cases hjk : j = k
      ·rw [hjk, ← Hx.out]; exact decide_eq_true (by omega)
      ·exact Hok.out j (by omega)
     case measure => simp [intOf]; omega
  ·have hyes := Lib.hid (all3_iff.2 (fun j hj => Hok.out j (by omega)))
   go_wp2_with fail
   go_ret
   exact ⟨by rw [hyes.out]; rfl, rfl⟩
end Go.Proofs.YtnoibcdojfnicaaGreatDoor.PTp
namespace Go.Proofs.YtnoibcdojfnicaaGreatDoor.LaidRow
open Go.Proofs.YtnoibcdojfnicaaGreatDoorW.Short
open Bool renaming true → Y, false → J
open Go Go.ChangeShapes Go.WideShapes Go.ChangeAt Go.RowKit
theorem own : ownKnob Tryz.prog.godebug = none := by kernel_rfl
theorem g64 : Tryz.prog.globalNamed "math/bits.deBruijn64tab" = some 3 := by kernel_rfl
theorem gst : Tryz.prog.globalNamed "descant/stretch.table" = some 0 := by kernel_rfl
theorem tst : (Tryz.prog.globals[(0 : Nat)]?).map (·.type) = some 203 := by kernel_rfl
theorem t64 : (Tryz.prog.globals[(3 : Nat)]?).map (·.type) = some 229 := by kernel_rfl
abbrev laidL : List (String × DataW Unit) := [("math/bits.deBruijn32tab", Rows.laid_math_bits_deBruijn32tab), ("math/bits.deBruijn64tab", Rows.laid_math_bits_deBruijn64tab), ("descant/stretch.table", Rows.laid_descant_stretch_table)]
theorem door_met (os : Os) (args : Array Value) : laidMetH Tryz.prog laidL ((World.doorLaid Tryz.prog 200 os).forCall (fun _ _ => 0) ⟨#[], args, []⟩).memory :=
 laidMetH_of_parts3 (fuel := 8) (laidMet_of_run' 8 kr kr) kr kr
theorem tab64 : (Rows.laid_math_bits_deBruijn64tab : DataW Unit) = .agg ((List.range 64).map fun j => .lit (.int .u8 (Lib.deBruijn64tab.getD j 0))) := by rfl
theorem tabSt : (Rows.laid_descant_stretch_table : DataW Unit) = .agg ((List.range 33).map fun j => .lit (.int .i64 (Extra.sqTab.getD j 0))) := by rfl
theorem of_laid {W : World} (h : laidMetH Tryz.prog laidL W) : Extra.Laid W := by
 rw [MakeChecks.laidMetH_plain _ _ _ kr] at h
 obtain ⟨ps, ⟨g0, t0, cs0, f0, p0, q0, hg0, ht0, hv0, hd0, ⟨g1, t1, cs1, f1, p1, q1, hg1, ht1, hv1, hd1, ⟨g2, t2, cs2, f2, p2, q2, hg2, ht2, hv2, hd2, _, _⟩, _⟩, _⟩, _, _⟩ := h
 constructor
 ·obtain rfl := Option.some.inj (gst.symm.trans hg2)
  obtain rfl := Option.some.inj (tst.symm.trans ht2)
  obtain ⟨xs, m1, rfl, hx1, hlen, hn, hel⟩ := DataW.trod_array Tryz.underlying203 hd2
  have c5 : Tryz.prog.cellsOf 3 = 1 := by kernel_rfl
  rw [tabSt] at hx1
  simp only [Prod.mk.injEq, DataW.agg.injEq] at hx1
  obtain ⟨hx1, -⟩ := hx1
  intro j hj
  have h0 := hel j hj
  rw [c5, Nat.mul_one] at h0
  rw [List.getElem?_eq_getElem (show j < xs.length by omega)] at h0
  obtain ⟨k, e1, e2, _⟩ := DataW.trod_int Tryz.underlying3 h0
  have hk : (xs.map (·.1))[j]? = some (.lit (.int .i64 (Extra.sqTab.getD j 0))) := by
   rw [← hx1, List.getElem?_map, List.getElem?_range hj]; rfl
  rw [List.getElem?_map, List.getElem?_eq_getElem (show j < xs.length by omega), Option.map_some, e2] at hk
  have hk2 : k = Extra.sqTab.getD j 0 := by simpa using hk
  have hc : cs2.toList[j]? = some (.int .i64 k) := by
   have : ((cs2.toList.drop j).take 1)[0]? = some (.int .i64 k) := by rw [e1]; rfl
   rwa [List.getElem?_take, if_pos (by decide), List.getElem?_drop, Nat.add_zero] at this
  rw [World.var?_cell hg2 hv2 j, ← hk2]
  rw [Array.getElem?_toList] at hc
  exact hc
 ·obtain rfl := Option.some.inj (g64.symm.trans hg1)
  obtain rfl := Option.some.inj (t64.symm.trans ht1)
  obtain ⟨xs, m1, rfl, hx1, hlen, hn, hel⟩ := DataW.trod_array Tryz.underlying229 hd1
  have c5 : Tryz.prog.cellsOf 5 = 1 := by kernel_rfl
  rw [tab64] at hx1
  simp only [Prod.mk.injEq, DataW.agg.injEq] at hx1
  obtain ⟨hx1, -⟩ := hx1
  intro j hj
  have h0 := hel j hj
  rw [c5, Nat.mul_one] at h0
  rw [List.getElem?_eq_getElem (show j < xs.length by omega)] at h0
  obtain ⟨k, e1, e2, _⟩ := DataW.trod_int Tryz.underlying5 h0
  have hk : (xs.map (·.1))[j]? = some (.lit (.int .u8 (Lib.deBruijn64tab.getD j 0))) := by
   rw [← hx1, List.getElem?_map, List.getElem?_range hj]; rfl
  rw [List.getElem?_map, List.getElem?_eq_getElem (show j < xs.length by omega), Option.map_some, e2] at hk
  have hk2 : k = (Lib.deBruijn64tab.getD j 0 : Int) := by simpa using hk
  have hc : cs1.toList[j]? = some (.int .u8 k) := by
   have : ((cs1.toList.drop j).take 1)[0]? = some (.int .u8 k) := by rw [e1]; rfl
   rwa [List.getElem?_take, if_pos (by decide), List.getElem?_drop, Nat.add_zero] at this
  rw [World.var?_cell hg1 hv1 j, ← hk2]
  rw [Array.getElem?_toList] at hc
  exact hc
end Go.Proofs.YtnoibcdojfnicaaGreatDoor.LaidRow
namespace Go.Proofs.YtnoibcdojfnicaaGreatDoor.Row
open Go.Proofs.YtnoibcdojfnicaaGreatDoorW.Short
open Bool renaming true → Y, false → J
open Go Go.ChangeShapes Go.WideShapes
variable {P : Program} {w : World} {r : Reach} {base : Nat}
end Go.Proofs.YtnoibcdojfnicaaGreatDoor.Row
namespace Go.Proofs
open Go.Proofs.YtnoibcdojfnicaaGreatDoorW.Short
open Bool renaming true → Y, false → J
open Go.Shelf Go.RowKit
def Tryz.lays169_ren : Go.Shelf.Ren := ⟨fun | 169 => 103 | n => n, fun | 70 => 162 | 9 => 9 | 0 => 0 | 72 => 164 | 37 => 96 | 127 => 202 | 3 => 3 | 5 => 5 | n => n, fun | n => n⟩
theorem Tryz.lays169 : Go.Proofs.Lays.n169 Tryz.prog Tryz.lays169_ren := {
 mixed := by kernel_rfl
 f169 := Tryz.func103.trans (congrArg some kr)
 t0 := Tryz.underlying0
 a0 := Tryz.isAgg0
 z0 := Tryz.sizeOf0
 v0 := Tryz.zeroValue0
 t3 := Tryz.underlying3
 a3 := Tryz.isAgg3
 z3 := Tryz.sizeOf3
 v3 := Tryz.zeroValue3
 t9 := Tryz.underlying9
 a9 := Tryz.isAgg9
 z9 := Tryz.sizeOf9
 v9 := Tryz.zeroValue9
 t37 := Tryz.underlying96
 a37 := Tryz.isAgg96
 z37 := Tryz.sizeOf96
 v37 := Tryz.zeroValue96
 t70 := Tryz.underlying162
 a70 := Tryz.isAgg162
 z70 := Tryz.sizeOf162
 v70 := Tryz.zeroValue162
 t72 := Tryz.underlying164
 a72 := Tryz.isAgg164
 z72 := Tryz.sizeOf164
 v72 := Tryz.zeroValue164
 t127 := Tryz.underlying202
 a127 := Tryz.isAgg202
 z127 := Tryz.sizeOf202
 v127 := Tryz.zeroValue202 }
theorem Tryz.Builder_Extra_169 : Builder.Extra Tryz.prog Tryz.lays169_ren := {
 sizeBuilder := by kernel_rfl
 liesBuilder := by kernel_rfl
 t5 := Tryz.underlying5
 a5 := Tryz.isAgg5
 z5 := Tryz.sizeOf5
 v5 := Tryz.zeroValue5
 infoByte := by kernel_rfl
 cellsByte := by kernel_rfl
 sizeByte := by kernel_rfl
 neB5 := by decide }
theorem Tryz.Builder_String_any (B b : Nat) (l : List UInt8) (w : World) (h : Lib.IsBuilder 164 5 B b (Lib.byteCells l) w) (hBw : B ≤ w.heap.size) :
  Calls Tryz.prog 103 #[.pointer (some ⟨b, 0, none⟩)] w fun e w' => e = .returned (.string ⟨l.toArray⟩) ∧ Below B w w' := Any.Builder_String_any Tryz.lays169 Tryz.Builder_Extra_169 B b l w h hBw
def Tryz.lays156_ren : Go.Shelf.Ren := ⟨fun | 156 => 134 | 165 => 150 | 166 => 102 | 169 => 103 | 240 => 142 | 241 => 167 | 276 => 161 | 277 => 173 | n => n, fun | 31 => 84 | 9 => 9 | 3 => 3 | 4 => 4 | 0 => 0 | 20 => 20 | 72 => 164 | 76 => 169 | 70 => 162 | 37 => 96 | 75 => 168 | 127 => 202 | 164 => 217 | 5 => 5 | 80 => 171 | n => n, fun | n => n⟩
theorem Tryz.lays156 : Go.Proofs.Lays.n156 Tryz.prog Tryz.lays156_ren := {
 mixed := by kernel_rfl
 f156 := Tryz.func134.trans (congrArg some kr)
 f165 := Tryz.func150.trans (congrArg some kr)
 f166 := Tryz.func102.trans (congrArg some kr)
 f169 := Tryz.func103.trans (congrArg some kr)
 f240 := Tryz.func142.trans (congrArg some kr)
 f241 := Tryz.func167.trans (congrArg some kr)
 f276 := Tryz.func161.trans (congrArg some kr)
 f277 := Tryz.func173.trans (congrArg some kr)
 t0 := Tryz.underlying0
 a0 := Tryz.isAgg0
 z0 := Tryz.sizeOf0
 v0 := Tryz.zeroValue0
 t3 := Tryz.underlying3
 a3 := Tryz.isAgg3
 z3 := Tryz.sizeOf3
 v3 := Tryz.zeroValue3
 t4 := Tryz.underlying4
 a4 := Tryz.isAgg4
 z4 := Tryz.sizeOf4
 v4 := Tryz.zeroValue4
 t9 := Tryz.underlying9
 a9 := Tryz.isAgg9
 z9 := Tryz.sizeOf9
 v9 := Tryz.zeroValue9
 t20 := Tryz.underlying20
 a20 := Tryz.isAgg20
 z20 := Tryz.sizeOf20
 v20 := Tryz.zeroValue20
 t31 := Tryz.underlying84
 a31 := Tryz.isAgg84
 z31 := Tryz.sizeOf84
 v31 := Tryz.zeroValue84
 t37 := Tryz.underlying96
 a37 := Tryz.isAgg96
 z37 := Tryz.sizeOf96
 v37 := Tryz.zeroValue96
 t70 := Tryz.underlying162
 a70 := Tryz.isAgg162
 z70 := Tryz.sizeOf162
 v70 := Tryz.zeroValue162
 t72 := Tryz.underlying164
 a72 := Tryz.isAgg164
 z72 := Tryz.sizeOf164
 v72 := Tryz.zeroValue164
 t75 := Tryz.underlying168
 a75 := Tryz.isAgg168
 z75 := Tryz.sizeOf168
 v75 := Tryz.zeroValue168
 t76 := Tryz.underlying169
 a76 := Tryz.isAgg169
 z76 := Tryz.sizeOf169
 v76 := Tryz.zeroValue169
 t127 := Tryz.underlying202
 a127 := Tryz.isAgg202
 z127 := Tryz.sizeOf202
 v127 := Tryz.zeroValue202
 t164 := Tryz.underlying217
 a164 := Tryz.isAgg217
 z164 := Tryz.sizeOf217
 v164 := Tryz.zeroValue217 }
theorem Tryz.Builder_Extra_156 : Builder.Extra Tryz.prog Tryz.lays156_ren := {
 sizeBuilder := by kernel_rfl
 liesBuilder := by kernel_rfl
 t5 := Tryz.underlying5
 a5 := Tryz.isAgg5
 z5 := Tryz.sizeOf5
 v5 := Tryz.zeroValue5
 infoByte := by kernel_rfl
 cellsByte := by kernel_rfl
 sizeByte := by kernel_rfl
 neB5 := by decide }
theorem Tryz.strings_Join_none (a : Option Addr) (c : Nat) (sep : ByteArray) (w : World) :
  Calls Tryz.prog 134 #[.slice a 0 c, .string sep] w fun e w' => e = .returned (.string ⟨#[]⟩) ∧ w' = w := Any.strings_Join_none Tryz.lays156 Tryz.Builder_Extra_156 a c sep w
theorem Tryz.strings_Join (bk o c : Nat) (xs : List ByteArray) (sep : ByteArray) (w : World) (hcells : ∀ (j : Nat) x, xs[j]? = some x → w.cell? ⟨bk, o + j, none⟩ = some (.string x)) (hbk : bk < w.heap.size) (hN : xs.length ≤ 140737488355328) (hcap : xs.length ≤ c) (hlen : (Lib.join (xs.map (·.data.toList)) sep.data.toList).length ≤ 140737488355328) :
  Calls Tryz.prog 134 #[.slice (some ⟨bk, o, none⟩) xs.length c, .string sep] w fun e w' => e = .returned (.string ⟨(Lib.join (xs.map (·.data.toList)) sep.data.toList).toArray⟩) ∧ Below w.heap.size w w' := Any.strings_Join Tryz.lays156 Tryz.Builder_Extra_156 bk o c xs sep w hcells hbk hN hcap hlen
def Tryz.lays125_ren : Go.Shelf.Ren := ⟨fun | 125 => 61 | 128 => 117 | 129 => 118 | n => n, fun | 46 => 33 | 3 => 3 | 51 => 145 | 53 => 179 | 4 => 4 | 5 => 5 | 9 => 9 | n => n, fun | n => n⟩
theorem Tryz.lays125 : Go.Proofs.Lays.n125 Tryz.prog Tryz.lays125_ren := {
 mixed := by kernel_rfl
 f125 := Tryz.func61.trans (congrArg some kr)
 f128 := Tryz.func117.trans (congrArg some kr)
 f129 := Tryz.func118.trans (congrArg some kr)
 t3 := Tryz.underlying3
 a3 := Tryz.isAgg3
 z3 := Tryz.sizeOf3
 v3 := Tryz.zeroValue3
 t4 := Tryz.underlying4
 a4 := Tryz.isAgg4
 z4 := Tryz.sizeOf4
 v4 := Tryz.zeroValue4
 t5 := Tryz.underlying5
 a5 := Tryz.isAgg5
 z5 := Tryz.sizeOf5
 v5 := Tryz.zeroValue5
 t9 := Tryz.underlying9
 a9 := Tryz.isAgg9
 z9 := Tryz.sizeOf9
 v9 := Tryz.zeroValue9
 t46 := Tryz.underlying33
 a46 := Tryz.isAgg33
 z46 := Tryz.sizeOf33
 v46 := Tryz.zeroValue33
 t51 := Tryz.underlying145
 a51 := Tryz.isAgg145
 z51 := Tryz.sizeOf145
 v51 := Tryz.zeroValue145
 t53 := Tryz.underlying179
 a53 := Tryz.isAgg179
 z53 := Tryz.sizeOf179
 v53 := Tryz.zeroValue179 }
theorem Tryz.bits_Len (x : Int) (w : World) (h0 : 0 ≤ x) (h1 : x ≤ 18446744073709551615) :
  Calls Tryz.prog 61 #[.int .u64 x] w fun e w' => e = .returned (.int .i64 (Lib.bitLen x.toNat)) ∧ w' = w := Any.bits_Len Tryz.lays125 x w h0 h1
def Tryz.lays105_ren : Go.Shelf.Ren := ⟨fun | 105 => 125 | 212 => 119 | 99 => 98 | 165 => 150 | 166 => 102 | 170 => 151 | 169 => 103 | 263 => 148 | 264 => 149 | 206 => 140 | 240 => 142 | 241 => 167 | 276 => 161 | 277 => 173 | n => n, fun | 9 => 9 | 3 => 3 | 4 => 4 | 20 => 20 | 0 => 0 | 46 => 33 | 109 => 180 | 5 => 5 | 72 => 164 | 76 => 169 | 51 => 145 | 146 => 205 | 53 => 179 | 148 => 207 | 70 => 162 | 37 => 96 | 75 => 168 | 127 => 202 | 164 => 217 | 80 => 171 | n => n, fun | n => n⟩
theorem Tryz.lays105 : Go.Proofs.Lays.n105 Tryz.prog Tryz.lays105_ren := {
 mixed := by kernel_rfl
 f99 := Tryz.func98.trans (congrArg some kr)
 f105 := Tryz.func125.trans (congrArg some kr)
 f165 := Tryz.func150.trans (congrArg some kr)
 f166 := Tryz.func102.trans (congrArg some kr)
 f169 := Tryz.func103.trans (congrArg some kr)
 f170 := Tryz.func151.trans (congrArg some kr)
 f206 := Tryz.func140.trans (congrArg some kr)
 f212 := Tryz.func119.trans (congrArg some kr)
 f240 := Tryz.func142.trans (congrArg some kr)
 f241 := Tryz.func167.trans (congrArg some kr)
 f263 := Tryz.func148.trans (congrArg some kr)
 f264 := Tryz.func149.trans (congrArg some kr)
 f276 := Tryz.func161.trans (congrArg some kr)
 f277 := Tryz.func173.trans (congrArg some kr)
 t0 := Tryz.underlying0
 a0 := Tryz.isAgg0
 z0 := Tryz.sizeOf0
 v0 := Tryz.zeroValue0
 t3 := Tryz.underlying3
 a3 := Tryz.isAgg3
 z3 := Tryz.sizeOf3
 v3 := Tryz.zeroValue3
 t4 := Tryz.underlying4
 a4 := Tryz.isAgg4
 z4 := Tryz.sizeOf4
 v4 := Tryz.zeroValue4
 t5 := Tryz.underlying5
 a5 := Tryz.isAgg5
 z5 := Tryz.sizeOf5
 v5 := Tryz.zeroValue5
 t9 := Tryz.underlying9
 a9 := Tryz.isAgg9
 z9 := Tryz.sizeOf9
 v9 := Tryz.zeroValue9
 t20 := Tryz.underlying20
 a20 := Tryz.isAgg20
 z20 := Tryz.sizeOf20
 v20 := Tryz.zeroValue20
 t37 := Tryz.underlying96
 a37 := Tryz.isAgg96
 z37 := Tryz.sizeOf96
 v37 := Tryz.zeroValue96
 t46 := Tryz.underlying33
 a46 := Tryz.isAgg33
 z46 := Tryz.sizeOf33
 v46 := Tryz.zeroValue33
 t51 := Tryz.underlying145
 a51 := Tryz.isAgg145
 z51 := Tryz.sizeOf145
 v51 := Tryz.zeroValue145
 t53 := Tryz.underlying179
 a53 := Tryz.isAgg179
 z53 := Tryz.sizeOf179
 v53 := Tryz.zeroValue179
 t70 := Tryz.underlying162
 a70 := Tryz.isAgg162
 z70 := Tryz.sizeOf162
 v70 := Tryz.zeroValue162
 t72 := Tryz.underlying164
 a72 := Tryz.isAgg164
 z72 := Tryz.sizeOf164
 v72 := Tryz.zeroValue164
 t75 := Tryz.underlying168
 a75 := Tryz.isAgg168
 z75 := Tryz.sizeOf168
 v75 := Tryz.zeroValue168
 t76 := Tryz.underlying169
 a76 := Tryz.isAgg169
 z76 := Tryz.sizeOf169
 v76 := Tryz.zeroValue169
 t109 := Tryz.underlying180
 a109 := Tryz.isAgg180
 z109 := Tryz.sizeOf180
 v109 := Tryz.zeroValue180
 t127 := Tryz.underlying202
 a127 := Tryz.isAgg202
 z127 := Tryz.sizeOf202
 v127 := Tryz.zeroValue202
 t146 := Tryz.underlying205
 a146 := Tryz.isAgg205
 z146 := Tryz.sizeOf205
 v146 := Tryz.zeroValue205
 t148 := Tryz.underlying207
 a148 := Tryz.isAgg207
 z148 := Tryz.sizeOf207
 v148 := Tryz.zeroValue207
 t164 := Tryz.underlying217
 a164 := Tryz.isAgg217
 z164 := Tryz.sizeOf217
 v164 := Tryz.zeroValue217 }
theorem Tryz.Builder_Extra_105 : Builder.Extra Tryz.prog Tryz.lays105_ren := {
 sizeBuilder := by kernel_rfl
 liesBuilder := by kernel_rfl
 t5 := Tryz.underlying5
 a5 := Tryz.isAgg5
 z5 := Tryz.sizeOf5
 v5 := Tryz.zeroValue5
 infoByte := by kernel_rfl
 cellsByte := by kernel_rfl
 sizeByte := by kernel_rfl
 neB5 := by decide }
theorem Tryz.strings_Repeat (s : ByteArray) (c : Nat) (w : World) (hc : c ≤ 9223372036854775807) (hlen : s.size * c ≤ 140737488355328) :
  Calls Tryz.prog 125 #[.string s, .int .i64 c] w fun e w' => e = .returned (.string ⟨(Lib.repeatL s.data.toList c).toArray⟩) ∧ Below w.heap.size w w' := Any.strings_Repeat Tryz.lays105 Tryz.Builder_Extra_105 s c w hc hlen
theorem Tryz.Builder_WriteString (B b : Nat) (bs : List Value) (s : ByteArray) (w : World) (h : Lib.IsBuilder 164 5 B b bs w) (hlen : bs.length + s.size ≤ 140737488355328) (hBw : B ≤ w.heap.size) :
  Calls Tryz.prog 102 #[.pointer (some ⟨b, 0, none⟩), .string s] w fun e w' => e = .returned (.tuple #[.int .i64 s.size, .nilIface]) ∧ (Lib.BuilderAt 164 5 B b (.pointer (some ⟨b, 0, none⟩)) (bs ++ Lib.strCells s) w' ∧ Below B w w') :=
 Any.Builder_WriteString { Tryz.lays105 with } Tryz.Builder_Extra_105 B b bs s w h hlen hBw
end Go.Proofs
namespace Go.Proofs.YtnoibcdojfnicaaGreatDoor.Modn
open Go.Proofs.YtnoibcdojfnicaaGreatDoorW.Short
open Bool renaming true → Y, false → J
open Go Go.RowKit Go.Proofs.YtnoibcdojfnicaaGreatDoorW.PrintWords Go.Proofs.YtnoibcdojfnicaaGreatDoorW.PrintMore Go.Proofs.YtnoibcdojfnicaaGreatDoorW.PrintLast
structure Mod (g B : Nat) (W W' : World) : Prop where
 os : W'.os = W.os
 tape : W'.tape = W.tape
 output : W'.output = W.output
 size : W.heap.size ≤ W'.heap.size
 block : ∀ k, k < B → k ≠ g → W'.heap[k]? = W.heap[k]?
theorem Mod.of {g B : Nat} {W W' : World} (h : Below W.heap.size W W') (hB : B ≤ W.heap.size) : Mod g B W W' := ⟨h.os, h.tape, h.output, h.size, fun k hk _ => h.block k (by omega)⟩
theorem Mod.of2 {g B : Nat} {W W' : World} (h : Below B W W') : Mod g B W W' := ⟨h.os, h.tape, h.output, h.size, fun k hk _ => h.block k hk⟩
theorem Mod.trans {g B : Nat} {a b c : World} (h : Mod g B a b) (k : Mod g B b c) : Mod g B a c :=
 ⟨k.os.trans h.os, k.tape.trans h.tape, k.output.trans h.output, Nat.le_trans h.size k.size, fun i hi hg => (k.block i hi hg).trans (h.block i hi hg)⟩
theorem Mod.below {g B : Nat} {w W W' : World} (h : Mod g B W W') (hb : Below w.heap.size w W) (hg : w.heap.size ≤ g) (hB : w.heap.size ≤ B) : Below w.heap.size w W' :=
 ⟨h.os.trans hb.os, h.tape.trans hb.tape, h.output.trans hb.output, Nat.le_trans hb.size h.size, fun k hk => (h.block k (by omega) (by omega)).trans (hb.block k hk)⟩
theorem Mod.row (g B : Nat) (W : World) (cs : Array Value) : Mod g B W (W.setRow g cs) := ⟨rfl, rfl, rfl, by simp [World.setRow], fun k _ hg => setRow_other W g k cs hg⟩
theorem Mod.cell (g B i : Nat) (W : World) (u : Value) : Mod g B W (W.setCell ⟨g, i, none⟩ u) := by
 have h := below_set (g := g) (j := i) (v := u) (Below.refl W.heap.size W)
 refine ⟨?_, ?_, ?_, ?_, fun k _ hk => Below.heap_setCell W _ u k hk⟩
 ·simp [World.setCell]
 ·simp [World.setCell]
 ·simp [World.setCell]
 ·simp
theorem Mod.cells (g B : Nat) : ∀ (vs : List Value) (o : Nat) (W : World), Mod g B W (W.setCells g o vs)
 | [], _, W => ⟨rfl, rfl, rfl, Nat.le_refl _, fun _ _ _ => rfl⟩
 | v :: r, o, W => by rw [World.setCells]; exact (Mod.cell g B o W v).trans (Mod.cells g B r (o + 1) _)
end Go.Proofs.YtnoibcdojfnicaaGreatDoor.Modn
namespace Go.Proofs.YtnoibcdojfnicaaGreatDoor.PG
open Go.Proofs.YtnoibcdojfnicaaGreatDoorW.Short
open Bool renaming true → Y, false → J
open Go.RowKit Go.Proofs.YtnoibcdojfnicaaGreatDoorW.PrintWords Go.Proofs.YtnoibcdojfnicaaGreatDoorW.PrintLast Go.Proofs.YtnoibcdojfnicaaGreatDoorW.PrintMore
attribute [local go_sem] max2_int min2_int max_two min_two max_three min_three max_four min_four
def errW : Option Int → Value
  | none => .nilIface
  | some c => .iface 0 (.int .i64 c)
theorem errW_none : errW none = .nilIface := rfl
theorem errW_some (c : Int) : errW (some c) = .iface 0 (.int .i64 c) := rfl
theorem info3 : (Tryz.prog.info? 3).map (fun i => (i.zero, i.size, i.bytes)) = some (some (.int .i64 0), 1, 8) := by kernel_rfl
theorem info5 : (Tryz.prog.info? 5).map (fun i => (i.zero, i.size, i.bytes)) = some (some (.int .u8 0), 1, 1) := by kernel_rfl
theorem info22 : (Tryz.prog.info? 22).map (fun i => (i.zero, i.size, i.bytes)) = some (some (.slice none 0 0), 1, 24) := by kernel_rfl
theorem info151 : (Tryz.prog.info? 151).map (fun i => (i.zero, i.size, i.bytes)) = some (some (.agg #[(.string ⟨#[]⟩), (.int .i64 0), (.int .i64 0)]), 3, 32) := by kernel_rfl
def rd_L1 (xs : List (List Int)) (i : Int) : (List Int) := xs.getD i.toNat ([] : List Int)
theorem at_L1 {w : World} {A : Option Addr} {n : Nat} {xs : List (List Int)} (h : Kd.C (Kd.slice 3 (Kd.int .i64)) w A n xs) (i : Int) (h0 : 0 ≤ i) (h1 : i < n) : ∃ ad A0 c0, A = some ad ∧ w.cell? (ad.add i.toNat) = some (.slice A0 (rd_L1 xs i).length c0) ∧ (rd_L1 xs i).length ≤ c0 ∧ (Kd.int .i64).C w A0 (rd_L1 xs i).length (rd_L1 xs i) := by
  obtain ⟨ad, c, e, _, hK, hc0⟩ := Kd.C_get h ([] : List Int) i h0 h1
  have hc : ∀ j u, c[j]? = some u → w.cell? (ad.add (i.toNat * 1 + j)) = some u := hc0
  obtain ⟨A0, c0, rfl, l0, g0⟩ := hK
  exact ⟨ad, A0, c0, e, b51_, l0, g0⟩
structure S151 where
  f0 : ByteArray
  f1 : Int
  f2 : Int
def z151 : S151 := ⟨(⟨#[]⟩ : ByteArray), (0 : Int), (0 : Int)⟩
def k151 : Kd S151 := Kd.iso (Kd.pair Kd.string (Kd.pair (Kd.int .i64) (Kd.int .i64))) (fun x : S151 => (x.f0, x.f1, x.f2))
theorem k151_open {w : World} {x : S151} {cs : List Value} (h : k151.K w x cs) : cs = [.string x.f0, .int .i64 x.f1, .int .i64 x.f2] := by
  obtain ⟨_, _, rfl, rfl, ⟨_, _, rfl, rfl, rfl⟩⟩ := h
  exact rfl
theorem k151_mkM (w : World) (base : Nat) (ok : Nat → Prop) (x : S151)  : k151.M w base ok x [.string x.f0, .int .i64 x.f1, .int .i64 x.f2] := ⟨[.string x.f0], [.int .i64 x.f1, .int .i64 x.f2], rfl, rfl, ⟨[.int .i64 x.f1], [.int .i64 x.f2], rfl, rfl, rfl⟩⟩
def rd_T151 (xs : List S151) (i : Int) : S151 := xs.getD i.toNat z151
theorem at_T151 {w : World} {A : Option Addr} {n : Nat} {xs : List S151} (h : Kd.C k151 w A n xs) (i : Int) (h0 : 0 ≤ i) (h1 : i < n) : ∃ ad , A = some ad ∧ w.cell? (ad.add (i.toNat * 3)) = some (.string (rd_T151 xs i).f0) ∧ w.cell? ⟨(ad.add (i.toNat * 3)).block, (ad.add (i.toNat * 3)).off + 1, none⟩ = some (.int .i64 (rd_T151 xs i).f1) ∧ w.cell? ⟨(ad.add (i.toNat * 3)).block, (ad.add (i.toNat * 3)).off + 2, none⟩ = some (.int .i64 (rd_T151 xs i).f2) := by
  obtain ⟨ad, c, e, _, hK, hc0⟩ := Kd.C_get h z151 i h0 h1
  have hc : ∀ j u, c[j]? = some u → w.cell? (ad.add (i.toNat * 3 + j)) = some u := hc0
  obtain rfl := k151_open hK
  exact ⟨ad, e, hc 0 _ rfl, b53_, b54_⟩
end Go.Proofs.YtnoibcdojfnicaaGreatDoor.PG
