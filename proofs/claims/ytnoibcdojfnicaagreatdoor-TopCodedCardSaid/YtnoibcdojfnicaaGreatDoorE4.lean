/- A part of the proof of a law of descanttop: this session's own texts and printed texts, shortened and joined. -/
import Derived.Test.YtnoibcdojfnicaaGreatDoorE3
import Derived.Lib.Hide
import Derived.WalkSpells
import Derived.Outline
import Derived.DeepKeys
import Derived.Deep.MidRow
import Derived.Deep.WholeRow
import Derived.Lib.TrailingZeros
import Derived.Test.YtnoibcdojfnicaaGreatDoorRows
import Derived.ProofKit
import Derived.LaidMore
import Derived.OpenShut
import Derived.ChangeSame
import Derived.Stop.Joined
import Derived.ChangeOld
set_option linter.unusedVariables false
set_option linter.unusedSimpArgs false
set_option maxRecDepth 100000
set_option maxHeartbeats 16000000
namespace Go.Proofs.YtnoibcdojfnicaaGreatDoor.Agg
open Go.Proofs.YtnoibcdojfnicaaGreatDoorW.Short
open Bool renaming true → Y, false → J
open Go Go.RowKit Go.Proofs.YtnoibcdojfnicaaGreatDoorW.PrintWords Go.Proofs.YtnoibcdojfnicaaGreatDoorW.PrintMore Go.Proofs.YtnoibcdojfnicaaGreatDoorW.PrintLast
section
variable {P : Program}
theorem load_part {w : World} {b : Nat} {T : TypeId} {cs : Array Value} {fr : Nat × Nat} (h : w.heap[b]? = some (.cells cs T fr)) (o n : Nat) (t : TypeId) (d : TypeDesc) (hn : o + n ≤ cs.size) (hu : P.underlying t = some d) (hd : d.isRow = true) (hi : (P.info? t).map (·.size) = some n) :
  (Instr.loadAt t (.pointer (some ⟨b, o, none⟩))).run P w = .ok (.agg (cs.extract o (o + n))) w := by
 have h2 := run_loadAt_mid (P := P) w b o t _ _ (World.rangeAt_of_block h o n) hu hd (by rw [hi]; simp; omega)
 rwa [Array.toArray_toList] at h2
theorem load_all {w : World} {b : Nat} {T : TypeId} {cs : Array Value} {fr : Nat × Nat} (h : w.heap[b]? = some (.cells cs T fr)) (t : TypeId) (d : TypeDesc) (hu : P.underlying t = some d) (hd : d.isRow = true) (hi : (P.info? t).map (·.size) = some cs.size) :
  (Instr.loadAt t (.pointer (some ⟨b, 0, none⟩))).run P w = .ok (.agg cs) w := by
 have h2 := load_part h 0 cs.size t d (by omega) hu hd hi
 simpa using h2
theorem store_all {w : World} {b : Nat} {T : TypeId} {cs : Array Value} (h : w.heap[b]? = some (.cells cs T (0, 0))) (t : TypeId) (c2 : Array Value) (hi : (P.info? t).map (·.size) = some c2.size) (hs : cs.size = c2.size) (h1 : c2.all (·.oneCell') = true) :
  (Instr.storeAt t (.pointer (some ⟨b, 0, none⟩)) (.agg c2)).run P w = .ok () (w.setRow b c2) := by
 simp only [Instr.storeAt, Instr.sureAddr, Sem.run_bind, Sem.run_pure, Result.andThen_ok]
 exact run_storeVar_row w b T t cs c2 h hi hs h1
theorem results_c {fn : Func} {p : Tmp} {ty : TypeId} (h : fn.results = #[.cell p ty]) (tmps : Array Value) (w : World) (g : Nat) (t : TypeId) (cs : Array Value) (fr : Nat × Nat) (d : TypeDesc)
  (hp : tmps.getD p undef = .pointer (some ⟨g, 0, none⟩)) (hg : w.heap[g]? = some (.cells cs t fr))
  (hu : P.underlying ty = some d) (hd : (match d with | .struct _ | .array _ _ => true | _ => false) = true) (hi : (P.info? ty).map (·.size) = some cs.size) :
  (results fn tmps).run P w = .ok (.agg cs) w := by
 have hp' : tmps[p]?.getD undef = .pointer (some ⟨g, 0, none⟩) := by simpa using hp
 simp [results, h, hp', asAddr, run_loadVar_row w g t ty cs fr d hg hu hd hi]
end
theorem idx_int {P : Program} {T e : TypeId} {len : Nat} (hu : P.underlying T = some (.array len e)) (he : P.underlying e = some (.int .i64)) (hs : (P.info? e).map (·.size) = some 1) (cs : Array Value) (k : Nat) (hk : k < len) (v : Value) (hv : cs[k]? = some v) (W : World) : (Instr.index T (.agg cs) (.int .i64 (k : Int))).run P W = .ok v W := by
 obtain ⟨j, hj, hj2⟩ := Option.map_eq_some_iff.1 hs
 have h1 : (0 : Int) ≤ k ∧ (k : Int) < len := by omega
 simp [Instr.index, asIntOf, run_underlying hu, hk]
 simp [part, isAgg, sizeOf, typeInfo, run_underlying he, hj, hj2, hv]
theorem blk_row_far {w : World} {g b : Nat} {o : Obj} (h : w.heap[g]? = some o) (hne : g ≠ b) (c : Array Value) : (w.setRow b c).heap[g]? = some o := (setRow_other w b g c hne).trans h
theorem blk_row {w : World} {g : Nat} {old : Array Value} {t : TypeId} {fr : Nat × Nat} (h : w.heap[g]? = some (.cells old t fr)) (c : Array Value) : (w.setRow g c).heap[g]? = some (.cells c t fr) := setRow_heap w g old c t fr h
theorem below_row {B g : Nat} {w0 w : World} (hb : Below B w0 w) (hBg : B ≤ g) (cs : Array Value) : Below B w0 (w.setRow g cs) := hb.trans ⟨rfl, rfl, rfl, by simp [World.setRow], fun k hk => setRow_other w g k cs (by omega)⟩
theorem idx3 (cs : Array Value) (k : Nat) (hk : k < 3) (v : Value) (hv : cs[k]? = some v) (W : World) : (Instr.index 26 (.agg cs) (.int .i64 (k : Int))).run Tryz.prog W = .ok v W :=
 idx_int Tryz.underlying26 Tryz.underlying3 kr cs k hk v hv W
theorem idx64 (cs : Array Value) (k : Nat) (hk : k < 64) (v : Value) (hv : cs[k]? = some v) (W : World) : (Instr.index 24 (.agg cs) (.int .i64 (k : Int))).run Tryz.prog W = .ok v W :=
 idx_int Tryz.underlying24 Tryz.underlying3 kr cs k hk v hv W
end Go.Proofs.YtnoibcdojfnicaaGreatDoor.Agg
namespace Go.Proofs.YtnoibcdojfnicaaGreatDoor.Extra
open Go.Proofs.YtnoibcdojfnicaaGreatDoorW.Short
open Bool renaming true → Y, false → J
open Go Go.RowKit Go.Proofs.YtnoibcdojfnicaaGreatDoorW.PrintWords
def sqTab : List Int := [1, 2, 3, 6, 10, 16, 27, 45, 73, 120, 194, 310, 488, 747, 1101, 1546, 2047, 2549, 2994, 3348, 3607, 3785, 3901, 3975, 4022, 4050, 4068, 4079, 4085, 4089, 4092, 4093, 4094]
structure Laid (w : World) : Prop where
 tab : ∀ j, j < 33 → w.cell? ⟨0, j, none⟩ = some (.int .i64 (sqTab.getD j 0))
 out : ∀ j, j < 64 → w.cell? ⟨3, j, none⟩ = some (.int .u8 (Lib.deBruijn64tab.getD j 0))
theorem Laid.below_ {w W : World} (h : Laid w) (hb : Below w.heap.size w W) : Laid W := ⟨fun j hj => (hb.cell (World.block_lt_of_cell? w _ (h.tab j hj))).trans (h.tab j hj), fun j hj => (hb.cell (World.block_lt_of_cell? w _ (h.out j hj))).trans (h.out j hj)⟩
theorem Laid.aside {w W : World} (h : Laid w) (hb : Aside0 (Below w.heap.size w W)) : Laid W := h.below_ hb.out
theorem Laid.alloc_ {w : World} (h : Laid w) (o : Obj) : Laid (w.alloc o) := h.below_ (below_alloc (Below.refl _ _) o)
theorem Laid.drewN_ {w : World} (h : Laid w) (n : Nat) : Laid (w.drewN n) := h.below_ (pw_below_drewN (Below.refl _ _) n)
theorem Laid.drew_ {w : World} (h : Laid w) : Laid w.drew := h.below_ (below_drew (Below.refl _ _))
end Go.Proofs.YtnoibcdojfnicaaGreatDoor.Extra
namespace Go.Proofs.YtnoibcdojfnicaaGreatDoor.PTp
open Go.Proofs.YtnoibcdojfnicaaGreatDoorW.Short
open Bool renaming true → Y, false → J
open Go Go.RowKit Go.Proofs.YtnoibcdojfnicaaGreatDoorW.PrintWords Go.Proofs.YtnoibcdojfnicaaGreatDoorW.PrintMore Go.Proofs.YtnoibcdojfnicaaGreatDoorW.PrintLast
def squash (x : Int) : Int :=
 if 2047 < x then 4095 else if x < -2047 then 0 else
  (Extra.sqTab.getD ((x + 2048) / 128).toNat 0 * (128 - x % 128) + Extra.sqTab.getD ((x + 2048) / 128 + 1).toNat 0 * (x % 128) + 64) / 128
def halve (p : Int → Bool) : Nat → Int → Int → Int
 | 0, i, _ => i
 | k + 1, i, j => if i < j then (if p ((i + j) / 2) = true then halve p k i ((i + j) / 2) else halve p k ((i + j) / 2 + 1) j) else i
theorem tab_in : ∀ j, j < 33 → 1 ≤ Extra.sqTab.getD j 0 ∧ Extra.sqTab.getD j 0 ≤ 4094 := by decide
theorem squash_c (x : Int) (w : World) (hT : Extra.Laid w) : Calls Tryz.prog 113 #[.int .i64 x] w fun e w' => e = .returned (.int .i64 (squash x)) ∧ Drawn0 w w' := by
 by_cases c1 : 2047 < x
 ·have d1 : decide (x > 2047) = true := decide_eq_true c1
  have hs : squash x = 4095 := by unfold squash; rw [if_pos c1]
  rw [hs]
  clear hs
  go_enter Tryz.func113, Tryz.ntmps113
  go_wp2_with fail
  go_ret
  exact ⟨rfl, Drawn0.refl _⟩
 ·by_cases c2 : x < -2047
  ·have hs : squash x = 0 := by unfold squash; rw [if_neg c1, if_pos c2]
   rw [hs]
   clear hs
   have d1 : decide (x > 2047) = false := decide_eq_false c1
   have d2 : decide (x < -2047) = true := decide_eq_true c2
   go_enter Tryz.func113, Tryz.ntmps113
   go_wp2_with fail
   go_ret
   exact ⟨rfl, Drawn0.refl _⟩
  ·have d1 : decide (x > 2047) = false := decide_eq_false c1
   have d2 : decide (x < -2047) = false := decide_eq_false c2
   have hm : Go.bits .and .i64 x 127 = x % 128 := Num.and_mask x 127 7 (by omega) (by rfl)
   have hs : Hid (squash x = (Extra.sqTab.getD ((x + 2048) / 128).toNat 0 * (128 - x % 128) + Extra.sqTab.getD ((x + 2048) / 128 + 1).toNat 0 * (x % 128) + 64) / 128) := Lib.hid (by unfold squash; rw [if_neg c1, if_neg c2])
   obtain ⟨d, hd⟩ : ∃ d : Nat, d = ((x + 2048) / 128).toNat := ⟨_, rfl⟩
   have hd1 : (x + 2048) / 128 = d := by omega
   have hd2 : d < 32 := by omega
   have t1 := hT.tab d (by omega)
   have t2 := hT.tab (d + 1) (by omega)
   have r1 := tab_in d (by omega)
   have r2 := tab_in (d + 1) (by omega)
   obtain ⟨p, hp⟩ : ∃ p, p = Extra.sqTab.getD d 0 := ⟨_, rfl⟩
   obtain ⟨q, hq⟩ : ∃ q, q = Extra.sqTab.getD (d + 1) 0 := ⟨_, rfl⟩
   rw [← hp] at t1 r1
   rw [← hq] at t2 r2
   obtain ⟨m, hmm⟩ : ∃ m, m = x % 128 := ⟨_, rfl⟩
   have hs2 : Hid (squash x = (p * (128 - m) + q * m + 64) / 128) := Lib.hid (by rw [hs.out, ← hd, ← hp, ← hmm, show ((x + 2048) / 128 + 1).toNat = d + 1 by omega, ← hq])
   rw [← hmm] at hm
   have m1 : 0 ≤ m ∧ m ≤ 127 := by omega
   obtain ⟨m1, m2⟩ := m1
   obtain ⟨r1, r3⟩ := r1
   obtain ⟨r2, r4⟩ := r2
   have p1 : 0 ≤ p * (128 - m) ∧ p * (128 - m) ≤ 4094 * 128 := ⟨Int.mul_nonneg (by omega) (by omega), Int.mul_le_mul r3 (by omega) (by omega) (by omega)⟩
   have p2 : 0 ≤ q * m ∧ q * m ≤ 4094 * 127 := ⟨Int.mul_nonneg (by omega) (by omega), Int.mul_le_mul r4 (by omega) (by omega) (by omega)⟩
   obtain ⟨p1, p3⟩ := p1
   obtain ⟨p2, p4⟩ := p2
   have e1 : Int.tdiv (x + 2048) 128 = (d : Int) := by rw [Int.tdiv_eq_ediv_of_nonneg (by omega), hd1]
   have e2 : Int.tdiv (p * (128 - m) + q * m + 64) 128 = (p * (128 - m) + q * m + 64) / 128 := Int.tdiv_eq_ediv_of_nonneg (by omega)
   clear hs hmm hp hq hd
   go_enter Tryz.func113, Tryz.ntmps113
   go_wp2_with fail
   rw [show (x + 2047 + 1) / 128 = (d : Int) by omega]
   go_quiet (fail)
   go_wp2_with fail
   go_ret
   exact ⟨by rw [hs2.out]; rfl, ⟨⟨_, rfl⟩⟩⟩
theorem drawn_trans {a b c : World} (h : Drawn0 a b) (k : Drawn0 b c) : Drawn0 a c := by
 obtain ⟨n, rfl⟩ := h.out
 obtain ⟨m, rfl⟩ := k.out
 exact ⟨⟨n + m, World.drewN_drewN _ _ _⟩⟩
theorem least_c (g : Nat) (p x : Int) (w : World) (hT : Extra.Laid w) (hx : -100000 ≤ x ∧ x ≤ 100000) (hp : w.cell? ⟨g, 0, none⟩ = some (.int .i64 p)) : Calls Tryz.prog 147 #[.int .i64 x, .pointer (some ⟨g, 0, none⟩)] w fun e w' => e = .returned (.bool (decide (squash (x - 2047) ≥ p))) ∧ Drawn0 w w' := by
 obtain ⟨x1, x2⟩ := hx
 have e1 := Num.w64 (n := x - 2047) (by omega) (by omega)
 have e2 : IntKind.i64.wrap (x - 2047) = x - 2047 := (Num.wrap_eq _).trans e1
 go_enter Tryz.func147, Tryz.ntmps147
 go_wp2_with fail
 go_quiet ((go_at_call 113; refine (squash_c _ _ (hT.drewN_ _)).mono ?_; rintro e w' ⟨rfl, ⟨nd, rfl⟩⟩; first | exact ⟨rfl, _, World.drewN_drewN _ _ _⟩ | trace_state))
 go_wp2_with fail
 go_ret
 exact ⟨rfl, ⟨⟨_, rfl⟩⟩⟩
theorem halve_in (f : Int → Bool) : ∀ (k : Nat) (i j : Int), i ≤ j → i ≤ halve f k i j ∧ halve f k i j ≤ j
 | 0, i, j, h => ⟨Int.le_refl _, h⟩
 | k + 1, i, j, h => by
  unfold halve
  by_cases c : i < j
  ·rw [if_pos c]
   by_cases c2 : f ((i + j) / 2) = true
   ·rw [if_pos c2]
    have := halve_in f k i ((i + j) / 2) (by omega)
    omega
   ·rw [if_neg c2]
    have := halve_in f k ((i + j) / 2 + 1) j (by omega)
    omega
  ·rw [if_neg c]; omega
def leastF (p x : Int) : Bool := decide (squash (x - 2047) ≥ p)
theorem search_c (g : Nat) (p : Int) (w : World) (hT : Extra.Laid w) (hp : w.cell? ⟨g, 0, none⟩ = some (.int .i64 p)) : Calls Tryz.prog 146 #[.int .i64 4094, .func (Fn.func 147) #[] #[.pointer (some ⟨g, 0, none⟩)]] w fun e w' => e = .returned (.int .i64 (halve (leastF p) 13 0 4094)) ∧ Drawn0 w w' := by
 go_enter Tryz.func146, Tryz.ntmps146
 go_wp2_with fail
 go_loopw [5, 6] (fun a b wr => ∃ (k : Nat) (i j : Int), k ≤ 13 ∧ a = .int .i64 i ∧ b = .int .i64 j ∧ 0 ≤ i ∧ i ≤ j ∧ j ≤ 4094 ∧ j - i < 2 ^ k ∧ Hid (halve (leastF p) 13 0 4094 = halve (leastF p) k i j) ∧ Hid (Drawn0 w wr)) (fun a b _ => ((intOf b) - (intOf a)).toNat)
 case atStart => exact ⟨13, 0, 4094, by omega, rfl, rfl, by omega, by omega, by omega, by decide, Lib.hid rfl, Lib.hid (Drawn0.refl _)⟩
 case round =>
  obtain ⟨k, i, j, hk, rfl, rfl, hi, hij, hj, hkk, hT2, hD⟩ := hrel
  by_cases hlt : i < j
  ·obtain ⟨k', rfl⟩ : ∃ k', k = k' + 1 := ⟨k - 1, by
    rcases k with _ | k
    ·simp at hkk; omega
    ·rfl⟩
   have hkk2 : (2 : Int) ^ (k' + 1) = 2 * 2 ^ k' := by rw [Int.pow_succ]; omega
   obtain ⟨z, hz⟩ : ∃ z : Int, z = 2 ^ k' := ⟨_, rfl⟩
   rw [hkk2, ← hz] at hkk
   have Hz := Lib.hid hz
   clear hkk2 hz
   obtain ⟨m, hm⟩ : ∃ m, m = (i + j) / 2 := ⟨_, rfl⟩
   have hT3 := hT2.out
   have hL : halve (leastF p) (k' + 1) i j = if leastF p m = true then halve (leastF p) k' i m else halve (leastF p) k' (m + 1) j := by
    show (if i < j then _ else _) = _
    rw [if_pos hlt, ← hm]
   rw [hL] at hT3
   have HT3 := Lib.hid hT3
   clear hL hT3 hT2
   have u1 := IntKind.wrap_u64 (i + j)
   have m2 : (i + j) % 18446744073709551616 = i + j := by omega
   have hT4 := Lib.hid (hT.below_ hD.out.below)
   obtain ⟨nd, hnd⟩ := hD.out.out
   have hp4 := Lib.hid (show wr.cell? ⟨g, 0, none⟩ = some (.int .i64 p) by rw [hnd]; exact hp)
   have m3 : 0 ≤ m ∧ m ≤ 4093 := by omega
   have mm : (i + j) / 2 = m := hm.symm
   have HM := Lib.hid hm
   clear hnd hm
   cases hv : leastF p m
   ·rw [hv] at HT3
    go_wp2_with (go_at_call 147; refine (least_c g p m _ hT4.out (by omega) hp4.out).mono ?_; rintro e w' ⟨rfl, hd⟩; rw [show decide (squash (m - 2047) ≥ p) = false from hv])
    refine ⟨⟨k', m + 1, j, by omega, rfl, rfl, by omega, by omega, by omega, by rw [← Hz.out]; omega, Lib.hid HT3.out, Lib.hid (drawn_trans hD.out hd)⟩, by simp [intOf]; omega⟩
   ·rw [hv] at HT3
    go_wp2_with (go_at_call 147; refine (least_c g p m _ hT4.out (by omega) hp4.out).mono ?_; rintro e w' ⟨rfl, hd⟩; rw [show decide (squash (m - 2047) ≥ p) = true from hv])
    refine ⟨⟨k', i, m, by omega, rfl, rfl, by omega, by omega, by omega, by rw [← Hz.out]; omega, Lib.hid HT3.out, Lib.hid (drawn_trans hD.out hd)⟩, by simp [intOf]; omega⟩
  ·have hh : halve (leastF p) k i j = i := by
    cases k with
    | zero => rfl
    | succ k => show (if i < j then _ else _) = _; rw [if_neg hlt]
   have h2 := hT2.out.trans hh
   go_wp2_with fail
   go_ret
   exact ⟨rfl, hD.out⟩
def stretchF (p : Int) : Int := halve (leastF p) 13 0 4094 - 2047
theorem stretch_c (p : Int) (w : World) (hT : Extra.Laid w) (h0 : 0 ≤ p) (h1 : p ≤ 4095) : Calls Tryz.prog 115 #[.int .i64 p] w fun e w' => e = .returned (.tuple #[.int .i64 (stretchF p), .int .i64 0]) ∧ Below w.heap.size w w' := by
 have HT := Lib.hid hT
 clear hT
 have hh := halve_in (leastF p) 13 0 4094 (by omega)
 obtain ⟨h2, h3⟩ := hh
 obtain ⟨i, hi⟩ : ∃ i, i = halve (leastF p) 13 0 4094 := ⟨_, rfl⟩
 rw [← hi] at h2 h3
 have Hi := Lib.hid hi
 clear hi
 have d0 : decide (p < 0) = false := decide_eq_false (by omega)
 have d1 : decide (p > 4095) = false := decide_eq_false (by omega)
 go_enter Tryz.func115, Tryz.ntmps115
 go_wp2_with fail
 have B1 := Lib.hid (blk_new w (.cells #[.int .i64 p] 3))
 refine (search_c w.heap.size p _ (HT.out.alloc_ _) ((blk_cell B1.out 0).trans rfl)).mono ?_
 rintro e w' ⟨rfl, hd⟩
 rw [← Hi.out]
 go_wp2_with fail
 go_ret2
 exact ⟨by unfold stretchF; rw [← Hi.out]; rfl, below_step (below_alloc (Below.refl _ _) _) hd.below⟩
theorem stretch_in (p : Int) : -2047 ≤ stretchF p ∧ stretchF p ≤ 2047 := by
 have := halve_in (leastF p) 13 0 4094 (by omega)
 unfold stretchF; omega
def countMay (c : Int) : Bool := decide (0 ≤ c ∧ c ≤ 65535)
def countNext (c bit : Int) : Int := if bit = 1 then c + (65535 - c) / 16 else c - c / 16
def countP (c : Int) : Int := mn (mx (c / 16) 1) 4095
theorem countMay_c (c : Int) (w : World) : Calls Tryz.prog 109 #[.int .i64 c] w fun e w' => e = .returned (.bool (countMay c)) ∧ w' = w := by
 by_cases c0 : 0 ≤ c
 ·have d0 : decide (c ≥ 0) = true := decide_eq_true c0
  go_enter Tryz.func109, Tryz.ntmps109
  go_wp2
  go_ret
  exact ⟨by simp [countMay, c0], rfl⟩
 ·have d0 : decide (c ≥ 0) = false := decide_eq_false (by omega)
  go_enter Tryz.func109, Tryz.ntmps109
  go_wp2
  go_ret
  exact ⟨by simp [countMay]; omega, rfl⟩
attribute [local go_sem] max2_int min2_int max_two min_two
theorem rt2 {a b : Int} {v : Value} (h : a = b) : Ending.returned (.tuple #[.int .i64 a, v]) = Ending.returned (.tuple #[.int .i64 b, v]) := by rw [h]
theorem rt1 {a b : Int} (h : a = b) : Ending.returned (.int .i64 a) = Ending.returned (.int .i64 b) := by rw [h]
theorem countP_c (c : Int) (w : World) (hc : countMay c = true) : Calls Tryz.prog 114 #[.int .i64 c] w fun e w' => e = .returned (.tuple #[.int .i64 (countP c), .int .i64 0]) ∧ w' = w := by
 have h := of_decide_eq_true hc
 obtain ⟨h0, h1⟩ := h
 have HC := Lib.hid hc
 have e1 : Int.tdiv c 16 = c / 16 := Int.tdiv_eq_ediv_of_nonneg h0
 go_enter Tryz.func114, Tryz.ntmps114
 go_wp2_with (go_at_call 109; refine (countMay_c _ _).mono ?_; rintro e w' ⟨rfl, hw⟩; have hw := hw.symm; subst hw; rw [hc])
 all_goals
  go_ret2
  exact ⟨rt2 (by unfold countP mn mx; (repeat' split) <;> omega), rfl⟩
theorem countNext_c (c bit : Int) (w : World) (hc : countMay c = true) (hb : bit = 0 ∨ bit = 1) : Calls Tryz.prog 57 #[.int .i64 c, .int .i64 bit] w fun e w' => e = .returned (.tuple #[.int .i64 (countNext c bit), .int .i64 0]) ∧ w' = w := by
 have h := of_decide_eq_true hc
 obtain ⟨h0, h1⟩ := h
 have e1 : Int.tdiv c 16 = c / 16 := Int.tdiv_eq_ediv_of_nonneg h0
 have e2 : Int.tdiv (65535 - c) 16 = (65535 - c) / 16 := Int.tdiv_eq_ediv_of_nonneg (by omega)
 rcases hb with rfl | rfl
 ·go_enter Tryz.func57, Tryz.ntmps57
  go_wp2_with (go_at_call 109; refine (countMay_c _ _).mono ?_; rintro e w' ⟨rfl, hw⟩; have hw := hw.symm; subst hw; rw [hc])
  go_ret2
  exact ⟨rfl, rfl⟩
 ·go_enter Tryz.func57, Tryz.ntmps57
  go_wp2_with (go_at_call 109; refine (countMay_c _ _).mono ?_; rintro e w' ⟨rfl, hw⟩; have hw := hw.symm; subst hw; rw [hc])
  go_ret2
  exact ⟨rfl, rfl⟩
theorem countNext_may {c bit : Int} (h : countMay c = true) : countMay (countNext c bit) = true := by
 have h := of_decide_eq_true h
 unfold countNext countMay
 apply decide_eq_true
 split <;> omega
def bound (x a b : Int) : Int := mn (mx x a) b
theorem bound_c (x a b : Int) (w : World) : Calls Tryz.prog 112 #[.int .i64 x, .int .i64 a, .int .i64 b] w fun e w' => e = .returned (.int .i64 (bound x a b)) ∧ w' = w := by
 go_enter Tryz.func112, Tryz.ntmps112
 go_wp2
 all_goals
  go_ret
  exact ⟨rt1 (by unfold bound mn mx; (repeat' split) <;> omega), rfl⟩
theorem bound_in {x a b : Int} (h : a ≤ b) : a ≤ bound x a b ∧ bound x a b ≤ b := by
 unfold bound mn mx; (repeat' split) <;> omega
def T3 := Int × Int × Int
def T3.at (t : T3) (k : Nat) : Int := if k = 0 then t.1 else if k = 1 then t.2.1 else t.2.2
def T3.c (t : T3) : Array Value := #[.int .i64 (t.at 0), .int .i64 (t.at 1), .int .i64 (t.at 2)]
theorem T3.c_at (t : T3) {k : Nat} (h : k < 3) : t.c[k]? = some (.int .i64 (t.at k)) := by
 rcases show k = 0 ∨ k = 1 ∨ k = 2 by omega with rfl | rfl | rfl <;> rfl
def inR (m : Int) (x : Int) : Bool := decide (-m ≤ x ∧ x ≤ m)
def all3 (m : Int) (t : T3) : Bool := inR m (t.at 0) && inR m (t.at 1) && inR m (t.at 2)
theorem all3_iff {m : Int} {t : T3} : all3 m t = true ↔ ∀ k, k < 3 → inR m (t.at k) = true := by
 unfold all3
 rw [Bool.and_eq_true, Bool.and_eq_true]
 refine ⟨fun h k hk => ?_, fun h => ⟨⟨h 0 (by omega), h 1 (by omega)⟩, h 2 (by omega)⟩⟩
 rcases show k = 0 ∨ k = 1 ∨ k = 2 by omega with rfl | rfl | rfl
 ·exact h.1.1
 ·exact h.1.2
 ·exact h.2
theorem weights_c (g o : Nat) (t : T3) (w : World) (h : ∀ k, k < 3 → w.cell? ⟨g, o + k, none⟩ = some (.int .i64 (t.at k))) : Calls Tryz.prog 110 #[.pointer (some ⟨g, o, none⟩)] w fun e w' => e = .returned (.bool (all3 1048576 t)) ∧ w' = w := by
 have H := Lib.hid h
 clear h
 go_enter Tryz.func110, Tryz.ntmps110
 go_wp2_with fail
 go_loop [6] (fun i => ∃ k : Nat, k ≤ 3 ∧ i = .int .i64 k ∧ ∀ j, j < k → inR 1048576 (t.at j) = true) (fun i => 3 - (intOf i).toNat)
 case atStart => exact ⟨0, by omega, rfl, fun j hj => by omega⟩
 case round =>
  obtain ⟨k, hk, rfl, hok⟩ := hrel
  have Hok := Lib.hid hok; clear hok
  by_cases hlt : k < 3
  ·have c1 := H.out k hlt
   obtain ⟨x, hx⟩ : ∃ x, x = t.at k := ⟨_, rfl⟩
   rw [← hx] at c1
   have Hx := Lib.hid hx
   clear hx
   by_cases a1 : x < -1048576
   ·have hno : all3 1048576 t = false := Bool.eq_false_iff.2 (fun h => by have := of_decide_eq_true (all3_iff.1 h k hlt); rw [← Hx.out] at this; omega)
    have Hno := Lib.hid hno
    clear hno
    have d1 : decide (x < -1048576) = true := decide_eq_true a1
    go_wp2_with fail
    go_ret
    exact ⟨by rw [Hno.out]; rfl, rfl⟩
   ·have d1 : decide (x < -1048576) = false := decide_eq_false a1
    by_cases a2 : 1048576 < x
    ·have hno : all3 1048576 t = false := Bool.eq_false_iff.2 (fun h => by have := of_decide_eq_true (all3_iff.1 h k hlt); rw [← Hx.out] at this; omega)
     have Hno := Lib.hid hno
     clear hno
     have d2 : decide (x > 1048576) = true := decide_eq_true a2
     go_wp2_with fail
     go_ret
     exact ⟨by rw [Hno.out]; rfl, rfl⟩
    ·have d2 : decide (x > 1048576) = false := decide_eq_false a2
     go_wp2_with fail
     go_round
     case rel =>
      refine ⟨k + 1, by omega, by go_num, fun j hj => ?_⟩
      by_cases hjk : j = k
      ·rw [hjk, ← Hx.out]; exact decide_eq_true (by omega)
      ·exact Hok.out j (by omega)
     case measure => simp [intOf]; omega
  ·have hyes := Lib.hid (all3_iff.2 (fun j hj => Hok.out j (by omega)))
   go_wp2_with fail
   go_ret
   exact ⟨by rw [hyes.out]; rfl, rfl⟩
end Go.Proofs.YtnoibcdojfnicaaGreatDoor.PTp
namespace Go.Proofs.YtnoibcdojfnicaaGreatDoor.LaidRow
open Go.Proofs.YtnoibcdojfnicaaGreatDoorW.Short
open Bool renaming true → Y, false → J
open Go Go.ChangeShapes Go.WideShapes Go.ChangeAt Go.RowKit
theorem own : ownKnob Tryz.prog.godebug = none := by kernel_rfl
theorem g64 : Tryz.prog.globalNamed "math/bits.deBruijn64tab" = some 3 := by kernel_rfl
theorem gst : Tryz.prog.globalNamed "descant/stretch.table" = some 0 := by kernel_rfl
theorem tst : (Tryz.prog.globals[(0 : Nat)]?).map (·.type) = some 203 := by kernel_rfl
theorem t64 : (Tryz.prog.globals[(3 : Nat)]?).map (·.type) = some 229 := by kernel_rfl
abbrev laidL : List (String × DataW Unit) := [("math/bits.deBruijn32tab", Rows.laid_math_bits_deBruijn32tab), ("math/bits.deBruijn64tab", Rows.laid_math_bits_deBruijn64tab), ("descant/stretch.table", Rows.laid_descant_stretch_table)]
theorem door_met (os : Os) (args : Array Value) : laidMetH Tryz.prog laidL ((World.doorLaid Tryz.prog 200 os).forCall (fun _ _ => 0) ⟨#[], args, []⟩).memory :=
 laidMetH_of_parts3 (fuel := 8) (laidMet_of_run' 8 kr kr) kr kr
theorem tab64 : (Rows.laid_math_bits_deBruijn64tab : DataW Unit) = .agg ((List.range 64).map fun j => .lit (.int .u8 (Lib.deBruijn64tab.getD j 0))) := by rfl
theorem tabSt : (Rows.laid_descant_stretch_table : DataW Unit) = .agg ((List.range 33).map fun j => .lit (.int .i64 (Extra.sqTab.getD j 0))) := by rfl
theorem of_laid {W : World} (h : laidMetH Tryz.prog laidL W) : Extra.Laid W := by
 rw [MakeChecks.laidMetH_plain _ _ _ kr] at h
 obtain ⟨ps, ⟨g0, t0, cs0, f0, p0, q0, hg0, ht0, hv0, hd0, ⟨g1, t1, cs1, f1, p1, q1, hg1, ht1, hv1, hd1, ⟨g2, t2, cs2, f2, p2, q2, hg2, ht2, hv2, hd2, _, _⟩, _⟩, _⟩, _, _⟩ := h
 constructor
 ·obtain rfl := Option.some.inj (gst.symm.trans hg2)
  obtain rfl := Option.some.inj (tst.symm.trans ht2)
  obtain ⟨xs, m1, rfl, hx1, hlen, hn, hel⟩ := DataW.trod_array Tryz.underlying203 hd2
  have c5 : Tryz.prog.cellsOf 3 = 1 := by kernel_rfl
  rw [tabSt] at hx1
  simp only [Prod.mk.injEq, DataW.agg.injEq] at hx1
  obtain ⟨hx1, -⟩ := hx1
  intro j hj
  have h0 := hel j hj
  rw [c5, Nat.mul_one] at h0
  rw [List.getElem?_eq_getElem (show j < xs.length by omega)] at h0
  obtain ⟨k, e1, e2, _⟩ := DataW.trod_int Tryz.underlying3 h0
  have hk : (xs.map (·.1))[j]? = some (.lit (.int .i64 (Extra.sqTab.getD j 0))) := by
   rw [← hx1, List.getElem?_map, List.getElem?_range hj]; rfl
  rw [List.getElem?_map, List.getElem?_eq_getElem (show j < xs.length by omega), Option.map_some, e2] at hk
  have hk2 : k = Extra.sqTab.getD j 0 := by simpa using hk
  have hc : cs2.toList[j]? = some (.int .i64 k) := by
   have : ((cs2.toList.drop j).take 1)[0]? = some (.int .i64 k) := by rw [e1]; rfl
   rwa [List.getElem?_take, if_pos (by decide), List.getElem?_drop, Nat.add_zero] at this
  rw [World.var?_cell hg2 hv2 j, ← hk2]
  rw [Array.getElem?_toList] at hc
  exact hc
 ·obtain rfl := Option.some.inj (g64.symm.trans hg1)
  obtain rfl := Option.some.inj (t64.symm.trans ht1)
  obtain ⟨xs, m1, rfl, hx1, hlen, hn, hel⟩ := DataW.trod_array Tryz.underlying229 hd1
  have c5 : Tryz.prog.cellsOf 5 = 1 := by kernel_rfl
  rw [tab64] at hx1
  simp only [Prod.mk.injEq, DataW.agg.injEq] at hx1
  obtain ⟨hx1, -⟩ := hx1
  intro j hj
  have h0 := hel j hj
  rw [c5, Nat.mul_one] at h0
  rw [List.getElem?_eq_getElem (show j < xs.length by omega)] at h0
  obtain ⟨k, e1, e2, _⟩ := DataW.trod_int Tryz.underlying5 h0
  have hk : (xs.map (·.1))[j]? = some (.lit (.int .u8 (Lib.deBruijn64tab.getD j 0))) := by
   rw [← hx1, List.getElem?_map, List.getElem?_range hj]; rfl
  rw [List.getElem?_map, List.getElem?_eq_getElem (show j < xs.length by omega), Option.map_some, e2] at hk
  have hk2 : k = (Lib.deBruijn64tab.getD j 0 : Int) := by simpa using hk
  have hc : cs1.toList[j]? = some (.int .u8 k) := by
   have : ((cs1.toList.drop j).take 1)[0]? = some (.int .u8 k) := by rw [e1]; rfl
   rwa [List.getElem?_take, if_pos (by decide), List.getElem?_drop, Nat.add_zero] at this
  rw [World.var?_cell hg1 hv1 j, ← hk2]
  rw [Array.getElem?_toList] at hc
  exact hc
end Go.Proofs.YtnoibcdojfnicaaGreatDoor.LaidRow
namespace Go.Proofs.YtnoibcdojfnicaaGreatDoor.Row
open Go.Proofs.YtnoibcdojfnicaaGreatDoorW.Short
open Bool renaming true → Y, false → J
open Go Go.ChangeShapes Go.WideShapes
variable {P : Program} {w : World} {r : Reach} {base : Nat}
theorem cell_int {t : TypeId} {k : IntKind} {v : Value} (ht : P.underlying t = some (.int k)) (h : Cell.okWide P w r base t v) : ∃ n, v = .int k n ∧ k.has n := by
 unfold Cell.okWide at h
 rw [ht] at h
 cases v <;> simp [Cell.ok, ht] at h
 obtain ⟨rfl, h⟩ := h
 exact ⟨_, rfl, h⟩
theorem list_ints {k : IntKind} : ∀ l : List Value, (∀ v ∈ l, ∃ n, v = .int k n ∧ k.has n) → ∃ xs : List Int, l = xs.map (Value.int k) ∧ ∀ x ∈ xs, k.has x
 | [], _ => ⟨[], rfl, by simp⟩
 | v :: l, h => by
  obtain ⟨n, rfl, hn⟩ := h v (by simp)
  obtain ⟨xs, rfl, hx⟩ := list_ints l (fun v hv => h v (by simp [hv]))
  exact ⟨n :: xs, rfl, by intro x hx2; rcases List.mem_cons.1 hx2 with rfl | h2; exact hn; exact hx x h2⟩
theorem open_ints {T t : TypeId} {k : IntKind} {fs : Array Field} {n : Nat} {v : Value} (hu : P.underlying T = some (.struct fs)) (hct : P.cellTypes P.depth T = some (List.replicate n t)) (hC : P.cellsOf T = n)
  (ht : P.underlying t = some (.int k)) (hv : Value.okWide P w r base T v) : ∃ xs : List Int, xs.length = n ∧ v = .agg (xs.map (Value.int k)).toArray ∧ ∀ x ∈ xs, k.has x := by
 unfold Value.okWide at hv
 rw [hu] at hv
 obtain ⟨cs, rfl, hsz, ts, hts, _, hall⟩ := hv
 rw [hct] at hts
 obtain rfl := Option.some.inj hts
 have h : ∀ v ∈ cs.toList, ∃ n, v = .int k n ∧ k.has n := by
  intro v hv
  obtain ⟨i, hi, rfl⟩ := List.getElem_of_mem hv
  obtain ⟨u, hu2, hc⟩ := hall i cs.toList[i] (by simp)
  rw [List.getElem?_replicate] at hu2
  split at hu2
  ·obtain rfl := Option.some.inj hu2
   exact cell_int ht hc
  ·cases hu2
 obtain ⟨xs, hx, hh⟩ := list_ints _ h
 refine ⟨xs, ?_, ?_, hh⟩
 ·have := congrArg List.length hx
  rw [List.length_map, Array.length_toList, hsz, hC] at this
  exact this.symm
 ·congr 1
  rw [← hx]
theorem list2 {α : Type} {l : List α} (h : l.length = 2) : ∃ a b, l = [a, b] := by
 match l, h with
 | [a, b], _ => exact ⟨a, b, rfl⟩
end Go.Proofs.YtnoibcdojfnicaaGreatDoor.Row
namespace Go.Proofs.YtnoibcdojfnicaaGreatDoor.PG
open Go.Proofs.YtnoibcdojfnicaaGreatDoorW.Short
open Bool renaming true → Y, false → J
open Go.RowKit Go.Proofs.YtnoibcdojfnicaaGreatDoorW.PrintWords Go.Proofs.YtnoibcdojfnicaaGreatDoorW.PrintLast Go.Proofs.YtnoibcdojfnicaaGreatDoorW.PrintMore
attribute [local go_sem] max2_int min2_int max_two min_two max_three min_three max_four min_four
def errW : Option Int → Value
  | none => .nilIface
  | some c => .iface 0 (.int .i64 c)
theorem errW_none : errW none = .nilIface := rfl
theorem errW_some (c : Int) : errW (some c) = .iface 0 (.int .i64 c) := rfl
theorem info3 : (Tryz.prog.info? 3).map (fun i => (i.zero, i.size, i.bytes)) = some (some (.int .i64 0), 1, 8) := by kernel_rfl
theorem info5 : (Tryz.prog.info? 5).map (fun i => (i.zero, i.size, i.bytes)) = some (some (.int .u8 0), 1, 1) := by kernel_rfl
theorem info22 : (Tryz.prog.info? 22).map (fun i => (i.zero, i.size, i.bytes)) = some (some (.slice none 0 0), 1, 24) := by kernel_rfl
theorem info151 : (Tryz.prog.info? 151).map (fun i => (i.zero, i.size, i.bytes)) = some (some (.agg #[(.string ⟨#[]⟩), (.int .i64 0), (.int .i64 0)]), 3, 32) := by kernel_rfl
def rd_L1 (xs : List (List Int)) (i : Int) : (List Int) := xs.getD i.toNat ([] : List Int)
theorem at_L1 {w : World} {A : Option Addr} {n : Nat} {xs : List (List Int)} (h : Kd.C (Kd.slice 3 (Kd.int .i64)) w A n xs) (i : Int) (h0 : 0 ≤ i) (h1 : i < n) : ∃ ad A0 c0, A = some ad ∧ w.cell? (ad.add i.toNat) = some (.slice A0 (rd_L1 xs i).length c0) ∧ (rd_L1 xs i).length ≤ c0 ∧ (Kd.int .i64).C w A0 (rd_L1 xs i).length (rd_L1 xs i) := by
  obtain ⟨ad, c, e, _, hK, hc0⟩ := Kd.C_get h ([] : List Int) i h0 h1
  have hc : ∀ j u, c[j]? = some u → w.cell? (ad.add (i.toNat * 1 + j)) = some u := hc0
  obtain ⟨A0, c0, rfl, l0, g0⟩ := hK
  exact ⟨ad, A0, c0, e, b68_, l0, g0⟩
structure S151 where
  f0 : ByteArray
  f1 : Int
  f2 : Int
def z151 : S151 := ⟨(⟨#[]⟩ : ByteArray), (0 : Int), (0 : Int)⟩
def k151 : Kd S151 := Kd.iso (Kd.pair Kd.string (Kd.pair (Kd.int .i64) (Kd.int .i64))) (fun x : S151 => (x.f0, x.f1, x.f2))
theorem k151_open {w : World} {x : S151} {cs : List Value} (h : k151.K w x cs) : cs = [.string x.f0, .int .i64 x.f1, .int .i64 x.f2] := by
  obtain ⟨_, _, rfl, rfl, ⟨_, _, rfl, rfl, rfl⟩⟩ := h
  exact rfl
theorem k151_mkM (w : World) (base : Nat) (ok : Nat → Prop) (x : S151)  : k151.M w base ok x [.string x.f0, .int .i64 x.f1, .int .i64 x.f2] := ⟨[.string x.f0], [.int .i64 x.f1, .int .i64 x.f2], rfl, rfl, ⟨[.int .i64 x.f1], [.int .i64 x.f2], rfl, rfl, rfl⟩⟩
def rd_T151 (xs : List S151) (i : Int) : S151 := xs.getD i.toNat z151
theorem at_T151 {w : World} {A : Option Addr} {n : Nat} {xs : List S151} (h : Kd.C k151 w A n xs) (i : Int) (h0 : 0 ≤ i) (h1 : i < n) : ∃ ad , A = some ad ∧ w.cell? (ad.add (i.toNat * 3)) = some (.string (rd_T151 xs i).f0) ∧ w.cell? ⟨(ad.add (i.toNat * 3)).block, (ad.add (i.toNat * 3)).off + 1, none⟩ = some (.int .i64 (rd_T151 xs i).f1) ∧ w.cell? ⟨(ad.add (i.toNat * 3)).block, (ad.add (i.toNat * 3)).off + 2, none⟩ = some (.int .i64 (rd_T151 xs i).f2) := by
  obtain ⟨ad, c, e, _, hK, hc0⟩ := Kd.C_get h z151 i h0 h1
  have hc : ∀ j u, c[j]? = some u → w.cell? (ad.add (i.toNat * 3 + j)) = some u := hc0
  obtain rfl := k151_open hK
  exact ⟨ad, e, hc 0 _ rfl, b71_, b72_⟩
end Go.Proofs.YtnoibcdojfnicaaGreatDoor.PG
