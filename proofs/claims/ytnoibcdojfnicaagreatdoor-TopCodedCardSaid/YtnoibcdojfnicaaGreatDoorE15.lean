/- A part of the proof of a law of descanttop: this session's own texts and printed texts, shortened and joined. -/
import Derived.Test.YtnoibcdojfnicaaGreatDoorE4
set_option linter.unusedVariables false
set_option linter.unusedSimpArgs false
set_option maxRecDepth 100000
set_option maxHeartbeats 16000000
namespace Go.Proofs.YtnoibcdojfnicaaGreatDoor.PTp
open Go.Proofs.YtnoibcdojfnicaaGreatDoorW.Short
open Bool renaming true → Y, false → J
open Go Go.RowKit Go.Proofs.YtnoibcdojfnicaaGreatDoorW.PrintWords Go.Proofs.YtnoibcdojfnicaaGreatDoorW.PrintMore Go.Proofs.YtnoibcdojfnicaaGreatDoorW.PrintLast
attribute [-go_sem] Instr.loadAt Instr.storeAt Instr.build
theorem load_int (v : Value) : Instr.loadAt 3 v = (do loadVar 3 (← Instr.sureAddr v)) := rfl
theorem store_int (v u : Value) : Instr.storeAt 3 v u = (do storeVar 3 (← Instr.sureAddr v) u) := rfl
attribute [local go_sem] load_int store_int
theorem inputs_c (g o : Nat) (t : T3) (w : World) (h : ∀ k, k < 3 → w.cell? ⟨g, o + k, none⟩ = some (.int .i64 (t.at k))) : Calls Tryz.prog 111 #[.pointer (some ⟨g, o, none⟩)] w fun e w' => e = .returned (.bool (all3 2047 t)) ∧ w' = w := by
 have H := Lib.hid h
 clear h
 go_enter Tryz.func111, Tryz.ntmps111
 go_wp2_with fail
 go_loop [6] (fun i => ∃ k : Nat, k ≤ 3 ∧ i = .int .i64 k ∧ ∀ j, j < k → inR 2047 (t.at j) = true) (fun i => 3 - (intOf i).toNat)
 case atStart => exact ⟨0, by omega, rfl, fun j hj => by omega⟩
 case round =>
  obtain ⟨k, hk, rfl, hok⟩ := hrel
  have Hok := Lib.hid hok; clear hok
  by_cases hlt : k < 3
  ·have c1 := H.out k hlt
   obtain ⟨x, hx⟩ : ∃ x, x = t.at k := ⟨_, rfl⟩
   rw [← hx] at c1
   have Hx := Lib.hid hx
   clear hx
   by_cases a1 : x < -2047
   ·have hno : all3 2047 t = false := Bool.eq_false_iff.2 (fun h => by have := of_decide_eq_true (all3_iff.1 h k hlt); rw [← Hx.out] at this; omega)
    have Hno := Lib.hid hno
    clear hno
    have d1 : decide (x < -2047) = true := decide_eq_true a1
    go_wp2_with fail
    go_ret
    exact ⟨by rw [Hno.out]; rfl, rfl⟩
   ·have d1 : decide (x < -2047) = false := decide_eq_false a1
    by_cases a2 : 2047 < x
    ·have hno : all3 2047 t = false := Bool.eq_false_iff.2 (fun h => by have := of_decide_eq_true (all3_iff.1 h k hlt); rw [← Hx.out] at this; omega)
     have Hno := Lib.hid hno
     clear hno
     have d2 : decide (x > 2047) = true := decide_eq_true a2
     go_wp2_with fail
     go_ret
     exact ⟨by rw [Hno.out]; rfl, rfl⟩
    ·have d2 : decide (x > 2047) = false := decide_eq_false a2
     go_wp2_with fail
     go_round
     case rel =>
      refine ⟨k + 1, by omega, by go_num, fun j hj => ?_⟩
      by_cases hjk : j = k
      ·rw [hjk, ← Hx.out]; exact decide_eq_true (by omega)
      ·exact Hok.out j (by omega)
     case measure => simp [intOf]; omega
  ·have hyes := Lib.hid (all3_iff.2 (fun j hj => Hok.out j (by omega)))
   go_wp2_with fail
   go_ret
   exact ⟨by rw [hyes.out]; rfl, rfl⟩
theorem t3_one (t : T3) : t.c.all (·.oneCell') = true := by simp [T3.c, Value.oneCell']
def dotSum (t u : T3) : Nat → Int
 | 0 => 0
 | k + 1 => dotSum t u k + t.at k * u.at k
def dotF (t u : T3) : Int := bound (squash (dotSum t u 3 / 65536)) 1 4095
theorem mul_in {a b m n : Int} (ha : -m ≤ a ∧ a ≤ m) (hb : -n ≤ b ∧ b ≤ n) (hm : 0 ≤ m) (hn : 0 ≤ n) : -(m * n) ≤ a * b ∧ a * b ≤ m * n := by
 have h1 : a.natAbs ≤ m.toNat := by omega
 have h2 : b.natAbs ≤ n.toNat := by omega
 have h3 := Nat.mul_le_mul h1 h2
 rw [← Int.natAbs_mul] at h3
 have h4 : ((m.toNat * n.toNat : Nat) : Int) = m * n := by rw [Int.natCast_mul, Int.toNat_of_nonneg hm, Int.toNat_of_nonneg hn]
 omega
theorem dot_in {t u : T3} (ht : all3 1048576 t = true) (hu : all3 2047 u = true) : ∀ k : Nat, k ≤ 3 → -(2146435072 * (k : Int)) ≤ dotSum t u k ∧ dotSum t u k ≤ 2146435072 * (k : Int)
 | 0, _ => by simp [dotSum]
 | k + 1, h => by
  have a := dot_in ht hu k (by omega)
  have b := mul_in (of_decide_eq_true (all3_iff.1 ht k (by omega))) (of_decide_eq_true (all3_iff.1 hu k (by omega))) (by omega) (by omega)
  unfold dotSum
  omega
theorem t3_load {w : World} {g : Nat} {T : TypeId} {t : T3} {fr : Nat × Nat} (h : w.heap[g]? = some (.cells t.c T fr)) : (Instr.loadAt 26 (.pointer (some ⟨g, 0, none⟩))).run Tryz.prog w = .ok (.agg t.c) w :=
 Agg.load_all h 26 _ Tryz.underlying26 rfl kr
theorem t3_cells {w : World} {g : Nat} {T : TypeId} {t : T3} {fr : Nat × Nat} (h : w.heap[g]? = some (.cells t.c T fr)) : ∀ k, k < 3 → w.cell? ⟨g, 0 + k, none⟩ = some (.int .i64 (t.at k)) := fun k hk => by
 rw [Nat.zero_add]
 exact (cell_of_row w g k t.c T fr h).trans (t.c_at hk)
theorem dot_c (t u : T3) (w : World) (hT : Extra.Laid w) (ht : all3 1048576 t = true) (hu : all3 2047 u = true) : Calls Tryz.prog 48 #[.agg t.c, .agg u.c] w fun e w' => e = .returned (.tuple #[.int .i64 (dotF t u), .int .i64 0]) ∧ Below w.heap.size w w' := by
 have HT := Lib.hid hT
 clear hT
 have dI := Lib.hid (dot_in ht hu)
 have ht1 := Lib.hid (all3_iff.1 ht)
 have hu1 := Lib.hid (all3_iff.1 hu)
 go_enter Tryz.func48, Tryz.ntmps48
 go_wp2_with fail
 have B1 := Lib.hid (blk_alloc (blk_new w (.cells t.c 26)) (.cells u.c 26))
 have B2 := Lib.hid (blk_new (w.alloc (.cells t.c 26)) (.cells u.c 26))
 have HB := Lib.hid (below_alloc (below_alloc (Below.refl w.heap.size w) (.cells t.c 26)) (.cells u.c 26))
 rw [show (w.alloc (.cells t.c 26)).heap.size = w.heap.size + 1 by simp] at B2
 obtain ⟨n, hn⟩ : ∃ n, n = w.heap.size := ⟨_, rfl⟩
 rw [← hn] at B1 B2 ⊢
 generalize (w.alloc (.cells t.c 26)).alloc (.cells u.c 26) = w2 at B1 B2 HB ⊢
 clear hn
 refine (weights_c n 0 t w2 (t3_cells B1.out)).mono ?_
 rintro e w' ⟨rfl, rfl⟩
 rw [ht]
 have l1 := t3_load B1.out
 have l2 := t3_load B2.out
 have ic := Lib.hid (inputs_c (n + 1) 0 u w' (t3_cells B2.out))
 go_wp2_with (go_at_call 111; refine ic.out.mono ?_; rintro e w3 ⟨rfl, hw⟩; have hw := hw.symm; subst hw; rw [hu])
 go_loop [6, 16] (fun s i => ∃ k : Nat, k ≤ 3 ∧ i = .int .i64 k ∧ s = .int .i64 (dotSum t u k)) (fun _ i => 3 - (intOf i).toNat)
 case atStart => exact ⟨0, by omega, rfl, rfl⟩
 case round =>
  obtain ⟨k, hk, rfl, rfl⟩ := hrel
  by_cases hlt : k < 3
  ·have c1 := t.c_at hlt
   have i1 := Agg.idx3 t.c k hlt _ c1
   have c2 := t3_cells B2.out k hlt
   rw [Nat.zero_add] at c2
   have q1 := dI.out k (by omega)
   have q2 := dI.out (k + 1) (by omega)
   have q3 : -2146435072 ≤ t.at k * u.at k ∧ t.at k * u.at k ≤ 2146435072 := mul_in (m := 1048576) (n := 2047) (of_decide_eq_true (ht1.out k hlt)) (of_decide_eq_true (hu1.out k hlt)) (by omega) (by omega)
   have q4 : dotSum t u (k + 1) = dotSum t u k + t.at k * u.at k := rfl
   rw [q4] at q2
   have Q4 := Lib.hid q4
   clear q4
   obtain ⟨x, hx⟩ : ∃ x, x = t.at k := ⟨_, rfl⟩
   obtain ⟨y, hy⟩ : ∃ y, y = u.at k := ⟨_, rfl⟩
   obtain ⟨b, hb⟩ : ∃ b, b = dotSum t u k := ⟨_, rfl⟩
   rw [← hx] at i1 q2 q3 Q4
   rw [← hy] at c2 q2 q3 Q4
   rw [← hb] at q1 q2 Q4 ⊢
   have Hb := Lib.hid hb
   clear hx hy hb l1 l2 c1
   obtain ⟨q1, q5⟩ : -6439305216 ≤ b ∧ b ≤ 6439305216 := by omega
   obtain ⟨q3, q7⟩ : -2146435072 ≤ x * y ∧ x * y ≤ 2146435072 := by omega
   obtain ⟨z, hz⟩ : ∃ z, z = x * y := ⟨_, rfl⟩
   obtain ⟨q2, q6⟩ : -6439305216 ≤ b + x * y ∧ b + x * y ≤ 6439305216 := by rw [← hz] at q2 ⊢; omega
   clear hz
   go_wp2_with fail
   go_round
   case rel => exact ⟨k + 1, by omega, by go_num, by rw [Q4.out]⟩
   case measure => simp [intOf]; omega
  ·obtain rfl : k = 3 := by omega
   have q1 := dI.out 3 (by omega)
   obtain ⟨b, hb⟩ : ∃ b, b = dotSum t u 3 := ⟨_, rfl⟩
   rw [← hb] at q1 ⊢
   have Hb := Lib.hid hb
   clear hb l1 l2
   go_wp2_with fail
   refine (squash_c _ w' ((HT.out).below_ ?_)).mono ?_
   ·exact HB.out
   rintro e w3 ⟨rfl, hd⟩
   go_wp2_with (go_at_call 112; refine (bound_c _ _ _ _).mono ?_; rintro e w' ⟨rfl, hw⟩; have hw := hw.symm; subst hw)
   go_ret2
   exact ⟨by unfold dotF; rw [← Hb.out]; rfl, below_step HB.out hd.below⟩
def T3.ofFn (f : Nat → Int) : T3 := (f 0, f 1, f 2)
theorem T3.ofFn_at (f : Nat → Int) {k : Nat} (h : k < 3) : (T3.ofFn f).at k = f k := by
 rcases show k = 0 ∨ k = 1 ∨ k = 2 by omega with rfl | rfl | rfl <;> rfl
theorem T3.ofFn_self (t : T3) : T3.ofFn t.at = t := rfl
theorem T3.ofFn_ext {f g : Nat → Int} (h : ∀ k, k < 3 → f k = g k) : T3.ofFn f = T3.ofFn g := by
 unfold T3.ofFn; rw [h 0 (by decide), h 1 (by decide), h 2 (by decide)]
theorem T3.ofFn_set (f : Nat → Int) {k : Nat} (h : k < 3) (v : Int) : (T3.ofFn f).c.setIfInBounds k (.int .i64 v) = (T3.ofFn fun j => if j = k then v else f j).c := by
 rcases show k = 0 ∨ k = 1 ∨ k = 2 by omega with rfl | rfl | rfl <;> rfl
def newAt (t u : T3) (off : Int) (k : Nat) : Int := bound (t.at k + (u.at k * off + 512) / 1024) (-1048576) 1048576
def trainF (t u : T3) (bit : Int) : T3 := T3.ofFn (newAt t u (4096 * bit - dotF t u))
theorem train_in (t u : T3) (bit : Int) : all3 1048576 (trainF t u bit) = true := all3_iff.2 (fun k hk => by
 unfold trainF
 rw [T3.ofFn_at _ hk]
 have := bound_in (x := t.at k + (u.at k * (4096 * bit - dotF t u) + 512) / 1024) (show (-1048576 : Int) ≤ 1048576 by decide)
 exact decide_eq_true this)
theorem t3_store {w : World} {g : Nat} {T : TypeId} {t : T3} (h : w.heap[g]? = some (.cells t.c T (0, 0))) (u : T3) : (Instr.storeAt 26 (.pointer (some ⟨g, 0, none⟩)) (.agg u.c)).run Tryz.prog w = .ok () (w.setRow g u.c) :=
 Agg.store_all h 26 u.c kr rfl (t3_one u)
theorem dot_range (t u : T3) : 1 ≤ dotF t u ∧ dotF t u ≤ 4095 := bound_in (by decide)
theorem train_c (t u : T3) (bit : Int) (w : World) (hT : Extra.Laid w) (ht : all3 1048576 t = true) (hu : all3 2047 u = true) (hb : bit = 0 ∨ bit = 1) : Calls Tryz.prog 55 #[.agg t.c, .agg u.c, .int .i64 bit] w fun e w' => e = .returned (.tuple #[.agg (trainF t u bit).c, .int .i64 0]) ∧ Below w.heap.size w w' := by
 have HT := Lib.hid hT
 clear hT
 have ht1 := Lib.hid (all3_iff.1 ht)
 have hu1 := Lib.hid (all3_iff.1 hu)
 have dr := dot_range t u
 go_enter Tryz.func55, Tryz.ntmps55
 have B1 := Lib.hid (blk_alloc (blk_alloc (blk_new w (.cells t.c 26)) (.cells u.c 26)) (.cells #[.int .i64 0, .int .i64 0, .int .i64 0] 26))
 have B2 := Lib.hid (blk_alloc (blk_new (w.alloc (.cells t.c 26)) (.cells u.c 26)) (.cells #[.int .i64 0, .int .i64 0, .int .i64 0] 26))
 have B3 := Lib.hid (blk_new ((w.alloc (.cells t.c 26)).alloc (.cells u.c 26)) (.cells #[.int .i64 0, .int .i64 0, .int .i64 0] 26))
 have HB := Lib.hid (below_alloc (below_alloc (below_alloc (Below.refl w.heap.size w) (.cells t.c 26)) (.cells u.c 26)) (.cells #[.int .i64 0, .int .i64 0, .int .i64 0] 26))
 have l1 := t3_load B1.out
 have l2 := t3_load B2.out
 rw [show (w.alloc (.cells t.c 26)).heap.size = w.heap.size + 1 by simp] at B2 l2
 rw [show ((w.alloc (.cells t.c 26)).alloc (.cells u.c 26)).heap.size = w.heap.size + 2 by simp] at B3
 go_wp2_with fail
 refine (dot_c t u _ (HT.out.below_ HB.out) ht hu).mono ?_
 rintro e w2 ⟨rfl, hb2⟩
 have C1 := Lib.hid (blk_below B1.out hb2)
 have C2 := Lib.hid (blk_below B2.out hb2)
 have C3 := Lib.hid (show w2.heap[w.heap.size + 2]? = some (.cells (T3.ofFn fun _ => 0).c 26 (0, 0)) from blk_below B3.out hb2)
 have HC := Lib.hid (below_step HB.out hb2)
 clear hb2 B1 B2 B3 HB l1 l2
 obtain ⟨n, hn⟩ : ∃ n, n = w.heap.size := ⟨_, rfl⟩
 have hwn : w.heap.size ≤ n := by omega
 rw [← hn] at C1 C2 C3 ⊢
 clear hn
 obtain ⟨p, hp⟩ : ∃ p, p = dotF t u := ⟨_, rfl⟩
 rw [← hp] at dr ⊢
 obtain ⟨off, hoff⟩ : ∃ off, off = 4096 * bit - p := ⟨_, rfl⟩
 have Hoff := Lib.hid (show trainF t u bit = T3.ofFn (newAt t u off) by unfold trainF; rw [← hp, ← hoff])
 have hoff2 : 4096 * bit - p = off := hoff.symm
 have ho : -4095 ≤ off ∧ off ≤ 4095 := by rcases hb with rfl | rfl <;> omega
 obtain ⟨dr1, dr2⟩ := dr
 have hb0 : 0 ≤ bit ∧ bit ≤ 1 := by omega
 obtain ⟨hb0, hb1⟩ := hb0
 have d0 : decide (bit < 0) = false := decide_eq_false (by omega)
 have d1 : decide (bit > 1) = false := decide_eq_false (by omega)
 have l2 := t3_load C2.out
 clear hp hoff hb
 go_wp2_with fail
 clear hoff2 l2
 go_loopw [35] (fun i wr => ∃ k : Nat, k ≤ 3 ∧ i = .int .i64 k ∧ Hid (wr.heap[n]? = some (.cells (T3.ofFn fun j => if j < k then newAt t u off j else t.at j).c 26 (0, 0))) ∧ Hid (wr.heap[n + 2]? = some (.cells (T3.ofFn fun _ => 0).c 26 (0, 0))) ∧ Hid (Below w.heap.size w wr)) (fun i _ => 3 - (intOf i).toNat)
 case atStart => exact ⟨0, by omega, rfl, C1, C3, HC⟩
 case round =>
  obtain ⟨k, hk, rfl, b1, b3, hB⟩ := hrel
  by_cases hlt : k < 3
  ·have i1 := Agg.idx3 u.c k hlt _ (u.c_at hlt)
   have c1 := (blk_cell b1.out k).trans (T3.c_at _ hlt)
   rw [T3.ofFn_at _ hlt, if_neg (by omega)] at c1
   have f1 := blk_frozen b1.out k
   have r1 := of_decide_eq_true (ht1.out k hlt)
   have r2 := of_decide_eq_true (hu1.out k hlt)
   have q3 := mul_in r2 ho (by omega) (by omega)
   have V := Lib.hid (show newAt t u off k = bound (t.at k + (u.at k * off + 512) / 1024) (-1048576) 1048576 from rfl)
   obtain ⟨x, hx⟩ : ∃ x, x = t.at k := ⟨_, rfl⟩
   obtain ⟨y, hy⟩ : ∃ y, y = u.at k := ⟨_, rfl⟩
   rw [← hx] at c1 r1 V
   rw [← hy] at i1 r2 q3 V
   clear hx hy
   obtain ⟨z, hz⟩ : ∃ z, z = y * off := ⟨_, rfl⟩
   obtain ⟨q1, q2⟩ : -10000000 ≤ y * off ∧ y * off ≤ 10000000 := by omega
   obtain ⟨r1, r3⟩ := r1
   obtain ⟨v, hv⟩ : ∃ v, v = bound (x + (y * off + 512) / 1024) (-1048576) 1048576 := ⟨_, rfl⟩
   rw [← hv] at V
   have HV := Lib.hid hv
   clear hv hz
   have z1 : n < wr.heap.size := blk_lt b1.out
   go_wp2_with (go_at_call 112; refine (bound_c _ _ _ _).mono ?_; rintro e w' ⟨rfl, hw⟩; have hw := hw.symm; subst hw; rw [← HV.out])
   go_roundw
   case rel => exact ⟨k + 1, by omega, by go_num, Lib.hid ((blk_set b1.out k _).trans (by
     rw [T3.ofFn_set _ hlt, T3.ofFn_ext (g := fun j => if j < k + 1 then newAt t u off j else t.at j) (fun j _ => ?_)]
     by_cases h : j = k
     ·subst h; rw [if_pos rfl, if_pos (by omega), V.out]
     ·rw [if_neg h]
      by_cases h2 : j < k
      ·rw [if_pos h2, if_pos (by omega)]
      ·rw [if_neg h2, if_neg (by omega)])), Lib.hid (blk_far b3.out (by simp) _), Lib.hid (hB.out.setCell hwn _)⟩
   case measure => simp [intOf]; omega
  ·obtain rfl : k = 3 := by omega
   have e1 : wr.heap[n]? = some (.cells (trainF t u bit).c 26 (0, 0)) := b1.out.trans (by rw [Hoff.out, T3.ofFn_ext (fun j hj => if_pos hj)])
   have l1 := t3_load e1
   have s1 := t3_store b3.out (trainF t u bit)
   have E1 := Lib.hid e1
   clear e1
   go_wp2_with fail
   exact bodyPost_ret (results_ct rfl _ _ (n + 2) 26 (trainF t u bit).c (0, 0) _ rfl (Agg.blk_row b3.out _) Tryz.underlying26 rfl kr) rfl ⟨rfl, Agg.below_row hB.out (by omega) _⟩
def inCtx (x : Int) : Bool := decide (0 ≤ x ∧ x < 64)
def there3 (t : T3) : Bool := inCtx (t.at 0) && inCtx (t.at 1) && inCtx (t.at 2)
theorem there3_iff {t : T3} : there3 t = true ↔ ∀ k, k < 3 → inCtx (t.at k) = true := by
 unfold there3
 rw [Bool.and_eq_true, Bool.and_eq_true]
 refine ⟨fun h k hk => ?_, fun h => ⟨⟨h 0 (by omega), h 1 (by omega)⟩, h 2 (by omega)⟩⟩
 rcases show k = 0 ∨ k = 1 ∨ k = 2 by omega with rfl | rfl | rfl
 ·exact h.1.1
 ·exact h.1.2
 ·exact h.2
theorem there_c (g o : Nat) (t : T3) (w : World) (h : ∀ k, k < 3 → w.cell? ⟨g, o + k, none⟩ = some (.int .i64 (t.at k))) : Calls Tryz.prog 47 #[.pointer (some ⟨g, o, none⟩)] w fun e w' => e = .returned (.bool (there3 t)) ∧ w' = w := by
 have H := Lib.hid h
 clear h
 go_enter Tryz.func47, Tryz.ntmps47
 go_wp2_with fail
 go_loop [6] (fun i => ∃ k : Nat, k ≤ 3 ∧ i = .int .i64 k ∧ ∀ j, j < k → inCtx (t.at j) = true) (fun i => 3 - (intOf i).toNat)
 case atStart => exact ⟨0, by omega, rfl, fun j hj => by omega⟩
 case round =>
  obtain ⟨k, hk, rfl, hok⟩ := hrel
  have Hok := Lib.hid hok; clear hok
  by_cases hlt : k < 3
  ·have c1 := H.out k hlt
   obtain ⟨x, hx⟩ : ∃ x, x = t.at k := ⟨_, rfl⟩
   rw [← hx] at c1
   have Hx := Lib.hid hx
   clear hx
   by_cases a1 : x < 0
   ·have hno : there3 t = false := Bool.eq_false_iff.2 (fun h => by have := of_decide_eq_true (there3_iff.1 h k hlt); rw [← Hx.out] at this; omega)
    have Hno := Lib.hid hno
    clear hno
    have d1 : decide (x < 0) = true := decide_eq_true a1
    go_wp2_with fail
    go_ret
    exact ⟨by rw [Hno.out]; rfl, rfl⟩
   ·have d1 : decide (x < 0) = false := decide_eq_false a1
    by_cases a2 : 64 ≤ x
    ·have hno : there3 t = false := Bool.eq_false_iff.2 (fun h => by have := of_decide_eq_true (there3_iff.1 h k hlt); rw [← Hx.out] at this; omega)
     have Hno := Lib.hid hno
     clear hno
     have d2 : decide (x ≥ 64) = true := decide_eq_true a2
     go_wp2_with fail
     go_ret
     exact ⟨by rw [Hno.out]; rfl, rfl⟩
    ·have d2 : decide (x ≥ 64) = false := decide_eq_false a2
     go_wp2_with fail
     go_round
     case rel =>
      refine ⟨k + 1, by omega, by go_num, fun j hj => ?_⟩
      by_cases hjk : j = k
      ·rw [hjk, ← Hx.out]; exact decide_eq_true (by omega)
      ·exact Hok.out j (by omega)
     case measure => simp [intOf]; omega
  ·have hyes := Lib.hid (there3_iff.2 (fun j hj => Hok.out j (by omega)))
   go_wp2_with fail
   go_ret
   exact ⟨by rw [hyes.out]; rfl, rfl⟩
end Go.Proofs.YtnoibcdojfnicaaGreatDoor.PTp
