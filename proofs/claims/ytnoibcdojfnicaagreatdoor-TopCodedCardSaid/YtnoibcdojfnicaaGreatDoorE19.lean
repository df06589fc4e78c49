/- A part of the proof of a law of descanttop: this session's own texts and printed texts, shortened and joined. -/
import Derived.Test.YtnoibcdojfnicaaGreatDoorE18
set_option linter.unusedVariables false
set_option linter.unusedSimpArgs false
set_option maxRecDepth 100000
set_option maxHeartbeats 16000000
namespace Go.Proofs.YtnoibcdojfnicaaGreatDoor.PB
open Go.Proofs.YtnoibcdojfnicaaGreatDoorW.Short
open Bool renaming true → Y, false → J
open Go Go.RowKit Go.Proofs.YtnoibcdojfnicaaGreatDoorW.PrintWords Go.Proofs.YtnoibcdojfnicaaGreatDoorW.PrintMore Go.Proofs.YtnoibcdojfnicaaGreatDoorW.PrintLast
attribute [-go_sem] Instr.loadAt Instr.storeAt Instr.build
theorem cload_int (v : Value) : Instr.loadAt 3 v = (do loadVar 3 (← Instr.sureAddr v)) := rfl
theorem cstore_int (v u : Value) : Instr.storeAt 3 v u = (do storeVar 3 (← Instr.sureAddr v) u) := rfl
theorem cload_str (v : Value) : Instr.loadAt 9 v = (do loadVar 9 (← Instr.sureAddr v)) := rfl
theorem cstore_str (v u : Value) : Instr.storeAt 9 v u = (do storeVar 9 (← Instr.sureAddr v) u) := rfl
attribute [local go_sem] cload_int cstore_int cload_str cstore_str
def cBT : Bool × List (List Nat × List Nat) := (true, [([], []), ([0], [0]), ([1], [1]), ([], []), ([3], [3]), ([4, 2], [4]), ([0, 1, 2, 3, 4], []), ([6, 2, 5, 0, 1, 2, 3, 4], [2, 6]), ([0, 1, 2, 3, 4, 5, 6, 7], []), ([8, 5, 7, 0, 1, 2, 3, 4, 5, 6, 7], [5, 8])])
def cBB : List Nat := [0, 1, 3, 0, 8, 31, 31, 127, 255, 511]
theorem cB_tab : rtab .any (opsOf Tryz.f14 9) = cBT := by kernel_rfl
theorem cB_bits : waitsOk cBT.2 cBB = true := by kernel_rfl
def coC (lo hi : Int) (o : ByteArray) : Array Value := #[.int .i64 lo, .int .i64 hi, .string o]
theorem co_load {w : World} {g : Nat} {T : TypeId} {lo hi : Int} {o : ByteArray} {fr : Nat × Nat} (h : w.heap[g]? = some (.cells (coC lo hi o) T fr)) : (Instr.loadAt 31 (.pointer (some ⟨g, 0, none⟩))).run Tryz.prog w = .ok (.agg (coC lo hi o)) w :=
 Agg.load_all h 31 _ Tryz.underlying31 rfl kr
theorem co_store {w : World} {g : Nat} {T : TypeId} {lo hi lo' hi' : Int} {o o' : ByteArray} (h : w.heap[g]? = some (.cells (coC lo hi o) T (0, 0))) : (Instr.storeAt 31 (.pointer (some ⟨g, 0, none⟩)) (.agg (coC lo' hi' o'))).run Tryz.prog w = .ok () (w.setRow g (coC lo' hi' o')) :=
 Agg.store_all h 31 (coC lo' hi' o') kr rfl (by simp [coC, Value.oneCell'])
theorem co_build (w : World) : (Instr.build 31 #[]).run Tryz.prog w = .ok (.agg (coC 0 0 ⟨#[]⟩)) w := by kernel_rfl
theorem co_cells {w : World} {g : Nat} {T : TypeId} {lo hi : Int} {o : ByteArray} {fr : Nat × Nat} (h : w.heap[g]? = some (.cells (coC lo hi o) T fr)) : w.cell? ⟨g, 0, none⟩ = some (.int .i64 lo) ∧ w.cell? ⟨g, 1, none⟩ = some (.int .i64 hi) ∧ w.cell? ⟨g, 2, none⟩ = some (.string o) :=
 ⟨(cell_of_row w g 0 _ T fr h).trans rfl, (cell_of_row w g 1 _ T fr h).trans rfl, (cell_of_row w g 2 _ T fr h).trans rfl⟩
def coOk (lo hi : Int) (o : ByteArray) : Prop := 0 ≤ lo ∧ hi ≤ 4294967295 ∧ lo / 16777216 < hi / 16777216 ∧ o.size ≤ 65536
def midF (lo hi p : Int) : Int := lo + (hi - lo) / 4096 * p + (hi - lo) % 4096 * p / 4096
def upF (x b : Int) : Int := x * 256 % 4294967296 + b
def byteStr (x : Int) : ByteArray := strOfNums [x % 256]
def shiftF : Nat → Int → Int → ByteArray → Int × Int × ByteArray
 | 0, lo, hi, o => (lo, hi, o)
 | k + 1, lo, hi, o => if lo / 16777216 = hi / 16777216 then shiftF k (upF lo 0) (upF hi 255) (o ++ byteStr (lo / 16777216)) else (lo, hi, o)
def bitF (lo hi : Int) (o : ByteArray) (bit p : Int) : Int × Int × ByteArray :=
 if bit = 1 then shiftF 4 lo (midF lo hi p) o else shiftF 4 (midF lo hi p + 1) hi o
theorem one_cell {w : World} {g : Nat} {v : Int} (h : w.cell? ⟨g, 0, none⟩ = some (.int .u8 v)) : ∀ j, j < 1 → w.cell? ((⟨g, 0, none⟩ : Addr).add j) = some (.int .u8 ([v].getD j 0)) := fun j hj => by
 obtain rfl : j = 0 := by omega
 simpa [Addr.add] using h
theorem conv1 (w : World) (g : Nat) (v : Int) (h : w.cell? ⟨g, 0, none⟩ = some (.int .u8 v)) : (convert 96 9 (.slice (some ⟨g, 0, none⟩) 1 1)).run Tryz.prog w = .ok (.string (strOfNums [v])) w :=
 string_of_reads Tryz.underlying96 Tryz.underlying5 Tryz.underlying9 ⟨rfl, by omega, fun _ => ⟨_, rfl, one_cell h⟩⟩
theorem byteStr_size (x : Int) : (byteStr x).size = 1 := rfl
theorem shift_yes {j : Nat} {lo hi : Int} {o : ByteArray} (h : j < 4) (e : lo / 16777216 = hi / 16777216) : shiftF (4 - j) lo hi o = shiftF (4 - (j + 1)) (upF lo 0) (upF hi 255) (o ++ byteStr (lo / 16777216)) := by
 rw [show 4 - j = (4 - (j + 1)) + 1 by omega]
 show (if _ then _ else _) = _
 rw [if_pos e]
theorem shift_no {k : Nat} {lo hi : Int} {o : ByteArray} (e : ¬ lo / 16777216 = hi / 16777216) : shiftF k lo hi o = (lo, hi, o) := by
 cases k with
 | zero => rfl
 | succ k => show (if _ then _ else _) = _; rw [if_neg e]
theorem may_c (lo hi : Int) (o : ByteArray) (w : World) (h : coOk lo hi o) : Calls Tryz.prog 50 #[.agg (coC lo hi o)] w fun e w' => e = .returned (.bool true) ∧ Below w.heap.size w w' := by
 obtain ⟨h0, h1, h2, h3⟩ := h
 refine (coder_May.calls lo hi o true w ?_).mono fun _ _ h => h
 unfold coder_May.f coder_Ends.f
 rw [if_pos h0, if_pos h1, Option.bind_some, if_pos (decide_eq_true h2)]
 congr 1
 exact decide_eq_true (by omega)
theorem chance_c (p : Int) (w : World) (h0 : 1 ≤ p) (h1 : p ≤ 4095) : Calls Tryz.prog 51 #[.int .i64 p] w fun e w' => e = .returned (.bool true) ∧ w' = w := by
 have d : decide (p ≥ 1) = true := decide_eq_true h0
 have d2 : decide (p ≤ 4095) = true := decide_eq_true h1
 go_enter Tryz.func51, Tryz.ntmps51
 go_wp2
 go_ret
 exact ⟨rfl, rfl⟩
theorem mid_in {lo hi p : Int} (h : lo ≤ hi) (p0 : 1 ≤ p) (p1 : p ≤ 4095) : lo ≤ midF lo hi p ∧ midF lo hi p < hi + (if lo = hi then 1 else 0) := by
 unfold midF
 obtain ⟨r, hr⟩ : ∃ r, r = hi - lo := ⟨_, rfl⟩
 rw [← hr]
 obtain ⟨q, hq⟩ : ∃ q, q = r / 4096 := ⟨_, rfl⟩
 obtain ⟨m, hm⟩ : ∃ m, m = r % 4096 := ⟨_, rfl⟩
 rw [← hq, ← hm]
 have e : r = 4096 * q + m := by omega
 have a1 : 0 ≤ q * p := Int.mul_nonneg (by omega) (by omega)
 have a2 : q * p ≤ q * 4095 := Int.mul_le_mul_of_nonneg_left (by omega) (by omega)
 have a3 : 0 ≤ m * p := Int.mul_nonneg (by omega) (by omega)
 have a4 : m * p ≤ m * 4095 := Int.mul_le_mul_of_nonneg_left (by omega) (by omega)
 split <;> omega
theorem middle_c (lo hi p : Int) (w : World) (h0 : 0 ≤ lo) (h1 : hi ≤ 4294967295) (h2 : lo ≤ hi) (p0 : 1 ≤ p) (p1 : p ≤ 4095) : Calls Tryz.prog 52 #[.int .i64 lo, .int .i64 hi, .int .i64 p] w fun e w' => e = .returned (.int .i64 (midF lo hi p)) ∧ Drawn0 w w' := by
 refine coder_Middle.calls lo hi p _ w ?_
 unfold coder_Middle.f midF
 obtain ⟨r, hr⟩ : ∃ r, r = hi - lo := ⟨_, rfl⟩
 rw [← hr, Num.w64 (n := r) (by omega) (by omega)]
 rw [Int.tdiv_eq_ediv_of_nonneg (a := r) (by omega), Int.tmod_eq_emod_of_nonneg (a := r) (by omega)]
 obtain ⟨q, hq⟩ : ∃ q, q = r / 4096 := ⟨_, rfl⟩
 obtain ⟨m, hm⟩ : ∃ m, m = r % 4096 := ⟨_, rfl⟩
 rw [← hq, ← hm]
 have a1 : 0 ≤ q * p := Int.mul_nonneg (by omega) (by omega)
 have a2 : q * p ≤ q * 4095 := Int.mul_le_mul_of_nonneg_left (by omega) (by omega)
 have a3 : 0 ≤ m * p := Int.mul_nonneg (by omega) (by omega)
 have a4 : m * p ≤ m * 4095 := Int.mul_le_mul_of_nonneg_left (by omega) (by omega)
 rw [Num.w64 (n := q) (by omega) (by omega), Num.w64 (n := q * p) (by omega) (by omega), Num.w64 (n := lo + q * p) (by omega) (by omega), Num.w64 (n := m * p) (by omega) (by omega), Int.tdiv_eq_ediv_of_nonneg (by omega), Num.w64 (n := m * p / 4096) (by omega) (by omega), Num.w64 (by omega) (by omega)]
theorem gone_c (lo hi : Int) (w : World) : Calls Tryz.prog 53 #[.int .i64 lo, .int .i64 hi] w fun e w' => e = .returned (.bool (lo / 16777216 == hi / 16777216)) ∧ w' = w := by
 go_enter Tryz.func53, Tryz.ntmps53
 go_wp2
 go_ret
 exact ⟨rfl, rfl⟩
theorem up_eq (x b : Int) (h0 : 0 ≤ x) (h1 : x ≤ 4294967295) (b0 : 0 ≤ b) (b1 : b ≤ 255) : coder_Up.f x b = some (upF x b) := by
 unfold coder_Up.f upF
 rw [Num.w64 (by omega) (by omega), Num.and_mask (x * 256) 4294967295 32 (by omega) (by rfl), Num.or_add _ b 8 (by omega) (by omega) (by omega) b0 (by omega) (by omega)]
 rfl
theorem up_c (x b : Int) (w : World) (h0 : 0 ≤ x) (h1 : x ≤ 4294967295) (b0 : 0 ≤ b) (b1 : b ≤ 255) : Calls Tryz.prog 54 #[.int .i64 x, .int .i64 b] w fun e w' => e = .returned (.int .i64 (upF x b)) ∧ Below w.heap.size w w' :=
 (coder_Up.calls x b _ w (up_eq x b h0 h1 b0 b1)).mono fun _ _ h => ⟨h.1, h.2.below⟩
def gones (j : Nat) (lo hi : Int) : Prop := 0 ≤ lo ∧ lo ≤ hi ∧ hi ≤ 4294967295 ∧ (j = 0 ∨ (j = 1 ∧ lo % 256 = 0 ∧ hi % 256 = 255) ∨ (j = 2 ∧ lo % 65536 = 0 ∧ hi % 65536 = 65535) ∨ (j = 3 ∧ lo % 16777216 = 0 ∧ hi % 16777216 = 16777215) ∨ (j = 4 ∧ lo = 0 ∧ hi = 4294967295))
theorem gones_step {j : Nat} {lo hi : Int} (h : gones j lo hi) (e : lo / 16777216 = hi / 16777216) : j < 4 ∧ gones (j + 1) (upF lo 0) (upF hi 255) := by
 unfold gones upF at *
 omega
theorem bit_c (lo hi : Int) (o : ByteArray) (bit p : Int) (W : World) (hO : coOk lo hi o) (hB_ : bit = 0 ∨ bit = 1) (p0 : 1 ≤ p) (p1 : p ≤ 4095) : Calls Tryz.prog 14 #[.agg (coC lo hi o), .int .i64 bit, .int .i64 p] W fun e w' => e = .returned (.tuple #[.agg (if (bitF lo hi o bit p).2.2.size ≤ 65536 then coC (bitF lo hi o bit p).1 (bitF lo hi o bit p).2.1 (bitF lo hi o bit p).2.2 else coC 0 0 ⟨#[]⟩), .int .i64 (if (bitF lo hi o bit p).2.2.size ≤ 65536 then 0 else 400)]) ∧ Below W.heap.size W w' := by
 have hO2 := Lib.hid hO
 obtain ⟨o0, o1, o2, o3⟩ := hO
 have hb0 : 0 ≤ bit ∧ bit ≤ 1 := by omega
 obtain ⟨hb0, hb1⟩ := hb0
 have q0 : decide (bit < 0) = false := decide_eq_false (by omega)
 have q1 : decide (bit > 1) = false := decide_eq_false (by omega)
 have mi := mid_in (show lo ≤ hi by omega) p0 p1
 rw [if_neg (by omega)] at mi
 obtain ⟨m0, m1⟩ := mi
 obtain ⟨R, hR⟩ : ∃ R, R = bitF lo hi o bit p := ⟨_, rfl⟩
 rw [← hR]
 have HR := Lib.hid hR
 clear hR
 obtain ⟨A_, hA⟩ : ∃ A_, A_ = (if R.2.2.size ≤ 65536 then coC R.1 R.2.1 R.2.2 else coC 0 0 ⟨#[]⟩) := ⟨_, rfl⟩
 obtain ⟨E_, hE_⟩ : ∃ E_ : Int, E_ = (if R.2.2.size ≤ 65536 then 0 else 400) := ⟨_, rfl⟩
 rw [← hA, ← hE_]
 have HA := Lib.hid hA
 have HE := Lib.hid hE_
 clear hA hE_
 go_enter Tryz.func14, Tryz.ntmps14
 have B0 := Lib.hid (blk_alloc (blk_new W (.cells (coC lo hi o) 31)) (.cells #[.int .i64 0, .int .i64 0, .string ⟨#[]⟩] 31))
 have B1 := Lib.hid (blk_new (W.alloc (.cells (coC lo hi o) 31)) (.cells #[.int .i64 0, .int .i64 0, .string ⟨#[]⟩] 31))
 have HB := Lib.hid (below_alloc (below_alloc (Below.refl W.heap.size W) (.cells (coC lo hi o) 31)) (.cells #[.int .i64 0, .int .i64 0, .string ⟨#[]⟩] 31))
 have l1 := co_load B0.out
 rw [show (W.alloc (.cells (coC lo hi o) 31)).heap.size = W.heap.size + 1 by simp] at B1
 go_wp2_with fail
 clear l1
 refine (may_c lo hi o _ hO2.out).mono ?_
 rintro e w1 ⟨rfl, hb⟩
 have c0 := Lib.hid (blk_below B0.out hb)
 have c1 := Lib.hid (show w1.heap[W.heap.size + 1]? = some (.cells (coC 0 0 ⟨#[]⟩) 31 (0, 0)) from blk_below B1.out hb)
 have hC := Lib.hid (below_step HB.out hb)
 clear hb B0 B1 HB
 obtain ⟨n, hn⟩ : ∃ n, n = W.heap.size := ⟨_, rfl⟩
 have hwn : W.heap.size ≤ n := by omega
 rw [← hn] at c0 c1 ⊢
 clear hn
 obtain ⟨k0, k1, k2⟩ := co_cells c0.out
 go_wp2_with (go_at_call 51; refine (chance_c p _ p0 p1).mono ?_; rintro e w' ⟨rfl, hw⟩; have hw := hw.symm; subst hw)
 refine (middle_c lo hi p _ o0 o1 (by omega) p0 p1).mono ?_
 rintro e w3 ⟨rfl, hd⟩
 have d0 := Lib.hid (blk_below c0.out hd.below)
 have d1 := Lib.hid (blk_below c1.out hd.below)
 have hD := Lib.hid (below_step hC.out hd.below)
 clear hd c0 c1 hC k0 k1 k2
 obtain ⟨m, hm⟩ : ∃ m, m = midF lo hi p := ⟨_, rfl⟩
 rw [← hm] at m0 m1 ⊢
 have HF := Lib.hid (show R = if bit = 1 then shiftF 4 lo m o else shiftF 4 (m + 1) hi o by rw [HR.out]; unfold bitF; rw [← hm])
 clear hm HR
 obtain ⟨k0, k1, k2⟩ := co_cells d0.out
 have f0 := blk_frozen d0.out 0
 have f1 := blk_frozen d0.out 1
 have z0 : n < w3.heap.size := blk_lt d0.out
 have w64 := Num.w64 (n := m + 1) (by omega) (by omega)
 rcases hB_ with rfl | rfl
 ·have hF := HF.out
  rw [if_neg (by decide)] at hF
  have HS := Lib.hid hF
  clear hF HF
  go_wp2_with fail
  have e0 := Lib.hid (show (w3.setCell ⟨n, 0, none⟩ (.int .i64 (m + 1))).heap[n]? = some (.cells (coC (m + 1) (hi) o) 31 (0, 0)) from (blk_set d0.out 0 _).trans rfl)
  have e1 := Lib.hid (blk_far d1.out (p := ⟨n, 0, none⟩) (show n + 1 ≠ n by omega) (.int .i64 (m + 1)))
  have hE := Lib.hid (hD.out.setCell (p := ⟨n, 0, none⟩) hwn (.int .i64 (m + 1)))
  clear d0 d1 hD k0 k1 k2 f0 f1 z0
  generalize w3.setCell ⟨n, 0, none⟩ (.int .i64 (m + 1)) = w3b at e0 e1 hE ⊢
  have G0 : gones 0 (m + 1) (hi) := by unfold gones; omega
  have GG := Lib.hid G0
  clear G0
  go_loopw [] (fun wr => ∃ (j : Nat) (x y : Int) (z : ByteArray), Hid (gones j x y) ∧ Hid (z.size = o.size + j) ∧ Hid (R = shiftF (4 - j) x y z) ∧ Hid (wr.heap[n]? = some (.cells (coC x y z) 31 (0, 0))) ∧ Hid (wr.heap[n + 1]? = some (.cells (coC 0 0 ⟨#[]⟩) 31 (0, 0))) ∧ Hid (Below W.heap.size W wr)) (fun wr => match wr.cell? ⟨n, 2, none⟩ with | some (.string z) => 65610 - z.size | _ => 0)
  case atStart => exact ⟨0, _, _, o, GG, Lib.hid rfl, HS, e0, e1, hE⟩
  case round =>
   obtain ⟨j, lo, hi, o, hg, hz, hT, b0, b1, hB⟩ := hrel
   clear e0 e1 hE HS GG
   obtain ⟨k0, k1, k2⟩ := co_cells b0.out
   have K2 := Lib.hid k2
   by_cases e : lo / 16777216 = hi / 16777216
   ·have eb : (lo / 16777216 == hi / 16777216) = true := beq_iff_eq.2 e
    have E := Lib.hid e
    clear e
    have zg : n < wr.heap.size := blk_lt b0.out
    have k3 := (blk_cell (blk_alloc b0.out (.cells #[.int .u8 (lo / 16777216 % 256)] 5)) 2).trans rfl
    have f3 := blk_frozen b0.out 2
    have hb := blk_new wr (.cells #[.int .u8 (lo / 16777216 % 256)] 5)
    have cv := conv1 (wr.alloc (.cells #[.int .u8 (lo / 16777216 % 256)] 5)) wr.heap.size (lo / 16777216 % 256) ((blk_cell hb 0).trans rfl)
    have HB_ := Lib.hid hb
    clear hb
    obtain ⟨y8, hy8⟩ : ∃ y8, y8 = strOfNums [lo / 16777216 % 256] := ⟨_, rfl⟩
    rw [← hy8] at cv
    have hs8 : y8.size = 1 := by rw [hy8]; exact byteStr_size _
    have Hy8 := Lib.hid (show y8 = byteStr (lo / 16777216) from hy8)
    clear hy8
    have hs9 := hz.out
    have hj4 : j < 4 := (gones_step hg.out E.out).1
    go_wp2_with (go_at_call 53; refine (gone_c _ _ _).mono ?_; rintro e w' ⟨rfl, hw⟩; have hw := hw.symm; subst hw; rw [eb])
    have d0 := Lib.hid (show ((wr.setCell ⟨n, 2, none⟩ (.string (o ++ y8))).alloc (.cells #[.int .u8 (lo / 16777216 % 256)] 5)).heap[n]? = some (.cells (coC lo hi (o ++ y8)) 31 (0, 0)) from blk_alloc ((blk_set b0.out 2 _).trans rfl) _)
    have d1 := Lib.hid (blk_alloc (blk_far b1.out (p := ⟨n, 2, none⟩) (show n + 1 ≠ n by omega) (.string (o ++ y8))) (.cells #[.int .u8 (lo / 16777216 % 256)] 5))
    have hD := Lib.hid (below_alloc (hB.out.setCell (p := ⟨n, 2, none⟩) hwn (.string (o ++ y8))) (.cells #[.int .u8 (lo / 16777216 % 256)] 5))
    obtain ⟨z2, hz2⟩ : ∃ z2, z2 = o ++ y8 := ⟨_, rfl⟩
    have hz3 : z2.size = o.size + 1 := by rw [hz2, ByteArray.size_append, hs8]
    rw [← hz2] at d0 d1 hD ⊢
    have HZ := Lib.hid hz2
    clear hz2 b0 b1 hB k0 k1 k2 k3 f3 HB_ cv zg
    generalize (wr.setCell ⟨n, 2, none⟩ (.string z2)).alloc (.cells #[.int .u8 (lo / 16777216 % 256)] 5) = w4 at d0 d1 hD ⊢
    obtain ⟨hl0, hlh, hh1, hgg⟩ := hg.out
    have hl1 : lo ≤ 4294967295 := by omega
    have hh0 : 0 ≤ hi := by omega
    clear hgg
    have E0 := Lib.hid (blk_drew d0.out)
    have E1 := Lib.hid (blk_drew d1.out)
    have EB := Lib.hid (below_drew1 hD.out)
    refine start_ (n := 10) (S := fun w' => w'.heap[n]? = some (.cells (coC lo hi z2) 31 (0, 0))) (ds := [7, 9]) #[J,J,J,J,J,J,J,J,J,J] kr rfl rfl (blk_drew d0.out) (fun hHeld => ?_)
    refine with_tabW cB_tab cB_bits (fun HT_ HW_ => ?_)
    generalize w4.drew = w5 at E0 E1 EB hHeld ⊢
    clear d0 d1 hD
    refine pu_ 0 54 (z 10 1) HT_ ?_
    refine ta_ 1 55 (z 10 3) HT_ HW_ hHeld rfl b63_ ?_
    refine pu_ 3 57 (z 10 11) HT_ ?_
    refine ta_ 4 58 (z 10 27) HT_ HW_ hHeld rfl b63_ ?_
    refine one_ (i := 2) (N := some 56) #[Y,Y,Y,Y,Y,J,J,J,J,J] rfl rfl (one_of HT_.out kr) (by decide) (fun K hK => ?_)
    refine goes_ Tryz.func54 kr rfl #[.int .i64 lo, .int .i64 0] (by rfl) rfl rfl b66_ ?_
    refine (up_c lo 0 _ hl0 hl1 (by omega) (by omega)).mono ?_
    rintro e w6 ⟨rfl, hb⟩
    refine ⟨_, rfl, ?_⟩
    have F0 := Lib.hid (blk_below E0.out hb)
    have F1 := Lib.hid (blk_below E1.out hb)
    have FB := Lib.hid (below_step EB.out hb)
    clear hb E0 E1 EB
    refine hK.out _ _ (F0.out) (fun hHeld => ?_)
    clear hK K
    refine norm_ (a' := ?_) ?_ ?_
    rotate_left
    ·show Act.put _ (some 56) _ = _
     exact pT
    refine pu_ 6 60 (z 10 95) HT_ ?_
    refine one_ (i := 5) (N := some 59) #[Y,Y,Y,Y,Y,Y,Y,J,J,J] rfl rfl (one_of HT_.out kr) (by decide) (fun K hK => ?_)
    refine goes_ Tryz.func54 kr rfl #[.int .i64 hi, .int .i64 255] (by rfl) rfl rfl b66_ ?_
    refine (up_c hi 255 _ hh0 hh1 (by omega) (by omega)).mono ?_
    rintro e w7 ⟨rfl, hb⟩
    refine ⟨_, rfl, ?_⟩
    have G0 := Lib.hid (blk_below F0.out hb)
    have G1 := Lib.hid (blk_below F1.out hb)
    have GB := Lib.hid (below_step FB.out hb)
    clear hb F0 F1 FB
    refine hK.out _ _ (G0.out) (fun hHeld => ?_)
    clear hK K
    refine norm_ (a' := ?_) ?_ ?_
    rotate_left
    ·show Act.put _ (some 59) _ = _
     exact pT
    obtain ⟨k0, k1, k2⟩ := co_cells G0.out
    have f0 := blk_frozen G0.out 0
    have f1 := blk_frozen G0.out 1
    have z0 : n < w7.heap.size := blk_lt G0.out
    refine last_ (i := 7) (N := none) #[Y,Y,Y,Y,Y,Y,Y,Y,J,J] rfl rfl kr (by decide) (fun K hK => ?_)
    refine skip_ (w1 := w7.setCell ⟨n, 0, none⟩ (.int .i64 (upF lo 0))) (by rfl) rfl (by go_simp; try rfl) ?_
    refine hK.out _ _ ?_
    clear hK K
    have h0 := Lib.hid (show (w7.setCell ⟨n, 0, none⟩ (.int .i64 (upF lo 0))).heap[n]? = some (.cells (coC (upF lo 0) hi z2) 31 (0, 0)) from (blk_set G0.out 0 _).trans rfl)
    have h1 := Lib.hid (blk_far G1.out (p := ⟨n, 0, none⟩) (show n + 1 ≠ n by omega) (.int .i64 (upF lo 0)))
    have hH := Lib.hid (GB.out.setCell (p := ⟨n, 0, none⟩) hwn (.int .i64 (upF lo 0)))
    clear G0 G1 GB k0 k1 k2 f0 f1 z0
    generalize w7.setCell ⟨n, 0, none⟩ (.int .i64 (upF lo 0)) = w8 at h0 h1 hH ⊢
    obtain ⟨k0, k1, k2⟩ := co_cells h0.out
    have f1 := blk_frozen h0.out 1
    have z0 : n < w8.heap.size := blk_lt h0.out
    refine pu_ 8 61 (z 10 511) HT_ ?_
    refine last_ (i := 9) (N := none) #[Y,Y,Y,Y,Y,Y,Y,Y,Y,Y] rfl rfl kr (by decide) (fun K hK => ?_)
    refine skip_ (w1 := w8.setCell ⟨n, 1, none⟩ (.int .i64 (upF hi 255))) (by rfl) rfl (by go_simp; try rfl) ?_
    refine hK.out _ _ ?_
    clear hK K
    refine done_ (done_of HT_.out kr) ?_
    have i0 := Lib.hid (show (w8.setCell ⟨n, 1, none⟩ (.int .i64 (upF hi 255))).heap[n]? = some (.cells (coC (upF lo 0) (upF hi 255) z2) 31 (0, 0)) from (blk_set h0.out 1 _).trans rfl)
    have i1 := Lib.hid (blk_far h1.out (p := ⟨n, 1, none⟩) (show n + 1 ≠ n by omega) (.int .i64 (upF hi 255)))
    have hI := Lib.hid (hH.out.setCell (p := ⟨n, 1, none⟩) hwn (.int .i64 (upF hi 255)))
    clear h0 h1 hH k0 k1 k2 f1 z0
    generalize w8.setCell ⟨n, 1, none⟩ (.int .i64 (upF hi 255)) = w9 at i0 i1 hI ⊢
    go_wp2_with fail
    obtain ⟨v0, v1, v2⟩ := co_cells i0.out
    exact ⟨⟨j + 1, _, _, z2, Lib.hid (gones_step hg.out E.out).2, Lib.hid (by omega), Lib.hid (by rw [hT.out, shift_yes hj4 E.out, HZ.out, Hy8.out]), i0, i1, hI⟩, by rw [v2, K2.out]; show 65610 - z2.size < 65610 - o.size; omega⟩
   ·have eb : (lo / 16777216 == hi / 16777216) = false := beq_eq_false_iff_ne.2 e
    have E := Lib.hid e
    clear e
    have hR := Lib.hid (hT.out.trans (shift_no E.out))
    have l1 := co_load b0.out
    have bd := fun w => co_build w
    have s1 := fun x y z => co_store b1.out (lo' := x) (hi' := y) (o' := z)
    by_cases hs : o.size ≤ 65536
    ·have d1 : decide ((o.size : Int) > 65536) = false := decide_eq_false (by omega)
     go_wp2_with (go_at_call 53; refine (gone_c _ _ _).mono ?_; rintro e w' ⟨rfl, hw⟩; have hw := hw.symm; subst hw; rw [eb])
     exact bodyPost_ret (results_ct rfl _ _ (n + 1) 31 (coC lo hi o) (0, 0) _ rfl (Agg.blk_row b1.out _) Tryz.underlying31 rfl kr) rfl ⟨by rw [HA.out, HE.out, hR.out, if_pos hs, if_pos hs]; rfl, Agg.below_row hB.out (by omega) _⟩
    ·have d1 : decide ((o.size : Int) > 65536) = true := decide_eq_true (by omega)
     go_wp2_with (go_at_call 53; refine (gone_c _ _ _).mono ?_; rintro e w' ⟨rfl, hw⟩; have hw := hw.symm; subst hw; rw [eb])
     exact bodyPost_ret (results_ct rfl _ _ (n + 1) 31 (coC 0 0 ⟨#[]⟩) (0, 0) _ rfl (Agg.blk_row b1.out _) Tryz.underlying31 rfl kr) rfl ⟨by rw [HA.out, HE.out, hR.out, if_neg hs, if_neg hs]; rfl, Agg.below_row hB.out (by omega) _⟩
  
 ·have hF := HF.out
  rw [if_pos rfl] at hF
  have HS := Lib.hid hF
  clear hF HF
  go_wp2_with fail
  have e0 := Lib.hid (show (w3.setCell ⟨n, 1, none⟩ (.int .i64 (m))).heap[n]? = some (.cells (coC (lo) (m) o) 31 (0, 0)) from (blk_set d0.out 1 _).trans rfl)
  have e1 := Lib.hid (blk_far d1.out (p := ⟨n, 1, none⟩) (show n + 1 ≠ n by omega) (.int .i64 (m)))
  have hE := Lib.hid (hD.out.setCell (p := ⟨n, 1, none⟩) hwn (.int .i64 (m)))
  clear d0 d1 hD k0 k1 k2 f0 f1 z0
  generalize w3.setCell ⟨n, 1, none⟩ (.int .i64 (m)) = w3b at e0 e1 hE ⊢
  have G0 : gones 0 (lo) (m) := by unfold gones; omega
  have GG := Lib.hid G0
  clear G0
  go_loopw [] (fun wr => ∃ (j : Nat) (x y : Int) (z : ByteArray), Hid (gones j x y) ∧ Hid (z.size = o.size + j) ∧ Hid (R = shiftF (4 - j) x y z) ∧ Hid (wr.heap[n]? = some (.cells (coC x y z) 31 (0, 0))) ∧ Hid (wr.heap[n + 1]? = some (.cells (coC 0 0 ⟨#[]⟩) 31 (0, 0))) ∧ Hid (Below W.heap.size W wr)) (fun wr => match wr.cell? ⟨n, 2, none⟩ with | some (.string z) => 65610 - z.size | _ => 0)
  case atStart => exact ⟨0, _, _, o, GG, Lib.hid rfl, HS, e0, e1, hE⟩
  case round =>
   obtain ⟨j, lo, hi, o, hg, hz, hT, b0, b1, hB⟩ := hrel
   clear e0 e1 hE HS GG
   obtain ⟨k0, k1, k2⟩ := co_cells b0.out
   have K2 := Lib.hid k2
   by_cases e : lo / 16777216 = hi / 16777216
   ·have eb : (lo / 16777216 == hi / 16777216) = true := beq_iff_eq.2 e
    have E := Lib.hid e
    clear e
    have zg : n < wr.heap.size := blk_lt b0.out
    have k3 := (blk_cell (blk_alloc b0.out (.cells #[.int .u8 (lo / 16777216 % 256)] 5)) 2).trans rfl
    have f3 := blk_frozen b0.out 2
    have hb := blk_new wr (.cells #[.int .u8 (lo / 16777216 % 256)] 5)
    have cv := conv1 (wr.alloc (.cells #[.int .u8 (lo / 16777216 % 256)] 5)) wr.heap.size (lo / 16777216 % 256) ((blk_cell hb 0).trans rfl)
    have HB_ := Lib.hid hb
    clear hb
    obtain ⟨y8, hy8⟩ : ∃ y8, y8 = strOfNums [lo / 16777216 % 256] := ⟨_, rfl⟩
    rw [← hy8] at cv
    have hs8 : y8.size = 1 := by rw [hy8]; exact byteStr_size _
    have Hy8 := Lib.hid (show y8 = byteStr (lo / 16777216) from hy8)
    clear hy8
    have hs9 := hz.out
    have hj4 : j < 4 := (gones_step hg.out E.out).1
    go_wp2_with (go_at_call 53; refine (gone_c _ _ _).mono ?_; rintro e w' ⟨rfl, hw⟩; have hw := hw.symm; subst hw; rw [eb])
    have d0 := Lib.hid (show ((wr.setCell ⟨n, 2, none⟩ (.string (o ++ y8))).alloc (.cells #[.int .u8 (lo / 16777216 % 256)] 5)).heap[n]? = some (.cells (coC lo hi (o ++ y8)) 31 (0, 0)) from blk_alloc ((blk_set b0.out 2 _).trans rfl) _)
    have d1 := Lib.hid (blk_alloc (blk_far b1.out (p := ⟨n, 2, none⟩) (show n + 1 ≠ n by omega) (.string (o ++ y8))) (.cells #[.int .u8 (lo / 16777216 % 256)] 5))
    have hD := Lib.hid (below_alloc (hB.out.setCell (p := ⟨n, 2, none⟩) hwn (.string (o ++ y8))) (.cells #[.int .u8 (lo / 16777216 % 256)] 5))
    obtain ⟨z2, hz2⟩ : ∃ z2, z2 = o ++ y8 := ⟨_, rfl⟩
    have hz3 : z2.size = o.size + 1 := by rw [hz2, ByteArray.size_append, hs8]
    rw [← hz2] at d0 d1 hD ⊢
    have HZ := Lib.hid hz2
    clear hz2 b0 b1 hB k0 k1 k2 k3 f3 HB_ cv zg
    generalize (wr.setCell ⟨n, 2, none⟩ (.string z2)).alloc (.cells #[.int .u8 (lo / 16777216 % 256)] 5) = w4 at d0 d1 hD ⊢
    obtain ⟨hl0, hlh, hh1, hgg⟩ := hg.out
    have hl1 : lo ≤ 4294967295 := by omega
    have hh0 : 0 ≤ hi := by omega
    clear hgg
    have E0 := Lib.hid (blk_drew d0.out)
    have E1 := Lib.hid (blk_drew d1.out)
    have EB := Lib.hid (below_drew1 hD.out)
    refine start_ (n := 10) (S := fun w' => w'.heap[n]? = some (.cells (coC lo hi z2) 31 (0, 0))) (ds := [7, 9]) #[J,J,J,J,J,J,J,J,J,J] kr rfl rfl (blk_drew d0.out) (fun hHeld => ?_)
    refine with_tabW cB_tab cB_bits (fun HT_ HW_ => ?_)
    generalize w4.drew = w5 at E0 E1 EB hHeld ⊢
    clear d0 d1 hD
    refine pu_ 0 54 (z 10 1) HT_ ?_
    refine ta_ 1 55 (z 10 3) HT_ HW_ hHeld rfl b63_ ?_
    refine pu_ 3 57 (z 10 11) HT_ ?_
    refine ta_ 4 58 (z 10 27) HT_ HW_ hHeld rfl b63_ ?_
    refine one_ (i := 2) (N := some 56) #[Y,Y,Y,Y,Y,J,J,J,J,J] rfl rfl (one_of HT_.out kr) (by decide) (fun K hK => ?_)
    refine goes_ Tryz.func54 kr rfl #[.int .i64 lo, .int .i64 0] (by rfl) rfl rfl b66_ ?_
    refine (up_c lo 0 _ hl0 hl1 (by omega) (by omega)).mono ?_
    rintro e w6 ⟨rfl, hb⟩
    refine ⟨_, rfl, ?_⟩
    have F0 := Lib.hid (blk_below E0.out hb)
    have F1 := Lib.hid (blk_below E1.out hb)
    have FB := Lib.hid (below_step EB.out hb)
    clear hb E0 E1 EB
    refine hK.out _ _ (F0.out) (fun hHeld => ?_)
    clear hK K
    refine norm_ (a' := ?_) ?_ ?_
    rotate_left
    ·show Act.put _ (some 56) _ = _
     exact pT
    refine pu_ 6 60 (z 10 95) HT_ ?_
    refine one_ (i := 5) (N := some 59) #[Y,Y,Y,Y,Y,Y,Y,J,J,J] rfl rfl (one_of HT_.out kr) (by decide) (fun K hK => ?_)
    refine goes_ Tryz.func54 kr rfl #[.int .i64 hi, .int .i64 255] (by rfl) rfl rfl b66_ ?_
    refine (up_c hi 255 _ hh0 hh1 (by omega) (by omega)).mono ?_
    rintro e w7 ⟨rfl, hb⟩
    refine ⟨_, rfl, ?_⟩
    have G0 := Lib.hid (blk_below F0.out hb)
    have G1 := Lib.hid (blk_below F1.out hb)
    have GB := Lib.hid (below_step FB.out hb)
    clear hb F0 F1 FB
    refine hK.out _ _ (G0.out) (fun hHeld => ?_)
    clear hK K
    refine norm_ (a' := ?_) ?_ ?_
    rotate_left
    ·show Act.put _ (some 59) _ = _
     exact pT
    obtain ⟨k0, k1, k2⟩ := co_cells G0.out
    have f0 := blk_frozen G0.out 0
    have f1 := blk_frozen G0.out 1
    have z0 : n < w7.heap.size := blk_lt G0.out
    refine last_ (i := 7) (N := none) #[Y,Y,Y,Y,Y,Y,Y,Y,J,J] rfl rfl kr (by decide) (fun K hK => ?_)
    refine skip_ (w1 := w7.setCell ⟨n, 0, none⟩ (.int .i64 (upF lo 0))) (by rfl) rfl (by go_simp; try rfl) ?_
    refine hK.out _ _ ?_
    clear hK K
    have h0 := Lib.hid (show (w7.setCell ⟨n, 0, none⟩ (.int .i64 (upF lo 0))).heap[n]? = some (.cells (coC (upF lo 0) hi z2) 31 (0, 0)) from (blk_set G0.out 0 _).trans rfl)
    have h1 := Lib.hid (blk_far G1.out (p := ⟨n, 0, none⟩) (show n + 1 ≠ n by omega) (.int .i64 (upF lo 0)))
    have hH := Lib.hid (GB.out.setCell (p := ⟨n, 0, none⟩) hwn (.int .i64 (upF lo 0)))
    clear G0 G1 GB k0 k1 k2 f0 f1 z0
    generalize w7.setCell ⟨n, 0, none⟩ (.int .i64 (upF lo 0)) = w8 at h0 h1 hH ⊢
    obtain ⟨k0, k1, k2⟩ := co_cells h0.out
    have f1 := blk_frozen h0.out 1
    have z0 : n < w8.heap.size := blk_lt h0.out
    refine pu_ 8 61 (z 10 511) HT_ ?_
    refine last_ (i := 9) (N := none) #[Y,Y,Y,Y,Y,Y,Y,Y,Y,Y] rfl rfl kr (by decide) (fun K hK => ?_)
    refine skip_ (w1 := w8.setCell ⟨n, 1, none⟩ (.int .i64 (upF hi 255))) (by rfl) rfl (by go_simp; try rfl) ?_
    refine hK.out _ _ ?_
    clear hK K
    refine done_ (done_of HT_.out kr) ?_
    have i0 := Lib.hid (show (w8.setCell ⟨n, 1, none⟩ (.int .i64 (upF hi 255))).heap[n]? = some (.cells (coC (upF lo 0) (upF hi 255) z2) 31 (0, 0)) from (blk_set h0.out 1 _).trans rfl)
    have i1 := Lib.hid (blk_far h1.out (p := ⟨n, 1, none⟩) (show n + 1 ≠ n by omega) (.int .i64 (upF hi 255)))
    have hI := Lib.hid (hH.out.setCell (p := ⟨n, 1, none⟩) hwn (.int .i64 (upF hi 255)))
    clear h0 h1 hH k0 k1 k2 f1 z0
    generalize w8.setCell ⟨n, 1, none⟩ (.int .i64 (upF hi 255)) = w9 at i0 i1 hI ⊢
    go_wp2_with fail
    obtain ⟨v0, v1, v2⟩ := co_cells i0.out
    exact ⟨⟨j + 1, _, _, z2, Lib.hid (gones_step hg.out E.out).2, Lib.hid (by omega), Lib.hid (by rw [hT.out, shift_yes hj4 E.out, HZ.out, Hy8.out]), i0, i1, hI⟩, by rw [v2, K2.out]; show 65610 - z2.size < 65610 - o.size; omega⟩
   ·have eb : (lo / 16777216 == hi / 16777216) = false := beq_eq_false_iff_ne.2 e
    have E := Lib.hid e
    clear e
    have hR := Lib.hid (hT.out.trans (shift_no E.out))
    have l1 := co_load b0.out
    have bd := fun w => co_build w
    have s1 := fun x y z => co_store b1.out (lo' := x) (hi' := y) (o' := z)
    by_cases hs : o.size ≤ 65536
    ·have d1 : decide ((o.size : Int) > 65536) = false := decide_eq_false (by omega)
     go_wp2_with (go_at_call 53; refine (gone_c _ _ _).mono ?_; rintro e w' ⟨rfl, hw⟩; have hw := hw.symm; subst hw; rw [eb])
     exact bodyPost_ret (results_ct rfl _ _ (n + 1) 31 (coC lo hi o) (0, 0) _ rfl (Agg.blk_row b1.out _) Tryz.underlying31 rfl kr) rfl ⟨by rw [HA.out, HE.out, hR.out, if_pos hs, if_pos hs]; rfl, Agg.below_row hB.out (by omega) _⟩
    ·have d1 : decide ((o.size : Int) > 65536) = true := decide_eq_true (by omega)
     go_wp2_with (go_at_call 53; refine (gone_c _ _ _).mono ?_; rintro e w' ⟨rfl, hw⟩; have hw := hw.symm; subst hw; rw [eb])
     exact bodyPost_ret (results_ct rfl _ _ (n + 1) 31 (coC 0 0 ⟨#[]⟩) (0, 0) _ rfl (Agg.blk_row b1.out _) Tryz.underlying31 rfl kr) rfl ⟨by rw [HA.out, HE.out, hR.out, if_neg hs, if_neg hs]; rfl, Agg.below_row hB.out (by omega) _⟩
  
end Go.Proofs.YtnoibcdojfnicaaGreatDoor.PB
