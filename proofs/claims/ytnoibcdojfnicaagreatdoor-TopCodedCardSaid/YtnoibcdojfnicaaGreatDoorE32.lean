/- A part of the proof of a law of descanttop: this session's own texts and printed texts, shortened and joined. -/
import Derived.Test.YtnoibcdojfnicaaGreatDoorE28
import Derived.Test.YtnoibcdojfnicaaGreatDoorE29
set_option linter.unusedVariables false
set_option linter.unusedSimpArgs false
set_option maxRecDepth 100000
set_option maxHeartbeats 16000000
namespace Go.Proofs.YtnoibcdojfnicaaGreatDoor.PG
open Go.Proofs.YtnoibcdojfnicaaGreatDoorW.Short
open Bool renaming true → Y, false → J
open Go Go.RowKit Go.Proofs.YtnoibcdojfnicaaGreatDoorW.PrintWords Go.Proofs.YtnoibcdojfnicaaGreatDoorW.PrintMore Go.Proofs.YtnoibcdojfnicaaGreatDoorW.PrintLast
open Go.Proofs.YtnoibcdojfnicaaGreatDoor.Modn
def rT1T : Bool × List (List Nat × List Nat) := (true, [([], []), ([], []), ([1], [1]), ([2], [2]), ([3], [3]), ([4], [4]), ([5], [5]), ([6, 5], [5, 6]), ([5, 7], [5, 7]), ([8, 5], [8]), ([9], [9]), ([9], [9]), ([11, 9], [9, 11]), ([12, 9], [9, 12]), ([13, 9], [9, 13]), ([14, 9], [9, 14]), ([9], [9]), ([16, 9], [9, 16]), ([17, 9], [9, 17]), ([18, 9], [9, 18]), ([15, 19, 9], [9, 15, 19]), ([10, 20, 9], [9, 10, 20]), ([9, 21], [9, 21]), ([0, 0, 1, 2, 3, 4, 5, 6, 7, 8, 9, 10, 11, 12, 13, 14, 15, 16, 17, 18, 19, 20, 21, 22], [0]), ([23, 0, 1, 2, 3, 4, 5, 6, 7, 8, 9, 10, 11, 12, 13, 14, 15, 16, 17, 18, 19, 20, 21, 22], [23]), ([24, 22, 9, 0, 1, 2, 3, 4, 5, 6, 7, 8, 9, 10, 11, 12, 13, 14, 15, 16, 17, 18, 19, 20, 21, 22], [22, 24])])
def rT1B : List Nat := [0, 0, 2, 6, 14, 30, 62, 126, 254, 510, 1022, 1022, 3070, 7166, 15358, 31742, 1022, 66558, 197630, 459774, 1047550, 2097150, 4194302, 8388607, 16777215, 33554431]
theorem rT1_tab : rtab .any (opsOf Tryz.f92 1) = rT1T := by kernel_rfl
theorem rT1_bits : waitsOk rT1T.2 rT1B = true := by kernel_rfl
def rT5T : Bool × List (List Nat × List Nat) := (true, [([], []), ([0], [0]), ([1], [1]), ([2], [2]), ([], []), ([4], [4]), ([5], [5]), ([6], [6]), ([], []), ([7, 8], [7, 8]), ([], []), ([10], [10]), ([11], [11]), ([12], [12]), ([3, 9, 13], [3, 9, 13]), ([14, 0, 1, 2, 3, 4, 5, 6, 7, 8, 9, 10, 11, 12, 13, 14], [14])])
def rT5B : List Nat := [0, 1, 3, 7, 0, 16, 48, 112, 0, 496, 0, 1024, 3072, 7168, 16383, 32767]
theorem rT5_tab : rtab .any (opsOf Tryz.f92 5) = rT5T := by kernel_rfl
theorem rT5_bits : waitsOk rT5T.2 rT5B = true := by kernel_rfl
def rN1T : Bool × List (List Nat × List Nat) := (true, [([], []), ([0], [0]), ([1], [1]), ([2], [2]), ([], []), ([4], [4]), ([5], [5]), ([6], [6]), ([3, 7], [3, 7]), ([8], [8]), ([9], [9]), ([9], [9]), ([9], [9]), ([10, 8, 0, 1, 2, 3, 4, 5, 6, 7, 8, 9, 10], [10]), ([11, 13, 0, 1, 2, 3, 4, 5, 6, 7, 8, 9, 10, 11, 13], [11]), ([12, 14, 0, 1, 2, 3, 4, 5, 6, 7, 8, 9, 10, 11, 12, 13, 14], [12])])
def rN1B : List Nat := [0, 1, 3, 7, 0, 16, 48, 112, 255, 511, 1023, 1023, 1023, 2047, 12287, 32767]
theorem rN1_tab : rtab .any (opsOf Tryz.f94 1) = rN1T := by kernel_rfl
theorem rN1_bits : waitsOk rN1T.2 rN1B = true := by kernel_rfl
def rdC (s : ByteArray) (at_ : Int) (bad : Bool) : Array Value := #[.string s, .int .i64 at_, .bool bad]
abbrev TR_ : TypeId := 156
theorem rd_cells {w : World} {g : Nat} {s : ByteArray} {at_ : Int} {bad : Bool} {T : TypeId} {fr : Nat × Nat} (h : w.heap[g]? = some (.cells (rdC s at_ bad) T fr)) : w.cell? ⟨g, 0, none⟩ = some (.string s) ∧ w.cell? ⟨g, 1, none⟩ = some (.int .i64 at_) ∧ w.cell? ⟨g, 2, none⟩ = some (.bool bad) :=
 ⟨(cell_of_row w g 0 _ T fr h).trans rfl, (cell_of_row w g 1 _ T fr h).trans rfl, (cell_of_row w g 2 _ T fr h).trans rfl⟩
def takeF (s : ByteArray) (at_ : Int) (bad : Bool) (n : Int) : ByteArray × Int × Bool :=
 if bad = true ∨ n < 0 ∨ (s.size : Int) - at_ < n then (⟨#[]⟩, at_, true) else (s.extract at_.toNat (at_ + n).toNat, at_ + n, false)
theorem take_at {s : ByteArray} {at_ n : Int} {bad : Bool} (h : 0 ≤ at_ ∧ at_ ≤ s.size) : 0 ≤ (takeF s at_ bad n).2.1 ∧ (takeF s at_ bad n).2.1 ≤ s.size := by
 unfold takeF; split <;> simp only <;> omega
theorem take_c (g : Nat) (s : ByteArray) (at_ : Int) (bad : Bool) (n : Int) (W : World) (h0 : 0 ≤ at_) (h1 : at_ ≤ s.size) (hs : s.size ≤ 140737488351232) (hg : W.heap[g]? = some (.cells (rdC s at_ bad) TR_ (0, 0))) : Calls Tryz.prog 92 #[.pointer (some ⟨g, 0, none⟩), .int .i64 n] W fun e w' => e = .returned (.string (takeF s at_ bad n).1) ∧ w'.heap[g]? = some (.cells (rdC s (takeF s at_ bad n).2.1 (takeF s at_ bad n).2.2) TR_ (0, 0)) ∧ Mod g W.heap.size W w' := by
 have G1 := Lib.hid hg
 clear hg
 obtain ⟨R, hR⟩ : ∃ R, R = takeF s at_ bad n := ⟨_, rfl⟩
 rw [← hR]
 have HR := Lib.hid hR
 clear hR
 cases bad
 ·by_cases hn : n < 0
  ·have HT := Lib.hid (show R = (⟨#[]⟩, at_, true) by rw [HR.out]; unfold takeF; rw [if_pos (Or.inr (Or.inl hn))])
   have d0 : decide (n < 0) = true := decide_eq_true hn
   go_enter Tryz.func92, Tryz.ntmps92
   go_wp2_with fail
   have G2 := Lib.hid (blk_drew G1.out)
   have M2 := Lib.hid (Mod.of2 (g := g) (below_drew1 (Below.refl W.heap.size W)))
   refine start_ (n := 26) (S := fun w' => w'.heap[g]? = some (.cells (rdC s at_ false) TR_ (0, 0))) (ds := [25]) #[J,J,J,J,J,J,J,J,J,J,J,J,J,J,J,J,J,J,J,J,J,J,J,J,J,J] kr rfl rfl (blk_drew G1.out) (fun hHeld => ?_)
   refine with_tabW rT1_tab rT1_bits (fun HT_ HW_ => ?_)
   generalize W.drew = w2 at G2 M2 hHeld ⊢
   refine pu_ 0 5 (z 26 1) HT_ ?_
   refine pu_ 1 6 (z 26 3) HT_ ?_
   refine pu_ 2 7 (z 26 7) HT_ ?_
   refine pu_ 3 8 (z 26 15) HT_ ?_
   refine ta_ 4 9 (z 26 31) HT_ HW_ hHeld rfl b64_ ?_
   refine pu_ 5 10 (z 26 63) HT_ ?_
   refine pu_ 6 11 (z 26 127) HT_ ?_
   refine pu_ 7 12 (z 26 255) HT_ ?_
   refine pu_ 8 13 (z 26 511) HT_ ?_
   refine pu_ 9 14 (z 26 1023) HT_ ?_
   refine ps_ 10 15 (z 26 2047) HT_ ?_
   refine ps_ 11 16 (z 26 4095) HT_ ?_
   refine ps_ 12 17 (z 26 8191) HT_ ?_
   refine ps_ 13 18 (z 26 16383) HT_ ?_
   refine ps_ 14 19 (z 26 32767) HT_ ?_
   refine ps_ 15 20 (z 26 65535) HT_ ?_
   refine ps_ 16 21 (z 26 131071) HT_ ?_
   refine ps_ 17 22 (z 26 262143) HT_ ?_
   refine ps_ 18 23 (z 26 524287) HT_ ?_
   refine ps_ 19 24 (z 26 1048575) HT_ ?_
   refine ps_ 20 25 (z 26 2097151) HT_ ?_
   refine ps_ 21 26 (z 26 4194303) HT_ ?_
   refine pu_ 22 27 (z 26 8388607) HT_ ?_
   refine pu_ 23 28 (z 26 16777215) HT_ ?_
   refine pu_ 24 29 (z 26 33554431) HT_ ?_
   obtain ⟨k0, k1, k2⟩ := rd_cells G2.out
   have f2 := blk_frozen G2.out 2
   have z2 : g < w2.heap.size := blk_lt G2.out
   refine last_ (i := 25) (N := none) #[Y,Y,Y,Y,Y,Y,Y,Y,Y,Y,Y,Y,Y,Y,Y,Y,Y,Y,Y,Y,Y,Y,Y,Y,Y,Y] rfl rfl kr (by decide) (fun K hK => ?_)
   refine skip_ (w1 := w2.setCell ⟨g, 2, none⟩ (.bool true)) (by rfl) rfl (by go_simp; try rfl) ?_
   refine hK.out _ _ ?_
   clear hK K
   refine done_ (done_of HT_.out kr) ?_
   clear hHeld
   have G3 := Lib.hid (show (w2.setCell ⟨g, 2, none⟩ (.bool true)).heap[g]? = some (.cells (rdC s at_ true) TR_ (0, 0)) from (blk_set G2.out 2 _).trans rfl)
   have M3 := Lib.hid (M2.out.trans (Mod.cell g W.heap.size 2 w2 (.bool true)))
   clear G2 M2 k0 k1 k2 f2 z2
   generalize w2.setCell ⟨g, 2, none⟩ (.bool true) = w3 at G3 M3 ⊢
   obtain ⟨k0, k1, k2⟩ := rd_cells G3.out
   go_wp2_with fail
   go_ret
   exact ⟨by rw [HT.out]; rfl, by rw [HT.out]; exact G3.out, M3.out⟩
  ·have d0 : decide (n < 0) = false := decide_eq_false hn
   have v1 := Num.w64 (n := (s.size : Int) - at_) (by omega) (by omega)
   have v2 : IntKind.i64.wrap ((s.size : Int) - at_) = (s.size : Int) - at_ := (Num.wrap_eq _).trans v1
   by_cases hm : (s.size : Int) - at_ < n
   ·have HT := Lib.hid (show R = (⟨#[]⟩, at_, true) by rw [HR.out]; unfold takeF; rw [if_pos (Or.inr (Or.inr hm))])
    have d1 : decide (n > (s.size : Int) - at_) = true := decide_eq_true hm
    go_enter Tryz.func92, Tryz.ntmps92
    go_wp2_with fail
    have G2 := Lib.hid (blk_drew G1.out)
    have M2 := Lib.hid (Mod.of2 (g := g) (below_drew1 (Below.refl W.heap.size W)))
    refine start_ (n := 26) (S := fun w' => w'.heap[g]? = some (.cells (rdC s at_ false) TR_ (0, 0))) (ds := [25]) #[J,J,J,J,J,J,J,J,J,J,J,J,J,J,J,J,J,J,J,J,J,J,J,J,J,J] kr rfl rfl (blk_drew G1.out) (fun hHeld => ?_)
    refine with_tabW rT1_tab rT1_bits (fun HT_ HW_ => ?_)
    generalize W.drew = w2 at G2 M2 hHeld ⊢
    refine pu_ 0 5 (z 26 1) HT_ ?_
    refine pu_ 1 6 (z 26 3) HT_ ?_
    refine pu_ 2 7 (z 26 7) HT_ ?_
    refine pu_ 3 8 (z 26 15) HT_ ?_
    refine ta_ 4 9 (z 26 31) HT_ HW_ hHeld rfl b64_ ?_
    refine pu_ 5 10 (z 26 63) HT_ ?_
    refine pu_ 6 11 (z 26 127) HT_ ?_
    refine pu_ 7 12 (z 26 255) HT_ ?_
    refine pu_ 8 13 (z 26 511) HT_ ?_
    refine pu_ 9 14 (z 26 1023) HT_ ?_
    refine pu_ 10 15 (z 26 2047) HT_ ?_
    refine pu_ 11 16 (z 26 4095) HT_ ?_
    refine pu_ 12 17 (z 26 8191) HT_ ?_
    refine pu_ 13 18 (z 26 16383) HT_ ?_
    refine ta_ 14 19 (z 26 32767) HT_ HW_ hHeld rfl b64_ ?_
    refine pu_ 15 20 (z 26 65535) HT_ ?_
    refine pu_ 16 21 (z 26 131071) HT_ ?_
    refine pu_ 17 22 (z 26 262143) HT_ ?_
    refine pu_ 18 23 (z 26 524287) HT_ ?_
    refine ta_ 19 24 (z 26 1048575) HT_ HW_ hHeld rfl b64_ ?_
    refine pu_ 20 25 (z 26 2097151) HT_ ?_
    refine pu_ 21 26 (z 26 4194303) HT_ ?_
    refine pu_ 22 27 (z 26 8388607) HT_ ?_
    refine pu_ 23 28 (z 26 16777215) HT_ ?_
    refine pu_ 24 29 (z 26 33554431) HT_ ?_
    obtain ⟨k0, k1, k2⟩ := rd_cells G2.out
    have f2 := blk_frozen G2.out 2
    have z2 : g < w2.heap.size := blk_lt G2.out
    refine last_ (i := 25) (N := none) #[Y,Y,Y,Y,Y,Y,Y,Y,Y,Y,Y,Y,Y,Y,Y,Y,Y,Y,Y,Y,Y,Y,Y,Y,Y,Y] rfl rfl kr (by decide) (fun K hK => ?_)
    refine skip_ (w1 := w2.setCell ⟨g, 2, none⟩ (.bool true)) (by rfl) rfl (by go_simp; try rfl) ?_
    refine hK.out _ _ ?_
    clear hK K
    refine done_ (done_of HT_.out kr) ?_
    clear hHeld
    have G3 := Lib.hid (show (w2.setCell ⟨g, 2, none⟩ (.bool true)).heap[g]? = some (.cells (rdC s at_ true) TR_ (0, 0)) from (blk_set G2.out 2 _).trans rfl)
    have M3 := Lib.hid (M2.out.trans (Mod.cell g W.heap.size 2 w2 (.bool true)))
    clear G2 M2 k0 k1 k2 f2 z2
    generalize w2.setCell ⟨g, 2, none⟩ (.bool true) = w3 at G3 M3 ⊢
    obtain ⟨k0, k1, k2⟩ := rd_cells G3.out
    go_wp2_with fail
    go_ret
    exact ⟨by rw [HT.out]; rfl, by rw [HT.out]; exact G3.out, M3.out⟩
   ·have HT := Lib.hid (show R = (s.extract at_.toNat (at_ + n).toNat, at_ + n, false) by rw [HR.out]; unfold takeF; rw [if_neg (by rintro (h | h | h); cases h; exact hn h; exact hm h)])
    have d1 : decide (n > (s.size : Int) - at_) = false := decide_eq_false hm
    go_enter Tryz.func92, Tryz.ntmps92
    go_wp2_with fail
    have G2 := Lib.hid (blk_drew G1.out)
    have M2 := Lib.hid (Mod.of2 (g := g) (below_drew1 (Below.refl W.heap.size W)))
    refine start_ (n := 26) (S := fun w' => w'.heap[g]? = some (.cells (rdC s at_ false) TR_ (0, 0))) (ds := [25]) #[J,J,J,J,J,J,J,J,J,J,J,J,J,J,J,J,J,J,J,J,J,J,J,J,J,J] kr rfl rfl (blk_drew G1.out) (fun hHeld => ?_)
    refine with_tabW rT1_tab rT1_bits (fun HT_ HW_ => ?_)
    generalize W.drew = w2 at G2 M2 hHeld ⊢
    refine pu_ 0 5 (z 26 1) HT_ ?_
    refine pu_ 1 6 (z 26 3) HT_ ?_
    refine pu_ 2 7 (z 26 7) HT_ ?_
    refine pu_ 3 8 (z 26 15) HT_ ?_
    refine ta_ 4 9 (z 26 31) HT_ HW_ hHeld rfl b64_ ?_
    refine pu_ 5 10 (z 26 63) HT_ ?_
    refine pu_ 6 11 (z 26 127) HT_ ?_
    refine pu_ 7 12 (z 26 255) HT_ ?_
    refine pu_ 8 13 (z 26 511) HT_ ?_
    refine pu_ 9 14 (z 26 1023) HT_ ?_
    refine pu_ 10 15 (z 26 2047) HT_ ?_
    refine pu_ 11 16 (z 26 4095) HT_ ?_
    refine pu_ 12 17 (z 26 8191) HT_ ?_
    refine pu_ 13 18 (z 26 16383) HT_ ?_
    refine ta_ 14 19 (z 26 32767) HT_ HW_ hHeld rfl b64_ ?_
    refine pu_ 15 20 (z 26 65535) HT_ ?_
    refine pu_ 16 21 (z 26 131071) HT_ ?_
    refine pu_ 17 22 (z 26 262143) HT_ ?_
    refine pu_ 18 23 (z 26 524287) HT_ ?_
    refine ta_ 19 24 (z 26 1048575) HT_ HW_ hHeld rfl b64_ ?_
    refine pu_ 20 25 (z 26 2097151) HT_ ?_
    refine pu_ 21 26 (z 26 4194303) HT_ ?_
    refine pu_ 22 27 (z 26 8388607) HT_ ?_
    refine pu_ 23 28 (z 26 16777215) HT_ ?_
    refine pu_ 24 29 (z 26 33554431) HT_ ?_
    obtain ⟨k0, k1, k2⟩ := rd_cells G2.out
    have f2 := blk_frozen G2.out 2
    have z2 : g < w2.heap.size := blk_lt G2.out
    refine last_ (i := 25) (N := none) #[Y,Y,Y,Y,Y,Y,Y,Y,Y,Y,Y,Y,Y,Y,Y,Y,Y,Y,Y,Y,Y,Y,Y,Y,Y,Y] rfl rfl kr (by decide) (fun K hK => ?_)
    refine skip_ (w1 := w2.setCell ⟨g, 2, none⟩ (.bool false)) (by rfl) rfl (by go_simp; try rfl) ?_
    refine hK.out _ _ ?_
    clear hK K
    refine done_ (done_of HT_.out kr) ?_
    clear hHeld
    have G3 := Lib.hid (show (w2.setCell ⟨g, 2, none⟩ (.bool false)).heap[g]? = some (.cells (rdC s at_ false) TR_ (0, 0)) from (blk_set G2.out 2 _).trans rfl)
    have M3 := Lib.hid (M2.out.trans (Mod.cell g W.heap.size 2 w2 (.bool false)))
    clear G2 M2 k0 k1 k2 f2 z2
    generalize w2.setCell ⟨g, 2, none⟩ (.bool false) = w3 at G3 M3 ⊢
    obtain ⟨k0, k1, k2⟩ := rd_cells G3.out
    have f1 := blk_frozen G3.out 1
    have z3 : g < w3.heap.size := blk_lt G3.out
    have u1 := Num.w64 (n := at_ + n) (by omega) (by omega)
    go_wp2_with fail
    have G4 := Lib.hid (show (w3.setCell ⟨g, 1, none⟩ (.int .i64 (at_ + n))).heap[g]? = some (.cells (rdC s (at_ + n) false) TR_ (0, 0)) from (blk_set G3.out 1 _).trans rfl)
    have M4 := Lib.hid (M3.out.trans (Mod.cell g W.heap.size 1 w3 (.int .i64 (at_ + n))))
    clear G3 M3 k0 k1 k2 f1 z3
    generalize w3.setCell ⟨g, 1, none⟩ (.int .i64 (at_ + n)) = w4 at G4 M4 ⊢
    have u2 : wrap64 (at_ + n - n) = at_ := by rw [show at_ + n - n = at_ by omega]; exact Num.w64 (by omega) (by omega)
    have u3 : IntKind.i64.wrap (at_ + n - n) = at_ := (Num.wrap_eq _).trans u2
    have u4 : wrap64 at_ = at_ := Num.w64 (by omega) (by omega)
    have q1 : 0 ≤ at_ + n := by omega
    have q2 : at_ + n ≤ (s.size : Int) := by omega
    have q3 : at_ ≤ at_ + n := by omega
    have G5 := Lib.hid (blk_drew G4.out)
    have M5 := Lib.hid (M4.out.trans (Mod.of2 (g := g) (below_drew1 (Below.refl W.heap.size w4))))
    refine start_ (n := 16) (S := fun w' => w'.heap[g]? = some (.cells (rdC s (at_ + n) false) TR_ (0, 0))) (ds := []) #[J,J,J,J,J,J,J,J,J,J,J,J,J,J,J,J] kr rfl rfl (blk_drew G4.out) (fun hHeld => ?_)
    refine with_tabW rT5_tab rT5_bits (fun HT_ HW_ => ?_)
    generalize w4.drew = w5 at G5 M5 hHeld ⊢
    refine pu_ 0 42 (z 16 1) HT_ ?_
    refine pu_ 1 43 (z 16 3) HT_ ?_
    refine pu_ 2 44 (z 16 7) HT_ ?_
    refine ta_ 3 45 (z 16 15) HT_ HW_ hHeld rfl b64_ ?_
    refine pu_ 4 46 (z 16 31) HT_ ?_
    refine pu_ 5 47 (z 16 63) HT_ ?_
    refine pu_ 6 48 (z 16 127) HT_ ?_
    refine ta_ 7 49 (z 16 255) HT_ HW_ hHeld rfl b64_ ?_
    refine pu_ 8 50 (z 16 511) HT_ ?_
    refine pu_ 9 51 (z 16 1023) HT_ ?_
    refine pu_ 10 52 (z 16 2047) HT_ ?_
    refine pu_ 11 53 (z 16 4095) HT_ ?_
    refine pu_ 12 54 (z 16 8191) HT_ ?_
    refine ta_ 13 55 (z 16 16383) HT_ HW_ hHeld rfl b64_ ?_
    refine pu_ 14 56 (z 16 32767) HT_ ?_
    refine pu_ 15 4 (z 16 65535) HT_ ?_
    refine done_ (done_of HT_.out kr) ?_
    clear hHeld
    go_wp2_with fail
    go_ret
    exact ⟨by rw [HT.out]; rfl, by rw [HT.out]; exact G5.out, M5.out⟩
 ·have HT := Lib.hid (show R = (⟨#[]⟩, at_, true) by rw [HR.out]; unfold takeF; rw [if_pos (Or.inl rfl)])
  go_enter Tryz.func92, Tryz.ntmps92
  go_wp2_with fail
  have G2 := Lib.hid (blk_drew G1.out)
  have M2 := Lib.hid (Mod.of2 (g := g) (below_drew1 (Below.refl W.heap.size W)))
  refine start_ (n := 26) (S := fun w' => w'.heap[g]? = some (.cells (rdC s at_ true) TR_ (0, 0))) (ds := [25]) #[J,J,J,J,J,J,J,J,J,J,J,J,J,J,J,J,J,J,J,J,J,J,J,J,J,J] kr rfl rfl (blk_drew G1.out) (fun hHeld => ?_)
  refine with_tabW rT1_tab rT1_bits (fun HT_ HW_ => ?_)
  generalize W.drew = w2 at G2 M2 hHeld ⊢
  refine pu_ 0 5 (z 26 1) HT_ ?_
  refine pu_ 1 6 (z 26 3) HT_ ?_
  refine pu_ 2 7 (z 26 7) HT_ ?_
  refine pu_ 3 8 (z 26 15) HT_ ?_
  refine ta_ 4 9 (z 26 31) HT_ HW_ hHeld rfl b64_ ?_
  refine pu_ 5 10 (z 26 63) HT_ ?_
  refine ps_ 6 11 (z 26 127) HT_ ?_
  refine ps_ 7 12 (z 26 255) HT_ ?_
  refine pu_ 8 13 (z 26 511) HT_ ?_
  refine pu_ 9 14 (z 26 1023) HT_ ?_
  refine ps_ 10 15 (z 26 2047) HT_ ?_
  refine ps_ 11 16 (z 26 4095) HT_ ?_
  refine ps_ 12 17 (z 26 8191) HT_ ?_
  refine ps_ 13 18 (z 26 16383) HT_ ?_
  refine ps_ 14 19 (z 26 32767) HT_ ?_
  refine ps_ 15 20 (z 26 65535) HT_ ?_
  refine ps_ 16 21 (z 26 131071) HT_ ?_
  refine ps_ 17 22 (z 26 262143) HT_ ?_
  refine ps_ 18 23 (z 26 524287) HT_ ?_
  refine ps_ 19 24 (z 26 1048575) HT_ ?_
  refine ps_ 20 25 (z 26 2097151) HT_ ?_
  refine ps_ 21 26 (z 26 4194303) HT_ ?_
  refine pu_ 22 27 (z 26 8388607) HT_ ?_
  refine pu_ 23 28 (z 26 16777215) HT_ ?_
  refine pu_ 24 29 (z 26 33554431) HT_ ?_
  obtain ⟨k0, k1, k2⟩ := rd_cells G2.out
  have f2 := blk_frozen G2.out 2
  have z2 : g < w2.heap.size := blk_lt G2.out
  refine last_ (i := 25) (N := none) #[Y,Y,Y,Y,Y,Y,Y,Y,Y,Y,Y,Y,Y,Y,Y,Y,Y,Y,Y,Y,Y,Y,Y,Y,Y,Y] rfl rfl kr (by decide) (fun K hK => ?_)
  refine skip_ (w1 := w2.setCell ⟨g, 2, none⟩ (.bool true)) (by rfl) rfl (by go_simp; try rfl) ?_
  refine hK.out _ _ ?_
  clear hK K
  refine done_ (done_of HT_.out kr) ?_
  clear hHeld
  have G3 := Lib.hid (show (w2.setCell ⟨g, 2, none⟩ (.bool true)).heap[g]? = some (.cells (rdC s at_ true) TR_ (0, 0)) from (blk_set G2.out 2 _).trans rfl)
  have M3 := Lib.hid (M2.out.trans (Mod.cell g W.heap.size 2 w2 (.bool true)))
  clear G2 M2 k0 k1 k2 f2 z2
  generalize w2.setCell ⟨g, 2, none⟩ (.bool true) = w3 at G3 M3 ⊢
  obtain ⟨k0, k1, k2⟩ := rd_cells G3.out
  go_wp2_with fail
  go_ret
  exact ⟨by rw [HT.out]; rfl, by rw [HT.out]; exact G3.out, M3.out⟩
def fieldV (k : Nat) (s : ByteArray) : Option Int := (field_Get.f k s).map Prod.fst
theorem field_c (k g : Nat) (s : ByteArray) (at_ : Int) (bad : Bool) (n x : Int) (W : World) (h0 : 0 ≤ at_) (h1 : at_ ≤ s.size) (hs : s.size ≤ 140737488351232) (hx : fieldV k (takeF s at_ bad n).1 = some x) (hg : W.heap[g]? = some (.cells (rdC s at_ bad) TR_ (0, 0))) : Calls Tryz.prog 93 #[.pointer (some ⟨g, 0, none⟩), .int .i64 n] W fun e w' => e = .returned (.int .i64 x) ∧ w'.heap[g]? = some (.cells (rdC s (takeF s at_ bad n).2.1 (takeF s at_ bad n).2.2) TR_ (0, 0)) ∧ Mod g W.heap.size W w' := by
 obtain ⟨⟨x1, x2⟩, hf, rfl⟩ := Option.map_eq_some_iff.1 hx
 have TC := Lib.hid (take_c g s at_ bad n W h0 h1 hs hg)
 obtain ⟨R, hR⟩ : ∃ R, R = takeF s at_ bad n := ⟨_, rfl⟩
 rw [← hR] at TC hf ⊢
 have FC := Lib.hid (fun w => field_Get.calls k R.1 x1 x2 w hf)
 clear hR hx hf hg
 go_enter Tryz.func93, Tryz.ntmps93
 go_wp2_with fail
 refine TC.out.mono ?_
 rintro e w2 ⟨rfl, g2, m2⟩
 have G2 := Lib.hid g2
 have M2 := Lib.hid m2
 clear g2 m2 TC
 go_wp2_with fail
 refine (FC.out _).mono ?_
 rintro e w3 ⟨rfl, hb⟩
 have G3 := Lib.hid (blk_below G2.out hb.below)
 have M3 := Lib.hid (M2.out.trans (Mod.of (g := g) hb.below M2.out.size))
 clear hb
 go_wp2_with fail
 go_ret
 exact ⟨rfl, G3.out, M3.out⟩
def numG (k : Nat) (s : ByteArray) (at_ : Int) (bad : Bool) : Option (Int × Int × Bool) := (varint_Get.f k s at_).map fun r => if bad = true ∨ r.2.2 ≠ 0 then (0, at_, true) else (r.1, r.2.1, false)
theorem num_c (k g : Nat) (s : ByteArray) (at_ : Int) (bad : Bool) (R : Int × Int × Bool) (W : World) (hx : numG k s at_ bad = some R) (hg : W.heap[g]? = some (.cells (rdC s at_ bad) TR_ (0, 0))) : Calls Tryz.prog 94 #[.pointer (some ⟨g, 0, none⟩)] W fun e w' => e = .returned (.int .i64 R.1) ∧ w'.heap[g]? = some (.cells (rdC s R.2.1 R.2.2) TR_ (0, 0)) ∧ Mod g W.heap.size W w' := by
 have G1 := Lib.hid hg
 clear hg
 obtain ⟨⟨x, nx, er⟩, hv, hR⟩ := Option.map_eq_some_iff.1 hx
 have VC := Lib.hid (fun w => varint_Get.calls k s at_ x nx er w hv)
 have HR := Lib.hid hR
 clear hx hv hR
 go_enter Tryz.func94, Tryz.ntmps94
 go_wp2_with fail
 have G2 := Lib.hid (blk_drew G1.out)
 have M2 := Lib.hid (Mod.of2 (g := g) (below_drew1 (Below.refl W.heap.size W)))
 refine start_ (n := 16) (S := fun w' => w'.heap[g]? = some (.cells (rdC s at_ bad) TR_ (0, 0))) (ds := []) #[J,J,J,J,J,J,J,J,J,J,J,J,J,J,J,J] kr rfl rfl (blk_drew G1.out) (fun hHeld => ?_)
 refine with_tabW rN1_tab rN1_bits (fun HT_ HW_ => ?_)
 generalize W.drew = w2 at G2 M2 hHeld ⊢
 refine pu_ 0 7 (z 16 1) HT_ ?_
 refine pu_ 1 8 (z 16 3) HT_ ?_
 refine pu_ 2 9 (z 16 7) HT_ ?_
 refine ta_ 3 10 (z 16 15) HT_ HW_ hHeld rfl b64_ ?_
 refine pu_ 4 11 (z 16 31) HT_ ?_
 refine pu_ 5 12 (z 16 63) HT_ ?_
 refine pu_ 6 13 (z 16 127) HT_ ?_
 refine ta_ 7 14 (z 16 255) HT_ HW_ hHeld rfl b64_ ?_
 refine one_ (i := 8) (N := some 15) #[Y,Y,Y,Y,Y,Y,Y,Y,Y,J,J,J,J,J,J,J] rfl rfl (one_of HT_.out kr) (by decide) (fun K hK => ?_)
 refine goes_ Tryz.func139 kr rfl #[.string s, .int .i64 at_] (by rfl) rfl rfl b66_ ?_
 refine (VC.out _).mono ?_
 rintro e w3 ⟨rfl, hb⟩
 refine ⟨_, rfl, ?_⟩
 have G3 := Lib.hid (blk_below G2.out hb)
 have M3 := Lib.hid (M2.out.trans (Mod.of (g := g) hb M2.out.size))
 clear hb G2 M2 VC
 refine hK.out _ _ (G3.out) (fun hHeld => ?_)
 clear hK K
 refine norm_ (a' := ?_) ?_ ?_
 rotate_left
 ·show Act.put _ (some 15) _ = _
  exact pT
 refine pu_ 9 6 (z 16 1023) HT_ ?_
 refine pu_ 10 16 (z 16 2047) HT_ ?_
 refine pu_ 11 17 (z 16 4095) HT_ ?_
 refine pu_ 12 18 (z 16 8191) HT_ ?_
 refine pu_ 13 3 (z 16 16383) HT_ ?_
 refine pu_ 14 4 (z 16 32767) HT_ ?_
 refine pu_ 15 5 (z 16 65535) HT_ ?_
 refine done_ (done_of HT_.out kr) ?_
 clear hHeld
 obtain ⟨k0, k1, k2⟩ := rd_cells G3.out
 have f2 := blk_frozen G3.out 2
 have f1 := blk_frozen G3.out 1
 have z3 : g < w3.heap.size := blk_lt G3.out
 cases bad
 ·by_cases he : er = 0
  ·subst he
   have HT := Lib.hid (show R = (x, nx, false) by rw [← HR.out]; rfl)
   go_wp2_with fail
   have G4 := (blk_set ((blk_set G3.out 2 (.bool false)).trans (show _ = some (Obj.cells (rdC s at_ false) TR_ (0, 0)) from rfl)) 1 (.int .i64 nx)).trans (show _ = some (Obj.cells (rdC s nx false) TR_ (0, 0)) from rfl)
   have M4 := (M3.out.trans (Mod.cell g W.heap.size 2 w3 (.bool false))).trans (Mod.cell g W.heap.size 1 _ (.int .i64 nx))
   go_ret
   exact ⟨by rw [HT.out]; rfl, by rw [HT.out]; exact G4, M4⟩
  ·have he2 : (er != 0) = true := bne_iff_ne.2 he
   have he3 : (er == 0) = false := beq_eq_false_iff_ne.2 he
   have HT := Lib.hid (show R = (0, at_, true) by rw [← HR.out]; exact if_pos (Or.inr he))
   go_wp2_with fail
   have G4 := (blk_set G3.out 2 (.bool true)).trans (show _ = some (Obj.cells (rdC s at_ true) TR_ (0, 0)) from rfl)
   have M4 := M3.out.trans (Mod.cell g W.heap.size 2 w3 (.bool true))
   go_ret
   exact ⟨by rw [HT.out]; rfl, by rw [HT.out]; exact G4, M4⟩
 ·have HT := Lib.hid (show R = (0, at_, true) by rw [← HR.out]; exact if_pos (Or.inl rfl))
  go_wp2_with fail
  have G4 := (blk_set G3.out 2 (.bool true)).trans (show _ = some (Obj.cells (rdC s at_ true) TR_ (0, 0)) from rfl)
  have M4 := M3.out.trans (Mod.cell g W.heap.size 2 w3 (.bool true))
  go_ret
  exact ⟨by rw [HT.out]; rfl, by rw [HT.out]; exact G4, M4⟩
end Go.Proofs.YtnoibcdojfnicaaGreatDoor.PG
