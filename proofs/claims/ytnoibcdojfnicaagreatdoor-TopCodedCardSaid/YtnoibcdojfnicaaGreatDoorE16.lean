/- A part of the proof of a law of descanttop: this session's own texts and printed texts, shortened and joined. -/
import Derived.Test.YtnoibcdojfnicaaGreatDoorE15
set_option linter.unusedVariables false
set_option linter.unusedSimpArgs false
set_option maxRecDepth 100000
set_option maxHeartbeats 16000000
namespace Go.Proofs.YtnoibcdojfnicaaGreatDoor.PTp
open Go.Proofs.YtnoibcdojfnicaaGreatDoorW.Short
open Bool renaming true → Y, false → J
open Go Go.RowKit Go.Proofs.YtnoibcdojfnicaaGreatDoorW.PrintWords Go.Proofs.YtnoibcdojfnicaaGreatDoorW.PrintMore Go.Proofs.YtnoibcdojfnicaaGreatDoorW.PrintLast
attribute [-go_sem] Instr.loadAt Instr.storeAt Instr.build
attribute [local go_sem] load_int store_int
def mNewT : Bool × List (List Nat × List Nat) := (true, [([], []), ([], []), ([], []), ([], []), ([3, 0], [0, 3]), ([4, 1, 0, 1, 2], [1, 4]), ([5, 2, 2, 0, 1, 2], [2, 5])])
def mNewB : List Nat := [0, 0, 0, 0, 9, 31, 63]
theorem mNew_tab : rtab .any (opsOf Tryz.f11 9) = mNewT := by kernel_rfl
theorem mNew_bits : waitsOk mNewT.2 mNewB = true := by kernel_rfl
def mPT : Bool × List (List Nat × List Nat) := (true, [([], []), ([0], [0]), ([], []), ([2], [2]), ([3], [3]), ([1, 4, 4], [1, 4]), ([5], [5]), ([6], [6]), ([6], [6]), ([7, 5, 0, 1, 2, 3, 4, 5, 6, 7], [7]), ([8, 9, 0, 1, 2, 3, 4, 5, 6, 7, 8, 9], [8])])
def mPB : List Nat := [0, 1, 0, 4, 12, 31, 63, 127, 127, 255, 1023]
theorem mP_tab : rtab .any (opsOf Tryz.f13 3) = mPT := by kernel_rfl
theorem mP_bits : waitsOk mPT.2 mPB = true := by kernel_rfl
def mLT : Bool × List (List Nat × List Nat) := (true, [([], []), ([0], [0]), ([], []), ([2], [2]), ([], []), ([1, 3, 4, 3], [1, 3, 4]), ([5], [5]), ([6], [6]), ([6], [6]), ([0, 1, 2, 3, 4, 5, 6, 7], []), ([9, 7, 5, 0, 1, 2, 3, 4, 5, 6, 7], [7, 9])])
def mLB : List Nat := [0, 1, 0, 4, 0, 31, 63, 127, 127, 255, 767]
theorem mL_tab : rtab .any (opsOf Tryz.f15 4) = mLT := by kernel_rfl
theorem mL_bits : waitsOk mLT.2 mLB = true := by kernel_rfl
structure Mdl where
 n : Nat → Int
 w : T3
def nCells (n : Nat → Int) : Array Value := (Array.range 192).map fun j => Value.int .i64 (n j)
def Mdl.c (m : Mdl) : Array Value := nCells m.n ++ m.w.c
theorem nCells_size (n : Nat → Int) : (nCells n).size = 192 := by simp [nCells]
theorem nCells_at (n : Nat → Int) {j : Nat} (h : j < 192) : (nCells n)[j]? = some (.int .i64 (n j)) := by simp [nCells, h]
theorem Mdl.c_size (m : Mdl) : m.c.size = 195 := by simp [Mdl.c, nCells_size, T3.c]
theorem Mdl.c_n (m : Mdl) {j : Nat} (h : j < 192) : m.c[j]? = some (.int .i64 (m.n j)) := by
 unfold Mdl.c
 rw [Array.getElem?_append_left (by rw [nCells_size]; exact h)]
 exact nCells_at _ h
theorem Mdl.c_w (m : Mdl) {k : Nat} (h : k < 3) : m.c[192 + k]? = some (.int .i64 (m.w.at k)) := by
 unfold Mdl.c
 rw [Array.getElem?_append_right (by rw [nCells_size]; omega), nCells_size, show 192 + k - 192 = k by omega]
 exact m.w.c_at h
theorem Mdl.ext_c {m : Mdl} {cs : Array Value} (hs : cs.size = 195) (h1 : ∀ j, j < 192 → cs[j]? = some (.int .i64 (m.n j))) (h2 : ∀ k, k < 3 → cs[192 + k]? = some (.int .i64 (m.w.at k))) : cs = m.c := by
 apply Array.ext_getElem?
 intro i
 by_cases a : i < 192
 ·rw [h1 i a, m.c_n a]
 ·by_cases b : i < 195
  ·have e := h2 (i - 192) (by omega)
   have e2 := m.c_w (k := i - 192) (by omega)
   rw [show 192 + (i - 192) = i by omega] at e e2
   rw [e, e2]
  ·rw [Array.getElem?_eq_none (by omega), Array.getElem?_eq_none b81_]
theorem Mdl.c_one (m : Mdl) : m.c.all (·.oneCell') = true := by
 rw [Array.all_eq_true]
 intro i hi
 rw [m.c_size] at hi
 by_cases a : i < 192
 ·have e := m.c_n a
  rw [Array.getElem?_eq_getElem b81_] at e
  rw [Option.some.inj e]; rfl
 ·have e := m.c_w (k := i - 192) (by omega)
  rw [show 192 + (i - 192) = i by omega, Array.getElem?_eq_getElem b81_] at e
  rw [Option.some.inj e]; rfl
theorem Mdl.set_n (m : Mdl) {j : Nat} (h : j < 192) (v : Int) : m.c.setIfInBounds j (.int .i64 v) = (Mdl.mk (fun i => if i = j then v else m.n i) m.w).c := by
 refine Mdl.ext_c (by simp [m.c_size]) (fun i hi => ?_) (fun k hk => ?_)
 ·rw [Array.getElem?_setIfInBounds]
  by_cases e : i = j
  ·subst e; rw [if_pos rfl, if_pos b81_]; simp
  ·rw [if_neg (fun h => e h.symm), m.c_n hi]; simp [e]
 ·rw [Array.getElem?_setIfInBounds, if_neg (by omega)]
  exact m.c_w hk
theorem Mdl.set_w (m : Mdl) {k : Nat} (h : k < 3) (v : Int) : m.c.setIfInBounds (192 + k) (.int .i64 v) = (Mdl.mk m.n (T3.ofFn fun i => if i = k then v else m.w.at i)).c := by
 refine Mdl.ext_c (by simp [m.c_size]) (fun i hi => ?_) (fun j hj => ?_)
 ·rw [Array.getElem?_setIfInBounds, if_neg (by omega)]
  exact m.c_n hi
 ·rw [Array.getElem?_setIfInBounds, T3.ofFn_at _ hj]
  by_cases e : j = k
  ·subst e; rw [if_pos rfl, if_pos b81_]; simp
  ·rw [if_neg (by omega), m.c_w hj]; simp [e]
theorem Mdl.part_n (m : Mdl) {i j : Nat} (hi : i < 3) (hj : j < 64) : (m.c.extract (i * 64) (i * 64 + 64))[j]? = some (.int .i64 (m.n (i * 64 + j))) := by
 rw [Array.getElem?_extract, if_pos b81_]
 exact m.c_n (by omega)
theorem Mdl.part_w (m : Mdl) : m.c.extract 192 195 = m.w.c := by
 apply Array.ext_getElem?
 intro k
 rw [Array.getElem?_extract, m.c_size]
 by_cases a : k < 3
 ·rw [if_pos (by omega), m.c_w a, m.w.c_at a]
 ·rw [if_neg (by omega), Array.getElem?_eq_none (by show 3 ≤ k; omega)]
theorem Mdl.c_congr {m k : Mdl} (h1 : ∀ j, j < 192 → m.n j = k.n j) (h2 : m.w = k.w) : m.c = k.c :=
 Mdl.ext_c m.c_size (fun j hj => (m.c_n hj).trans (by rw [h1 j hj])) (fun j hj => (m.c_w hj).trans (by rw [h2]))
def mayM (m : Mdl) : Prop := (∀ j, j < 192 → countMay (m.n j) = true) ∧ all3 1048576 m.w = true
section
variable {w : World} {g : Nat} {T : TypeId} {m : Mdl} {fr : Nat × Nat}
theorem m_load (h : w.heap[g]? = some (.cells m.c T fr)) : (Instr.loadAt 28 (.pointer (some ⟨g, 0, none⟩))).run Tryz.prog w = .ok (.agg m.c) w :=
 Agg.load_all h 28 _ Tryz.underlying28 rfl ((show (Tryz.prog.info? 28).map (·.size) = some 195 by kernel_rfl).trans (by rw [m.c_size]))
theorem m_row (h : w.heap[g]? = some (.cells m.c T fr)) {i : Nat} (hi : i < 3) : (Instr.loadAt 24 (.pointer (some ⟨g, i * 64, none⟩))).run Tryz.prog w = .ok (.agg (m.c.extract (i * 64) (i * 64 + 64))) w :=
 Agg.load_part h (i * 64) 64 24 _ b81_ Tryz.underlying24 rfl kr
theorem m_weights (h : w.heap[g]? = some (.cells m.c T fr)) : (Instr.loadAt 26 (.pointer (some ⟨g, 192, none⟩))).run Tryz.prog w = .ok (.agg m.w.c) w :=
 (Agg.load_part h 192 3 26 _ b81_ Tryz.underlying26 rfl kr).trans (by rw [m.part_w])
theorem m_store (h : w.heap[g]? = some (.cells m.c T (0, 0))) (k : Mdl) : (Instr.storeAt 28 (.pointer (some ⟨g, 0, none⟩)) (.agg k.c)).run Tryz.prog w = .ok () (w.setRow g k.c) :=
 Agg.store_all h 28 k.c ((show (Tryz.prog.info? 28).map (·.size) = some 195 by kernel_rfl).trans (by rw [k.c_size])) (by rw [m.c_size, k.c_size]) k.c_one
theorem m_cells_w (h : w.heap[g]? = some (.cells m.c T fr)) : ∀ k, k < 3 → w.cell? ⟨g, 192 + k, none⟩ = some (.int .i64 (m.w.at k)) := fun k hk => (cell_of_row w g (192 + k) m.c T fr h).trans (m.c_w hk)
theorem m_cell_n (h : w.heap[g]? = some (.cells m.c T fr)) {j : Nat} (hj : j < 192) : w.cell? ⟨g, j, none⟩ = some (.int .i64 (m.n j)) := (cell_of_row w g j m.c T fr h).trans (m.c_n hj)
end
theorem mMay_c (m : Mdl) (W : World) (hm : mayM m) : Calls Tryz.prog 46 #[.agg m.c] W fun e w' => e = .returned (.bool true) ∧ Below W.heap.size W w' := by
 have HM := Lib.hid hm
 clear hm
 go_enter Tryz.func46, Tryz.ntmps46
 go_wp2_with fail
 have B1 := Lib.hid (blk_new W (.cells m.c 28))
 have HB := Lib.hid (below_alloc (Below.refl W.heap.size W) (.cells m.c 28))
 obtain ⟨g, hg⟩ : ∃ g, g = W.heap.size := ⟨_, rfl⟩
 rw [← hg] at B1 ⊢
 generalize W.alloc (.cells m.c 28) = w2 at B1 HB ⊢
 clear hg
 go_loop [6] (fun i => ∃ k : Nat, k ≤ 3 ∧ i = .int .i64 k) (fun i => 3 - (intOf i).toNat)
 case atStart => exact ⟨0, by omega, rfl⟩
 case round =>
  obtain ⟨k, hk, rfl⟩ := hrel
  by_cases hlt : k < 3
  ·have l1 := m_row B1.out hlt
   obtain ⟨R, hR⟩ : ∃ R, R = m.c.extract (k * 64) (k * 64 + 64) := ⟨_, rfl⟩
   rw [← hR] at l1
   have HR := Lib.hid hR
   clear hR
   go_wp2_with fail
   clear l1
   go_loop [13] (fun i => ∃ j : Nat, j ≤ 64 ∧ i = .int .i64 j) (fun i => 64 - (intOf i).toNat)
   case atStart => exact ⟨0, by omega, rfl⟩
   case round =>
    obtain ⟨j, hj, rfl⟩ := hrel
    by_cases hlj : j < 64
    ·have i1 := Agg.idx64 R j hlj _ (by rw [HR.out]; exact m.part_n hlt hlj)
     have c1 := HM.out.1 (k * 64 + j) (by omega)
     obtain ⟨x, hx⟩ : ∃ x, x = m.n (k * 64 + j) := ⟨_, rfl⟩
     rw [← hx] at i1 c1
     clear hx
     go_wp2_with (go_at_call 109; refine (countMay_c _ _).mono ?_; rintro e w' ⟨rfl, hw⟩; have hw := hw.symm; subst hw; rw [c1])
     go_round
     case rel => exact ⟨j + 1, by omega, by go_num⟩
     case measure => simp [intOf]; omega
    ·obtain rfl : j = 64 := by omega
     go_wp2_with fail
     go_round
     case rel => exact ⟨k + 1, by omega, by go_num⟩
     case measure => simp [intOf]; omega
  ·obtain rfl : k = 3 := by omega
   go_wp2_with (go_at_call 110; refine (weights_c g 192 m.w w2 (m_cells_w B1.out)).mono ?_; rintro e w' ⟨rfl, hw⟩; have hw := hw.symm; subst hw; rw [HM.out.2])
   go_ret
   exact ⟨rfl, HB.out⟩
def seenC (g : Nat) (t : T3) : Array Value := #[.pointer (some ⟨g, 0, none⟩), .int .i64 (t.at 0), .int .i64 (t.at 1), .int .i64 (t.at 2)]
theorem build_seen (w : World) (g : Nat) (t : T3) : (Instr.build 107 #[(0, .pointer (some ⟨g, 0, none⟩)), (1, .agg t.c)]).run Tryz.prog w = .ok (.agg (seenC g t)) w := by kernel_rfl
theorem seen_load {w : World} {b g : Nat} {T : TypeId} {t : T3} {fr : Nat × Nat} (h : w.heap[b]? = some (.cells (seenC g t) T fr)) : (Instr.loadAt 107 (.pointer (some ⟨b, 0, none⟩))).run Tryz.prog w = .ok (.agg (seenC g t)) w :=
 Agg.load_all h 107 _ Tryz.underlying107 rfl kr
theorem load_pm (v : Value) : Instr.loadAt 105 v = (do loadVar 105 (← Instr.sureAddr v)) := rfl
attribute [local go_sem] load_pm
theorem seenC_at (g : Nat) (t : T3) {k : Nat} (h : k < 3) : (seenC g t)[1 + k]? = some (.int .i64 (t.at k)) := by
 rcases show k = 0 ∨ k = 1 ∨ k = 2 by omega with rfl | rfl | rfl <;> rfl
theorem counter_c (g : Nat) (t : T3) (k : Nat) (W : World) (hk : k < 3) (ht : there3 t = true) {T : TypeId} {cs : Array Value} {fr : Nat × Nat} (hW : W.heap[g]? = some (.cells cs T fr)) : Calls Tryz.prog 56 #[.agg (seenC g t), .int .i64 (k : Int)] W fun e w' => e = .returned (.pointer (some ⟨g, k * 64 + (t.at k).toNat, none⟩)) ∧ Below W.heap.size W w' := by
 have h1 := of_decide_eq_true (there3_iff.1 ht k hk)
 obtain ⟨x, hx⟩ : ∃ x, x = t.at k := ⟨_, rfl⟩
 have S := Lib.hid (seenC_at g t hk)
 rw [← hx] at h1 S ⊢
 clear hx
 obtain ⟨h1, h2⟩ := h1
 go_enter Tryz.func56, Tryz.ntmps56
 go_wp2_with fail
 have B1 := Lib.hid (blk_new W (.cells (seenC g t) 107))
 have HB := Lib.hid (below_alloc (Below.refl W.heap.size W) (.cells (seenC g t) 107))
 have M1 := Lib.hid (blk_alloc hW (.cells (seenC g t) 107))
 obtain ⟨b, hb⟩ : ∃ b, b = W.heap.size := ⟨_, rfl⟩
 rw [← hb] at B1 ⊢
 generalize W.alloc (.cells (seenC g t) 107) = w2 at B1 HB M1 ⊢
 clear hb
 have c0 : w2.cell? ⟨b, 0, none⟩ = some (.pointer (some ⟨g, 0, none⟩)) := (blk_cell B1.out 0).trans rfl
 have c1 : w2.cell? ⟨b, 1 + k, none⟩ = some (.int .i64 x) := (blk_cell B1.out (1 + k)).trans S.out
 go_quiet (fail)
 go_wp2_with fail
 go_ret
 exact ⟨rfl, below_then HB.out HB.out.size (pw_below_drewN (Below.refl _ _) _)⟩
def mZero : Mdl := ⟨fun _ => 0, (0, 0, 0)⟩
def mNew : Mdl := ⟨fun _ => 32768, (22000, 22000, 22000)⟩
theorem shutM : Tryz.zeroCells28 = mZero.c := by kernel_rfl
theorem countNew_c (w : World) : Calls Tryz.prog 45 #[] w fun e w' => e = .returned (.int .i64 32768) ∧ w' = w := by
 go_enter Tryz.func45, Tryz.ntmps45
 go_wp2
 go_ret
 exact ⟨rfl, rfl⟩
def mUpto (k j r : Nat) : Mdl := ⟨fun i => if i < k * 64 + j then 32768 else 0, T3.ofFn fun i => if i < r then 22000 else 0⟩
theorem upto_start : mZero.c = (mUpto 0 0 0).c := Mdl.c_congr (fun j hj => by show 0 = if j < 0 * 64 + 0 then (32768 : Int) else 0; rw [if_neg (by omega)]) rfl
theorem upto_w {k : Nat} (hlt : k < 3) : (mUpto k 0 k).c.setIfInBounds (192 + k) (.int .i64 22000) = (mUpto k 0 (k + 1)).c := by
 rw [Mdl.set_w _ hlt]
 refine Mdl.c_congr (fun j hj => rfl) ?_
 refine T3.ofFn_ext (f := fun j => if j = k then 22000 else (T3.ofFn fun i => if i < k then 22000 else 0).at j) (g := fun j => if j < k + 1 then 22000 else 0) (fun j hj => ?_)
 show (if j = k then 22000 else (T3.ofFn fun i => if i < k then 22000 else 0).at j) = if j < k + 1 then 22000 else 0
 rw [T3.ofFn_at _ hj]
 by_cases h : j = k
 ·rw [if_pos h, if_pos (by omega)]
 ·rw [if_neg h]
  by_cases h2 : j < k
  ·rw [if_pos h2, if_pos (by omega)]
  ·rw [if_neg h2, if_neg (by omega)]
theorem upto_n {k j r : Nat} (hlt : k < 3) (hj : j < 64) : (mUpto k j r).c.setIfInBounds (k * 64 + j) (.int .i64 32768) = (mUpto k (j + 1) r).c := by
 rw [Mdl.set_n _ (by omega)]
 refine Mdl.c_congr (fun i hi => ?_) rfl
 show (if i = k * 64 + j then 32768 else if i < k * 64 + j then 32768 else 0) = if i < k * 64 + (j + 1) then (32768 : Int) else 0
 by_cases h : i = k * 64 + j
 ·rw [if_pos h, if_pos (by omega)]
 ·rw [if_neg h]
  by_cases h2 : i < k * 64 + j
  ·rw [if_pos h2, if_pos (by omega)]
  ·rw [if_neg h2, if_neg (by omega)]
theorem upto_row {k r : Nat} : (mUpto k 64 r).c = (mUpto (k + 1) 0 r).c := Mdl.c_congr (fun i hi => by show (if i < k * 64 + 64 then (32768 : Int) else 0) = if i < (k + 1) * 64 + 0 then 32768 else 0; rw [show (k + 1) * 64 + 0 = k * 64 + 64 by omega]) rfl
theorem upto_end : (mUpto 3 0 3).c = mNew.c := Mdl.c_congr (fun i hi => by show (if i < 3 * 64 + 0 then (32768 : Int) else 0) = 32768; rw [if_pos (by omega)]) rfl
theorem mNew_c (W : World) : Calls Tryz.prog 11 #[] W fun e w' => e = .returned (.agg mNew.c) ∧ Below W.heap.size W w' := by
 go_enter Tryz.func11, Tryz.ntmps11
 go_wp2_with fail
 have B0 := Lib.hid (blk_alloc (blk_new W (.cells Tryz.zeroCells28 28)) (.cells Tryz.zeroCells28 28))
 have B1 := Lib.hid (blk_new (W.alloc (.cells Tryz.zeroCells28 28)) (.cells Tryz.zeroCells28 28))
 have HB := Lib.hid (below_alloc (below_alloc (Below.refl W.heap.size W) (.cells Tryz.zeroCells28 28)) (.cells Tryz.zeroCells28 28))
 rw [show (W.alloc (.cells Tryz.zeroCells28 28)).heap.size = W.heap.size + 1 by simp] at B1
 obtain ⟨n, hn⟩ : ∃ n, n = W.heap.size := ⟨_, rfl⟩
 have hwn : W.heap.size ≤ n := by omega
 rw [← hn] at B0 B1 ⊢
 generalize (W.alloc (.cells Tryz.zeroCells28 28)).alloc (.cells Tryz.zeroCells28 28) = w2 at B0 B1 HB ⊢
 rw [shutM] at B0 B1
 clear hn
 go_loopw [4] (fun i wr => ∃ k : Nat, k ≤ 3 ∧ i = .int .i64 k ∧ Hid (wr.heap[n]? = some (.cells mZero.c 28 (0, 0))) ∧ Hid (wr.heap[n + 1]? = some (.cells (mUpto k 0 k).c 28 (0, 0))) ∧ Hid (Below W.heap.size W wr)) (fun i _ => 3 - (intOf i).toNat)
 case atStart => exact ⟨0, by omega, rfl, B0, Lib.hid (B1.out.trans (by rw [upto_start])), HB⟩
 case round =>
  obtain ⟨k, hk, rfl, b0, b1, hB⟩ := hrel
  by_cases hlt : k < 3
  ·have z1 : n + 1 < wr.heap.size := blk_lt b1.out
   have c1 := (blk_cell b1.out (192 + k)).trans ((mUpto k 0 k).c_w hlt)
   have f1 := blk_frozen b1.out (192 + k)
   go_wp2_with fail
   have D1 := Lib.hid ((blk_set b1.out (192 + k) (.int .i64 22000)).trans (by rw [upto_w hlt]))
   have D0 := Lib.hid (blk_far b0.out (p := ⟨n + 1, 192 + k, none⟩) (by simp) (.int .i64 22000))
   have DB := Lib.hid (hB.out.setCell (p := ⟨n + 1, 192 + k, none⟩) (by show W.heap.size ≤ n + 1; omega) (.int .i64 22000))
   clear b0 b1 hB c1 f1 z1
   generalize wr.setCell ⟨n + 1, 192 + k, none⟩ (.int .i64 22000) = w3 at D0 D1 DB ⊢
   go_loopw [10] (fun i wr => ∃ j : Nat, j ≤ 64 ∧ i = .int .i64 j ∧ Hid (wr.heap[n]? = some (.cells mZero.c 28 (0, 0))) ∧ Hid (wr.heap[n + 1]? = some (.cells (mUpto k j (k + 1)).c 28 (0, 0))) ∧ Hid (Below W.heap.size W wr)) (fun i _ => 64 - (intOf i).toNat)
   case atStart => exact ⟨0, by omega, rfl, D0, D1, DB⟩
   case round =>
    obtain ⟨j, hj, rfl, b0, b1, hB⟩ := hrel
    by_cases hlj : j < 64
    ·go_wp2_with fail
     clear D0 D1 DB
     have E1 := Lib.hid (blk_drew b1.out)
     have E0 := Lib.hid (blk_drew b0.out)
     have EB := Lib.hid (below_drew1 hB.out)
     refine start_ (n := 7) (S := fun w' => True) (ds := []) #[J,J,J,J,J,J,J] kr rfl rfl (trivial) (fun hHeld => ?_)
     refine with_tabW mNew_tab mNew_bits (fun HT_ HW_ => ?_)
     generalize wr.drew = w3 at E1 E0 EB hHeld ⊢
     clear b1 b0 hB
     refine pu_ 0 13 (z 7 1) HT_ ?_
     refine pu_ 1 14 (z 7 3) HT_ ?_
     refine pu_ 3 16 (z 7 11) HT_ ?_
     refine pu_ 4 17 (z 7 27) HT_ ?_
     refine one_ (i := 2) (N := some 15) #[Y,Y,Y,Y,Y,J,J] rfl rfl (one_of HT_.out kr) (by decide) (fun K hK => ?_)
     refine goes_ Tryz.func45 kr rfl #[] (by rfl) rfl rfl b66_ ?_
     refine (countNew_c _).mono ?_
     rintro e w4 ⟨rfl, hw⟩; have hw := hw.symm; subst hw
     refine ⟨_, rfl, ?_⟩
     refine hK.out _ _ (trivial) (fun hHeld => ?_)
     clear hK K
     refine norm_ (a' := ?_) ?_ ?_
     rotate_left
     ·show Act.put _ (some 15) _ = _
      exact pT
     refine pu_ 5 18 (z 7 63) HT_ ?_
     have c1 := m_cell_n E1.out (j := k * 64 + j) (by omega)
     have f1 := blk_frozen E1.out (k * 64 + j)
     refine one_ (i := 6) (N := none) #[Y,Y,Y,Y,Y,Y,Y] rfl rfl (one_of HT_.out kr) (by decide) (fun K hK => ?_)
     refine skip_ (w1 := ?_) (by rfl) rfl ?_ ?_
     rotate_left
     ·go_simp
      rfl
     refine hK.out _ _ (trivial) (fun hHeld => ?_)
     clear hK K
     refine done_ (done_of HT_.out kr) ?_
     clear hHeld
     go_wp2_with fail
     exact ⟨⟨j + 1, by omega, by go_num, Lib.hid (blk_far E0.out (by simp) _), Lib.hid ((blk_set E1.out (k * 64 + j) _).trans (by rw [upto_n hlt hlj])), Lib.hid (EB.out.setCell (by show W.heap.size ≤ n + 1; omega) _)⟩, by simp [intOf]; omega⟩
    ·obtain rfl : j = 64 := by omega
     rw [upto_row] at b1
     clear D0 D1 DB
     go_wp2_with fail
     exact ⟨⟨k + 1, by omega, by go_num, b0, b1, hB⟩, by simp [intOf]; omega⟩
  ·obtain rfl : k = 3 := by omega
   rw [upto_end] at b1
   have l1 := m_load b1.out
   have s1 := m_store b0.out mNew
   go_wp2_with fail
   exact bodyPost_ret (Agg.results_c rfl _ _ n 28 mNew.c (0, 0) _ rfl (Agg.blk_row b0.out _) Tryz.underlying28 rfl ((show (Tryz.prog.info? 28).map (·.size) = some 195 by kernel_rfl).trans (by rw [Mdl.c_size]))) rfl ⟨rfl, Agg.below_row hB.out hwn _⟩
def inputsF (m : Mdl) (t : T3) : T3 := T3.ofFn fun k => stretchF (countP (m.n (k * 64 + (t.at k).toNat)))
theorem inputs_in (m : Mdl) (t : T3) : all3 2047 (inputsF m t) = true := all3_iff.2 (fun k hk => by
 unfold inputsF
 rw [T3.ofFn_at _ hk]
 exact decide_eq_true (stretch_in _))
theorem countP_in (c : Int) : 1 ≤ countP c ∧ countP c ≤ 4095 := by
 unfold countP mn mx; (repeat' split) <;> omega
def sel (n : Mdl) (t : T3) (k : Nat) : T3 := T3.ofFn fun i => if i < k then (inputsF n t).at i else 0
theorem sel_set (m : Mdl) (t : T3) {k : Nat} (hk : k < 3) : (sel m t k).c.setIfInBounds k (.int .i64 ((inputsF m t).at k)) = (sel m t (k + 1)).c := by
 unfold sel
 rw [T3.ofFn_set _ hk, T3.ofFn_ext (g := fun i => if i < k + 1 then (inputsF m t).at i else 0) (fun j _ => ?_)]
 by_cases h : j = k
 ·subst h; rw [if_pos rfl, if_pos (by omega)]
 ·rw [if_neg h]
  by_cases h2 : j < k
  ·rw [if_pos h2, if_pos (by omega)]
  ·rw [if_neg h2, if_neg (by omega)]
theorem sel_end (m : Mdl) (t : T3) : sel m t 3 = inputsF m t := (T3.ofFn_ext (fun j hj => if_pos hj)).trans (T3.ofFn_self _)
theorem mInputs_c (g : Nat) (m : Mdl) (t : T3) (W : World) (hT : Extra.Laid W) (hm : mayM m) (ht : there3 t = true) {T : TypeId} (hW : W.heap[g]? = some (.cells m.c T (0, 0))) : Calls Tryz.prog 49 #[.agg (seenC g t)] W fun e w' => e = .returned (.agg (inputsF m t).c) ∧ Below W.heap.size W w' := by
 have HT0 := Lib.hid hT
 have HM := Lib.hid hm
 clear hT hm
 go_enter Tryz.func49, Tryz.ntmps49
 go_wp2_with fail
 have B0 := Lib.hid (blk_alloc (blk_alloc (blk_new W (.cells (seenC g t) 107)) (.cells #[.int .i64 0, .int .i64 0, .int .i64 0] 26)) (.cells #[.int .i64 0, .int .i64 0, .int .i64 0] 26))
 have B1 := Lib.hid (blk_alloc (blk_new (W.alloc (.cells (seenC g t) 107)) (.cells (sel m t 0).c 26)) (.cells #[.int .i64 0, .int .i64 0, .int .i64 0] 26))
 have B2 := Lib.hid (blk_new ((W.alloc (.cells (seenC g t) 107)).alloc (.cells #[.int .i64 0, .int .i64 0, .int .i64 0] 26)) (.cells (sel m t 0).c 26))
 have HB := Lib.hid (below_alloc (below_alloc (below_alloc (Below.refl W.heap.size W) (.cells (seenC g t) 107)) (.cells #[.int .i64 0, .int .i64 0, .int .i64 0] 26)) (.cells #[.int .i64 0, .int .i64 0, .int .i64 0] 26))
 have M0 := Lib.hid (blk_below hW HB.out)
 rw [show (W.alloc (.cells (seenC g t) 107)).heap.size = W.heap.size + 1 by simp] at B1
 rw [show ((W.alloc (.cells (seenC g t) 107)).alloc (.cells #[.int .i64 0, .int .i64 0, .int .i64 0] 26)).heap.size = W.heap.size + 2 by simp] at B2
 replace B1 : Hid (((((W.alloc (.cells (seenC g t) 107)).alloc (.cells #[.int .i64 0, .int .i64 0, .int .i64 0] 26)).alloc (.cells #[.int .i64 0, .int .i64 0, .int .i64 0] 26))).heap[W.heap.size + 1]? = some (.cells (sel m t 0).c 26 (0, 0))) := B1
 replace B2 : Hid (((((W.alloc (.cells (seenC g t) 107)).alloc (.cells #[.int .i64 0, .int .i64 0, .int .i64 0] 26)).alloc (.cells #[.int .i64 0, .int .i64 0, .int .i64 0] 26))).heap[W.heap.size + 2]? = some (.cells (sel m t 0).c 26 (0, 0))) := B2
 have hgW := blk_lt hW
 obtain ⟨n, hn⟩ : ∃ n, n = W.heap.size := ⟨_, rfl⟩
 have hwn : W.heap.size ≤ n := by omega
 have hgn : g < n := by omega
 rw [← hn] at B0 B1 B2 ⊢
 generalize ((W.alloc (.cells (seenC g t) 107)).alloc (.cells #[.int .i64 0, .int .i64 0, .int .i64 0] 26)).alloc (.cells #[.int .i64 0, .int .i64 0, .int .i64 0] 26) = w2 at B0 B1 B2 HB M0 ⊢
 clear hn hgW
 go_loopw [7] (fun i wr => ∃ k : Nat, k ≤ 3 ∧ i = .int .i64 k ∧ Hid (wr.heap[n]? = some (.cells (seenC g t) 107 (0, 0))) ∧ Hid (wr.heap[n + 1]? = some (.cells (sel m t 0).c 26 (0, 0))) ∧ Hid (wr.heap[n + 2]? = some (.cells (sel m t k).c 26 (0, 0))) ∧ Hid (wr.heap[g]? = some (.cells m.c T (0, 0))) ∧ Hid (Below W.heap.size W wr)) (fun i _ => 3 - (intOf i).toNat)
 case atStart => exact ⟨0, by omega, rfl, B0, B1, B2, M0, HB⟩
 case round =>
  obtain ⟨k, hk, rfl, b0, b1, b2, mb, hB⟩ := hrel
  clear B0 B1 B2 HB M0
  by_cases hlt : k < 3
  ·have l1 := seen_load b0.out
   go_wp2_with fail
   clear l1
   refine (counter_c g t k _ hlt ht mb.out).mono ?_
   rintro e w3 ⟨rfl, hb⟩
   have c0 := Lib.hid (blk_below b0.out hb)
   have c1 := Lib.hid (blk_below b1.out hb)
   have c2 := Lib.hid (blk_below b2.out hb)
   have cm := Lib.hid (blk_below mb.out hb)
   have hC := Lib.hid (below_step hB.out hb)
   clear hb b0 b1 b2 mb hB
   have q := of_decide_eq_true (there3_iff.1 ht k hlt)
   have hi : k * 64 + (t.at k).toNat < 192 := by omega
   have cc := m_cell_n cm.out hi
   have V := Lib.hid (show (inputsF m t).at k = stretchF (countP (m.n (k * 64 + (t.at k).toNat))) from T3.ofFn_at _ hlt)
   have cy := HM.out.1 _ hi
   obtain ⟨a, ha⟩ : ∃ a, a = (t.at k).toNat := ⟨_, rfl⟩
   obtain ⟨x, hx⟩ : ∃ x, x = m.n (k * 64 + (t.at k).toNat) := ⟨_, rfl⟩
   rw [← hx] at cc V cy
   rw [← ha] at cc hi ⊢
   have cp := countP_in x
   have CY := Lib.hid cy
   clear ha hx q cy
   go_wp2_with (go_at_call 114; refine (countP_c _ _ CY.out).mono ?_; rintro e w' ⟨rfl, hw⟩; have hw := hw.symm; subst hw)
   refine (stretch_c (countP x) _ (HT0.out.below_ hC.out) (by omega) (by omega)).mono ?_
   rintro e w4 ⟨rfl, hb⟩
   have d0 := Lib.hid (blk_below c0.out hb)
   have d1 := Lib.hid (blk_below c1.out hb)
   have d2 := Lib.hid (blk_below c2.out hb)
   have dm := Lib.hid (blk_below cm.out hb)
   have hD := Lib.hid (below_step hC.out hb)
   clear hb c0 c1 c2 cm hC cc
   obtain ⟨v, hv⟩ : ∃ v, v = stretchF (countP x) := ⟨_, rfl⟩
   rw [← hv] at V ⊢
   clear hv cp
   have e2 := (blk_cell d2.out k).trans (T3.c_at _ hlt)
   have f2 := blk_frozen d2.out k
   have z2 : n + 2 < w4.heap.size := blk_lt d2.out
   go_wp2_with fail
   exact ⟨⟨k + 1, by omega, by go_num, Lib.hid (blk_far d0.out (p := ⟨n + 2, k, none⟩) (by show n ≠ n + 2; omega) _), Lib.hid (blk_far d1.out (p := ⟨n + 2, k, none⟩) (by show n + 1 ≠ n + 2; omega) _), Lib.hid ((blk_set d2.out k _).trans (by rw [← V.out, sel_set m t hlt])), Lib.hid (blk_far dm.out (p := ⟨n + 2, k, none⟩) (by show g ≠ n + 2; omega) _), Lib.hid (hD.out.setCell (by show W.heap.size ≤ n + 2; omega) _)⟩, by simp [intOf]; omega⟩
  ·obtain rfl : k = 3 := by omega
   rw [sel_end] at b2
   have l1 := t3_load b2.out
   have s1 := t3_store b1.out (inputsF m t)
   go_wp2_with fail
   exact bodyPost_ret (Agg.results_c rfl _ _ (n + 1) 26 (inputsF m t).c (0, 0) _ rfl (Agg.blk_row b1.out _) Tryz.underlying26 rfl kr) rfl ⟨rfl, Agg.below_row hB.out (by omega) _⟩
def chanceF (m : Mdl) (t : T3) : Int := dotF m.w (inputsF m t)
theorem mP_c (m : Mdl) (t : T3) (W : World) (hT : Extra.Laid W) (hM : mayM m) (hC : there3 t = true) : Calls Tryz.prog 13 #[.agg m.c, .agg t.c] W fun e w' => e = .returned (.tuple #[.int .i64 (chanceF m t), .int .i64 0]) ∧ Below W.heap.size W w' := by
 have HT := Lib.hid hT
 have hm := Lib.hid hM
 have ht := Lib.hid hC
 clear hT hM hC
 go_enter Tryz.func13, Tryz.ntmps13
 have B0 := Lib.hid (blk_alloc (blk_new W (.cells m.c 28)) (.cells t.c 26))
 have B1 := Lib.hid (blk_new (W.alloc (.cells m.c 28)) (.cells t.c 26))
 have HB := Lib.hid (below_alloc (below_alloc (Below.refl W.heap.size W) (.cells m.c 28)) (.cells t.c 26))
 have l1 := m_load B0.out
 rw [show (W.alloc (.cells m.c 28)).heap.size = W.heap.size + 1 by simp] at B1
 go_wp2_with fail
 clear l1
 refine (mMay_c m _ hm.out).mono ?_
 rintro e w4 ⟨rfl, hb⟩
 have d0 := Lib.hid (blk_below B0.out hb)
 have d1 := Lib.hid (blk_below B1.out hb)
 have hD := Lib.hid (below_step HB.out hb)
 clear hb B0 B1 HB
 obtain ⟨n, hn⟩ : ∃ n, n = W.heap.size := ⟨_, rfl⟩
 have hwn : W.heap.size ≤ n := by omega
 rw [← hn] at d0 d1 ⊢
 clear hn
 go_wp2_with (go_at_call 47; refine (there_c (n + 1) 0 t _ (t3_cells d1.out)).mono ?_; rintro e w' ⟨rfl, hw⟩; have hw := hw.symm; subst hw; rw [ht.out])
 have E0 := Lib.hid (blk_drew d0.out)
 have E1 := Lib.hid (blk_drew d1.out)
 have EB := Lib.hid (below_drew1 hD.out)
 refine start_ (n := 11) (S := fun w' => w'.heap[n]? = some (.cells m.c 28 (0, 0)) ∧ w'.heap[n + 1]? = some (.cells t.c 26 (0, 0))) (ds := []) #[J,J,J,J,J,J,J,J,J,J,J] kr rfl rfl (⟨blk_drew d0.out, blk_drew d1.out⟩) (fun hHeld => ?_)
 refine with_tabW mP_tab mP_bits (fun HT_ HW_ => ?_)
 generalize w4.drew = w5 at E0 E1 EB hHeld ⊢
 clear d0 d1 hD
 refine pu_ 0 16 (z 11 1) HT_ ?_
 refine ta_ 1 17 (z 11 3) HT_ HW_ hHeld rfl (by rintro w' ⟨s0, s1⟩; have ld := m_weights s0; go_simp; with_reducible rfl) ?_
 refine ta_ 2 18 (z 11 7) HT_ HW_ hHeld rfl b67_ ?_
 refine pure_ (i := 3) (N := some 19) (v := ?_) (a' := ?_) #[Y,Y,Y,Y,J,J,J,J,J,J,J] rfl rfl (any_of HT_.out kr) (fun _ _ _ h => h) (Or.inl ⟨by rfl, ?_⟩) ?_ ?_
 rotate_left
 ·intro w'
  have bs := fun w => build_seen w n t
  go_simp
  with_reducible rfl
 rotate_left
 ·exact pT
 refine one_ (i := 4) (N := some 20) #[Y,Y,Y,Y,Y,J,J,J,J,J,J] rfl rfl (one_of HT_.out kr) (by decide) (fun K hK => ?_)
 refine goes_ Tryz.func49 kr rfl #[.agg (seenC n t)] (by rfl) rfl rfl b66_ ?_
 refine (mInputs_c n m t _ (HT.out.below_ EB.out) hm.out ht.out E0.out).mono ?_
 rintro e w6 ⟨rfl, hb⟩
 refine ⟨_, rfl, ?_⟩
 have F0 := Lib.hid (blk_below E0.out hb)
 have F1 := Lib.hid (blk_below E1.out hb)
 have FB := Lib.hid (below_step EB.out hb)
 clear hb E0 E1 EB
 refine hK.out _ _ (⟨F0.out, F1.out⟩) (fun hHeld => ?_)
 clear hK K
 refine norm_ (a' := ?_) ?_ ?_
 rotate_left
 ·show Act.put _ (some 20) _ = _
  exact pT
 refine one_ (i := 5) (N := some 21) #[Y,Y,Y,Y,Y,Y,J,J,J,J,J] rfl rfl (one_of HT_.out kr) (by decide) (fun K hK => ?_)
 refine goes_ Tryz.func48 kr rfl #[.agg m.w.c, .agg (inputsF m t).c] (by rfl) rfl rfl b66_ ?_
 refine (dot_c m.w (inputsF m t) _ (HT.out.below_ FB.out) hm.out.2 (inputs_in m t)).mono ?_
 rintro e w7 ⟨rfl, hb⟩
 refine ⟨_, rfl, ?_⟩
 have G0 := Lib.hid (blk_below F0.out hb)
 have G1 := Lib.hid (blk_below F1.out hb)
 have GB := Lib.hid (below_step FB.out hb)
 clear hb F0 F1 FB
 refine hK.out _ _ (⟨G0.out, G1.out⟩) (fun hHeld => ?_)
 clear hK K
 refine norm_ (a' := ?_) ?_ ?_
 rotate_left
 ·show Act.put _ (some 21) _ = _
  exact pT
 refine pu_ 6 15 (z 11 127) HT_ ?_
 refine pu_ 7 22 (z 11 255) HT_ ?_
 refine pu_ 8 23 (z 11 511) HT_ ?_
 refine pu_ 9 6 (z 11 1023) HT_ ?_
 refine pu_ 10 7 (z 11 2047) HT_ ?_
 refine done_ (done_of HT_.out kr) ?_
 clear hHeld
 go_wp2_with fail
 go_ret2
 exact ⟨rfl, GB.out⟩
theorem m_setW {w : World} {g : Nat} {T : TypeId} {m : Mdl} (h : w.heap[g]? = some (.cells m.c T (0, 0))) (u : T3) : (w.setCells g 192 u.c.toList).heap[g]? = some (.cells (Mdl.mk m.n u).c T (0, 0)) := by
 show (((w.setCell ⟨g, 192, none⟩ (.int .i64 (u.at 0))).setCell ⟨g, 193, none⟩ (.int .i64 (u.at 1))).setCell ⟨g, 194, none⟩ (.int .i64 (u.at 2))).heap[g]? = _
 have h1 := (blk_set h 192 (.int .i64 (u.at 0))).trans (by rw [Mdl.set_w m (k := 0) (by decide)])
 have h2 := (blk_set h1 193 (.int .i64 (u.at 1))).trans (by rw [Mdl.set_w _ (k := 1) (by decide)])
 have h3 := (blk_set h2 194 (.int .i64 (u.at 2))).trans (by rw [Mdl.set_w _ (k := 2) (by decide)])
 exact h3
theorem m_storeW {w : World} {g : Nat} {T : TypeId} {m : Mdl} (h : w.heap[g]? = some (.cells m.c T (0, 0))) (u : T3) : (Instr.storeAt 26 (.pointer (some ⟨g, 192, none⟩)) (.agg u.c)).run Tryz.prog w = .ok () (w.setCells g 192 u.c.toList) := by
 refine run_storeAt_mid (P := Tryz.prog) w g 192 26 u.c ?_ kr (t3_one u)
 intro j hj
 have hj3 : j < 3 := hj
 rw [(cell_of_row w g (192 + j) m.c T (0, 0) h).trans (m.c_w hj3)]
 exact ⟨rfl, blk_frozen h (192 + j)⟩
theorem far_setW {w : World} {g b : Nat} {o : Obj} (u : T3) (hne : b ≠ g) (h : w.heap[b]? = some o) : (w.setCells g 192 u.c.toList).heap[b]? = some o := by
 show (((w.setCell ⟨g, 192, none⟩ (.int .i64 (u.at 0))).setCell ⟨g, 193, none⟩ (.int .i64 (u.at 1))).setCell ⟨g, 194, none⟩ (.int .i64 (u.at 2))).heap[b]? = _
 rw [Below.heap_setCell _ _ _ _ (by exact hne), Below.heap_setCell _ _ _ _ (by exact hne), Below.heap_setCell _ _ _ _ (by exact hne)]
 exact h
theorem below_setW {w0 w : World} {g : Nat} (u : T3) (h : Below w0.heap.size w0 w) (hg : w0.heap.size ≤ g) : Below w0.heap.size w0 (w.setCells g 192 u.c.toList) := by
 show Below _ _ (((w.setCell ⟨g, 192, none⟩ (.int .i64 (u.at 0))).setCell ⟨g, 193, none⟩ (.int .i64 (u.at 1))).setCell ⟨g, 194, none⟩ (.int .i64 (u.at 2)))
 exact below_set (below_set (below_set h hg) hg) hg
theorem seen_store_new (w : World) (g : Nat) (t : T3) : (Instr.storeAt 107 (.pointer (some ⟨w.heap.size, 0, none⟩)) (.agg (seenC g t))).run Tryz.prog (w.alloc (.cells #[.pointer none, .int .i64 0, .int .i64 0, .int .i64 0] 107 (0, 0))) = .ok () (w.alloc (.cells (seenC g t) 107 (0, 0))) :=
 run_storeAt_new w 107 #[.pointer none, .int .i64 0, .int .i64 0, .int .i64 0] (seenC g t) kr rfl (by simp [seenC, Value.oneCell'])
def nUpto (m : Mdl) (t : T3) (bit : Int) (k : Nat) (j : Nat) : Int := if j / 64 < k ∧ j % 64 = (t.at (j / 64)).toNat then countNext (m.n j) bit else m.n j
def learnF (m : Mdl) (t : T3) (bit : Int) : Mdl := ⟨nUpto m t bit 3, trainF m.w (inputsF m t) bit⟩
theorem learn_may {m : Mdl} {t : T3} {bit : Int} (h : mayM m) : mayM (learnF m t bit) :=
 ⟨fun j hj => by
  show countMay (nUpto m t bit 3 j) = true
  unfold nUpto
  split
  ·exact countNext_may (h.1 j hj)
  ·exact h.1 j hj, train_in _ _ _⟩
theorem nUpto_set {m : Mdl} {t : T3} {bit : Int} {k : Nat} (hk : k < 3) (ht : there3 t = true) (w : T3) : (Mdl.mk (nUpto m t bit k) w).c.setIfInBounds (k * 64 + (t.at k).toNat) (.int .i64 (countNext (m.n (k * 64 + (t.at k).toNat)) bit)) = (Mdl.mk (nUpto m t bit (k + 1)) w).c := by
 have q := of_decide_eq_true (there3_iff.1 ht k hk)
 rw [Mdl.set_n _ (by omega)]
 refine Mdl.c_congr (fun i hi => ?_) rfl
 show (if i = k * 64 + (t.at k).toNat then _ else nUpto m t bit k i) = nUpto m t bit (k + 1) i
 by_cases h : i = k * 64 + (t.at k).toNat
 ·have h1 : i / 64 = k := by omega
  rw [if_pos h]
  unfold nUpto
  rw [if_pos ⟨by omega, by rw [h1]; omega⟩, h]
 ·rw [if_neg h]
  unfold nUpto
  by_cases h2 : i / 64 = k
  ·rw [if_neg (by omega), if_neg (fun h3 => h (by rw [h2] at h3; omega))]
  ·by_cases h3 : i / 64 < k
   ·by_cases h4 : i % 64 = (t.at (i / 64)).toNat
    ·rw [if_pos ⟨h3, h4⟩, if_pos ⟨by omega, h4⟩]
    ·rw [if_neg (fun x => h4 x.2), if_neg (fun x => h4 x.2)]
   ·rw [if_neg (fun x => h3 x.1), if_neg (fun x => by omega)]
theorem nUpto_zero (m : Mdl) (t : T3) (bit : Int) (w : T3) : (Mdl.mk m.n w).c = (Mdl.mk (nUpto m t bit 0) w).c := Mdl.c_congr (fun i hi => by show m.n i = nUpto m t bit 0 i; unfold nUpto; rw [if_neg (fun x => by omega)]) rfl
theorem mLearn_c (m : Mdl) (t : T3) (bit : Int) (W : World) (hT : Extra.Laid W) (hM : mayM m) (hC : there3 t = true) (hB_ : bit = 0 ∨ bit = 1) : Calls Tryz.prog 15 #[.agg m.c, .agg t.c, .int .i64 bit] W fun e w' => e = .returned (.tuple #[.agg (learnF m t bit).c, .int .i64 0]) ∧ Below W.heap.size W w' := by
 have HT := Lib.hid hT
 have hm := Lib.hid hM
 have ht := Lib.hid hC
 have hbit := Lib.hid hB_
 have hb0 : 0 ≤ bit ∧ bit ≤ 1 := by omega
 obtain ⟨hb0, hb1⟩ := hb0
 have q0 : decide (bit < 0) = false := decide_eq_false (by omega)
 have q1 : decide (bit > 1) = false := decide_eq_false (by omega)
 clear hT hM hC hB_
 go_enter Tryz.func15, Tryz.ntmps15
 have B0 := Lib.hid (blk_alloc (blk_alloc (blk_new W (.cells m.c 28)) (.cells t.c 26)) (.cells Tryz.zeroCells28 28))
 have B1 := Lib.hid (blk_alloc (blk_new (W.alloc (.cells m.c 28)) (.cells t.c 26)) (.cells Tryz.zeroCells28 28))
 have B2 := Lib.hid (blk_new ((W.alloc (.cells m.c 28)).alloc (.cells t.c 26)) (.cells Tryz.zeroCells28 28))
 have HB := Lib.hid (below_alloc (below_alloc (below_alloc (Below.refl W.heap.size W) (.cells m.c 28)) (.cells t.c 26)) (.cells Tryz.zeroCells28 28))
 have l1 := m_load B0.out
 rw [show (W.alloc (.cells m.c 28)).heap.size = W.heap.size + 1 by simp] at B1
 rw [show ((W.alloc (.cells m.c 28)).alloc (.cells t.c 26)).heap.size = W.heap.size + 2 by simp] at B2
 go_wp2_with fail
 clear l1
 refine (mMay_c m _ hm.out).mono ?_
 rintro e w4 ⟨rfl, hb⟩
 have c0 := Lib.hid (blk_below B0.out hb)
 have c1 := Lib.hid (blk_below B1.out hb)
 have c2 := Lib.hid (blk_below B2.out hb)
 have hC := Lib.hid (below_step HB.out hb)
 rw [shutM] at c2
 clear hb B0 B1 B2 HB
 obtain ⟨n, hn⟩ : ∃ n, n = W.heap.size := ⟨_, rfl⟩
 have hwn : W.heap.size ≤ n := by omega
 rw [← hn] at c0 c1 c2 ⊢
 clear hn
 have l1 := t3_load c1.out
 have bs := fun w => build_seen w n t
 have ss := fun w => seen_store_new w n t
 go_wp2_with (go_at_call 47; refine (there_c (n + 1) 0 t _ (t3_cells c1.out)).mono ?_; rintro e w' ⟨rfl, hw⟩; have hw := hw.symm; subst hw; rw [ht.out])
 clear l1 bs ss
 have d0 := Lib.hid (blk_alloc c0.out (.cells (seenC n t) 107))
 have d2 := Lib.hid (blk_alloc c2.out (.cells (seenC n t) 107))
 have d3 := Lib.hid (blk_new w4 (.cells (seenC n t) 107))
 have hD := Lib.hid (below_alloc hC.out (.cells (seenC n t) 107))
 have z2 : n + 2 < w4.heap.size := blk_lt c2.out
 obtain ⟨b, hbn⟩ : ∃ b, b = w4.heap.size := ⟨_, rfl⟩
 rw [← hbn] at d3 z2 ⊢
 clear c0 c1 c2 hC
 generalize w4.alloc (.cells (seenC n t) 107) = w6 at d0 d2 d3 hD ⊢
 clear hbn
 have E0 := Lib.hid (blk_drew d0.out)
 have E2 := Lib.hid (blk_drew d2.out)
 have E3 := Lib.hid (blk_drew d3.out)
 have EB := Lib.hid (below_drew1 hD.out)
 refine start_ (n := 11) (S := fun w' => w'.heap[n]? = some (.cells m.c 28 (0, 0)) ∧ w'.heap[b]? = some (.cells (seenC n t) 107 (0, 0))) (ds := [10]) #[J,J,J,J,J,J,J,J,J,J,J] kr rfl rfl (⟨blk_drew d0.out, blk_drew d3.out⟩) (fun hHeld => ?_)
 refine with_tabW mL_tab mL_bits (fun HT_ HW_ => ?_)
 generalize w6.drew = w7 at E0 E2 E3 EB hHeld ⊢
 clear d0 d2 d3 hD
 refine pu_ 0 30 (z 11 1) HT_ ?_
 refine ta_ 1 31 (z 11 3) HT_ HW_ hHeld rfl (by rintro w' ⟨s0, s1⟩; have ld := m_weights s0; go_simp; with_reducible rfl) ?_
 refine ta_ 2 32 (z 11 7) HT_ HW_ hHeld rfl (by rintro w' ⟨s0, s1⟩; have ld := seen_load s1; go_simp; with_reducible rfl) ?_
 refine pu_ 4 34 (z 11 23) HT_ ?_
 refine one_ (i := 3) (N := some 33) #[Y,Y,Y,Y,Y,J,J,J,J,J,J] rfl rfl (one_of HT_.out kr) (by decide) (fun K hK => ?_)
 refine goes_ Tryz.func49 kr rfl #[.agg (seenC n t)] (by rfl) rfl rfl b66_ ?_
 refine (mInputs_c n m t _ (HT.out.below_ EB.out) hm.out ht.out E0.out).mono ?_
 rintro e w8 ⟨rfl, hb⟩
 refine ⟨_, rfl, ?_⟩
 have F0 := Lib.hid (blk_below E0.out hb)
 have F2 := Lib.hid (blk_below E2.out hb)
 have F3 := Lib.hid (blk_below E3.out hb)
 have FB := Lib.hid (below_step EB.out hb)
 clear hb E0 E2 E3 EB
 refine hK.out _ _ (⟨F0.out, F3.out⟩) (fun hHeld => ?_)
 clear hK K
 refine norm_ (a' := ?_) ?_ ?_
 rotate_left
 ·show Act.put _ (some 33) _ = _
  exact pT
 refine one_ (i := 5) (N := some 35) #[Y,Y,Y,Y,Y,Y,J,J,J,J,J] rfl rfl (one_of HT_.out kr) (by decide) (fun K hK => ?_)
 refine goes_ Tryz.func55 kr rfl #[.agg m.w.c, .agg (inputsF m t).c, .int .i64 bit] (by rfl) rfl rfl b66_ ?_
 refine (train_c m.w (inputsF m t) bit _ (HT.out.below_ FB.out) hm.out.2 (inputs_in m t) hbit.out).mono ?_
 rintro e w9 ⟨rfl, hb⟩
 refine ⟨_, rfl, ?_⟩
 have G0 := Lib.hid (blk_below F0.out hb)
 have G2 := Lib.hid (blk_below F2.out hb)
 have G3 := Lib.hid (blk_below F3.out hb)
 have GB := Lib.hid (below_step FB.out hb)
 clear hb F0 F2 F3 FB
 refine hK.out _ _ (⟨G0.out, G3.out⟩) (fun hHeld => ?_)
 clear hK K
 refine norm_ (a' := ?_) ?_ ?_
 rotate_left
 ·show Act.put _ (some 35) _ = _
  exact pT
 refine pu_ 6 29 (z 11 127) HT_ ?_
 refine pu_ 7 36 (z 11 255) HT_ ?_
 refine pu_ 8 37 (z 11 511) HT_ ?_
 refine pu_ 9 38 (z 11 1023) HT_ ?_
 have sw := m_storeW G0.out (trainF m.w (inputsF m t) bit)
 refine last_ (i := 10) (N := none) #[Y,Y,Y,Y,Y,Y,Y,Y,Y,Y,Y] rfl rfl kr (by decide) (fun K hK => ?_)
 refine skip_ (w1 := w9.setCells n 192 (trainF m.w (inputsF m t) bit).c.toList) (by rfl) rfl (by go_simp; try rfl) ?_
 refine hK.out _ _ ?_
 clear hK K
 clear hHeld
 refine done_ (done_of HT_.out kr) ?_
 have H0 := Lib.hid ((m_setW G0.out (trainF m.w (inputsF m t) bit)).trans (by rw [nUpto_zero m t bit]))
 have z3 : n + 2 ≠ n := by omega
 have z4 : n + 2 ≠ b := by omega
 have z5 : n ≠ b := by omega
 have H2 := Lib.hid (far_setW (trainF m.w (inputsF m t) bit) z3 G2.out)
 have H3 := Lib.hid (far_setW (trainF m.w (inputsF m t) bit) z5.symm G3.out)
 have HB := Lib.hid (below_setW (trainF m.w (inputsF m t) bit) GB.out hwn)
 clear G0 G2 G3 GB
 obtain ⟨v, hv⟩ : ∃ v, v = trainF m.w (inputsF m t) bit := ⟨_, rfl⟩
 rw [← hv] at H0 H2 H3 HB ⊢
 have HV := Lib.hid hv
 clear hv
 generalize w9.setCells n 192 v.c.toList = wA at H0 H2 H3 HB ⊢
 go_wp2_with fail
 go_loopw [39] (fun i wr => ∃ k : Nat, k ≤ 3 ∧ i = .int .i64 k ∧ Hid (wr.heap[n]? = some (.cells (Mdl.mk (nUpto m t bit k) v).c 28 (0, 0))) ∧ Hid (wr.heap[n + 2]? = some (.cells mZero.c 28 (0, 0))) ∧ Hid (wr.heap[b]? = some (.cells (seenC n t) 107 (0, 0))) ∧ Hid (Below W.heap.size W wr)) (fun i _ => 3 - (intOf i).toNat)
 case atStart => exact ⟨0, by omega, rfl, H0, H2, H3, HB⟩
 case round =>
  obtain ⟨k, hk, rfl, b0, b2, b3, hB⟩ := hrel
  clear H0 H2 H3 HB
  by_cases hlt : k < 3
  ·have l1 := seen_load b3.out
   go_wp2_with fail
   clear l1
   refine (counter_c n t k _ hlt ht.out b0.out).mono ?_
   rintro e w3 ⟨rfl, hb⟩
   have c0 := Lib.hid (blk_below b0.out hb)
   have c2 := Lib.hid (blk_below b2.out hb)
   have c3 := Lib.hid (blk_below b3.out hb)
   have hC := Lib.hid (below_step hB.out hb)
   clear hb b0 b2 b3 hB
   have q := of_decide_eq_true (there3_iff.1 ht.out k hlt)
   have hi : k * 64 + (t.at k).toNat < 192 := by omega
   have cc := m_cell_n c0.out hi
   have f1 := blk_frozen c0.out (k * 64 + (t.at k).toNat)
   have e0 : nUpto m t bit k (k * 64 + (t.at k).toNat) = m.n (k * 64 + (t.at k).toNat) := by unfold nUpto; rw [if_neg (fun x => by omega)]
   have cc2 := cc.trans (by rw [show (Mdl.mk (nUpto m t bit k) v).n (k * 64 + (t.at k).toNat) = m.n (k * 64 + (t.at k).toNat) from e0])
   have cy := hm.out.1 _ hi
   have US := Lib.hid (nUpto_set (bit := bit) hlt ht.out v (m := m))
   obtain ⟨a, ha⟩ : ∃ a, a = (t.at k).toNat := ⟨_, rfl⟩
   obtain ⟨x, hx⟩ : ∃ x, x = m.n (k * 64 + (t.at k).toNat) := ⟨_, rfl⟩
   rw [← hx] at cc2 US cy
   rw [← ha] at cc2 hi US f1 ⊢
   have CY := Lib.hid cy
   clear cc e0 q ha hx cy
   go_wp2_with (go_at_call 57; refine (countNext_c _ _ _ CY.out hbit.out).mono ?_; rintro e w' ⟨rfl, hw⟩; have hw := hw.symm; subst hw)
   have zn : n + 2 ≠ n := by omega
   exact ⟨⟨k + 1, by omega, by go_num, Lib.hid ((blk_set c0.out _ _).trans (by rw [US.out])), Lib.hid (blk_far c2.out (p := ⟨n, k * 64 + a, none⟩) zn _), Lib.hid (blk_far c3.out (p := ⟨n, k * 64 + a, none⟩) z5.symm _), Lib.hid (hC.out.setCell hwn _)⟩, by simp [intOf]; omega⟩
  ·obtain rfl : k = 3 := by omega
   have e1 : wr.heap[n]? = some (.cells (learnF m t bit).c 28 (0, 0)) := b0.out.trans (by unfold learnF; rw [← HV.out])
   have E1 := Lib.hid e1
   have l1 := m_load e1
   have s1 := m_store b2.out (learnF m t bit)
   clear e1 b0
   go_wp2_with fail
   exact bodyPost_ret (results_ct rfl _ _ (n + 2) 28 (learnF m t bit).c (0, 0) _ rfl (Agg.blk_row b2.out _) Tryz.underlying28 rfl ((show (Tryz.prog.info? 28).map (·.size) = some 195 by kernel_rfl).trans (by rw [Mdl.c_size]))) rfl ⟨rfl, Agg.below_row hB.out (by omega) _⟩
end Go.Proofs.YtnoibcdojfnicaaGreatDoor.PTp
