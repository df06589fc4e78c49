/- A part of the proof of a law of descanttop: this session's own texts and printed texts, shortened and joined. -/
import Derived.Test.YtnoibcdojfnicaaGreatDoorE16
import Derived.Test.YtnoibcdojfnicaaGreatDoorE19
set_option linter.unusedVariables false
set_option linter.unusedSimpArgs false
set_option maxRecDepth 100000
set_option maxHeartbeats 16000000
namespace Go.Proofs.YtnoibcdojfnicaaGreatDoor.PB
open Go.Proofs.YtnoibcdojfnicaaGreatDoorW.Short
open Bool renaming true → Y, false → J
open Go Go.RowKit Go.Proofs.YtnoibcdojfnicaaGreatDoorW.PrintWords Go.Proofs.YtnoibcdojfnicaaGreatDoorW.PrintMore Go.Proofs.YtnoibcdojfnicaaGreatDoorW.PrintLast
open Go.Proofs.YtnoibcdojfnicaaGreatDoor.PTp (Mdl T3 mayM there3 there3_iff inCtx chanceF learnF mP_c mLearn_c learn_may mNew mNew_c load_int store_int t3_load t3_store t3_one t3_cells dot_range)
attribute [-go_sem] Instr.loadAt Instr.storeAt Instr.build
theorem load_ints (v : Value) : Instr.loadAt 22 v = (do loadVar 22 (← Instr.sureAddr v)) := rfl
theorem store_ints (v u : Value) : Instr.storeAt 22 v u = (do storeVar 22 (← Instr.sureAddr v) u) := rfl
attribute [local go_sem] load_int store_int load_ints store_ints
def sC1T : Bool × List (List Nat × List Nat) := (true, [([], []), ([0], [0]), ([1], [1]), ([2], [2]), ([], []), ([4], [4]), ([5], [5]), ([6], [6]), ([3, 7], [3, 7]), ([8], [8]), ([9], [9]), ([9], [9]), ([], []), ([12, 10, 8, 0, 1, 2, 3, 4, 5, 6, 7, 8, 9, 10, 12], [10, 12]), ([11, 13, 0, 1, 2, 3, 4, 5, 6, 7, 8, 9, 10, 11, 12, 13], [11])])
def sC1B : List Nat := [0, 1, 3, 7, 0, 16, 48, 112, 255, 511, 1023, 1023, 0, 6143, 16383]
theorem sC1_tab : rtab .any (opsOf Tryz.f155 1) = sC1T := by kernel_rfl
theorem sC1_bits : waitsOk sC1T.2 sC1B = true := by kernel_rfl
def sC2T : Bool × List (List Nat × List Nat) := (true, [([], []), ([0], [0]), ([1], [1]), ([2], [2]), ([], []), ([3, 4], [3, 4]), ([5], [5]), ([6], [6]), ([6], [6]), ([7, 5, 0, 1, 2, 3, 4, 5, 6, 7], [7]), ([8, 9, 0, 1, 2, 3, 4, 5, 6, 7, 8, 9], [8])])
def sC2B : List Nat := [0, 1, 3, 7, 0, 31, 63, 127, 127, 255, 1023]
theorem sC2_tab : rtab .any (opsOf Tryz.f155 2) = sC2T := by kernel_rfl
theorem sC2_bits : waitsOk sC2T.2 sC2B = true := by kernel_rfl
def sC3T : Bool × List (List Nat × List Nat) := (true, [([], []), ([], []), ([0, 0], [0]), ([1, 2, 0, 1, 2], [1])])
def sC3B : List Nat := [0, 0, 1, 7]
theorem sC3_tab : rtab .any (opsOf Tryz.f155 3) = sC3T := by kernel_rfl
theorem sC3_bits : waitsOk sC3T.2 sC3B = true := by kernel_rfl
def sL1T : Bool × List (List Nat × List Nat) := (true, [([], []), ([], []), ([1], [1]), ([2], [2]), ([3], [3]), ([], []), ([], []), ([4, 5, 6], [4, 5, 6]), ([7], [7]), ([8], [8]), ([8], [8]), ([0, 0, 1, 2, 3, 4, 5, 6, 7, 8, 9], [0]), ([11, 0, 1, 2, 3, 4, 5, 6, 7, 8, 9], [11]), ([12, 9, 7, 0, 1, 2, 3, 4, 5, 6, 7, 8, 9], [9, 12])])
def sL1B : List Nat := [0, 0, 2, 6, 14, 0, 0, 126, 254, 510, 510, 1023, 3071, 7167]
theorem sL1_tab : rtab .any (opsOf Tryz.f156 1) = sL1T := by kernel_rfl
theorem sL1_bits : waitsOk sL1T.2 sL1B = true := by kernel_rfl
structure Mod (g B : Nat) (W W' : World) : Prop where
 os : W'.os = W.os
 tape : W'.tape = W.tape
 output : W'.output = W.output
 size : W.heap.size ≤ W'.heap.size
 block : ∀ k, k < B → k ≠ g → W'.heap[k]? = W.heap[k]?
theorem Mod.of {g B : Nat} {W W' : World} (h : Below W.heap.size W W') (hB : B ≤ W.heap.size) : Mod g B W W' := ⟨h.os, h.tape, h.output, h.size, fun k hk _ => h.block k (by omega)⟩
theorem Mod.of2 {g B : Nat} {W W' : World} (h : Below B W W') : Mod g B W W' := ⟨h.os, h.tape, h.output, h.size, fun k hk _ => h.block k hk⟩
theorem Mod.trans {g B : Nat} {a b c : World} (h : Mod g B a b) (k : Mod g B b c) : Mod g B a c :=
 ⟨k.os.trans h.os, k.tape.trans h.tape, k.output.trans h.output, Nat.le_trans h.size k.size, fun i hi hg => (k.block i hi hg).trans (h.block i hi hg)⟩
theorem Mod.below {g B : Nat} {w W W' : World} (h : Mod g B W W') (hb : Below w.heap.size w W) (hg : w.heap.size ≤ g) (hB : w.heap.size ≤ B) : Below w.heap.size w W' :=
 ⟨h.os.trans hb.os, h.tape.trans hb.tape, h.output.trans hb.output, Nat.le_trans hb.size h.size, fun k hk => (h.block k (by omega) (by omega)).trans (hb.block k hk)⟩
theorem Mod.row (g B : Nat) (W : World) (cs : Array Value) : Mod g B W (W.setRow g cs) := ⟨rfl, rfl, rfl, by simp [World.setRow], fun k _ hg => setRow_other W g k cs hg⟩
theorem Mod.cell (g B i : Nat) (W : World) (u : Value) : Mod g B W (W.setCell ⟨g, i, none⟩ u) := by
 have h := below_set (g := g) (j := i) (v := u) (Below.refl W.heap.size W)
 refine ⟨?_, ?_, ?_, ?_, fun k _ hk => Below.heap_setCell W _ u k hk⟩
 ·simp [World.setCell]
 ·simp [World.setCell]
 ·simp [World.setCell]
 ·simp
theorem Mod.cells (g B : Nat) : ∀ (vs : List Value) (o : Nat) (W : World), Mod g B W (W.setCells g o vs)
 | [], _, W => ⟨rfl, rfl, rfl, Nat.le_refl _, fun _ _ _ => rfl⟩
 | v :: r, o, W => by rw [World.setCells]; exact (Mod.cell g B o W v).trans (Mod.cells g B r (o + 1) _)
def putMany (cs : Array Value) : Nat → List Value → Array Value
 | _, [] => cs
 | o, v :: r => putMany (cs.setIfInBounds o v) (o + 1) r
theorem putMany_size : ∀ (vs : List Value) (o : Nat) (cs : Array Value), (putMany cs o vs).size = cs.size
 | [], _, _ => rfl
 | v :: r, o, cs => by unfold putMany; rw [putMany_size r]; simp
theorem putMany_at : ∀ (vs : List Value) (o i : Nat) (cs : Array Value), i < cs.size → (putMany cs o vs)[i]? = if o ≤ i ∧ i < o + vs.length then vs[i - o]? else cs[i]?
 | [], o, i, cs, _ => by unfold putMany; rw [if_neg (by simp)]
 | v :: r, o, i, cs, h => by
  unfold putMany
  rw [putMany_at r (o + 1) i _ (by simpa using h)]
  by_cases e : i = o
  ·subst e
   rw [if_neg (by omega), if_pos (by simp), Array.getElem?_setIfInBounds, if_pos rfl, if_pos h]
   simp
  ·by_cases c : o ≤ i ∧ i < o + (v :: r).length
   ·simp only [List.length_cons] at c
    rw [if_pos (by omega), if_pos (by simp; omega), show i - o = (i - (o + 1)) + 1 by omega, List.getElem?_cons_succ]
   ·simp only [List.length_cons] at c
    rw [if_neg (by omega), if_neg (by simp; omega), Array.getElem?_setIfInBounds, if_neg (by omega)]
theorem setCells_heap {g : Nat} {T : TypeId} : ∀ (vs : List Value) (o : Nat) (w : World) (cs : Array Value), w.heap[g]? = some (.cells cs T (0, 0)) → (w.setCells g o vs).heap[g]? = some (.cells (putMany cs o vs) T (0, 0))
 | [], _, _, _, h => h
 | v :: r, o, w, cs, h => by rw [World.setCells]; exact setCells_heap r (o + 1) _ _ (blk_set h o v)
def stC (m : Mdl) (b : Int) (v : Value) (rest : Array Value) : Array Value := m.c ++ (#[.int .i64 b, v] ++ rest)
theorem stC_size (m : Mdl) (b : Int) (v : Value) (rest : Array Value) : (stC m b v rest).size = 197 + rest.size := by
 unfold stC; rw [Array.size_append, Array.size_append, m.c_size]; simp; omega
theorem stC_m {m : Mdl} {b : Int} {v : Value} {rest : Array Value} {i : Nat} (h : i < 195) : (stC m b v rest)[i]? = m.c[i]? := by
 unfold stC; rw [Array.getElem?_append_left (by rw [m.c_size]; exact h)]
theorem stC_b (m : Mdl) (b : Int) (v : Value) (rest : Array Value) : (stC m b v rest)[195]? = some (.int .i64 b) := by
 unfold stC; rw [Array.getElem?_append_right b81_, m.c_size, Array.getElem?_append_left (by simp)]; rfl
theorem stC_v (m : Mdl) (b : Int) (v : Value) (rest : Array Value) : (stC m b v rest)[196]? = some v := by
 unfold stC; rw [Array.getElem?_append_right b81_, m.c_size, Array.getElem?_append_left (by simp)]; rfl
theorem stC_r (m : Mdl) (b : Int) (v : Value) (rest : Array Value) (i : Nat) : (stC m b v rest)[197 + i]? = rest[i]? := by
 unfold stC
 rw [Array.getElem?_append_right b81_, m.c_size, show 197 + i - 195 = 2 + i by omega, Array.getElem?_append_right (by simp)]
 simp
theorem stC_ext {m : Mdl} {b : Int} {v : Value} {rest cs : Array Value} (hs : cs.size = 197 + rest.size) (h1 : ∀ i, i < 195 → cs[i]? = m.c[i]?) (h2 : cs[195]? = some (.int .i64 b)) (h3 : cs[196]? = some v) (h4 : ∀ i, i < rest.size → cs[197 + i]? = rest[i]?) : cs = stC m b v rest := by
 apply Array.ext_getElem?
 intro i
 by_cases a : i < 195
 ·rw [h1 i a, stC_m a]
 ·by_cases e : i = 195
  ·subst e; rw [h2, stC_b]
  ·by_cases e2 : i = 196
   ·subst e2; rw [h3, stC_v]
   ·by_cases e3 : i < 197 + rest.size
    ·have := h4 (i - 197) (by omega)
     have k := stC_r m b v rest (i - 197)
     rw [show 197 + (i - 197) = i by omega] at this k
     rw [this, k]
    ·rw [Array.getElem?_eq_none (by omega), Array.getElem?_eq_none b82_]
theorem stC_setb (m : Mdl) (b b' : Int) (v : Value) (rest : Array Value) : (stC m b v rest).setIfInBounds 195 (.int .i64 b') = stC m b' v rest := by
 refine stC_ext (by simp [stC_size]) (fun i hi => ?_) ?_ ?_ (fun i hi => ?_)
 ·rw [Array.getElem?_setIfInBounds, if_neg (by omega), stC_m hi]
 ·rw [Array.getElem?_setIfInBounds, if_pos rfl, if_pos b82_]
 ·rw [Array.getElem?_setIfInBounds, if_neg (by omega), stC_v]
 ·rw [Array.getElem?_setIfInBounds, if_neg (by omega), stC_r]
theorem stC_setv (m : Mdl) (b : Int) (v v' : Value) (rest : Array Value) : (stC m b v rest).setIfInBounds 196 v' = stC m b v' rest := by
 refine stC_ext (by simp [stC_size]) (fun i hi => ?_) ?_ ?_ (fun i hi => ?_)
 ·rw [Array.getElem?_setIfInBounds, if_neg (by omega), stC_m hi]
 ·rw [Array.getElem?_setIfInBounds, if_neg (by omega), stC_b]
 ·rw [Array.getElem?_setIfInBounds, if_pos rfl, if_pos b82_]
 ·rw [Array.getElem?_setIfInBounds, if_neg (by omega), stC_r]
theorem stC_setm (m k : Mdl) (b : Int) (v : Value) (rest : Array Value) : putMany (stC m b v rest) 0 k.c.toList = stC k b v rest := by
 have hk : k.c.toList.length = 195 := by rw [Array.length_toList, k.c_size]
 refine stC_ext (by rw [putMany_size, stC_size]) (fun i hi => ?_) ?_ ?_ (fun i hi => ?_)
 ·rw [putMany_at _ _ _ _ b82_, if_pos (by omega), Nat.sub_zero, Array.getElem?_toList]
 ·rw [putMany_at _ _ _ _ b82_, if_neg (by omega), stC_b]
 ·rw [putMany_at _ _ _ _ b82_, if_neg (by omega), stC_v]
 ·rw [putMany_at _ _ _ _ b82_, if_neg (by omega), stC_r]
theorem stC_setr (m : Mdl) (b : Int) (v : Value) (rest rest' : Array Value) (hs : rest'.size = rest.size) : putMany (stC m b v rest) 197 rest'.toList = stC m b v rest' := by
 have hk : rest'.toList.length = rest'.size := Array.length_toList
 refine stC_ext (by rw [putMany_size, stC_size, hs]) (fun i hi => ?_) ?_ ?_ (fun i hi => ?_)
 ·rw [putMany_at _ _ _ _ b82_, if_neg (by omega), stC_m hi]
 ·rw [putMany_at _ _ _ _ b82_, if_neg (by omega), stC_b]
 ·rw [putMany_at _ _ _ _ b82_, if_neg (by omega), stC_v]
 ·rw [putMany_at _ _ _ _ b82_, if_pos (by omega), show 197 + i - 197 = i by omega, Array.getElem?_toList]
section
variable {w : World} {g : Nat} {T : TypeId} {m : Mdl} {b : Int} {v : Value} {rest : Array Value}
theorem st_cells (h : w.heap[g]? = some (.cells (stC m b v rest) T (0, 0))) : w.cell? ⟨g, 195, none⟩ = some (.int .i64 b) ∧ w.cell? ⟨g, 196, none⟩ = some v :=
 ⟨(blk_cell h 195).trans (stC_b m b v rest), (blk_cell h 196).trans (stC_v m b v rest)⟩
theorem st_model (h : w.heap[g]? = some (.cells (stC m b v rest) T (0, 0))) : (Instr.loadAt 28 (.pointer (some ⟨g, 0, none⟩))).run Tryz.prog w = .ok (.agg m.c) w :=
 (Agg.load_part h 0 195 28 _ b82_ Tryz.underlying28 rfl kr).trans (by
  congr 2
  apply Array.ext_getElem?
  intro i
  by_cases a : i < 195
  ·rw [Array.getElem?_extract, if_pos b82_, Nat.zero_add, stC_m a]
  ·rw [Array.getElem?_eq_none (by simp [stC_size]; omega), Array.getElem?_eq_none b81_])
theorem st_setModel (h : w.heap[g]? = some (.cells (stC m b v rest) T (0, 0))) (k : Mdl) : (Instr.storeAt 28 (.pointer (some ⟨g, 0, none⟩)) (.agg k.c)).run Tryz.prog w = .ok () (w.setCells g 0 k.c.toList) := by
 refine run_storeAt_mid (P := Tryz.prog) w g 0 28 k.c ?_ ((show (Tryz.prog.info? 28).map (·.size) = some 195 by kernel_rfl).trans (by rw [k.c_size])) k.c_one
 intro j hj
 rw [k.c_size] at hj
 rw [Nat.zero_add]
 refine ⟨?_, blk_frozen h j⟩
 rw [blk_cell h j, Array.getElem?_eq_getElem b82_]
 rfl
theorem st_model_heap (h : w.heap[g]? = some (.cells (stC m b v rest) T (0, 0))) (k : Mdl) : (w.setCells g 0 k.c.toList).heap[g]? = some (.cells (stC k b v rest) T (0, 0)) :=
 (setCells_heap _ 0 w _ h).trans (by rw [stC_setm])
theorem st_ne (h : w.heap[g]? = some (.cells (stC m b v rest) T (0, 0))) (hT : T ≠ 3) {base : Nat} {u : Value} {xs : List Int} (hr : RI w base u xs) : some g ≠ u.ownBlock := Kd.R_ne hr h (by
 intro hc
 have : 3 = T := by simpa [Kd.int, Kd.scalar] using hc
 exact hT this.symm)
end
def ctxT (b : Int) (bs : List Int) : T3 := ((ctxF b bs).1, (ctxF b bs).2.1, (ctxF b bs).2.2.1)
theorem ctxT_there (b : Int) (bs : List Int) : there3 (ctxT b bs) = true := by
 refine there3_iff.2 (fun k hk => ?_)
 unfold ctxT ctxF
 split
 ·rename_i hok
  unfold ctxOk at hok
  rw [Bool.and_eq_true, decide_eq_true_iff] at hok
  obtain ⟨⟨q1, q2, q3⟩, -⟩ := hok
  rcases show k = 0 ∨ k = 1 ∨ k = 2 by omega with rfl | rfl | rfl
  ·refine decide_eq_true ?_
   show 0 ≤ min (ones bs : Int) 31 + (if ones bs < bs.length then 32 else 0) ∧ min (ones bs : Int) 31 + (if ones bs < bs.length then 32 else 0) < 64
   split <;> omega
  ·refine decide_eq_true ?_
   show 0 ≤ 2 * min b 31 + (if ones bs < bs.length then 1 else 0) ∧ 2 * min b 31 + (if ones bs < bs.length then 1 else 0) < 64
   split <;> omega
  ·refine decide_eq_true ?_
   show 0 ≤ min (bs.length : Int) 31 + (if lastOne bs = true then 32 else 0) ∧ min (bs.length : Int) 31 + (if lastOne bs = true then 32 else 0) < 64
   split <;> omega
 ·rcases show k = 0 ∨ k = 1 ∨ k = 2 by omega with rfl | rfl | rfl <;> rfl
theorem of_c (b : Int) (A : Option Addr) (c0 : Nat) (bs : List Int) (W : World) (hb : bs.length ≤ 17592186044416) (hr : (Kd.int .i64).C W A bs.length bs) (hc : bs.length ≤ c0) : Calls Tryz.prog 22 #[.int .i64 b, .slice A bs.length c0] W fun e w' => ∃ err : Int, e = .returned (.tuple #[.agg (ctxT b bs).c, .int .i64 err]) ∧ Below W.heap.size W w' := by
 cases hk : ctxOk b bs
 ·refine (of_bad b A c0 bs W hb hr hk).mono ?_
  rintro e w' ⟨rfl, hB⟩
  refine ⟨1200, ?_, hB⟩
  have : ctxF b bs = (0, 0, 0, 1200) := by unfold ctxF; rw [hk]; rfl
  unfold ctxT; rw [this]; rfl
 ·refine (of_good b A c0 bs W hr hc hk).mono ?_
  rintro e w' ⟨rfl, hB⟩
  exact ⟨0, rfl, hB⟩
theorem stChance_c (g B : Nat) (m : Mdl) (b : Int) (v : Value) (bs : List Int) (rest : Array Value) (T : TypeId) (W : World) (hT : Extra.Laid W) (hM : mayM m) (hg : W.heap[g]? = some (.cells (stC m b v rest) T (0, 0))) (hr : RI W B v bs) (hl : bs.length ≤ 1000) : Calls Tryz.prog 155 #[.pointer (some ⟨g, 0, none⟩)] W fun e w' => e = .returned (.tuple #[.int .i64 (chanceF m (ctxT b bs)), .agg (ctxT b bs).c]) ∧ Below W.heap.size W w' := by
 have HT0 := Lib.hid hT
 have HM := Lib.hid hM
 have hgW := blk_lt hg
 have GW := Lib.hid hg
 have RW := Lib.hid hr
 clear hT hM hg hr
 go_enter Tryz.func155, Tryz.ntmps155
 go_wp2_with fail
 have G1 := Lib.hid (blk_alloc GW.out (.cells #[.int .i64 0, .int .i64 0, .int .i64 0] 26))
 have N1 := Lib.hid (blk_new W (.cells #[.int .i64 0, .int .i64 0, .int .i64 0] 26))
 have R1 := Lib.hid (Kd.R_alloc RW.out (.cells #[.int .i64 0, .int .i64 0, .int .i64 0] 26))
 have H1 := Lib.hid (below_alloc (Below.refl W.heap.size W) (.cells #[.int .i64 0, .int .i64 0, .int .i64 0] 26))
 obtain ⟨n, hn⟩ : ∃ n, n = W.heap.size := ⟨_, rfl⟩
 have hwn : W.heap.size ≤ n := by omega
 have hgn : g < n := by omega
 rw [← hn] at N1 ⊢
 generalize W.alloc (.cells #[.int .i64 0, .int .i64 0, .int .i64 0] 26) = w1 at G1 N1 R1 H1 ⊢
 clear hn GW RW
 have G2 := Lib.hid (blk_drew G1.out)
 have N2 := Lib.hid (blk_drew N1.out)
 have R2 := Lib.hid (Kd.R_drew R1.out)
 have H2 := Lib.hid (below_drew1 H1.out)
 refine start_ (n := 15) (S := fun w' => w'.heap[g]? = some (.cells (stC m b v rest) T (0, 0))) (ds := []) #[J,J,J,J,J,J,J,J,J,J,J,J,J,J,J] kr rfl rfl (blk_drew G1.out) (fun hHeld => ?_)
 refine with_tabW sC1_tab sC1_bits (fun HT_ HW_ => ?_)
 generalize w1.drew = w2 at G2 N2 R2 H2 hHeld ⊢
 clear G1 N1 R1 H1
 refine pu_ 0 9 #[Y,J,J,J,J,J,J,J,J,J,J,J,J,J,J] HT_ ?_
 refine pu_ 1 10 #[Y,Y,J,J,J,J,J,J,J,J,J,J,J,J,J] HT_ ?_
 refine pu_ 2 11 #[Y,Y,Y,J,J,J,J,J,J,J,J,J,J,J,J] HT_ ?_
 refine ta_ 3 12 #[Y,Y,Y,Y,J,J,J,J,J,J,J,J,J,J,J] HT_ HW_ hHeld rfl (by rintro w' s0; obtain ⟨k1, k2⟩ := st_cells s0; go_simp; with_reducible rfl) ?_
 refine pu_ 4 13 #[Y,Y,Y,Y,Y,J,J,J,J,J,J,J,J,J,J] HT_ ?_
 refine pu_ 5 14 #[Y,Y,Y,Y,Y,Y,J,J,J,J,J,J,J,J,J] HT_ ?_
 refine pu_ 6 15 #[Y,Y,Y,Y,Y,Y,Y,J,J,J,J,J,J,J,J] HT_ ?_
 refine ta_ 7 16 #[Y,Y,Y,Y,Y,Y,Y,Y,J,J,J,J,J,J,J] HT_ HW_ hHeld rfl (by rintro w' s0; obtain ⟨k1, k2⟩ := st_cells s0; go_simp; with_reducible rfl) ?_
 refine join_ (σ := Nat × Int) 2 #[Y,Y,Y,Y,Y,Y,Y,Y,Y,Y,Y,Y,Y,J,J] (fun s_ => [(17, .tuple #[.agg (ctxT b bs).c, .int .i64 s_.2]), (8, .tuple #[.agg (ctxT b bs).c, .int .i64 s_.2]), (18, .agg (ctxT b bs).c), (19, .int .i64 s_.2), (4, .pointer (some ⟨s_.1, 0, none⟩))]) (fun s_ w' => w'.heap[g]? = some (.cells (stC m b v rest) T (0, 0)) ∧ w'.heap[n]? = some (.cells #[.int .i64 0, .int .i64 0, .int .i64 0] 26 (0, 0)) ∧ w'.heap[s_.1]? = some (.cells #[.int .i64 0, .int .i64 0, .int .i64 0] 26 (0, 0)) ∧ n < s_.1 ∧ g < s_.1 ∧ Below W.heap.size W w' ∧ RI w' B v bs) ?_ ?_
 rotate_left
 ·intro hCont
  refine two_ (i := 8) (j := 12) (Ni := some 17) (Nj := some 4) #[Y,Y,Y,Y,Y,Y,Y,Y,Y,J,J,J,J,J,J] #[Y,Y,Y,Y,Y,Y,Y,Y,J,J,J,J,Y,J,J] rfl rfl rfl rfl (Go.Proofs.YtnoibcdojfnicaaGreatDoorW.PrintLast.two_of HT_.out kr) (by decide) (by decide) (fun K hK => ?_) (fun K hK => ?_)
  ·obtain ⟨A_, c_, hv_, hc_, hC_⟩ := Kd.R_reads R2.out
   subst hv_
   refine goes_ Tryz.func22 kr rfl #[.int .i64 b, .slice A_ bs.length c_] (by rfl) rfl rfl b66_ ?_
   refine (of_c b A_ c_ bs _ (by omega) hC_ hc_).mono ?_
   rintro e w3 ⟨er, rfl, hb⟩
   refine ⟨_, rfl, ?_⟩
   have G3 := Lib.hid (blk_below G2.out hb)
   have N3 := Lib.hid (blk_below N2.out hb)
   have R3 := Lib.hid (Kd.R_below R2.out hb)
   have H3 := Lib.hid (below_step H2.out hb)
   clear hb G2 N2 R2 H2 hC_
   refine hK.out _ _ (G3.out) (fun hHeld => ?_)
   clear hK K
   refine norm_ (a' := ?_) ?_ ?_
   rotate_left
   ·show Act.put _ (some 17) _ = _
    exact pT
   refine pu_ 9 8 #[Y,Y,Y,Y,Y,Y,Y,Y,Y,Y,J,J,J,J,J] HT_ ?_
   refine pu_ 10 18 #[Y,Y,Y,Y,Y,Y,Y,Y,Y,Y,Y,J,J,J,J] HT_ ?_
   refine pu_ 11 19 #[Y,Y,Y,Y,Y,Y,Y,Y,Y,Y,Y,Y,J,J,J] HT_ ?_
   refine one_ (i := 12) (N := some 4) #[Y,Y,Y,Y,Y,Y,Y,Y,Y,Y,Y,Y,Y,J,J] rfl rfl (one_of HT_.out kr) (by decide) (fun K hK => ?_)
   refine box_step ?hg (N := 4) ?hd (cs := #[.int .i64 0, .int .i64 0, .int .i64 0]) (t := 26) ?hr ?_; (case hd => rfl); (case hg => rfl); (case hr => first | (go_simp; done) | (go_simp; rfl))
   intro gz hgz w4 hbox hb
   have zn : n < gz := by have := blk_lt N3.out; omega
   have zg : g < gz := by have := blk_lt G3.out; omega
   have G4 := Lib.hid (blk_below G3.out hb)
   have N4 := Lib.hid (blk_below N3.out hb)
   have R4 := Lib.hid (Kd.R_below R3.out hb)
   have H4 := Lib.hid (below_step H3.out hb)
   have ZB := Lib.hid hbox
   clear hb hbox hgz G3 N3 R3 H3
   refine hK.out _ _ (G4.out) (fun hHeld => ?_)
   clear hK K
   refine norm_ (a' := ?_) ?_ ?_
   rotate_left
   ·show Act.put _ (some 4) _ = _
    exact pT
   exact norm_ b58_ (hCont (gz, er) _ ⟨G4.out, N4.out, ZB.out, zn, zg, H4.out, R4.out⟩)
  ·refine box_step ?hg (N := 4) ?hd (cs := #[.int .i64 0, .int .i64 0, .int .i64 0]) (t := 26) ?hr ?_; (case hd => rfl); (case hg => rfl); (case hr => first | (go_simp; done) | (go_simp; rfl))
   intro gz hgz w3 hbox hb
   have zn : n < gz := by have := blk_lt N2.out; omega
   have zg : g < gz := by have := blk_lt G2.out; omega
   have G3 := Lib.hid (blk_below G2.out hb)
   have N3 := Lib.hid (blk_below N2.out hb)
   have R3 := Lib.hid (Kd.R_below R2.out hb)
   have H3 := Lib.hid (below_step H2.out hb)
   have ZB := Lib.hid hbox
   clear hb hbox hgz G2 N2 R2 H2
   refine hK.out _ _ (G3.out) (fun hHeld => ?_)
   clear hK K
   refine norm_ (a' := ?_) ?_ ?_
   rotate_left
   ·show Act.put _ (some 4) _ = _
    exact pT
   refine one_ (i := 8) (N := some 17) #[Y,Y,Y,Y,Y,Y,Y,Y,Y,J,J,J,Y,J,J] rfl rfl (one_of HT_.out kr) (by decide) (fun K hK => ?_)
   obtain ⟨A_, c_, hv_, hc_, hC_⟩ := Kd.R_reads R3.out
   subst hv_
   refine goes_ Tryz.func22 kr rfl #[.int .i64 b, .slice A_ bs.length c_] (by rfl) rfl rfl b66_ ?_
   refine (of_c b A_ c_ bs _ (by omega) hC_ hc_).mono ?_
   rintro e w4 ⟨er, rfl, hb⟩
   refine ⟨_, rfl, ?_⟩
   have G4 := Lib.hid (blk_below G3.out hb)
   have N4 := Lib.hid (blk_below N3.out hb)
   have R4 := Lib.hid (Kd.R_below R3.out hb)
   have H4 := Lib.hid (below_step H3.out hb)
   have ZC := Lib.hid (blk_below ZB.out hb)
   clear ZB
   clear hb G3 N3 R3 H3 hC_
   refine hK.out _ _ (G4.out) (fun hHeld => ?_)
   clear hK K
   refine norm_ (a' := ?_) ?_ ?_
   rotate_left
   ·show Act.put _ (some 17) _ = _
    exact pT
   refine pu_ 9 8 #[Y,Y,Y,Y,Y,Y,Y,Y,Y,Y,J,J,Y,J,J] HT_ ?_
   refine pu_ 10 18 #[Y,Y,Y,Y,Y,Y,Y,Y,Y,Y,Y,J,Y,J,J] HT_ ?_
   refine pu_ 11 19 #[Y,Y,Y,Y,Y,Y,Y,Y,Y,Y,Y,Y,Y,J,J] HT_ ?_
   exact norm_ b58_ (hCont (gz, er) _ ⟨G4.out, N4.out, ZC.out, zn, zg, H4.out, R4.out⟩)
 clear G2 N2 R2 H2 hHeld
 rintro ⟨nz, er⟩ w5 ⟨g5, n5, z5, zn, zg, h5, r5⟩
 have G5 := Lib.hid g5
 have N5 := Lib.hid n5
 have Z5 := Lib.hid z5
 have H5 := Lib.hid h5
 have R5 := Lib.hid r5
 clear g5 n5 z5 h5 r5
 refine norm_ (a' := ?_) ?_ ?_
 rotate_left
 ·simp only [putAll, Act.put, List.setIfInBounds_toArray, List.set_cons_zero, List.set_cons_succ]
  rfl
 have st := Agg.store_all (P := Tryz.prog) (cs := #[.int .i64 0, .int .i64 0, .int .i64 0]) Z5.out 26 (ctxT b bs).c kr rfl (t3_one _)
 refine one_ (i := 13) (N := none) #[Y,Y,Y,Y,Y,Y,Y,Y,Y,Y,Y,Y,Y,Y,J] rfl rfl (one_of HT_.out kr) (by decide) (fun K hK => ?_)
 refine skip_ (w1 := w5.setRow nz (ctxT b bs).c) (by rfl) rfl (by go_simp; try rfl) ?_
 have G6 := Lib.hid (Agg.blk_row_far G5.out (show g ≠ nz by omega) (ctxT b bs).c)
 have N6 := Lib.hid (Agg.blk_row_far N5.out (show n ≠ nz by omega) (ctxT b bs).c)
 have Z6 := Lib.hid (Agg.blk_row Z5.out (ctxT b bs).c)
 have H6 := Lib.hid (Agg.below_row H5.out (show W.heap.size ≤ nz by omega) (ctxT b bs).c)
 clear G5 N5 Z5 H5 R5 st
 generalize w5.setRow nz (ctxT b bs).c = w6 at G6 N6 Z6 H6 ⊢
 refine hK.out _ _ G6.out (fun hHeld => ?_)
 clear hK K
 refine pu_ 14 5 #[Y,Y,Y,Y,Y,Y,Y,Y,Y,Y,Y,Y,Y,Y,Y] HT_ ?_
 refine done_ (done_of HT_.out kr) ?_
 clear hHeld
 go_wp2_with fail
 have G7 := Lib.hid (blk_drew G6.out)
 have N7 := Lib.hid (blk_drew N6.out)
 have Z7 := Lib.hid (blk_drew Z6.out)
 have H7 := Lib.hid (below_drew1 H6.out)
 refine start_ (n := 11) (S := fun w' => w'.heap[g]? = some (.cells (stC m b v rest) T (0, 0)) ∧ w'.heap[nz]? = some (.cells (ctxT b bs).c 26 (0, 0))) (ds := []) #[J,J,J,J,J,J,J,J,J,J,J] kr rfl rfl (⟨blk_drew G6.out, blk_drew Z6.out⟩) (fun hHeld => ?_)
 refine with_tabW sC2_tab sC2_bits (fun HT_ HW_ => ?_)
 generalize w6.drew = w7 at G7 N7 Z7 H7 hHeld ⊢
 clear G6 N6 Z6 H6
 refine pu_ 0 21 #[Y,J,J,J,J,J,J,J,J,J,J] HT_ ?_
 refine pu_ 1 22 #[Y,Y,J,J,J,J,J,J,J,J,J] HT_ ?_
 refine pu_ 2 23 #[Y,Y,Y,J,J,J,J,J,J,J,J] HT_ ?_
 refine ta_ 3 24 #[Y,Y,Y,Y,J,J,J,J,J,J,J] HT_ HW_ hHeld rfl (by rintro w' ⟨s0, s1⟩; have ld := st_model s0; go_simp; with_reducible rfl) ?_
 refine ta_ 4 25 #[Y,Y,Y,Y,Y,J,J,J,J,J,J] HT_ HW_ hHeld rfl b67_ ?_
 refine one_ (i := 5) (N := some 26) #[Y,Y,Y,Y,Y,Y,J,J,J,J,J] rfl rfl (one_of HT_.out kr) (by decide) (fun K hK => ?_)
 refine goes_ Tryz.func13 kr rfl #[.agg m.c, .agg (ctxT b bs).c] (by rfl) rfl rfl b66_ ?_
 refine (mP_c m (ctxT b bs) _ (HT0.out.below_ H7.out) HM.out (ctxT_there b bs)).mono ?_
 rintro e w8 ⟨rfl, hb⟩
 refine ⟨_, rfl, ?_⟩
 have G8 := Lib.hid (blk_below G7.out hb)
 have N8 := Lib.hid (blk_below N7.out hb)
 have Z8 := Lib.hid (blk_below Z7.out hb)
 have H8 := Lib.hid (below_step H7.out hb)
 clear hb G7 N7 Z7 H7
 refine hK.out _ _ (⟨G8.out, Z8.out⟩) (fun hHeld => ?_)
 clear hK K
 refine norm_ (a' := ?_) ?_ ?_
 rotate_left
 ·show Act.put _ (some 26) _ = _
  exact pT
 refine pu_ 6 20 #[Y,Y,Y,Y,Y,Y,Y,J,J,J,J] HT_ ?_
 refine pu_ 7 27 #[Y,Y,Y,Y,Y,Y,Y,Y,J,J,J] HT_ ?_
 refine pu_ 8 28 #[Y,Y,Y,Y,Y,Y,Y,Y,Y,J,J] HT_ ?_
 refine pu_ 9 6 #[Y,Y,Y,Y,Y,Y,Y,Y,Y,Y,J] HT_ ?_
 refine pu_ 10 7 #[Y,Y,Y,Y,Y,Y,Y,Y,Y,Y,Y] HT_ ?_
 refine done_ (done_of HT_.out kr) ?_
 clear hHeld
 go_wp2_with fail
 have N9 := Lib.hid (blk_drew N8.out)
 have Z9 := Lib.hid (blk_drew Z8.out)
 have H9 := Lib.hid (below_drew1 H8.out)
 refine start_ (n := 4) (S := fun w' => w'.heap[nz]? = some (.cells (ctxT b bs).c 26 (0, 0))) (ds := [3]) #[J,J,J,J] kr rfl rfl (blk_drew Z8.out) (fun hHeld => ?_)
 refine with_tabW sC3_tab sC3_bits (fun HT_ HW_ => ?_)
 generalize w8.drew = w9 at N9 Z9 H9 hHeld ⊢
 clear G8 N8 Z8 H8
 refine pu_ 0 29 #[Y,J,J,J] HT_ ?_
 refine ta_ 1 30 #[Y,Y,J,J] HT_ HW_ hHeld rfl (by rintro w' s0; have ld := t3_load s0; go_simp; with_reducible rfl) ?_
 refine pu_ 2 2 #[Y,Y,Y,J] HT_ ?_
 have st := Agg.store_all (P := Tryz.prog) (cs := #[.int .i64 0, .int .i64 0, .int .i64 0]) N9.out 26 (ctxT b bs).c kr rfl (t3_one _)
 refine last_ (i := 3) (N := none) #[Y,Y,Y,Y] rfl rfl kr (by decide) (fun K hK => ?_)
 refine skip_ (w1 := w9.setRow n (ctxT b bs).c) (by rfl) rfl (by go_simp; try rfl) ?_
 refine hK.out _ _ ?_
 clear hK K st
 refine done_ (done_of HT_.out kr) ?_
 clear hHeld
 go_wp2_with fail
 exact bodyPost_ret (results_tc rfl _ _ n 26 (ctxT b bs).c (0, 0) _ rfl (Agg.blk_row N9.out _) Tryz.underlying26 rfl kr) rfl ⟨rfl, Agg.below_row H9.out hwn _⟩
theorem ri_mod {w w' : World} {base g : Nat} {v : Value} {xs : List Int} {cs : Array Value} {T : TypeId} (h : RI w base v xs) (hb : w.heap[g]? = some (.cells cs T (0, 0))) (hT : T ≠ 3) (hk : ∀ k, k ≠ g → w'.heap[k]? = w.heap[k]?) : RI w' base v xs :=
 Kd.R_mono (Kd.R_step (Kd.R_types h hb (fun q hq => by
  have : q = 3 := by simpa [Kd.int, Kd.scalar] using hq
  rw [this]; exact fun e => hT e.symm)) (fun k hk2 _ => hk k hk2.2)) (fun _ hk => hk.1)
theorem ri_slice {w : World} {base : Nat} {v : Value} {xs : List Int} (h : RI w base v xs) : ∃ A L c, v = .slice A L c := by
 obtain ⟨A, c, e⟩ := Kd.R_slice h
 exact ⟨A, _, c, e⟩
theorem cells_far {g : Nat} (vs : List Value) (o : Nat) (W : World) : ∀ k, k ≠ g → (W.setCells g o vs).heap[k]? = W.heap[k]? := fun k hk => (Mod.cells g (k + 1) vs o W).block k (by omega) hk
theorem stLearn_c (g B : Nat) (m : Mdl) (b : Int) (v : Value) (bs : List Int) (rest : Array Value) (T : TypeId) (ctx : T3) (bit : Int) (W : World) (hTy : T ≠ 3) (hT : Extra.Laid W) (hM : mayM m) (hC_ : there3 ctx = true) (hB_ : bit = 0 ∨ bit = 1) (hg : W.heap[g]? = some (.cells (stC m b v rest) T (0, 0))) (hr : RI W B v bs) (hl : bs.length ≤ 1000) (hgB : g < B) (hBW : B ≤ W.heap.size) : Calls Tryz.prog 156 #[.pointer (some ⟨g, 0, none⟩), .agg ctx.c, .int .i64 bit] W fun e w' => e = .returned (.tuple #[]) ∧ ∃ v', w'.heap[g]? = some (.cells (stC (learnF m ctx bit) b v' rest) T (0, 0)) ∧ RI w' B v' (bs ++ [bit]) ∧ Mod g B W w' := by
 have HT0 := Lib.hid hT
 have HM := Lib.hid hM
 have HC := Lib.hid hC_
 have HBit := Lib.hid hB_
 have HTy := Lib.hid hTy
 have GW := Lib.hid hg
 have RW := Lib.hid hr
 clear hT hM hg hr hC_ hB_ hTy
 go_enter Tryz.func156, Tryz.ntmps156
 go_wp2_with fail
 have G1 := Lib.hid (blk_alloc GW.out (.cells ctx.c 26))
 have N1 := Lib.hid (blk_new W (.cells ctx.c 26))
 have R1 := Lib.hid (Kd.R_alloc RW.out (.cells ctx.c 26))
 have H1 := Lib.hid (below_alloc (Below.refl W.heap.size W) (.cells ctx.c 26))
 obtain ⟨n, hn⟩ : ∃ n, n = W.heap.size := ⟨_, rfl⟩
 have hgn : g < n := by omega
 rw [← hn] at N1 ⊢
 generalize W.alloc (.cells ctx.c 26) = w1 at G1 N1 R1 H1 ⊢
 clear hn GW RW
 have G2 := Lib.hid (blk_drew G1.out)
 have N2 := Lib.hid (blk_drew N1.out)
 have R2 := Lib.hid (Kd.R_drew R1.out)
 have H2 := Lib.hid (below_drew1 H1.out)
 refine start_ (n := 14) (S := fun w' => w'.heap[g]? = some (.cells (stC m b v rest) T (0, 0)) ∧ w'.heap[n]? = some (.cells ctx.c 26 (0, 0))) (ds := [13]) #[J,J,J,J,J,J,J,J,J,J,J,J,J,J] kr rfl rfl (⟨blk_drew G1.out, blk_drew N1.out⟩) (fun hHeld => ?_)
 refine with_tabW sL1_tab sL1_bits (fun HT_ HW_ => ?_)
 generalize w1.drew = w2 at G2 N2 R2 H2 hHeld ⊢
 clear G1 N1 R1 H1
 refine pu_ 0 7 #[Y,J,J,J,J,J,J,J,J,J,J,J,J,J] HT_ ?_
 refine pu_ 1 8 #[Y,Y,J,J,J,J,J,J,J,J,J,J,J,J] HT_ ?_
 refine pu_ 2 9 #[Y,Y,Y,J,J,J,J,J,J,J,J,J,J,J] HT_ ?_
 refine pu_ 3 10 #[Y,Y,Y,Y,J,J,J,J,J,J,J,J,J,J] HT_ ?_
 refine ta_ 4 11 #[Y,Y,Y,Y,Y,J,J,J,J,J,J,J,J,J] HT_ HW_ hHeld rfl (by rintro w' ⟨s0, s1⟩; have ld := st_model s0; go_simp; with_reducible rfl) ?_
 refine ta_ 5 12 #[Y,Y,Y,Y,Y,Y,J,J,J,J,J,J,J,J] HT_ HW_ hHeld rfl b67_ ?_
 refine pu_ 6 13 #[Y,Y,Y,Y,Y,Y,Y,J,J,J,J,J,J,J] HT_ ?_
 refine one_ (i := 7) (N := some 14) #[Y,Y,Y,Y,Y,Y,Y,Y,J,J,J,J,J,J] rfl rfl (one_of HT_.out kr) (by decide) (fun K hK => ?_)
 refine goes_ Tryz.func15 kr rfl #[.agg m.c, .agg ctx.c, .int .i64 bit] (by rfl) rfl rfl b66_ ?_
 refine (mLearn_c m ctx bit _ (HT0.out.below_ H2.out) HM.out HC.out HBit.out).mono ?_
 rintro e w3 ⟨rfl, hb⟩
 refine ⟨_, rfl, ?_⟩
 have G3 := Lib.hid (blk_below G2.out hb)
 have N3 := Lib.hid (blk_below N2.out hb)
 have R3 := Lib.hid (Kd.R_below R2.out hb)
 have H3 := Lib.hid (below_step H2.out hb)
 clear hb G2 N2 R2 H2
 refine hK.out _ _ (⟨G3.out, N3.out⟩) (fun hHeld => ?_)
 clear hK K
 refine norm_ (a' := ?_) ?_ ?_
 rotate_left
 ·show Act.put _ (some 14) _ = _
  exact pT
 refine pu_ 8 6 #[Y,Y,Y,Y,Y,Y,Y,Y,Y,J,J,J,J,J] HT_ ?_
 refine pu_ 9 15 #[Y,Y,Y,Y,Y,Y,Y,Y,Y,Y,J,J,J,J] HT_ ?_
 refine pu_ 10 16 #[Y,Y,Y,Y,Y,Y,Y,Y,Y,Y,Y,J,J,J] HT_ ?_
 refine pu_ 11 17 #[Y,Y,Y,Y,Y,Y,Y,Y,Y,Y,Y,Y,J,J] HT_ ?_
 refine pu_ 12 18 #[Y,Y,Y,Y,Y,Y,Y,Y,Y,Y,Y,Y,Y,J] HT_ ?_
 have sm := st_setModel G3.out (learnF m ctx bit)
 refine last_ (i := 13) (N := none) #[Y,Y,Y,Y,Y,Y,Y,Y,Y,Y,Y,Y,Y,Y] rfl rfl kr (by decide) (fun K hK => ?_)
 refine skip_ (w1 := w3.setCells g 0 (learnF m ctx bit).c.toList) (by rfl) rfl (by go_simp; try rfl) ?_
 refine hK.out _ _ ?_
 clear hK K sm
 refine done_ (done_of HT_.out kr) ?_
 clear hHeld
 have G4 := Lib.hid (st_model_heap G3.out (learnF m ctx bit))
 have R4 := Lib.hid (ri_mod R3.out G3.out HTy.out (cells_far (learnF m ctx bit).c.toList 0 w3))
 have M4 := Lib.hid ((Mod.of H3.out hBW).trans (Mod.cells g B (learnF m ctx bit).c.toList 0 w3))
 have Z4 : B ≤ (w3.setCells g 0 (learnF m ctx bit).c.toList).heap.size := by have := M4.out.size; omega
 clear G3 N3 R3 H3
 generalize w3.setCells g 0 (learnF m ctx bit).c.toList = w4 at G4 R4 M4 Z4 ⊢
 obtain ⟨k1, k2⟩ := st_cells G4.out
 go_wp2_with ((with_reducible refine gate_builtin (b := .append) (xs := #[.tmp 23, .tmp 25]) rfl ?_); at_builtin; refine Kd.R_append (Kd.int .i64) (w0 := w4) (W := w4) B rfl (.tmp 23) (.tmp 25) 22 3 (.int .i64 0) 8 rfl Tryz.underlying22 infoI rfl (by decide) (by omega) v (bs) (bit) [.int .i64 (bit)] (fun _ => True) (fun _ => False) rfl rfl ?aP (fun _ hk => hk.elim) ?aF ?aO ?aB ?aS ?aL ?_; (case aP => exact rfl); (case aF => exact (fun _ _ => trivial)); (case aO => exact R4.out); (case aB => exact Below.refl B w4); (case aS => exact Z4); (case aL => omega); intro v5 w5 ho hb hg hat; obtain ⟨A5, L5, c5, hv5⟩ := ri_slice ho; subst hv5; have G5 := Lib.hid (blk_grown G4.out hg (st_ne G4.out HTy.out R4.out)); have R5 := Lib.hid ho; have M5 := Lib.hid (M4.out.trans (Mod.of2 (g := g) hb)); clear ho hb hg hat G4 R4 M4 k1 k2; have k2 := (st_cells G5.out).2; have f2 := blk_frozen G5.out 196; have z5 : g < w5.heap.size := blk_lt G5.out)
 have G6 := (blk_set G5.out 196 (.slice A5 L5 c5)).trans (by rw [stC_setv])
 have R6 := ri_mod R5.out G5.out HTy.out (w' := w5.setCell ⟨g, 196, none⟩ (.slice A5 L5 c5)) (fun k hk => Below.heap_setCell w5 _ _ k hk)
 have M6 := M5.out.trans (Mod.cell g B 196 w5 (.slice A5 L5 c5))
 go_end0
 exact ⟨rfl, _, G6, R6, M6⟩
end Go.Proofs.YtnoibcdojfnicaaGreatDoor.PB
namespace Go.Proofs.YtnoibcdojfnicaaGreatDoor.PTp
open Go.Proofs.YtnoibcdojfnicaaGreatDoorW.Short
open Bool renaming true → Y, false → J
open Go.RowKit Go.Proofs.YtnoibcdojfnicaaGreatDoorW.PrintWords Go.Proofs.YtnoibcdojfnicaaGreatDoorW.PrintLast Go.Proofs.YtnoibcdojfnicaaGreatDoorW.PrintMore
attribute [local go_sem] max2_int min2_int max_two min_two max_three min_three max_four min_four
def errW : Option Int → Value
  | none => .nilIface
  | some c => .iface 0 (.int .i64 c)
theorem errW_none : errW none = .nilIface := rfl
theorem errW_some (c : Int) : errW (some c) = .iface 0 (.int .i64 c) := rfl
theorem info3 : (Tryz.prog.info? 3).map (fun i => (i.zero, i.size, i.bytes)) = some (some (.int .i64 0), 1, 8) := by kernel_rfl
theorem info5 : (Tryz.prog.info? 5).map (fun i => (i.zero, i.size, i.bytes)) = some (some (.int .u8 0), 1, 1) := by kernel_rfl
theorem info22 : (Tryz.prog.info? 22).map (fun i => (i.zero, i.size, i.bytes)) = some (some (.slice none 0 0), 1, 24) := by kernel_rfl
theorem info151 : (Tryz.prog.info? 151).map (fun i => (i.zero, i.size, i.bytes)) = some (some (.agg #[(.string ⟨#[]⟩), (.int .i64 0), (.int .i64 0)]), 3, 32) := by kernel_rfl
def rd_L1 (xs : List (List Int)) (i : Int) : (List Int) := xs.getD i.toNat ([] : List Int)
theorem at_L1 {w : World} {A : Option Addr} {n : Nat} {xs : List (List Int)} (h : Kd.C (Kd.slice 3 (Kd.int .i64)) w A n xs) (i : Int) (h0 : 0 ≤ i) (h1 : i < n) : ∃ ad A0 c0, A = some ad ∧ w.cell? (ad.add i.toNat) = some (.slice A0 (rd_L1 xs i).length c0) ∧ (rd_L1 xs i).length ≤ c0 ∧ (Kd.int .i64).C w A0 (rd_L1 xs i).length (rd_L1 xs i) := by
  obtain ⟨ad, c, e, _, hK, hc0⟩ := Kd.C_get h ([] : List Int) i h0 h1
  have hc : ∀ j u, c[j]? = some u → w.cell? (ad.add (i.toNat * 1 + j)) = some u := hc0
  obtain ⟨A0, c0, rfl, l0, g0⟩ := hK
  exact ⟨ad, A0, c0, e, b68_, l0, g0⟩
structure S151 where
  f0 : ByteArray
  f1 : Int
  f2 : Int
def z151 : S151 := ⟨(⟨#[]⟩ : ByteArray), (0 : Int), (0 : Int)⟩
def k151 : Kd S151 := Kd.iso (Kd.pair Kd.string (Kd.pair (Kd.int .i64) (Kd.int .i64))) (fun x : S151 => (x.f0, x.f1, x.f2))
theorem k151_open {w : World} {x : S151} {cs : List Value} (h : k151.K w x cs) : cs = [.string x.f0, .int .i64 x.f1, .int .i64 x.f2] := by
  obtain ⟨_, _, rfl, rfl, ⟨_, _, rfl, rfl, rfl⟩⟩ := h
  exact rfl
theorem k151_mkM (w : World) (base : Nat) (ok : Nat → Prop) (x : S151)  : k151.M w base ok x [.string x.f0, .int .i64 x.f1, .int .i64 x.f2] := ⟨[.string x.f0], [.int .i64 x.f1, .int .i64 x.f2], rfl, rfl, ⟨[.int .i64 x.f1], [.int .i64 x.f2], rfl, rfl, rfl⟩⟩
def rd_T151 (xs : List S151) (i : Int) : S151 := xs.getD i.toNat z151
theorem at_T151 {w : World} {A : Option Addr} {n : Nat} {xs : List S151} (h : Kd.C k151 w A n xs) (i : Int) (h0 : 0 ≤ i) (h1 : i < n) : ∃ ad , A = some ad ∧ w.cell? (ad.add (i.toNat * 3)) = some (.string (rd_T151 xs i).f0) ∧ w.cell? ⟨(ad.add (i.toNat * 3)).block, (ad.add (i.toNat * 3)).off + 1, none⟩ = some (.int .i64 (rd_T151 xs i).f1) ∧ w.cell? ⟨(ad.add (i.toNat * 3)).block, (ad.add (i.toNat * 3)).off + 2, none⟩ = some (.int .i64 (rd_T151 xs i).f2) := by
  obtain ⟨ad, c, e, _, hK, hc0⟩ := Kd.C_get h z151 i h0 h1
  have hc : ∀ j u, c[j]? = some u → w.cell? (ad.add (i.toNat * 3 + j)) = some u := hc0
  obtain rfl := k151_open hK
  exact ⟨ad, e, hc 0 _ rfl, b71_, b72_⟩
end Go.Proofs.YtnoibcdojfnicaaGreatDoor.PTp
