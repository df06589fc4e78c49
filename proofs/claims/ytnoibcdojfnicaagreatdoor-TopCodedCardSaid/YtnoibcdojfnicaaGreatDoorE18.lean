/- A part of the proof of a law of descanttop: this session's own texts and printed texts, shortened and joined. -/
import Derived.Test.YtnoibcdojfnicaaGreatDoorE7
import Derived.Test.YtnoibcdojfnicaaGreatDoorE17
set_option linter.unusedVariables false
set_option linter.unusedSimpArgs false
set_option maxRecDepth 100000
set_option maxHeartbeats 16000000
namespace Go.Proofs.YtnoibcdojfnicaaGreatDoor.PB
open Go.Proofs.YtnoibcdojfnicaaGreatDoorW.Short
open Bool renaming true → Y, false → J
open Go Go.RowKit Go.Proofs.YtnoibcdojfnicaaGreatDoorW.PrintWords Go.Proofs.YtnoibcdojfnicaaGreatDoorW.PrintMore Go.Proofs.YtnoibcdojfnicaaGreatDoorW.PrintLast
def gRT : Bool × List (List Nat × List Nat) := (true, [([], []), ([], []), ([], []), ([1, 2], [1, 2]), ([], []), ([], []), ([4, 5], [4, 5]), ([3, 6], [3, 6]), ([0, 7], [0, 7]), ([8, 7, 0, 1, 2, 3, 4, 5, 6, 7, 8], [0, 2, 5, 8])])
def gRB : List Nat := [0, 0, 0, 6, 0, 0, 48, 126, 255, 511]
theorem gR_tab : rtab .any (opsOf Tryz.f62 9) = gRT := by kernel_rfl
theorem gR_bits : waitsOk gRT.2 gRB = true := by kernel_rfl
def rowC (k n : Nat) : Array Value := (Array.range n).map fun j => Value.int .i64 (if j < k then 1 else 0)
theorem rowC_size (k n : Nat) : (rowC k n).size = n := by simp [rowC]
theorem rowC_at (k : Nat) {n j : Nat} (h : j < n) : (rowC k n)[j]? = some (.int .i64 (if j < k then 1 else 0)) := by simp [rowC, h]
theorem rowC_set (k : Nat) {n : Nat} (h : k < n) : (rowC k n).setIfInBounds k (.int .i64 1) = rowC (k + 1) n := by
 apply Array.ext_getElem?
 intro i
 rw [Array.getElem?_setIfInBounds]
 by_cases hi : i < n
 ·by_cases e : i = k
  ·subst e; rw [if_pos rfl, if_pos (by rw [rowC_size]; omega), rowC_at _ hi, if_pos (by omega)]
  ·rw [if_neg (by omega), rowC_at _ hi, rowC_at _ hi]
   congr 2
   by_cases h2 : i < k
   ·rw [if_pos h2, if_pos (by omega)]
   ·rw [if_neg h2, if_neg (by omega)]
 ·rw [if_neg (by omega), Array.getElem?_eq_none (by rw [rowC_size]; omega), Array.getElem?_eq_none (by rw [rowC_size]; omega)]
theorem rowC_sets {T : TypeId} {g n : Nat} (m : Nat) : ∀ (k : Nat) (w : World), w.heap[g]? = some (.cells (rowC k n) T (0, 0)) → k + m ≤ n → (w.setCells g k (List.replicate m (.int .i64 1))).heap[g]? = some (.cells (rowC (k + m) n) T (0, 0)) := by
 induction m with
 | zero => intro k w h _; exact h
 | succ m ih =>
  intro k w h hk
  rw [List.replicate_succ, World.setCells]
  have := ih (k + 1) _ ((blk_set h k (.int .i64 1)).trans (by rw [rowC_set k (by omega)])) (by omega)
  rw [show k + 1 + m = k + (m + 1) by omega] at this
  exact this
theorem below_sets {w0 : World} {g : Nat} (hg : w0.heap.size ≤ g) : ∀ (vs : List Value) (o : Nat) (w : World), Below w0.heap.size w0 w → Below w0.heap.size w0 (w.setCells g o vs)
 | [], _, _, h => h
 | v :: r, o, w, h => by rw [World.setCells]; exact below_sets hg r (o + 1) _ (below_set h hg)
theorem made_row (n : Nat) : madeCells (Value.int .i64 0).cells (n * 1) = rowC 0 n := by
 simp [madeCells, rowC, Value.cells]
 intro a _
 rw [Nat.mod_one]
 rfl
theorem make_c (n : Nat) (hn : n ≤ 30) (w : World) : (Instr.makeSlice 22 (.int .i64 n) (.int .i64 n)).run Tryz.prog w = .ok (.slice (some ⟨w.heap.size, 0, none⟩) n n) (w.alloc (.cells (rowC 0 n) 3)) := by
 have hi : (Tryz.prog.info? 3).map (fun i => (i.zero, i.size, i.bytes)) = some (some (.int .i64 0), 1, 8) := by kernel_rfl
 obtain ⟨i, h1, h2⟩ := Option.map_eq_some_iff.1 hi
 simp only [Prod.mk.injEq] at h2
 obtain ⟨h3, h4, h5⟩ := h2
 have := run_make (P := Tryz.prog) w 22 3 i (.int .i64 0) Tryz.underlying22 h1 h3 .i64 .i64 n n (by omega) (Int.le_refl _) (by rw [h5]; omega) (by omega)
 rw [Int.toNat_natCast, h4, made_row] at this
 exact this
theorem info_int : (Tryz.prog.info? 3).map (·.size) = some 1 := by kernel_rfl
theorem mul_small (n : Nat) (hn : n < 18446744073709551616) (w : World) : Calls Tryz.prog 119 #[.int .u64 1, .int .u64 n] w fun e w' => e = .returned (.tuple #[.int .u64 0, .int .u64 n]) ∧ w' = w := by
 have := Any.bits_Mul (P := Tryz.prog) (ρ := Tryz.lays105_ren) { Tryz.lays105 with } 1 n (by omega) hn w
 refine Calls.mono (show Calls Tryz.prog 119 #[.int .u64 ((1 : Nat) : Int), .int .u64 n] w _ from this) ?_
 rintro e w' ⟨rfl, rfl⟩
 refine ⟨?_, rfl⟩
 rw [Nat.one_mul, Nat.div_eq_of_lt hn, Nat.mod_eq_of_lt hn]
 rfl
theorem rowC_R (n : Nat) {w : World} {g base : Nat} (h : w.heap[g]? = some (.cells (rowC n n) 3 (0, 0))) (hb : base ≤ g) (hn : n ≤ 30) : (Kd.int .i64).R 3 w base (fun _ => True) (.slice (some ⟨g, 0, none⟩) n n) (List.replicate n 1) := by
 refine Kd.R_of_own ⟨?_, Or.inr ⟨g, n, _, ?_, hb, h, by simp, by unfold maxLen; omega, by rw [rowC_size]; omega, ?_⟩⟩ (fun _ _ => trivial)
 ·simp [encs]
 ·simp
 ·apply List.ext_getElem?
  intro i
  simp only [encs, List.length_replicate, Nat.mul_one]
  by_cases hi : i < n
  ·rw [List.getElem?_take, if_pos hi, Array.getElem?_toList, rowC_at _ hi, if_pos hi]; simp [hi]
  ·rw [List.getElem?_take, if_neg hi]; simp; omega
theorem copy_exec {P : Program} {o : Oper} {ev : Operand → Value} {w w' : World} (d s : Operand) (t t' : TypeId)
  (ho : o.op = .call { callee := .builtin .copy, args := #[d, s], argTypes := #[t, t'] }) (v u : Value) (hd : ev d = v) (hs : ev s = u) {v' : Value}
  (hr : (Builtin.copy_ #[t, t'] o.type #[v, u]).run P w = .ok v' w') : (execOp ev o).run P w = .ok (.value v') w' := by
 unfold execOp
 simp only [ho, resolve, invoke, builtin, Sem.run_bind, Sem.run_pure, Result.andThen_ok, List.map_toArray, List.map_cons, List.map_nil, hd, hs, hr]
theorem rep_at {m j : Nat} {v u : Value} (h : (List.replicate m u)[j]? = some v) : j < m ∧ v = u := by
 by_cases hj : j < m
 ·simp [hj] at h; exact ⟨hj, h.symm⟩
 ·rw [List.getElem?_eq_none (by simp; omega)] at h; cases h
theorem Addr.add_zero_ (g j : Nat) : (⟨g, 0, none⟩ : Addr).add j = ⟨g, j, none⟩ := by rw [Addr.add_mid, Nat.zero_add]
theorem repeat_c (n b c : Nat) (hn : n ≤ 30) (W : World) (hW : W.cell? ⟨b, 0, none⟩ = some (.int .i64 1)) : Calls Tryz.prog 62 #[.slice (some ⟨b, 0, none⟩) 1 c, .int .i64 (n : Int)] W fun e w' => ∃ v, e = .returned v ∧ (Kd.int .i64).R 3 w' W.heap.size (fun _ => True) v (List.replicate n 1) ∧ Below W.heap.size W w' := by
 have u1 := IntKind.wrap_u64 (n : Int)
 have u2 : (n : Int) % 18446744073709551616 = n := by omega
 have d0 : decide ((n : Int) < 0) = false := decide_eq_false (by omega)
 have d1 : decide ((n : Int) > 9223372036854775807) = false := decide_eq_false (by omega)
 have mk := fun w => make_c n hn w
 have hbW := World.block_lt_of_cell? W _ hW
 have HW := Lib.hid hW
 clear hW
 by_cases h0 : n = 0
 ·subst h0
  have mk0 : ∀ w, (Instr.makeSlice 22 (.int .i64 0) (.int .i64 0)).run Tryz.prog w = .ok (.slice (some ⟨w.heap.size, 0, none⟩) 0 0) (w.alloc (.cells (rowC 0 0) 3)) := fun w => make_c 0 hn w
  have ml0 : ∀ w, Calls Tryz.prog 119 #[.int .u64 1, .int .u64 0] w fun e w' => e = .returned (.tuple #[.int .u64 0, .int .u64 0]) ∧ w' = w := fun w => mul_small 0 (by omega) w
  clear mk u1 u2 d0 d1
  have cp := run_copy_none (P := Tryz.prog) (W.alloc (.cells (rowC 0 0) 3)) 22 22 3 3 (some ⟨W.heap.size, 0, none⟩) (some ⟨b, 0, none⟩) 0 0 1 c Tryz.underlying22 info_int (by decide)
  go_enter Tryz.func62, Tryz.ntmps62
  go_wp2_with (go_at_call 119; refine (ml0 _).mono ?_; rintro e w' ⟨rfl, hw⟩; have hw := hw.symm; subst hw)
  go_loopw [8] (fun i wr => i = .int .i64 0 ∧ wr = W.alloc (.cells (rowC 0 0) 3)) (fun _ _ => 0)
  case atStart => exact ⟨rfl, rfl⟩
  case round =>
   obtain ⟨rfl, rfl⟩ := hrel
   go_wp2_with fail
   go_ret
   exact ⟨_, rfl, rowC_R 0 (blk_new W (.cells (rowC 0 0) 3)) (Nat.le_refl _) (by omega), below_alloc (Below.refl _ _) _⟩
 ·obtain ⟨g, hg⟩ : ∃ g, g = W.heap.size := ⟨_, rfl⟩
  have hwn : W.heap.size ≤ g := by omega
  have B0 := Lib.hid (blk_new W (.cells (rowC 0 n) 3))
  have HB := Lib.hid (below_alloc (Below.refl W.heap.size W) (.cells (rowC 0 n) 3))
  have cp := run_copy_cells (P := Tryz.prog) (W.alloc (.cells (rowC 0 n) 3)) 22 22 3 3 W.heap.size 0 n n ⟨b, 0, none⟩ 1 c [.int .i64 1] Tryz.underlying22 info_int (Nat.min_eq_left (show 1 ≤ n by omega)).symm (fun j v hv => by
   obtain rfl : j = 0 := by
    rcases j with _ | j
    ·rfl
    ·cases hv
   cases hv
   rw [Addr.add_zero_]
   exact (HB.out.cell hbW).trans HW.out) (fun j hj => by
   obtain rfl : j = 0 := by simpa using hj
   rw [(blk_cell B0.out (0 + 0)).trans (rowC_at 0 (by omega))]; rfl) (fun j _ => blk_frozen B0.out (0 + j)) (fun v hv => by rw [List.mem_singleton.1 hv]; rfl)
  have S1 := Lib.hid (show ((W.alloc (.cells (rowC 0 n) 3)).setCells W.heap.size 0 [.int .i64 1]).heap[W.heap.size]? = _ from rowC_sets 1 0 _ B0.out (by omega))
  have SB := Lib.hid (below_sets (Nat.le_refl _) [.int .i64 1] 0 _ HB.out)
  have cp2 : (Builtin.copy_ #[22, 22] 3 #[.slice (some ⟨W.heap.size, 0, none⟩) n n, .slice (some ⟨b, 0, none⟩) 1 c]).run Tryz.prog (W.alloc (.cells (rowC 0 n) 3)) = .ok (goInt 1) ((W.alloc (.cells (rowC 0 n) 3)).setCells W.heap.size 0 [.int .i64 1]) := cp
  clear cp
  go_enter Tryz.func62, Tryz.ntmps62
  go_wp2_with (go_at_call 119; refine (mul_small n (by omega) _).mono ?_; rintro e w' ⟨rfl, hw⟩; have hw := hw.symm; subst hw)
  clear mk cp2 B0 HB
  have SB2 : Hid (Below W.heap.size W ((W.alloc (.cells (rowC 0 n) 3)).setCells g 0 [.int .i64 1])) := by rw [hg]; exact SB
  clear SB
  rw [← hg] at S1 ⊢
  clear hg
  generalize (W.alloc (.cells (rowC 0 n) 3)).setCells g 0 [.int .i64 1] = w2 at S1 SB2 ⊢
  go_loopw [8] (fun i wr => ∃ k : Nat, 1 ≤ k ∧ k ≤ n ∧ i = .int .i64 k ∧ Hid (wr.heap[g]? = some (.cells (rowC k n) 3 (0, 0))) ∧ Hid (Below W.heap.size W wr)) (fun i _ => n - (intOf i).toNat)
  case atStart => exact ⟨1, by omega, by omega, rfl, S1, SB2⟩
  case round =>
   obtain ⟨k, hk1, hk, rfl, b0, hB⟩ := hrel
   clear S1 SB2
   by_cases hlt : k < n
   ·obtain ⟨m, hm0⟩ : ∃ m, m = Nat.min k (n - k) := ⟨_, rfl⟩
    have m1 : 1 ≤ m ∧ k + m ≤ n ∧ m ≤ k := by rw [hm0]; simp only [Nat.min_def]; split <;> omega
    have hm := Lib.hid hm0
    clear hm0
    obtain ⟨m1, m2, m3⟩ := m1
    have u3 := Num.w64 (n := (k : Int) + m) (by omega) (by omega)
    have hnk : ¬ n = k := by omega
    go_wp2_with fail
    have E0 := Lib.hid (blk_drew b0.out)
    have EB := Lib.hid (below_drew1 hB.out)
    refine start_ (n := 10) (S := fun w' => True) (ds := []) #[J,J,J,J,J,J,J,J,J,J] kr rfl rfl (trivial) (fun hHeld => ?_)
    refine with_tabW gR_tab gR_bits (fun HT_ HW_ => ?_)
    generalize wr.drew = w3 at E0 EB hHeld ⊢
    clear b0 hB
    refine pu_ 0 38 (z 10 1) HT_ ?_
    refine pu_ 1 39 (z 10 3) HT_ ?_
    refine pu_ 2 40 (z 10 7) HT_ ?_
    refine pu_ 3 41 (z 10 15) HT_ ?_
    refine pu_ 4 42 (z 10 31) HT_ ?_
    refine pu_ 5 43 (z 10 63) HT_ ?_
    refine pu_ 6 44 (z 10 127) HT_ ?_
    have hr := run_copy_cells (P := Tryz.prog) w3 22 22 3 3 g k (n - k) (n - k) ⟨g, 0, none⟩ k n (List.replicate m (.int .i64 1)) Tryz.underlying22 info_int (by rw [List.length_replicate]; exact hm.out) (fun j v hv => by obtain ⟨hj, rfl⟩ := rep_at hv; rw [Addr.add_zero_]; exact (blk_cell E0.out j).trans ((rowC_at k (by omega)).trans (by rw [if_pos (by omega)]))) (fun j hj => by rw [List.length_replicate] at hj; rw [(blk_cell E0.out (k + j)).trans (rowC_at k (by omega))]; rfl) (fun j _ => blk_frozen E0.out (k + j)) (fun v hv => by rw [List.eq_of_mem_replicate hv]; rfl)
    rw [List.length_replicate] at hr
    have HR2 := Lib.hid hr
    clear hr
    refine one_ (i := 7) (N := some 45) #[Y,Y,Y,Y,Y,Y,Y,Y,J,J] rfl rfl (one_of HT_.out kr) (by decide) (fun K hK => ?_)
    refine value_ (w1 := w3.setCells g k (List.replicate m (.int .i64 1))) (v := goInt m) (by rfl) rfl (copy_exec (.tmp 41) (.tmp 44) 22 22 rfl (.slice (some ⟨g, k, none⟩) (n - k) (n - k)) (.slice (some ⟨g, 0, none⟩) k n) ?hd ?hs HR2.out) ?_
    case hd => rfl
    case hs => rfl
    have F0 := Lib.hid (rowC_sets m k w3 E0.out (by omega))
    have FB := Lib.hid (below_sets hwn (List.replicate m (.int .i64 1)) k _ EB.out)
    clear E0 EB HR2
    generalize w3.setCells g k (List.replicate m (.int .i64 1)) = w4 at F0 FB ⊢
    refine hK.out _ _ trivial (fun hHeld => ?_)
    clear hK K
    refine norm_ (a' := ?_) ?_ ?_
    rotate_left
    ·show Act.put _ (some 45) _ = _
     exact pT
    refine pu_ 8 46 (z 10 511) HT_ ?_
    refine pu_ 9 8 (z 10 1023) HT_ ?_
    refine done_ (done_of HT_.out kr) ?_
    clear hHeld
    go_wp2_with fail
    exact ⟨⟨k + m, by omega, by omega, by go_num, F0, FB⟩, by simp [intOf]; omega⟩
   ·obtain rfl : k = n := by omega
    go_wp2_with fail
    go_ret
    exact ⟨_, rfl, rowC_R k b0.out hwn hn, hB.out⟩
abbrev RI (w : World) (base : Nat) (v : Value) (xs : List Int) : Prop := (Kd.int .i64).R 3 w base (fun _ => True) v xs
theorem infoI : (Tryz.prog.info? 3).map (fun i => (i.zero, i.size, i.bytes)) = some (some (.int .i64 0), 1, 8) := by kernel_rfl
def gTail (v : Int) (n : Nat) : Nat → List Int
 | 0 => []
 | k + 1 => gTail v n k ++ [v / 2 ^ (n - 1 - k) % 2]
def gLen (u : Int) : Nat := Lib.bitLen (u + 1).toNat - 1
def gBits (u : Int) : List Int := List.replicate (gLen u) 1 ++ [0] ++ gTail (u + 1) (gLen u) (gLen u)
theorem bitLen_aux : ∀ (f x : Nat), x < 2 ^ f → x ≠ 0 → 2 ^ (Lib.bitLenAux f x - 1) ≤ x ∧ x < 2 ^ Lib.bitLenAux f x ∧ 1 ≤ Lib.bitLenAux f x
 | 0, x, h, h0 => by simp at h; omega
 | f + 1, x, h, h0 => by
  unfold Lib.bitLenAux
  rw [if_neg h0]
  by_cases h2 : x / 2 = 0
  ·have : x = 1 := by omega
   subst this
   cases f <;> simp [Lib.bitLenAux]
  ·obtain ⟨a, b, c⟩ := bitLen_aux f (x / 2) (by rw [Nat.pow_succ] at h; omega) h2
   obtain ⟨m, hm⟩ : ∃ m, Lib.bitLenAux f (x / 2) = m + 1 := ⟨_, (Nat.sub_add_cancel c).symm⟩
   rw [hm] at a b ⊢
   rw [show 1 + (m + 1) - 1 = m + 1 by omega, show 1 + (m + 1) = m + 1 + 1 by omega]
   rw [show m + 1 - 1 = m by omega] at a
   have e1 : 2 ^ (m + 1) = 2 * 2 ^ m := by rw [Nat.pow_succ]; omega
   have e2 : 2 ^ (m + 1 + 1) = 2 * 2 ^ (m + 1) := by rw [Nat.pow_succ]; omega
   omega
theorem gLen_in {u : Int} (h0 : 0 ≤ u) (h1 : u ≤ 33554432) : (2 : Int) ^ gLen u ≤ u + 1 ∧ u + 1 < 2 ^ (gLen u + 1) ∧ gLen u ≤ 25 ∧ Lib.bitLen (u + 1).toNat = gLen u + 1 := by
 obtain ⟨x, hx⟩ : ∃ x, x = (u + 1).toNat := ⟨_, rfl⟩
 have hb := bitLen_aux 64 x (by omega) (by omega)
 unfold gLen
 rw [← hx]
 obtain ⟨m, hm⟩ : ∃ m, Lib.bitLen x = m + 1 := ⟨_, (Nat.sub_add_cancel hb.2.2).symm⟩
 have hm2 : Lib.bitLenAux 64 x = m + 1 := hm
 rw [hm2] at hb
 rw [hm, show m + 1 - 1 = m by omega]
 rw [show m + 1 - 1 = m by omega] at hb
 obtain ⟨a, b, _⟩ := hb
 have c1 : ((2 ^ m : Nat) : Int) = (2 : Int) ^ m := by norm_cast
 have c2 : ((2 ^ (m + 1) : Nat) : Int) = (2 : Int) ^ (m + 1) := by norm_cast
 refine ⟨by omega, by omega, ?_, rfl⟩
 refine Nat.le_of_not_lt fun h => ?_
 have := Nat.pow_le_pow_right (show 0 < 2 by decide) (show 26 ≤ m by omega)
 omega
theorem gTail_len (v : Int) (n : Nat) : ∀ k, (gTail v n k).length = k
 | 0 => rfl
 | k + 1 => by unfold gTail; rw [List.length_append, gTail_len v n k]; rfl
theorem gBits_len (u : Int) : (gBits u).length = 2 * gLen u + 1 := by
 unfold gBits
 rw [List.length_append, List.length_append, gTail_len, List.length_replicate]
 simp
 omega
theorem and1 (x : Int) : Go.bits .and .i64 x 1 = x % 2 := Num.and_mask x 1 1 (by omega) (by rfl)
theorem gbits_c (u : Int) (W : World) (h0 : 0 ≤ u) (h1 : u ≤ 33554432) : Calls Tryz.prog 21 #[.int .i64 u] W fun e w' => ∃ v, e = .returned (.tuple #[v, .int .i64 0]) ∧ RI w' W.heap.size v (gBits u) ∧ Below W.heap.size W w' := by
 obtain ⟨g1, g2, g3, g4⟩ := gLen_in h0 h1
 obtain ⟨n, hn⟩ : ∃ n, n = gLen u := ⟨_, rfl⟩
 have HG := Lib.hid (show gBits u = List.replicate n 1 ++ [0] ++ gTail (u + 1) n n by unfold gBits; rw [← hn])
 rw [← hn] at g3 g4
 clear g1 g2 hn
 have G4 := Lib.hid g4
 clear g4
 have d0 : decide (u < 0) = false := decide_eq_false (by omega)
 have d1 : decide (u > 33554432) = false := decide_eq_false (by omega)
 have e1 := IntKind.wrap_u64 (u + 1)
 have e2 : (u + 1) % 18446744073709551616 = u + 1 := by omega
 have bl : ∀ w, Calls Tryz.prog 61 #[.int .u64 (u + 1)] w fun e w' => e = .returned (.int .i64 (n + 1)) ∧ w' = w := fun w => (Tryz.bits_Len (u + 1) w (by omega) (by omega)).mono fun e w' ⟨a, b⟩ => ⟨by rw [a, G4.out]; rfl, b⟩
 go_enter Tryz.func21, Tryz.ntmps21
 go_wp2_with (go_at_call 61; refine (bl _).mono ?_; rintro e w' ⟨rfl, hw⟩; have hw := hw.symm; subst hw)
 clear bl
 refine (repeat_c n W.heap.size 1 (by omega) (W.alloc (.cells #[.int .i64 1] 3)) ((blk_cell (blk_new W (.cells #[.int .i64 1] 3)) 0).trans rfl)).mono ?_
 rintro e w2 ⟨v2, rfl, hr, hb⟩
 have R2 := Lib.hid (Kd.R_lower (base' := W.heap.size) hr (by simp))
 have H2 := Lib.hid (below_step (below_alloc (Below.refl W.heap.size W) _) hb)
 clear hr hb
 go_wp2_with ((with_reducible refine gate_builtin (b := .append) (xs := #[.tmp 22, .tmp 23]) rfl ?_); at_builtin; refine Kd.R_append (Kd.int .i64) (w0 := W) (W := w2) W.heap.size rfl (.tmp 22) (.tmp 23) 22 3 (.int .i64 0) 8 rfl Tryz.underlying22 infoI rfl (by decide) (by omega) v2 (List.replicate n 1) (0) [.int .i64 (0)] (fun _ => True) (fun _ => False) rfl rfl ?aP (fun _ hk => hk.elim) ?aF ?aO ?aB ?aS ?aL ?_; (case aP => exact rfl); (case aF => exact (fun _ _ => trivial)); (case aO => exact R2.out); (case aB => exact H2.out); (case aS => exact (H2.out).size); (case aL => rw [List.length_replicate]; omega); intro v3 w3 ho hb hg hat)
 have R3 := Lib.hid ho
 have H3 := Lib.hid hb
 clear ho hb hg hat R2 H2
 go_loopw [6, 7] (fun a i wr => ∃ k : Nat, k ≤ n ∧ i = .int .i64 ((n : Int) - 1 - k) ∧ Hid (RI wr W.heap.size a (List.replicate n 1 ++ [0] ++ gTail (u + 1) n k)) ∧ Hid (Below W.heap.size W wr)) (fun _ i _ => (intOf i + 1).toNat)
 case atStart => exact ⟨0, by omega, by simp, Lib.hid (by simpa [gTail] using R3.out), H3⟩
 case round =>
  obtain ⟨k, hk, rfl, hR, hB⟩ := hrel
  clear R3 H3
  by_cases hlt : k < n
  ·have c0 : decide ((n : Int) - 1 - k ≥ 0) = true := decide_eq_true (by omega)
   obtain ⟨i, hi⟩ : ∃ i : Nat, i = n - 1 - k := ⟨_, rfl⟩
   have hi2 : (n : Int) - 1 - k = i := by omega
   have HI := Lib.hid hi
   rw [hi2] at c0 ⊢
   clear hi hi2
   have i25 : i ≤ 25 := by have := HI.out; omega
   have a1 := and1 ((u + 1) / 2 ^ i)
   have hlen : (List.replicate n 1 ++ [0] ++ gTail (u + 1) n k : List Int).length = n + 1 + k := by rw [List.length_append, List.length_append, gTail_len, List.length_replicate]; rfl
   obtain ⟨out, ho0⟩ : ∃ out : List Int, out = List.replicate n 1 ++ [0] ++ gTail (u + 1) n k := ⟨_, rfl⟩
   rw [← ho0] at hR hlen
   have HO := Lib.hid ho0
   clear ho0
   go_wp2_with ((with_reducible refine gate_builtin (b := .append) (xs := #[.tmp 31, .tmp 36]) rfl ?_); at_builtin; refine Kd.R_append (Kd.int .i64) (w0 := W) (W := wr) W.heap.size rfl (.tmp 31) (.tmp 36) 22 3 (.int .i64 0) 8 rfl Tryz.underlying22 infoI rfl (by decide) (by omega) u6 (out) ((u + 1) / 2 ^ i % 2) [.int .i64 ((u + 1) / 2 ^ i % 2)] (fun _ => True) (fun _ => False) rfl rfl ?aP (fun _ hk => hk.elim) ?aF ?aO ?aB ?aS ?aL ?_; (case aP => exact rfl); (case aF => exact (fun _ _ => trivial)); (case aO => exact hR.out); (case aB => exact hB.out); (case aS => exact (hB.out).size); (case aL => omega); intro v4 w4 ho hb hg hat)
   clear hR hB
   exact ⟨⟨k + 1, by omega, by have := HI.out; congr 1; omega, Lib.hid (by unfold gTail; rw [← HI.out, ← List.append_assoc, ← HO.out]; exact ho), Lib.hid hb⟩, by have := HI.out; simp [intOf] <;> omega⟩
  ·obtain rfl : k = n := by omega
   have c0 : decide ((k : Int) - 1 - k ≥ 0) = false := decide_eq_false (by omega)
   go_wp2_with fail
   go_ret2
   exact ⟨_, rfl, by rw [HG.out]; exact hR.out, hB.out⟩
end Go.Proofs.YtnoibcdojfnicaaGreatDoor.PB
namespace Go.Proofs.YtnoibcdojfnicaaGreatDoor.PB
open Go.Proofs.YtnoibcdojfnicaaGreatDoorW.Short
open Bool renaming true → Y, false → J
open Go.RowKit Go.Proofs.YtnoibcdojfnicaaGreatDoorW.PrintWords Go.Proofs.YtnoibcdojfnicaaGreatDoorW.PrintLast Go.Proofs.YtnoibcdojfnicaaGreatDoorW.PrintMore
attribute [local go_sem] max2_int min2_int max_two min_two max_three min_three max_four min_four
def coder_Ends.f (a0 : Int) (a1 : Int) : Option (Bool) := if a0 ≥ 0 then (if a1 ≤ 4294967295 then (some (decide ((a1 / 16777216) > (a0 / 16777216)))) else (some false)) else (some false)
theorem coder_Ends.calls (a0 : Int) (a1 : Int) (r : Bool) (w : World) (h : coder_Ends.f a0 a1 = some r) :
  Calls Tryz.prog 116 #[.int .i64 a0, .int .i64 a1] w fun e w' => e = .returned (.bool r) ∧ Drawn0 w w' := by
 have H : (if a0 ≥ 0 then (if a1 ≤ 4294967295 then (some (decide ((a1 / 16777216) > (a0 / 16777216)))) else (some false)) else (some false)) = some r := h
 clear h
 by_cases c3 : a0 ≥ 0
 ·rw [if_pos c3] at H
  have c3b0 : decide (0 ≤ a0) = true := decide_eq_true c3
  clear c3
  by_cases c4 : a1 ≤ 4294967295
  ·rw [if_pos c4] at H
   have c4b0 : decide (a1 ≤ 4294967295) = true := decide_eq_true c4
   clear c4
   obtain rfl := Option.some.inj H
   go_enter Tryz.func116, Tryz.ntmps116
   go_wp2
   go_ret
   exact ⟨b76_, b69_⟩
  ·rw [if_neg c4] at H
   have c4b0 : decide (a1 ≤ 4294967295) = false := decide_eq_false c4
   clear c4
   obtain rfl := Option.some.inj H
   go_enter Tryz.func116, Tryz.ntmps116
   go_wp2
   go_ret
   exact ⟨b76_, b69_⟩
 ·rw [if_neg c3] at H
  have c3b0 : decide (0 ≤ a0) = false := decide_eq_false c3
  clear c3
  obtain rfl := Option.some.inj H
  go_enter Tryz.func116, Tryz.ntmps116
  go_wp2
  go_ret
  exact ⟨b76_, b69_⟩
def coder_May.f (a0_0 : Int) (a0_1 : Int) (a0_2 : ByteArray) : Option (Bool) := (coder_Ends.f a0_0 a0_1).bind fun t102 => (if t102 = true then (some (decide ((a0_2.size : Int) ≤ 65536))) else (some false))
theorem coder_May.calls (a0_0 : Int) (a0_1 : Int) (a0_2 : ByteArray) (r : Bool) (w : World) (h : coder_May.f a0_0 a0_1 a0_2 = some r) :
  Calls Tryz.prog 50 #[.agg #[.int .i64 a0_0, .int .i64 a0_1, .string a0_2]] w fun e w' => e = .returned (.bool r) ∧ Below w.heap.size w w' := by
 have hu31 := Tryz.underlying31
 have HB := Aside0.mk (Below.refl w.heap.size w)
 have H : ((coder_Ends.f a0_0 a0_1).bind fun t102 => (if t102 = true then (some (decide ((a0_2.size : Int) ≤ 65536))) else (some false))) = some r := h
 clear h
 replace H := Option.bind_eq_some_iff.mp H
 obtain ⟨t102, A20, H⟩ := H
 replace H : (if t102 = true then (some (decide ((a0_2.size : Int) ≤ 65536))) else (some false)) = some r := H
 have A2 := Aside0.mk A20
 clear A20
 by_cases c3 : t102 = true
 ·subst c3
  have H1 : (some (decide ((a0_2.size : Int) ≤ 65536))) = some r := by rw [if_pos rfl] at H; exact H
  clear H
  have H := H1
  clear H1
  obtain rfl := Option.some.inj H
  go_enter Tryz.func50, Tryz.ntmps50
  go_wp2_with (first | ((with_reducible refine gate_dst (N := 1) rfl ?_); (try (refine gate_guard (by rfl) ?_; dsimp only)); refine box_event ?hg (N := 1) ?hd (cs := #[.int .i64 a0_0, .int .i64 a0_1, .string a0_2]) (t := 31) ?hr ?_; (case hd => rfl); (case hg => rfl); (case hr => first | (go_simp; done) | (go_simp; rfl)); intro gb101 hg w4 hbox hb; have n0_ := Aside0.mk (below_step b28_ hb); have n1_ := Aside0.mk (hbox); have n2_ := Aside0.mk ((by rw [hg]; exact (below_size b28_) : w.heap.size ≤ gb101)); have n3_ := Aside0.mk ((by rw [hg]; exact (below_size b28_) : w.heap.size ≤ gb101)); clear HB; have HB := n0_; have BK101 := n1_; have GW101 := n2_; have GE101 := n3_; clear n0_ n1_ n2_ n3_; clear hb hbox hg; have hcz5_0 : w4.cell? ⟨gb101, 0, none⟩ = some (.int .i64 a0_0) := (blk_cell BK101.out 0).trans rfl; have hcz5_1 : w4.cell? ⟨gb101, 1, none⟩ = some (.int .i64 a0_1) := (blk_cell BK101.out 1).trans rfl; have hcz5_2 : w4.cell? ⟨gb101, 2, none⟩ = some (.string a0_2) := (blk_cell BK101.out 2).trans rfl; have hfz5_0 := blk_frozen BK101.out 0; have hfz5_1 := blk_frozen BK101.out 1; have hfz5_2 := blk_frozen BK101.out 2) | ((with_reducible refine gate_callee (f := 116) rfl ?_); refine goesL_ (some 7) rfl rfl Tryz.func116 kr rfl #[.int .i64 a0_0, .int .i64 a0_1] rfl b24_ ?_; (with_reducible refine (coder_Ends.calls a0_0 a0_1 true _ A2.out).mono ?_); rintro e w' ⟨rfl, ⟨nd, rfl⟩⟩; refine ⟨_, rfl, ?_⟩))
  go_ret
  exact ⟨b60_, b17_⟩
 ·replace c3 := Bool.eq_false_iff.mpr c3
  subst c3
  have H1 : (some false) = some r := by rw [if_neg (show ¬ (false = true) by decide)] at H; exact H
  clear H
  have H := H1
  clear H1
  obtain rfl := Option.some.inj H
  go_enter Tryz.func50, Tryz.ntmps50
  go_wp2_with (first | ((with_reducible refine gate_dst (N := 1) rfl ?_); (try (refine gate_guard (by rfl) ?_; dsimp only)); refine box_event ?hg (N := 1) ?hd (cs := #[.int .i64 a0_0, .int .i64 a0_1, .string a0_2]) (t := 31) ?hr ?_; (case hd => rfl); (case hg => rfl); (case hr => first | (go_simp; done) | (go_simp; rfl)); intro gb101 hg w6 hbox hb; have n0_ := Aside0.mk (below_step b28_ hb); have n1_ := Aside0.mk (hbox); have n2_ := Aside0.mk ((by rw [hg]; exact (below_size b28_) : w.heap.size ≤ gb101)); have n3_ := Aside0.mk ((by rw [hg]; exact (below_size b28_) : w.heap.size ≤ gb101)); clear HB; have HB := n0_; have BK101 := n1_; have GW101 := n2_; have GE101 := n3_; clear n0_ n1_ n2_ n3_; clear hb hbox hg; have hcz7_0 : w6.cell? ⟨gb101, 0, none⟩ = some (.int .i64 a0_0) := (blk_cell BK101.out 0).trans rfl; have hcz7_1 : w6.cell? ⟨gb101, 1, none⟩ = some (.int .i64 a0_1) := (blk_cell BK101.out 1).trans rfl; have hcz7_2 : w6.cell? ⟨gb101, 2, none⟩ = some (.string a0_2) := (blk_cell BK101.out 2).trans rfl; have hfz7_0 := blk_frozen BK101.out 0; have hfz7_1 := blk_frozen BK101.out 1; have hfz7_2 := blk_frozen BK101.out 2) | ((with_reducible refine gate_callee (f := 116) rfl ?_); refine goesL_ (some 7) rfl rfl Tryz.func116 kr rfl #[.int .i64 a0_0, .int .i64 a0_1] rfl b24_ ?_; (with_reducible refine (coder_Ends.calls a0_0 a0_1 false _ A2.out).mono ?_); rintro e w' ⟨rfl, ⟨nd, rfl⟩⟩; refine ⟨_, rfl, ?_⟩))
  go_ret
  exact ⟨b60_, b17_⟩
def coder_Middle.f (a0 : Int) (a1 : Int) (a2 : Int) : Option (Int) := some (wrap64 ((wrap64 (a0 + (wrap64 ((wrap64 (Int.tdiv (wrap64 (a1 - a0)) 4096)) * a2)))) + (wrap64 (Int.tdiv (wrap64 ((Int.tmod (wrap64 (a1 - a0)) 4096) * a2)) 4096))))
theorem coder_Middle.calls (a0 : Int) (a1 : Int) (a2 : Int) (r : Int) (w : World) (h : coder_Middle.f a0 a1 a2 = some r) :
  Calls Tryz.prog 52 #[.int .i64 a0, .int .i64 a1, .int .i64 a2] w fun e w' => e = .returned (.int .i64 r) ∧ Drawn0 w w' := by
 have H : (some (wrap64 ((wrap64 (a0 + (wrap64 ((wrap64 (Int.tdiv (wrap64 (a1 - a0)) 4096)) * a2)))) + (wrap64 (Int.tdiv (wrap64 ((Int.tmod (wrap64 (a1 - a0)) 4096) * a2)) 4096))))) = some r := h
 clear h
 obtain rfl := Option.some.inj H
 go_enter Tryz.func52, Tryz.ntmps52
 go_wp2
 go_ret
 exact ⟨b76_, b69_⟩
def coder_Up.f (a0 : Int) (a1 : Int) : Option (Int) := some (Go.bits .or .i64 (Go.bits .and .i64 (wrap64 (a0 * 256)) 4294967295) a1)
theorem coder_Up.calls (a0 : Int) (a1 : Int) (r : Int) (w : World) (h : coder_Up.f a0 a1 = some r) :
  Calls Tryz.prog 54 #[.int .i64 a0, .int .i64 a1] w fun e w' => e = .returned (.int .i64 r) ∧ Drawn0 w w' := by
 have H : (some (Go.bits .or .i64 (Go.bits .and .i64 (wrap64 (a0 * 256)) 4294967295) a1)) = some r := h
 clear h
 obtain rfl := Option.some.inj H
 go_enter Tryz.func54, Tryz.ntmps54
 go_wp2
 go_ret
 exact ⟨b76_, b69_⟩
end Go.Proofs.YtnoibcdojfnicaaGreatDoor.PB
