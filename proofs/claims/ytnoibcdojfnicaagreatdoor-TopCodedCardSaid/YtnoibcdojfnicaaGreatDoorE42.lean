/- A part of the proof of a law of descanttop: this session's own texts and printed texts, shortened and joined. -/
import Derived.Test.YtnoibcdojfnicaaGreatDoorE41
set_option linter.unusedVariables false
set_option linter.unusedSimpArgs false
set_option maxRecDepth 100000
set_option maxHeartbeats 16000000
namespace Go.Proofs.YtnoibcdojfnicaaGreatDoor.PG
open Go.Proofs.YtnoibcdojfnicaaGreatDoorW.Short
open Bool renaming true → Y, false → J
open Go.RowKit Go.Proofs.YtnoibcdojfnicaaGreatDoorW.PrintWords Go.Proofs.YtnoibcdojfnicaaGreatDoorW.PrintLast Go.Proofs.YtnoibcdojfnicaaGreatDoorW.PrintMore
attribute [local go_sem] max2_int min2_int max_two min_two max_three min_three max_four min_four
mutual
def descanttop_TopCoded.j0 : Nat → ByteArray → ByteArray → Int → Bool → Int → Int → Option (Bool)
 | 0, _, _, _, _, _, _ => none
 | k + 1, x0, x5, x6, x41, x375000, x375001 => if x41 = true then ((descantlaw0_Num.f x6).bind fun t379 => (if t379 = 0 then (some true) else (some (x5.toList == ([] : List UInt8))))) else ((pcm_Get.f k x0 x375000 x375001).bind fun bt380 => (descanttop_TopCoded.l0 k x5 bt380.1 bt380.2 ([] : List (List Int)) 0))
def descanttop_TopCoded.l0 : Nat → ByteArray → List (List Int) → Int → List (List Int) → Int → Option (Bool)
 | 0, _, _, _, _, _ => none
 | k + 1, x5, x7, x8, x9, x10 => if x10 < (x7.length : Int) then (if 0 ≤ x10 then (if 1 < (x5.size : Int) then ((shift_Down.f (rd_L1 x7 x10) (wrap64 (bt x5 1))).bind fun bt385 => ((descantlaw0_Num.f bt385.2).bind fun t389 => (if t389 = 0 then (if x9.length < 5864062014805 then (descanttop_TopCoded.l0 k x5 x7 x8 (x9 ++ [bt385.1]) (wrap64 (x10 + 1))) else (none)) else (none)))) else (none)) else (none)) else ((side_Put.f k x9).bind fun bt393 => (descanttop_TopCoded.l1 k x5 x8 bt393.1 bt393.2 ([] : List Int) 0))
def descanttop_TopCoded.l1 : Nat → ByteArray → Int → List (List Int) → Int → List Int → Int → Option (Bool)
 | 0, _, _, _, _, _, _ => none
 | k + 1, x5, x8, x13, x14, x15, x16 => if x16 < (x13.length : Int) then (if 0 ≤ x16 then ((line_Put.f (rd_L1 x13 x16)).bind fun bt398 => ((descantlaw0_Num.f bt398.2).bind fun t402 => (if t402 = 0 then (if x15.length + bt398.1.length < 17592186044416 then (descanttop_TopCoded.l1 k x5 x8 x13 x14 (x15 ++ bt398.1) (wrap64 (x16 + 1))) else (none)) else (none)))) else (none)) else ((residual_Put.f x15).bind fun bt406 => ((descantlaw0_Num.f x8).bind fun t408 => (if t408 = 0 then ((descantlaw0_Num.f x14).bind fun t409 => (if t409 = 0 then ((descantlaw0_Num.f bt406.2).bind fun t410 => (if t410 = 0 then (if 5 ≤ (wrap64 ((x5.size : Int) - 4)) then (if (wrap64 ((x5.size : Int) - 4)) ≤ (x5.size : Int) then (if (x5.extract 5 ((wrap64 ((x5.size : Int) - 4)) : Int).toNat).toList = bt406.1.toList then (if 0 ≤ (wrap64 ((x5.size : Int) - 4)) then ((crc_Sum.f (x5.extract 0 ((wrap64 ((x5.size : Int) - 4)) : Int).toNat)).bind fun t411 => ((descantref1_Crc.f (x5.extract 0 ((wrap64 ((x5.size : Int) - 4)) : Int).toNat)).bind fun t412 => (some (t411 == t412)))) else (none)) else (none)) else (none)) else (none)) else (none))) else (none))) else (none))))
end
def descanttop_TopCoded.f (k : Nat) (a0 : ByteArray) (a1_0 : Int) (a1_1 : Int) : Option (Bool) := (descanttop_awake.f).bind fun t375 => (if t375 = true then ((segment_Put.f k a0 a1_0 a1_1).bind fun bt376 => ((descantlaw0_Num.f bt376.2).bind fun t378 => (if t378 = 0 then (if (bt376.1.size : Int) < 9 then (descanttop_TopCoded.j0 k a0 bt376.1 bt376.2 true a1_0 a1_1) else (if 0 < (bt376.1.size : Int) then (descanttop_TopCoded.j0 k a0 bt376.1 bt376.2 ((bt bt376.1 0) != 1) a1_0 a1_1) else (none))) else (descanttop_TopCoded.j0 k a0 bt376.1 bt376.2 true a1_0 a1_1)))) else (none))
def descanttop_TopCoded.T11 : Bool × List (List Nat × List Nat) := (true, [([], []), ([], []), ([0, 1], [0, 1]), ([2], [2]), ([], []), ([4], [4]), ([5], [5]), ([3, 6], [3, 6]), ([7], [7]), ([8], [8]), ([8], [8]), ([9, 7, 0, 1, 2, 3, 4, 5, 6, 7, 8, 9], [9]), ([10, 11, 0, 1, 2, 3, 4, 5, 6, 7, 8, 9, 10, 11], [10])])
def descanttop_TopCoded.B11 : List Nat := [0, 0, 3, 7, 0, 16, 48, 127, 255, 511, 511, 1023, 4095]
theorem descanttop_TopCoded.tab11 : rtab .any (opsOf Tryz.f6 11) = descanttop_TopCoded.T11 := by kernel_rfl
theorem descanttop_TopCoded.bits11 : waitsOk descanttop_TopCoded.T11.2 descanttop_TopCoded.B11 = true := by kernel_rfl
def descanttop_TopCoded.T25 : Bool × List (List Nat × List Nat) := (true, [([], []), ([0], [0]), ([1], [1]), ([2, 1], [2]), ([3], [3]), ([4, 3, 3], [3, 4]), ([5, 3], [3, 5]), ([3, 6], [3, 6]), ([7, 5], [7]), ([8], [8]), ([9, 8, 8], [8, 9]), ([10, 8], [8, 10]), ([8, 11], [8, 11]), ([12, 10], [12]), ([13], [13]), ([13], [13]), ([15, 13], [13, 15]), ([16, 13], [13, 16]), ([14, 17, 13], [13, 14, 17]), ([13], [13]), ([18, 19, 13], [13, 18, 19]), ([13, 20], [13, 20]), ([21, 13], [21]), ([22], [22]), ([22], [22]), ([24, 22], [22, 24]), ([25, 22], [22, 25]), ([23, 26, 22], [22, 23, 26]), ([27, 22, 22], [22, 27]), ([22], [22]), ([22], [22]), ([30, 22], [22, 30]), ([31, 22], [22, 31]), ([29, 32, 22], [22, 29, 32]), ([33, 28, 22], [22, 33]), ([28, 34, 22], [22, 28, 34]), ([22, 35], [22, 35]), ([36, 34, 0, 1, 2, 3, 4, 5, 6, 7, 8, 9, 10, 11, 12, 13, 14, 15, 16, 17, 18, 19, 20, 21, 22, 23, 24, 25, 26, 27, 28, 29, 30, 31, 32, 33, 34, 35, 36], [36])])
def descanttop_TopCoded.B25 : List Nat := [0, 1, 3, 7, 15, 31, 63, 127, 255, 511, 1023, 2047, 4095, 8191, 16383, 16383, 49151, 114687, 262143, 16383, 1048575, 2097151, 4194303, 8388607, 8388607, 25165823, 58720255, 134217727, 268435455, 8388607, 8388607, 1082130431, 3229614079, 8061452287, 17179869183, 34359738367, 68719476735, 137438953471]
theorem descanttop_TopCoded.tab25 : rtab .any (opsOf Tryz.f6 25) = descanttop_TopCoded.T25 := by kernel_rfl
theorem descanttop_TopCoded.bits25 : waitsOk descanttop_TopCoded.T25.2 descanttop_TopCoded.B25 = true := by kernel_rfl
theorem descanttop_TopCoded.calls (k : Nat) (a0 : ByteArray) (a1_0 : Int) (a1_1 : Int) (r : Bool) (w : World) (h : descanttop_TopCoded.f k a0 a1_0 a1_1 = some r) (hv_ : Extra.Laid w := by repeat (first | assumption | exact Extra.Laid.aside (by assumption) (by assumption) | apply Extra.Laid.alloc_ | apply Extra.Laid.drewN_ | apply Extra.Laid.drew_)) :
  Calls Tryz.prog 6 #[.string a0, .agg #[.int .i64 a1_0, .int .i64 a1_1]] w fun e w' => e = .returned (.bool r) ∧ Below w.heap.size w w' := by
 have hu69 := Tryz.underlying69
 have HB := Aside0.mk (Below.refl w.heap.size w)
 have H : ((descanttop_awake.f).bind fun t375 => (if t375 = true then ((segment_Put.f k a0 a1_0 a1_1).bind fun bt376 => ((descantlaw0_Num.f bt376.2).bind fun t378 => (if t378 = 0 then (if (bt376.1.size : Int) < 9 then (descanttop_TopCoded.j0 k a0 bt376.1 bt376.2 true a1_0 a1_1) else (if 0 < (bt376.1.size : Int) then (descanttop_TopCoded.j0 k a0 bt376.1 bt376.2 ((bt bt376.1 0) != 1) a1_0 a1_1) else (none))) else (descanttop_TopCoded.j0 k a0 bt376.1 bt376.2 true a1_0 a1_1)))) else (none))) = some r := h
 clear h
 replace H := Option.bind_eq_some_iff.mp H
 obtain ⟨t375, A30, H⟩ := H
 replace H : (if t375 = true then ((segment_Put.f k a0 a1_0 a1_1).bind fun bt376 => ((descantlaw0_Num.f bt376.2).bind fun t378 => (if t378 = 0 then (if (bt376.1.size : Int) < 9 then (descanttop_TopCoded.j0 k a0 bt376.1 bt376.2 true a1_0 a1_1) else (if 0 < (bt376.1.size : Int) then (descanttop_TopCoded.j0 k a0 bt376.1 bt376.2 ((bt bt376.1 0) != 1) a1_0 a1_1) else (none))) else (descanttop_TopCoded.j0 k a0 bt376.1 bt376.2 true a1_0 a1_1)))) else (none)) = some r := H
 have A3 := Aside0.mk A30
 clear A30
 by_cases c4 : t375 = true
 ·subst c4
  have H1 : ((segment_Put.f k a0 a1_0 a1_1).bind fun bt376 => ((descantlaw0_Num.f bt376.2).bind fun t378 => (if t378 = 0 then (if (bt376.1.size : Int) < 9 then (descanttop_TopCoded.j0 k a0 bt376.1 bt376.2 true a1_0 a1_1) else (if 0 < (bt376.1.size : Int) then (descanttop_TopCoded.j0 k a0 bt376.1 bt376.2 ((bt bt376.1 0) != 1) a1_0 a1_1) else (none))) else (descanttop_TopCoded.j0 k a0 bt376.1 bt376.2 true a1_0 a1_1)))) = some r := by rw [if_pos rfl] at H; exact H
  clear H
  have H := H1
  clear H1
  replace H := Option.bind_eq_some_iff.mp H
  obtain ⟨⟨t376, t377⟩, A50, H⟩ := H
  replace H : ((descantlaw0_Num.f t377).bind fun t378 => (if t378 = 0 then (if (t376.size : Int) < 9 then (descanttop_TopCoded.j0 k a0 t376 t377 true a1_0 a1_1) else (if 0 < (t376.size : Int) then (descanttop_TopCoded.j0 k a0 t376 t377 ((bt t376 0) != 1) a1_0 a1_1) else (none))) else (descanttop_TopCoded.j0 k a0 t376 t377 true a1_0 a1_1))) = some r := H
  have A5 := Aside0.mk A50
  clear A50
  have HC6 := Aside0.mk H
  clear H
  go_enter Tryz.func6, Tryz.ntmps6
  go_upto_region 4 with (first | ((with_reducible refine gate_dst (N := 3) rfl ?_); (try (refine gate_guard (by rfl) ?_; dsimp only)); refine box_event ?hg (N := 3) ?hd (cs := #[.int .i64 a1_0, .int .i64 a1_1]) (t := 69) ?hr ?_; (case hd => rfl); (case hg => rfl); (case hr => first | (go_simp; done) | (go_simp; rfl)); intro gb374 hg w7 hbox hb; have n0_ := Aside0.mk (below_step b28_ hb); have n1_ := Aside0.mk (hbox); have n2_ := Aside0.mk ((by rw [hg]; exact (below_size b28_) : w.heap.size ≤ gb374)); have n3_ := Aside0.mk ((by rw [hg]; exact (below_size b28_) : w.heap.size ≤ gb374)); clear HB; have HB := n0_; have BK374 := n1_; have GW374 := n2_; have GE374 := n3_; clear n0_ n1_ n2_ n3_; clear hb hbox hg) | ((with_reducible refine gate_callee (f := 10) rfl ?_); refine goesL_ (some 21) rfl rfl Tryz.func10 kr rfl #[] rfl b24_ ?_; (with_reducible refine (descanttop_awake.calls  true _ A3.out).mono ?_); rintro e w8 ⟨rfl, hb⟩; refine ⟨_, rfl, ?_⟩; have n0_ := Aside0.mk (blk_below (g := gb374) (o := .cells #[.int .i64 a1_0, .int .i64 a1_1] 69 (0, 0)) b45_ hb); have n1_ := Aside0.mk (below_step b16_ hb); clear BK374; clear HB; have BK374 := n0_; have HB := n1_; clear n0_ n1_; (try clear hb); (try clear hb2); (try clear hk); (try clear hi); have hcz9_0 : w8.cell? ⟨gb374, 0, none⟩ = some (.int .i64 a1_0) := (blk_cell BK374.out 0).trans rfl; have hcz9_1 : w8.cell? ⟨gb374, 1, none⟩ = some (.int .i64 a1_1) := (blk_cell BK374.out 1).trans rfl; have hfz9_0 := blk_frozen BK374.out 0; have hfz9_1 := blk_frozen BK374.out 1) | ((with_reducible refine gate_callee (f := 28) rfl ?_); refine goesL_ (some 26) rfl rfl Tryz.func28 kr rfl #[.string a0, .agg #[.int .i64 a1_0, .int .i64 a1_1]] rfl b24_ ?_; (with_reducible refine (segment_Put.calls k a0 a1_0 a1_1 t376 t377 _ A5.out).mono ?_); rintro e w10 ⟨rfl, hb⟩; refine ⟨_, rfl, ?_⟩; have n0_ := Aside0.mk (blk_below (g := gb374) (o := .cells #[.int .i64 a1_0, .int .i64 a1_1] 69 (0, 0)) b45_ hb); have n1_ := Aside0.mk (below_step b16_ hb); clear BK374; clear HB; have BK374 := n0_; have HB := n1_; clear n0_ n1_; (try clear hb); (try clear hb2); (try clear hk); (try clear hi)))
  (try simp only [Act.put, List.setIfInBounds_toArray, List.set_cons_zero, List.set_cons_succ])
  go_cut [41] (fun v41 wc => ∃ (kq : Nat) (x41_5 : Bool), v41 = .bool x41_5 ∧ Aside0 (descanttop_TopCoded.j0 kq a0 t376 t377 x41_5 a1_0 a1_1 = some r) ∧ Aside0 (kq ≤ k) ∧ Aside0 (wc.heap[gb374]? = some (.cells #[.int .i64 a1_0, .int .i64 a1_1] 69 (0, 0))) ∧ Aside0 (Below w.heap.size w wc))
  case first =>
   have H := HC6.out
   clear HC6
   replace H := Option.bind_eq_some_iff.mp H
   obtain ⟨t378, A110, H⟩ := H
   replace H : (if t378 = 0 then (if (t376.size : Int) < 9 then (descanttop_TopCoded.j0 k a0 t376 t377 true a1_0 a1_1) else (if 0 < (t376.size : Int) then (descanttop_TopCoded.j0 k a0 t376 t377 ((bt t376 0) != 1) a1_0 a1_1) else (none))) else (descanttop_TopCoded.j0 k a0 t376 t377 true a1_0 a1_1)) = some r := H
   have A11 := Aside0.mk A110
   clear A110
   by_cases c12 : t378 = 0
   ·rw [if_pos c12] at H
    have c12b0 : (t378 == 0) = true := beq_iff_eq.mpr c12
    have c12b1 : (t378 != 0) = false := bne_eq_false_iff_eq.mpr c12
    clear c12
    (first | rw [c12b0] | (simp only [i64_w, i32_w]; rw [c12b0]) | skip)
    by_cases c13 : (t376.size : Int) < 9
    ·rw [if_pos c13] at H
     have c13b0 : decide ((t376.size : Int) < 9) = true := decide_eq_true c13
     have c13b1 : decide (t376.size < 9) = true := decide_eq_true (by omega)
     clear c13
     have H' := Aside0.mk H
     clear H
     go_wp2_with (first | ((with_reducible refine gate_callee (f := 16) rfl ?_); refine goesL_ (some 30) rfl rfl Tryz.func16 kr rfl #[.int .i64 t377] rfl b24_ ?_; (with_reducible refine (descantlaw0_Num.calls t377 t378 _ A11.out).mono ?_); rintro e w' ⟨rfl, ⟨nd, rfl⟩⟩; refine ⟨_, rfl, ?_⟩))
     go_meet
     case rel => exact ⟨_, (true), b75_, H', ⟨b79_⟩, ⟨b48_⟩, ⟨b21_⟩⟩
    ·rw [if_neg c13] at H
     have c13b0 : decide ((t376.size : Int) < 9) = false := decide_eq_false c13
     have c13b1 : decide (t376.size < 9) = false := decide_eq_false (by omega)
     clear c13
     by_cases c14 : 0 < (t376.size : Int)
     ·rw [if_pos c14] at H
      have c14b0 : decide (0 < (t376.size : Int)) = true := decide_eq_true c14
      have c14b1 : decide (0 < t376.size) = true := decide_eq_true (by omega)
      clear c14
      have H' := Aside0.mk H
      clear H
      go_wp2_with (first | ((with_reducible refine gate_callee (f := 16) rfl ?_); refine goesL_ (some 30) rfl rfl Tryz.func16 kr rfl #[.int .i64 t377] rfl b24_ ?_; (with_reducible refine (descantlaw0_Num.calls t377 t378 _ A11.out).mono ?_); rintro e w' ⟨rfl, ⟨nd, rfl⟩⟩; refine ⟨_, rfl, ?_⟩; have p15 : 0 ≤ (0 : Int) := (by omega); have q15 : 0 < t376.size := (by have : (0 : Int) < (t376.size : Int) := of_decide_eq_true b73_; omega); have hx15 : ∀ h : 0 < t376.size, ((t376[0]'h).toNat : Int) = bt t376 0 := bt_at t376 0; clear p15; have qi15 : (0 < (t376.size : Int)) = True := eq_true (of_decide_eq_true b73_); replace q15 := eq_true q15))
      go_meet
      case rel => exact ⟨_, (((bt t376 0) != 1)), b75_, H', ⟨b79_⟩, ⟨b48_⟩, ⟨b21_⟩⟩
     ·rw [if_neg c14] at H
      exact absurd H (by simp)
   ·rw [if_neg c12] at H
    have c12b0 : (t378 == 0) = false := beq_eq_false_iff_ne.mpr c12
    have c12b1 : (t378 != 0) = true := bne_iff_ne.mpr c12
    (first | rw [c12b0] | (simp only [i64_w, i32_w]; rw [c12b0]) | skip)
    have H' := Aside0.mk H
    clear H
    go_wp2_with (first | ((with_reducible refine gate_callee (f := 16) rfl ?_); refine goesL_ (some 30) rfl rfl Tryz.func16 kr rfl #[.int .i64 t377] rfl b24_ ?_; (with_reducible refine (descantlaw0_Num.calls t377 t378 _ A11.out).mono ?_); rintro e w' ⟨rfl, ⟨nd, rfl⟩⟩; refine ⟨_, rfl, ?_⟩))
    go_meet
    case rel => exact ⟨_, (true), b75_, H', ⟨b79_⟩, ⟨b48_⟩, ⟨b21_⟩⟩
  case rest =>
   clear HC6
   try clear c1
   try clear p1
   try clear q1
   try clear hx1
   try clear qi1
   try clear c2
   try clear p2
   try clear c4
   try clear c6
   try clear c10
   try clear c12
   try clear c12b0
   try clear c12b1
   try clear c13
   try clear c13b0
   try clear c13b1
   try clear c14
   try clear c14b0
   try clear c14b1
   try clear p15
   try clear q15
   try clear hx15
   try clear qi15
   try clear hcz9_0
   try clear hcz9_1
   try clear hfz9_0
   try clear hfz9_1
   try clear p15
   try clear q15
   obtain ⟨kq, x41_5, rfl, HA, HJ5, BK374, HB⟩ := hcut
   cases kq with
   | zero => exact absurd HA.out (by simp [descanttop_TopCoded.j0])
   | succ kj5 =>
    have H := HA.out
    clear HA
    simp only [descanttop_TopCoded.j0] at H
    by_cases c16 : x41_5 = true
    ·subst c16
     have H1 : ((descantlaw0_Num.f t377).bind fun t379 => (if t379 = 0 then (some true) else (some (t376.toList == ([] : List UInt8))))) = some r := by rw [if_pos rfl] at H; exact H
     clear H
     have H := H1
     clear H1
     replace H := Option.bind_eq_some_iff.mp H
     obtain ⟨t379, A170, H⟩ := H
     replace H : (if t379 = 0 then (some true) else (some (t376.toList == ([] : List UInt8)))) = some r := H
     have A17 := Aside0.mk A170
     clear A170
     by_cases c18 : t379 = 0
     ·rw [if_pos c18] at H
      have c18b0 : (t379 == 0) = true := beq_iff_eq.mpr c18
      have c18b1 : (t379 != 0) = false := bne_eq_false_iff_eq.mpr c18
      clear c18
      obtain rfl := Option.some.inj H
      go_wp2_with (first | ((with_reducible refine gate_callee (f := 16) rfl ?_); refine goesL_ (some 43) rfl rfl Tryz.func16 kr rfl #[.int .i64 t377] rfl b24_ ?_; (with_reducible refine (descantlaw0_Num.calls t377 t379 _ A17.out).mono ?_); rintro e w' ⟨rfl, ⟨nd, rfl⟩⟩; refine ⟨_, rfl, ?_⟩))
      go_ret
      exact ⟨b60_, b21_⟩
     ·rw [if_neg c18] at H
      have c18b0 : (t379 == 0) = false := beq_eq_false_iff_ne.mpr c18
      have c18b1 : (t379 != 0) = true := bne_iff_ne.mpr c18
      obtain rfl := Option.some.inj H
      go_wp2_with (first | ((with_reducible refine gate_callee (f := 16) rfl ?_); refine goesL_ (some 43) rfl rfl Tryz.func16 kr rfl #[.int .i64 t377] rfl b24_ ?_; (with_reducible refine (descantlaw0_Num.calls t377 t379 _ A17.out).mono ?_); rintro e w' ⟨rfl, ⟨nd, rfl⟩⟩; refine ⟨_, rfl, ?_⟩))
      go_ret
      exact ⟨b60_, b21_⟩
    ·replace c16 := Bool.eq_false_iff.mpr c16
     subst c16
     have H1 : ((pcm_Get.f kj5 a0 a1_0 a1_1).bind fun bt380 => (descanttop_TopCoded.l0 kj5 t376 bt380.1 bt380.2 ([] : List (List Int)) 0)) = some r := by rw [if_neg (show ¬ (false = true) by decide)] at H; exact H
     clear H
     have H := H1
     clear H1
     replace H := Option.bind_eq_some_iff.mp H
     obtain ⟨⟨t380, t383⟩, A190, H⟩ := H
     replace H : (descanttop_TopCoded.l0 kj5 t376 t380 t383 ([] : List (List Int)) 0) = some r := H
     have A19 := Aside0.mk A190
     clear A190
     have H' := Aside0.mk H
     clear H
     have hcz20_0 : wc.cell? ⟨gb374, 0, none⟩ = some (.int .i64 a1_0) := (blk_cell BK374.out 0).trans rfl
     have hcz20_1 : wc.cell? ⟨gb374, 1, none⟩ = some (.int .i64 a1_1) := (blk_cell BK374.out 1).trans rfl
     have hfz20_0 := blk_frozen BK374.out 0
     have hfz20_1 := blk_frozen BK374.out 1
     go_wp2_with (first | ((with_reducible refine gate_callee (f := 29) rfl ?_); refine goesL_ (some 52) rfl rfl Tryz.func29 kr rfl #[.string a0, .agg #[.int .i64 a1_0, .int .i64 a1_1]] rfl b24_ ?_; (with_reducible refine (pcm_Get.calls kj5 a0 a1_0 a1_1 t380 t383 _ A19.out).mono ?_); rintro e w21 ⟨v381, rfl, ho0, hb⟩; refine ⟨_, rfl, ?_⟩; have n0_ := Aside0.mk (Kd.S_lower ho0 (below_size b16_)); have n1_ := Aside0.mk (blk_below (g := gb374) (o := .cells #[.int .i64 a1_0, .int .i64 a1_1] 69 (0, 0)) b45_ hb); have n2_ := Aside0.mk (below_step b16_ hb); clear BK374; clear HB; have HO382 := n0_; have BK374 := n1_; have HB := n2_; clear n0_ n1_ n2_; (try clear hb); (try clear hb2); (try clear hk); (try clear hi); (try clear ho0)))
     go_loopg [9, 10] kj5 (fun kq v9 v10 w' => ∃ (x9_2 : List (List Int)) (x10_2 : Int), v10 = .int .i64 x10_2 ∧ Aside0 (descanttop_TopCoded.l0 kq t376 t380 t383 x9_2 x10_2 = some r) ∧ Aside0 (kq ≤ kj5) ∧ Aside0 (Kd.S (Kd.slice 3 (Kd.int .i64)) 22 w' w.heap.size (fun k_ => some k_ ≠ (v9 : Value).ownBlock) v381 t380) ∧ Aside0 (Kd.S (Kd.slice 3 (Kd.int .i64)) 22 w' w.heap.size (fun k_ => some k_ ≠ (v381 : Value).ownBlock) v9 x9_2) ∧ Aside0 (w'.heap[gb374]? = some (.cells #[.int .i64 a1_0, .int .i64 a1_1] 69 (0, 0))) ∧ Aside0 (Below w.heap.size w w'))
     case atStart => exact ⟨(([] : List (List Int))), (0), b75_, H', ⟨Nat.le_refl _⟩, ⟨by (with_reducible repeat (first | apply Kd.S_alloc | apply Kd.S_drewN | apply Kd.S_drew)); exact Kd.S_mono HO382.out (fun _ hk => (by simp [Value.ownBlock]))⟩, ⟨b25_⟩, ⟨b48_⟩, ⟨b21_⟩⟩
     case round =>
      clear H'
      try clear c1
      try clear p1
      try clear q1
      try clear hx1
      try clear qi1
      try clear c2
      try clear p2
      try clear c4
      try clear c6
      try clear c10
      try clear c12
      try clear c12b0
      try clear c12b1
      try clear c13
      try clear c13b0
      try clear c13b1
      try clear c14
      try clear c14b0
      try clear c14b1
      try clear p15
      try clear q15
      try clear hx15
      try clear qi15
      try clear c16
      try clear c18
      try clear c18b0
      try clear c18b1
      try clear hcz20_0
      try clear hcz20_1
      try clear hcz9_0
      try clear hcz9_1
      try clear hfz20_0
      try clear hfz20_1
      try clear hfz9_0
      try clear hfz9_1
      try clear p1
      try clear p15
      try clear p2
      try clear q1
      try clear q15
      obtain ⟨x9_2, x10_2, rfl, HA, HK2, HO_7, HO_9, BK374, HB⟩ := hrel
      cases gk with
      | zero => exact absurd HA.out (by simp [descanttop_TopCoded.l0])
      | succ k2 =>
       have H := HA.out
       clear HA
       simp only [descanttop_TopCoded.l0] at H
       by_cases c22 : x10_2 < (t380.length : Int)
       ·rw [if_pos c22] at H
        have c22b0 : decide (x10_2 < (t380.length : Int)) = true := decide_eq_true c22
        clear c22
        by_cases c23 : 0 ≤ x10_2
        ·rw [if_pos c23] at H
         have c23b0 : decide (0 ≤ x10_2) = true := decide_eq_true c23
         clear c23
         by_cases c24 : 1 < (t376.size : Int)
         ·rw [if_pos c24] at H
          have c24b0 : decide (1 < (t376.size : Int)) = true := decide_eq_true c24
          have c24b1 : decide (1 < t376.size) = true := decide_eq_true (by omega)
          clear c24
          replace H := Option.bind_eq_some_iff.mp H
          obtain ⟨⟨t385, t386⟩, A260, H⟩ := H
          replace H : ((descantlaw0_Num.f t386).bind fun t389 => (if t389 = 0 then (if x9_2.length < 5864062014805 then (descanttop_TopCoded.l0 k2 t376 t380 t383 (x9_2 ++ [t385]) (wrap64 (x10_2 + 1))) else (none)) else (none))) = some r := H
          have A26 := Aside0.mk A260
          clear A260
          replace H := Option.bind_eq_some_iff.mp H
          obtain ⟨t389, A270, H⟩ := H
          replace H : (if t389 = 0 then (if x9_2.length < 5864062014805 then (descanttop_TopCoded.l0 k2 t376 t380 t383 (x9_2 ++ [t385]) (wrap64 (x10_2 + 1))) else (none)) else (none)) = some r := H
          have A27 := Aside0.mk A270
          clear A270
          by_cases c28 : t389 = 0
          ·rw [if_pos c28] at H
           have c28b0 : (t389 == 0) = true := beq_iff_eq.mpr c28
           have c28b1 : (t389 != 0) = false := bne_eq_false_iff_eq.mpr c28
           clear c28
           by_cases c29 : x9_2.length < 5864062014805
           ·rw [if_pos c29] at H
            have LMc29 := Aside0.mk c29
            clear c29
            obtain ⟨y390, hy390⟩ : ∃ y_ : List (List Int), y_ = (x9_2 ++ [t385]) := ⟨_, rfl⟩
            replace H : (descanttop_TopCoded.l0 k2 t376 t380 t383 y390 (wrap64 (x10_2 + 1))) = some r := by first | (rw [hy390]; with_reducible exact H) | (have H2_ := (Option.bind_some _ _).symm.trans H; rw [hy390]; with_reducible exact H2_) | (have H2_ := (Option.bind_some _ _).symm.trans H; with_reducible exact H2_) | with_reducible exact H | (rw [hy390]; exact H) | exact H
            have Ny390 := Aside0.mk hy390
            clear hy390
            have H' := Aside0.mk H
            clear H
            obtain ⟨Ao30, co30, eo30⟩ := Kd.S_slice HO_7.out
            subst eo30
            try go_wp2
            have n0_ := Aside0.mk (Kd.S_drew HO_7.out)
            have n1_ := Aside0.mk (Kd.S_drew HO_9.out)
            have n2_ := Aside0.mk (blk_drew BK374.out)
            have n3_ := Aside0.mk (below_drew1 HB.out)
            clear HO_7
            clear HO_9
            clear BK374
            clear HB
            have HO_7 := n0_
            have HO_9 := n1_
            have BK374 := n2_
            have HB := n3_
            clear n0_ n1_ n2_ n3_
            have p384 : 0 ≤ (x10_2 : Int) := of_decide_eq_true b73_
            have q384 : x10_2 < (t380.length : Int) := of_decide_eq_true b73_
            obtain ⟨ad384, A384_0, c384_0, e384, hx384_0, hl384_0, hi384_0⟩ := at_L1 (Kd.S_reads' HO_7.out).2.2 x10_2 p384 q384
            cases e384
            obtain ⟨ce384, hce384, hMe384, hcc384⟩ := Kd.S_get HO_7.out [] x10_2 p384 (by first | exact q384 | exact of_decide_eq_true b73_ | (have e_ := (Kd.S_reads' HO_7.out).1; omega))
            obtain ⟨ve384_0, rfl, ge384_0⟩ := hMe384
            have hv384_0 := hcc384 0 _ rfl
            rw [Nat.add_zero, show ((Kd.slice 3 (Kd.int .i64))).sz = 1 from rfl, Nat.mul_one] at hv384_0
            replace hv384_0 := Option.some.inj (hv384_0.symm.trans hx384_0)
            rw [hv384_0] at ge384_0
            have HL384_0 := Aside0.mk (show Kd.R (Kd.int .i64) 3 _ _ _ _ (rd_L1 t380 x10_2) from ge384_0)
            clear hv384_0 ge384_0
            clear hcc384 hce384
            have HR384_0 := Aside0.mk hi384_0
            have HC384_0 := Aside0.mk hl384_0
            clear hi384_0 hl384_0
            replace p384 := eq_true p384
            replace q384 := eq_true q384
            have p25 : 0 ≤ (1 : Int) := (by omega)
            have q25 : 1 < t376.size := (by have : (1 : Int) < (t376.size : Int) := of_decide_eq_true b73_; omega)
            have hx25 : ∀ h : 1 < t376.size, ((t376[1]'h).toNat : Int) = bt t376 1 := bt_at t376 1
            clear p25
            have qi25 : (1 < (t376.size : Int)) = True := eq_true (of_decide_eq_true b73_)
            replace q25 := eq_true q25
            refine start_ (n := 13) (S := fun w' => w'.cell? (ad384.add (x10_2).toNat) = some (.slice A384_0 (rd_L1 t380 x10_2).length c384_0)) (ds := []) #[J,J,J,J,J,J,J,J,J,J,J,J,J] kr rfl rfl (hx384_0) (fun hHeld => ?_); refine with_tabW descanttop_TopCoded.tab11 descanttop_TopCoded.bits11 (fun HT_ HW_ => ?_)
            generalize wr.drew = w31 at HO_7 HO_9 BK374 HB HL384_0 HR384_0 hx384_0 hHeld ⊢
            refine pu_ 0 62 (z 13 1) HT_ ?_
            refine pu_ 1 63 (z 13 3) HT_ ?_
            refine pu_ 2 64 (z 13 7) HT_ ?_
            refine pu_ 4 66 (z 13 23) HT_ ?_
            refine take_ (i := 3) (N := some 65) (v := ?_) (a' := ?_) #[Y,Y,Y,Y,Y,J,J,J,J,J,J,J,J] rfl rfl (take_ofW HT_.out HW_.out kr) (fun _ _ _ h => h) (Or.inl ⟨by rfl, ?_⟩) hHeld ?_ ?_
            rotate_left
            ·intro w' s0
             go_simp
             with_reducible rfl
            rotate_left
            ·exact pT
            refine take_ (i := 5) (N := some 67) (v := ?_) (a' := ?_) #[Y,Y,Y,Y,Y,Y,J,J,J,J,J,J,J] rfl rfl (take_ofW HT_.out HW_.out kr) (fun _ _ _ h => h) (Or.inl ⟨by rfl, ?_⟩) hHeld ?_ ?_
            rotate_left
            ·intro w' s0
             go_simp
             with_reducible rfl
            rotate_left
            ·exact pT
            refine pu_ 6 68 (z 13 127) HT_ ?_
            refine one_ (i := 7) (N := some 69) #[Y,Y,Y,Y,Y,Y,Y,Y,J,J,J,J,J] rfl rfl (one_of HT_.out kr) (by decide) (fun K hK => ?_)
            refine goes_ Tryz.func30 kr rfl #[.slice A384_0 (rd_L1 t380 x10_2).length c384_0, .int .i64 (wrap64 (bt t376 1))] (by rfl) rfl rfl b24_ ?_
            with_reducible refine (shift_Down.calls _ _ (rd_L1 t380 x10_2) (wrap64 (bt t376 1)) t385 t386 _ ?side1 ?side2 A26.out).mono ?_
            (case side1 => repeat (first | exact (by repeat (first | (with_reducible exact HR384_0.out) | (with_reducible refine Kd.C_alloc ?_ _) | (with_reducible refine Kd.C_drewN ?_ _) | (with_reducible refine Kd.C_drew ?_) | exact HR384_0.out)) | (with_reducible refine Kd.C_alloc ?_ _) | (with_reducible refine Kd.C_drewN ?_ _) | (with_reducible refine Kd.C_drew ?_)))
            (case side2 => exact HC384_0.out)
            rintro e w32 ⟨v387, rfl, ho0, hb⟩
            have HS0_ := (hb.cell (World.block_lt_of_cell? _ _ (hHeld))).trans (hHeld)
            refine ⟨_, rfl, ?_⟩
            have n0_ := Aside0.mk (Kd.S_elder' b55_ (Kd.R_base ho0) hb)
            have n1_ := Aside0.mk (Kd.S_elder' b56_ (Kd.R_base ho0) hb)
            have n2_ := Aside0.mk (Kd.R_elder' (by (with_reducible repeat (first | apply Kd.R_alloc | apply Kd.R_drewN | apply Kd.R_drew)); exact HL384_0.out) (Kd.R_base ho0) hb)
            have n3_ := Aside0.mk (Kd.R_lower (Kd.R_new' ho0 (Kd.R_lt (by (with_reducible repeat (first | apply Kd.R_alloc | apply Kd.R_drewN | apply Kd.R_drew)); exact HL384_0.out))) (below_size b16_))
            have n4_ := Aside0.mk (blk_below (g := gb374) (o := .cells #[.int .i64 a1_0, .int .i64 a1_1] 69 (0, 0)) b45_ hb)
            have n5_ := Aside0.mk (Kd.C_below (by repeat (first | (with_reducible exact HR384_0.out) | (with_reducible refine Kd.C_alloc ?_ _) | (with_reducible refine Kd.C_drewN ?_ _) | (with_reducible refine Kd.C_drew ?_) | exact HR384_0.out)) hb)
            have n6_ := Aside0.mk (below_step b16_ hb)
            clear HO_7
            clear HO_9
            clear HL384_0
            clear BK374
            clear HR384_0
            clear HB
            have HO_7 := n0_
            have HO_9 := n1_
            have HL384_0 := n2_
            have HO388 := n3_
            have BK374 := n4_
            have HR384_0 := n5_
            have HB := n6_
            clear n0_ n1_ n2_ n3_ n4_ n5_ n6_
            (try clear hb)
            (try clear hb2)
            (try clear hk)
            (try clear hi)
            (try clear ho0)
            refine hK.out _ _ (HS0_) (fun hHeld => ?_)
            clear hK K
            refine norm_ (a' := ?_) ?_ ?_
            rotate_left
            ·show Act.put _ (some 69) _ = _
             exact pT
            refine pu_ 8 61 (z 13 511) HT_ ?_
            refine pu_ 9 70 (z 13 1023) HT_ ?_
            refine pu_ 10 71 (z 13 2047) HT_ ?_
            refine pu_ 11 11 (z 13 4095) HT_ ?_
            refine pu_ 12 12 (z 13 8191) HT_ ?_
            refine done_ (done_of HT_.out kr) ?_
            try go_wp2_with (first | ((with_reducible refine gate_callee (f := 16) rfl ?_); refine goesL_ (some 73) rfl rfl Tryz.func16 kr rfl #[.int .i64 t386] rfl b24_ ?_; (with_reducible refine (descantlaw0_Num.calls t386 t389 _ A27.out).mono ?_); rintro e w' ⟨rfl, ⟨nd, rfl⟩⟩; refine ⟨_, rfl, ?_⟩; obtain ⟨Ao34, co34, eo34⟩ := Kd.R_slice HO388.out; subst eo34) | ((with_reducible refine gate_builtin (b := .append) (xs := #[.tmp 75, .tmp 77]) rfl ?_); (try (refine gate_guard (by rfl) ?_; dsimp only)); at_builtin; refine Kd.S_append (Kd.slice 3 (Kd.int .i64)) (w0 := w) w.heap.size rfl (.tmp 75) (.tmp 77) 71 22 (.slice none 0 0) 24 rfl Tryz.underlying71 info22 rfl (by decide) (by omega) u9 x9_2 t385 [.slice Ao34 t385.length co34] (fun k_ => some k_ ≠ (.slice (some ad384) t380.length co30 : Value).ownBlock) (fun k_ => some k_ = (.slice Ao34 t385.length co34 : Value).ownBlock) rfl rfl ?aP (fun k_ hk_ => ((Kd.R_mono (ok' := fun k_ => ((fun k_ => some k_ ≠ (.slice (some ad384) t380.length co30 : Value).ownBlock)) k_ ∧ some k_ ≠ (u9 : Value).ownBlock) (Kd.R_apart' (Kd.R_apart' (HO388.out) (Kd.S_typed HO_7.out) (by decide)) (Kd.S_typed HO_9.out) (by decide)) (fun k_ hk => ⟨hk.1.2, hk.2⟩))).1 k_ hk_.symm) ?aF ?aO ?aB ?aS ?aL ?_; (case aP => exact Kd.M_row (Kd.R_mono (Kd.R_tight rfl (Kd.R_mono (ok' := fun k_ => ((fun k_ => some k_ ≠ (.slice (some ad384) t380.length co30 : Value).ownBlock)) k_ ∧ some k_ ≠ (u9 : Value).ownBlock) (Kd.R_apart' (Kd.R_apart' (HO388.out) (Kd.S_typed HO_7.out) (by decide)) (Kd.S_typed HO_9.out) (by decide)) (fun k_ hk => ⟨hk.1.2, hk.2⟩))) (fun _ h_ => h_))); (case aB => exact b16_); (case aF => exact (fun k_ hk => Kd.fresh' (Kd.S_lt b55_) k_ hk)); (case aO => exact (by (with_reducible repeat (first | apply Kd.S_alloc | apply Kd.S_drewN | apply Kd.S_drew)); exact Kd.S_mono HO_9.out (fun k_ hk => ⟨hk.1, fun e_ => hk.2 e_⟩))); (case aS => exact (below_size b16_)); (case aL => have := LMc29.out; omega); intro v391 w33 ho hb hg hat; rw [← Ny390.out] at ho; have n0_ := Aside0.mk (Kd.S_after (ok := (fun k_ => some k_ ≠ (.slice Ao34 t385.length co34 : Value).ownBlock)) (by (with_reducible repeat (first | apply Kd.S_alloc | apply Kd.S_drewN | apply Kd.S_drew)); exact Kd.S_mono HO_7.out (fun _ hk => ⟨hk.2, hk.1⟩)) hg hat); have n1_ := Aside0.mk (blk_grown (g := gb374) (o := .cells #[.int .i64 a1_0, .int .i64 a1_1] 69 (0, 0)) b45_ hg (Kd.S_ne HO_9.out BK374.out (by decide))); have n2_ := Aside0.mk (Kd.R_after (ok := (fun k_ => some k_ ≠ (.slice (some ad384) t380.length co30 : Value).ownBlock ∧ some k_ ≠ (.slice Ao34 t385.length co34 : Value).ownBlock)) (by (with_reducible repeat (first | apply Kd.R_alloc | apply Kd.R_drewN | apply Kd.R_drew)); exact Kd.R_mono HL384_0.out (fun _ hk => ⟨⟨hk.1.2, hk.2⟩, hk.1.1⟩)) hg hat); have n3_ := Aside0.mk (hb); have n4_ := Aside0.mk (ho); clear HO_7; clear BK374; clear HL384_0; clear HB; clear HO_9; clear HO388; have HO_7 := n0_; have BK374 := n1_; have HL384_0 := n2_; have HB := n3_; have HO392 := n4_; clear n0_ n1_ n2_ n3_ n4_; clear ho hb hg hat))
            go_roundg k2
            case measure => have := HJ5.out; have := HK2.out; omega
            case rel => exact ⟨(y390), (wrap64 (x10_2 + 1)), b75_, H', ⟨by have := HJ5.out; have := HK2.out; omega⟩, ⟨by (with_reducible repeat (first | apply Kd.S_alloc | apply Kd.S_drewN | apply Kd.S_drew)); exact Kd.S_mono HO_7.out (fun _ hk => hk.2)⟩, ⟨by (with_reducible repeat (first | apply Kd.S_alloc | apply Kd.S_drewN | apply Kd.S_drew)); exact HO392.out⟩, ⟨b48_⟩, ⟨b21_⟩⟩
           ·rw [if_neg c29] at H
            exact absurd H (by simp)
          ·rw [if_neg c28] at H
           exact absurd H (by simp)
         ·rw [if_neg c24] at H
          exact absurd H (by simp)
        ·rw [if_neg c23] at H
         exact absurd H (by simp)
       ·rw [if_neg c22] at H
        have c22b0 : decide (x10_2 < (t380.length : Int)) = false := decide_eq_false c22
        clear c22
        replace H := Option.bind_eq_some_iff.mp H
        obtain ⟨⟨t393, t394⟩, A350, H⟩ := H
        replace H : (descanttop_TopCoded.l1 k2 t376 t383 t393 t394 ([] : List Int) 0) = some r := H
        have A35 := Aside0.mk A350
        clear A350
        have H' := Aside0.mk H
        clear H
        obtain ⟨Ao36, co36, eo36⟩ := Kd.S_slice HO_7.out
        subst eo36
        obtain ⟨Ao37, co37, eo37⟩ := Kd.S_slice HO_9.out
        subst eo37
        go_wp2_with (first | ((with_reducible refine gate_callee (f := 31) rfl ?_); refine goesL_ (some 81) rfl rfl Tryz.func31 kr rfl #[.slice Ao37 x9_2.length co37] rfl b24_ ?_; (with_reducible refine (side_Put.calls k2 _ _ x9_2 t393 t394 _ ?side1 ?side2 A35.out).mono ?_); (case side1 => repeat (first | exact (Kd.S_reads' HO_9.out).2.2 | (with_reducible refine Kd.C_alloc ?_ _) | (with_reducible refine Kd.C_drewN ?_ _) | (with_reducible refine Kd.C_drew ?_))); (case side2 => exact (Kd.S_reads' HO_9.out).2.1); rintro e w38 ⟨v395, rfl, ho0, hb⟩; refine ⟨_, rfl, ?_⟩; have n0_ := Aside0.mk (Kd.S_elder' b55_ (Kd.S_base ho0) hb); have n1_ := Aside0.mk (Kd.S_elder' b56_ (Kd.S_base ho0) hb); have n2_ := Aside0.mk (Kd.S_lower (Kd.S_new' (Kd.S_new' ho0 (Kd.S_lt b55_)) (Kd.S_lt b56_)) (below_size b16_)); have n3_ := Aside0.mk (blk_below (g := gb374) (o := .cells #[.int .i64 a1_0, .int .i64 a1_1] 69 (0, 0)) b45_ hb); have n4_ := Aside0.mk (below_step b16_ hb); clear HO_7; clear HO_9; clear BK374; clear HB; have HO_7 := n0_; have HO_9 := n1_; have HO396 := n2_; have BK374 := n3_; have HB := n4_; clear n0_ n1_ n2_ n3_ n4_; (try clear hb); (try clear hb2); (try clear hk); (try clear hi); (try clear ho0)))
        go_loopg [15, 16] k2 (fun kq v15 v16 w' => ∃ (x15_3 : List Int) (x16_3 : Int), v16 = .int .i64 x16_3 ∧ Aside0 (descanttop_TopCoded.l1 kq t376 t383 t393 t394 x15_3 x16_3 = some r) ∧ Aside0 (kq ≤ k2) ∧ Aside0 (Kd.S (Kd.slice 3 (Kd.int .i64)) 22 w' w.heap.size (fun k_ => some k_ ≠ (v15 : Value).ownBlock) v395 t393) ∧ Aside0 (Kd.R (Kd.int .i64) 3 w' w.heap.size (fun _ => True) v15 x15_3) ∧ Aside0 (w'.heap[gb374]? = some (.cells #[.int .i64 a1_0, .int .i64 a1_1] 69 (0, 0))) ∧ Aside0 (Below w.heap.size w w'))
        case atStart => exact ⟨(([] : List Int)), (0), b75_, H', ⟨Nat.le_refl _⟩, ⟨by (with_reducible repeat (first | apply Kd.S_alloc | apply Kd.S_drewN | apply Kd.S_drew)); exact Kd.S_mono HO396.out (fun _ hk => (by simp [Value.ownBlock]))⟩, ⟨b26_⟩, ⟨b48_⟩, ⟨b21_⟩⟩
        case round =>
         clear H'
         try clear c1
         try clear p1
         try clear q1
         try clear hx1
         try clear qi1
         try clear c2
         try clear p2
         try clear q2
         try clear hx2
         try clear qi2
         try clear c3
         try clear p3
         try clear q3
         try clear hx3
         try clear c4
         try clear c6
         try clear p6
         try clear c10
         try clear c12
         try clear c12b0
         try clear c12b1
         try clear c13
         try clear c13b0
         try clear c13b1
         try clear c14
         try clear c14b0
         try clear c14b1
         try clear p15
         try clear q15
         try clear hx15
         try clear qi15
         try clear c16
         try clear c18
         try clear c18b0
         try clear c18b1
         try clear c22
         try clear c22b0
         try clear c23
         try clear c23b0
         try clear c24
         try clear c24b0
         try clear c24b1
         try clear p25
         try clear q25
         try clear hx25
         try clear qi25
         try clear c28
         try clear c28b0
         try clear c28b1
         try clear c29
         try clear c30
         try clear c31
         try clear c38
         try clear p38
         try clear q38
         try clear hx38
         try clear hcz20_0
         try clear hcz20_1
         try clear hcz9_0
         try clear hcz9_1
         try clear hfz20_0
         try clear hfz20_1
         try clear hfz9_0
         try clear hfz9_1
         try clear hx384_0
         try clear p1
         try clear p15
         try clear p2
         try clear p25
         try clear p384
         try clear q1
         try clear q15
         try clear q25
         try clear q384
         obtain ⟨x15_3, x16_3, rfl, HA, HK3, HO_13, HO_15, BK374, HB⟩ := hrel
         cases gk with
         | zero => exact absurd HA.out (by simp [descanttop_TopCoded.l1])
         | succ k3 =>
          have H := HA.out
          clear HA
          simp only [descanttop_TopCoded.l1] at H
          by_cases c39 : x16_3 < (t393.length : Int)
          ·rw [if_pos c39] at H
           have c39b0 : decide (x16_3 < (t393.length : Int)) = true := decide_eq_true c39
           clear c39
           by_cases c40 : 0 ≤ x16_3
           ·rw [if_pos c40] at H
            have c40b0 : decide (0 ≤ x16_3) = true := decide_eq_true c40
            clear c40
            replace H := Option.bind_eq_some_iff.mp H
            obtain ⟨⟨t398, t399⟩, A410, H⟩ := H
            replace H : ((descantlaw0_Num.f t399).bind fun t402 => (if t402 = 0 then (if x15_3.length + t398.length < 17592186044416 then (descanttop_TopCoded.l1 k3 t376 t383 t393 t394 (x15_3 ++ t398) (wrap64 (x16_3 + 1))) else (none)) else (none))) = some r := H
            have A41 := Aside0.mk A410
            clear A410
            replace H := Option.bind_eq_some_iff.mp H
            obtain ⟨t402, A420, H⟩ := H
            replace H : (if t402 = 0 then (if x15_3.length + t398.length < 17592186044416 then (descanttop_TopCoded.l1 k3 t376 t383 t393 t394 (x15_3 ++ t398) (wrap64 (x16_3 + 1))) else (none)) else (none)) = some r := H
            have A42 := Aside0.mk A420
            clear A420
            by_cases c43 : t402 = 0
            ·rw [if_pos c43] at H
             have c43b0 : (t402 == 0) = true := beq_iff_eq.mpr c43
             have c43b1 : (t402 != 0) = false := bne_eq_false_iff_eq.mpr c43
             clear c43
             by_cases c44 : x15_3.length + t398.length < 17592186044416
             ·rw [if_pos c44] at H
              have LMc44 := Aside0.mk c44
              clear c44
              obtain ⟨y403, hy403⟩ : ∃ y_ : List Int, y_ = (x15_3 ++ t398) := ⟨_, rfl⟩
              replace H : (descanttop_TopCoded.l1 k3 t376 t383 t393 t394 y403 (wrap64 (x16_3 + 1))) = some r := by first | (rw [hy403]; with_reducible exact H) | (have H2_ := (Option.bind_some _ _).symm.trans H; rw [hy403]; with_reducible exact H2_) | (have H2_ := (Option.bind_some _ _).symm.trans H; with_reducible exact H2_) | with_reducible exact H | (rw [hy403]; exact H) | exact H
              have Ny403 := Aside0.mk hy403
              clear hy403
              have H' := Aside0.mk H
              clear H
              obtain ⟨Ao45, co45, eo45⟩ := Kd.S_slice HO_13.out
              subst eo45
              have p397 : 0 ≤ (x16_3 : Int) := of_decide_eq_true b73_
              have q397 : x16_3 < (t393.length : Int) := of_decide_eq_true b73_
              obtain ⟨ad397, A397_0, c397_0, e397, hx397_0, hl397_0, hi397_0⟩ := at_L1 (Kd.S_reads' HO_13.out).2.2 x16_3 p397 q397
              cases e397
              obtain ⟨ce397, hce397, hMe397, hcc397⟩ := Kd.S_get HO_13.out [] x16_3 p397 (by first | exact q397 | exact of_decide_eq_true b73_ | (have e_ := (Kd.S_reads' HO_13.out).1; omega))
              obtain ⟨ve397_0, rfl, ge397_0⟩ := hMe397
              have hv397_0 := hcc397 0 _ rfl
              rw [Nat.add_zero, show ((Kd.slice 3 (Kd.int .i64))).sz = 1 from rfl, Nat.mul_one] at hv397_0
              replace hv397_0 := Option.some.inj (hv397_0.symm.trans hx397_0)
              rw [hv397_0] at ge397_0
              have HL397_0 := Aside0.mk (show Kd.R (Kd.int .i64) 3 _ _ _ _ (rd_L1 t393 x16_3) from ge397_0)
              clear hv397_0 ge397_0
              clear hcc397 hce397
              have HR397_0 := Aside0.mk hi397_0
              have HC397_0 := Aside0.mk hl397_0
              clear hi397_0 hl397_0
              replace p397 := eq_true p397
              replace q397 := eq_true q397
              go_wp2_with (first | ((with_reducible refine gate_callee (f := 25) rfl ?_); refine goesL_ (some 95) rfl rfl Tryz.func25 kr rfl #[.slice A397_0 (rd_L1 t393 x16_3).length c397_0] rfl b24_ ?_; (with_reducible refine (line_Put.calls _ _ (rd_L1 t393 x16_3) t398 t399 _ ?side1 ?side2 A41.out).mono ?_); (case side1 => repeat (first | exact (by repeat (first | (with_reducible exact HR397_0.out) | (with_reducible refine Kd.C_alloc ?_ _) | (with_reducible refine Kd.C_drewN ?_ _) | (with_reducible refine Kd.C_drew ?_) | exact HR397_0.out)) | (with_reducible refine Kd.C_alloc ?_ _) | (with_reducible refine Kd.C_drewN ?_ _) | (with_reducible refine Kd.C_drew ?_))); (case side2 => exact HC397_0.out); rintro e w46 ⟨v400, rfl, ho0, hb⟩; refine ⟨_, rfl, ?_⟩; have n0_ := Aside0.mk (Kd.S_elder' b51_ (Kd.R_base ho0) hb); have n1_ := Aside0.mk (Kd.R_elder' b52_ (Kd.R_base ho0) hb); have n2_ := Aside0.mk (Kd.R_elder' (by (with_reducible repeat (first | apply Kd.R_alloc | apply Kd.R_drewN | apply Kd.R_drew)); exact HL397_0.out) (Kd.R_base ho0) hb); have n3_ := Aside0.mk (Kd.R_lower (Kd.R_new' (Kd.R_new' ho0 (Kd.R_lt b52_)) (Kd.R_lt (by (with_reducible repeat (first | apply Kd.R_alloc | apply Kd.R_drewN | apply Kd.R_drew)); exact HL397_0.out))) (below_size b16_)); have n4_ := Aside0.mk (blk_below (g := gb374) (o := .cells #[.int .i64 a1_0, .int .i64 a1_1] 69 (0, 0)) b45_ hb); have n5_ := Aside0.mk (Kd.C_below (by repeat (first | (with_reducible exact HR397_0.out) | (with_reducible refine Kd.C_alloc ?_ _) | (with_reducible refine Kd.C_drewN ?_ _) | (with_reducible refine Kd.C_drew ?_) | exact HR397_0.out)) hb); have n6_ := Aside0.mk (below_step b16_ hb); clear HO_13; clear HO_15; clear HL397_0; clear BK374; clear HR397_0; clear HB; have HO_13 := n0_; have HO_15 := n1_; have HL397_0 := n2_; have HO401 := n3_; have BK374 := n4_; have HR397_0 := n5_; have HB := n6_; clear n0_ n1_ n2_ n3_ n4_ n5_ n6_; (try clear hb); (try clear hb2); (try clear hk); (try clear hi); (try clear ho0)) | ((with_reducible refine gate_callee (f := 16) rfl ?_); refine goesL_ (some 99) rfl rfl Tryz.func16 kr rfl #[.int .i64 t399] rfl b24_ ?_; (with_reducible refine (descantlaw0_Num.calls t399 t402 _ A42.out).mono ?_); rintro e w' ⟨rfl, ⟨nd, rfl⟩⟩; refine ⟨_, rfl, ?_⟩; obtain ⟨Ao48, co48, eo48⟩ := Kd.R_slice HO401.out; subst eo48) | ((with_reducible refine gate_builtin (b := .append) (xs := #[.tmp 101, .tmp 102]) rfl ?_); (try (refine gate_guard (by rfl) ?_; dsimp only)); at_builtin; refine Kd.R_append_rows (Kd.int .i64) (w0 := w) w.heap.size rfl (.tmp 101) (.tmp 102) 22 3 (.int .i64 0) 8 rfl Tryz.underlying22 info3 rfl (by decide) (by omega) u15 x15_3 t398 _ _ _ (fun k_ => some k_ ≠ (.slice Ao48 t398.length co48 : Value).ownBlock) (fun _ => False) rfl rfl ?aO ?aR (fun _ _ h => h) (fun _ h => h.elim) ?aF ?aB ?aS ?aL ?_; (case aR => repeat (first | exact (Kd.R_reads' HO401.out).2.2 | (with_reducible refine Kd.C_alloc ?_ _) | (with_reducible refine Kd.C_drewN ?_ _) | (with_reducible refine Kd.C_drew ?_))); (case aB => exact b16_); (case aF => exact (fun k_ hk => Kd.fresh' (Kd.R_lt (by (with_reducible repeat (first | apply Kd.R_alloc | apply Kd.R_drewN | apply Kd.R_drew)); exact HO401.out)) k_ hk)); (case aO => exact (by (with_reducible repeat (first | apply Kd.R_alloc | apply Kd.R_drewN | apply Kd.R_drew)); exact Kd.R_mono HO_15.out (fun _ hk => hk.2))); (case aS => exact (below_size b16_)); (case aL => have := LMc44.out; omega); intro v404 w47 ho hb hg hat; rw [← Ny403.out] at ho; have n0_ := Aside0.mk (Kd.S_after (ok := (fun k_ => some k_ ≠ (.slice Ao48 t398.length co48 : Value).ownBlock)) (by (with_reducible repeat (first | apply Kd.S_alloc | apply Kd.S_drewN | apply Kd.S_drew)); exact Kd.S_mono HO_13.out (fun _ hk => ⟨hk.2, hk.1⟩)) hg hat); have n1_ := Aside0.mk (blk_grown (g := gb374) (o := .cells #[.int .i64 a1_0, .int .i64 a1_1] 69 (0, 0)) b45_ hg (Kd.R_ne HO_15.out BK374.out (by decide))); have n2_ := Aside0.mk (Kd.R_after (ok := (fun k_ => some k_ ≠ (.slice (some ad397) t393.length co45 : Value).ownBlock ∧ some k_ ≠ (.slice Ao48 t398.length co48 : Value).ownBlock)) (by (with_reducible repeat (first | apply Kd.R_alloc | apply Kd.R_drewN | apply Kd.R_drew)); exact Kd.R_mono HL397_0.out (fun _ hk => ⟨⟨hk.1.2, hk.2⟩, hk.1.1⟩)) hg hat); have n3_ := Aside0.mk (Kd.R_after (ok := (fun k_ => some k_ ≠ (.slice A397_0 (rd_L1 t393 x16_3).length c397_0 : Value).ownBlock)) (by (with_reducible repeat (first | apply Kd.R_alloc | apply Kd.R_drewN | apply Kd.R_drew)); exact Kd.R_mono HO401.out (fun _ hk => ⟨hk.2, hk.1.2⟩)) hg hat); have n4_ := Aside0.mk (hb); have n5_ := Aside0.mk (ho); clear HO_13; clear BK374; clear HL397_0; clear HO401; clear HB; clear HO_15; have HO_13 := n0_; have BK374 := n1_; have HL397_0 := n2_; have HO401 := n3_; have HB := n4_; have HO405 := n5_; clear n0_ n1_ n2_ n3_ n4_ n5_; clear ho hb hg hat))
              go_roundg k3
              case measure => have := HJ5.out; have := HK2.out; have := HK3.out; omega
              case rel => exact ⟨(y403), (wrap64 (x16_3 + 1)), b75_, H', ⟨by have := HJ5.out; have := HK2.out; have := HK3.out; omega⟩, ⟨by (with_reducible repeat (first | apply Kd.S_alloc | apply Kd.S_drewN | apply Kd.S_drew)); exact Kd.S_mono HO_13.out (fun _ hk => hk.2)⟩, ⟨by (with_reducible repeat (first | apply Kd.R_alloc | apply Kd.R_drewN | apply Kd.R_drew)); exact Kd.R_mono HO405.out (fun _ hk => trivial)⟩, ⟨b48_⟩, ⟨b21_⟩⟩
             ·rw [if_neg c44] at H
              exact absurd H (by simp)
            ·rw [if_neg c43] at H
             exact absurd H (by simp)
           ·rw [if_neg c40] at H
            exact absurd H (by simp)
          ·rw [if_neg c39] at H
           have c39b0 : decide (x16_3 < (t393.length : Int)) = false := decide_eq_false c39
           clear c39
           replace H := Option.bind_eq_some_iff.mp H
           obtain ⟨⟨t406, t407⟩, A490, H⟩ := H
           replace H : ((descantlaw0_Num.f t383).bind fun t408 => (if t408 = 0 then ((descantlaw0_Num.f t394).bind fun t409 => (if t409 = 0 then ((descantlaw0_Num.f t407).bind fun t410 => (if t410 = 0 then (if 5 ≤ (wrap64 ((t376.size : Int) - 4)) then (if (wrap64 ((t376.size : Int) - 4)) ≤ (t376.size : Int) then (if (t376.extract 5 ((wrap64 ((t376.size : Int) - 4)) : Int).toNat).toList = t406.toList then (if 0 ≤ (wrap64 ((t376.size : Int) - 4)) then ((crc_Sum.f (t376.extract 0 ((wrap64 ((t376.size : Int) - 4)) : Int).toNat)).bind fun t411 => ((descantref1_Crc.f (t376.extract 0 ((wrap64 ((t376.size : Int) - 4)) : Int).toNat)).bind fun t412 => (some (t411 == t412)))) else (none)) else (none)) else (none)) else (none)) else (none))) else (none))) else (none))) = some r := H
           have A49 := Aside0.mk A490
           clear A490
           replace H := Option.bind_eq_some_iff.mp H
           obtain ⟨t408, A500, H⟩ := H
           replace H : (if t408 = 0 then ((descantlaw0_Num.f t394).bind fun t409 => (if t409 = 0 then ((descantlaw0_Num.f t407).bind fun t410 => (if t410 = 0 then (if 5 ≤ (wrap64 ((t376.size : Int) - 4)) then (if (wrap64 ((t376.size : Int) - 4)) ≤ (t376.size : Int) then (if (t376.extract 5 ((wrap64 ((t376.size : Int) - 4)) : Int).toNat).toList = t406.toList then (if 0 ≤ (wrap64 ((t376.size : Int) - 4)) then ((crc_Sum.f (t376.extract 0 ((wrap64 ((t376.size : Int) - 4)) : Int).toNat)).bind fun t411 => ((descantref1_Crc.f (t376.extract 0 ((wrap64 ((t376.size : Int) - 4)) : Int).toNat)).bind fun t412 => (some (t411 == t412)))) else (none)) else (none)) else (none)) else (none)) else (none))) else (none))) else (none)) = some r := H
           have A50 := Aside0.mk A500
           clear A500
           by_cases c51 : t408 = 0
           ·rw [if_pos c51] at H
            have c51b0 : (t408 == 0) = true := beq_iff_eq.mpr c51
            have c51b1 : (t408 != 0) = false := bne_eq_false_iff_eq.mpr c51
            clear c51
            replace H := Option.bind_eq_some_iff.mp H
            obtain ⟨t409, A520, H⟩ := H
            replace H : (if t409 = 0 then ((descantlaw0_Num.f t407).bind fun t410 => (if t410 = 0 then (if 5 ≤ (wrap64 ((t376.size : Int) - 4)) then (if (wrap64 ((t376.size : Int) - 4)) ≤ (t376.size : Int) then (if (t376.extract 5 ((wrap64 ((t376.size : Int) - 4)) : Int).toNat).toList = t406.toList then (if 0 ≤ (wrap64 ((t376.size : Int) - 4)) then ((crc_Sum.f (t376.extract 0 ((wrap64 ((t376.size : Int) - 4)) : Int).toNat)).bind fun t411 => ((descantref1_Crc.f (t376.extract 0 ((wrap64 ((t376.size : Int) - 4)) : Int).toNat)).bind fun t412 => (some (t411 == t412)))) else (none)) else (none)) else (none)) else (none)) else (none))) else (none)) = some r := H
            have A52 := Aside0.mk A520
            clear A520
            by_cases c53 : t409 = 0
            ·rw [if_pos c53] at H
             have c53b0 : (t409 == 0) = true := beq_iff_eq.mpr c53
             have c53b1 : (t409 != 0) = false := bne_eq_false_iff_eq.mpr c53
             clear c53
             replace H := Option.bind_eq_some_iff.mp H
             obtain ⟨t410, A540, H⟩ := H
             replace H : (if t410 = 0 then (if 5 ≤ (wrap64 ((t376.size : Int) - 4)) then (if (wrap64 ((t376.size : Int) - 4)) ≤ (t376.size : Int) then (if (t376.extract 5 ((wrap64 ((t376.size : Int) - 4)) : Int).toNat).toList = t406.toList then (if 0 ≤ (wrap64 ((t376.size : Int) - 4)) then ((crc_Sum.f (t376.extract 0 ((wrap64 ((t376.size : Int) - 4)) : Int).toNat)).bind fun t411 => ((descantref1_Crc.f (t376.extract 0 ((wrap64 ((t376.size : Int) - 4)) : Int).toNat)).bind fun t412 => (some (t411 == t412)))) else (none)) else (none)) else (none)) else (none)) else (none)) = some r := H
             have A54 := Aside0.mk A540
             clear A540
             by_cases c55 : t410 = 0
             ·rw [if_pos c55] at H
              have c55b0 : (t410 == 0) = true := beq_iff_eq.mpr c55
              have c55b1 : (t410 != 0) = false := bne_eq_false_iff_eq.mpr c55
              clear c55
              by_cases c56 : 5 ≤ (wrap64 ((t376.size : Int) - 4))
              ·rw [if_pos c56] at H
               have c56b0 := eq_true c56
               have c56b1 : decide (5 ≤ (wrap64 ((t376.size : Int) - 4))) = true := decide_eq_true c56
               clear c56
               by_cases c57 : (wrap64 ((t376.size : Int) - 4)) ≤ (t376.size : Int)
               ·rw [if_pos c57] at H
                have c57b0 := eq_true c57
                have c57b1 : decide ((wrap64 ((t376.size : Int) - 4)) ≤ (t376.size : Int)) = true := decide_eq_true c57
                clear c57
                by_cases c58 : (t376.extract 5 ((wrap64 ((t376.size : Int) - 4)) : Int).toNat).toList = t406.toList
                ·rw [if_pos c58] at H
                 have c58b0 : ((t376.extract 5 ((wrap64 ((t376.size : Int) - 4)) : Int).toNat).toList == t406.toList) = true := beq_iff_eq.mpr c58
                 have c58b1 : ((t376.extract 5 ((wrap64 ((t376.size : Int) - 4)) : Int).toNat).toList != t406.toList) = false := bne_eq_false_iff_eq.mpr c58
                 clear c58
                 obtain ⟨ji59, hji59⟩ : ∃ j_ : Int, (wrap64 ((t376.size : Int) - 4)) = j_ := ⟨_, rfl⟩
                 replace H : (if 0 ≤ (ji59) then ((crc_Sum.f (t376.extract 0 ((ji59) : Int).toNat)).bind fun t411 => ((descantref1_Crc.f (t376.extract 0 ((ji59) : Int).toNat)).bind fun t412 => (some (t411 == t412)))) else (none)) = some r := by first | (rw [hji59] at H; exact H) | (simp only [hji59] at H ⊢; exact H)
                 (try rw [hji59] at c56b0)
                 (try rw [hji59] at c56b1)
                 (try rw [hji59] at c57b0)
                 (try rw [hji59] at c57b1)
                 (try rw [hji59] at c58b0)
                 (try rw [hji59] at c58b1)
                 (try rw [hji59] at A49)
                 (try rw [hji59] at A50)
                 (try rw [hji59] at A52)
                 (try rw [hji59] at A54)
                 have hji59w : (IntKind.i64.wrap ((t376.size : Int) - 4)) = ji59 := (i64_w _).trans hji59
                 by_cases c60 : 0 ≤ (ji59)
                 ·rw [if_pos c60] at H
                  have c60b0 := eq_true c60
                  have c60b1 : decide (0 ≤ (ji59)) = true := decide_eq_true c60
                  clear c60
                  have c61b0 := eq_true (of_decide_eq_true b73_ : (ji59) ≤ (t376.size : Int))
                  replace H := Option.bind_eq_some_iff.mp H
                  obtain ⟨t411, A620, H⟩ := H
                  replace H : ((descantref1_Crc.f (t376.extract 0 ((ji59) : Int).toNat)).bind fun t412 => (some (t411 == t412))) = some r := H
                  have A62 := Aside0.mk A620
                  clear A620
                  have c63b0 := eq_true (of_decide_eq_true b73_ : 0 ≤ (ji59))
                  have c64b0 := eq_true (of_decide_eq_true b73_ : (ji59) ≤ (t376.size : Int))
                  replace H := Option.bind_eq_some_iff.mp H
                  obtain ⟨t412, A650, H⟩ := H
                  replace H : (some (t411 == t412)) = some r := H
                  have A65 := Aside0.mk A650
                  clear A650
                  obtain rfl := Option.some.inj H
                  obtain ⟨Ao66, co66, eo66⟩ := Kd.S_slice HO_13.out
                  subst eo66
                  obtain ⟨Ao67, co67, eo67⟩ := Kd.R_slice HO_15.out
                  subst eo67
                  try go_wp2_with (first | ((with_reducible refine gate_callee (f := 32) rfl ?_); refine goesL_ (some 106) rfl rfl Tryz.func32 kr rfl #[.slice Ao67 x15_3.length co67] rfl b24_ ?_; (with_reducible refine (residual_Put.calls _ _ x15_3 t406 t407 _ ?side1 ?side2 A49.out).mono ?_); (case side1 => repeat (first | exact (Kd.R_reads' HO_15.out).2.2 | (with_reducible refine Kd.C_alloc ?_ _) | (with_reducible refine Kd.C_drewN ?_ _) | (with_reducible refine Kd.C_drew ?_))); (case side2 => exact (Kd.R_reads' HO_15.out).2.1); rintro e w68 ⟨rfl, hb⟩; refine ⟨_, rfl, ?_⟩; have n0_ := Aside0.mk (Kd.S_below b51_ hb); have n1_ := Aside0.mk (Kd.R_below b52_ hb); have n2_ := Aside0.mk (blk_below (g := gb374) (o := .cells #[.int .i64 a1_0, .int .i64 a1_1] 69 (0, 0)) b45_ hb); have n3_ := Aside0.mk (below_step b16_ hb); clear HO_13; clear HO_15; clear BK374; clear HB; have HO_13 := n0_; have HO_15 := n1_; have BK374 := n2_; have HB := n3_; clear n0_ n1_ n2_ n3_; (try clear hb); (try clear hb2); (try clear hk); (try clear hi)))
                  have n0_ := Aside0.mk (Kd.S_drew HO_13.out)
                  have n1_ := Aside0.mk (Kd.R_drew HO_15.out)
                  have n2_ := Aside0.mk (blk_drew BK374.out)
                  have n3_ := Aside0.mk (below_drew1 HB.out)
                  clear HO_13
                  clear HO_15
                  clear BK374
                  clear HB
                  have HO_13 := n0_
                  have HO_15 := n1_
                  have BK374 := n2_
                  have HB := n3_
                  clear n0_ n1_ n2_ n3_
                  refine start_ (n := 38) (S := fun w' => True) (ds := []) #[J,J,J,J,J,J,J,J,J,J,J,J,J,J,J,J,J,J,J,J,J,J,J,J,J,J,J,J,J,J,J,J,J,J,J,J,J,J] kr rfl rfl trivial (fun hHeld => ?_); refine with_tabW descanttop_TopCoded.tab25 descanttop_TopCoded.bits25 (fun HT_ HW_ => ?_)
                  generalize w68.drew = w69 at HO_13 HO_15 BK374 HB hHeld ⊢
                  refine pu_ 0 109 (z 38 1) HT_ ?_
                  refine one_ (i := 1) (N := some 110) #[Y,Y,J,J,J,J,J,J,J,J,J,J,J,J,J,J,J,J,J,J,J,J,J,J,J,J,J,J,J,J,J,J,J,J,J,J,J,J] rfl rfl (one_of HT_.out kr) (by decide) (fun K hK => ?_)
                  refine goes_ Tryz.func16 kr rfl #[.int .i64 t383] (by rfl) rfl rfl b24_ ?_
                  with_reducible refine (descantlaw0_Num.calls t383 t408 _ A50.out).mono ?_
                  rintro e w' ⟨rfl, ⟨nd, rfl⟩⟩
                  refine ⟨_, rfl, ?_⟩
                  refine hK.out _ _ trivial (fun hHeld => ?_)
                  clear hK K
                  refine norm_ (a' := ?_) ?_ ?_
                  rotate_left
                  ·show Act.put _ (some 110) _ = _
                   exact pT
                  refine pu_ 2 111 (z 38 7) HT_ ?_
                  refine pu_ 3 112 (z 38 15) HT_ ?_
                  refine pu_ 4 113 (z 38 31) HT_ ?_
                  refine one_ (i := 5) (N := some 114) #[Y,Y,Y,Y,Y,Y,J,J,J,J,J,J,J,J,J,J,J,J,J,J,J,J,J,J,J,J,J,J,J,J,J,J,J,J,J,J,J,J] rfl rfl (one_of HT_.out kr) (by decide) (fun K hK => ?_)
                  refine goes_ Tryz.func16 kr rfl #[.int .i64 t394] (by rfl) rfl rfl b24_ ?_
                  with_reducible refine (descantlaw0_Num.calls t394 t409 _ A52.out).mono ?_
                  rintro e w' ⟨rfl, ⟨nd, rfl⟩⟩
                  refine ⟨_, rfl, ?_⟩
                  refine hK.out _ _ trivial (fun hHeld => ?_)
                  clear hK K
                  refine norm_ (a' := ?_) ?_ ?_
                  rotate_left
                  ·show Act.put _ (some 114) _ = _
                   exact pT
                  refine pu_ 6 115 (z 38 127) HT_ ?_
                  refine pu_ 7 116 (z 38 255) HT_ ?_
                  refine pu_ 8 117 (z 38 511) HT_ ?_
                  refine pu_ 9 118 (z 38 1023) HT_ ?_
                  refine one_ (i := 10) (N := some 119) #[Y,Y,Y,Y,Y,Y,Y,Y,Y,Y,Y,J,J,J,J,J,J,J,J,J,J,J,J,J,J,J,J,J,J,J,J,J,J,J,J,J,J,J] rfl rfl (one_of HT_.out kr) (by decide) (fun K hK => ?_)
                  refine goes_ Tryz.func16 kr rfl #[.int .i64 t407] (by rfl) rfl rfl b24_ ?_
                  with_reducible refine (descantlaw0_Num.calls t407 t410 _ A54.out).mono ?_
                  rintro e w' ⟨rfl, ⟨nd, rfl⟩⟩
                  refine ⟨_, rfl, ?_⟩
                  refine hK.out _ _ trivial (fun hHeld => ?_)
                  clear hK K
                  refine norm_ (a' := ?_) ?_ ?_
                  rotate_left
                  ·show Act.put _ (some 119) _ = _
                   exact pT
                  refine pu_ 11 120 (z 38 4095) HT_ ?_
                  refine pu_ 12 121 (z 38 8191) HT_ ?_
                  refine pu_ 13 122 (z 38 16383) HT_ ?_
                  refine pu_ 14 123 (z 38 32767) HT_ ?_
                  refine pu_ 15 124 (z 38 65535) HT_ ?_
                  refine pu_ 16 125 (z 38 131071) HT_ ?_
                  refine pu_ 17 126 (z 38 262143) HT_ ?_
                  refine pu_ 18 127 (z 38 524287) HT_ ?_
                  refine pu_ 19 128 (z 38 1048575) HT_ ?_
                  refine pu_ 20 129 (z 38 2097151) HT_ ?_
                  refine pu_ 21 130 (z 38 4194303) HT_ ?_
                  refine pu_ 22 131 (z 38 8388607) HT_ ?_
                  refine pu_ 23 132 (z 38 16777215) HT_ ?_
                  refine pu_ 24 133 (z 38 33554431) HT_ ?_
                  refine pu_ 25 134 (z 38 67108863) HT_ ?_
                  refine pu_ 26 135 (z 38 134217727) HT_ ?_
                  refine pu_ 27 136 (z 38 268435455) HT_ ?_
                  refine pu_ 29 138 (z 38 805306367) HT_ ?_
                  refine pu_ 30 139 (z 38 1879048191) HT_ ?_
                  refine pu_ 31 140 (z 38 4026531839) HT_ ?_
                  refine pu_ 32 141 (z 38 8321499135) HT_ ?_
                  refine pu_ 33 142 (z 38 16911433727) HT_ ?_
                  refine one_ (i := 28) (N := some 137) #[Y,Y,Y,Y,Y,Y,Y,Y,Y,Y,Y,Y,Y,Y,Y,Y,Y,Y,Y,Y,Y,Y,Y,Y,Y,Y,Y,Y,Y,Y,Y,Y,Y,Y,J,J,J,J] rfl rfl (one_of HT_.out kr) (by decide) (fun K hK => ?_)
                  refine goes_ Tryz.func33 kr rfl #[.string (t376.extract 0 ((ji59) : Int).toNat)] (by rfl) rfl rfl (by (try simp only [List.map_toArray, List.map_cons, List.map_nil]); first | done | (simp only [hji59]; rfl) | rfl | (simp only [List.length_drop, List.length_take]; rfl)) ?_
                  with_reducible refine (crc_Sum.calls (t376.extract 0 ((ji59) : Int).toNat) t411 _ A62.out).mono ?_
                  rintro e w70 ⟨rfl, hb⟩
                  refine ⟨_, rfl, ?_⟩
                  have n0_ := Aside0.mk (Kd.S_below b51_ hb)
                  have n1_ := Aside0.mk (Kd.R_below b52_ hb)
                  have n2_ := Aside0.mk (blk_below (g := gb374) (o := .cells #[.int .i64 a1_0, .int .i64 a1_1] 69 (0, 0)) b45_ hb)
                  have n3_ := Aside0.mk (below_step b16_ hb)
                  clear HO_13
                  clear HO_15
                  clear BK374
                  clear HB
                  have HO_13 := n0_
                  have HO_15 := n1_
                  have BK374 := n2_
                  have HB := n3_
                  clear n0_ n1_ n2_ n3_
                  (try clear hb)
                  (try clear hb2)
                  (try clear hk)
                  (try clear hi)
                  refine hK.out _ _ trivial (fun hHeld => ?_)
                  clear hK K
                  refine norm_ (a' := ?_) ?_ ?_
                  rotate_left
                  ·show Act.put _ (some 137) _ = _
                   exact pT
                  refine one_ (i := 34) (N := some 143) #[Y,Y,Y,Y,Y,Y,Y,Y,Y,Y,Y,Y,Y,Y,Y,Y,Y,Y,Y,Y,Y,Y,Y,Y,Y,Y,Y,Y,Y,Y,Y,Y,Y,Y,Y,J,J,J] rfl rfl (one_of HT_.out kr) (by decide) (fun K hK => ?_)
                  refine goes_ Tryz.func34 kr rfl #[.string (t376.extract 0 ((ji59) : Int).toNat)] (by rfl) rfl rfl (by (try simp only [List.map_toArray, List.map_cons, List.map_nil]); first | done | (simp only [hji59]; rfl) | rfl | (simp only [List.length_drop, List.length_take]; rfl)) ?_
                  with_reducible refine (descantref1_Crc.calls (t376.extract 0 ((ji59) : Int).toNat) t412 _ A65.out).mono ?_
                  rintro e w' ⟨rfl, ⟨nd, rfl⟩⟩
                  refine ⟨_, rfl, ?_⟩
                  refine hK.out _ _ trivial (fun hHeld => ?_)
                  clear hK K
                  refine norm_ (a' := ?_) ?_ ?_
                  rotate_left
                  ·show Act.put _ (some 143) _ = _
                   exact pT
                  refine pu_ 35 144 (z 38 68719476735) HT_ ?_
                  refine pu_ 36 145 (z 38 137438953471) HT_ ?_
                  refine pu_ 37 4 (z 38 274877906943) HT_ ?_
                  refine done_ (done_of HT_.out kr) ?_
                  try go_wp2
                  go_ret
                  exact ⟨by first | rfl | (simp [errW_none, errW_some] <;> rfl) | (simp only [← hji59]; first | rfl | (simp [errW_none, errW_some] <;> rfl)) | (simp [*, errW_none, errW_some] <;> rfl), b21_⟩
                 ·rw [if_neg c60] at H
                  exact absurd H (by simp)
                ·rw [if_neg c58] at H
                 exact absurd H (by simp)
               ·rw [if_neg c57] at H
                exact absurd H (by simp)
              ·rw [if_neg c56] at H
               exact absurd H (by simp)
             ·rw [if_neg c55] at H
              exact absurd H (by simp)
            ·rw [if_neg c53] at H
             exact absurd H (by simp)
           ·rw [if_neg c51] at H
            exact absurd H (by simp)
 ·replace c4 := Bool.eq_false_iff.mpr c4
  subst c4
  have H1 : (none) = some r := by rw [if_neg (show ¬ (false = true) by decide)] at H; exact H
  clear H
  have H := H1
  clear H1
  exact absurd H (by simp)
end Go.Proofs.YtnoibcdojfnicaaGreatDoor.PG
