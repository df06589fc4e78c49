/- A part of the proof of a law of descanttop: this session's own texts and printed texts, shortened and joined. -/
import Derived.Test.YtnoibcdojfnicaaGreatDoorE35
import Derived.Test.YtnoibcdojfnicaaGreatDoorE36
set_option linter.unusedVariables false
set_option linter.unusedSimpArgs false
set_option maxRecDepth 100000
set_option maxHeartbeats 16000000
namespace Go.Proofs.YtnoibcdojfnicaaGreatDoor.PG
open Go.Proofs.YtnoibcdojfnicaaGreatDoorW.Short
open Bool renaming true → Y, false → J
open Go.RowKit Go.Proofs.YtnoibcdojfnicaaGreatDoorW.PrintWords Go.Proofs.YtnoibcdojfnicaaGreatDoorW.PrintLast Go.Proofs.YtnoibcdojfnicaaGreatDoorW.PrintMore
attribute [local go_sem] max2_int min2_int max_two min_two max_three min_three max_four min_four
def wave_Parse.j0 : Nat → ByteArray → List (S151) → Int → Int → Bool → Option (Int × Int × ByteArray × ByteArray × ByteArray × Int)
 | 0, _, _, _, _, _ => none
 | k + 1, x0, x4, x6, x8, x51 => if x51 = true then (none) else (if 0 ≤ x6 then (if x6 < (x4.length : Int) then (if 0 ≤ ((rd_T151 x4 x6).f1) then (if ((rd_T151 x4 x6).f1) ≤ (wrap64 (((rd_T151 x4 x6).f1) + 16)) then (if (wrap64 (((rd_T151 x4 x6).f1) + 16)) ≤ (x0.size : Int) then ((wave_format.f k (x0.extract (((rd_T151 x4 x6).f1) : Int).toNat ((wrap64 (((rd_T151 x4 x6).f1) + 16)) : Int).toNat)).bind fun bt253 => (if 0 ≤ x8 then (if x8 < (x4.length : Int) then (if 0 ≤ ((rd_T151 x4 x8).f1) then (if ((rd_T151 x4 x8).f1) ≤ (wrap64 (((rd_T151 x4 x8).f1) + ((rd_T151 x4 x8).f2))) then (if (wrap64 (((rd_T151 x4 x8).f1) + ((rd_T151 x4 x8).f2))) ≤ (x0.size : Int) then (if bt253.2.2 = true then ((pcm_Frames.f (x0.extract (((rd_T151 x4 x8).f1) : Int).toNat ((wrap64 (((rd_T151 x4 x8).f1) + ((rd_T151 x4 x8).f2))) : Int).toNat) bt253.1 bt253.2.1).bind fun t259 => (if t259 = true then (if ((rd_T151 x4 x8).f1) ≤ (x0.size : Int) then (if 0 ≤ (wrap64 (((rd_T151 x4 x8).f1) + ((x0.extract (((rd_T151 x4 x8).f1) : Int).toNat ((wrap64 (((rd_T151 x4 x8).f1) + ((rd_T151 x4 x8).f2))) : Int).toNat).size : Int))) then (if (wrap64 (((rd_T151 x4 x8).f1) + ((x0.extract (((rd_T151 x4 x8).f1) : Int).toNat ((wrap64 (((rd_T151 x4 x8).f1) + ((rd_T151 x4 x8).f2))) : Int).toNat).size : Int))) ≤ (x0.size : Int) then (some (bt253.1, bt253.2.1, x0.extract 0 (((rd_T151 x4 x8).f1) : Int).toNat, x0.extract (((rd_T151 x4 x8).f1) : Int).toNat ((wrap64 (((rd_T151 x4 x8).f1) + ((rd_T151 x4 x8).f2))) : Int).toNat, x0.extract ((wrap64 (((rd_T151 x4 x8).f1) + ((x0.extract (((rd_T151 x4 x8).f1) : Int).toNat ((wrap64 (((rd_T151 x4 x8).f1) + ((rd_T151 x4 x8).f2))) : Int).toNat).size : Int))) : Int).toNat x0.size, 0)) else (none)) else (none)) else (none)) else (none))) else (none)) else (none)) else (none)) else (none)) else (none)) else (none))) else (none)) else (none)) else (none)) else (none)) else (none))
def wave_Parse.f (k : Nat) (a0 : ByteArray) : Option (Int × Int × ByteArray × ByteArray × ByteArray × Int) := (riff_Chunks.f k a0).bind fun bt242 => ((wave_one.f bt242.1 (⟨#[102, 109, 116, 32]⟩ : ByteArray)).bind fun bt246 => ((wave_one.f bt242.1 (⟨#[100, 97, 116, 97]⟩ : ByteArray)).bind fun bt248 => (if bt242.2 = 0 then (if bt246.2 = true then (if bt248.2 = true then (if bt248.1 < bt246.1 then (none) else (if 0 ≤ bt246.1 then (if bt246.1 < (bt242.1.length : Int) then (wave_Parse.j0 k a0 bt242.1 bt246.1 bt248.1 (((rd_T151 bt242.1 bt246.1).f2) != 16)) else (none)) else (none))) else (none)) else (none)) else (none))))
def wave_Parse.T6 : Bool × List (List Nat × List Nat) := (true, [([], []), ([], []), ([], []), ([1, 2], [1, 2]), ([3], [3]), ([4], [4]), ([], []), ([], []), ([6, 7], [6, 7]), ([8], [8]), ([9], [9]), ([10], [10]), ([0, 5, 11], [0, 5, 11]), ([12], [12]), ([13], [13]), ([14], [14]), ([14], [14]), ([], []), ([17, 15, 13, 0, 1, 2, 3, 4, 5, 6, 7, 8, 9, 10, 11, 12, 13, 14, 15, 17], [15, 17]), ([16, 18, 0, 1, 2, 3, 4, 5, 6, 7, 8, 9, 10, 11, 12, 13, 14, 15, 16, 17, 18], [16])])
def wave_Parse.B6 : List Nat := [0, 0, 0, 6, 14, 30, 0, 0, 192, 448, 960, 1984, 4095, 8191, 16383, 32767, 32767, 0, 196607, 524287]
theorem wave_Parse.tab6 : rtab .any (opsOf Tryz.f36 6) = wave_Parse.T6 := by kernel_rfl
theorem wave_Parse.bits6 : waitsOk wave_Parse.T6.2 wave_Parse.B6 = true := by kernel_rfl
def wave_Parse.T11 : Bool × List (List Nat × List Nat) := (true, [([], []), ([], []), ([], []), ([1, 2], [1, 2]), ([], []), ([], []), ([], []), ([], []), ([7], [7]), ([6, 8], [6, 8]), ([5, 9], [5, 9]), ([0, 3, 4, 10], [0, 3, 4, 10]), ([11, 0, 1, 2, 3, 4, 5, 6, 7, 8, 9, 10, 11], [11]), ([12, 0, 1, 2, 3, 4, 5, 6, 7, 8, 9, 10, 11, 12], [])])
def wave_Parse.B11 : List Nat := [0, 0, 0, 6, 0, 0, 0, 0, 128, 448, 992, 2047, 4095, 8191]
theorem wave_Parse.tab11 : rtab .any (opsOf Tryz.f36 11) = wave_Parse.T11 := by kernel_rfl
theorem wave_Parse.bits11 : waitsOk wave_Parse.T11.2 wave_Parse.B11 = true := by kernel_rfl
theorem wave_Parse.calls (k : Nat) (a0 : ByteArray) (r1 : Int) (r2 : Int) (r3 : ByteArray) (r4 : ByteArray) (r5 : ByteArray) (r6 : Int) (w : World) (h : wave_Parse.f k a0 = some (r1, r2, r3, r4, r5, r6)) :
  Calls Tryz.prog 36 #[.string a0] w fun e w' => e = .returned (.tuple #[.agg #[.int .i64 r1, .int .i64 r2, .string r3, .string r4, .string r5], .int .i64 r6]) ∧ Below w.heap.size w w' := by
 have hu81 := Tryz.underlying81
 have hu69 := Tryz.underlying69
 have HB := Aside0.mk (Below.refl w.heap.size w)
 have H : ((riff_Chunks.f k a0).bind fun bt242 => ((wave_one.f bt242.1 (⟨#[102, 109, 116, 32]⟩ : ByteArray)).bind fun bt246 => ((wave_one.f bt242.1 (⟨#[100, 97, 116, 97]⟩ : ByteArray)).bind fun bt248 => (if bt242.2 = 0 then (if bt246.2 = true then (if bt248.2 = true then (if bt248.1 < bt246.1 then (none) else (if 0 ≤ bt246.1 then (if bt246.1 < (bt242.1.length : Int) then (wave_Parse.j0 k a0 bt242.1 bt246.1 bt248.1 (((rd_T151 bt242.1 bt246.1).f2) != 16)) else (none)) else (none))) else (none)) else (none)) else (none))))) = some (r1, r2, r3, r4, r5, r6) := h
 clear h
 replace H := Option.bind_eq_some_iff.mp H
 obtain ⟨⟨t242, t243⟩, A20, H⟩ := H
 replace H : ((wave_one.f t242 (⟨#[102, 109, 116, 32]⟩ : ByteArray)).bind fun bt246 => ((wave_one.f t242 (⟨#[100, 97, 116, 97]⟩ : ByteArray)).bind fun bt248 => (if t243 = 0 then (if bt246.2 = true then (if bt248.2 = true then (if bt248.1 < bt246.1 then (none) else (if 0 ≤ bt246.1 then (if bt246.1 < (t242.length : Int) then (wave_Parse.j0 k a0 t242 bt246.1 bt248.1 (((rd_T151 t242 bt246.1).f2) != 16)) else (none)) else (none))) else (none)) else (none)) else (none)))) = some (r1, r2, r3, r4, r5, r6) := H
 have A2 := Aside0.mk A20
 clear A20
 replace H := Option.bind_eq_some_iff.mp H
 obtain ⟨⟨t246, t247⟩, A30, H⟩ := H
 replace H : ((wave_one.f t242 (⟨#[100, 97, 116, 97]⟩ : ByteArray)).bind fun bt248 => (if t243 = 0 then (if t247 = true then (if bt248.2 = true then (if bt248.1 < t246 then (none) else (if 0 ≤ t246 then (if t246 < (t242.length : Int) then (wave_Parse.j0 k a0 t242 t246 bt248.1 (((rd_T151 t242 t246).f2) != 16)) else (none)) else (none))) else (none)) else (none)) else (none))) = some (r1, r2, r3, r4, r5, r6) := H
 have A3 := Aside0.mk A30
 clear A30
 replace H := Option.bind_eq_some_iff.mp H
 obtain ⟨⟨t248, t249⟩, A40, H⟩ := H
 replace H : (if t243 = 0 then (if t247 = true then (if t249 = true then (if t248 < t246 then (none) else (if 0 ≤ t246 then (if t246 < (t242.length : Int) then (wave_Parse.j0 k a0 t242 t246 t248 (((rd_T151 t242 t246).f2) != 16)) else (none)) else (none))) else (none)) else (none)) else (none)) = some (r1, r2, r3, r4, r5, r6) := H
 have A4 := Aside0.mk A40
 clear A40
 have HC5 := Aside0.mk H
 clear H
 go_enter Tryz.func36, Tryz.ntmps36
 go_upto_region 4 with (first | ((with_reducible refine gate_dst (N := 2) rfl ?_); refine box_event ?hg (N := 2) ?hd (cs := #[.int .i64 0, .int .i64 0, .string (⟨#[]⟩ : ByteArray), .string (⟨#[]⟩ : ByteArray), .string (⟨#[]⟩ : ByteArray)]) (t := 81) ?hr ?_; (case hd => rfl); (case hg => rfl); (case hr => first | (go_simp; done) | (go_simp; rfl)); intro gb241 hg w6 hbox hb; have n0_ := Aside0.mk (below_step b28_ hb); have n1_ := Aside0.mk (hbox); have n2_ := Aside0.mk ((by rw [hg]; exact (below_size b28_) : w.heap.size ≤ gb241)); have n3_ := Aside0.mk ((by rw [hg]; exact (below_size b28_) : w.heap.size ≤ gb241)); clear HB; have HB := n0_; have BK241 := n1_; have GW241 := n2_; have GE241 := n3_; clear n0_ n1_ n2_ n3_; clear hb hbox hg) | ((with_reducible refine gate_callee (f := 38) rfl ?_); refine goesL_ (some 16) rfl rfl Tryz.func38 kr rfl #[.string a0] rfl b24_ ?_; (with_reducible refine (riff_Chunks.calls k a0 t242 t243 _ A2.out).mono ?_); rintro e w7 ⟨v244, rfl, ho0, hb⟩; refine ⟨_, rfl, ?_⟩; have n0_ := Aside0.mk (Kd.R_lower ho0 (below_size b14_)); have n1_ := Aside0.mk (blk_below (g := gb241) (o := .cells #[.int .i64 0, .int .i64 0, .string (⟨#[]⟩ : ByteArray), .string (⟨#[]⟩ : ByteArray), .string (⟨#[]⟩ : ByteArray)] 81 (0, 0)) b42_ hb); have n2_ := Aside0.mk (below_step b14_ hb); clear BK241; clear HB; have HO245 := n0_; have BK241 := n1_; have HB := n2_; clear n0_ n1_ n2_; (try clear hb); (try clear hb2); (try clear hk); (try clear hi); (try clear ho0); obtain ⟨Ao8, co8, eo8⟩ := Kd.R_slice HO245.out; subst eo8) | ((with_reducible refine gate_callee (f := 90) rfl ?_); refine goesL_ (some 21) rfl rfl Tryz.func90 kr rfl #[.slice Ao8 t242.length co8, .string (⟨#[102, 109, 116, 32]⟩ : ByteArray)] rfl b24_ ?_; (with_reducible refine (wave_one.calls _ _ t242 (⟨#[102, 109, 116, 32]⟩ : ByteArray) t246 t247 _ ?side1 ?side2 A3.out).mono ?_); (case side1 => repeat (first | exact (Kd.R_reads' HO245.out).2.2 | (with_reducible refine Kd.C_alloc ?_ _) | (with_reducible refine Kd.C_drewN ?_ _) | (with_reducible refine Kd.C_drew ?_))); (case side2 => exact (Kd.R_reads' HO245.out).2.1); rintro e w9 ⟨rfl, hb⟩; refine ⟨_, rfl, ?_⟩; have n0_ := Aside0.mk (Kd.R_below (by (with_reducible repeat (first | apply Kd.R_alloc | apply Kd.R_drewN | apply Kd.R_drew)); exact HO245.out) hb); have n1_ := Aside0.mk (blk_below (g := gb241) (o := .cells #[.int .i64 0, .int .i64 0, .string (⟨#[]⟩ : ByteArray), .string (⟨#[]⟩ : ByteArray), .string (⟨#[]⟩ : ByteArray)] 81 (0, 0)) b42_ hb); have n2_ := Aside0.mk (below_step b14_ hb); clear HO245; clear BK241; clear HB; have HO245 := n0_; have BK241 := n1_; have HB := n2_; clear n0_ n1_ n2_; (try clear hb); (try clear hb2); (try clear hk); (try clear hi)) | ((with_reducible refine gate_callee (f := 90) rfl ?_); refine goesL_ (some 26) rfl rfl Tryz.func90 kr rfl #[.slice Ao8 t242.length co8, .string (⟨#[100, 97, 116, 97]⟩ : ByteArray)] rfl b24_ ?_; (with_reducible refine (wave_one.calls _ _ t242 (⟨#[100, 97, 116, 97]⟩ : ByteArray) t248 t249 _ ?side1 ?side2 A4.out).mono ?_); (case side1 => repeat (first | exact (Kd.R_reads' HO245.out).2.2 | (with_reducible refine Kd.C_alloc ?_ _) | (with_reducible refine Kd.C_drewN ?_ _) | (with_reducible refine Kd.C_drew ?_))); (case side2 => exact (Kd.R_reads' HO245.out).2.1); rintro e w10 ⟨rfl, hb⟩; refine ⟨_, rfl, ?_⟩; have n0_ := Aside0.mk (Kd.R_below (by (with_reducible repeat (first | apply Kd.R_alloc | apply Kd.R_drewN | apply Kd.R_drew)); exact HO245.out) hb); have n1_ := Aside0.mk (blk_below (g := gb241) (o := .cells #[.int .i64 0, .int .i64 0, .string (⟨#[]⟩ : ByteArray), .string (⟨#[]⟩ : ByteArray), .string (⟨#[]⟩ : ByteArray)] 81 (0, 0)) b42_ hb); have n2_ := Aside0.mk (below_step b14_ hb); clear HO245; clear BK241; clear HB; have HO245 := n0_; have BK241 := n1_; have HB := n2_; clear n0_ n1_ n2_; (try clear hb); (try clear hb2); (try clear hk); (try clear hi)))
 (try simp only [Act.put, List.setIfInBounds_toArray, List.set_cons_zero, List.set_cons_succ])
 go_cut [51] (fun v51 wc => ∃ (kq : Nat) (x51_4 : Bool), v51 = .bool x51_4 ∧ Aside0 (wave_Parse.j0 kq a0 t242 t246 t248 x51_4 = some (r1, r2, r3, r4, r5, r6)) ∧ Aside0 (kq ≤ k) ∧ Aside0 (Kd.R k151 151 wc w.heap.size (fun _ => True) (.slice Ao8 t242.length co8) t242) ∧ Aside0 (wc.heap[gb241]? = some (.cells #[.int .i64 0, .int .i64 0, .string (⟨#[]⟩ : ByteArray), .string (⟨#[]⟩ : ByteArray), .string (⟨#[]⟩ : ByteArray)] 81 (0, 0))) ∧ Aside0 (Below w.heap.size w wc))
 case first =>
  have H := HC5.out
  clear HC5
  by_cases c11 : t243 = 0
  ·rw [if_pos c11] at H
   have c11b0 : (t243 == 0) = true := beq_iff_eq.mpr c11
   have c11b1 : (t243 != 0) = false := bne_eq_false_iff_eq.mpr c11
   clear c11
   (first | rw [c11b0] | (simp only [i64_w, i32_w]; rw [c11b0]) | skip)
   by_cases c12 : t247 = true
   ·subst c12
    have H1 : (if t249 = true then (if t248 < t246 then (none) else (if 0 ≤ t246 then (if t246 < (t242.length : Int) then (wave_Parse.j0 k a0 t242 t246 t248 (((rd_T151 t242 t246).f2) != 16)) else (none)) else (none))) else (none)) = some (r1, r2, r3, r4, r5, r6) := by rw [if_pos rfl] at H; exact H
    clear H
    have H := H1
    clear H1
    by_cases c13 : t249 = true
    ·subst c13
     have H1 : (if t248 < t246 then (none) else (if 0 ≤ t246 then (if t246 < (t242.length : Int) then (wave_Parse.j0 k a0 t242 t246 t248 (((rd_T151 t242 t246).f2) != 16)) else (none)) else (none))) = some (r1, r2, r3, r4, r5, r6) := by rw [if_pos rfl] at H; exact H
     clear H
     have H := H1
     clear H1
     by_cases c14 : t248 < t246
     ·rw [if_pos c14] at H
      exact absurd H (by simp)
     ·rw [if_neg c14] at H
      have c14b0 : decide (t248 < t246) = false := decide_eq_false c14
      clear c14
      by_cases c15 : 0 ≤ t246
      ·rw [if_pos c15] at H
       have c15b0 : decide (0 ≤ t246) = true := decide_eq_true c15
       clear c15
       by_cases c16 : t246 < (t242.length : Int)
       ·rw [if_pos c16] at H
        have c16b0 : decide (t246 < (t242.length : Int)) = true := decide_eq_true c16
        clear c16
        have H' := Aside0.mk H
        clear H
        have p250 : 0 ≤ (t246 : Int) := of_decide_eq_true b73_
        have q250 : t246 < (t242.length : Int) := of_decide_eq_true b73_
        obtain ⟨ad250, e250, hx250_0, hx250_1, hx250_2⟩ := at_T151 (Kd.R_reads' HO245.out).2.2 t246 p250 q250
        cases e250
        replace p250 := eq_true p250
        replace q250 := eq_true q250
        go_wp2
        go_meet
        case rel => exact ⟨_, ((((rd_T151 t242 t246).f2) != 16)), b75_, H', ⟨b79_⟩, ⟨by (with_reducible repeat (first | apply Kd.R_alloc | apply Kd.R_drewN | apply Kd.R_drew)); exact HO245.out⟩, ⟨by (with_reducible repeat (first | refine blk_drewN ?_ _ | refine blk_drew ?_ | refine blk_alloc ?_ _)); exact BK241.out⟩, ⟨by repeat (first | (with_reducible first | exact HB.out | apply below_alloc | apply pw_below_drewN | apply below_drew1 | refine below_set ?_ GE241.out) | exact HB.out)⟩⟩
       ·rw [if_neg c16] at H
        exact absurd H (by simp)
      ·rw [if_neg c15] at H
       exact absurd H (by simp)
    ·replace c13 := Bool.eq_false_iff.mpr c13
     subst c13
     have H1 : (none) = some (r1, r2, r3, r4, r5, r6) := by rw [if_neg (show ¬ (false = true) by decide)] at H; exact H
     clear H
     have H := H1
     clear H1
     exact absurd H (by simp)
   ·replace c12 := Bool.eq_false_iff.mpr c12
    subst c12
    have H1 : (none) = some (r1, r2, r3, r4, r5, r6) := by rw [if_neg (show ¬ (false = true) by decide)] at H; exact H
    clear H
    have H := H1
    clear H1
    exact absurd H (by simp)
  ·rw [if_neg c11] at H
   exact absurd H (by simp)
 case rest =>
  clear HC5
  try clear c1
  try clear p2
  try clear q2
  try clear hx2
  try clear c3
  try clear c9
  try clear c11
  try clear c11b0
  try clear c11b1
  try clear c12
  try clear c13
  try clear c14
  try clear c14b0
  try clear c15
  try clear c15b0
  try clear c16
  try clear c16b0
  try clear hx250_0
  try clear hx250_1
  try clear hx250_2
  try clear p250
  try clear q250
  obtain ⟨kq, x51_4, rfl, HA, HJ4, HO_4, BK241, HB⟩ := hcut
  cases kq with
  | zero => exact absurd HA.out (by simp [wave_Parse.j0])
  | succ kj4 =>
   have H := HA.out
   clear HA
   simp only [wave_Parse.j0] at H
   by_cases c17 : x51_4 = true
   ·subst c17
    have H1 : (none) = some (r1, r2, r3, r4, r5, r6) := by rw [if_pos rfl] at H; exact H
    clear H
    have H := H1
    clear H1
    exact absurd H (by simp)
   ·replace c17 := Bool.eq_false_iff.mpr c17
    subst c17
    have H1 : (if 0 ≤ t246 then (if t246 < (t242.length : Int) then (if 0 ≤ ((rd_T151 t242 t246).f1) then (if ((rd_T151 t242 t246).f1) ≤ (wrap64 (((rd_T151 t242 t246).f1) + 16)) then (if (wrap64 (((rd_T151 t242 t246).f1) + 16)) ≤ (a0.size : Int) then ((wave_format.f kj4 (a0.extract (((rd_T151 t242 t246).f1) : Int).toNat ((wrap64 (((rd_T151 t242 t246).f1) + 16)) : Int).toNat)).bind fun bt253 => (if 0 ≤ t248 then (if t248 < (t242.length : Int) then (if 0 ≤ ((rd_T151 t242 t248).f1) then (if ((rd_T151 t242 t248).f1) ≤ (wrap64 (((rd_T151 t242 t248).f1) + ((rd_T151 t242 t248).f2))) then (if (wrap64 (((rd_T151 t242 t248).f1) + ((rd_T151 t242 t248).f2))) ≤ (a0.size : Int) then (if bt253.2.2 = true then ((pcm_Frames.f (a0.extract (((rd_T151 t242 t248).f1) : Int).toNat ((wrap64 (((rd_T151 t242 t248).f1) + ((rd_T151 t242 t248).f2))) : Int).toNat) bt253.1 bt253.2.1).bind fun t259 => (if t259 = true then (if ((rd_T151 t242 t248).f1) ≤ (a0.size : Int) then (if 0 ≤ (wrap64 (((rd_T151 t242 t248).f1) + ((a0.extract (((rd_T151 t242 t248).f1) : Int).toNat ((wrap64 (((rd_T151 t242 t248).f1) + ((rd_T151 t242 t248).f2))) : Int).toNat).size : Int))) then (if (wrap64 (((rd_T151 t242 t248).f1) + ((a0.extract (((rd_T151 t242 t248).f1) : Int).toNat ((wrap64 (((rd_T151 t242 t248).f1) + ((rd_T151 t242 t248).f2))) : Int).toNat).size : Int))) ≤ (a0.size : Int) then (some (bt253.1, bt253.2.1, a0.extract 0 (((rd_T151 t242 t248).f1) : Int).toNat, a0.extract (((rd_T151 t242 t248).f1) : Int).toNat ((wrap64 (((rd_T151 t242 t248).f1) + ((rd_T151 t242 t248).f2))) : Int).toNat, a0.extract ((wrap64 (((rd_T151 t242 t248).f1) + ((a0.extract (((rd_T151 t242 t248).f1) : Int).toNat ((wrap64 (((rd_T151 t242 t248).f1) + ((rd_T151 t242 t248).f2))) : Int).toNat).size : Int))) : Int).toNat a0.size, 0)) else (none)) else (none)) else (none)) else (none))) else (none)) else (none)) else (none)) else (none)) else (none)) else (none))) else (none)) else (none)) else (none)) else (none)) else (none)) = some (r1, r2, r3, r4, r5, r6) := by rw [if_neg (show ¬ (false = true) by decide)] at H; exact H
    clear H
    have H := H1
    clear H1
    by_cases c18 : 0 ≤ t246
    ·rw [if_pos c18] at H
     have c18b0 : decide (0 ≤ t246) = true := decide_eq_true c18
     clear c18
     by_cases c19 : t246 < (t242.length : Int)
     ·rw [if_pos c19] at H
      have c19b0 : decide (t246 < (t242.length : Int)) = true := decide_eq_true c19
      clear c19
      by_cases c20 : 0 ≤ ((rd_T151 t242 t246).f1)
      ·rw [if_pos c20] at H
       have c20b0 := eq_true c20
       have c20b1 : decide (0 ≤ ((rd_T151 t242 t246).f1)) = true := decide_eq_true c20
       clear c20
       by_cases c21 : ((rd_T151 t242 t246).f1) ≤ (wrap64 (((rd_T151 t242 t246).f1) + 16))
       ·rw [if_pos c21] at H
        have c21b0 := eq_true c21
        have c21b1 : decide (((rd_T151 t242 t246).f1) ≤ (wrap64 (((rd_T151 t242 t246).f1) + 16))) = true := decide_eq_true c21
        by_cases c22 : (wrap64 (((rd_T151 t242 t246).f1) + 16)) ≤ (a0.size : Int)
        ·rw [if_pos c22] at H
         have c22b0 := eq_true c22
         have c22b1 : decide ((wrap64 (((rd_T151 t242 t246).f1) + 16)) ≤ (a0.size : Int)) = true := decide_eq_true c22
         replace H := Option.bind_eq_some_iff.mp H
         obtain ⟨⟨t253, t254, t255⟩, A230, H⟩ := H
         replace H : (if 0 ≤ t248 then (if t248 < (t242.length : Int) then (if 0 ≤ ((rd_T151 t242 t248).f1) then (if ((rd_T151 t242 t248).f1) ≤ (wrap64 (((rd_T151 t242 t248).f1) + ((rd_T151 t242 t248).f2))) then (if (wrap64 (((rd_T151 t242 t248).f1) + ((rd_T151 t242 t248).f2))) ≤ (a0.size : Int) then (if t255 = true then ((pcm_Frames.f (a0.extract (((rd_T151 t242 t248).f1) : Int).toNat ((wrap64 (((rd_T151 t242 t248).f1) + ((rd_T151 t242 t248).f2))) : Int).toNat) t253 t254).bind fun t259 => (if t259 = true then (if ((rd_T151 t242 t248).f1) ≤ (a0.size : Int) then (if 0 ≤ (wrap64 (((rd_T151 t242 t248).f1) + ((a0.extract (((rd_T151 t242 t248).f1) : Int).toNat ((wrap64 (((rd_T151 t242 t248).f1) + ((rd_T151 t242 t248).f2))) : Int).toNat).size : Int))) then (if (wrap64 (((rd_T151 t242 t248).f1) + ((a0.extract (((rd_T151 t242 t248).f1) : Int).toNat ((wrap64 (((rd_T151 t242 t248).f1) + ((rd_T151 t242 t248).f2))) : Int).toNat).size : Int))) ≤ (a0.size : Int) then (some (t253, t254, a0.extract 0 (((rd_T151 t242 t248).f1) : Int).toNat, a0.extract (((rd_T151 t242 t248).f1) : Int).toNat ((wrap64 (((rd_T151 t242 t248).f1) + ((rd_T151 t242 t248).f2))) : Int).toNat, a0.extract ((wrap64 (((rd_T151 t242 t248).f1) + ((a0.extract (((rd_T151 t242 t248).f1) : Int).toNat ((wrap64 (((rd_T151 t242 t248).f1) + ((rd_T151 t242 t248).f2))) : Int).toNat).size : Int))) : Int).toNat a0.size, 0)) else (none)) else (none)) else (none)) else (none))) else (none)) else (none)) else (none)) else (none)) else (none)) else (none)) = some (r1, r2, r3, r4, r5, r6) := H
         have A23 := Aside0.mk A230
         clear A230
         by_cases c24 : 0 ≤ t248
         ·rw [if_pos c24] at H
          have c24b0 : decide (0 ≤ t248) = true := decide_eq_true c24
          clear c24
          by_cases c25 : t248 < (t242.length : Int)
          ·rw [if_pos c25] at H
           have c25b0 : decide (t248 < (t242.length : Int)) = true := decide_eq_true c25
           clear c25
           by_cases c26 : 0 ≤ ((rd_T151 t242 t248).f1)
           ·rw [if_pos c26] at H
            have c26b0 := eq_true c26
            have c26b1 : decide (0 ≤ ((rd_T151 t242 t248).f1)) = true := decide_eq_true c26
            clear c26
            by_cases c27 : ((rd_T151 t242 t248).f1) ≤ (wrap64 (((rd_T151 t242 t248).f1) + ((rd_T151 t242 t248).f2)))
            ·rw [if_pos c27] at H
             have c27b0 := eq_true c27
             have c27b1 : decide (((rd_T151 t242 t248).f1) ≤ (wrap64 (((rd_T151 t242 t248).f1) + ((rd_T151 t242 t248).f2)))) = true := decide_eq_true c27
             by_cases c28 : (wrap64 (((rd_T151 t242 t248).f1) + ((rd_T151 t242 t248).f2))) ≤ (a0.size : Int)
             ·rw [if_pos c28] at H
              have c28b0 := eq_true c28
              have c28b1 : decide ((wrap64 (((rd_T151 t242 t248).f1) + ((rd_T151 t242 t248).f2))) ≤ (a0.size : Int)) = true := decide_eq_true c28
              by_cases c29 : t255 = true
              ·subst c29
               have H1 : ((pcm_Frames.f (a0.extract (((rd_T151 t242 t248).f1) : Int).toNat ((wrap64 (((rd_T151 t242 t248).f1) + ((rd_T151 t242 t248).f2))) : Int).toNat) t253 t254).bind fun t259 => (if t259 = true then (if ((rd_T151 t242 t248).f1) ≤ (a0.size : Int) then (if 0 ≤ (wrap64 (((rd_T151 t242 t248).f1) + ((a0.extract (((rd_T151 t242 t248).f1) : Int).toNat ((wrap64 (((rd_T151 t242 t248).f1) + ((rd_T151 t242 t248).f2))) : Int).toNat).size : Int))) then (if (wrap64 (((rd_T151 t242 t248).f1) + ((a0.extract (((rd_T151 t242 t248).f1) : Int).toNat ((wrap64 (((rd_T151 t242 t248).f1) + ((rd_T151 t242 t248).f2))) : Int).toNat).size : Int))) ≤ (a0.size : Int) then (some (t253, t254, a0.extract 0 (((rd_T151 t242 t248).f1) : Int).toNat, a0.extract (((rd_T151 t242 t248).f1) : Int).toNat ((wrap64 (((rd_T151 t242 t248).f1) + ((rd_T151 t242 t248).f2))) : Int).toNat, a0.extract ((wrap64 (((rd_T151 t242 t248).f1) + ((a0.extract (((rd_T151 t242 t248).f1) : Int).toNat ((wrap64 (((rd_T151 t242 t248).f1) + ((rd_T151 t242 t248).f2))) : Int).toNat).size : Int))) : Int).toNat a0.size, 0)) else (none)) else (none)) else (none)) else (none))) = some (r1, r2, r3, r4, r5, r6) := by rw [if_pos rfl] at H; exact H
               clear H
               have H := H1
               clear H1
               replace H := Option.bind_eq_some_iff.mp H
               obtain ⟨t259, A300, H⟩ := H
               replace H : (if t259 = true then (if ((rd_T151 t242 t248).f1) ≤ (a0.size : Int) then (if 0 ≤ (wrap64 (((rd_T151 t242 t248).f1) + ((a0.extract (((rd_T151 t242 t248).f1) : Int).toNat ((wrap64 (((rd_T151 t242 t248).f1) + ((rd_T151 t242 t248).f2))) : Int).toNat).size : Int))) then (if (wrap64 (((rd_T151 t242 t248).f1) + ((a0.extract (((rd_T151 t242 t248).f1) : Int).toNat ((wrap64 (((rd_T151 t242 t248).f1) + ((rd_T151 t242 t248).f2))) : Int).toNat).size : Int))) ≤ (a0.size : Int) then (some (t253, t254, a0.extract 0 (((rd_T151 t242 t248).f1) : Int).toNat, a0.extract (((rd_T151 t242 t248).f1) : Int).toNat ((wrap64 (((rd_T151 t242 t248).f1) + ((rd_T151 t242 t248).f2))) : Int).toNat, a0.extract ((wrap64 (((rd_T151 t242 t248).f1) + ((a0.extract (((rd_T151 t242 t248).f1) : Int).toNat ((wrap64 (((rd_T151 t242 t248).f1) + ((rd_T151 t242 t248).f2))) : Int).toNat).size : Int))) : Int).toNat a0.size, 0)) else (none)) else (none)) else (none)) else (none)) = some (r1, r2, r3, r4, r5, r6) := H
               have A30 := Aside0.mk A300
               clear A300
               by_cases c31 : t259 = true
               ·subst c31
                have H1 : (if ((rd_T151 t242 t248).f1) ≤ (a0.size : Int) then (if 0 ≤ (wrap64 (((rd_T151 t242 t248).f1) + ((a0.extract (((rd_T151 t242 t248).f1) : Int).toNat ((wrap64 (((rd_T151 t242 t248).f1) + ((rd_T151 t242 t248).f2))) : Int).toNat).size : Int))) then (if (wrap64 (((rd_T151 t242 t248).f1) + ((a0.extract (((rd_T151 t242 t248).f1) : Int).toNat ((wrap64 (((rd_T151 t242 t248).f1) + ((rd_T151 t242 t248).f2))) : Int).toNat).size : Int))) ≤ (a0.size : Int) then (some (t253, t254, a0.extract 0 (((rd_T151 t242 t248).f1) : Int).toNat, a0.extract (((rd_T151 t242 t248).f1) : Int).toNat ((wrap64 (((rd_T151 t242 t248).f1) + ((rd_T151 t242 t248).f2))) : Int).toNat, a0.extract ((wrap64 (((rd_T151 t242 t248).f1) + ((a0.extract (((rd_T151 t242 t248).f1) : Int).toNat ((wrap64 (((rd_T151 t242 t248).f1) + ((rd_T151 t242 t248).f2))) : Int).toNat).size : Int))) : Int).toNat a0.size, 0)) else (none)) else (none)) else (none)) = some (r1, r2, r3, r4, r5, r6) := by rw [if_pos rfl] at H; exact H
                clear H
                have H := H1
                clear H1
                have c32b0 := eq_true (of_decide_eq_true b73_ : 0 ≤ ((rd_T151 t242 t248).f1))
                by_cases c33 : ((rd_T151 t242 t248).f1) ≤ (a0.size : Int)
                ·rw [if_pos c33] at H
                 have c33b0 := eq_true c33
                 have c33b1 : decide (((rd_T151 t242 t248).f1) ≤ (a0.size : Int)) = true := decide_eq_true c33
                 clear c33
                 obtain ⟨ji34, hji34⟩ : ∃ j_ : Int, (wrap64 (((rd_T151 t242 t248).f1) + ((a0.extract (((rd_T151 t242 t248).f1) : Int).toNat ((wrap64 (((rd_T151 t242 t248).f1) + ((rd_T151 t242 t248).f2))) : Int).toNat).size : Int))) = j_ := ⟨_, rfl⟩
                 replace H : (if 0 ≤ (ji34) then (if (ji34) ≤ (a0.size : Int) then (some (t253, t254, a0.extract 0 (((rd_T151 t242 t248).f1) : Int).toNat, a0.extract (((rd_T151 t242 t248).f1) : Int).toNat ((wrap64 (((rd_T151 t242 t248).f1) + ((rd_T151 t242 t248).f2))) : Int).toNat, a0.extract ((ji34) : Int).toNat a0.size, 0)) else (none)) else (none)) = some (r1, r2, r3, r4, r5, r6) := by first | (rw [hji34] at H; exact H) | (simp only [hji34] at H ⊢; exact H)
                 (try rw [hji34] at A23)
                 (try rw [hji34] at A30)
                 have hji34w : (IntKind.i64.wrap (((rd_T151 t242 t248).f1) + ((a0.extract (((rd_T151 t242 t248).f1) : Int).toNat ((wrap64 (((rd_T151 t242 t248).f1) + ((rd_T151 t242 t248).f2))) : Int).toNat).size : Int))) = ji34 := (i64_w _).trans hji34
                 have hxq : wrap64 ((rd_T151 t242 t248).f1 + (((wrap64 ((rd_T151 t242 t248).f1 + (rd_T151 t242 t248).f2)).toNat - ((rd_T151 t242 t248).f1).toNat : Nat) : Int)) = ji34 := by rw [← hji34, ByteArray.size_extract, Nat.min_eq_left (by have h_ : wrap64 ((rd_T151 t242 t248).f1 + (rd_T151 t242 t248).f2) ≤ (a0.size : Int) := of_decide_eq_true b73_; omega)]
                 by_cases c35 : 0 ≤ (ji34)
                 ·rw [if_pos c35] at H
                  have c35b0 := eq_true c35
                  have c35b1 : decide (0 ≤ (ji34)) = true := decide_eq_true c35
                  clear c35
                  by_cases c36 : (ji34) ≤ (a0.size : Int)
                  ·rw [if_pos c36] at H
                   have c36b0 := eq_true c36
                   have c36b1 : decide ((ji34) ≤ (a0.size : Int)) = true := decide_eq_true c36
                   clear c36
                   simp only [Option.some.injEq, Prod.mk.injEq] at H
                   obtain ⟨rfl, rfl, rfl, rfl, rfl, rfl⟩ := H
                   try go_wp2
                   have n0_ := Aside0.mk (Kd.R_drew HO_4.out)
                   have n1_ := Aside0.mk (blk_drew BK241.out)
                   have n2_ := Aside0.mk (below_drew1 HB.out)
                   clear HO_4
                   clear BK241
                   clear HB
                   have HO_4 := n0_
                   have BK241 := n1_
                   have HB := n2_
                   clear n0_ n1_ n2_
                   have p251 : 0 ≤ (t246 : Int) := of_decide_eq_true b73_
                   have q251 : t246 < (t242.length : Int) := of_decide_eq_true b73_
                   obtain ⟨ad251, e251, hx251_0, hx251_1, hx251_2⟩ := at_T151 (Kd.R_reads' HO_4.out).2.2 t246 p251 q251
                   cases e251
                   replace p251 := eq_true p251
                   replace q251 := eq_true q251
                   have p252 : 0 ≤ (t246 : Int) := of_decide_eq_true b73_
                   have q252 : t246 < (t242.length : Int) := of_decide_eq_true b73_
                   obtain ⟨ad252, e252, hx252_0, hx252_1, hx252_2⟩ := at_T151 (Kd.R_reads' HO_4.out).2.2 t246 p252 q252
                   obtain rfl : ad251 = ad252 := (by injection e252)
                   replace p252 := eq_true p252
                   replace q252 := eq_true q252
                   refine start_ (n := 20) (S := fun w' => w'.cell? (ad251.add ((t246).toNat * 3)) = some (.string ((rd_T151 t242 t246).f0)) ∧ w'.cell? ⟨(ad251.add ((t246).toNat * 3)).block, (ad251.add ((t246).toNat * 3)).off + 1, none⟩ = some (.int .i64 ((rd_T151 t242 t246).f1)) ∧ w'.cell? ⟨(ad251.add ((t246).toNat * 3)).block, (ad251.add ((t246).toNat * 3)).off + 2, none⟩ = some (.int .i64 ((rd_T151 t242 t246).f2)) ∧ w'.cell? (ad251.add ((t246).toNat * 3)) = some (.string ((rd_T151 t242 t246).f0)) ∧ w'.cell? ⟨(ad251.add ((t246).toNat * 3)).block, (ad251.add ((t246).toNat * 3)).off + 1, none⟩ = some (.int .i64 ((rd_T151 t242 t246).f1)) ∧ w'.cell? ⟨(ad251.add ((t246).toNat * 3)).block, (ad251.add ((t246).toNat * 3)).off + 2, none⟩ = some (.int .i64 ((rd_T151 t242 t246).f2))) (ds := []) #[J,J,J,J,J,J,J,J,J,J,J,J,J,J,J,J,J,J,J,J] kr rfl rfl ⟨hx251_0, hx251_1, hx251_2, hx252_0, hx252_1, hx252_2⟩ (fun hHeld => ?_); refine with_tabW wave_Parse.tab6 wave_Parse.bits6 (fun HT_ HW_ => ?_)
                   generalize wc.drew = w37 at HO_4 BK241 HB hx251_0 hx251_1 hx251_2 hx252_0 hx252_1 hx252_2 hHeld ⊢
                   refine pu_ 0 54 #[Y,J,J,J,J,J,J,J,J,J,J,J,J,J,J,J,J,J,J,J] HT_ ?_
                   refine pu_ 1 55 #[Y,Y,J,J,J,J,J,J,J,J,J,J,J,J,J,J,J,J,J,J] HT_ ?_
                   refine pu_ 2 56 #[Y,Y,Y,J,J,J,J,J,J,J,J,J,J,J,J,J,J,J,J,J] HT_ ?_
                   refine pu_ 3 57 #[Y,Y,Y,Y,J,J,J,J,J,J,J,J,J,J,J,J,J,J,J,J] HT_ ?_
                   refine pu_ 4 58 #[Y,Y,Y,Y,Y,J,J,J,J,J,J,J,J,J,J,J,J,J,J,J] HT_ ?_
                   refine pu_ 6 60 #[Y,Y,Y,Y,Y,J,Y,J,J,J,J,J,J,J,J,J,J,J,J,J] HT_ ?_
                   refine pu_ 7 61 #[Y,Y,Y,Y,Y,J,Y,Y,J,J,J,J,J,J,J,J,J,J,J,J] HT_ ?_
                   refine pu_ 8 62 #[Y,Y,Y,Y,Y,J,Y,Y,Y,J,J,J,J,J,J,J,J,J,J,J] HT_ ?_
                   refine pu_ 9 63 #[Y,Y,Y,Y,Y,J,Y,Y,Y,Y,J,J,J,J,J,J,J,J,J,J] HT_ ?_
                   refine ta_ 5 59 #[Y,Y,Y,Y,Y,Y,Y,Y,Y,Y,J,J,J,J,J,J,J,J,J,J] HT_ HW_ hHeld rfl (by rintro w' ⟨s0, s1, s2, s3, s4, s5⟩; go_simp; with_reducible rfl) ?_
                   refine ta_ 10 64 #[Y,Y,Y,Y,Y,Y,Y,Y,Y,Y,Y,J,J,J,J,J,J,J,J,J] HT_ HW_ hHeld rfl (by rintro w' ⟨s0, s1, s2, s3, s4, s5⟩; go_simp; with_reducible rfl) ?_
                   refine pu_ 11 65 #[Y,Y,Y,Y,Y,Y,Y,Y,Y,Y,Y,Y,J,J,J,J,J,J,J,J] HT_ ?_
                   refine pu_ 12 66 #[Y,Y,Y,Y,Y,Y,Y,Y,Y,Y,Y,Y,Y,J,J,J,J,J,J,J] HT_ ?_
                   refine join_ (σ := Nat) 2 #[Y,Y,Y,Y,Y,Y,Y,Y,Y,Y,Y,Y,Y,Y,Y,Y,Y,Y,J,J] (fun s_ => [(67, .tuple #[.agg #[.int .i64 t253, .int .i64 t254], .bool true]), (10, .pointer (some ⟨s_, 0, none⟩)), (53, .tuple #[.agg #[.int .i64 t253, .int .i64 t254], .bool true]), (68, .agg #[.int .i64 t253, .int .i64 t254]), (69, .bool true)]) (fun s_ w' => (w'.cell? (ad251.add ((t246).toNat * 3)) = some (.string ((rd_T151 t242 t246).f0)) ∧ w'.cell? ⟨(ad251.add ((t246).toNat * 3)).block, (ad251.add ((t246).toNat * 3)).off + 1, none⟩ = some (.int .i64 ((rd_T151 t242 t246).f1)) ∧ w'.cell? ⟨(ad251.add ((t246).toNat * 3)).block, (ad251.add ((t246).toNat * 3)).off + 2, none⟩ = some (.int .i64 ((rd_T151 t242 t246).f2)) ∧ w'.cell? (ad251.add ((t246).toNat * 3)) = some (.string ((rd_T151 t242 t246).f0)) ∧ w'.cell? ⟨(ad251.add ((t246).toNat * 3)).block, (ad251.add ((t246).toNat * 3)).off + 1, none⟩ = some (.int .i64 ((rd_T151 t242 t246).f1)) ∧ w'.cell? ⟨(ad251.add ((t246).toNat * 3)).block, (ad251.add ((t246).toNat * 3)).off + 2, none⟩ = some (.int .i64 ((rd_T151 t242 t246).f2))) ∧ (Kd.R k151 151 w' w.heap.size (fun _ => True) (.slice (some ad251) t242.length co8) t242) ∧ (w'.heap[gb241]? = some (.cells #[.int .i64 0, .int .i64 0, .string (⟨#[]⟩ : ByteArray), .string (⟨#[]⟩ : ByteArray), .string (⟨#[]⟩ : ByteArray)] 81 (0, 0))) ∧ (w'.heap[s_]? = some (.cells #[.int .i64 0, .int .i64 0] 69 (0, 0))) ∧ (w.heap.size ≤ s_) ∧ (w.heap.size ≤ s_) ∧ (gb241 ≠ s_) ∧ (s_ ≠ gb241) ∧ (Below w.heap.size w w')) ?_ ?_
                   rotate_left
                   ·intro hCont
                    refine two_ (i := 13) (j := 17) (Ni := some 67) (Nj := some 10) #[Y,Y,Y,Y,Y,Y,Y,Y,Y,Y,Y,Y,Y,Y,J,J,J,J,J,J] #[Y,Y,Y,Y,Y,Y,Y,Y,Y,Y,Y,Y,Y,J,J,J,J,Y,J,J] rfl rfl rfl rfl (two_of HT_.out kr) (by decide) (by decide) (fun K hK => ?_) (fun K hK => ?_)
                    ·skip
                     refine goes_ Tryz.func91 kr rfl #[.string (a0.extract (((rd_T151 t242 t246).f1) : Int).toNat ((wrap64 (((rd_T151 t242 t246).f1) + 16)) : Int).toNat)] (by rfl) rfl rfl b24_ ?_
                     with_reducible refine (wave_format.calls kj4 (a0.extract (((rd_T151 t242 t246).f1) : Int).toNat ((wrap64 (((rd_T151 t242 t246).f1) + 16)) : Int).toNat) t253 t254 true _ A23.out).mono ?_
                     rintro e w38 ⟨rfl, hb⟩
                     have HS0_ := (hb.cell (World.block_lt_of_cell? _ _ (hHeld.1))).trans (hHeld.1)
                     have HS1_ := (hb.cell (World.block_lt_of_cell? _ _ (hHeld.2.1))).trans (hHeld.2.1)
                     have HS2_ := (hb.cell (World.block_lt_of_cell? _ _ (hHeld.2.2.1))).trans (hHeld.2.2.1)
                     have HS3_ := (hb.cell (World.block_lt_of_cell? _ _ (hHeld.2.2.2.1))).trans (hHeld.2.2.2.1)
                     have HS4_ := (hb.cell (World.block_lt_of_cell? _ _ (hHeld.2.2.2.2.1))).trans (hHeld.2.2.2.2.1)
                     have HS5_ := (hb.cell (World.block_lt_of_cell? _ _ (hHeld.2.2.2.2.2))).trans (hHeld.2.2.2.2.2)
                     refine ⟨_, rfl, ?_⟩
                     have n0_ := Aside0.mk (Kd.R_below b54_ hb)
                     have n1_ := Aside0.mk (blk_below (g := gb241) (o := .cells #[.int .i64 0, .int .i64 0, .string (⟨#[]⟩ : ByteArray), .string (⟨#[]⟩ : ByteArray), .string (⟨#[]⟩ : ByteArray)] 81 (0, 0)) b42_ hb)
                     have n2_ := Aside0.mk (below_step b14_ hb)
                     clear HO_4
                     clear BK241
                     clear HB
                     have HO_4 := n0_
                     have BK241 := n1_
                     have HB := n2_
                     clear n0_ n1_ n2_
                     (try clear hb)
                     (try clear hb2)
                     (try clear hk)
                     (try clear hi)
                     refine hK.out _ _ ⟨HS0_, HS1_, HS2_, HS3_, HS4_, HS5_⟩ (fun hHeld => ?_)
                     clear hK K
                     refine norm_ (a' := ?_) ?_ ?_
                     rotate_left
                     ·show Act.put _ (some 67) _ = _
                      exact pT
                     refine pu_ 14 53 #[Y,Y,Y,Y,Y,Y,Y,Y,Y,Y,Y,Y,Y,Y,Y,J,J,J,J,J] HT_ ?_
                     refine pu_ 15 68 #[Y,Y,Y,Y,Y,Y,Y,Y,Y,Y,Y,Y,Y,Y,Y,Y,J,J,J,J] HT_ ?_
                     refine pu_ 16 69 #[Y,Y,Y,Y,Y,Y,Y,Y,Y,Y,Y,Y,Y,Y,Y,Y,Y,J,J,J] HT_ ?_
                     refine one_ (i := 17) (N := some 10) #[Y,Y,Y,Y,Y,Y,Y,Y,Y,Y,Y,Y,Y,Y,Y,Y,Y,Y,J,J] rfl rfl (one_of HT_.out kr) (by decide) (fun K hK => ?_)
                     refine box_step ?hg (N := 10) ?hd (cs := #[.int .i64 0, .int .i64 0]) (t := 69) ?hr ?_; (case hd => rfl); (case hg => rfl); (case hr => first | (go_simp; done) | (go_simp; rfl))
                     intro gb256 hg w39 hbox hb
                     have HS0_ := (hb.cell (World.block_lt_of_cell? _ _ (hHeld.1))).trans (hHeld.1)
                     have HS1_ := (hb.cell (World.block_lt_of_cell? _ _ (hHeld.2.1))).trans (hHeld.2.1)
                     have HS2_ := (hb.cell (World.block_lt_of_cell? _ _ (hHeld.2.2.1))).trans (hHeld.2.2.1)
                     have HS3_ := (hb.cell (World.block_lt_of_cell? _ _ (hHeld.2.2.2.1))).trans (hHeld.2.2.2.1)
                     have HS4_ := (hb.cell (World.block_lt_of_cell? _ _ (hHeld.2.2.2.2.1))).trans (hHeld.2.2.2.2.1)
                     have HS5_ := (hb.cell (World.block_lt_of_cell? _ _ (hHeld.2.2.2.2.2))).trans (hHeld.2.2.2.2.2)
                     have n0_ := Aside0.mk (Kd.R_below b54_ hb)
                     have n1_ := Aside0.mk (blk_below (g := gb241) (o := .cells #[.int .i64 0, .int .i64 0, .string (⟨#[]⟩ : ByteArray), .string (⟨#[]⟩ : ByteArray), .string (⟨#[]⟩ : ByteArray)] 81 (0, 0)) b42_ hb)
                     have n2_ := Aside0.mk (below_step b14_ hb)
                     have n3_ := Aside0.mk (hbox)
                     have n4_ := Aside0.mk ((by rw [hg]; exact (below_size b14_) : w.heap.size ≤ gb256))
                     have n5_ := Aside0.mk ((by rw [hg]; exact (below_size b14_) : w.heap.size ≤ gb256))
                     have n6_ := Aside0.mk ((by rw [hg]; exact Nat.ne_of_lt (blk_lt (g := gb241) (o := .cells #[.int .i64 0, .int .i64 0, .string (⟨#[]⟩ : ByteArray), .string (⟨#[]⟩ : ByteArray), .string (⟨#[]⟩ : ByteArray)] 81 (0, 0)) b42_) : gb241 ≠ gb256))
                     have n7_ := Aside0.mk ((by rw [hg]; exact Nat.ne_of_gt (blk_lt (g := gb241) (o := .cells #[.int .i64 0, .int .i64 0, .string (⟨#[]⟩ : ByteArray), .string (⟨#[]⟩ : ByteArray), .string (⟨#[]⟩ : ByteArray)] 81 (0, 0)) b42_) : gb256 ≠ gb241))
                     clear HO_4
                     clear BK241
                     clear HB
                     have HO_4 := n0_
                     have BK241 := n1_
                     have HB := n2_
                     have BK256 := n3_
                     have GW256 := n4_
                     have GE256 := n5_
                     have NB241_256 := n6_
                     have NB256_241 := n7_
                     clear n0_ n1_ n2_ n3_ n4_ n5_ n6_ n7_
                     clear hb hbox hg
                     refine hK.out _ _ ⟨HS0_, HS1_, HS2_, HS3_, HS4_, HS5_⟩ (fun hHeld => ?_)
                     clear hK K
                     refine norm_ (a' := ?_) ?_ ?_
                     rotate_left
                     ·show Act.put _ (some 10) _ = _
                      exact pT
                     exact norm_ b58_ (hCont (gb256) _ ⟨hHeld, b54_, b42_, b43_, GW256.out, GE256.out, NB241_256.out, NB256_241.out, b2_⟩)
                    ·skip
                     refine box_step ?hg (N := 10) ?hd (cs := #[.int .i64 0, .int .i64 0]) (t := 69) ?hr ?_; (case hd => rfl); (case hg => rfl); (case hr => first | (go_simp; done) | (go_simp; rfl))
                     intro gb256 hg w38 hbox hb
                     have HS0_ := (hb.cell (World.block_lt_of_cell? _ _ (hHeld.1))).trans (hHeld.1)
                     have HS1_ := (hb.cell (World.block_lt_of_cell? _ _ (hHeld.2.1))).trans (hHeld.2.1)
                     have HS2_ := (hb.cell (World.block_lt_of_cell? _ _ (hHeld.2.2.1))).trans (hHeld.2.2.1)
                     have HS3_ := (hb.cell (World.block_lt_of_cell? _ _ (hHeld.2.2.2.1))).trans (hHeld.2.2.2.1)
                     have HS4_ := (hb.cell (World.block_lt_of_cell? _ _ (hHeld.2.2.2.2.1))).trans (hHeld.2.2.2.2.1)
                     have HS5_ := (hb.cell (World.block_lt_of_cell? _ _ (hHeld.2.2.2.2.2))).trans (hHeld.2.2.2.2.2)
                     have n0_ := Aside0.mk (Kd.R_below b54_ hb)
                     have n1_ := Aside0.mk (blk_below (g := gb241) (o := .cells #[.int .i64 0, .int .i64 0, .string (⟨#[]⟩ : ByteArray), .string (⟨#[]⟩ : ByteArray), .string (⟨#[]⟩ : ByteArray)] 81 (0, 0)) b42_ hb)
                     have n2_ := Aside0.mk (below_step b14_ hb)
                     have n3_ := Aside0.mk (hbox)
                     have n4_ := Aside0.mk ((by rw [hg]; exact (below_size b14_) : w.heap.size ≤ gb256))
                     have n5_ := Aside0.mk ((by rw [hg]; exact (below_size b14_) : w.heap.size ≤ gb256))
                     have n6_ := Aside0.mk ((by rw [hg]; exact Nat.ne_of_lt (blk_lt (g := gb241) (o := .cells #[.int .i64 0, .int .i64 0, .string (⟨#[]⟩ : ByteArray), .string (⟨#[]⟩ : ByteArray), .string (⟨#[]⟩ : ByteArray)] 81 (0, 0)) b42_) : gb241 ≠ gb256))
                     have n7_ := Aside0.mk ((by rw [hg]; exact Nat.ne_of_gt (blk_lt (g := gb241) (o := .cells #[.int .i64 0, .int .i64 0, .string (⟨#[]⟩ : ByteArray), .string (⟨#[]⟩ : ByteArray), .string (⟨#[]⟩ : ByteArray)] 81 (0, 0)) b42_) : gb256 ≠ gb241))
                     clear HO_4
                     clear BK241
                     clear HB
                     have HO_4 := n0_
                     have BK241 := n1_
                     have HB := n2_
                     have BK256 := n3_
                     have GW256 := n4_
                     have GE256 := n5_
                     have NB241_256 := n6_
                     have NB256_241 := n7_
                     clear n0_ n1_ n2_ n3_ n4_ n5_ n6_ n7_
                     clear hb hbox hg
                     refine hK.out _ _ ⟨HS0_, HS1_, HS2_, HS3_, HS4_, HS5_⟩ (fun hHeld => ?_)
                     clear hK K
                     refine norm_ (a' := ?_) ?_ ?_
                     rotate_left
                     ·show Act.put _ (some 10) _ = _
                      exact pT
                     refine one_ (i := 13) (N := some 67) #[Y,Y,Y,Y,Y,Y,Y,Y,Y,Y,Y,Y,Y,Y,J,J,J,Y,J,J] rfl rfl (one_of HT_.out kr) (by decide) (fun K hK => ?_)
                     refine goes_ Tryz.func91 kr rfl #[.string (a0.extract (((rd_T151 t242 t246).f1) : Int).toNat ((wrap64 (((rd_T151 t242 t246).f1) + 16)) : Int).toNat)] (by rfl) rfl rfl b24_ ?_
                     with_reducible refine (wave_format.calls kj4 (a0.extract (((rd_T151 t242 t246).f1) : Int).toNat ((wrap64 (((rd_T151 t242 t246).f1) + 16)) : Int).toNat) t253 t254 true _ A23.out).mono ?_
                     rintro e w39 ⟨rfl, hb⟩
                     have HS0_ := (hb.cell (World.block_lt_of_cell? _ _ (hHeld.1))).trans (hHeld.1)
                     have HS1_ := (hb.cell (World.block_lt_of_cell? _ _ (hHeld.2.1))).trans (hHeld.2.1)
                     have HS2_ := (hb.cell (World.block_lt_of_cell? _ _ (hHeld.2.2.1))).trans (hHeld.2.2.1)
                     have HS3_ := (hb.cell (World.block_lt_of_cell? _ _ (hHeld.2.2.2.1))).trans (hHeld.2.2.2.1)
                     have HS4_ := (hb.cell (World.block_lt_of_cell? _ _ (hHeld.2.2.2.2.1))).trans (hHeld.2.2.2.2.1)
                     have HS5_ := (hb.cell (World.block_lt_of_cell? _ _ (hHeld.2.2.2.2.2))).trans (hHeld.2.2.2.2.2)
                     refine ⟨_, rfl, ?_⟩
                     have n0_ := Aside0.mk (Kd.R_below b54_ hb)
                     have n1_ := Aside0.mk (blk_below (g := gb241) (o := .cells #[.int .i64 0, .int .i64 0, .string (⟨#[]⟩ : ByteArray), .string (⟨#[]⟩ : ByteArray), .string (⟨#[]⟩ : ByteArray)] 81 (0, 0)) b42_ hb)
                     have n2_ := Aside0.mk (blk_below (g := gb256) (o := .cells #[.int .i64 0, .int .i64 0] 69 (0, 0)) b43_ hb)
                     have n3_ := Aside0.mk (below_step b2_ hb)
                     clear HO_4
                     clear BK241
                     clear BK256
                     clear HB
                     have HO_4 := n0_
                     have BK241 := n1_
                     have BK256 := n2_
                     have HB := n3_
                     clear n0_ n1_ n2_ n3_
                     (try clear hb)
                     (try clear hb2)
                     (try clear hk)
                     (try clear hi)
                     refine hK.out _ _ ⟨HS0_, HS1_, HS2_, HS3_, HS4_, HS5_⟩ (fun hHeld => ?_)
                     clear hK K
                     refine norm_ (a' := ?_) ?_ ?_
                     rotate_left
                     ·show Act.put _ (some 67) _ = _
                      exact pT
                     refine pu_ 14 53 #[Y,Y,Y,Y,Y,Y,Y,Y,Y,Y,Y,Y,Y,Y,Y,J,J,Y,J,J] HT_ ?_
                     refine pu_ 15 68 #[Y,Y,Y,Y,Y,Y,Y,Y,Y,Y,Y,Y,Y,Y,Y,Y,J,Y,J,J] HT_ ?_
                     refine pu_ 16 69 #[Y,Y,Y,Y,Y,Y,Y,Y,Y,Y,Y,Y,Y,Y,Y,Y,Y,Y,J,J] HT_ ?_
                     exact norm_ b58_ (hCont (gb256) _ ⟨hHeld, b54_, b42_, b43_, GW256.out, GE256.out, NB241_256.out, NB256_241.out, b2_⟩)
                   rintro gb256 w40 ⟨hS_, h0_, h1_, h2_, h3_, h4_, h5_, h6_, h7_⟩
                   have n0_ : Aside0 (Kd.R k151 151 w40 w.heap.size (fun _ => True) (.slice (some ad251) t242.length co8) t242) := ⟨h0_⟩
                   have n1_ : Aside0 (w40.heap[gb241]? = some (.cells #[.int .i64 0, .int .i64 0, .string (⟨#[]⟩ : ByteArray), .string (⟨#[]⟩ : ByteArray), .string (⟨#[]⟩ : ByteArray)] 81 (0, 0))) := ⟨h1_⟩
                   have n2_ : Aside0 (w40.heap[gb256]? = some (.cells #[.int .i64 0, .int .i64 0] 69 (0, 0))) := ⟨h2_⟩
                   have n3_ : Aside0 (w.heap.size ≤ gb256) := ⟨h3_⟩
                   have n4_ : Aside0 (w.heap.size ≤ gb256) := ⟨h4_⟩
                   have n5_ : Aside0 (gb241 ≠ gb256) := ⟨h5_⟩
                   have n6_ : Aside0 (gb256 ≠ gb241) := ⟨h6_⟩
                   have n7_ : Aside0 (Below w.heap.size w w40) := ⟨h7_⟩
                   clear HO_4
                   clear BK241
                   clear HB
                   clear h0_ h1_ h2_ h3_ h4_ h5_ h6_ h7_
                   have HO_4 := n0_
                   have BK241 := n1_
                   have BK256 := n2_
                   have GW256 := n3_
                   have GE256 := n4_
                   have NB241_256 := n5_
                   have NB256_241 := n6_
                   have HB := n7_
                   clear n0_ n1_ n2_ n3_ n4_ n5_ n6_ n7_
                   have hHeld : w40.cell? (ad251.add ((t246).toNat * 3)) = some (.string ((rd_T151 t242 t246).f0)) ∧ w40.cell? ⟨(ad251.add ((t246).toNat * 3)).block, (ad251.add ((t246).toNat * 3)).off + 1, none⟩ = some (.int .i64 ((rd_T151 t242 t246).f1)) ∧ w40.cell? ⟨(ad251.add ((t246).toNat * 3)).block, (ad251.add ((t246).toNat * 3)).off + 2, none⟩ = some (.int .i64 ((rd_T151 t242 t246).f2)) ∧ w40.cell? (ad251.add ((t246).toNat * 3)) = some (.string ((rd_T151 t242 t246).f0)) ∧ w40.cell? ⟨(ad251.add ((t246).toNat * 3)).block, (ad251.add ((t246).toNat * 3)).off + 1, none⟩ = some (.int .i64 ((rd_T151 t242 t246).f1)) ∧ w40.cell? ⟨(ad251.add ((t246).toNat * 3)).block, (ad251.add ((t246).toNat * 3)).off + 2, none⟩ = some (.int .i64 ((rd_T151 t242 t246).f2)) := hS_
                   refine norm_ (a' := ?_) ?_ ?_
                   rotate_left
                   ·simp only [putAll, Act.put, List.setIfInBounds_toArray, List.set_cons_zero, List.set_cons_succ]
                    rfl
                   refine one_ (i := 18) (N := none) #[Y,Y,Y,Y,Y,Y,Y,Y,Y,Y,Y,Y,Y,Y,Y,Y,Y,Y,Y,J] rfl rfl (one_of HT_.out kr) (by decide) (fun K hK => ?_)
                   have hs41 : w40.cell? ⟨gb256, 0, none⟩ = some (.int .i64 0) := (blk_cell BK256.out 0).trans rfl
                   have hfs41 := blk_frozen BK256.out 0
                   have hns41_0 := NB241_256.out
                   have hms41_0 := NB256_241.out
                   have hs42 : w40.cell? ⟨gb256, 1, none⟩ = some (.int .i64 0) := (blk_cell BK256.out 1).trans rfl
                   have hfs42 := blk_frozen BK256.out 1
                   have hns42_0 := NB241_256.out
                   have hms42_0 := NB256_241.out
                   refine skip_ (w1 := ?_) (by rfl) rfl ?_ ?_
                   rotate_left
                   ·go_simp
                    rfl
                   refine hK.out _ _ ⟨((cell_far (p := ⟨gb256, _, none⟩) b0_ _).trans (((cell_far (p := ⟨gb256, _, none⟩) b0_ _).trans (hHeld.1)))), ((cell_far (p := ⟨gb256, _, none⟩) b0_ _).trans (((cell_far (p := ⟨gb256, _, none⟩) b0_ _).trans (hHeld.2.1)))), ((cell_far (p := ⟨gb256, _, none⟩) b0_ _).trans (((cell_far (p := ⟨gb256, _, none⟩) b0_ _).trans (hHeld.2.2.1)))), ((cell_far (p := ⟨gb256, _, none⟩) b0_ _).trans (((cell_far (p := ⟨gb256, _, none⟩) b0_ _).trans (hHeld.2.2.2.1)))), ((cell_far (p := ⟨gb256, _, none⟩) b0_ _).trans (((cell_far (p := ⟨gb256, _, none⟩) b0_ _).trans (hHeld.2.2.2.2.1)))), ((cell_far (p := ⟨gb256, _, none⟩) b0_ _).trans (((cell_far (p := ⟨gb256, _, none⟩) b0_ _).trans (hHeld.2.2.2.2.2))))⟩ (fun hHeld => ?_)
                   clear hK K
                   refine pu_ 19 11 #[Y,Y,Y,Y,Y,Y,Y,Y,Y,Y,Y,Y,Y,Y,Y,Y,Y,Y,Y,Y] HT_ ?_
                   refine done_ (done_of HT_.out kr) ?_
                   have p257 : 0 ≤ (t248 : Int) := of_decide_eq_true b73_
                   have q257 : t248 < (t242.length : Int) := of_decide_eq_true b73_
                   obtain ⟨ad257, e257, hx257_0, hx257_1, hx257_2⟩ := at_T151 (Kd.R_reads' HO_4.out).2.2 t248 p257 q257
                   obtain rfl : ad251 = ad257 := (by injection e257)
                   have hn257_0 : ad251.block ≠ gb256 := Kd.own_blk (Kd.R_ne HO_4.out BK256.out (by decide))
                   have hn257_1 : ad251.block ≠ gb256 := Kd.own_blk (Kd.R_ne HO_4.out BK256.out (by decide))
                   replace hx257_0 := (cell_far (p := ⟨gb256, 0, none⟩) b30_ (.int .i64 t253)).trans hx257_0
                   replace hx257_1 := (cell_far (p := ⟨gb256, 0, none⟩) b30_ (.int .i64 t253)).trans hx257_1
                   replace hx257_2 := (cell_far (p := ⟨gb256, 0, none⟩) b30_ (.int .i64 t253)).trans hx257_2
                   replace hx257_0 := (cell_far (p := ⟨gb256, 1, none⟩) b31_ (.int .i64 t254)).trans hx257_0
                   replace hx257_1 := (cell_far (p := ⟨gb256, 1, none⟩) b31_ (.int .i64 t254)).trans hx257_1
                   replace hx257_2 := (cell_far (p := ⟨gb256, 1, none⟩) b31_ (.int .i64 t254)).trans hx257_2
                   clear hn257_0
                   clear hn257_1
                   replace p257 := eq_true p257
                   replace q257 := eq_true q257
                   have p258 : 0 ≤ (t248 : Int) := of_decide_eq_true b73_
                   have q258 : t248 < (t242.length : Int) := of_decide_eq_true b73_
                   obtain ⟨ad258, e258, hx258_0, hx258_1, hx258_2⟩ := at_T151 (Kd.R_reads' HO_4.out).2.2 t248 p258 q258
                   obtain rfl : ad251 = ad258 := (by injection e258)
                   have hn258_0 : ad251.block ≠ gb256 := Kd.own_blk (Kd.R_ne HO_4.out BK256.out (by decide))
                   have hn258_1 : ad251.block ≠ gb256 := Kd.own_blk (Kd.R_ne HO_4.out BK256.out (by decide))
                   replace hx258_0 := (cell_far (p := ⟨gb256, 0, none⟩) b32_ (.int .i64 t253)).trans hx258_0
                   replace hx258_1 := (cell_far (p := ⟨gb256, 0, none⟩) b32_ (.int .i64 t253)).trans hx258_1
                   replace hx258_2 := (cell_far (p := ⟨gb256, 0, none⟩) b32_ (.int .i64 t253)).trans hx258_2
                   replace hx258_0 := (cell_far (p := ⟨gb256, 1, none⟩) b33_ (.int .i64 t254)).trans hx258_0
                   replace hx258_1 := (cell_far (p := ⟨gb256, 1, none⟩) b33_ (.int .i64 t254)).trans hx258_1
                   replace hx258_2 := (cell_far (p := ⟨gb256, 1, none⟩) b33_ (.int .i64 t254)).trans hx258_2
                   clear hn258_0
                   clear hn258_1
                   replace p258 := eq_true p258
                   replace q258 := eq_true q258
                   have hnb43 := NB256_241.out
                   have hnc43 := NB241_256.out
                   have hcz44_0 : w40.cell? ⟨gb256, 0, none⟩ = some (.int .i64 0) := (blk_cell BK256.out 0).trans rfl
                   have hcz44_1 : w40.cell? ⟨gb256, 1, none⟩ = some (.int .i64 0) := (blk_cell BK256.out 1).trans rfl
                   have hfz44_0 := blk_frozen BK256.out 0
                   have hfz44_1 := blk_frozen BK256.out 1
                   try go_wp2_with (first | (go_at_call 82; (with_reducible refine (pcm_Frames.calls (a0.extract (((rd_T151 t242 t248).f1) : Int).toNat ((wrap64 (((rd_T151 t242 t248).f1) + ((rd_T151 t242 t248).f2))) : Int).toNat) t253 t254 true _ A30.out).mono ?_); rintro e w45 ⟨rfl, hb⟩; have n0_ := Aside0.mk (Kd.R_below (by (with_reducible repeat (first | apply Kd.R_alloc | apply Kd.R_drewN | apply Kd.R_drew)); exact (Kd.R_mono (Kd.R_far (p := ⟨gb256, 1, none⟩) (Kd.R_far (p := ⟨gb256, 0, none⟩) (Kd.R_types HO_4.out BK256.out (by decide)) (fun _ hk => hk.2) (.int .i64 t253)) (fun _ hk => hk.2) (.int .i64 t254)) (fun _ h_ => h_.1))) hb); have n1_ := Aside0.mk (blk_below (g := gb241) (o := .cells #[.int .i64 0, .int .i64 0, .string (⟨#[]⟩ : ByteArray), .string (⟨#[]⟩ : ByteArray), .string (⟨#[]⟩ : ByteArray)] 81 (0, 0)) (by (with_reducible repeat (first | refine blk_drewN ?_ _ | refine blk_drew ?_ | refine blk_alloc ?_ _)); refine blk_far ?_ NB241_256.out _; (with_reducible repeat (first | refine blk_drewN ?_ _ | refine blk_drew ?_ | refine blk_alloc ?_ _)); refine blk_far ?_ NB241_256.out _; (with_reducible repeat (first | refine blk_drewN ?_ _ | refine blk_drew ?_ | refine blk_alloc ?_ _)); exact BK241.out) hb); have n2_ := Aside0.mk (blk_below (g := gb256) (o := .cells #[.int .i64 t253, .int .i64 t254] 69 (0, 0)) (by (with_reducible repeat (first | refine blk_drewN ?_ _ | refine blk_drew ?_ | refine blk_alloc ?_ _)); refine blk_put (cs := #[.int .i64 t253, .int .i64 0]) ?_ 1 _ rfl; (with_reducible repeat (first | refine blk_drewN ?_ _ | refine blk_drew ?_ | refine blk_alloc ?_ _)); refine blk_put (cs := #[.int .i64 0, .int .i64 0]) ?_ 0 _ rfl; (with_reducible repeat (first | refine blk_drewN ?_ _ | refine blk_drew ?_ | refine blk_alloc ?_ _)); exact BK256.out) hb); have n3_ := Aside0.mk (below_step b2_ hb); clear HO_4; clear BK241; clear BK256; clear HB; have HO_4 := n0_; have BK241 := n1_; have BK256 := n2_; have HB := n3_; clear n0_ n1_ n2_ n3_; (try clear hb); (try clear hb2); (try clear hk); (try clear hi)))
                   have n0_ := Aside0.mk (Kd.R_drew HO_4.out)
                   have n1_ := Aside0.mk (blk_drew BK241.out)
                   have n2_ := Aside0.mk (blk_drew BK256.out)
                   have n3_ := Aside0.mk (below_drew1 HB.out)
                   clear HO_4
                   clear BK241
                   clear BK256
                   clear HB
                   have HO_4 := n0_
                   have BK241 := n1_
                   have BK256 := n2_
                   have HB := n3_
                   clear n0_ n1_ n2_ n3_
                   refine start_ (n := 14) (S := fun w' => w'.cell? ⟨gb256, 0, none⟩ = some (.int .i64 t253) ∧ w'.cell? ⟨gb256, 1, none⟩ = some (.int .i64 t254)) (ds := []) #[J,J,J,J,J,J,J,J,J,J,J,J,J,J] kr rfl rfl ⟨(blk_cell BK256.out 0).trans rfl, (blk_cell BK256.out 1).trans rfl⟩ (fun hHeld => ?_); refine with_tabW wave_Parse.tab11 wave_Parse.bits11 (fun HT_ HW_ => ?_)
                   generalize w45.drew = w46 at HO_4 BK241 BK256 HB hHeld ⊢
                   refine pu_ 1 95 #[J,Y,J,J,J,J,J,J,J,J,J,J,J,J] HT_ ?_
                   refine pu_ 2 96 #[J,Y,Y,J,J,J,J,J,J,J,J,J,J,J] HT_ ?_
                   refine pu_ 3 97 #[J,Y,Y,Y,J,J,J,J,J,J,J,J,J,J] HT_ ?_
                   refine pu_ 4 98 #[J,Y,Y,Y,Y,J,J,J,J,J,J,J,J,J] HT_ ?_
                   refine pu_ 5 99 #[J,Y,Y,Y,Y,Y,J,J,J,J,J,J,J,J] HT_ ?_
                   refine pu_ 6 100 #[J,Y,Y,Y,Y,Y,Y,J,J,J,J,J,J,J] HT_ ?_
                   refine pu_ 7 101 #[J,Y,Y,Y,Y,Y,Y,Y,J,J,J,J,J,J] HT_ ?_
                   refine pu_ 8 102 #[J,Y,Y,Y,Y,Y,Y,Y,Y,J,J,J,J,J] HT_ ?_
                   refine pu_ 9 103 #[J,Y,Y,Y,Y,Y,Y,Y,Y,Y,J,J,J,J] HT_ ?_
                   refine pu_ 10 104 #[J,Y,Y,Y,Y,Y,Y,Y,Y,Y,Y,J,J,J] HT_ ?_
                   refine ta_ 0 94 #[Y,Y,Y,Y,Y,Y,Y,Y,Y,Y,Y,J,J,J] HT_ HW_ hHeld rfl b74_ ?_
                   refine pu_ 11 105 #[Y,Y,Y,Y,Y,Y,Y,Y,Y,Y,Y,Y,J,J] HT_ ?_
                   refine one_ (i := 12) (N := none) #[Y,Y,Y,Y,Y,Y,Y,Y,Y,Y,Y,Y,Y,J] rfl rfl (one_of HT_.out kr) (by decide) (fun K hK => ?_)
                   have hs47 : w46.cell? ⟨gb241, 0, none⟩ = some (.int .i64 0) := (blk_cell BK241.out 0).trans rfl
                   have hfs47 := blk_frozen BK241.out 0
                   have hns47_1 := NB256_241.out
                   have hms47_1 := NB241_256.out
                   have hs48 : w46.cell? ⟨gb241, 1, none⟩ = some (.int .i64 0) := (blk_cell BK241.out 1).trans rfl
                   have hfs48 := blk_frozen BK241.out 1
                   have hns48_1 := NB256_241.out
                   have hms48_1 := NB241_256.out
                   have hs49 : w46.cell? ⟨gb241, 2, none⟩ = some (.string (⟨#[]⟩ : ByteArray)) := (blk_cell BK241.out 2).trans rfl
                   have hfs49 := blk_frozen BK241.out 2
                   have hns49_1 := NB256_241.out
                   have hms49_1 := NB241_256.out
                   have hs50 : w46.cell? ⟨gb241, 3, none⟩ = some (.string (⟨#[]⟩ : ByteArray)) := (blk_cell BK241.out 3).trans rfl
                   have hfs50 := blk_frozen BK241.out 3
                   have hns50_1 := NB256_241.out
                   have hms50_1 := NB241_256.out
                   have hs51 : w46.cell? ⟨gb241, 4, none⟩ = some (.string (⟨#[]⟩ : ByteArray)) := (blk_cell BK241.out 4).trans rfl
                   have hfs51 := blk_frozen BK241.out 4
                   have hns51_1 := NB256_241.out
                   have hms51_1 := NB241_256.out
                   refine skip_ (w1 := ?_) (by rfl) rfl ?_ ?_
                   rotate_left
                   ·go_simp
                    rfl
                   refine hK.out _ _ ⟨((cell_far (p := ⟨gb241, _, none⟩) NB256_241.out _).trans (((cell_far (p := ⟨gb241, _, none⟩) NB256_241.out _).trans (((cell_far (p := ⟨gb241, _, none⟩) NB256_241.out _).trans (((cell_far (p := ⟨gb241, _, none⟩) NB256_241.out _).trans (((cell_far (p := ⟨gb241, _, none⟩) NB256_241.out _).trans (hHeld.1)))))))))), ((cell_far (p := ⟨gb241, _, none⟩) NB256_241.out _).trans (((cell_far (p := ⟨gb241, _, none⟩) NB256_241.out _).trans (((cell_far (p := ⟨gb241, _, none⟩) NB256_241.out _).trans (((cell_far (p := ⟨gb241, _, none⟩) NB256_241.out _).trans (((cell_far (p := ⟨gb241, _, none⟩) NB256_241.out _).trans (hHeld.2))))))))))⟩ (fun hHeld => ?_)
                   clear hK K
                   refine pu_ 13 3 #[Y,Y,Y,Y,Y,Y,Y,Y,Y,Y,Y,Y,Y,Y] HT_ ?_
                   refine done_ (done_of HT_.out kr) ?_
                   try go_wp2
                   refine bodyPost_ret (results_ct rfl _ _ gb241 81 #[.int .i64 t253, .int .i64 t254, .string (a0.extract 0 (((rd_T151 t242 t248).f1) : Int).toNat), .string (a0.extract (((rd_T151 t242 t248).f1) : Int).toNat ((wrap64 (((rd_T151 t242 t248).f1) + ((rd_T151 t242 t248).f2))) : Int).toNat), .string (a0.extract ((ji34) : Int).toNat a0.size)] (0, 0) _ rfl (by (with_reducible repeat (first | refine blk_drewN ?_ _ | refine blk_drew ?_ | refine blk_alloc ?_ _)); refine blk_put (cs := #[.int .i64 t253, .int .i64 t254, .string (a0.extract 0 (((rd_T151 t242 t248).f1) : Int).toNat), .string (a0.extract (((rd_T151 t242 t248).f1) : Int).toNat ((wrap64 (((rd_T151 t242 t248).f1) + ((rd_T151 t242 t248).f2))) : Int).toNat), .string (⟨#[]⟩ : ByteArray)]) ?_ 4 _ rfl; (with_reducible repeat (first | refine blk_drewN ?_ _ | refine blk_drew ?_ | refine blk_alloc ?_ _)); refine blk_put (cs := #[.int .i64 t253, .int .i64 t254, .string (a0.extract 0 (((rd_T151 t242 t248).f1) : Int).toNat), .string (⟨#[]⟩ : ByteArray), .string (⟨#[]⟩ : ByteArray)]) ?_ 3 _ rfl; (with_reducible repeat (first | refine blk_drewN ?_ _ | refine blk_drew ?_ | refine blk_alloc ?_ _)); refine blk_put (cs := #[.int .i64 t253, .int .i64 t254, .string (⟨#[]⟩ : ByteArray), .string (⟨#[]⟩ : ByteArray), .string (⟨#[]⟩ : ByteArray)]) ?_ 2 _ rfl; (with_reducible repeat (first | refine blk_drewN ?_ _ | refine blk_drew ?_ | refine blk_alloc ?_ _)); refine blk_put (cs := #[.int .i64 t253, .int .i64 0, .string (⟨#[]⟩ : ByteArray), .string (⟨#[]⟩ : ByteArray), .string (⟨#[]⟩ : ByteArray)]) ?_ 1 _ rfl; (with_reducible repeat (first | refine blk_drewN ?_ _ | refine blk_drew ?_ | refine blk_alloc ?_ _)); refine blk_put (cs := #[.int .i64 0, .int .i64 0, .string (⟨#[]⟩ : ByteArray), .string (⟨#[]⟩ : ByteArray), .string (⟨#[]⟩ : ByteArray)]) ?_ 0 _ rfl; (with_reducible repeat (first | refine blk_drewN ?_ _ | refine blk_drew ?_ | refine blk_alloc ?_ _)); exact BK241.out) Tryz.underlying81 rfl kr) rfl ?_
                   exact ⟨by first | rfl | (simp [errW_none, errW_some] <;> rfl) | (simp only [← hji34]; first | rfl | (simp [errW_none, errW_some] <;> rfl)) | (simp [*, errW_none, errW_some] <;> rfl), by repeat (first | (with_reducible first | exact HB.out | apply below_alloc | apply pw_below_drewN | apply below_drew1 | refine below_set ?_ GE241.out | refine below_set ?_ GE256.out) | exact HB.out)⟩
                  ·rw [if_neg c36] at H
                   exact absurd H (by simp)
                 ·rw [if_neg c35] at H
                  exact absurd H (by simp)
                ·rw [if_neg c33] at H
                 exact absurd H (by simp)
               ·replace c31 := Bool.eq_false_iff.mpr c31
                subst c31
                have H1 : (none) = some (r1, r2, r3, r4, r5, r6) := by rw [if_neg (show ¬ (false = true) by decide)] at H; exact H
                clear H
                have H := H1
                clear H1
                exact absurd H (by simp)
              ·replace c29 := Bool.eq_false_iff.mpr c29
               subst c29
               have H1 : (none) = some (r1, r2, r3, r4, r5, r6) := by rw [if_neg (show ¬ (false = true) by decide)] at H; exact H
               clear H
               have H := H1
               clear H1
               exact absurd H (by simp)
             ·rw [if_neg c28] at H
              exact absurd H (by simp)
            ·rw [if_neg c27] at H
             exact absurd H (by simp)
           ·rw [if_neg c26] at H
            exact absurd H (by simp)
          ·rw [if_neg c25] at H
           exact absurd H (by simp)
         ·rw [if_neg c24] at H
          exact absurd H (by simp)
        ·rw [if_neg c22] at H
         exact absurd H (by simp)
       ·rw [if_neg c21] at H
        exact absurd H (by simp)
      ·rw [if_neg c20] at H
       exact absurd H (by simp)
     ·rw [if_neg c19] at H
      exact absurd H (by simp)
    ·rw [if_neg c18] at H
     exact absurd H (by simp)
end Go.Proofs.YtnoibcdojfnicaaGreatDoor.PG
