/- A part of the proof of a law of descanttop: this session's own texts and printed texts, shortened and joined. -/
import Derived.Test.YtnoibcdojfnicaaGreatDoorE38
set_option linter.unusedVariables false
set_option linter.unusedSimpArgs false
set_option maxRecDepth 100000
set_option maxHeartbeats 16000000
namespace Go.Proofs.YtnoibcdojfnicaaGreatDoor.PG
open Go.Proofs.YtnoibcdojfnicaaGreatDoorW.Short
open Bool renaming true → Y, false → J
open Go.RowKit Go.Proofs.YtnoibcdojfnicaaGreatDoorW.PrintWords Go.Proofs.YtnoibcdojfnicaaGreatDoorW.PrintLast Go.Proofs.YtnoibcdojfnicaaGreatDoorW.PrintMore
attribute [local go_sem] max2_int min2_int max_two min_two max_three min_three max_four min_four
attribute [local go_sem high] eqA81
def wave_Build.j0 : Nat → Bool → Int → Int → ByteArray → ByteArray → ByteArray → Option (ByteArray × Int)
 | 0, _, _, _, _, _, _ => none
 | k + 1, x22, x294000, x294001, x294002, x294003, x294004 => if x22 = true then (none) else (if x294002.size + x294003.size ≤ 9223372036854775807 then (if x294002.size + x294003.size + x294004.size ≤ 9223372036854775807 then ((wave_Parse.f k ((x294002 ++ x294003) ++ x294004)).bind fun bt294 => (if bt294.2.2.2.2.2 = 0 then (if ((!(bt294.1 == x294000) || (!(bt294.2.1 == x294001))) || (!(bt294.2.2.1.toList == x294002.toList) || (!(bt294.2.2.2.1.toList == x294003.toList) || (!(bt294.2.2.2.2.1.toList == x294004.toList))))) = true then (none) else (some ((x294002 ++ x294003) ++ x294004, 0))) else (none))) else (none)) else (none))
def wave_Build.f (k : Nat) (a0_0 : Int) (a0_1 : Int) (a0_2 : ByteArray) (a0_3 : ByteArray) (a0_4 : ByteArray) : Option (ByteArray × Int) := if (a0_2.size : Int) > 4096 then (none) else (if (a0_3.size : Int) > 4096 then (none) else (wave_Build.j0 k (decide ((a0_4.size : Int) > 4096)) a0_0 a0_1 a0_2 a0_3 a0_4))
theorem wave_Build.calls (k : Nat) (a0_0 : Int) (a0_1 : Int) (a0_2 : ByteArray) (a0_3 : ByteArray) (a0_4 : ByteArray) (r1 : ByteArray) (r2 : Int) (w : World) (h : wave_Build.f k a0_0 a0_1 a0_2 a0_3 a0_4 = some (r1, r2)) :
  Calls Tryz.prog 104 #[.agg #[.int .i64 a0_0, .int .i64 a0_1, .string a0_2, .string a0_3, .string a0_4]] w fun e w' => e = .returned (.tuple #[.string r1, .int .i64 r2]) ∧ Below w.heap.size w w' := by
 have hu81 := Tryz.underlying81
 have HB := Aside0.mk (Below.refl w.heap.size w)
 have H : (if (a0_2.size : Int) > 4096 then (none) else (if (a0_3.size : Int) > 4096 then (none) else (wave_Build.j0 k (decide ((a0_4.size : Int) > 4096)) a0_0 a0_1 a0_2 a0_3 a0_4))) = some (r1, r2) := h
 clear h
 have HC2 := Aside0.mk H
 clear H
 go_enter Tryz.func104, Tryz.ntmps104
 go_upto_region 1 with (first | ((with_reducible refine gate_dst (N := 1) rfl ?_); (try (refine gate_guard (by rfl) ?_; dsimp only)); refine box_event ?hg (N := 1) ?hd (cs := #[.int .i64 a0_0, .int .i64 a0_1, .string a0_2, .string a0_3, .string a0_4]) (t := 81) ?hr ?_; (case hd => rfl); (case hg => rfl); (case hr => first | (go_simp; done) | (go_simp; rfl)); intro gb293 hg w3 hbox hb; have n0_ := Aside0.mk (below_step b28_ hb); have n1_ := Aside0.mk (hbox); have n2_ := Aside0.mk ((by rw [hg]; exact (below_size b28_) : w.heap.size ≤ gb293)); have n3_ := Aside0.mk ((by rw [hg]; exact (below_size b28_) : w.heap.size ≤ gb293)); clear HB; have HB := n0_; have BK293 := n1_; have GW293 := n2_; have GE293 := n3_; clear n0_ n1_ n2_ n3_; clear hb hbox hg))
 (try simp only [Act.put, List.setIfInBounds_toArray, List.set_cons_zero, List.set_cons_succ])
 go_cut [22] (fun v22 wc => ∃ (kq : Nat) (x22_1 : Bool), v22 = .bool x22_1 ∧ Aside0 (wave_Build.j0 kq x22_1 a0_0 a0_1 a0_2 a0_3 a0_4 = some (r1, r2)) ∧ Aside0 (kq ≤ k) ∧ Aside0 (wc.heap[gb293]? = some (.cells #[.int .i64 a0_0, .int .i64 a0_1, .string a0_2, .string a0_3, .string a0_4] 81 (0, 0))) ∧ Aside0 (Below w.heap.size w wc))
 case first =>
  have H := HC2.out
  clear HC2
  by_cases c4 : (a0_2.size : Int) > 4096
  ·rw [if_pos c4] at H
   exact absurd H (by simp)
  ·rw [if_neg c4] at H
   have c4b0 : decide (4096 < (a0_2.size : Int)) = false := decide_eq_false c4
   have c4b1 : decide (4096 < a0_2.size) = false := decide_eq_false (by omega)
   clear c4
   (first | rw [c4b0] | (simp only [i64_w, i32_w]; rw [c4b0]) | skip)
   by_cases c5 : (a0_3.size : Int) > 4096
   ·rw [if_pos c5] at H
    exact absurd H (by simp)
   ·rw [if_neg c5] at H
    have c5b0 : decide (4096 < (a0_3.size : Int)) = false := decide_eq_false c5
    have c5b1 : decide (4096 < a0_3.size) = false := decide_eq_false (by omega)
    clear c5
    have H' := Aside0.mk H
    clear H
    have hcz6_0 : w3.cell? ⟨gb293, 0, none⟩ = some (.int .i64 a0_0) := (blk_cell BK293.out 0).trans rfl
    have hcz6_1 : w3.cell? ⟨gb293, 1, none⟩ = some (.int .i64 a0_1) := (blk_cell BK293.out 1).trans rfl
    have hcz6_2 : w3.cell? ⟨gb293, 2, none⟩ = some (.string a0_2) := (blk_cell BK293.out 2).trans rfl
    have hcz6_3 : w3.cell? ⟨gb293, 3, none⟩ = some (.string a0_3) := (blk_cell BK293.out 3).trans rfl
    have hcz6_4 : w3.cell? ⟨gb293, 4, none⟩ = some (.string a0_4) := (blk_cell BK293.out 4).trans rfl
    have hfz6_0 := blk_frozen BK293.out 0
    have hfz6_1 := blk_frozen BK293.out 1
    have hfz6_2 := blk_frozen BK293.out 2
    have hfz6_3 := blk_frozen BK293.out 3
    have hfz6_4 := blk_frozen BK293.out 4
    go_wp2
    go_meet
    case rel => exact ⟨_, (decide ((a0_4.size : Int) > 4096)), b75_, H', ⟨b79_⟩, ⟨by (with_reducible repeat (first | refine blk_drewN ?_ _ | refine blk_drew ?_ | refine blk_alloc ?_ _)); exact BK293.out⟩, ⟨by repeat (first | (with_reducible first | exact HB.out | apply below_alloc | apply pw_below_drewN | apply below_drew1 | refine below_set ?_ GE293.out) | exact HB.out)⟩⟩
 case rest =>
  clear HC2
  try clear c1
  try clear p2
  try clear c4
  try clear c4b0
  try clear c4b1
  try clear c5
  try clear c5b0
  try clear c5b1
  try clear hcz6_0
  try clear hcz6_1
  try clear hcz6_2
  try clear hcz6_3
  try clear hcz6_4
  try clear hfz6_0
  try clear hfz6_1
  try clear hfz6_2
  try clear hfz6_3
  try clear hfz6_4
  obtain ⟨kq, x22_1, rfl, HA, HJ1, BK293, HB⟩ := hcut
  cases kq with
  | zero => exact absurd HA.out (by simp [wave_Build.j0])
  | succ kj1 =>
   have H := HA.out
   clear HA
   simp only [wave_Build.j0] at H
   by_cases c7 : x22_1 = true
   ·subst c7
    have H1 : (none) = some (r1, r2) := by rw [if_pos rfl] at H; exact H
    clear H
    have H := H1
    clear H1
    exact absurd H (by simp)
   ·replace c7 := Bool.eq_false_iff.mpr c7
    subst c7
    have H1 : (if a0_2.size + a0_3.size ≤ 9223372036854775807 then (if a0_2.size + a0_3.size + a0_4.size ≤ 9223372036854775807 then ((wave_Parse.f kj1 ((a0_2 ++ a0_3) ++ a0_4)).bind fun bt294 => (if bt294.2.2.2.2.2 = 0 then (if ((!(bt294.1 == a0_0) || (!(bt294.2.1 == a0_1))) || (!(bt294.2.2.1.toList == a0_2.toList) || (!(bt294.2.2.2.1.toList == a0_3.toList) || (!(bt294.2.2.2.2.1.toList == a0_4.toList))))) = true then (none) else (some ((a0_2 ++ a0_3) ++ a0_4, 0))) else (none))) else (none)) else (none)) = some (r1, r2) := by rw [if_neg (show ¬ (false = true) by decide)] at H; exact H
    clear H
    have H := H1
    clear H1
    by_cases c8 : a0_2.size + a0_3.size ≤ 9223372036854775807
    ·rw [if_pos c8] at H
     have c8b0 := eq_true c8
     have c8b1 : decide (a0_2.size + a0_3.size ≤ 9223372036854775807) = true := decide_eq_true c8
     try have c8b2 : (9223372036854775807 < a0_2.size + a0_3.size) = False := eq_false (Nat.not_lt.2 c8)
     by_cases c9 : a0_2.size + a0_3.size + a0_4.size ≤ 9223372036854775807
     ·rw [if_pos c9] at H
      have c9b0 := eq_true c9
      have c9b1 : decide (a0_2.size + a0_3.size + a0_4.size ≤ 9223372036854775807) = true := decide_eq_true c9
      try have c9b2 : (9223372036854775807 < a0_2.size + a0_3.size + a0_4.size) = False := eq_false (Nat.not_lt.2 c9)
      replace H := Option.bind_eq_some_iff.mp H
      obtain ⟨⟨t294, t295, t296, t297, t298, t299⟩, A100, H⟩ := H
      replace H : (if t299 = 0 then (if ((!(t294 == a0_0) || (!(t295 == a0_1))) || (!(t296.toList == a0_2.toList) || (!(t297.toList == a0_3.toList) || (!(t298.toList == a0_4.toList))))) = true then (none) else (some ((a0_2 ++ a0_3) ++ a0_4, 0))) else (none)) = some (r1, r2) := H
      have A10 := Aside0.mk A100
      clear A100
      by_cases c11 : t299 = 0
      ·rw [if_pos c11] at H
       have c11b0 : (t299 == 0) = true := beq_iff_eq.mpr c11
       have c11b1 : (t299 != 0) = false := bne_eq_false_iff_eq.mpr c11
       clear c11
       by_cases c12 : ((!(t294 == a0_0) || (!(t295 == a0_1))) || (!(t296.toList == a0_2.toList) || (!(t297.toList == a0_3.toList) || (!(t298.toList == a0_4.toList))))) = true
       ·rw [if_pos c12] at H
        exact absurd H (by simp)
       ·rw [if_neg c12] at H
        have c12b0 : ((!(t294 == a0_0) || (!(t295 == a0_1))) || (!(t296.toList == a0_2.toList) || (!(t297.toList == a0_3.toList) || (!(t298.toList == a0_4.toList))))) = false := by simpa using c12
        clear c12
        simp only [Option.some.injEq, Prod.mk.injEq] at H
        obtain ⟨rfl, rfl⟩ := H
        have hcz13_0 : wc.cell? ⟨gb293, 0, none⟩ = some (.int .i64 a0_0) := (blk_cell BK293.out 0).trans rfl
        have hcz13_1 : wc.cell? ⟨gb293, 1, none⟩ = some (.int .i64 a0_1) := (blk_cell BK293.out 1).trans rfl
        have hcz13_2 : wc.cell? ⟨gb293, 2, none⟩ = some (.string a0_2) := (blk_cell BK293.out 2).trans rfl
        have hcz13_3 : wc.cell? ⟨gb293, 3, none⟩ = some (.string a0_3) := (blk_cell BK293.out 3).trans rfl
        have hcz13_4 : wc.cell? ⟨gb293, 4, none⟩ = some (.string a0_4) := (blk_cell BK293.out 4).trans rfl
        have hfz13_0 := blk_frozen BK293.out 0
        have hfz13_1 := blk_frozen BK293.out 1
        have hfz13_2 := blk_frozen BK293.out 2
        have hfz13_3 := blk_frozen BK293.out 3
        have hfz13_4 := blk_frozen BK293.out 4
        go_wp2_with (first | ((with_reducible refine gate_callee (f := 36) rfl ?_); refine goesL_ (some 33) rfl rfl Tryz.func36 kr rfl #[.string ((a0_2 ++ a0_3) ++ a0_4)] rfl b24_ ?_; (with_reducible refine (wave_Parse.calls kj1 ((a0_2 ++ a0_3) ++ a0_4) t294 t295 t296 t297 t298 t299 _ A10.out).mono ?_); rintro e w14 ⟨rfl, hb⟩; refine ⟨_, rfl, ?_⟩; have n0_ := Aside0.mk (blk_below (g := gb293) (o := .cells #[.int .i64 a0_0, .int .i64 a0_1, .string a0_2, .string a0_3, .string a0_4] 81 (0, 0)) b44_ hb); have n1_ := Aside0.mk (below_step b15_ hb); clear BK293; clear HB; have BK293 := n0_; have HB := n1_; clear n0_ n1_; (try clear hb); (try clear hb2); (try clear hk); (try clear hi)) | ((with_reducible refine gate_dst (N := 5) rfl ?_); (try (refine gate_guard (by rfl) ?_; dsimp only)); refine box_event ?hg (N := 5) ?hd (cs := #[.int .i64 0, .int .i64 0, .string (⟨#[]⟩ : ByteArray), .string (⟨#[]⟩ : ByteArray), .string (⟨#[]⟩ : ByteArray)]) (t := 81) ?hr ?_; (case hd => rfl); (case hg => rfl); (case hr => first | (go_simp; done) | (go_simp; rfl)); intro gb300 hg w15 hbox hb; have n0_ := Aside0.mk (blk_below (g := gb293) (o := .cells #[.int .i64 a0_0, .int .i64 a0_1, .string a0_2, .string a0_3, .string a0_4] 81 (0, 0)) b44_ hb); have n1_ := Aside0.mk (below_step b15_ hb); have n2_ := Aside0.mk (hbox); have n3_ := Aside0.mk ((by rw [hg]; exact (below_size b15_) : w.heap.size ≤ gb300)); have n4_ := Aside0.mk ((by rw [hg]; exact (below_size b15_) : w.heap.size ≤ gb300)); have n5_ := Aside0.mk ((by rw [hg]; exact Nat.ne_of_lt (blk_lt (g := gb293) (o := .cells #[.int .i64 a0_0, .int .i64 a0_1, .string a0_2, .string a0_3, .string a0_4] 81 (0, 0)) b44_) : gb293 ≠ gb300)); have n6_ := Aside0.mk ((by rw [hg]; exact Nat.ne_of_gt (blk_lt (g := gb293) (o := .cells #[.int .i64 a0_0, .int .i64 a0_1, .string a0_2, .string a0_3, .string a0_4] 81 (0, 0)) b44_) : gb300 ≠ gb293)); clear BK293; clear HB; have BK293 := n0_; have HB := n1_; have BK300 := n2_; have GW300 := n3_; have GE300 := n4_; have NB293_300 := n5_; have NB300_293 := n6_; clear n0_ n1_ n2_ n3_ n4_ n5_ n6_; clear hb hbox hg; have hnb16 := NB300_293.out; have hnc16 := NB293_300.out; have hcz17_0 : w15.cell? ⟨gb300, 0, none⟩ = some (.int .i64 0) := (blk_cell BK300.out 0).trans rfl; have hcz17_1 : w15.cell? ⟨gb300, 1, none⟩ = some (.int .i64 0) := (blk_cell BK300.out 1).trans rfl; have hcz17_2 : w15.cell? ⟨gb300, 2, none⟩ = some (.string (⟨#[]⟩ : ByteArray)) := (blk_cell BK300.out 2).trans rfl; have hcz17_3 : w15.cell? ⟨gb300, 3, none⟩ = some (.string (⟨#[]⟩ : ByteArray)) := (blk_cell BK300.out 3).trans rfl; have hcz17_4 : w15.cell? ⟨gb300, 4, none⟩ = some (.string (⟨#[]⟩ : ByteArray)) := (blk_cell BK300.out 4).trans rfl; have hfz17_0 := blk_frozen BK300.out 0; have hfz17_1 := blk_frozen BK300.out 1; have hfz17_2 := blk_frozen BK300.out 2; have hfz17_3 := blk_frozen BK300.out 3; have hfz17_4 := blk_frozen BK300.out 4; have hcz18_0 : w15.cell? ⟨gb293, 0, none⟩ = some (.int .i64 a0_0) := (blk_cell BK293.out 0).trans rfl; have hcz18_1 : w15.cell? ⟨gb293, 1, none⟩ = some (.int .i64 a0_1) := (blk_cell BK293.out 1).trans rfl; have hcz18_2 : w15.cell? ⟨gb293, 2, none⟩ = some (.string a0_2) := (blk_cell BK293.out 2).trans rfl; have hcz18_3 : w15.cell? ⟨gb293, 3, none⟩ = some (.string a0_3) := (blk_cell BK293.out 3).trans rfl; have hcz18_4 : w15.cell? ⟨gb293, 4, none⟩ = some (.string a0_4) := (blk_cell BK293.out 4).trans rfl; have hfz18_0 := blk_frozen BK293.out 0; have hfz18_1 := blk_frozen BK293.out 1; have hfz18_2 := blk_frozen BK293.out 2; have hfz18_3 := blk_frozen BK293.out 3; have hfz18_4 := blk_frozen BK293.out 4))
        go_ret2
        exact ⟨b60_, by repeat (first | (with_reducible first | exact HB.out | apply below_alloc | apply pw_below_drewN | apply below_drew1 | refine below_set ?_ GE293.out | refine below_set ?_ GE300.out) | exact HB.out)⟩
      ·rw [if_neg c11] at H
       exact absurd H (by simp)
     ·rw [if_neg c9] at H
      exact absurd H (by simp)
    ·rw [if_neg c8] at H
     exact absurd H (by simp)
def descantref1_Low.l0 : Nat → Int → Int → List Int → Int → Option (ByteArray)
 | 0, _, _, _, _ => none
 | k + 1, x0, x1, x5, x6 => if x6 < x1 then (if 0 ≤ (wrap64 (8 * x6)) then (if 0 ≤ x6 then (if x6 < (x5.length : Int) then (descantref1_Low.l0 k x0 x1 (x5.set (x6 : Int).toNat ((shr .i64 x0 (wrap64 (8 * x6))) % 256)) (wrap64 (x6 + 1))) else (none)) else (none)) else (none)) else (some (strOfNums x5))
def descantref1_Low.f (k : Nat) (a0 : Int) (a1 : Int) : Option (ByteArray) := if 0 ≤ a1 then (if (a1 : Int).toNat ≤ 281474976710656 then (descantref1_Low.l0 k a0 a1 (List.replicate (a1 : Int).toNat 0) 0) else (none)) else (none)
theorem descantref1_Low.calls (k : Nat) (a0 : Int) (a1 : Int) (r : ByteArray) (w : World) (h : descantref1_Low.f k a0 a1 = some r) :
  Calls Tryz.prog 105 #[.int .i64 a0, .int .i64 a1] w fun e w' => e = .returned (.string r) ∧ Below w.heap.size w w' := by
 have HB := Aside0.mk (Below.refl w.heap.size w)
 have H : (if 0 ≤ a1 then (if (a1 : Int).toNat ≤ 281474976710656 then (descantref1_Low.l0 k a0 a1 (List.replicate (a1 : Int).toNat 0) 0) else (none)) else (none)) = some r := h
 clear h
 by_cases c3 : 0 ≤ a1
 ·rw [if_pos c3] at H
  have c3b0 := eq_true c3
  have c3b1 : decide (0 ≤ a1) = true := decide_eq_true c3
  clear c3
  by_cases c4 : (a1 : Int).toNat ≤ 281474976710656
  ·rw [if_pos c4] at H
   have c4b0 := eq_true c4
   have c4b1 : decide ((a1 : Int).toNat ≤ 281474976710656) = true := decide_eq_true c4
   clear c4
   obtain ⟨y301, hy301⟩ : ∃ y_ : List Int, y_ = (List.replicate (a1 : Int).toNat 0) := ⟨_, rfl⟩
   replace H : (descantref1_Low.l0 k a0 a1 y301 0) = some r := by first | (rw [hy301]; with_reducible exact H) | (have H2_ := (Option.bind_some _ _).symm.trans H; rw [hy301]; with_reducible exact H2_) | (have H2_ := (Option.bind_some _ _).symm.trans H; with_reducible exact H2_) | with_reducible exact H | (rw [hy301]; exact H) | exact H
   have Ny301 := Aside0.mk hy301
   clear hy301
   have H' := Aside0.mk H
   clear H
   go_enter Tryz.func105, Tryz.ntmps105
   go_wp2_with (first | ((with_reducible refine gate_dst (N := 8) rfl ?_); refine Kd.R_make (Kd.int .u8) _ 5 rfl (N := 8) rfl 96 _ _ rfl a1 rfl rfl Tryz.underlying96 (.int .u8 0) 1 info5 rfl (by decide) (by omega) 0 (ok := fun _ => True) (okp := fun _ => True) rfl (fun _ hk => hk) trivial (of_decide_eq_true b73_) (Nat.le_trans (Nat.mul_le_mul_right _ (of_decide_eq_true b73_ : a1.toNat ≤ 281474976710656)) (by omega)) (Below.refl _ _) (Nat.le_refl _) ?_; intro v302 w5 ho6 hb hg_ hnew_; clear hg_ hnew_; (first | rw [← Ny301.out] at ho6 | (simp only [Int.reduceToNat] at ho6; rw [← Ny301.out] at ho6)); have n0_ := Aside0.mk (Kd.R_lower ho6 (below_size b28_)); have n1_ := Aside0.mk (below_step b28_ hb); clear HB; have HO303 := n0_; have HB := n1_; clear n0_ n1_; clear hb ho6))
   go_loopg [6] k (fun kq v6 w' => ∃ (x5_1 : List Int) (x6_1 : Int), v6 = .int .i64 x6_1 ∧ Aside0 (descantref1_Low.l0 kq a0 a1 x5_1 x6_1 = some r) ∧ Aside0 (kq ≤ k) ∧ Aside0 (Kd.R (Kd.int .u8) 5 w' w.heap.size (fun _ => True) v302 x5_1) ∧ Aside0 (Below w.heap.size w w'))
   case atStart => exact ⟨(y301), (0), b75_, H', ⟨Nat.le_refl _⟩, ⟨by (with_reducible repeat (first | apply Kd.R_alloc | apply Kd.R_drewN | apply Kd.R_drew)); exact HO303.out⟩, ⟨b29_⟩⟩
   case round =>
    clear H'
    try clear c1
    try clear p2
    try clear c3
    try clear c3b0
    try clear c3b1
    try clear c4
    try clear c4b0
    try clear c4b1
    obtain ⟨x5_1, x6_1, rfl, HA, HK1, HO_5, HB⟩ := hrel
    cases gk with
    | zero => exact absurd HA.out (by simp [descantref1_Low.l0])
    | succ k1 =>
     have H := HA.out
     clear HA
     simp only [descantref1_Low.l0] at H
     by_cases c7 : x6_1 < a1
     ·rw [if_pos c7] at H
      have c7b0 : decide (x6_1 < a1) = true := decide_eq_true c7
      clear c7
      obtain ⟨ji8, hji8⟩ : ∃ j_ : Int, (wrap64 (8 * x6_1)) = j_ := ⟨_, rfl⟩
      replace H : (if 0 ≤ (ji8) then (if 0 ≤ x6_1 then (if x6_1 < (x5_1.length : Int) then (descantref1_Low.l0 k1 a0 a1 (x5_1.set (x6_1 : Int).toNat ((shr .i64 a0 (ji8)) % 256)) (wrap64 (x6_1 + 1))) else (none)) else (none)) else (none)) = some r := by first | (rw [hji8] at H; exact H) | (simp only [hji8] at H ⊢; exact H)
      have hji8w : (IntKind.i64.wrap (8 * x6_1)) = ji8 := (i64_w _).trans hji8
      by_cases c9 : 0 ≤ (ji8)
      ·rw [if_pos c9] at H
       have c9b0 := eq_true c9
       have c9b1 : decide (0 ≤ (ji8)) = true := decide_eq_true c9
       clear c9
       obtain ⟨ji10, hji10⟩ : ∃ j_ : Int, (shr .i64 a0 (ji8)) = j_ := ⟨_, rfl⟩
       replace H : (if 0 ≤ x6_1 then (if x6_1 < (x5_1.length : Int) then (descantref1_Low.l0 k1 a0 a1 (x5_1.set (x6_1 : Int).toNat ((ji10) % 256)) (wrap64 (x6_1 + 1))) else (none)) else (none)) = some r := by first | (rw [hji10] at H; exact H) | (simp only [hji10] at H ⊢; exact H)
       have hji10_ : (a0 / 2 ^ min (ji8).toNat 64) = ji10 := hji10
       have hji10z : (ji8) ≤ 64 → (a0 / 2 ^ (ji8).toNat) = ji10 := shr_small hji10
       by_cases c11 : 0 ≤ x6_1
       ·rw [if_pos c11] at H
        have c11b0 : decide (0 ≤ x6_1) = true := decide_eq_true c11
        clear c11
        by_cases c12 : x6_1 < (x5_1.length : Int)
        ·rw [if_pos c12] at H
         have c12b0 : decide (x6_1 < (x5_1.length : Int)) = true := decide_eq_true c12
         clear c12
         obtain ⟨y304, hy304⟩ : ∃ y_ : List Int, y_ = (x5_1.set (x6_1 : Int).toNat ((ji10) % 256)) := ⟨_, rfl⟩
         replace H : (descantref1_Low.l0 k1 a0 a1 y304 (wrap64 (x6_1 + 1))) = some r := by first | (rw [hy304]; with_reducible exact H) | (have H2_ := (Option.bind_some _ _).symm.trans H; rw [hy304]; with_reducible exact H2_) | (have H2_ := (Option.bind_some _ _).symm.trans H; with_reducible exact H2_) | with_reducible exact H | (rw [hy304]; exact H) | exact H
         have Ny304 := Aside0.mk hy304
         clear hy304
         have H' := Aside0.mk H
         clear H
         have p13 : 0 ≤ (x6_1 : Int) := of_decide_eq_true b73_
         have q13 : (x6_1 : Int) < ((x5_1.length : Int) : Int) := of_decide_eq_true b73_
         obtain ⟨go13, co13, eo13, gb13, gl13, cl13, HG13⟩ := Kd.R_form HO_5.out (by omega)
         (first | cases eo13 | (injection eo13 with ea_ en_ ec_; (first | subst ea_ | (injection ea_ with ea_; subst ea_)); subst ec_; clear en_))
         have GB13 := Aside0.mk gb13
         have GG13 := Aside0.mk HG13
         clear gb13 gl13 HG13
         obtain ⟨hx13_0, hf13_0⟩ := Kd.R_celln 0 HO_5.out (x6_1 : Int) p13 q13
         replace p13 := eq_true p13
         replace q13 := eq_true q13
         have HP14 := Kd.R_putg HO_5.out (x6_1 : Int) ((ji10) % 256)
         go_wp2_with (first | ((with_reducible refine gate_store (t := 5) (p := 21) rfl ?_); refine store_event (t := 5) (p := 21) (v := ?vo_w15) (w1 := (wr.setCell ⟨go13, (x6_1 : Int).toNat, none⟩ (.int .u8 ((ji10) % 256)))) ?hg ?ho ?hn ?hr ?_; (case ho => rfl); (case hg => rfl); (case hn => rfl); (case hr => first | (go_simp; done) | (go_simp; rfl)); intro w15 hw; have hg : wr.grownBy w15 (some go13) := (by rw [hw]; exact HP14.2); have hp_ : Kd.R (Kd.int .u8) 5 w15 w.heap.size (fun _ => True) (.slice (some ⟨go13, 0, none⟩) x5_1.length co13) y304 := (by rw [hw, Ny304.out]; exact HP14.1); clear HP14; have n0_ := Aside0.mk (hp_); have n1_ := Aside0.mk ((by rw [hw]; exact below_set (HB.out) GB13.out : Below w.heap.size w w15)); clear HO_5; clear HB; have HO_5 := n0_; have HB := n1_; clear n0_ n1_; clear hg hw hp_))
         go_roundg k1
         case measure => have := HK1.out; omega
         case rel => exact ⟨(y304), (wrap64 (x6_1 + 1)), b75_, H', ⟨b83_⟩, ⟨by (with_reducible repeat (first | apply Kd.R_alloc | apply Kd.R_drewN | apply Kd.R_drew)); exact HO_5.out⟩, ⟨b29_⟩⟩
        ·rw [if_neg c12] at H
         exact absurd H (by simp)
       ·rw [if_neg c11] at H
        exact absurd H (by simp)
      ·rw [if_neg c9] at H
       exact absurd H (by simp)
     ·rw [if_neg c7] at H
      have c7b0 : decide (x6_1 < a1) = false := decide_eq_false c7
      clear c7
      obtain rfl := Option.some.inj H
      have hcv16 := own_string (P := Tryz.prog) Tryz.underlying96 Tryz.underlying5 Tryz.underlying9 (Kd.own_of_R HO_5.out)
      go_wp2
      go_ret
      exact ⟨b60_, b29_⟩
  ·rw [if_neg c4] at H
   exact absurd H (by simp)
 ·rw [if_neg c3] at H
  exact absurd H (by simp)
end Go.Proofs.YtnoibcdojfnicaaGreatDoor.PG
namespace Go.Proofs.YtnoibcdojfnicaaGreatDoor.PG
open Go.Proofs.YtnoibcdojfnicaaGreatDoorW.Short
open Bool renaming true → Y, false → J
open Go Go.RowKit Go.Proofs.YtnoibcdojfnicaaGreatDoorW.PrintWords Go.Proofs.YtnoibcdojfnicaaGreatDoorW.PrintMore Go.Proofs.YtnoibcdojfnicaaGreatDoorW.PrintLast
open Go.Proofs.YtnoibcdojfnicaaGreatDoor.Modn
attribute [-go_sem] Instr.loadAt Instr.storeAt Instr.build
def rZ13T : Bool × List (List Nat × List Nat) := (true, [([], []), ([0], [0]), ([], []), ([2], [2]), ([], []), ([], []), ([5], [5]), ([1, 3, 4, 6], [1, 3, 4, 6]), ([7, 4], [7]), ([8], [8]), ([9], [9]), ([9], [9]), ([10, 8, 0, 1, 2, 3, 4, 5, 6, 7, 8, 9, 10], [10]), ([11, 12, 0, 1, 2, 3, 4, 5, 6, 7, 8, 9, 10, 11, 12], [11])])
def rZ13B : List Nat := [0, 1, 0, 4, 0, 0, 32, 127, 255, 511, 1023, 1023, 2047, 8191]
theorem rZ13_tab : rtab .any (opsOf Tryz.f41 13) = rZ13T := by kernel_rfl
theorem rZ13_bits : waitsOk rZ13T.2 rZ13B = true := by kernel_rfl
theorem bu_wv (w : World) (c b : Int) (hd d tl : ByteArray) : (Instr.build 81 #[(0, .agg #[.int .i64 c, .int .i64 b]), (1, .string hd), (2, .string d), (3, .string tl)]).run Tryz.prog w = .ok (.agg #[.int .i64 c, .int .i64 b, .string hd, .string d, .string tl]) w := by kernel_rfl
theorem st_i6 (x : St) (A : Option Addr) (n : Nat) : (stC x A n)[6]? = some (.slice A x.segs.length n) := rfl
attribute [local go_sem high] st_i6 ld_int ld_bool ld_strs ld_str ld_fm so_bool so_str so_strs bu_wv store_new_st shut_st
def decL (k : Nat) (FR : FRT) (x : St) : Nat → Nat → List UInt8 → Option (List UInt8 × Bool)
 | 0, _, l => some (l, true)
 | m + 1, j, l => if (x.segs.getD j ByteArray.empty).size ≤ 140737488351232 then (dataF k FR x j).bind fun r => if r.2 = true then (if l.length + r.1.size ≤ 140737488355328 then decL k FR x m (j + 1) (l ++ r.1.data.toList) else none) else some (l, false) else none
def decF (k : Nat) (FR : FRT) (s : ByteArray) : Option (ByteArray × Int) := (stGet k s).bind fun p => if p.2 = 0 then if p.1.segs.length ≤ 17592186044416 then (decL k FR p.1 p.1.segs.length 0 []).bind fun q => if q.2 = true then (wave_Build.f k p.1.c p.1.b p.1.head ⟨q.1.toArray⟩ p.1.tail).map fun v => if v.2 = 0 then (v.1, 0) else (⟨#[]⟩, 2400) else some (⟨#[]⟩, 2401) else none else some (⟨#[]⟩, 2400)
theorem dec_c (k : Nat) {FR : FRT} (hFR : FrOk FR) (s : ByteArray) (R : ByteArray × Int) (W : World) (hL : Extra.Laid W) (h : decF k FR s = some R) : Calls Tryz.prog 41 #[.string s] W fun e w' => e = .returned (.tuple #[.string R.1, .int .i64 R.2]) ∧ Below W.heap.size W w' := by
 have hu69 := Tryz.underlying69
 unfold decF at h
 obtain ⟨⟨x, e0⟩, hp, h⟩ := Option.bind_eq_some_iff.1 h
 have GC := Lib.hid (fun w => stGet_c k s (x, e0) w hp)
 have LW := Lib.hid hL
 clear hp hL
 dsimp only at h GC
 by_cases h0 : e0 = 0
 ·rw [if_pos h0] at h
  subst h0
  by_cases hbig : x.segs.length ≤ 17592186044416
  rotate_left
  ·rw [if_neg hbig] at h
   cases h
  rw [if_pos hbig] at h
  obtain ⟨q, hq, h⟩ := Option.bind_eq_some_iff.1 h
  have DL := Lib.hid hq
  have HR := Lib.hid h
  clear hq h
  go_enter Tryz.func41, Tryz.ntmps41
  go_wp2_with fail
  refine (GC.out _).mono ?_
  rintro e w1 ⟨A, n, rfl, hC, hn, hb⟩
  have RC := Lib.hid hC
  have H1 := Lib.hid hb
  have L1 := Lib.hid (Extra.Laid.below_ LW.out hb)
  clear hC hb GC LW
  obtain ⟨gx, hgx⟩ : ∃ gx, gx = w1.heap.size := ⟨_, rfl⟩
  have X2 := Lib.hid (blk_new w1 (.cells (stC x A n) 86))
  have H2 := Lib.hid (below_alloc (Below.refl w1.heap.size w1) (.cells (stC x A n) 86))
  have hw1 : w1.heap.size ≤ gx := Nat.le_of_eq hgx.symm
  have eg : (w1.alloc (.cells (stC x A n) 86)).heap.size = gx + 1 := by rw [hgx]; simp
  rw [← hgx] at X2
  obtain ⟨w2, hw2⟩ : ∃ w2, w2 = w1.alloc (.cells (stC x A n) 86) := ⟨_, rfl⟩
  rw [← hw2] at X2 H2 eg
  have X3 := Lib.hid (blk_alloc X2.out (.cells #[.pointer none, .slice none 0 0] 164))
  have H3 := Lib.hid (below_alloc H2.out (.cells #[.pointer none, .slice none 0 0] 164))
  have J3 := Lib.hid (bd_new w2)
  obtain ⟨gb, hgb⟩ : ∃ gb, gb = w2.heap.size := ⟨_, rfl⟩
  have z3 : gx < gb := by omega
  have zb : gb ≤ (w2.alloc (.cells #[.pointer none, .slice none 0 0] 164)).heap.size := by rw [hgb]; simp
  rw [← hgb] at J3
  have EX := Lib.hid hgx
  have EW := Lib.hid hw2
  have EB := Lib.hid (hgb.trans eg)
  clear hw2 hgb eg hgx
  go_wp2_with fail
  rw [← EW.out]
  simp only [← EX.out]
  simp only [← EB.out]
  generalize w2.alloc (.cells #[.pointer none, .slice none 0 0] 164) = w3 at X3 H3 J3 zb ⊢
  clear X2 H2 EX EW EB
  go_loopw [21] (fun i wr => ∃ (j : Nat) (l : List UInt8), j ≤ x.segs.length ∧ i = .int .i64 j ∧ Hid (decL k FR x (x.segs.length - j) j l = some q) ∧ Hid (Bd gb gb l wr) ∧ Hid (wr.heap[gx]? = some (.cells (stC x A n) 86 (0, 0))) ∧ Hid (Below w1.heap.size w1 wr) ∧ gb ≤ wr.heap.size) (fun i _ => x.segs.length - (intOf i).toNat)
  case atStart => exact ⟨0, [], by omega, rfl, DL, J3, X3, H3, zb⟩
  case round =>
   clear X3 H3 J3 zb DL
   obtain ⟨j, l, hj, rfl, hD, hJ, hX, hB, hz⟩ := hrel
   by_cases hlt : j < x.segs.length
   ·have hD2 := hD.out
    rw [show x.segs.length - j = (x.segs.length - (j + 1)) + 1 by omega] at hD2
    unfold decL at hD2
    by_cases hsz : (x.segs.getD j ByteArray.empty).size ≤ 140737488351232
    ·rw [if_pos hsz] at hD2
     obtain ⟨⟨t, ok⟩, hd, hD2⟩ := Option.bind_eq_some_iff.1 hD2
     have DC := Lib.hid (fileData_c k hFR x A n j (t, ok) wr (Kd.C_below RC.out hB.out) hlt hsz (Extra.Laid.below_ L1.out hB.out) hd)
     have ld := Agg.load_all (P := Tryz.prog) hX.out 86 _ Tryz.underlying86 rfl kr
     dsimp only at hD2 DC
     have D2 := Lib.hid hD2
     clear hd hD hD2 hsz
     go_wp2_with fail
     refine DC.out.mono ?_
     rintro e w4 ⟨rfl, hb⟩
     have X4 := Lib.hid (blk_below hX.out hb)
     have H4 := Lib.hid (below_step hB.out hb)
     have J4 := Lib.hid (bd_move hJ.out hb)
     have z4 := Nat.le_trans hz hb.size
     clear hb ld DC hX hB hJ hz
     cases ok
     ·have hR := D2.out
      rw [if_neg (by simp)] at hR
      obtain rfl := Option.some.inj hR
      have hR := HR.out
      rw [if_neg (by simp)] at hR
      obtain rfl := Option.some.inj hR
      go_wp2_with fail
      go_ret2
      exact ⟨rfl, below_step H1.out H4.out⟩
     ·have hD3 := D2.out
      rw [if_pos rfl] at hD3
      by_cases hlen : l.length + t.size ≤ 140737488355328
      ·rw [if_pos hlen] at hD3
       have D3 := Lib.hid hD3
       clear hD3 D2
       go_wp2_with fail
       refine (bd_write _ _ l _ _ J4.out hlen z4).mono ?_
       rintro e w5 ⟨q5, rfl, hI, hb⟩
       have J5 := Lib.hid hI
       have X5 := Lib.hid ((hb.block gx z3).trans X4.out)
       have H5 := Lib.hid (bel_of H4.out hb (show w1.heap.size ≤ gb by omega))
       have z5 := Nat.le_trans z4 hb.size
       clear hI hb X4 H4 J4 z4
       go_wp2_with fail
       exact ⟨⟨j + 1, _, by omega, by go_num, D3, J5, X5, H5, z5⟩, by simp [intOf]; omega⟩
      ·rw [if_neg hlen] at hD3
       cases hD3
    ·rw [if_neg hsz] at hD2
     cases hD2
   ·obtain rfl : j = x.segs.length := by omega
    have hD2 := hD.out
    rw [Nat.sub_self] at hD2
    unfold decL at hD2
    obtain rfl := Option.some.inj hD2
    have hR := HR.out
    rw [if_pos rfl] at hR
    obtain ⟨⟨v, ve⟩, hv, hR⟩ := Option.map_eq_some_iff.1 hR
    dsimp only at hv hR
    obtain ⟨L8, hL8⟩ : ∃ L8 : ByteArray, L8 = ⟨l.toArray⟩ := ⟨_, rfl⟩
    have SC := Lib.hid (fun w (hI : Bd gb gb l w) hz => bd_string _ _ l w hI hz)
    rw [← hL8] at hv SC
    have WB := Lib.hid (fun w => wave_Build.calls k x.c x.b x.head L8 x.tail v ve w hv)
    have HR2 := Lib.hid hR
    clear hv hR hL8 hD hD2 HR hlt
    go_wp2_with fail
    have X6 := Lib.hid (blk_drew hX.out)
    have H6 := Lib.hid (below_drew1 hB.out)
    have J6 := Lib.hid (bd_move hJ.out (below_drew1 (Below.refl wr.heap.size wr)))
    have z6 := Lib.hid ((show gb ≤ wr.drew.heap.size from hz))
    refine start_ (n := 14) (S := fun w' => w'.heap[gx]? = some (.cells (stC x A n) 86 (0, 0))) (ds := []) #[J,J,J,J,J,J,J,J,J,J,J,J,J,J] kr rfl rfl (blk_drew hX.out) (fun hHeld => ?_)
    refine with_tabW rZ13_tab rZ13_bits (fun HT_ HW_ => ?_)
    generalize wr.drew = w6 at X6 H6 J6 z6 hHeld ⊢
    clear hX hB hJ hz
    refine pu_ 0 36 (z 14 1) HT_ ?_
    refine ta_ 1 37 (z 14 3) HT_ HW_ hHeld rfl b59_ ?_
    refine pu_ 2 38 (z 14 7) HT_ ?_
    refine ta_ 3 39 (z 14 15) HT_ HW_ hHeld rfl b59_ ?_
    refine pu_ 5 41 (z 14 47) HT_ ?_
    refine ta_ 6 42 (z 14 111) HT_ HW_ hHeld rfl b59_ ?_
    refine one_ (i := 4) (N := some 40) #[Y,Y,Y,Y,Y,Y,Y,J,J,J,J,J,J,J] rfl rfl (one_of HT_.out kr) (by decide) (fun K hK => ?_)
    refine goes_ Tryz.func103 kr rfl #[.pointer (some ⟨gb, 0, none⟩)] (by rfl) rfl rfl b66_ ?_
    refine (SC.out _ J6.out z6.out).mono ?_
    rintro e w7 ⟨rfl, hb⟩
    refine ⟨_, rfl, ?_⟩
    have X7 := Lib.hid ((hb.block gx z3).trans X6.out)
    have H7 := Lib.hid (bel_of H6.out hb (show w1.heap.size ≤ gb by omega))
    clear hb X6 H6 J6 z6
    refine hK.out _ _ (X7.out) (fun hHeld => ?_)
    clear hK K
    refine norm_ (a' := ?_) ?_ ?_
    rotate_left
    ·show Act.put _ (some 40) _ = _
     exact pT
    refine pu_ 7 43 (z 14 255) HT_ ?_
    refine one_ (i := 8) (N := some 44) #[Y,Y,Y,Y,Y,Y,Y,Y,Y,J,J,J,J,J] rfl rfl (one_of HT_.out kr) (by decide) (fun K hK => ?_)
    refine goes_ Tryz.func104 kr rfl #[.agg #[.int .i64 x.c, .int .i64 x.b, .string x.head, .string L8, .string x.tail]] (by rfl) rfl rfl b66_ ?_
    refine (WB.out _).mono ?_
    rintro e w8 ⟨rfl, hb⟩
    refine ⟨_, rfl, ?_⟩
    have X8 := Lib.hid (blk_below X7.out hb)
    have H8 := Lib.hid (below_step H7.out hb)
    clear hb X7 H7 WB
    refine hK.out _ _ (X8.out) (fun hHeld => ?_)
    clear hK K
    refine norm_ (a' := ?_) ?_ ?_
    rotate_left
    ·show Act.put _ (some 44) _ = _
     exact pT
    refine pu_ 9 35 (z 14 1023) HT_ ?_
    refine pu_ 10 45 (z 14 2047) HT_ ?_
    refine pu_ 11 46 (z 14 4095) HT_ ?_
    refine pu_ 12 10 (z 14 8191) HT_ ?_
    refine pu_ 13 5 (z 14 16383) HT_ ?_
    refine done_ (done_of HT_.out kr) ?_
    clear hHeld
    have hR := HR2.out
    by_cases h0 : ve = 0
    ·rw [if_pos h0] at hR
     subst hR
     subst h0
     go_wp2_with fail
     go_ret2
     exact ⟨rfl, below_step H1.out H8.out⟩
    ·rw [if_neg h0] at hR
     subst hR
     have e1 : decide (ve = 0) = false := decide_eq_false h0
     have e2 : (ve == 0) = false := beq_eq_false_iff_ne.2 h0
     have e3 : (ve != 0) = true := bne_iff_ne.2 h0
     clear h0
     go_wp2_with fail
     go_ret2
     exact ⟨rfl, below_step H1.out H8.out⟩
 ·rw [if_neg h0] at h
  obtain rfl := Option.some.inj h
  have e1 : decide (e0 = 0) = false := decide_eq_false h0
  have e2 : (e0 == 0) = false := beq_eq_false_iff_ne.2 h0
  have e3 : (e0 != 0) = true := bne_iff_ne.2 h0
  clear h0 h
  go_enter Tryz.func41, Tryz.ntmps41
  go_wp2_with fail
  refine (GC.out _).mono ?_
  rintro e w1 ⟨A, n, rfl, hC, hn, hb⟩
  have H2 := Lib.hid (below_alloc hb (.cells (stC x A n) 86))
  clear hC hb
  go_wp2_with fail
  go_ret2
  exact ⟨rfl, H2.out⟩
end Go.Proofs.YtnoibcdojfnicaaGreatDoor.PG
