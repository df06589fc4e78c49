/- A part of the proof of a law of descanttop: this session's own texts and printed texts, shortened and joined. -/
import Derived.Test.YtnoibcdojfnicaaGreatDoorE23
set_option linter.unusedVariables false
set_option linter.unusedSimpArgs false
set_option maxRecDepth 100000
set_option maxHeartbeats 16000000
namespace Go.Proofs.YtnoibcdojfnicaaGreatDoor.PG
open Go.Proofs.YtnoibcdojfnicaaGreatDoorW.Short
open Bool renaming true → Y, false → J
open Go.RowKit Go.Proofs.YtnoibcdojfnicaaGreatDoorW.PrintWords Go.Proofs.YtnoibcdojfnicaaGreatDoorW.PrintLast Go.Proofs.YtnoibcdojfnicaaGreatDoorW.PrintMore
attribute [local go_sem] max2_int min2_int max_two min_two max_three min_three max_four min_four
def side_Put.f (k : Nat) (l0 : List (List Int)) : Option ((List (List Int)) × Int) := (side_turn.f k l0 (-1)).bind fun bt163 => (some (bt163.1, bt163.2))
theorem side_Put.calls (k : Nat) (A0 : Option Addr) (c0 : Nat) (l0 : List (List Int)) (r1 : List (List Int)) (r2 : Int) (w : World) (hr0 : Kd.C (Kd.slice 3 (Kd.int .i64)) w A0 l0.length l0) (hc0 : l0.length ≤ c0) (h : side_Put.f k l0 = some (r1, r2)) :
  Calls Tryz.prog 31 #[.slice A0 l0.length c0] w fun e w' => ∃ v0_ : Value, e = .returned (.tuple #[v0_, .int .i64 r2]) ∧ Kd.S (Kd.slice 3 (Kd.int .i64)) 22 w' w.heap.size (fun _ => True) v0_ r1 ∧ Below w.heap.size w w' := by
 have HR0 := Aside0.mk hr0
 have HC0 := Aside0.mk hc0
 clear hr0 hc0
 have HB := Aside0.mk (Below.refl w.heap.size w)
 have H : ((side_turn.f k l0 (-1)).bind fun bt163 => (some (bt163.1, bt163.2))) = some (r1, r2) := h
 clear h
 replace H := Option.bind_eq_some_iff.mp H
 obtain ⟨⟨t163, t164⟩, A20, H⟩ := H
 replace H : (some (t163, t164)) = some (r1, r2) := H
 have A2 := Aside0.mk A20
 clear A20
 simp only [Option.some.injEq, Prod.mk.injEq] at H
 obtain ⟨rfl, rfl⟩ := H
 go_enter Tryz.func31, Tryz.ntmps31
 go_wp2_with (first | ((with_reducible refine gate_callee (f := 86) rfl ?_); refine goesL_ (some 5) rfl rfl Tryz.func86 kr rfl #[.slice A0 l0.length c0, .int .i64 (-1)] rfl b24_ ?_; (with_reducible refine (side_turn.calls k _ _ l0 (-1) t163 t164 _ ?side1 ?side2 A2.out).mono ?_); (case side1 => repeat (first | exact HR0.out | (with_reducible refine Kd.C_alloc ?_ _) | (with_reducible refine Kd.C_drewN ?_ _) | (with_reducible refine Kd.C_drew ?_))); (case side2 => exact HC0.out); rintro e w3 ⟨v165, rfl, ho0, hb⟩; refine ⟨_, rfl, ?_⟩; have n0_ := Aside0.mk (Kd.S_lower ho0 (below_size b28_)); have n1_ := Aside0.mk (below_step b28_ hb); clear HB; have HO166 := n0_; have HB := n1_; clear n0_ n1_; (try clear hb); (try clear hb2); (try clear hk); (try clear hi); (try clear ho0)))
 go_ret2
 exact ⟨_, b60_, by (with_reducible repeat (first | apply Kd.S_alloc | apply Kd.S_drewN | apply Kd.S_drew)); exact HO166.out, b29_⟩
def coder_New.f  : Option (Int × Int × ByteArray) := some (0, 4294967295, (⟨#[]⟩ : ByteArray))
theorem coder_New.calls  (r1 : Int) (r2 : Int) (r3 : ByteArray) (w : World) (h : coder_New.f  = some (r1, r2, r3)) :
  Calls Tryz.prog 12 #[] w fun e w' => e = .returned (.agg #[.int .i64 r1, .int .i64 r2, .string r3]) ∧ Below w.heap.size w w' := by
 have hu31 := Tryz.underlying31
 have HB := Aside0.mk (Below.refl w.heap.size w)
 have H : (some (0, 4294967295, (⟨#[]⟩ : ByteArray))) = some (r1, r2, r3) := h
 clear h
 simp only [Option.some.injEq, Prod.mk.injEq] at H
 obtain ⟨rfl, rfl, rfl⟩ := H
 go_enter Tryz.func12, Tryz.ntmps12
 go_wp2_with (first | ((with_reducible refine gate_dst (N := 0) rfl ?_); refine box_event ?hg (N := 0) ?hd (cs := #[.int .i64 0, .int .i64 0, .string (⟨#[]⟩ : ByteArray)]) (t := 31) ?hr ?_; (case hd => rfl); (case hg => rfl); (case hr => first | (go_simp; done) | (go_simp; rfl)); intro gb167 hg w1 hbox hb; have n0_ := Aside0.mk (below_step b28_ hb); have n1_ := Aside0.mk (hbox); have n2_ := Aside0.mk ((by rw [hg]; exact (below_size b28_) : w.heap.size ≤ gb167)); have n3_ := Aside0.mk ((by rw [hg]; exact (below_size b28_) : w.heap.size ≤ gb167)); clear HB; have HB := n0_; have BK167 := n1_; have GW167 := n2_; have GE167 := n3_; clear n0_ n1_ n2_ n3_; clear hb hbox hg; have hcz2_0 : w1.cell? ⟨gb167, 0, none⟩ = some (.int .i64 0) := (blk_cell BK167.out 0).trans rfl; have hcz2_1 : w1.cell? ⟨gb167, 1, none⟩ = some (.int .i64 0) := (blk_cell BK167.out 1).trans rfl; have hcz2_2 : w1.cell? ⟨gb167, 2, none⟩ = some (.string (⟨#[]⟩ : ByteArray)) := (blk_cell BK167.out 2).trans rfl; have hfz2_0 := blk_frozen BK167.out 0; have hfz2_1 := blk_frozen BK167.out 1; have hfz2_2 := blk_frozen BK167.out 2))
 refine bodyPost_ret (results_cell_row rfl _ _ gb167 31 #[.int .i64 0, .int .i64 4294967295, .string (⟨#[]⟩ : ByteArray)] (0, 0) _ rfl (by (with_reducible repeat (first | refine blk_drewN ?_ _ | refine blk_drew ?_ | refine blk_alloc ?_ _)); refine blk_put (cs := #[.int .i64 0, .int .i64 4294967295, .string (⟨#[]⟩ : ByteArray)]) ?_ 2 _ rfl; (with_reducible repeat (first | refine blk_drewN ?_ _ | refine blk_drew ?_ | refine blk_alloc ?_ _)); refine blk_put (cs := #[.int .i64 0, .int .i64 0, .string (⟨#[]⟩ : ByteArray)]) ?_ 1 _ rfl; (with_reducible repeat (first | refine blk_drewN ?_ _ | refine blk_drew ?_ | refine blk_alloc ?_ _)); refine blk_put (cs := #[.int .i64 0, .int .i64 0, .string (⟨#[]⟩ : ByteArray)]) ?_ 0 _ rfl; (with_reducible repeat (first | refine blk_drewN ?_ _ | refine blk_drew ?_ | refine blk_alloc ?_ _)); exact BK167.out) Tryz.underlying31 rfl kr) rfl ?_
 exact ⟨b60_, by repeat (first | (with_reducible first | exact HB.out | apply below_alloc | apply pw_below_drewN | apply below_drew1 | refine below_set ?_ GE167.out) | exact HB.out)⟩
def coder_Ends.f (a0 : Int) (a1 : Int) : Option (Bool) := if a0 ≥ 0 then (if a1 ≤ 4294967295 then (some (decide ((a1 / 16777216) > (a0 / 16777216)))) else (some false)) else (some false)
theorem coder_Ends.calls (a0 : Int) (a1 : Int) (r : Bool) (w : World) (h : coder_Ends.f a0 a1 = some r) :
  Calls Tryz.prog 116 #[.int .i64 a0, .int .i64 a1] w fun e w' => e = .returned (.bool r) ∧ Drawn0 w w' := by
 have H : (if a0 ≥ 0 then (if a1 ≤ 4294967295 then (some (decide ((a1 / 16777216) > (a0 / 16777216)))) else (some false)) else (some false)) = some r := h
 clear h
 by_cases c3 : a0 ≥ 0
 ·rw [if_pos c3] at H
  have c3b0 : decide (0 ≤ a0) = true := decide_eq_true c3
  clear c3
  by_cases c4 : a1 ≤ 4294967295
  ·rw [if_pos c4] at H
   have c4b0 : decide (a1 ≤ 4294967295) = true := decide_eq_true c4
   clear c4
   obtain rfl := Option.some.inj H
   go_enter Tryz.func116, Tryz.ntmps116
   go_wp2
   go_ret
   exact ⟨b76_, b69_⟩
  ·rw [if_neg c4] at H
   have c4b0 : decide (a1 ≤ 4294967295) = false := decide_eq_false c4
   clear c4
   obtain rfl := Option.some.inj H
   go_enter Tryz.func116, Tryz.ntmps116
   go_wp2
   go_ret
   exact ⟨b76_, b69_⟩
 ·rw [if_neg c3] at H
  have c3b0 : decide (0 ≤ a0) = false := decide_eq_false c3
  clear c3
  obtain rfl := Option.some.inj H
  go_enter Tryz.func116, Tryz.ntmps116
  go_wp2
  go_ret
  exact ⟨b76_, b69_⟩
def coder_May.f (a0_0 : Int) (a0_1 : Int) (a0_2 : ByteArray) : Option (Bool) := (coder_Ends.f a0_0 a0_1).bind fun t169 => (if t169 = true then (some (decide ((a0_2.size : Int) ≤ 65536))) else (some false))
theorem coder_May.calls (a0_0 : Int) (a0_1 : Int) (a0_2 : ByteArray) (r : Bool) (w : World) (h : coder_May.f a0_0 a0_1 a0_2 = some r) :
  Calls Tryz.prog 50 #[.agg #[.int .i64 a0_0, .int .i64 a0_1, .string a0_2]] w fun e w' => e = .returned (.bool r) ∧ Below w.heap.size w w' := by
 have hu31 := Tryz.underlying31
 have HB := Aside0.mk (Below.refl w.heap.size w)
 have H : ((coder_Ends.f a0_0 a0_1).bind fun t169 => (if t169 = true then (some (decide ((a0_2.size : Int) ≤ 65536))) else (some false))) = some r := h
 clear h
 replace H := Option.bind_eq_some_iff.mp H
 obtain ⟨t169, A20, H⟩ := H
 replace H : (if t169 = true then (some (decide ((a0_2.size : Int) ≤ 65536))) else (some false)) = some r := H
 have A2 := Aside0.mk A20
 clear A20
 by_cases c3 : t169 = true
 ·subst c3
  have H1 : (some (decide ((a0_2.size : Int) ≤ 65536))) = some r := by rw [if_pos rfl] at H; exact H
  clear H
  have H := H1
  clear H1
  obtain rfl := Option.some.inj H
  go_enter Tryz.func50, Tryz.ntmps50
  go_wp2_with (first | ((with_reducible refine gate_dst (N := 1) rfl ?_); (try (refine gate_guard (by rfl) ?_; dsimp only)); refine box_event ?hg (N := 1) ?hd (cs := #[.int .i64 a0_0, .int .i64 a0_1, .string a0_2]) (t := 31) ?hr ?_; (case hd => rfl); (case hg => rfl); (case hr => first | (go_simp; done) | (go_simp; rfl)); intro gb168 hg w4 hbox hb; have n0_ := Aside0.mk (below_step b28_ hb); have n1_ := Aside0.mk (hbox); have n2_ := Aside0.mk ((by rw [hg]; exact (below_size b28_) : w.heap.size ≤ gb168)); have n3_ := Aside0.mk ((by rw [hg]; exact (below_size b28_) : w.heap.size ≤ gb168)); clear HB; have HB := n0_; have BK168 := n1_; have GW168 := n2_; have GE168 := n3_; clear n0_ n1_ n2_ n3_; clear hb hbox hg; have hcz5_0 : w4.cell? ⟨gb168, 0, none⟩ = some (.int .i64 a0_0) := (blk_cell BK168.out 0).trans rfl; have hcz5_1 : w4.cell? ⟨gb168, 1, none⟩ = some (.int .i64 a0_1) := (blk_cell BK168.out 1).trans rfl; have hcz5_2 : w4.cell? ⟨gb168, 2, none⟩ = some (.string a0_2) := (blk_cell BK168.out 2).trans rfl; have hfz5_0 := blk_frozen BK168.out 0; have hfz5_1 := blk_frozen BK168.out 1; have hfz5_2 := blk_frozen BK168.out 2) | ((with_reducible refine gate_callee (f := 116) rfl ?_); refine goesL_ (some 7) rfl rfl Tryz.func116 kr rfl #[.int .i64 a0_0, .int .i64 a0_1] rfl b24_ ?_; (with_reducible refine (coder_Ends.calls a0_0 a0_1 true _ A2.out).mono ?_); rintro e w' ⟨rfl, ⟨nd, rfl⟩⟩; refine ⟨_, rfl, ?_⟩))
  go_ret
  exact ⟨b60_, by repeat (first | (with_reducible first | exact HB.out | apply below_alloc | apply pw_below_drewN | apply below_drew1 | refine below_set ?_ GE168.out) | exact HB.out)⟩
 ·replace c3 := Bool.eq_false_iff.mpr c3
  subst c3
  have H1 : (some false) = some r := by rw [if_neg (show ¬ (false = true) by decide)] at H; exact H
  clear H
  have H := H1
  clear H1
  obtain rfl := Option.some.inj H
  go_enter Tryz.func50, Tryz.ntmps50
  go_wp2_with (first | ((with_reducible refine gate_dst (N := 1) rfl ?_); (try (refine gate_guard (by rfl) ?_; dsimp only)); refine box_event ?hg (N := 1) ?hd (cs := #[.int .i64 a0_0, .int .i64 a0_1, .string a0_2]) (t := 31) ?hr ?_; (case hd => rfl); (case hg => rfl); (case hr => first | (go_simp; done) | (go_simp; rfl)); intro gb168 hg w6 hbox hb; have n0_ := Aside0.mk (below_step b28_ hb); have n1_ := Aside0.mk (hbox); have n2_ := Aside0.mk ((by rw [hg]; exact (below_size b28_) : w.heap.size ≤ gb168)); have n3_ := Aside0.mk ((by rw [hg]; exact (below_size b28_) : w.heap.size ≤ gb168)); clear HB; have HB := n0_; have BK168 := n1_; have GW168 := n2_; have GE168 := n3_; clear n0_ n1_ n2_ n3_; clear hb hbox hg; have hcz7_0 : w6.cell? ⟨gb168, 0, none⟩ = some (.int .i64 a0_0) := (blk_cell BK168.out 0).trans rfl; have hcz7_1 : w6.cell? ⟨gb168, 1, none⟩ = some (.int .i64 a0_1) := (blk_cell BK168.out 1).trans rfl; have hcz7_2 : w6.cell? ⟨gb168, 2, none⟩ = some (.string a0_2) := (blk_cell BK168.out 2).trans rfl; have hfz7_0 := blk_frozen BK168.out 0; have hfz7_1 := blk_frozen BK168.out 1; have hfz7_2 := blk_frozen BK168.out 2) | ((with_reducible refine gate_callee (f := 116) rfl ?_); refine goesL_ (some 7) rfl rfl Tryz.func116 kr rfl #[.int .i64 a0_0, .int .i64 a0_1] rfl b24_ ?_; (with_reducible refine (coder_Ends.calls a0_0 a0_1 false _ A2.out).mono ?_); rintro e w' ⟨rfl, ⟨nd, rfl⟩⟩; refine ⟨_, rfl, ?_⟩))
  go_ret
  exact ⟨b60_, by repeat (first | (with_reducible first | exact HB.out | apply below_alloc | apply pw_below_drewN | apply below_drew1 | refine below_set ?_ GE168.out) | exact HB.out)⟩
def coder_End.f (a0_0 : Int) (a0_1 : Int) (a0_2 : ByteArray) : Option (ByteArray × Int) := (coder_May.f a0_0 a0_1 a0_2).bind fun t171 => (if t171 = true then ((some (([(a0_0 / 16777216) % 256, (a0_0 / 65536) % 256, (a0_0 / 256) % 256, (a0_0) % 256] : List Int) : List Int)).bind fun y172 => (if a0_2.size + (strOfNums y172).size ≤ 9223372036854775807 then (some (a0_2 ++ (strOfNums y172), 0)) else (none))) else (some ((⟨#[]⟩ : ByteArray), 400)))
theorem coder_End.calls (a0_0 : Int) (a0_1 : Int) (a0_2 : ByteArray) (r1 : ByteArray) (r2 : Int) (w : World) (h : coder_End.f a0_0 a0_1 a0_2 = some (r1, r2)) :
  Calls Tryz.prog 17 #[.agg #[.int .i64 a0_0, .int .i64 a0_1, .string a0_2]] w fun e w' => e = .returned (.tuple #[.string r1, .int .i64 r2]) ∧ Below w.heap.size w w' := by
 have hu31 := Tryz.underlying31
 have HB := Aside0.mk (Below.refl w.heap.size w)
 have H : ((coder_May.f a0_0 a0_1 a0_2).bind fun t171 => (if t171 = true then ((some (([(a0_0 / 16777216) % 256, (a0_0 / 65536) % 256, (a0_0 / 256) % 256, (a0_0) % 256] : List Int) : List Int)).bind fun y172 => (if a0_2.size + (strOfNums y172).size ≤ 9223372036854775807 then (some (a0_2 ++ (strOfNums y172), 0)) else (none))) else (some ((⟨#[]⟩ : ByteArray), 400)))) = some (r1, r2) := h
 clear h
 replace H := Option.bind_eq_some_iff.mp H
 obtain ⟨t171, A20, H⟩ := H
 replace H : (if t171 = true then ((some (([(a0_0 / 16777216) % 256, (a0_0 / 65536) % 256, (a0_0 / 256) % 256, (a0_0) % 256] : List Int) : List Int)).bind fun y172 => (if a0_2.size + (strOfNums y172).size ≤ 9223372036854775807 then (some (a0_2 ++ (strOfNums y172), 0)) else (none))) else (some ((⟨#[]⟩ : ByteArray), 400))) = some (r1, r2) := H
 have A2 := Aside0.mk A20
 clear A20
 by_cases c3 : t171 = true
 ·subst c3
  have H1 : ((some (([(a0_0 / 16777216) % 256, (a0_0 / 65536) % 256, (a0_0 / 256) % 256, (a0_0) % 256] : List Int) : List Int)).bind fun y172 => (if a0_2.size + (strOfNums y172).size ≤ 9223372036854775807 then (some (a0_2 ++ (strOfNums y172), 0)) else (none))) = some (r1, r2) := by rw [if_pos rfl] at H; exact H
  clear H
  have H := H1
  clear H1
  obtain ⟨y172, hy172⟩ : ∃ y_ : List Int, y_ = (([(a0_0 / 16777216) % 256, (a0_0 / 65536) % 256, (a0_0 / 256) % 256, (a0_0) % 256] : List Int)) := ⟨_, rfl⟩
  replace H : (if a0_2.size + (strOfNums y172).size ≤ 9223372036854775807 then (some (a0_2 ++ (strOfNums y172), 0)) else (none)) = some (r1, r2) := by first | (rw [hy172]; with_reducible exact H) | (have H2_ := (Option.bind_some _ _).symm.trans H; rw [hy172]; with_reducible exact H2_) | (have H2_ := (Option.bind_some _ _).symm.trans H; with_reducible exact H2_) | with_reducible exact H | (rw [hy172]; exact H) | exact H
  have Ny172 := Aside0.mk hy172
  clear hy172
  by_cases c4 : a0_2.size + (strOfNums y172).size ≤ 9223372036854775807
  ·rw [if_pos c4] at H
   have c4b0 := eq_true c4
   have c4b1 : decide (a0_2.size + (strOfNums y172).size ≤ 9223372036854775807) = true := decide_eq_true c4
   try have c4b2 : (9223372036854775807 < a0_2.size + (strOfNums y172).size) = False := eq_false (Nat.not_lt.2 c4)
   simp only [Option.some.injEq, Prod.mk.injEq] at H
   obtain ⟨rfl, rfl⟩ := H
   go_enter Tryz.func17, Tryz.ntmps17
   go_wp2_with (first | ((with_reducible refine gate_dst (N := 1) rfl ?_); refine box_event ?hg (N := 1) ?hd (cs := #[.int .i64 a0_0, .int .i64 a0_1, .string a0_2]) (t := 31) ?hr ?_; (case hd => rfl); (case hg => rfl); (case hr => first | (go_simp; done) | (go_simp; rfl)); intro gb170 hg w5 hbox hb; have n0_ := Aside0.mk (below_step b28_ hb); have n1_ := Aside0.mk (hbox); have n2_ := Aside0.mk ((by rw [hg]; exact (below_size b28_) : w.heap.size ≤ gb170)); have n3_ := Aside0.mk ((by rw [hg]; exact (below_size b28_) : w.heap.size ≤ gb170)); clear HB; have HB := n0_; have BK170 := n1_; have GW170 := n2_; have GE170 := n3_; clear n0_ n1_ n2_ n3_; clear hb hbox hg; have hcz6_0 : w5.cell? ⟨gb170, 0, none⟩ = some (.int .i64 a0_0) := (blk_cell BK170.out 0).trans rfl; have hcz6_1 : w5.cell? ⟨gb170, 1, none⟩ = some (.int .i64 a0_1) := (blk_cell BK170.out 1).trans rfl; have hcz6_2 : w5.cell? ⟨gb170, 2, none⟩ = some (.string a0_2) := (blk_cell BK170.out 2).trans rfl; have hfz6_0 := blk_frozen BK170.out 0; have hfz6_1 := blk_frozen BK170.out 1; have hfz6_2 := blk_frozen BK170.out 2) | ((with_reducible refine gate_callee (f := 50) rfl ?_); refine goesL_ (some 5) rfl rfl Tryz.func50 kr rfl #[.agg #[.int .i64 a0_0, .int .i64 a0_1, .string a0_2]] rfl b24_ ?_; (with_reducible refine (coder_May.calls a0_0 a0_1 a0_2 true _ A2.out).mono ?_); rintro e w7 ⟨rfl, hb⟩; refine ⟨_, rfl, ?_⟩; have n0_ := Aside0.mk (blk_below (g := gb170) (o := .cells #[.int .i64 a0_0, .int .i64 a0_1, .string a0_2] 31 (0, 0)) b37_ hb); have n1_ := Aside0.mk (below_step b9_ hb); clear BK170; clear HB; have BK170 := n0_; have HB := n1_; clear n0_ n1_; (try clear hb); (try clear hb2); (try clear hk); (try clear hi); have hcz8_0 : w7.cell? ⟨gb170, 0, none⟩ = some (.int .i64 a0_0) := (blk_cell BK170.out 0).trans rfl; have hcz8_1 : w7.cell? ⟨gb170, 1, none⟩ = some (.int .i64 a0_1) := (blk_cell BK170.out 1).trans rfl; have hcz8_2 : w7.cell? ⟨gb170, 2, none⟩ = some (.string a0_2) := (blk_cell BK170.out 2).trans rfl; have hfz8_0 := blk_frozen BK170.out 0; have hfz8_1 := blk_frozen BK170.out 1; have hfz8_2 := blk_frozen BK170.out 2) | ((with_reducible refine gate_dst (N := 24) rfl ?_); refine Kd.R_lit (Kd.int .u8) _ 5 ?hg (N := 24) ?hd (xs := ([(a0_0 / 16777216) % 256, (a0_0 / 65536) % 256, (a0_0 / 256) % 256, (a0_0) % 256] : List Int)) (inner := [.int .u8 ((a0_0 / 16777216) % 256), .int .u8 ((a0_0 / 65536) % 256), .int .u8 ((a0_0 / 256) % 256), .int .u8 ((a0_0) % 256)]) (ok := fun _ => True) (okp := fun _ => True) ?hr ?hp (fun _ hk => hk) trivial (Below.refl _ _) (Nat.le_refl _) (by simp) ?_; (case hd => rfl); (case hg => rfl); (case hr => first | (go_simp; done) | (go_simp; rfl)); (case hp => exact (Reps.one (show Kd.M (Kd.int .u8) _ _ _ ((a0_0 / 16777216) % 256) [.int .u8 ((a0_0 / 16777216) % 256)] from rfl) (Reps.one (show Kd.M (Kd.int .u8) _ _ _ ((a0_0 / 65536) % 256) [.int .u8 ((a0_0 / 65536) % 256)] from rfl) (Reps.one (show Kd.M (Kd.int .u8) _ _ _ ((a0_0 / 256) % 256) [.int .u8 ((a0_0 / 256) % 256)] from rfl) (Reps.one (show Kd.M (Kd.int .u8) _ _ _ ((a0_0) % 256) [.int .u8 ((a0_0) % 256)] from rfl) (Reps.none _ _)))))); intro v173 w9 ho10 hb hg_ hnew_; clear hg_ hnew_; (first | rw [← Ny172.out] at ho10 | (simp only [Int.reduceToNat] at ho10; rw [← Ny172.out] at ho10)); have n0_ := Aside0.mk (Kd.R_lower ho10 (below_size b9_)); have n1_ := Aside0.mk (blk_below (g := gb170) (o := .cells #[.int .i64 a0_0, .int .i64 a0_1, .string a0_2] 31 (0, 0)) b37_ hb); have n2_ := Aside0.mk (below_step b9_ hb); clear BK170; clear HB; have HO174 := n0_; have BK170 := n1_; have HB := n2_; clear n0_ n1_ n2_; clear hb ho10; have hcv11 := own_string (P := Tryz.prog) Tryz.underlying96 Tryz.underlying5 Tryz.underlying9 (Kd.own_of_R HO174.out)))
   go_ret2
   exact ⟨b60_, by repeat (first | (with_reducible first | exact HB.out | apply below_alloc | apply pw_below_drewN | apply below_drew1 | refine below_set ?_ GE170.out) | exact HB.out)⟩
  ·rw [if_neg c4] at H
   exact absurd H (by simp)
 ·replace c3 := Bool.eq_false_iff.mpr c3
  subst c3
  have H1 : (some ((⟨#[]⟩ : ByteArray), 400)) = some (r1, r2) := by rw [if_neg (show ¬ (false = true) by decide)] at H; exact H
  clear H
  have H := H1
  clear H1
  simp only [Option.some.injEq, Prod.mk.injEq] at H
  obtain ⟨rfl, rfl⟩ := H
  go_enter Tryz.func17, Tryz.ntmps17
  go_wp2_with (first | ((with_reducible refine gate_dst (N := 1) rfl ?_); refine box_event ?hg (N := 1) ?hd (cs := #[.int .i64 a0_0, .int .i64 a0_1, .string a0_2]) (t := 31) ?hr ?_; (case hd => rfl); (case hg => rfl); (case hr => first | (go_simp; done) | (go_simp; rfl)); intro gb170 hg w12 hbox hb; have n0_ := Aside0.mk (below_step b28_ hb); have n1_ := Aside0.mk (hbox); have n2_ := Aside0.mk ((by rw [hg]; exact (below_size b28_) : w.heap.size ≤ gb170)); have n3_ := Aside0.mk ((by rw [hg]; exact (below_size b28_) : w.heap.size ≤ gb170)); clear HB; have HB := n0_; have BK170 := n1_; have GW170 := n2_; have GE170 := n3_; clear n0_ n1_ n2_ n3_; clear hb hbox hg; have hcz13_0 : w12.cell? ⟨gb170, 0, none⟩ = some (.int .i64 a0_0) := (blk_cell BK170.out 0).trans rfl; have hcz13_1 : w12.cell? ⟨gb170, 1, none⟩ = some (.int .i64 a0_1) := (blk_cell BK170.out 1).trans rfl; have hcz13_2 : w12.cell? ⟨gb170, 2, none⟩ = some (.string a0_2) := (blk_cell BK170.out 2).trans rfl; have hfz13_0 := blk_frozen BK170.out 0; have hfz13_1 := blk_frozen BK170.out 1; have hfz13_2 := blk_frozen BK170.out 2) | ((with_reducible refine gate_callee (f := 50) rfl ?_); refine goesL_ (some 5) rfl rfl Tryz.func50 kr rfl #[.agg #[.int .i64 a0_0, .int .i64 a0_1, .string a0_2]] rfl b24_ ?_; (with_reducible refine (coder_May.calls a0_0 a0_1 a0_2 false _ A2.out).mono ?_); rintro e w14 ⟨rfl, hb⟩; refine ⟨_, rfl, ?_⟩; have n0_ := Aside0.mk (blk_below (g := gb170) (o := .cells #[.int .i64 a0_0, .int .i64 a0_1, .string a0_2] 31 (0, 0)) b37_ hb); have n1_ := Aside0.mk (below_step b9_ hb); clear BK170; clear HB; have BK170 := n0_; have HB := n1_; clear n0_ n1_; (try clear hb); (try clear hb2); (try clear hk); (try clear hi)))
  go_ret2
  exact ⟨b60_, by repeat (first | (with_reducible first | exact HB.out | apply below_alloc | apply pw_below_drewN | apply below_drew1 | refine below_set ?_ GE170.out) | exact HB.out)⟩
def residual_Put.f (l0 : List Int) : Option (ByteArray × Int) := if l0.length ≤ 17592186044416 then some (PB.residF l0) else none
theorem residual_Put.calls (A0 : Option Addr) (c0 : Nat) (l0 : List Int) (r1 : ByteArray) (r2 : Int) (w : World) (hr0 : Kd.C (Kd.int .i64) w A0 l0.length l0) (hc0 : l0.length ≤ c0) (h : residual_Put.f l0 = some (r1, r2)) (hv_ : Extra.Laid w := by repeat (first | assumption | exact Extra.Laid.aside (by assumption) (by assumption) | apply Extra.Laid.alloc_ | apply Extra.Laid.drewN_ | apply Extra.Laid.drew_)) :
  Calls Tryz.prog 32 #[.slice A0 l0.length c0] w fun e w' => e = .returned (.tuple #[.string r1, .int .i64 r2]) ∧ Below w.heap.size w w' := by
 unfold residual_Put.f at h
 split at h
 · rename_i hc
   have e : PB.residF l0 = (r1, r2) := Option.some.inj h
   have h2 := PB.resid_c A0 c0 l0 w hv_ hc hr0
   rw [e] at h2
   exact h2
 · cases h
def segment_wasted.f (l0 : List (List Int)) : Option Int := if l0.length ≤ 17592186044416 ∧ l0.all (fun xs => decide (xs.length ≤ 17592186044416)) = true then some (PW.wasteF l0) else none
theorem segment_wasted.calls (A0 : Option Addr) (c0 : Nat) (l0 : List (List Int)) (r : Int) (w : World) (hr0 : Kd.C (Kd.slice 3 (Kd.int .i64)) w A0 l0.length l0) (hc0 : l0.length ≤ c0) (h : segment_wasted.f l0 = some r) (hv_ : Extra.Laid w := by repeat (first | assumption | exact Extra.Laid.aside (by assumption) (by assumption) | apply Extra.Laid.alloc_ | apply Extra.Laid.drewN_ | apply Extra.Laid.drew_)) :
  Calls Tryz.prog 127 #[.slice A0 l0.length c0] w fun e w' => e = .returned (.int .i64 r) ∧ Below w.heap.size w w' := by
 unfold segment_wasted.f at h
 split at h
 · rename_i hc
   obtain rfl := Option.some.inj h
   exact PW.waste_c A0 c0 l0 w hv_ hc.1 (fun xs hx => of_decide_eq_true (List.all_eq_true.1 hc.2 xs hx)) hr0
 · cases h
end Go.Proofs.YtnoibcdojfnicaaGreatDoor.PG
namespace Go.Proofs.YtnoibcdojfnicaaGreatDoor.PG
open Go.Proofs.YtnoibcdojfnicaaGreatDoorW.Short
open Bool renaming true → Y, false → J
open Go Go.RowKit Go.Proofs.YtnoibcdojfnicaaGreatDoorW.PrintWords Go.Proofs.YtnoibcdojfnicaaGreatDoorW.PrintMore Go.Proofs.YtnoibcdojfnicaaGreatDoorW.PrintLast
open Go.Proofs.YtnoibcdojfnicaaGreatDoor.PS (mayL allS inS)
def chg (kk w : Int) (r a : Int) : Int := wrap64 (r + wrap64 (wrap64 (kk * w) * a))
theorem set_step (f : Int → Int → Int) (cur a : List Int) (j : Nat) (h1 : j < cur.length) (h2 : j < a.length) : (cur.set j (f (rd cur j) (rd a j))).take (j + 1) ++ List.zipWith f ((cur.set j (f (rd cur j) (rd a j))).drop (j + 1)) (a.drop (j + 1)) = cur.take j ++ List.zipWith f (cur.drop j) (a.drop j) := by
 have e1 : rd cur (j : Int) = cur[j] := by simp [rd, h1]
 have e2 : rd a (j : Int) = a[j] := by simp [rd, h2]
 rw [e1, e2, List.drop_eq_getElem_cons h1, List.drop_eq_getElem_cons h2, List.zipWith_cons_cons, List.drop_set_of_lt (by omega), List.take_set, List.take_succ_eq_append_getElem h1, List.set_append_right _ _ (by rw [List.length_take]; omega)]
 simp [Nat.min_eq_left (Nat.le_of_lt h1)]
theorem l1_all (x0 : List (List Int)) (w kk : Int) (out : List (List Int)) (rows : List (List Int)) (n i : Int) (h0 : 0 < x0.length) (ho : out.length < 100) (d : Nat) : ∀ (k j : Nat) (cur : List Int), cur.length ≤ (rd_L1 x0 0).length → cur.length ≤ 17592186044416 → j + d = cur.length → side_turn.l1 (k + d + 1) x0 w out kk cur rows n i cur.length j = side_turn.l0 k x0 w (out ++ [cur.take j ++ List.zipWith (chg kk w) (cur.drop j) ((rd_L1 x0 0).drop j)]) rows n (wrap64 (i + 1)) := by
 induction d with
 | zero =>
  intro k j cur hl hb hj
  simp only [side_turn.l1]
  rw [if_neg (by omega), if_pos (by omega)]
  have : j = cur.length := by omega
  subst this
  simp
 | succ d ih =>
  intro k j cur hl hb hj
  obtain ⟨m, hm⟩ : ∃ m, m = k + d + 1 := ⟨_, rfl⟩
  rw [show k + (d + 1) + 1 = m + 1 by omega]
  simp only [side_turn.l1]
  rw [hm, if_pos (by omega), if_pos (by omega), if_pos (by omega), if_pos (by omega), if_pos (by omega), Num.w64 (n := (j : Int) + 1) (by omega) (by omega)]
  have := ih k (j + 1) (cur.set j (chg kk w (rd cur j) (rd (rd_L1 x0 0) j))) (by simpa using hl) (by simpa using hb) (by rw [List.length_set]; omega)
  rw [List.length_set, set_step (chg kk w) cur (rd_L1 x0 0) j (by omega) (by omega), show ((j + 1 : Nat) : Int) = (j : Int) + 1 by omega] at this
  exact this
theorem chg_zero {w r a : Int} (h : inS r = true) : chg 0 w r a = r := by
 have h := of_decide_eq_true h
 unfold chg
 rw [Int.zero_mul, Num.w64 (n := 0) (by omega) (by omega), Int.zero_mul, Num.w64 (n := 0) (by omega) (by omega), Int.add_zero, Num.w64 (by omega) (by omega)]
theorem zip_zero {w : Int} : ∀ (x : List Int), allS x = true → List.zipWith (chg 0 w) x x = x
 | [], _ => rfl
 | r :: x, h => by
  have h2 : inS r = true ∧ allS x = true := by simpa [allS] using h
  rw [List.zipWith_cons_cons, chg_zero h2.1, zip_zero x h2.2]
theorem may_ok {chs : List (List Int)} (h1 : chs.length ≤ 17592186044416) (h2 : ∀ xs ∈ chs, xs.length ≤ 17592186044416) : side_May.f chs = some (mayL chs) := by
 unfold side_May.f
 rw [if_pos ⟨by omega, List.all_eq_true.2 (fun xs hx => decide_eq_true (h2 xs hx))⟩]
theorem clone_ok {x : List Int} (h : x.length ≤ 17592186044416) : slices_Clone_int_int.f x = some x := by
 unfold slices_Clone_int_int.f; rw [if_pos h]
theorem turn_no {chs : List (List Int)} (k : Nat) (w : Int) (h1 : chs.length ≤ 17592186044416) (h2 : ∀ xs ∈ chs, xs.length ≤ 17592186044416) (h : mayL chs = false) : side_turn.f k chs w = some ([], 1700) := by
 unfold side_turn.f; rw [may_ok h1 h2, h]; rfl
def turnO (chs : List (List Int)) (w : Int) : List (List Int) × Int :=
 if mayL chs = true then
  match chs with
  | [x, y] => if mayL [x, List.zipWith (chg 1 w) y x] = true then ([x, List.zipWith (chg 1 w) y x], 0) else ([], 1700)
  | _ => (chs, 0)
 else ([], 1700)
theorem turn_one (x : List Int) (w : Int) (hm : mayL [x] = true) (hb : x.length ≤ 17592186044416) (k : Nat) : side_turn.f (k + x.length + 8) [x] w = some ([x], 0) := by
 have ha : allS x = true := by simpa [mayL] using hm
 have hk := may_ok (chs := [x]) (by simp) (by simpa using hb)
 unfold side_turn.f
 rw [hk, hm, Option.bind_some, if_pos rfl, show k + x.length + 8 = (k + x.length + 7) + 1 by omega]
 simp only [side_turn.l0]
 rw [if_pos (by simp), if_pos (by decide), if_pos (by simp), show rd_L1 [x] 0 = x from rfl, clone_ok hb, Option.bind_some]
 have h := l1_all [x] w 0 [] [x] (([x] : List (List Int)).length : Int) 0 (by simp) (by simp) x.length (k + 6) 0 x (by rw [show rd_L1 [x] 0 = x from rfl]; omega) hb (by omega)
 rw [show k + 6 + x.length + 1 = k + x.length + 7 by omega] at h
 rw [show ((0 : Nat) : Int) = 0 from rfl] at h
 rw [h]
 rw [show rd_L1 [x] 0 = x from rfl, List.take_zero, List.drop_zero, List.nil_append, zip_zero x ha, show wrap64 (0 + 1) = 1 from by decide +kernel, List.nil_append, show k + 6 = (k + 5) + 1 by omega]
 simp only [side_turn.l0]
 rw [if_neg (by simp), hk, hm, Option.bind_some, if_pos rfl]
theorem turn_two (x y : List Int) (w : Int) (hm : mayL [x, y] = true) (hb : x.length ≤ 17592186044416) (k : Nat) : side_turn.f (k + x.length + x.length + 12) [x, y] w = some (if mayL [x, List.zipWith (chg 1 w) y x] = true then ([x, List.zipWith (chg 1 w) y x], 0) else ([], 1700)) := by
 have ha : (allS x = true ∧ y.length = x.length) ∧ allS y = true := by
  simp [mayL] at hm
  exact ⟨⟨hm.1, hm.2.1⟩, hm.2.2⟩
 obtain ⟨⟨a1, a2⟩, a3⟩ := ha
 have hk := may_ok (chs := [x, y]) (by simp) (by intro z hz; simp at hz; rcases hz with rfl | rfl <;> omega)
 have hk2 := may_ok (chs := [x, List.zipWith (chg 1 w) y x]) (by simp) (by intro z hz; simp at hz; rcases hz with rfl | rfl <;> (try rw [List.length_zipWith]) <;> omega)
 unfold side_turn.f
 rw [hk, hm, Option.bind_some, if_pos rfl, show k + x.length + x.length + 12 = (k + x.length + x.length + 11) + 1 by omega]
 simp only [side_turn.l0]
 rw [if_pos (by simp), if_pos (by decide), if_pos (by simp), show rd_L1 [x, y] 0 = x from rfl, clone_ok hb, Option.bind_some]
 have h := l1_all [x, y] w 0 [] [x, y] (([x, y] : List (List Int)).length : Int) 0 (by simp) (by simp) x.length (k + x.length + 10) 0 x (by rw [show rd_L1 [x, y] 0 = x from rfl]; omega) hb (by omega)
 rw [show k + x.length + 10 + x.length + 1 = k + x.length + x.length + 11 by omega] at h
 rw [show ((0 : Nat) : Int) = 0 from rfl] at h
 rw [h]
 rw [show rd_L1 [x, y] 0 = x from rfl, List.take_zero, List.drop_zero, List.nil_append, zip_zero x a1, show wrap64 (0 + 1) = 1 from by decide +kernel, List.nil_append, show k + x.length + 10 = (k + x.length + 9) + 1 by omega]
 simp only [side_turn.l0]
 rw [if_pos (by simp), if_pos (by decide), if_pos (by simp), show rd_L1 [x, y] 1 = y from rfl, clone_ok (by omega), Option.bind_some]
 have h2 := l1_all [x, y] w 1 [x] [x, y] (([x, y] : List (List Int)).length : Int) 1 (by simp) (by simp) y.length (k + 8) 0 y (by rw [show rd_L1 [x, y] 0 = x from rfl]; omega) (by omega) (by omega)
 rw [show k + 8 + y.length + 1 = k + x.length + 9 by omega] at h2
 rw [show ((0 : Nat) : Int) = 0 from rfl] at h2
 rw [h2]
 rw [show rd_L1 [x, y] 0 = x from rfl, List.take_zero, List.drop_zero, List.nil_append, List.drop_zero, show wrap64 (1 + 1) = 2 from by decide +kernel, show k + 8 = (k + 7) + 1 by omega]
 simp only [side_turn.l0]
 rw [if_neg (by simp), List.singleton_append, hk2, Option.bind_some]
 split <;> rfl
theorem turn_is (chs : List (List Int)) (w : Int) (h1 : chs.length ≤ 17592186044416) (h2 : ∀ xs ∈ chs, xs.length ≤ 17592186044416) (m : Nat) (hm : ∀ xs ∈ chs, xs.length ≤ m) (k : Nat) : side_turn.f (k + m + m + 12) chs w = some (turnO chs w) := by
 unfold turnO
 by_cases hy : mayL chs = true
 ·rw [if_pos hy]
  rcases chs with _ | ⟨x, _ | ⟨y, _ | ⟨z, t⟩⟩⟩
  ·exact absurd hy (by decide)
  ·have := hm x (by simp)
   rw [show k + m + m + 12 = (k + (m - x.length) + m + 4) + x.length + 8 by omega, turn_one x w hy (h2 x (by simp))]
  ·have := hm x (by simp)
   rw [show k + m + m + 12 = (k + (m - x.length) + (m - x.length)) + x.length + x.length + 12 by omega, turn_two x y w hy (h2 x (by simp))]
  ·exact absurd hy (by simp [mayL])
 ·rw [if_neg hy, turn_no _ w h1 h2 (Bool.eq_false_iff.2 hy)]
theorem put_is (chs : List (List Int)) (h1 : chs.length ≤ 17592186044416) (h2 : ∀ xs ∈ chs, xs.length ≤ 17592186044416) (m : Nat) (hm : ∀ xs ∈ chs, xs.length ≤ m) (k : Nat) : side_Put.f (k + m + m + 12) chs = some (turnO chs (-1)) := by
 unfold side_Put.f; rw [turn_is chs (-1) h1 h2 m hm k]; rfl
end Go.Proofs.YtnoibcdojfnicaaGreatDoor.PG
