/- A part of the proof of a law of descanttop: this session's own texts and printed texts, shortened and joined. -/
import Derived.Test.YtnoibcdojfnicaaGreatDoorE24
set_option linter.unusedVariables false
set_option linter.unusedSimpArgs false
set_option maxRecDepth 100000
set_option maxHeartbeats 16000000
namespace Go.Proofs.YtnoibcdojfnicaaGreatDoor.PG
open Go.Proofs.YtnoibcdojfnicaaGreatDoorW.Short
open Bool renaming true → Y, false → J
open Go.RowKit Go.Proofs.YtnoibcdojfnicaaGreatDoorW.PrintWords Go.Proofs.YtnoibcdojfnicaaGreatDoorW.PrintLast Go.Proofs.YtnoibcdojfnicaaGreatDoorW.PrintMore
attribute [local go_sem] max2_int min2_int max_two min_two max_three min_three max_four min_four
mutual
def segment_sound_coded.l0 : Nat → List (List Int) → Int → Int → Int → Option (ByteArray × Int × Bool)
 | 0, _, _, _, _ => none
 | k + 1, x5, x7, x28, x29 => if x29 < x28 then (if 0 ≤ x29 then (if x29 < (x5.length : Int) then ((shift_Down.f (rd_L1 x5 x29) x7).bind fun bt185 => (segment_sound_coded.l0 k (x5.set (x29 : Int).toNat bt185.1) x7 x28 (wrap64 (x29 + 1)))) else (none)) else (none)) else ((side_Put.f k x5).bind fun bt190 => (segment_sound_coded.l1 k x7 bt190.2 ([] : List Int) bt190.1 (bt190.1.length : Int) 0))
def segment_sound_coded.l1 : Nat → Int → Int → List Int → List (List Int) → Int → Int → Option (ByteArray × Int × Bool)
 | 0, _, _, _, _, _, _ => none
 | k + 1, x7, x9, x10, x50, x51, x52 => if x52 < x51 then (if 0 ≤ x52 then (if x52 < (x50.length : Int) then ((line_Put.f (rd_L1 x50 x52)).bind fun bt195 => (if x10.length + bt195.1.length < 17592186044416 then (segment_sound_coded.l1 k x7 (mx x9 bt195.2) (x10 ++ bt195.1) x50 x51 (wrap64 (x52 + 1))) else (none))) else (none)) else (none)) else ((residual_Put.f x10).bind fun bt202 => (if x9 = 0 then (some (bt202.1, x7, (bt202.2 == 0))) else (some (bt202.1, x7, false))))
end
def segment_sound_coded.f (k : Nat) (a0_0 : ByteArray) (a0_1 : Int) (a0_2 : Int) : Option (ByteArray × Int × Bool) := (pcm_Get.f k a0_0 a0_1 a0_2).bind fun bt179 => ((segment_wasted.f bt179.1).bind fun t183 => (segment_sound_coded.l0 k bt179.1 t183 (bt179.1.length : Int) 0))
theorem segment_sound_coded.calls (k : Nat) (a0_0 : ByteArray) (a0_1 : Int) (a0_2 : Int) (r1 : ByteArray) (r2 : Int) (r3 : Bool) (w : World) (h : segment_sound_coded.f k a0_0 a0_1 a0_2 = some (r1, r2, r3)) (hv_ : Extra.Laid w := by repeat (first | assumption | exact Extra.Laid.aside (by assumption) (by assumption) | apply Extra.Laid.alloc_ | apply Extra.Laid.drewN_ | apply Extra.Laid.drew_)) :
  Calls Tryz.prog 80 #[.agg #[.string a0_0, .int .i64 a0_1, .int .i64 a0_2]] w fun e w' => e = .returned (.tuple #[.string r1, .int .i64 r2, .bool r3]) ∧ Below w.heap.size w w' := by
 have hu133 := Tryz.underlying133
 have hu69 := Tryz.underlying69
 have HB := Aside0.mk (Below.refl w.heap.size w)
 have H : ((pcm_Get.f k a0_0 a0_1 a0_2).bind fun bt179 => ((segment_wasted.f bt179.1).bind fun t183 => (segment_sound_coded.l0 k bt179.1 t183 (bt179.1.length : Int) 0))) = some (r1, r2, r3) := h
 clear h
 replace H := Option.bind_eq_some_iff.mp H
 obtain ⟨⟨t179, t182⟩, A20, H⟩ := H
 replace H : ((segment_wasted.f t179).bind fun t183 => (segment_sound_coded.l0 k t179 t183 (t179.length : Int) 0)) = some (r1, r2, r3) := H
 have A2 := Aside0.mk A20
 clear A20
 replace H := Option.bind_eq_some_iff.mp H
 obtain ⟨t183, A30, H⟩ := H
 replace H : (segment_sound_coded.l0 k t179 t183 (t179.length : Int) 0) = some (r1, r2, r3) := H
 have A3 := Aside0.mk A30
 clear A30
 have H' := Aside0.mk H
 clear H
 go_enter Tryz.func80, Tryz.ntmps80
 go_wp2_with (first | ((with_reducible refine gate_dst (N := 1) rfl ?_); refine box_event ?hg (N := 1) ?hd (cs := #[.string a0_0, .int .i64 a0_1, .int .i64 a0_2]) (t := 133) ?hr ?_; (case hd => rfl); (case hg => rfl); (case hr => first | (go_simp; done) | (go_simp; rfl)); intro gb178 hg w4 hbox hb; have n0_ := Aside0.mk (below_step b28_ hb); have n1_ := Aside0.mk (hbox); have n2_ := Aside0.mk ((by rw [hg]; exact (below_size b28_) : w.heap.size ≤ gb178)); have n3_ := Aside0.mk ((by rw [hg]; exact (below_size b28_) : w.heap.size ≤ gb178)); clear HB; have HB := n0_; have BK178 := n1_; have GW178 := n2_; have GE178 := n3_; clear n0_ n1_ n2_ n3_; clear hb hbox hg; have hcz5_0 : w4.cell? ⟨gb178, 0, none⟩ = some (.string a0_0) := (blk_cell BK178.out 0).trans rfl; have hcz5_1 : w4.cell? ⟨gb178, 1, none⟩ = some (.int .i64 a0_1) := (blk_cell BK178.out 1).trans rfl; have hcz5_2 : w4.cell? ⟨gb178, 2, none⟩ = some (.int .i64 a0_2) := (blk_cell BK178.out 2).trans rfl; have hfz5_0 := blk_frozen BK178.out 0; have hfz5_1 := blk_frozen BK178.out 1; have hfz5_2 := blk_frozen BK178.out 2) | ((with_reducible refine gate_callee (f := 29) rfl ?_); refine goesL_ (some 22) rfl rfl Tryz.func29 kr rfl #[.string a0_0, .agg #[.int .i64 a0_1, .int .i64 a0_2]] rfl b24_ ?_; (with_reducible refine (pcm_Get.calls k a0_0 a0_1 a0_2 t179 t182 _ A2.out).mono ?_); rintro e w6 ⟨v180, rfl, ho0, hb⟩; refine ⟨_, rfl, ?_⟩; have n0_ := Aside0.mk (Kd.S_lower ho0 (below_size b10_)); have n1_ := Aside0.mk (blk_below (g := gb178) (o := .cells #[.string a0_0, .int .i64 a0_1, .int .i64 a0_2] 133 (0, 0)) b38_ hb); have n2_ := Aside0.mk (below_step b10_ hb); clear BK178; clear HB; have HO181 := n0_; have BK178 := n1_; have HB := n2_; clear n0_ n1_ n2_; (try clear hb); (try clear hb2); (try clear hk); (try clear hi); (try clear ho0); obtain ⟨Ao7, co7, eo7⟩ := Kd.S_slice HO181.out; subst eo7) | ((with_reducible refine gate_callee (f := 127) rfl ?_); refine goesL_ (some 26) rfl rfl Tryz.func127 kr rfl #[.slice Ao7 t179.length co7] rfl b24_ ?_; (with_reducible refine (segment_wasted.calls _ _ t179 t183 _ ?side1 ?side2 A3.out).mono ?_); (case side1 => repeat (first | exact (Kd.S_reads' HO181.out).2.2 | (with_reducible refine Kd.C_alloc ?_ _) | (with_reducible refine Kd.C_drewN ?_ _) | (with_reducible refine Kd.C_drew ?_))); (case side2 => exact (Kd.S_reads' HO181.out).2.1); rintro e w8 ⟨rfl, hb⟩; refine ⟨_, rfl, ?_⟩; have n0_ := Aside0.mk (Kd.S_below (by (with_reducible repeat (first | apply Kd.S_alloc | apply Kd.S_drewN | apply Kd.S_drew)); exact HO181.out) hb); have n1_ := Aside0.mk (blk_below (g := gb178) (o := .cells #[.string a0_0, .int .i64 a0_1, .int .i64 a0_2] 133 (0, 0)) b38_ hb); have n2_ := Aside0.mk (below_step b10_ hb); clear HO181; clear BK178; clear HB; have HO181 := n0_; have BK178 := n1_; have HB := n2_; clear n0_ n1_ n2_; (try clear hb); (try clear hb2); (try clear hk); (try clear hi)))
 go_loopg [29] k (fun kq v29 w' => ∃ (x5_1 : List (List Int)) (x29_1 : Int), v29 = .int .i64 x29_1 ∧ Aside0 (segment_sound_coded.l0 kq x5_1 t183 (t179.length : Int) x29_1 = some (r1, r2, r3)) ∧ Aside0 (kq ≤ k) ∧ Aside0 (Kd.S (Kd.slice 3 (Kd.int .i64)) 22 w' w.heap.size (fun _ => True) (.slice Ao7 t179.length co7) x5_1) ∧ Aside0 (w'.heap[gb178]? = some (.cells #[.string a0_0, .int .i64 a0_1, .int .i64 a0_2] 133 (0, 0))) ∧ Aside0 (Below w.heap.size w w'))
 case atStart => exact ⟨(t179), (0), b75_, H', ⟨Nat.le_refl _⟩, ⟨by (with_reducible repeat (first | apply Kd.S_alloc | apply Kd.S_drewN | apply Kd.S_drew)); exact HO181.out⟩, ⟨by (with_reducible repeat (first | refine blk_drewN ?_ _ | refine blk_drew ?_ | refine blk_alloc ?_ _)); exact BK178.out⟩, ⟨b19_⟩⟩
 case round =>
  clear H'
  try clear c1
  try clear c2
  try clear p2
  try clear c8
  try clear hcz5_0
  try clear hcz5_1
  try clear hcz5_2
  try clear hfz5_0
  try clear hfz5_1
  try clear hfz5_2
  obtain ⟨x5_1, x29_1, rfl, HA, HK1, HO_5, BK178, HB⟩ := hrel
  have hl5_1 := (Kd.S_reads' HO_5.out).1
  rw [hl5_1] at HO_5
  (try simp only [hl5_1])
  (try simp only [hl5_1] at BK178)
  cases gk with
  | zero => exact absurd HA.out (by simp [segment_sound_coded.l0])
  | succ k1 =>
   have H := HA.out
   clear HA
   simp only [segment_sound_coded.l0] at H
   by_cases c9 : x29_1 < (t179.length : Int)
   ·rw [if_pos c9] at H
    have c9b0 : decide (x29_1 < (t179.length : Int)) = true := decide_eq_true c9
    (try (have c9b0h := c9b0; simp only [hl5_1] at c9b0h))
    clear c9
    by_cases c10 : 0 ≤ x29_1
    ·rw [if_pos c10] at H
     have c10b0 : decide (0 ≤ x29_1) = true := decide_eq_true c10
     clear c10
     by_cases c11 : x29_1 < (x5_1.length : Int)
     ·rw [if_pos c11] at H
      have c11b0 : decide (x29_1 < (x5_1.length : Int)) = true := decide_eq_true c11
      (try (have c11b0h := c11b0; simp only [hl5_1] at c11b0h))
      clear c11
      replace H := Option.bind_eq_some_iff.mp H
      obtain ⟨⟨t185, t186⟩, A120, H⟩ := H
      replace H : (segment_sound_coded.l0 k1 (x5_1.set (x29_1 : Int).toNat t185) t183 (t179.length : Int) (wrap64 (x29_1 + 1))) = some (r1, r2, r3) := H
      have A12 := Aside0.mk A120
      clear A120
      obtain ⟨y189, hy189⟩ : ∃ y_ : List (List Int), y_ = (x5_1.set (x29_1 : Int).toNat t185) := ⟨_, rfl⟩
      replace H : (segment_sound_coded.l0 k1 y189 t183 (t179.length : Int) (wrap64 (x29_1 + 1))) = some (r1, r2, r3) := by first | (rw [hy189]; with_reducible exact H) | (have H2_ := (Option.bind_some _ _).symm.trans H; rw [hy189]; with_reducible exact H2_) | (have H2_ := (Option.bind_some _ _).symm.trans H; with_reducible exact H2_) | with_reducible exact H | (rw [hy189]; exact H) | exact H
      have Ny189 := Aside0.mk hy189
      clear hy189
      have H' := Aside0.mk H
      clear H
      have p184 : 0 ≤ (x29_1 : Int) := of_decide_eq_true b73_
      have q184 : x29_1 < (x5_1.length : Int) := of_decide_eq_true b73_
      obtain ⟨ad184, A184_0, c184_0, e184, hx184_0, hl184_0, hi184_0⟩ := at_L1 (Kd.S_reads' HO_5.out).2.2 x29_1 p184 q184
      cases e184
      obtain ⟨ce184, hce184, hMe184, hcc184⟩ := Kd.S_get HO_5.out [] x29_1 p184 (by first | exact q184 | exact of_decide_eq_true b73_ | (have e_ := (Kd.S_reads' HO_5.out).1; omega))
      obtain ⟨ve184_0, rfl, ge184_0⟩ := hMe184
      have hv184_0 := hcc184 0 _ rfl
      rw [Nat.add_zero, show ((Kd.slice 3 (Kd.int .i64))).sz = 1 from rfl, Nat.mul_one] at hv184_0
      replace hv184_0 := Option.some.inj (hv184_0.symm.trans hx184_0)
      rw [hv184_0] at ge184_0
      have HL184_0 := Aside0.mk (show Kd.R (Kd.int .i64) 3 _ _ _ _ (rd_L1 x5_1 x29_1) from ge184_0)
      clear hv184_0 ge184_0
      (try clear hcc184); (try clear hce184)
      have HR184_0 := Aside0.mk hi184_0
      have HC184_0 := Aside0.mk hl184_0
      clear hi184_0 hl184_0
      replace p184 := eq_true p184
      replace q184 := eq_true q184
      go_wp2_with (first | ((with_reducible refine gate_callee (f := 30) rfl ?_); refine goesL_ (some 40) rfl rfl Tryz.func30 kr rfl #[.slice A184_0 (rd_L1 x5_1 x29_1).length c184_0, .int .i64 t183] rfl b24_ ?_; (with_reducible refine (shift_Down.calls _ _ (rd_L1 x5_1 x29_1) t183 t185 t186 _ ?side1 ?side2 A12.out).mono ?_); (case side1 => repeat (first | exact (by repeat (first | (with_reducible exact HR184_0.out) | (with_reducible refine Kd.C_alloc ?_ _) | (with_reducible refine Kd.C_drewN ?_ _) | (with_reducible refine Kd.C_drew ?_) | exact HR184_0.out)) | (with_reducible refine Kd.C_alloc ?_ _) | (with_reducible refine Kd.C_drewN ?_ _) | (with_reducible refine Kd.C_drew ?_))); (case side2 => exact HC184_0.out); rintro e w14 ⟨v187, rfl, ho0, hb⟩; refine ⟨_, rfl, ?_⟩; obtain ⟨q1_, q2_, q3_⟩ := Kd.R_slice ho0; have n0_ := Aside0.mk (Kd.S_elder' b53_ (Kd.R_base ho0) hb); have n1_ := Aside0.mk (Kd.R_elder' (by (with_reducible repeat (first | apply Kd.R_alloc | apply Kd.R_drewN | apply Kd.R_drew)); exact HL184_0.out) (Kd.R_base ho0) hb); have n2_ := Aside0.mk (Kd.R_lower (Kd.R_new' ho0 (Kd.R_lt (by (with_reducible repeat (first | apply Kd.R_alloc | apply Kd.R_drewN | apply Kd.R_drew)); exact HL184_0.out))) (below_size b10_)); have n3_ := Aside0.mk (blk_below (g := gb178) (o := .cells #[.string a0_0, .int .i64 a0_1, .int .i64 a0_2] 133 (0, 0)) b38_ hb); have n4_ := Aside0.mk (Kd.C_below (by repeat (first | (with_reducible exact HR184_0.out) | (with_reducible refine Kd.C_alloc ?_ _) | (with_reducible refine Kd.C_drewN ?_ _) | (with_reducible refine Kd.C_drew ?_) | exact HR184_0.out)) hb); have n5_ := Aside0.mk (below_step b10_ hb); clear HO_5; clear HL184_0; clear BK178; clear HR184_0; clear HB; have HO_5 := n0_; have HL184_0 := n1_; have HO188 := n2_; have BK178 := n3_; have HR184_0 := n4_; have HB := n5_; clear n0_ n1_ n2_ n3_ n4_ n5_; (try clear hb); (try clear hb2); (try clear hk); (try clear hi); (try clear ho0); have p13 : 0 ≤ (x29_1 : Int) := of_decide_eq_true b73_; have q13 : (x29_1 : Int) < ((x5_1.length : Int) : Int) := of_decide_eq_true b73_; obtain ⟨go13, co13, eo13, gb13, gl13, cl13, HG13⟩ := Kd.S_form HO_5.out (by omega); (first | cases eo13 | (injection eo13 with ea_ en_ ec_; (first | subst ea_ | (injection ea_ with ea_; subst ea_)); subst ec_; clear en_)); have GB13 := Aside0.mk gb13; have GG13 := Aside0.mk HG13; clear gb13 gl13 HG13; (first | simp only [add_plain] at hx184_0 | skip); obtain ⟨_, ce13, hcl13, hM13, hcc13, hfr13, _, _⟩ := Kd.S_elem HO_5.out [] (x29_1 : Int) p13 q13; obtain ⟨ve13_0, rfl, ge13_0⟩ := hM13; have hx13_0 := hcc13 0 _ rfl; have hf13_0 := hfr13 0; (try simp only [show ((Kd.slice 3 (Kd.int .i64))).sz = 1 from rfl, Nat.mul_one, Nat.add_zero] at hx13_0); (try simp only [show ((Kd.slice 3 (Kd.int .i64))).sz = 1 from rfl, Nat.mul_one, Nat.add_zero] at hf13_0); (try clear hcl13); (try clear hcc13); (try clear hfr13); (try clear hM13); replace p13 := eq_true p13; replace q13 := eq_true q13; have n_ := Aside0.mk (Kd.S_mono (ok' := (fun k_ => some k_ ≠ (v187 : Value).ownBlock)) HO_5.out (fun k_ hk => hk.2)); clear HO_5; have HO_5 := n_; clear n_; have HX15 := Aside0.mk (show Kd.S (Kd.slice 3 (Kd.int .i64)) 22 w14 w.heap.size (fun k_ => ((fun _ => True)) k_ ∧ ¬ ((fun k_ => some k_ = (v187 : Value).ownBlock)) k_) (.slice (some ⟨go13, 0, none⟩) x5_1.length co7) x5_1 from (by (with_reducible repeat (first | apply Kd.S_alloc | apply Kd.S_drewN | apply Kd.S_drew)); exact Kd.S_mono HO_5.out (fun k_ hk => ⟨trivial, fun e_ => hk e_⟩))); obtain ⟨oki15, ce15, hcl15, hM15, hcc15, hfr15, hoki15, hH15⟩ := Kd.S_elem HX15.out [] (x29_1 : Int) (of_decide_eq_true b73_) (by have h_ : (x29_1 : Int) < ((x5_1.length : Int) : Int) := of_decide_eq_true b73_; first | exact h_ | (have e_ := (Kd.S_reads' HO_5.out).1; omega) | simpa using h_); obtain ⟨ve15_0, rfl, ge15_0⟩ := hM15; have HP15 := Kd.S_seg hH15 (of_decide_eq_true b73_) (by have h_ : (x29_1 : Int) < ((x5_1.length : Int) : Int) := of_decide_eq_true b73_; first | exact h_ | (have e_ := (Kd.S_reads' HO_5.out).1; omega) | simpa using h_) (seg := [v187]) (j := 0) (show 1 ≤ 1 from by decide) (x' := t185) (Kd.M_row (Kd.R_mono (Kd.R_tight rfl (Kd.R_mono (ok' := fun k_ => ((fun _ => True)) k_ ∧ k_ ≠ go13) (Kd.R_apart' (HO188.out) (Kd.S_typed HO_5.out) (by decide)) (fun k_ hk => ⟨trivial, fun e_ => (hk.2) (by rw [e_]; rfl)⟩))) (fun _ h_ => Or.inr (h_)))) (fun _ hk => hk) (fun k_ hk_ => ((Kd.R_mono (ok' := fun k_ => ((fun _ => True)) k_ ∧ k_ ≠ go13) (Kd.R_apart' (HO188.out) (Kd.S_typed HO_5.out) (by decide)) (fun k_ hk => ⟨trivial, fun e_ => (hk.2) (by rw [e_]; rfl)⟩))).1 k_ hk_.symm); have hx15_0 := hcc15 0 _ rfl; (try simp only [show ((Kd.slice 3 (Kd.int .i64))).sz = 1 from rfl, Nat.mul_one, Nat.add_zero] at hx15_0); have hf15_0 := hfr15 0; (try simp only [show ((Kd.slice 3 (Kd.int .i64))).sz = 1 from rfl, Nat.mul_one, Nat.add_zero] at hf15_0); (try clear hcl15); (try clear hcc15); (try clear hfr15); (try clear hM15); (try clear hoki15); (try clear hH15); (try simp only [show ((Kd.slice 3 (Kd.int .i64))).sz = 1 from rfl, Nat.mul_one, Nat.add_zero] at HP15)) | ((with_reducible refine gate_store (t := 22) (p := 43) rfl ?_); refine store_event (t := 22) (p := 43) (v := ?vo_w16) (w1 := (w14.setCell ⟨go13, (x29_1 : Int).toNat, none⟩ (v187))) ?hg ?ho ?hn ?hr ?_; (case ho => rfl); (case hg => rfl); (case hn => rfl); (case hr => first | (go_simp; done) | (go_simp; rfl)); intro w16 hw; have hg : w14.grownBy w16 (some go13) := (by rw [hw]; exact HP15.2); have hp_ : Kd.S (Kd.slice 3 (Kd.int .i64)) 22 w16 w.heap.size (fun _ => True) (.slice (some ⟨go13, 0, none⟩) x5_1.length co7) y189 := (by rw [hw, Ny189.out]; exact HP15.1); clear HP15; have n0_ := Aside0.mk (hp_); have n1_ := Aside0.mk (blk_grown (g := gb178) (o := .cells #[.string a0_0, .int .i64 a0_1, .int .i64 a0_2] 133 (0, 0)) b38_ hg (Kd.S_ne HO_5.out BK178.out (by decide))); have n2_ := Aside0.mk (Kd.R_after (v := (.slice (some ⟨go13, 0, none⟩) x5_1.length co7)) (v1 := (.slice (some ⟨go13, 0, none⟩) x5_1.length co7)) (ok := (fun k_ => some k_ ≠ (v187 : Value).ownBlock)) (by (with_reducible repeat (first | apply Kd.R_alloc | apply Kd.R_drewN | apply Kd.R_drew)); exact Kd.R_mono HL184_0.out (fun _ hk => ⟨hk.2, hk.1.2⟩)) hg (.inl rfl)); have n3_ := Aside0.mk ((by rw [hw]; exact below_set (HB.out) GB13.out : Below w.heap.size w w16)); clear HO_5; clear BK178; clear HL184_0; clear HB; clear HO188; have HO_5 := n0_; have BK178 := n1_; have HL184_0 := n2_; have HB := n3_; clear n0_ n1_ n2_ n3_; clear hg hw hp_))
      (try simp only [← hl5_1])
      go_roundg k1
      case measure => have := HK1.out; omega
      case rel => exact ⟨(y189), (wrap64 (x29_1 + 1)), b75_, H', ⟨b83_⟩, ⟨by (try simp only [hl5_1]); (with_reducible repeat (first | apply Kd.S_alloc | apply Kd.S_drewN | apply Kd.S_drew)); exact HO_5.out⟩, ⟨b23_⟩, ⟨b19_⟩⟩
     ·rw [if_neg c11] at H
      exact absurd H (by simp)
    ·rw [if_neg c10] at H
     exact absurd H (by simp)
   ·rw [if_neg c9] at H
    have c9b0 : decide (x29_1 < (t179.length : Int)) = false := decide_eq_false c9
    (try (have c9b0h := c9b0; simp only [hl5_1] at c9b0h))
    clear c9
    replace H := Option.bind_eq_some_iff.mp H
    obtain ⟨⟨t190, t191⟩, A170, H⟩ := H
    replace H : (segment_sound_coded.l1 k1 t183 t191 ([] : List Int) t190 (t190.length : Int) 0) = some (r1, r2, r3) := H
    have A17 := Aside0.mk A170
    clear A170
    have H' := Aside0.mk H
    clear H
    go_wp2_with (first | ((with_reducible refine gate_callee (f := 31) rfl ?_); refine goesL_ (some 47) rfl rfl Tryz.func31 kr rfl #[.slice Ao7 x5_1.length co7] rfl b24_ ?_; (with_reducible refine (side_Put.calls k1 _ _ x5_1 t190 t191 _ ?side1 ?side2 A17.out).mono ?_); (case side1 => repeat (first | exact (Kd.S_reads' HO_5.out).2.2 | (with_reducible refine Kd.C_alloc ?_ _) | (with_reducible refine Kd.C_drewN ?_ _) | (with_reducible refine Kd.C_drew ?_))); (case side2 => exact (Kd.S_reads' HO_5.out).2.1); rintro e w18 ⟨v192, rfl, ho0, hb⟩; refine ⟨_, rfl, ?_⟩; have n0_ := Aside0.mk (Kd.S_elder' b53_ (Kd.S_base ho0) hb); have n1_ := Aside0.mk (Kd.S_lower (Kd.S_new' ho0 (Kd.S_lt b53_)) (below_size b10_)); have n2_ := Aside0.mk (blk_below (g := gb178) (o := .cells #[.string a0_0, .int .i64 a0_1, .int .i64 a0_2] 133 (0, 0)) b38_ hb); have n3_ := Aside0.mk (below_step b10_ hb); clear HO_5; clear BK178; clear HB; have HO_5 := n0_; have HO193 := n1_; have BK178 := n2_; have HB := n3_; clear n0_ n1_ n2_ n3_; (try clear hb); (try clear hb2); (try clear hk); (try clear hi); (try clear ho0); obtain ⟨Ao19, co19, eo19⟩ := Kd.S_slice HO193.out; subst eo19))
    go_loopg [9, 10, 52] k1 (fun kq v9 v10 v52 w' => ∃ (x9_2 : Int) (x10_2 : List Int) (x52_2 : Int), v9 = .int .i64 x9_2 ∧ v52 = .int .i64 x52_2 ∧ Aside0 (segment_sound_coded.l1 kq t183 x9_2 x10_2 t190 (t190.length : Int) x52_2 = some (r1, r2, r3)) ∧ Aside0 (kq ≤ k1) ∧ Aside0 (Kd.R (Kd.int .i64) 3 w' w.heap.size (fun _ => True) v10 x10_2) ∧ Aside0 (Kd.S (Kd.slice 3 (Kd.int .i64)) 22 w' w.heap.size (fun k_ => some k_ ≠ (v10 : Value).ownBlock) (.slice Ao19 t190.length co19) t190) ∧ Aside0 (w'.heap[gb178]? = some (.cells #[.string a0_0, .int .i64 a0_1, .int .i64 a0_2] 133 (0, 0))) ∧ Aside0 (Below w.heap.size w w'))
    case atStart => exact ⟨(t191), (([] : List Int)), (0), b75_, b75_, H', ⟨Nat.le_refl _⟩, ⟨by (try simp only [hl5_1]); first | exact Kd.R_nil _ _ _ _ _ | exact Kd.N_nil _ _ _ _ _ | exact Kd.V_nil _ _ _ _ _ | exact Kd.Q_nil _ _ _ _ _ | exact Kd.S_nil _ _ _ _ _⟩, ⟨by (try simp only [hl5_1]); (with_reducible repeat (first | apply Kd.S_alloc | apply Kd.S_drewN | apply Kd.S_drew)); exact Kd.S_mono HO193.out (fun _ hk => (by simp [Value.ownBlock]))⟩, ⟨b23_⟩, ⟨b19_⟩⟩
    case round =>
     clear H'
     try clear c1
     try clear p1
     try clear q1
     try clear hx1
     try clear hf1
     try clear c2
     try clear p2
     try clear c3
     try clear p6
     try clear c8
     try clear c9
     try clear c9b0
     try clear c10
     try clear c10b0
     try clear c11
     try clear c11b0
     try clear c12
     try clear c13
     try clear p13
     try clear q13
     try clear hx13
     try clear hf13
     try clear c15
     try clear hx15
     try clear hf15
     try clear c18
     try clear p18
     try clear q18
     try clear hx18
     try clear hcz5_0
     try clear hcz5_1
     try clear hcz5_2
     try clear hfz5_0
     try clear hfz5_1
     try clear hfz5_2
     try clear hx13_0
     try clear hx15_0
     try clear hx184_0
     try clear p13
     try clear p184
     try clear p2
     try clear q13
     try clear q184
     obtain ⟨x9_2, x10_2, x52_2, rfl, rfl, HA, HK2, HO_10, HO_50, BK178, HB⟩ := hrel
     cases gk with
     | zero => exact absurd HA.out (by simp [segment_sound_coded.l1])
     | succ k2 =>
      have H := HA.out
      clear HA
      simp only [segment_sound_coded.l1] at H
      by_cases c20 : x52_2 < (t190.length : Int)
      ·rw [if_pos c20] at H
       have c20b0 : decide (x52_2 < (t190.length : Int)) = true := decide_eq_true c20
       (try (have c20b0h := c20b0; simp only [hl5_1] at c20b0h))
       clear c20
       by_cases c21 : 0 ≤ x52_2
       ·rw [if_pos c21] at H
        have c21b0 : decide (0 ≤ x52_2) = true := decide_eq_true c21
        clear c21
        by_cases c22 : x52_2 < (t190.length : Int)
        ·rw [if_pos c22] at H
         have c22b0 : decide (x52_2 < (t190.length : Int)) = true := decide_eq_true c22
         (try (have c22b0h := c22b0; simp only [hl5_1] at c22b0h))
         clear c22
         replace H := Option.bind_eq_some_iff.mp H
         obtain ⟨⟨t195, t196⟩, A230, H⟩ := H
         replace H : (if x10_2.length + t195.length < 17592186044416 then (segment_sound_coded.l1 k2 t183 (mx x9_2 t196) (x10_2 ++ t195) t190 (t190.length : Int) (wrap64 (x52_2 + 1))) else (none)) = some (r1, r2, r3) := H
         have A23 := Aside0.mk A230
         clear A230
         by_cases c24 : x10_2.length + t195.length < 17592186044416
         ·rw [if_pos c24] at H
          have LMc24 := Aside0.mk c24
          clear c24
          obtain ⟨y199, hy199⟩ : ∃ y_ : List Int, y_ = (x10_2 ++ t195) := ⟨_, rfl⟩
          replace H : (segment_sound_coded.l1 k2 t183 (mx x9_2 t196) y199 t190 (t190.length : Int) (wrap64 (x52_2 + 1))) = some (r1, r2, r3) := by first | (rw [hy199]; with_reducible exact H) | (have H2_ := (Option.bind_some _ _).symm.trans H; rw [hy199]; with_reducible exact H2_) | (have H2_ := (Option.bind_some _ _).symm.trans H; with_reducible exact H2_) | with_reducible exact H | (rw [hy199]; exact H) | exact H
          have Ny199 := Aside0.mk hy199
          clear hy199
          obtain ⟨ji25, hji25⟩ : ∃ j_ : Int, (mx x9_2 t196) = j_ := ⟨_, rfl⟩
          replace H : (segment_sound_coded.l1 k2 t183 ji25 y199 t190 (t190.length : Int) (wrap64 (x52_2 + 1))) = some (r1, r2, r3) := by first | (rw [hji25] at H; exact H) | (simp only [hji25] at H ⊢; exact H)
          (try rw [hji25] at A23)
          have hji25_ : (if x9_2 < t196 then t196 else x9_2) = ji25 := hji25
          have H' := Aside0.mk H
          clear H
          have p194 : 0 ≤ (x52_2 : Int) := of_decide_eq_true b73_
          have q194 : x52_2 < (t190.length : Int) := of_decide_eq_true b73_
          obtain ⟨ad194, A194_0, c194_0, e194, hx194_0, hl194_0, hi194_0⟩ := at_L1 (Kd.S_reads' HO_50.out).2.2 x52_2 p194 q194
          cases e194
          obtain ⟨ce194, hce194, hMe194, hcc194⟩ := Kd.S_get HO_50.out [] x52_2 p194 (by first | exact q194 | exact of_decide_eq_true b73_ | (have e_ := (Kd.S_reads' HO_50.out).1; omega))
          obtain ⟨ve194_0, rfl, ge194_0⟩ := hMe194
          have hv194_0 := hcc194 0 _ rfl
          rw [Nat.add_zero, show ((Kd.slice 3 (Kd.int .i64))).sz = 1 from rfl, Nat.mul_one] at hv194_0
          replace hv194_0 := Option.some.inj (hv194_0.symm.trans hx194_0)
          rw [hv194_0] at ge194_0
          have HL194_0 := Aside0.mk (show Kd.R (Kd.int .i64) 3 _ _ _ _ (rd_L1 t190 x52_2) from ge194_0)
          clear hv194_0 ge194_0
          (try clear hcc194); (try clear hce194)
          have HR194_0 := Aside0.mk hi194_0
          have HC194_0 := Aside0.mk hl194_0
          clear hi194_0 hl194_0
          replace p194 := eq_true p194
          replace q194 := eq_true q194
          go_wp2_with (first | ((with_reducible refine gate_callee (f := 25) rfl ?_); refine goesL_ (some 58) rfl rfl Tryz.func25 kr rfl #[.slice A194_0 (rd_L1 t190 x52_2).length c194_0] rfl b24_ ?_; (with_reducible refine (line_Put.calls _ _ (rd_L1 t190 x52_2) t195 t196 _ ?side1 ?side2 A23.out).mono ?_); (case side1 => repeat (first | exact (by repeat (first | (with_reducible exact HR194_0.out) | (with_reducible refine Kd.C_alloc ?_ _) | (with_reducible refine Kd.C_drewN ?_ _) | (with_reducible refine Kd.C_drew ?_) | exact HR194_0.out)) | (with_reducible refine Kd.C_alloc ?_ _) | (with_reducible refine Kd.C_drewN ?_ _) | (with_reducible refine Kd.C_drew ?_))); (case side2 => exact HC194_0.out); rintro e w26 ⟨v197, rfl, ho0, hb⟩; refine ⟨_, rfl, ?_⟩; have n0_ := Aside0.mk (Kd.R_elder' b49_ (Kd.R_base ho0) hb); have n1_ := Aside0.mk (Kd.S_elder' b50_ (Kd.R_base ho0) hb); have n2_ := Aside0.mk (Kd.R_elder' (by (with_reducible repeat (first | apply Kd.R_alloc | apply Kd.R_drewN | apply Kd.R_drew)); exact HL194_0.out) (Kd.R_base ho0) hb); have n3_ := Aside0.mk (Kd.R_lower (Kd.R_new' (Kd.R_new' ho0 (Kd.R_lt b49_)) (Kd.R_lt (by (with_reducible repeat (first | apply Kd.R_alloc | apply Kd.R_drewN | apply Kd.R_drew)); exact HL194_0.out))) (below_size b10_)); have n4_ := Aside0.mk (blk_below (g := gb178) (o := .cells #[.string a0_0, .int .i64 a0_1, .int .i64 a0_2] 133 (0, 0)) b38_ hb); have n5_ := Aside0.mk (Kd.C_below (by repeat (first | (with_reducible exact HR194_0.out) | (with_reducible refine Kd.C_alloc ?_ _) | (with_reducible refine Kd.C_drewN ?_ _) | (with_reducible refine Kd.C_drew ?_) | exact HR194_0.out)) hb); have n6_ := Aside0.mk (below_step b10_ hb); clear HO_10; clear HO_50; clear HL194_0; clear BK178; clear HR194_0; clear HB; have HO_10 := n0_; have HO_50 := n1_; have HL194_0 := n2_; have HO198 := n3_; have BK178 := n4_; have HR194_0 := n5_; have HB := n6_; clear n0_ n1_ n2_ n3_ n4_ n5_ n6_; (try clear hb); (try clear hb2); (try clear hk); (try clear hi); (try clear ho0); obtain ⟨Ao28, co28, eo28⟩ := Kd.R_slice HO198.out; subst eo28) | ((with_reducible refine gate_builtin (b := .append) (xs := #[.tmp 61, .tmp 62]) rfl ?_); at_builtin; refine Kd.R_append_rows (Kd.int .i64) (w0 := w) w.heap.size rfl (.tmp 61) (.tmp 62) 22 3 (.int .i64 0) 8 rfl Tryz.underlying22 info3 rfl (by decide) (by omega) u10 x10_2 t195 _ _ _ (fun k_ => some k_ ≠ (.slice Ao28 t195.length co28 : Value).ownBlock) (fun _ => False) rfl rfl ?aO ?aR (fun _ _ h => h) (fun _ h => h.elim) ?aF ?aB ?aS ?aL ?_; (case aR => repeat (first | exact (Kd.R_reads' HO198.out).2.2 | (with_reducible refine Kd.C_alloc ?_ _) | (with_reducible refine Kd.C_drewN ?_ _) | (with_reducible refine Kd.C_drew ?_))); (case aB => exact b10_); (case aF => exact (fun k_ hk => Kd.fresh' (Kd.R_lt (by (with_reducible repeat (first | apply Kd.R_alloc | apply Kd.R_drewN | apply Kd.R_drew)); exact HO198.out)) k_ hk)); (case aO => exact (by (with_reducible repeat (first | apply Kd.R_alloc | apply Kd.R_drewN | apply Kd.R_drew)); exact Kd.R_mono HO_10.out (fun _ hk => hk.2))); (case aS => exact (below_size b10_)); (case aL => have := LMc24.out; omega); intro v200 w27 ho hb hg hat; rw [← Ny199.out] at ho; have n0_ := Aside0.mk (Kd.S_after (ok := (fun k_ => some k_ ≠ (.slice Ao28 t195.length co28 : Value).ownBlock)) (by (with_reducible repeat (first | apply Kd.S_alloc | apply Kd.S_drewN | apply Kd.S_drew)); exact Kd.S_mono HO_50.out (fun _ hk => ⟨hk.2, hk.1⟩)) hg hat); have n1_ := Aside0.mk (blk_grown (g := gb178) (o := .cells #[.string a0_0, .int .i64 a0_1, .int .i64 a0_2] 133 (0, 0)) b38_ hg (Kd.R_ne HO_10.out BK178.out (by decide))); have n2_ := Aside0.mk (Kd.R_after (ok := (fun k_ => some k_ ≠ (.slice (some ad194) t190.length co19 : Value).ownBlock ∧ some k_ ≠ (.slice Ao28 t195.length co28 : Value).ownBlock)) (by (with_reducible repeat (first | apply Kd.R_alloc | apply Kd.R_drewN | apply Kd.R_drew)); exact Kd.R_mono HL194_0.out (fun _ hk => ⟨⟨hk.1.2, hk.2⟩, hk.1.1⟩)) hg hat); have n3_ := Aside0.mk (Kd.R_after (ok := (fun k_ => some k_ ≠ (.slice A194_0 (rd_L1 t190 x52_2).length c194_0 : Value).ownBlock)) (by (with_reducible repeat (first | apply Kd.R_alloc | apply Kd.R_drewN | apply Kd.R_drew)); exact Kd.R_mono HO198.out (fun _ hk => ⟨hk.2, hk.1.2⟩)) hg hat); have n4_ := Aside0.mk (hb); have n5_ := Aside0.mk (ho); clear HO_50; clear BK178; clear HL194_0; clear HO198; clear HB; clear HO_10; have HO_50 := n0_; have BK178 := n1_; have HL194_0 := n2_; have HO198 := n3_; have HB := n4_; have HO201 := n5_; clear n0_ n1_ n2_ n3_ n4_ n5_; clear ho hb hg hat))
          go_roundg k2
          case measure => have := HK1.out; have := HK2.out; omega
          case rel => exact ⟨(ji25), (y199), (wrap64 (x52_2 + 1)), (by first | rfl | (simp; done) | (simp only [← hji25] <;> (first | rfl | simp)) | (simp [*]; done)), b75_, H', ⟨by have := HK1.out; have := HK2.out; omega⟩, ⟨by (try simp only [hl5_1]); (with_reducible repeat (first | apply Kd.R_alloc | apply Kd.R_drewN | apply Kd.R_drew)); exact Kd.R_mono HO201.out (fun _ hk => trivial)⟩, ⟨by (try simp only [hl5_1]); (with_reducible repeat (first | apply Kd.S_alloc | apply Kd.S_drewN | apply Kd.S_drew)); exact Kd.S_mono HO_50.out (fun _ hk => hk.2)⟩, ⟨b23_⟩, ⟨b19_⟩⟩
         ·rw [if_neg c24] at H
          exact absurd H (by simp)
        ·rw [if_neg c22] at H
         exact absurd H (by simp)
       ·rw [if_neg c21] at H
        exact absurd H (by simp)
      ·rw [if_neg c20] at H
       have c20b0 : decide (x52_2 < (t190.length : Int)) = false := decide_eq_false c20
       (try (have c20b0h := c20b0; simp only [hl5_1] at c20b0h))
       clear c20
       replace H := Option.bind_eq_some_iff.mp H
       obtain ⟨⟨t202, t203⟩, A290, H⟩ := H
       replace H : (if x9_2 = 0 then (some (t202, t183, (t203 == 0))) else (some (t202, t183, false))) = some (r1, r2, r3) := H
       have A29 := Aside0.mk A290
       clear A290
       by_cases c30 : x9_2 = 0
       ·rw [if_pos c30] at H
        have c30b0 : (x9_2 == 0) = true := beq_iff_eq.mpr c30
        have c30b1 : (x9_2 != 0) = false := bne_eq_false_iff_eq.mpr c30
        clear c30
        simp only [Option.some.injEq, Prod.mk.injEq] at H
        obtain ⟨rfl, rfl, rfl⟩ := H
        obtain ⟨Ao31, co31, eo31⟩ := Kd.R_slice HO_10.out
        subst eo31
        go_wp2_with (first | ((with_reducible refine gate_callee (f := 32) rfl ?_); refine goesL_ (some 70) rfl rfl Tryz.func32 kr rfl #[.slice Ao31 x10_2.length co31] rfl b24_ ?_; (with_reducible refine (residual_Put.calls _ _ x10_2 t202 t203 _ ?side1 ?side2 A29.out).mono ?_); (case side1 => repeat (first | exact (Kd.R_reads' HO_10.out).2.2 | (with_reducible refine Kd.C_alloc ?_ _) | (with_reducible refine Kd.C_drewN ?_ _) | (with_reducible refine Kd.C_drew ?_))); (case side2 => exact (Kd.R_reads' HO_10.out).2.1); rintro e w32 ⟨rfl, hb⟩; refine ⟨_, rfl, ?_⟩; have n0_ := Aside0.mk (Kd.R_below b49_ hb); have n1_ := Aside0.mk (Kd.S_below b50_ hb); have n2_ := Aside0.mk (blk_below (g := gb178) (o := .cells #[.string a0_0, .int .i64 a0_1, .int .i64 a0_2] 133 (0, 0)) b38_ hb); have n3_ := Aside0.mk (below_step b10_ hb); clear HO_10; clear HO_50; clear BK178; clear HB; have HO_10 := n0_; have HO_50 := n1_; have BK178 := n2_; have HB := n3_; clear n0_ n1_ n2_ n3_; (try clear hb); (try clear hb2); (try clear hk); (try clear hi)))
        go_ret3
        exact ⟨b60_, b19_⟩
       ·rw [if_neg c30] at H
        have c30b0 : (x9_2 == 0) = false := beq_eq_false_iff_ne.mpr c30
        have c30b1 : (x9_2 != 0) = true := bne_iff_ne.mpr c30
        simp only [Option.some.injEq, Prod.mk.injEq] at H
        obtain ⟨rfl, rfl, rfl⟩ := H
        obtain ⟨Ao33, co33, eo33⟩ := Kd.R_slice HO_10.out
        subst eo33
        go_wp2_with (first | ((with_reducible refine gate_callee (f := 32) rfl ?_); refine goesL_ (some 70) rfl rfl Tryz.func32 kr rfl #[.slice Ao33 x10_2.length co33] rfl b24_ ?_; (with_reducible refine (residual_Put.calls _ _ x10_2 t202 t203 _ ?side1 ?side2 A29.out).mono ?_); (case side1 => repeat (first | exact (Kd.R_reads' HO_10.out).2.2 | (with_reducible refine Kd.C_alloc ?_ _) | (with_reducible refine Kd.C_drewN ?_ _) | (with_reducible refine Kd.C_drew ?_))); (case side2 => exact (Kd.R_reads' HO_10.out).2.1); rintro e w34 ⟨rfl, hb⟩; refine ⟨_, rfl, ?_⟩; have n0_ := Aside0.mk (Kd.R_below b49_ hb); have n1_ := Aside0.mk (Kd.S_below b50_ hb); have n2_ := Aside0.mk (blk_below (g := gb178) (o := .cells #[.string a0_0, .int .i64 a0_1, .int .i64 a0_2] 133 (0, 0)) b38_ hb); have n3_ := Aside0.mk (below_step b10_ hb); clear HO_10; clear HO_50; clear BK178; clear HB; have HO_10 := n0_; have HO_50 := n1_; have BK178 := n2_; have HB := n3_; clear n0_ n1_ n2_ n3_; (try clear hb); (try clear hb2); (try clear hk); (try clear hi)))
        go_ret3
        exact ⟨b60_, b19_⟩
end Go.Proofs.YtnoibcdojfnicaaGreatDoor.PG
