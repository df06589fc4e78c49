-- Printed by a program of this session over the kit's printer (wip/gen/pr.py). Not trusted: Lean checks it.
import Derived.Test.YtjdffodhbejnjaaPAllx0
import Derived.Test.YtjdffodhbejnjaaPAllx1
import Derived.Test.YtjdffodhbejnjaaPAllx3
import Derived.Test.YtjdffodhbejnjaaPAllx4
namespace Go.Proofs.Ytjdffodhbejnjaa.PAll
open Go.RowKit Go.Proofs.YtjdffodhbejnjaaW.PrintWords Go.Proofs.YtjdffodhbejnjaaW.PrintLast Go.Proofs.YtjdffodhbejnjaaW.PrintMore
attribute [local go_sem] max2_int min2_int max_two min_two max_three min_three max_four min_four   -- for this text's walks alone
set_option linter.unusedVariables false
set_option linter.unusedSimpArgs false

/-! ### descantlaw1_FieldBack: function 9 -/
def descantlaw1_FieldBack.j0 : Nat → ByteArray → Bool → Option (Bool)
  | 0, _, _ => none
  | k + 1, x2, x57 => if x57 = true then (some false) else ((field_Get.f k x2).bind fun bt166 => ((descantlaw0_Num.f bt166.2).bind fun t168 => (if t168 = 0 then ((field_Put.f k bt166.1 (x2.size : Int)).bind fun bt169 => ((descantlaw0_Num.f bt169.2).bind fun t171 => (if t171 = 0 then (some (bt169.1.toList == x2.toList)) else (some false)))) else (if bt166.1 = 0 then (if x2.toList = ([] : List UInt8) then (some true) else (some (decide ((x2.size : Int) > 4)))) else (some false)))))
def descantlaw1_FieldBack.f (k : Nat) (a0 : Int) (a1 : Int) (a2 : ByteArray) : Option (Bool) := (descantlaw1_awake.f k).bind fun t159 => (if t159 = true then (if 0 ≤ (wrap64 (8 * (wrap64 (1 + (Go.bits .and .i64 a1 3))))) then ((field_Put.f k (Go.bits .and .i64 a0 (wrap64 ((shl .i64 1 (wrap64 (8 * (wrap64 (1 + (Go.bits .and .i64 a1 3)))))) - 1))) (wrap64 (1 + (Go.bits .and .i64 a1 3)))).bind fun bt160 => ((field_Get.f k bt160.1).bind fun bt162 => ((descantlaw0_Num.f bt160.2).bind fun t164 => (if t164 = 0 then (if (bt160.1.size : Int) = (wrap64 (1 + (Go.bits .and .i64 a1 3))) then ((descantlaw0_Num.f bt162.2).bind fun t165 => (if t165 = 0 then (descantlaw1_FieldBack.j0 k a2 (bt162.1 != (Go.bits .and .i64 a0 (wrap64 ((shl .i64 1 (wrap64 (8 * (wrap64 (1 + (Go.bits .and .i64 a1 3)))))) - 1))))) else (descantlaw1_FieldBack.j0 k a2 true))) else (descantlaw1_FieldBack.j0 k a2 true)) else (descantlaw1_FieldBack.j0 k a2 true))))) else (none)) else (some false))
theorem descantlaw1_FieldBack.mono_l : ∀ k, (∀ y0 y1, LeO (descantlaw1_FieldBack.j0 k y0 y1) (descantlaw1_FieldBack.j0 (k + 1) y0 y1))
  | 0 => fun _ _ r h => by simp [descantlaw1_FieldBack.j0] at h
  | k + 1 => by
    have ih0 := descantlaw1_FieldBack.mono_l k
    · intro y0 y1
      unfold descantlaw1_FieldBack.j0
      repeat' first
      | (with_reducible exact ih0 _ _)
      | (with_reducible exact descantlaw1_awake.mono _)
      | (with_reducible exact field_Get.mono _ _)
      | (with_reducible exact field_Put.mono _ _ _)
      | (with_reducible exact LeO.refl _)
      | (with_reducible exact LeO.none _)
      | (with_reducible refine LeO.ite ?_ ?_)
      | (with_reducible refine LeO.bind ?_ (fun _ => ?_))
      | exact ih0 _ _
      | exact descantlaw1_awake.mono _
      | exact field_Get.mono _ _
      | exact field_Put.mono _ _ _
      | exact LeO.none _
      | refine LeO.ite ?_ ?_
      | refine LeO.bind ?_ (fun _ => ?_)
theorem descantlaw1_FieldBack.mono : ∀ a0 a1 a2 k, LeO (descantlaw1_FieldBack.f k a0 a1 a2) (descantlaw1_FieldBack.f (k + 1) a0 a1 a2) := by
  intro a0 a1 a2 k
  have ih0 := descantlaw1_FieldBack.mono_l k
  unfold descantlaw1_FieldBack.f
  repeat' first
      | (with_reducible exact ih0 _ _)
      | (with_reducible exact descantlaw1_awake.mono _)
      | (with_reducible exact field_Get.mono _ _)
      | (with_reducible exact field_Put.mono _ _ _)
      | (with_reducible exact LeO.refl _)
      | (with_reducible exact LeO.none _)
      | (with_reducible refine LeO.ite ?_ ?_)
      | (with_reducible refine LeO.bind ?_ (fun _ => ?_))
      | exact ih0 _ _
      | exact descantlaw1_awake.mono _
      | exact field_Get.mono _ _
      | exact field_Put.mono _ _ _
      | exact LeO.none _
      | refine LeO.ite ?_ ?_
      | refine LeO.bind ?_ (fun _ => ?_)
set_option maxHeartbeats 8000000 in
set_option maxRecDepth 100000 in
theorem descantlaw1_FieldBack.calls (k : Nat) (a0 : Int) (a1 : Int) (a2 : ByteArray) (r : Bool) (w : World) (h : descantlaw1_FieldBack.f k a0 a1 a2 = some r) :
    Calls Try.prog 9 #[.int .i64 a0, .int .i64 a1, .string a2] w fun e w' => e = .returned (.bool r) ∧ Below w.heap.size w w' := by
  have HB := Aside0.mk (Below.refl w.heap.size w)
  have H : ((descantlaw1_awake.f k).bind fun t159 => (if t159 = true then (if 0 ≤ (wrap64 (8 * (wrap64 (1 + (Go.bits .and .i64 a1 3))))) then ((field_Put.f k (Go.bits .and .i64 a0 (wrap64 ((shl .i64 1 (wrap64 (8 * (wrap64 (1 + (Go.bits .and .i64 a1 3)))))) - 1))) (wrap64 (1 + (Go.bits .and .i64 a1 3)))).bind fun bt160 => ((field_Get.f k bt160.1).bind fun bt162 => ((descantlaw0_Num.f bt160.2).bind fun t164 => (if t164 = 0 then (if (bt160.1.size : Int) = (wrap64 (1 + (Go.bits .and .i64 a1 3))) then ((descantlaw0_Num.f bt162.2).bind fun t165 => (if t165 = 0 then (descantlaw1_FieldBack.j0 k a2 (bt162.1 != (Go.bits .and .i64 a0 (wrap64 ((shl .i64 1 (wrap64 (8 * (wrap64 (1 + (Go.bits .and .i64 a1 3)))))) - 1))))) else (descantlaw1_FieldBack.j0 k a2 true))) else (descantlaw1_FieldBack.j0 k a2 true)) else (descantlaw1_FieldBack.j0 k a2 true))))) else (none)) else (some false))) = some r := h
  clear h
  replace H := Option.bind_eq_some_iff.mp H
  obtain ⟨t159, A40, H⟩ := H
  replace H : (if t159 = true then (if 0 ≤ (wrap64 (8 * (wrap64 (1 + (Go.bits .and .i64 a1 3))))) then ((field_Put.f k (Go.bits .and .i64 a0 (wrap64 ((shl .i64 1 (wrap64 (8 * (wrap64 (1 + (Go.bits .and .i64 a1 3)))))) - 1))) (wrap64 (1 + (Go.bits .and .i64 a1 3)))).bind fun bt160 => ((field_Get.f k bt160.1).bind fun bt162 => ((descantlaw0_Num.f bt160.2).bind fun t164 => (if t164 = 0 then (if (bt160.1.size : Int) = (wrap64 (1 + (Go.bits .and .i64 a1 3))) then ((descantlaw0_Num.f bt162.2).bind fun t165 => (if t165 = 0 then (descantlaw1_FieldBack.j0 k a2 (bt162.1 != (Go.bits .and .i64 a0 (wrap64 ((shl .i64 1 (wrap64 (8 * (wrap64 (1 + (Go.bits .and .i64 a1 3)))))) - 1))))) else (descantlaw1_FieldBack.j0 k a2 true))) else (descantlaw1_FieldBack.j0 k a2 true)) else (descantlaw1_FieldBack.j0 k a2 true))))) else (none)) else (some false)) = some r := H
  have A4 := Aside0.mk A40
  clear A40
  by_cases c5 : t159 = true
  · subst c5
    have H1 : (if 0 ≤ (wrap64 (8 * (wrap64 (1 + (Go.bits .and .i64 a1 3))))) then ((field_Put.f k (Go.bits .and .i64 a0 (wrap64 ((shl .i64 1 (wrap64 (8 * (wrap64 (1 + (Go.bits .and .i64 a1 3)))))) - 1))) (wrap64 (1 + (Go.bits .and .i64 a1 3)))).bind fun bt160 => ((field_Get.f k bt160.1).bind fun bt162 => ((descantlaw0_Num.f bt160.2).bind fun t164 => (if t164 = 0 then (if (bt160.1.size : Int) = (wrap64 (1 + (Go.bits .and .i64 a1 3))) then ((descantlaw0_Num.f bt162.2).bind fun t165 => (if t165 = 0 then (descantlaw1_FieldBack.j0 k a2 (bt162.1 != (Go.bits .and .i64 a0 (wrap64 ((shl .i64 1 (wrap64 (8 * (wrap64 (1 + (Go.bits .and .i64 a1 3)))))) - 1))))) else (descantlaw1_FieldBack.j0 k a2 true))) else (descantlaw1_FieldBack.j0 k a2 true)) else (descantlaw1_FieldBack.j0 k a2 true))))) else (none)) = some r := by rw [if_pos rfl] at H; exact H
    clear H
    have H := H1
    clear H1
    obtain ⟨ji6, hji6⟩ : ∃ j_ : Int, (wrap64 (8 * (wrap64 (1 + (Go.bits .and .i64 a1 3))))) = j_ := ⟨_, rfl⟩
    replace H : (if 0 ≤ (ji6) then ((field_Put.f k (Go.bits .and .i64 a0 (wrap64 ((shl .i64 1 (ji6)) - 1))) (wrap64 (1 + (Go.bits .and .i64 a1 3)))).bind fun bt160 => ((field_Get.f k bt160.1).bind fun bt162 => ((descantlaw0_Num.f bt160.2).bind fun t164 => (if t164 = 0 then (if (bt160.1.size : Int) = (wrap64 (1 + (Go.bits .and .i64 a1 3))) then ((descantlaw0_Num.f bt162.2).bind fun t165 => (if t165 = 0 then (descantlaw1_FieldBack.j0 k a2 (bt162.1 != (Go.bits .and .i64 a0 (wrap64 ((shl .i64 1 (ji6)) - 1))))) else (descantlaw1_FieldBack.j0 k a2 true))) else (descantlaw1_FieldBack.j0 k a2 true)) else (descantlaw1_FieldBack.j0 k a2 true))))) else (none)) = some r := by first | (rw [hji6] at H; exact H) | (simp only [hji6] at H ⊢; exact H)
    (try rw [hji6] at A4)
    have hji6w : (IntKind.i64.wrap (8 * (wrap64 (1 + (Go.bits .and .i64 a1 3))))) = ji6 := (i64_w _).trans hji6
    by_cases c7 : 0 ≤ (ji6)
    · rw [if_pos c7] at H
      have c7b0 := eq_true c7
      have c7b1 : decide (0 ≤ (ji6)) = true := decide_eq_true c7
      clear c7
      obtain ⟨ji8, hji8⟩ : ∃ j_ : Int, (shl .i64 1 (ji6)) = j_ := ⟨_, rfl⟩
      replace H : ((field_Put.f k (Go.bits .and .i64 a0 (wrap64 ((ji8) - 1))) (wrap64 (1 + (Go.bits .and .i64 a1 3)))).bind fun bt160 => ((field_Get.f k bt160.1).bind fun bt162 => ((descantlaw0_Num.f bt160.2).bind fun t164 => (if t164 = 0 then (if (bt160.1.size : Int) = (wrap64 (1 + (Go.bits .and .i64 a1 3))) then ((descantlaw0_Num.f bt162.2).bind fun t165 => (if t165 = 0 then (descantlaw1_FieldBack.j0 k a2 (bt162.1 != (Go.bits .and .i64 a0 (wrap64 ((ji8) - 1))))) else (descantlaw1_FieldBack.j0 k a2 true))) else (descantlaw1_FieldBack.j0 k a2 true)) else (descantlaw1_FieldBack.j0 k a2 true))))) = some r := by first | (rw [hji8] at H; exact H) | (simp only [hji8] at H ⊢; exact H)
      (try rw [hji8] at A4)
      have hji8_ : (IntKind.i64.wrap (1 * 2 ^ min (ji6).toNat 64)) = ji8 := hji8
      have hji8z : (ji6) ≤ 64 → (IntKind.i64.wrap (1 * 2 ^ (ji6).toNat)) = ji8 := shl_small hji8
      have hji8u : (IntKind.i64.wrap (2 ^ min (ji6).toNat 64)) = ji8 := by have h_ := hji8_; rw [Int.one_mul] at h_; exact h_
      have hji8v : (ji6) ≤ 64 → (IntKind.i64.wrap (2 ^ (ji6).toNat)) = ji8 := fun hle_ => by have h_ := hji8z hle_; rw [Int.one_mul] at h_; exact h_
      have hji8y : (wrap64 (1 * 2 ^ min (ji6).toNat 64)) = ji8 := (i64_w _).symm.trans hji8_
      have hji8x : (ji6) ≤ 64 → (wrap64 (1 * 2 ^ (ji6).toNat)) = ji8 := fun h_ => (i64_w _).symm.trans (hji8z h_)
      replace H := Option.bind_eq_some_iff.mp H
      obtain ⟨⟨t160, t161⟩, A90, H⟩ := H
      replace H : ((field_Get.f k t160).bind fun bt162 => ((descantlaw0_Num.f t161).bind fun t164 => (if t164 = 0 then (if (t160.size : Int) = (wrap64 (1 + (Go.bits .and .i64 a1 3))) then ((descantlaw0_Num.f bt162.2).bind fun t165 => (if t165 = 0 then (descantlaw1_FieldBack.j0 k a2 (bt162.1 != (Go.bits .and .i64 a0 (wrap64 ((ji8) - 1))))) else (descantlaw1_FieldBack.j0 k a2 true))) else (descantlaw1_FieldBack.j0 k a2 true)) else (descantlaw1_FieldBack.j0 k a2 true)))) = some r := H
      have A9 := Aside0.mk A90
      clear A90
      replace H := Option.bind_eq_some_iff.mp H
      obtain ⟨⟨t162, t163⟩, A100, H⟩ := H
      replace H : ((descantlaw0_Num.f t161).bind fun t164 => (if t164 = 0 then (if (t160.size : Int) = (wrap64 (1 + (Go.bits .and .i64 a1 3))) then ((descantlaw0_Num.f t163).bind fun t165 => (if t165 = 0 then (descantlaw1_FieldBack.j0 k a2 (t162 != (Go.bits .and .i64 a0 (wrap64 ((ji8) - 1))))) else (descantlaw1_FieldBack.j0 k a2 true))) else (descantlaw1_FieldBack.j0 k a2 true)) else (descantlaw1_FieldBack.j0 k a2 true))) = some r := H
      have A10 := Aside0.mk A100
      clear A100
      have HC11 := Aside0.mk H
      clear H
      go_enter Try.func9, Try.ntmps9
      go_upto_region 7 with (first | ((with_reducible refine gate_callee (f := 25) rfl ?_); refine goesL_ (some 17) rfl rfl Try.func25 (by kernel_rfl) rfl #[] rfl (by (try simp only [List.map_toArray, List.map_cons, List.map_nil]); first | done | rfl | (simp only [List.length_drop, List.length_take]; rfl)) ?_; (with_reducible refine (descantlaw1_awake.calls k  true _ A4.out).mono ?_); rintro e w12 ⟨rfl, hb⟩; refine ⟨_, rfl, ?_⟩; have n0_ := Aside0.mk (below_step (by repeat (first | (with_reducible first | exact HB.out | apply below_alloc | apply pw_below_drewN | apply below_drew1) | exact HB.out)) hb); clear HB; have HB := n0_; clear n0_; (try clear hb); (try clear hb2); (try clear hk); (try clear hi)) | ((with_reducible refine gate_callee (f := 21) rfl ?_); refine goesL_ (some 31) rfl rfl Try.func21 (by kernel_rfl) rfl #[.int .i64 (Go.bits .and .i64 a0 (wrap64 ((ji8) - 1))), .int .i64 (wrap64 (1 + (Go.bits .and .i64 a1 3)))] rfl (by (try simp only [List.map_toArray, List.map_cons, List.map_nil]); first | done | (simp only [hji8]; rfl) | rfl | (simp only [List.length_drop, List.length_take]; rfl)) ?_; (with_reducible refine (field_Put.calls k (Go.bits .and .i64 a0 (wrap64 ((ji8) - 1))) (wrap64 (1 + (Go.bits .and .i64 a1 3))) t160 t161 _ A9.out).mono ?_); rintro e w13 ⟨rfl, hb⟩; refine ⟨_, rfl, ?_⟩; have n0_ := Aside0.mk (below_step (by repeat (first | (with_reducible first | exact HB.out | apply below_alloc | apply pw_below_drewN | apply below_drew1) | exact HB.out)) hb); clear HB; have HB := n0_; clear n0_; (try clear hb); (try clear hb2); (try clear hk); (try clear hi)) | ((with_reducible refine gate_callee (f := 23) rfl ?_); refine goesL_ (some 36) rfl rfl Try.func23 (by kernel_rfl) rfl #[.string t160] rfl (by (try simp only [List.map_toArray, List.map_cons, List.map_nil]); first | done | rfl | (simp only [List.length_drop, List.length_take]; rfl)) ?_; (with_reducible refine (field_Get.calls k t160 t162 t163 _ A10.out).mono ?_); rintro e w' ⟨rfl, ⟨nd, rfl⟩⟩; refine ⟨_, rfl, ?_⟩))
      (try simp only [Act.put, List.setIfInBounds_toArray, List.set_cons_zero, List.set_cons_succ])
      go_cut [57] (fun v57 wc => ∃ (kq : Nat) (x57_10 : Bool), v57 = .bool x57_10 ∧ Aside0 (descantlaw1_FieldBack.j0 kq a2 x57_10 = some r) ∧ Aside0 (kq ≤ k) ∧ Aside0 (Below w.heap.size w wc))
      case first =>
        have H := HC11.out
        clear HC11
        replace H := Option.bind_eq_some_iff.mp H
        obtain ⟨t164, A140, H⟩ := H
        replace H : (if t164 = 0 then (if (t160.size : Int) = (wrap64 (1 + (Go.bits .and .i64 a1 3))) then ((descantlaw0_Num.f t163).bind fun t165 => (if t165 = 0 then (descantlaw1_FieldBack.j0 k a2 (t162 != (Go.bits .and .i64 a0 (wrap64 ((ji8) - 1))))) else (descantlaw1_FieldBack.j0 k a2 true))) else (descantlaw1_FieldBack.j0 k a2 true)) else (descantlaw1_FieldBack.j0 k a2 true)) = some r := H
        have A14 := Aside0.mk A140
        clear A140
        by_cases c15 : t164 = 0
        · rw [if_pos c15] at H
          have c15b0 : (t164 == 0) = true := beq_iff_eq.mpr c15
          have c15b1 : (t164 != 0) = false := bne_eq_false_iff_eq.mpr c15
          clear c15
          (first | rw [c15b0] | (simp only [i64_w, i32_w]; rw [c15b0]) | skip)
          by_cases c16 : (t160.size : Int) = (wrap64 (1 + (Go.bits .and .i64 a1 3)))
          · rw [if_pos c16] at H
            have c16b0 : ((t160.size : Int) == (wrap64 (1 + (Go.bits .and .i64 a1 3)))) = true := beq_iff_eq.mpr c16
            have c16b1 : ((t160.size : Int) != (wrap64 (1 + (Go.bits .and .i64 a1 3)))) = false := bne_eq_false_iff_eq.mpr c16
            clear c16
            replace H := Option.bind_eq_some_iff.mp H
            obtain ⟨t165, A170, H⟩ := H
            replace H : (if t165 = 0 then (descantlaw1_FieldBack.j0 k a2 (t162 != (Go.bits .and .i64 a0 (wrap64 ((ji8) - 1))))) else (descantlaw1_FieldBack.j0 k a2 true)) = some r := H
            have A17 := Aside0.mk A170
            clear A170
            by_cases c18 : t165 = 0
            · rw [if_pos c18] at H
              have c18b0 : (t165 == 0) = true := beq_iff_eq.mpr c18
              have c18b1 : (t165 != 0) = false := bne_eq_false_iff_eq.mpr c18
              clear c18
              have H' := Aside0.mk H
              clear H
              go_wp2_with (first | ((with_reducible refine gate_callee (f := 19) rfl ?_); refine goesL_ (some 40) rfl rfl Try.func19 (by kernel_rfl) rfl #[.int .i64 t161] rfl (by (try simp only [List.map_toArray, List.map_cons, List.map_nil]); first | done | rfl | (simp only [List.length_drop, List.length_take]; rfl)) ?_; (with_reducible refine (descantlaw0_Num.calls t161 t164 _ A14.out).mono ?_); rintro e w' ⟨rfl, ⟨nd, rfl⟩⟩; refine ⟨_, rfl, ?_⟩) | (go_at_call 19; (with_reducible refine (descantlaw0_Num.calls t163 t165 _ A17.out).mono ?_); rintro e w' ⟨rfl, ⟨nd, rfl⟩⟩))
              go_meet
              case rel => exact ⟨_, ((t162 != (Go.bits .and .i64 a0 (wrap64 ((ji8) - 1))))), (by first | rfl | (simp; done) | (simp only [← hji8] <;> (first | rfl | simp)) | (simp [*]; done)), H', ⟨by first | omega | exact Nat.le_refl _⟩, ⟨by repeat (first | (with_reducible first | exact HB.out | apply below_alloc | apply pw_below_drewN | apply below_drew1) | exact HB.out)⟩⟩
            · rw [if_neg c18] at H
              have c18b0 : (t165 == 0) = false := beq_eq_false_iff_ne.mpr c18
              have c18b1 : (t165 != 0) = true := bne_iff_ne.mpr c18
              have H' := Aside0.mk H
              clear H
              go_wp2_with (first | ((with_reducible refine gate_callee (f := 19) rfl ?_); refine goesL_ (some 40) rfl rfl Try.func19 (by kernel_rfl) rfl #[.int .i64 t161] rfl (by (try simp only [List.map_toArray, List.map_cons, List.map_nil]); first | done | rfl | (simp only [List.length_drop, List.length_take]; rfl)) ?_; (with_reducible refine (descantlaw0_Num.calls t161 t164 _ A14.out).mono ?_); rintro e w' ⟨rfl, ⟨nd, rfl⟩⟩; refine ⟨_, rfl, ?_⟩) | (go_at_call 19; (with_reducible refine (descantlaw0_Num.calls t163 t165 _ A17.out).mono ?_); rintro e w' ⟨rfl, ⟨nd, rfl⟩⟩))
              go_meet
              case rel => exact ⟨_, (true), (by first | rfl | (simp; done) | (simp [*]; done)), H', ⟨by first | omega | exact Nat.le_refl _⟩, ⟨by repeat (first | (with_reducible first | exact HB.out | apply below_alloc | apply pw_below_drewN | apply below_drew1) | exact HB.out)⟩⟩
          · rw [if_neg c16] at H
            have c16b0 : ((t160.size : Int) == (wrap64 (1 + (Go.bits .and .i64 a1 3)))) = false := beq_eq_false_iff_ne.mpr c16
            have c16b1 : ((t160.size : Int) != (wrap64 (1 + (Go.bits .and .i64 a1 3)))) = true := bne_iff_ne.mpr c16
            have H' := Aside0.mk H
            clear H
            go_wp2_with (first | ((with_reducible refine gate_callee (f := 19) rfl ?_); refine goesL_ (some 40) rfl rfl Try.func19 (by kernel_rfl) rfl #[.int .i64 t161] rfl (by (try simp only [List.map_toArray, List.map_cons, List.map_nil]); first | done | rfl | (simp only [List.length_drop, List.length_take]; rfl)) ?_; (with_reducible refine (descantlaw0_Num.calls t161 t164 _ A14.out).mono ?_); rintro e w' ⟨rfl, ⟨nd, rfl⟩⟩; refine ⟨_, rfl, ?_⟩))
            go_meet
            case rel => exact ⟨_, (true), (by first | rfl | (simp; done) | (simp [*]; done)), H', ⟨by first | omega | exact Nat.le_refl _⟩, ⟨by repeat (first | (with_reducible first | exact HB.out | apply below_alloc | apply pw_below_drewN | apply below_drew1) | exact HB.out)⟩⟩
        · rw [if_neg c15] at H
          have c15b0 : (t164 == 0) = false := beq_eq_false_iff_ne.mpr c15
          have c15b1 : (t164 != 0) = true := bne_iff_ne.mpr c15
          (first | rw [c15b0] | (simp only [i64_w, i32_w]; rw [c15b0]) | skip)
          have H' := Aside0.mk H
          clear H
          go_wp2_with (first | ((with_reducible refine gate_callee (f := 19) rfl ?_); refine goesL_ (some 40) rfl rfl Try.func19 (by kernel_rfl) rfl #[.int .i64 t161] rfl (by (try simp only [List.map_toArray, List.map_cons, List.map_nil]); first | done | rfl | (simp only [List.length_drop, List.length_take]; rfl)) ?_; (with_reducible refine (descantlaw0_Num.calls t161 t164 _ A14.out).mono ?_); rintro e w' ⟨rfl, ⟨nd, rfl⟩⟩; refine ⟨_, rfl, ?_⟩))
          go_meet
          case rel => exact ⟨_, (true), (by first | rfl | (simp; done) | (simp [*]; done)), H', ⟨by first | omega | exact Nat.le_refl _⟩, ⟨by repeat (first | (with_reducible first | exact HB.out | apply below_alloc | apply pw_below_drewN | apply below_drew1) | exact HB.out)⟩⟩
      case rest =>
        clear HC11
        try clear c1
        try clear c2
        try clear p2
        try clear c5
        try clear p6
        try clear c7
        try clear c7b0
        try clear c7b1
        try clear c9
        try clear c15
        try clear c15b0
        try clear c15b1
        try clear c16
        try clear c16b0
        try clear c16b1
        try clear c18
        try clear c18b0
        try clear c18b1
        obtain ⟨kq, x57_10, rfl, HA, HJ10, HB⟩ := hcut
        cases kq with
        | zero => exact absurd HA.out (by simp [descantlaw1_FieldBack.j0])
        | succ kj10 =>
          have H := HA.out
          clear HA
          simp only [descantlaw1_FieldBack.j0] at H
          by_cases c19 : x57_10 = true
          · subst c19
            have H1 : (some false) = some r := by rw [if_pos rfl] at H; exact H
            clear H
            have H := H1
            clear H1
            obtain rfl := Option.some.inj H
            go_wp2
            go_ret
            exact ⟨by first | rfl | (simp [errW_none, errW_some] <;> rfl) | (simp only [← hji6, ← hji8]; first | rfl | (simp [errW_none, errW_some] <;> rfl)) | (simp [*, errW_none, errW_some] <;> rfl), by repeat (first | (with_reducible first | exact HB.out | apply below_alloc | apply pw_below_drewN | apply below_drew1) | exact HB.out)⟩
          · replace c19 := Bool.eq_false_iff.mpr c19
            subst c19
            have H1 : ((field_Get.f kj10 a2).bind fun bt166 => ((descantlaw0_Num.f bt166.2).bind fun t168 => (if t168 = 0 then ((field_Put.f kj10 bt166.1 (a2.size : Int)).bind fun bt169 => ((descantlaw0_Num.f bt169.2).bind fun t171 => (if t171 = 0 then (some (bt169.1.toList == a2.toList)) else (some false)))) else (if bt166.1 = 0 then (if a2.toList = ([] : List UInt8) then (some true) else (some (decide ((a2.size : Int) > 4)))) else (some false))))) = some r := by rw [if_neg (show ¬ (false = true) by decide)] at H; exact H
            clear H
            have H := H1
            clear H1
            replace H := Option.bind_eq_some_iff.mp H
            obtain ⟨⟨t166, t167⟩, A200, H⟩ := H
            replace H : ((descantlaw0_Num.f t167).bind fun t168 => (if t168 = 0 then ((field_Put.f kj10 t166 (a2.size : Int)).bind fun bt169 => ((descantlaw0_Num.f bt169.2).bind fun t171 => (if t171 = 0 then (some (bt169.1.toList == a2.toList)) else (some false)))) else (if t166 = 0 then (if a2.toList = ([] : List UInt8) then (some true) else (some (decide ((a2.size : Int) > 4)))) else (some false)))) = some r := H
            have A20 := Aside0.mk A200
            clear A200
            replace H := Option.bind_eq_some_iff.mp H
            obtain ⟨t168, A210, H⟩ := H
            replace H : (if t168 = 0 then ((field_Put.f kj10 t166 (a2.size : Int)).bind fun bt169 => ((descantlaw0_Num.f bt169.2).bind fun t171 => (if t171 = 0 then (some (bt169.1.toList == a2.toList)) else (some false)))) else (if t166 = 0 then (if a2.toList = ([] : List UInt8) then (some true) else (some (decide ((a2.size : Int) > 4)))) else (some false))) = some r := H
            have A21 := Aside0.mk A210
            clear A210
            by_cases c22 : t168 = 0
            · rw [if_pos c22] at H
              have c22b0 : (t168 == 0) = true := beq_iff_eq.mpr c22
              have c22b1 : (t168 != 0) = false := bne_eq_false_iff_eq.mpr c22
              clear c22
              replace H := Option.bind_eq_some_iff.mp H
              obtain ⟨⟨t169, t170⟩, A230, H⟩ := H
              replace H : ((descantlaw0_Num.f t170).bind fun t171 => (if t171 = 0 then (some (t169.toList == a2.toList)) else (some false))) = some r := H
              have A23 := Aside0.mk A230
              clear A230
              replace H := Option.bind_eq_some_iff.mp H
              obtain ⟨t171, A240, H⟩ := H
              replace H : (if t171 = 0 then (some (t169.toList == a2.toList)) else (some false)) = some r := H
              have A24 := Aside0.mk A240
              clear A240
              by_cases c25 : t171 = 0
              · rw [if_pos c25] at H
                have c25b0 : (t171 == 0) = true := beq_iff_eq.mpr c25
                have c25b1 : (t171 != 0) = false := bne_eq_false_iff_eq.mpr c25
                clear c25
                obtain rfl := Option.some.inj H
                go_wp2_with (first | ((with_reducible refine gate_callee (f := 23) rfl ?_); refine goesL_ (some 60) rfl rfl Try.func23 (by kernel_rfl) rfl #[.string a2] rfl (by (try simp only [List.map_toArray, List.map_cons, List.map_nil]); first | done | rfl | (simp only [List.length_drop, List.length_take]; rfl)) ?_; (with_reducible refine (field_Get.calls kj10 a2 t166 t167 _ A20.out).mono ?_); rintro e w' ⟨rfl, ⟨nd, rfl⟩⟩; refine ⟨_, rfl, ?_⟩) | ((with_reducible refine gate_callee (f := 19) rfl ?_); refine goesL_ (some 64) rfl rfl Try.func19 (by kernel_rfl) rfl #[.int .i64 t167] rfl (by (try simp only [List.map_toArray, List.map_cons, List.map_nil]); first | done | rfl | (simp only [List.length_drop, List.length_take]; rfl)) ?_; (with_reducible refine (descantlaw0_Num.calls t167 t168 _ A21.out).mono ?_); rintro e w' ⟨rfl, ⟨nd, rfl⟩⟩; refine ⟨_, rfl, ?_⟩) | ((with_reducible refine gate_callee (f := 21) rfl ?_); refine goesL_ (some 81) rfl rfl Try.func21 (by kernel_rfl) rfl #[.int .i64 t166, .int .i64 (a2.size : Int)] rfl (by (try simp only [List.map_toArray, List.map_cons, List.map_nil]); first | done | rfl | (simp only [List.length_drop, List.length_take]; rfl)) ?_; (with_reducible refine (field_Put.calls kj10 t166 (a2.size : Int) t169 t170 _ A23.out).mono ?_); rintro e w26 ⟨rfl, hb⟩; refine ⟨_, rfl, ?_⟩; have n0_ := Aside0.mk (below_step (by repeat (first | (with_reducible first | exact HB.out | apply below_alloc | apply pw_below_drewN | apply below_drew1) | exact HB.out)) hb); clear HB; have HB := n0_; clear n0_; (try clear hb); (try clear hb2); (try clear hk); (try clear hi)) | ((with_reducible refine gate_callee (f := 19) rfl ?_); refine goesL_ (some 85) rfl rfl Try.func19 (by kernel_rfl) rfl #[.int .i64 t170] rfl (by (try simp only [List.map_toArray, List.map_cons, List.map_nil]); first | done | rfl | (simp only [List.length_drop, List.length_take]; rfl)) ?_; (with_reducible refine (descantlaw0_Num.calls t170 t171 _ A24.out).mono ?_); rintro e w' ⟨rfl, ⟨nd, rfl⟩⟩; refine ⟨_, rfl, ?_⟩))
                go_ret
                exact ⟨by first | rfl | (simp [errW_none, errW_some] <;> rfl) | (simp only [← hji6, ← hji8]; first | rfl | (simp [errW_none, errW_some] <;> rfl)) | (simp [*, errW_none, errW_some] <;> rfl), by repeat (first | (with_reducible first | exact HB.out | apply below_alloc | apply pw_below_drewN | apply below_drew1) | exact HB.out)⟩
              · rw [if_neg c25] at H
                have c25b0 : (t171 == 0) = false := beq_eq_false_iff_ne.mpr c25
                have c25b1 : (t171 != 0) = true := bne_iff_ne.mpr c25
                obtain rfl := Option.some.inj H
                go_wp2_with (first | ((with_reducible refine gate_callee (f := 23) rfl ?_); refine goesL_ (some 60) rfl rfl Try.func23 (by kernel_rfl) rfl #[.string a2] rfl (by (try simp only [List.map_toArray, List.map_cons, List.map_nil]); first | done | rfl | (simp only [List.length_drop, List.length_take]; rfl)) ?_; (with_reducible refine (field_Get.calls kj10 a2 t166 t167 _ A20.out).mono ?_); rintro e w' ⟨rfl, ⟨nd, rfl⟩⟩; refine ⟨_, rfl, ?_⟩) | ((with_reducible refine gate_callee (f := 19) rfl ?_); refine goesL_ (some 64) rfl rfl Try.func19 (by kernel_rfl) rfl #[.int .i64 t167] rfl (by (try simp only [List.map_toArray, List.map_cons, List.map_nil]); first | done | rfl | (simp only [List.length_drop, List.length_take]; rfl)) ?_; (with_reducible refine (descantlaw0_Num.calls t167 t168 _ A21.out).mono ?_); rintro e w' ⟨rfl, ⟨nd, rfl⟩⟩; refine ⟨_, rfl, ?_⟩) | ((with_reducible refine gate_callee (f := 21) rfl ?_); refine goesL_ (some 81) rfl rfl Try.func21 (by kernel_rfl) rfl #[.int .i64 t166, .int .i64 (a2.size : Int)] rfl (by (try simp only [List.map_toArray, List.map_cons, List.map_nil]); first | done | rfl | (simp only [List.length_drop, List.length_take]; rfl)) ?_; (with_reducible refine (field_Put.calls kj10 t166 (a2.size : Int) t169 t170 _ A23.out).mono ?_); rintro e w27 ⟨rfl, hb⟩; refine ⟨_, rfl, ?_⟩; have n0_ := Aside0.mk (below_step (by repeat (first | (with_reducible first | exact HB.out | apply below_alloc | apply pw_below_drewN | apply below_drew1) | exact HB.out)) hb); clear HB; have HB := n0_; clear n0_; (try clear hb); (try clear hb2); (try clear hk); (try clear hi)) | ((with_reducible refine gate_callee (f := 19) rfl ?_); refine goesL_ (some 85) rfl rfl Try.func19 (by kernel_rfl) rfl #[.int .i64 t170] rfl (by (try simp only [List.map_toArray, List.map_cons, List.map_nil]); first | done | rfl | (simp only [List.length_drop, List.length_take]; rfl)) ?_; (with_reducible refine (descantlaw0_Num.calls t170 t171 _ A24.out).mono ?_); rintro e w' ⟨rfl, ⟨nd, rfl⟩⟩; refine ⟨_, rfl, ?_⟩))
                go_ret
                exact ⟨by first | rfl | (simp [errW_none, errW_some] <;> rfl) | (simp only [← hji6, ← hji8]; first | rfl | (simp [errW_none, errW_some] <;> rfl)) | (simp [*, errW_none, errW_some] <;> rfl), by repeat (first | (with_reducible first | exact HB.out | apply below_alloc | apply pw_below_drewN | apply below_drew1) | exact HB.out)⟩
            · rw [if_neg c22] at H
              have c22b0 : (t168 == 0) = false := beq_eq_false_iff_ne.mpr c22
              have c22b1 : (t168 != 0) = true := bne_iff_ne.mpr c22
              by_cases c28 : t166 = 0
              · rw [if_pos c28] at H
                have c28b0 : (t166 == 0) = true := beq_iff_eq.mpr c28
                have c28b1 : (t166 != 0) = false := bne_eq_false_iff_eq.mpr c28
                clear c28
                by_cases c29 : a2.toList = ([] : List UInt8)
                · rw [if_pos c29] at H
                  have c29b0 : (a2.toList == ([] : List UInt8)) = true := beq_iff_eq.mpr c29
                  have c29b1 : (a2.toList != ([] : List UInt8)) = false := bne_eq_false_iff_eq.mpr c29
                  clear c29
                  obtain rfl := Option.some.inj H
                  go_wp2_with (first | ((with_reducible refine gate_callee (f := 23) rfl ?_); refine goesL_ (some 60) rfl rfl Try.func23 (by kernel_rfl) rfl #[.string a2] rfl (by (try simp only [List.map_toArray, List.map_cons, List.map_nil]); first | done | rfl | (simp only [List.length_drop, List.length_take]; rfl)) ?_; (with_reducible refine (field_Get.calls kj10 a2 t166 t167 _ A20.out).mono ?_); rintro e w' ⟨rfl, ⟨nd, rfl⟩⟩; refine ⟨_, rfl, ?_⟩) | ((with_reducible refine gate_callee (f := 19) rfl ?_); refine goesL_ (some 64) rfl rfl Try.func19 (by kernel_rfl) rfl #[.int .i64 t167] rfl (by (try simp only [List.map_toArray, List.map_cons, List.map_nil]); first | done | rfl | (simp only [List.length_drop, List.length_take]; rfl)) ?_; (with_reducible refine (descantlaw0_Num.calls t167 t168 _ A21.out).mono ?_); rintro e w' ⟨rfl, ⟨nd, rfl⟩⟩; refine ⟨_, rfl, ?_⟩))
                  go_ret
                  exact ⟨by first | rfl | (simp [errW_none, errW_some] <;> rfl) | (simp only [← hji6, ← hji8]; first | rfl | (simp [errW_none, errW_some] <;> rfl)) | (simp [*, errW_none, errW_some] <;> rfl), by repeat (first | (with_reducible first | exact HB.out | apply below_alloc | apply pw_below_drewN | apply below_drew1) | exact HB.out)⟩
                · rw [if_neg c29] at H
                  have c29b0 : (a2.toList == ([] : List UInt8)) = false := beq_eq_false_iff_ne.mpr c29
                  have c29b1 : (a2.toList != ([] : List UInt8)) = true := bne_iff_ne.mpr c29
                  obtain rfl := Option.some.inj H
                  go_wp2_with (first | ((with_reducible refine gate_callee (f := 23) rfl ?_); refine goesL_ (some 60) rfl rfl Try.func23 (by kernel_rfl) rfl #[.string a2] rfl (by (try simp only [List.map_toArray, List.map_cons, List.map_nil]); first | done | rfl | (simp only [List.length_drop, List.length_take]; rfl)) ?_; (with_reducible refine (field_Get.calls kj10 a2 t166 t167 _ A20.out).mono ?_); rintro e w' ⟨rfl, ⟨nd, rfl⟩⟩; refine ⟨_, rfl, ?_⟩) | ((with_reducible refine gate_callee (f := 19) rfl ?_); refine goesL_ (some 64) rfl rfl Try.func19 (by kernel_rfl) rfl #[.int .i64 t167] rfl (by (try simp only [List.map_toArray, List.map_cons, List.map_nil]); first | done | rfl | (simp only [List.length_drop, List.length_take]; rfl)) ?_; (with_reducible refine (descantlaw0_Num.calls t167 t168 _ A21.out).mono ?_); rintro e w' ⟨rfl, ⟨nd, rfl⟩⟩; refine ⟨_, rfl, ?_⟩))
                  go_ret
                  exact ⟨by first | rfl | (simp [errW_none, errW_some] <;> rfl) | (simp only [← hji6, ← hji8]; first | rfl | (simp [errW_none, errW_some] <;> rfl)) | (simp [*, errW_none, errW_some] <;> rfl), by repeat (first | (with_reducible first | exact HB.out | apply below_alloc | apply pw_below_drewN | apply below_drew1) | exact HB.out)⟩
              · rw [if_neg c28] at H
                have c28b0 : (t166 == 0) = false := beq_eq_false_iff_ne.mpr c28
                have c28b1 : (t166 != 0) = true := bne_iff_ne.mpr c28
                obtain rfl := Option.some.inj H
                go_wp2_with (first | ((with_reducible refine gate_callee (f := 23) rfl ?_); refine goesL_ (some 60) rfl rfl Try.func23 (by kernel_rfl) rfl #[.string a2] rfl (by (try simp only [List.map_toArray, List.map_cons, List.map_nil]); first | done | rfl | (simp only [List.length_drop, List.length_take]; rfl)) ?_; (with_reducible refine (field_Get.calls kj10 a2 t166 t167 _ A20.out).mono ?_); rintro e w' ⟨rfl, ⟨nd, rfl⟩⟩; refine ⟨_, rfl, ?_⟩) | ((with_reducible refine gate_callee (f := 19) rfl ?_); refine goesL_ (some 64) rfl rfl Try.func19 (by kernel_rfl) rfl #[.int .i64 t167] rfl (by (try simp only [List.map_toArray, List.map_cons, List.map_nil]); first | done | rfl | (simp only [List.length_drop, List.length_take]; rfl)) ?_; (with_reducible refine (descantlaw0_Num.calls t167 t168 _ A21.out).mono ?_); rintro e w' ⟨rfl, ⟨nd, rfl⟩⟩; refine ⟨_, rfl, ?_⟩))
                go_ret
                exact ⟨by first | rfl | (simp [errW_none, errW_some] <;> rfl) | (simp only [← hji6, ← hji8]; first | rfl | (simp [errW_none, errW_some] <;> rfl)) | (simp [*, errW_none, errW_some] <;> rfl), by repeat (first | (with_reducible first | exact HB.out | apply below_alloc | apply pw_below_drewN | apply below_drew1) | exact HB.out)⟩
    · rw [if_neg c7] at H
      exact absurd H (by simp)
  · replace c5 := Bool.eq_false_iff.mpr c5
    subst c5
    have H1 : (some false) = some r := by rw [if_neg (show ¬ (false = true) by decide)] at H; exact H
    clear H
    have H := H1
    clear H1
    obtain rfl := Option.some.inj H
    go_enter Try.func9, Try.ntmps9
    go_wp2_with (first | ((with_reducible refine gate_callee (f := 25) rfl ?_); refine goesL_ (some 17) rfl rfl Try.func25 (by kernel_rfl) rfl #[] rfl (by (try simp only [List.map_toArray, List.map_cons, List.map_nil]); first | done | rfl | (simp only [List.length_drop, List.length_take]; rfl)) ?_; (with_reducible refine (descantlaw1_awake.calls k  false _ A4.out).mono ?_); rintro e w30 ⟨rfl, hb⟩; refine ⟨_, rfl, ?_⟩; have n0_ := Aside0.mk (below_step (by repeat (first | (with_reducible first | exact HB.out | apply below_alloc | apply pw_below_drewN | apply below_drew1) | exact HB.out)) hb); clear HB; have HB := n0_; clear n0_; (try clear hb); (try clear hb2); (try clear hk); (try clear hi)))
    go_ret
    exact ⟨by first | rfl | (simp [errW_none, errW_some] <;> rfl) | (simp [*, errW_none, errW_some] <;> rfl), by repeat (first | (with_reducible first | exact HB.out | apply below_alloc | apply pw_below_drewN | apply below_drew1) | exact HB.out)⟩

/-- THE ONE PURE STATEMENT of descantlaw1_FieldBack: yours. -/
def descantlaw1_FieldBack.Pure : Prop := ∀ (a0 : Int) (a1 : Int) (a2 : ByteArray), (Lit.int .i64 a0).wf = true → (Lit.int .i64 a1).wf = true → a2.size ≤ 140737488351232 → ∃ k, descantlaw1_FieldBack.f k a0 a1 a2 = some true
theorem descantlaw1_FieldBack.walk (P : descantlaw1_FieldBack.Pure) (a0 : Int) (a1 : Int) (a2 : ByteArray) (w : World) (w0 : (Lit.int .i64 a0).wf = true) (w1 : (Lit.int .i64 a1).wf = true) (w2 : a2.size ≤ 140737488351232) :
    Calls Try.prog 9 #[.int .i64 a0, .int .i64 a1, .string a2] w fun e w' => e = .returned (.bool true) ∧ Below w.heap.size w w' := by
  obtain ⟨k, h⟩ := P a0 a1 a2 w0 w1 w2
  refine (descantlaw1_FieldBack.calls k a0 a1 a2 true w h).mono ?_
  rintro e w' ⟨rfl, hd⟩
  exact ⟨rfl, hd⟩

end Go.Proofs.Ytjdffodhbejnjaa.PAll
