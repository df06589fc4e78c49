/- Layer 12: the document's Context: a contract by hand. -/
import Derived.Test.YtjdffodhbejnjaaCtx
namespace Go.Proofs.Ytjdffodhbejnjaa.PCt
open Go Go.RowKit Go.Proofs.YtjdffodhbejnjaaW.PrintWords Go.Proofs.YtjdffodhbejnjaaW.PrintMore Go.Proofs.YtjdffodhbejnjaaW.PrintLast
set_option linter.unusedVariables false
set_option linter.unusedSimpArgs false
attribute [local go_sem high] min2_I
attribute [local go_sem] min_two
theorem upTo_c (x lo hi : Int) (w : World) : Calls Try.prog 32 #[.int .i64 x, .int .i64 lo, .int .i64 hi] w fun e w' => e = .returned (.bool (decide (lo ≤ x ∧ x ≤ hi))) ∧ w' = w := by
  by_cases c : lo ≤ x
  · have c1 : decide (x ≥ lo) = true := decide_eq_true c
    have c2 : decide (lo ≤ x ∧ x ≤ hi) = decide (x ≤ hi) := by rw [decide_eq_decide]; omega
    rw [c2]
    clear c2
    go_enter Try.func32, Try.ntmps32
    go_wp2
    go_ret
    exact ⟨rfl, rfl⟩
  · have c1 : decide (x ≥ lo) = false := decide_eq_false (by omega)
    have c2 : decide (lo ≤ x ∧ x ≤ hi) = false := decide_eq_false (by omega)
    rw [c2]
    clear c2
    go_enter Try.func32, Try.ntmps32
    go_wp2
    go_ret
    exact ⟨rfl, rfl⟩
theorem bitMay_c (x : Int) (w : World) : Calls Try.prog 39 #[.int .i64 x] w fun e w' => e = .returned (.bool (isBit x)) ∧ w' = w := by
  by_cases c : x = 0
  · subst c
    go_enter Try.func39, Try.ntmps39
    go_wp2
    go_ret
    exact ⟨rfl, rfl⟩
  · have c1 : (x == 0) = false := by simpa using c
    have c2 : isBit x = (x == 1) := by unfold isBit; rw [Bool.eq_iff_iff]; simp [c]
    rw [c2]
    clear c2
    go_enter Try.func39, Try.ntmps39
    go_wp2
    go_ret
    exact ⟨rfl, rfl⟩
theorem ctxF_bad {before : Int} {bs : List Int} (h : ctxOk before bs = false) : ctxF before bs = (0, 0, 0, 1200) := by unfold ctxF; rw [h]; rfl
theorem no_bits {bs : List Int} {k : Nat} (hk : k < bs.length) (h : isBit (bs.getD k 0) = false) (before : Int) : ctxOk before bs = false := by
  unfold ctxOk; rw [all_no hk h, Bool.and_false]
abbrev Z3 : Obj := .cells #[.int .i64 0, .int .i64 0, .int .i64 0] 43
set_option maxHeartbeats 8000000 in
theorem refContext_c (before : Int) (A : Option Addr) (c0 : Nat) (bs : List Int) (W : World) (hr : (Kd.int .i64).C W A bs.length bs) (hc : bs.length ≤ c0) :
    Calls Try.prog 28 #[.int .i64 before, .slice A bs.length c0] W fun e w' => e = .returned (.tuple #[.agg #[.int .i64 (ctxF before bs).1, .int .i64 (ctxF before bs).2.1, .int .i64 (ctxF before bs).2.2.1], .int .i64 (ctxF before bs).2.2.2]) ∧ Below W.heap.size W w' := by
  have Hr := Lib.hid hr
  have Hr1 := Lib.hid (Kd.C_below hr (below_alloc (Below.refl _ _) Z3))
  by_cases h1 : 0 ≤ before ∧ before ≤ 63
  · have D1 := Lib.hid (decide_eq_true h1)
    obtain ⟨h0, h3⟩ := h1
    by_cases h4 : 63 < bs.length
    · have h5 : decide ((63 : Int) < (bs.length : Int)) = true := decide_eq_true (by omega)
      have E := Lib.hid (ctxF_bad (show ctxOk before bs = false by unfold ctxOk; rw [decide_eq_false (by omega)]; rfl))
      clear hr h0 h3
      go_enter Try.func28, Try.ntmps28
      go_wp2_with (go_at_call 32; refine (upTo_c _ _ _ _).mono ?_; rintro e w' ⟨rfl, hw⟩; have hw := hw.symm; subst hw; rw [D1.out])
      exact bodyPost_ret (v := .tuple #[.agg #[.int .i64 0, .int .i64 0, .int .i64 0], .int .i64 1200]) (by simp [results, Try.results28, go_sem]) rfl ⟨by rw [E.out], by repeat (first | with_reducible exact Below.refl _ _ | with_reducible apply below_alloc | with_reducible apply pw_below_drewN | refine below_set ?_ (Nat.le_refl _))⟩
    · have h5 : decide ((63 : Int) < (bs.length : Int)) = false := decide_eq_false (by omega)
      have h6 : bs.length ≤ 63 := by omega
      clear hr h4
      go_enter Try.func28, Try.ntmps28
      go_wp2_with (go_at_call 32; refine (upTo_c _ _ _ _).mono ?_; rintro e w' ⟨rfl, hw⟩; have hw := hw.symm; subst hw; rw [D1.out])
      go_loop [6] (fun i => ∃ k : Nat, k ≤ bs.length ∧ i = .int .i64 k ∧ ∀ j, j < k → isBit (bs.getD j 0) = true) (fun i => bs.length - (intOf i).toNat)
      case atStart => exact ⟨0, by omega, rfl, fun j hj => by omega⟩
      case round =>
        obtain ⟨k, hk, rfl, hok⟩ := hrel
        have Hok := Lib.hid hok; clear hok
        by_cases hlt : k < bs.length
        · obtain ⟨ad, rfl, hx⟩ := elem_c Hr1.out hlt
          obtain ⟨x, hxe⟩ : ∃ x, x = bs.getD k 0 := ⟨_, rfl⟩
          rw [← hxe] at hx
          have Hx := Lib.hid hxe
          clear hxe
          cases hin : isBit x
          · have E := Lib.hid (ctxF_bad (no_bits hlt (by rw [← Hx.out]; exact hin) before))
            go_wp2_with (go_at_call 39; refine (bitMay_c _ _).mono ?_; rintro e w' ⟨rfl, hw⟩; have hw := hw.symm; subst hw; rw [hin])
            exact bodyPost_ret (v := .tuple #[.agg #[.int .i64 0, .int .i64 0, .int .i64 0], .int .i64 1200]) (by simp [results, Try.results28, go_sem]) rfl ⟨by rw [E.out], by repeat (first | with_reducible exact Below.refl _ _ | with_reducible apply below_alloc | with_reducible apply pw_below_drewN | refine below_set ?_ (Nat.le_refl _))⟩
          · go_wp2_with (go_at_call 39; refine (bitMay_c _ _).mono ?_; rintro e w' ⟨rfl, hw⟩; have hw := hw.symm; subst hw; rw [hin])
            go_round
            case rel =>
              refine ⟨k + 1, by omega, by go_num, fun j hj => ?_⟩
              by_cases hjk : j = k
              · rw [hjk, ← Hx.out]; exact hin
              · exact Hok.out j (by omega)
            case measure => simp [intOf]; omega
        · have hk2 : k = bs.length := by omega
          subst hk2
          have ha := all_yes (fun j hj => Hok.out j hj)
          have G := Lib.hid (refOnes_is bs (by omega))
          have ol := ones_le bs
          obtain ⟨x, hx⟩ : ∃ x, x = mnI 31 (ones bs : Int) := ⟨_, rfl⟩
          obtain ⟨y, hy⟩ : ∃ y, y = mnI 31 before := ⟨_, rfl⟩
          obtain ⟨z, hz⟩ : ∃ z, z = mnI 31 (bs.length : Int) := ⟨_, rfl⟩
          have hx' : x = min (ones bs : Int) 31 := by rw [hx, mnI_min]; omega
          have hy' : y = min before 31 := by rw [hy, mnI_min]; omega
          have hz' : z = min (bs.length : Int) 31 := by rw [hz, mnI_min]; omega
          have x0 : 0 ≤ x := by omega
          have x1 : x ≤ 31 := by omega
          have y0 : 0 ≤ y := by omega
          have y1 : y ≤ 31 := by omega
          have z0 : 0 ≤ z := by omega
          have z1 : z ≤ 31 := by omega
          have F : Hid (ctxF before bs = (x + (if ones bs < bs.length then 32 else 0), 2 * y + (if ones bs < bs.length then 1 else 0), z + (if lastOne bs = true then 32 else 0), 0)) := Lib.hid (by unfold ctxF ctxOk; rw [if_pos (by rw [decide_eq_true (by omega), ha]; rfl), hx', hy', hz'])
          have HX := Lib.hid hx
          have HY := Lib.hid hy
          have HZ := Lib.hid hz
          have hx2 : mnI 31 (ones bs : Int) = x := hx.symm
          have hy2 : mnI 31 before = y := hy.symm
          have hz2 : mnI 31 (bs.length : Int) = z := hz.symm
          clear hx hy hz hx' hy' hz' ha Hok
          by_cases hl : 0 < bs.length
          · obtain ⟨ad, rfl, lc⟩ := last_at hl Hr.out
            obtain ⟨q, hq⟩ : ∃ q, q = rd bs ((bs.length : Int) - 1) := ⟨_, rfl⟩
            rw [← hq] at lc
            have HL : Hid (lastOne bs = decide (q = 1)) := Lib.hid (by unfold lastOne; rw [← hq, decide_eq_decide]; omega)
            clear hq
            by_cases c : ones bs < bs.length
            · have C := Lib.hid c
              clear c
              by_cases q1 : q = 1
              · subst q1
                have FX := Lib.hid F.out
                rw [if_pos C.out, if_pos C.out, HL.out, if_pos (by decide)] at FX
                go_wp2_with fail
                refine (descantref1_Ones.calls _ _ _ bs _ _ Hr1.out hc G.out).mono ?_
                rintro e w1 ⟨rfl, n, rfl⟩
                have lc2 : ∀ o : Obj, (((W.alloc Z3).drewN n).alloc o).cell? (ad.add (bs.length - 1)) = some (.int .i64 1) := fun o => (Below.cell ((pw_below_drewN (below_alloc (Below.refl _ _) _) n).alloc (by simp) o) (World.block_lt_of_cell? W _ lc)).trans lc
                have dz : decide ((ones bs : Int) < (bs.length : Int)) = true := by exact decide_eq_true (by have := C.out; omega)
                have dz2 : decide (ones bs < bs.length) = true := by exact decide_eq_true C.out
                go_wp2_with fail
                exact bodyPost_ret (v := .tuple #[.agg #[.int .i64 (x + 32), .int .i64 (2 * y + 1), .int .i64 (z + 32)], .int .i64 0]) (by simp [results, Try.results28, go_sem]) rfl ⟨by first | (rw [FX.out]; done) | (rw [FX.out]; simp; done), by repeat (first | with_reducible exact Below.refl _ _ | with_reducible apply below_alloc | with_reducible apply pw_below_drewN | refine below_set ?_ (Nat.le_refl _))⟩
              · have q2 : (q == 1) = false := by simpa using q1
                have FX := Lib.hid F.out
                rw [if_pos C.out, if_pos C.out, HL.out, if_neg (by simpa using q1)] at FX
                clear q1
                go_wp2_with fail
                refine (descantref1_Ones.calls _ _ _ bs _ _ Hr1.out hc G.out).mono ?_
                rintro e w1 ⟨rfl, n, rfl⟩
                have lc2 : ∀ o : Obj, (((W.alloc Z3).drewN n).alloc o).cell? (ad.add (bs.length - 1)) = some (.int .i64 q) := fun o => (Below.cell ((pw_below_drewN (below_alloc (Below.refl _ _) _) n).alloc (by simp) o) (World.block_lt_of_cell? W _ lc)).trans lc
                have dz : decide ((ones bs : Int) < (bs.length : Int)) = true := by exact decide_eq_true (by have := C.out; omega)
                have dz2 : decide (ones bs < bs.length) = true := by exact decide_eq_true C.out
                go_wp2_with fail
                exact bodyPost_ret (v := .tuple #[.agg #[.int .i64 (x + 32), .int .i64 (2 * y + 1), .int .i64 (z)], .int .i64 0]) (by simp [results, Try.results28, go_sem]) rfl ⟨by first | (rw [FX.out]; done) | (rw [FX.out]; simp; done), by repeat (first | with_reducible exact Below.refl _ _ | with_reducible apply below_alloc | with_reducible apply pw_below_drewN | refine below_set ?_ (Nat.le_refl _))⟩
            · have C := Lib.hid c
              clear c
              by_cases q1 : q = 1
              · subst q1
                have FX := Lib.hid F.out
                rw [if_neg C.out, if_neg C.out, HL.out, if_pos (by decide)] at FX
                go_wp2_with fail
                refine (descantref1_Ones.calls _ _ _ bs _ _ Hr1.out hc G.out).mono ?_
                rintro e w1 ⟨rfl, n, rfl⟩
                have lc2 : ∀ o : Obj, (((W.alloc Z3).drewN n).alloc o).cell? (ad.add (bs.length - 1)) = some (.int .i64 1) := fun o => (Below.cell ((pw_below_drewN (below_alloc (Below.refl _ _) _) n).alloc (by simp) o) (World.block_lt_of_cell? W _ lc)).trans lc
                have dz : decide ((ones bs : Int) < (bs.length : Int)) = false := by exact decide_eq_false (by have := C.out; omega)
                have dz2 : decide (ones bs < bs.length) = false := by exact decide_eq_false C.out
                go_wp2_with fail
                exact bodyPost_ret (v := .tuple #[.agg #[.int .i64 (x), .int .i64 (2 * y), .int .i64 (z + 32)], .int .i64 0]) (by simp [results, Try.results28, go_sem]) rfl ⟨by first | (rw [FX.out]; done) | (rw [FX.out]; simp; done), by repeat (first | with_reducible exact Below.refl _ _ | with_reducible apply below_alloc | with_reducible apply pw_below_drewN | refine below_set ?_ (Nat.le_refl _))⟩
              · have q2 : (q == 1) = false := by simpa using q1
                have FX := Lib.hid F.out
                rw [if_neg C.out, if_neg C.out, HL.out, if_neg (by simpa using q1)] at FX
                clear q1
                go_wp2_with fail
                refine (descantref1_Ones.calls _ _ _ bs _ _ Hr1.out hc G.out).mono ?_
                rintro e w1 ⟨rfl, n, rfl⟩
                have lc2 : ∀ o : Obj, (((W.alloc Z3).drewN n).alloc o).cell? (ad.add (bs.length - 1)) = some (.int .i64 q) := fun o => (Below.cell ((pw_below_drewN (below_alloc (Below.refl _ _) _) n).alloc (by simp) o) (World.block_lt_of_cell? W _ lc)).trans lc
                have dz : decide ((ones bs : Int) < (bs.length : Int)) = false := by exact decide_eq_false (by have := C.out; omega)
                have dz2 : decide (ones bs < bs.length) = false := by exact decide_eq_false C.out
                go_wp2_with fail
                exact bodyPost_ret (v := .tuple #[.agg #[.int .i64 (x), .int .i64 (2 * y), .int .i64 (z)], .int .i64 0]) (by simp [results, Try.results28, go_sem]) rfl ⟨by first | (rw [FX.out]; done) | (rw [FX.out]; simp; done), by repeat (first | with_reducible exact Below.refl _ _ | with_reducible apply below_alloc | with_reducible apply pw_below_drewN | refine below_set ?_ (Nat.le_refl _))⟩
          · have c : ¬ ones bs < bs.length := by have := ones_le bs; omega
            have hl2 : ¬ (lastOne bs = true) := by unfold lastOne; simp; omega
            have FX := Lib.hid F.out
            rw [if_neg c, if_neg c, if_neg hl2] at FX
            have C := Lib.hid c
            obtain rfl : bs = [] := List.length_eq_zero_iff.1 (by omega)
            have hx3 : mnI 31 0 = x := hx2
            clear c hl2 hl
            have hzx : z = x := hz2.symm.trans hx3
            subst hzx
            go_wp2_with fail
            refine (descantref1_Ones.calls _ _ _ ([] : List Int) _ _ Hr1.out hc G.out).mono ?_
            rintro e w1 ⟨rfl, n, rfl⟩
            have dz : decide ((ones [] : Int) < (([] : List Int).length : Int)) = false := by exact decide_eq_false (by have := C.out; omega)
            have dz2 : decide (ones [] < ([] : List Int).length) = false := by exact decide_eq_false C.out
            go_wp2_with fail
            exact bodyPost_ret (v := .tuple #[.agg #[.int .i64 (z), .int .i64 (2 * y), .int .i64 (z)], .int .i64 0]) (by simp [results, Try.results28, go_sem]) rfl ⟨by first | (rw [FX.out]; done) | (rw [FX.out]; simp; done), by repeat (first | with_reducible exact Below.refl _ _ | with_reducible apply below_alloc | with_reducible apply pw_below_drewN | refine below_set ?_ (Nat.le_refl _))⟩
  · have D1 := Lib.hid (decide_eq_false h1)
    have E := Lib.hid (ctxF_bad (show ctxOk before bs = false by unfold ctxOk; rw [decide_eq_false (by omega)]; rfl))
    clear hr h1
    go_enter Try.func28, Try.ntmps28
    go_wp2_with (go_at_call 32; refine (upTo_c _ _ _ _).mono ?_; rintro e w' ⟨rfl, hw⟩; have hw := hw.symm; subst hw; rw [D1.out])
    exact bodyPost_ret (v := .tuple #[.agg #[.int .i64 0, .int .i64 0, .int .i64 0], .int .i64 1200]) (by simp [results, Try.results28, go_sem]) rfl ⟨by rw [E.out], by repeat (first | with_reducible exact Below.refl _ _ | with_reducible apply below_alloc | with_reducible apply pw_below_drewN | refine below_set ?_ (Nat.le_refl _))⟩
end Go.Proofs.Ytjdffodhbejnjaa.PCt
