/- A part of the proof of a law of descanttop: this session's own texts and printed texts, shortened and joined. -/
import Derived.Test.YtnoibcdojfnicaaGreatDoorE13
set_option linter.unusedVariables false
set_option linter.unusedSimpArgs false
set_option maxRecDepth 100000
set_option maxHeartbeats 16000000
namespace Go.Proofs.YtnoibcdojfnicaaGreatDoor.PS
open Go.Proofs.YtnoibcdojfnicaaGreatDoorW.Short
open Bool renaming true → Y, false → J
open Go Go.RowKit Go.Proofs.YtnoibcdojfnicaaGreatDoorW.PrintWords Go.Proofs.YtnoibcdojfnicaaGreatDoorW.PrintMore Go.Proofs.YtnoibcdojfnicaaGreatDoorW.PrintLast
def inS (x : Int) : Bool := decide (-131072 ≤ x ∧ x ≤ 131072)
def allS (xs : List Int) : Bool := xs.all inS
def mayL (chs : List (List Int)) : Bool := chs.all (fun xs => decide (xs.length = (chs.headD []).length) && allS xs) && decide (chs.length = 1 ∨ chs.length = 2)
theorem rb2 {a b : Bool} (h : a = b) : Ending.returned (.bool a) = .returned (.bool b) := by rw [h]
theorem odd_c (x : Int) (w : World) : Calls Tryz.prog 154 #[.int .i64 x] w fun e w' => e = .returned (.bool (!inS x)) ∧ w' = w := by
 by_cases c : -131072 ≤ x
 ·have c1 : decide (x ≥ -131072) = true := decide_eq_true c
  go_enter Tryz.func154, Tryz.ntmps154
  go_wp2
  go_ret
  exact ⟨by simp [inS, c], rfl⟩
 ·have c1 : decide (x ≥ -131072) = false := decide_eq_false (by omega)
  go_enter Tryz.func154, Tryz.ntmps154
  go_wp2
  go_ret
  exact ⟨by simp [inS]; omega, rfl⟩
theorem elem_c {w : World} {A : Option Addr} {xs : List Int} (h : (Kd.int .i64).C w A xs.length xs) {k : Nat} (hk : k < xs.length) : ∃ ad, A = some ad ∧ w.cell? (ad.add k) = some (.int .i64 (xs.getD k 0)) := by
 obtain ⟨ad, e, hx⟩ := Kd.at_int h (k : Int) (by omega) (by omega)
 rw [Int.toNat_natCast] at hx
 refine ⟨ad, e, ?_⟩
 rw [hx]
 simp [rd]
theorem all_no {xs : List Int} {k : Nat} (hk : k < xs.length) (h : inS (xs.getD k 0) = false) : allS xs = false := by
 unfold allS
 rw [List.all_eq_false]
 exact ⟨xs[k], List.getElem_mem hk, b62_⟩
theorem all_yes {xs : List Int} (h : ∀ j, j < xs.length → inS (xs.getD j 0) = true) : allS xs = true := by
 unfold allS
 rw [List.all_eq_true]
 intro x hx
 obtain ⟨j, hj, rfl⟩ := List.getElem_of_mem hx
 have := h j hj
 rw [List.getD_eq_getElem?_getD, List.getElem?_eq_getElem hj] at this
 exact this
theorem index_c (A : Option Addr) (c0 : Nat) (xs : List Int) (W : World) (hb : xs.length ≤ 17592186044416) (hr : (Kd.int .i64).C W A xs.length xs) : Calls Tryz.prog 120 #[.slice A xs.length c0, .func (Fn.func 154) #[] #[]] W fun e w' => ∃ i : Int, e = .returned (.int .i64 i) ∧ w' = W ∧ decide (i ≥ 0) = !allS xs := by
 have Hr := Lib.hid hr
 clear hr
 go_enter Tryz.func120, Tryz.ntmps120
 go_wp2_with fail
 go_loop [8] (fun i => ∃ k : Nat, k ≤ xs.length ∧ i = .int .i64 k ∧ ∀ j, j < k → inS (xs.getD j 0) = true) (fun i => xs.length - (intOf i).toNat)
 case atStart => exact ⟨0, by omega, rfl, fun j hj => by omega⟩
 case round =>
  obtain ⟨k, hk, rfl, hok⟩ := hrel
  have Hok := Lib.hid hok; clear hok
  by_cases hlt : k < xs.length
  ·obtain ⟨ad, rfl, hx⟩ := elem_c Hr.out hlt
   obtain ⟨x, hxe⟩ : ∃ x, x = xs.getD k 0 := ⟨_, rfl⟩
   rw [← hxe] at hx
   have Hx := Lib.hid hxe
   clear hxe
   cases hin : inS x
   ·have hno := Lib.hid (all_no hlt b80_)
    go_wp2_with (go_at_call 154; refine (odd_c _ _).mono ?_; rintro e w' ⟨rfl, rfl⟩; rw [hin])
    go_ret
    exact ⟨(k : Int), rfl, rfl, b77_⟩
   ·go_wp2_with (go_at_call 154; refine (odd_c _ _).mono ?_; rintro e w' ⟨rfl, rfl⟩; rw [hin])
    go_round
    case rel =>
     refine ⟨k + 1, by omega, by go_num, fun j hj => ?_⟩
     by_cases hjk : j = k
     ·rw [hjk, ← Hx.out]; exact hin
     ·exact Hok.out j (by omega)
    case measure => simp [intOf]; omega
  ·have hyes := Lib.hid (all_yes (fun j hj => Hok.out j (by omega)))
   go_wp2_with fail
   go_ret
   exact ⟨-1, rfl, rfl, by rw [hyes.out]; rfl⟩
theorem contains_c (A : Option Addr) (c0 : Nat) (xs : List Int) (W : World) (hb : xs.length ≤ 17592186044416) (hr : (Kd.int .i64).C W A xs.length xs) : Calls Tryz.prog 64 #[.slice A xs.length c0, .func (Fn.func 154) #[] #[]] W fun e w' => e = .returned (.bool (!allS xs)) ∧ w' = W := by
 go_enter Tryz.func64, Tryz.ntmps64
 go_wp2_with fail
 refine (index_c A c0 xs W hb hr).mono ?_
 rintro e w' ⟨i, rfl, hw, hi⟩
 have hw := hw.symm
 subst hw
 go_wp2_with fail
 go_ret
 exact ⟨rfl, rfl⟩
theorem may_no1 {chs : List (List Int)} {k : Nat} (hk : k < chs.length) (h : ¬ ((chs.getD k []).length = (chs.headD []).length ∧ allS (chs.getD k []) = true)) : mayL chs = false := by
 unfold mayL
 rw [Bool.and_eq_false_iff]
 left
 rw [List.all_eq_false]
 refine ⟨chs[k], List.getElem_mem hk, ?_⟩
 rw [List.getD_eq_getElem?_getD, List.getElem?_eq_getElem hk] at h
 simpa using h
theorem may_yes1 {chs : List (List Int)} (h : ∀ j, j < chs.length → (chs.getD j []).length = (chs.headD []).length ∧ allS (chs.getD j []) = true) : mayL chs = decide (chs.length = 1 ∨ chs.length = 2) := by
 unfold mayL
 have : chs.all (fun xs => decide (xs.length = (chs.headD []).length) && allS xs) = true := by
  rw [List.all_eq_true]
  intro xs hx
  obtain ⟨j, hj, rfl⟩ := List.getElem_of_mem hx
  have := h j hj
  rw [List.getD_eq_getElem?_getD, List.getElem?_eq_getElem hj] at this
  simpa using this
 rw [this, Bool.true_and]
theorem head_0 (chs : List (List Int)) : chs.getD 0 [] = chs.headD [] := by cases chs <;> rfl
theorem row_c {w : World} {A : Option Addr} {chs : List (List Int)} (h : Kd.C (Kd.slice 3 (Kd.int .i64)) w A chs.length chs) {k : Nat} (hk : k < chs.length) : ∃ ad A0 c0, A = some ad ∧ w.cell? (ad.add k) = some (.slice A0 (chs.getD k []).length c0) ∧ (Kd.int .i64).C w A0 (chs.getD k []).length (chs.getD k []) := by
 obtain ⟨ad, A0, c0, e, h1, h2, h3⟩ := at_L1 h (k : Int) (by omega) (by omega)
 have er : rd_L1 chs (k : Int) = chs.getD k [] := by simp [rd_L1]
 rw [er] at h1 h3
 rw [Int.toNat_natCast] at h1
 exact ⟨ad, A0, c0, e, h1, h3⟩
theorem sideMay_c (A : Option Addr) (c0 : Nat) (chs : List (List Int)) (W : World) (hb : chs.length ≤ 17592186044416) (hbs : ∀ xs ∈ chs, xs.length ≤ 17592186044416) (hr : Kd.C (Kd.slice 3 (Kd.int .i64)) W A chs.length chs) : Calls Tryz.prog 129 #[.slice A chs.length c0] W fun e w' => e = .returned (.bool (mayL chs)) ∧ w' = W := by
 have Hr := Lib.hid hr
 clear hr
 go_enter Tryz.func129, Tryz.ntmps129
 go_wp2_with fail
 go_loop [7] (fun i => ∃ k : Nat, k ≤ chs.length ∧ i = .int .i64 k ∧ ∀ j, j < k → (chs.getD j []).length = (chs.headD []).length ∧ allS (chs.getD j []) = true) (fun i => chs.length - (intOf i).toNat)
 case atStart => exact ⟨0, by omega, rfl, fun j hj => by omega⟩
 case round =>
  obtain ⟨k, hk, rfl, hok⟩ := hrel
  have Hok := Lib.hid hok; clear hok
  by_cases hlt : k < chs.length
  ·obtain ⟨ad, A0, c1, rfl, hx, hC⟩ := row_c Hr.out hlt
   obtain ⟨ad2, A2, c2, e2, hx2, _⟩ := row_c Hr.out (show 0 < chs.length by omega)
   obtain rfl := Option.some.inj e2
   rw [head_0] at hx2
   rw [Addr.add_zero'] at hx2
   have h0 : 0 < chs.length := by omega
   have HC := Lib.hid hC
   obtain ⟨xs, hxs⟩ : ∃ xs, xs = chs.getD k [] := ⟨_, rfl⟩
   obtain ⟨m, hm⟩ : ∃ m, m = (chs.headD []).length := ⟨_, rfl⟩
   have hbx : xs.length ≤ 17592186044416 := by
    rw [hxs, List.getD_eq_getElem?_getD, List.getElem?_eq_getElem hlt]
    exact hbs _ (List.getElem_mem hlt)
   rw [← hxs] at hx HC
   rw [← hm] at hx2
   have Hxs := Lib.hid hxs
   have Hm := Lib.hid hm
   clear hxs hm hC e2
   by_cases hl : xs.length = m
   ·subst hl
    cases hin : allS xs
    ·have hno := Lib.hid (may_no1 hlt (fun h => by rw [← Hxs.out, hin] at h; exact absurd h.2 (by decide)))
     go_wp2_with (go_at_call 64; refine (contains_c _ _ xs _ hbx HC.out).mono ?_; rintro e w' ⟨rfl, hw⟩; have hw := hw.symm; subst hw; rw [hin])
     go_ret
     exact ⟨rb2 hno.out.symm, rfl⟩
    ·go_wp2_with (go_at_call 64; refine (contains_c _ _ xs _ hbx HC.out).mono ?_; rintro e w' ⟨rfl, hw⟩; have hw := hw.symm; subst hw; rw [hin])
     go_round
     case rel =>
      refine ⟨k + 1, by omega, by go_num, fun j hj => ?_⟩
      by_cases hjk : j = k
      ·rw [hjk, ← Hxs.out, ← Hm.out]; exact ⟨rfl, hin⟩
      ·exact Hok.out j (by omega)
     case measure => simp [intOf]; omega
   ·have hl2 : ((xs.length : Int) != (m : Int)) = true := by rw [bne_iff_ne]; omega
    have hno := Lib.hid (may_no1 hlt (fun h => by rw [← Hxs.out, ← Hm.out] at h; exact hl h.1))
    go_wp2_with fail
    go_ret
    exact ⟨rb2 hno.out.symm, rfl⟩
  ·have hyes := Lib.hid (may_yes1 (fun j hj => Hok.out j (by omega)))
   by_cases h1 : chs.length = 1
   ·have e1 : ((chs.length : Int) == 1) = true := by rw [beq_iff_eq]; omega
    go_wp2_with fail
    go_ret
    exact ⟨rb2 (by rw [hyes.out, decide_eq_true (Or.inl h1)]), rfl⟩
   ·have e1 : ((chs.length : Int) == 1) = false := by rw [beq_eq_false_iff_ne]; omega
    go_wp2_with fail
    go_ret
    exact ⟨rb2 (by rw [hyes.out]; by_cases h2 : chs.length = 2 <;> simp [h1, h2] <;> omega), rfl⟩
theorem infoS : (Tryz.prog.info? 3).map (fun i => (i.zero, i.size, i.bytes)) = some (some (.int .i64 0), 1, 8) := by kernel_rfl
theorem clone_c (A : Option Addr) (c0 : Nat) (xs : List Int) (W : World) (hb : xs.length ≤ 17592186044416) (hr : (Kd.int .i64).C W A xs.length xs) : Calls Tryz.prog 85 #[.slice A xs.length c0] W fun e w' => ∃ v, e = .returned v ∧ (Kd.int .i64).R 3 w' W.heap.size (fun _ => True) v xs ∧ Below W.heap.size W w' := by
 cases A with
 | none =>
  have h0 : xs.length = 0 := by
   rcases Nat.eq_zero_or_pos xs.length with h | h
   ·exact h
   ·obtain ⟨ad, e, _⟩ := elem_c hr h
    cases e
  have hx : xs = [] := List.length_eq_zero_iff.1 h0
  subst hx
  have eq1 := fun w : World => Lib.run_eql_slice_nil (P := Tryz.prog) w 22 3 none 0 c0 0 0 Tryz.underlying22
  go_enter Tryz.func85, Tryz.ntmps85
  go_wp2_with fail
  go_ret
  exact ⟨_, rfl, Kd.R_nil _ _ _ _ _, Below.refl _ _⟩
 | some ad =>
  have Hr := Lib.hid hr
  clear hr
  have eq1 := fun w : World => Lib.run_eql_slice_nil (P := Tryz.prog) w 22 3 (some ad) xs.length c0 0 0 Tryz.underlying22
  go_enter Tryz.func85, Tryz.ntmps85
  go_wp2_with (first | ((with_reducible refine gate_dst (N := 5) rfl ?_); refine Kd.R_lit (Kd.int .i64) _ 3 ?hg (N := 5) ?hd (xs := ([] : List Int)) (inner := []) (ok := fun _ => True) (okp := fun _ => True) ?hr ?hp (fun _ hk => hk) trivial (Below.refl _ _) (Nat.le_refl _) (by simp) ?_; (case hd => rfl); (case hg => rfl); (case hr => first | (go_simp; done) | (go_simp; rfl)); (case hp => exact (Reps.none _ _)); intro v1 w3 ho4 hb2 hg_ hnew_; clear hg_ hnew_; have HO := Lib.hid ho4; have HB := Lib.hid hb2; clear hb2 ho4) | ((with_reducible refine gate_builtin (b := .append) (xs := #[.tmp 5, .tmp 6]) rfl ?_); at_builtin; refine Kd.R_append_rows (Kd.int .i64) (w0 := W) W.heap.size rfl (.tmp 5) (.tmp 6) 22 3 (.int .i64 0) 8 rfl Tryz.underlying22 infoS rfl (by decide) (by omega) _ [] xs _ _ _ (fun _ => True) (fun _ => False) rfl rfl ?aO ?aR (fun _ _ h => h) (fun _ h => h.elim) ?aF ?aB ?aS ?aL ?_; (case aR => exact Kd.C_below Hr.out HB.out); (case aB => exact HB.out); (case aF => exact (fun _ _ => trivial)); (case aO => exact HO.out); (case aS => exact HB.out.size); (case aL => simp; omega); intro v2 w5 ho hb3 hg hat; have HO2 := Lib.hid ho; have HB2 := Lib.hid hb3; clear ho hb3 hg hat))
  go_ret
  exact ⟨_, rfl, HO2.out, HB2.out⟩
end Go.Proofs.YtnoibcdojfnicaaGreatDoor.PS
namespace Go.Proofs.YtnoibcdojfnicaaGreatDoor.PG
open Go.Proofs.YtnoibcdojfnicaaGreatDoorW.Short
open Bool renaming true → Y, false → J
open Go.RowKit Go.Proofs.YtnoibcdojfnicaaGreatDoorW.PrintWords Go.Proofs.YtnoibcdojfnicaaGreatDoorW.PrintLast Go.Proofs.YtnoibcdojfnicaaGreatDoorW.PrintMore
attribute [local go_sem] max2_int min2_int max_two min_two max_three min_three max_four min_four
def line_Put.f (l0 : List Int) : Option (List Int × Int) := some (PL.lineOf PL.putOne l0)
theorem line_Put.calls (A0 : Option Addr) (c0 : Nat) (l0 : List Int) (r1 : List Int) (r2 : Int) (w : World) (hr0 : Kd.C (Kd.int .i64) w A0 l0.length l0) (hc0 : l0.length ≤ c0) (h : line_Put.f l0 = some (r1, r2)) :
  Calls Tryz.prog 25 #[.slice A0 l0.length c0] w fun e w' => ∃ v0_ : Value, e = .returned (.tuple #[v0_, .int .i64 r2]) ∧ Kd.R (Kd.int .i64) 3 w' w.heap.size (fun _ => True) v0_ r1 ∧ Below w.heap.size w w' := by
 have e : PL.lineOf PL.putOne l0 = (r1, r2) := Option.some.inj h
 refine (PL.linePut_c A0 c0 l0 w hr0 hc0).mono ?_
 rintro e' w' ⟨v, rfl, hR, hB⟩
 rw [e] at hR
 exact ⟨v, by rw [e], hR, hB⟩
def slices_Clone_int_int.f (l0 : List Int) : Option (List Int) := if l0.length ≤ 17592186044416 then some l0 else none
theorem slices_Clone_int_int.calls (A0 : Option Addr) (c0 : Nat) (l0 : List Int) (r : List Int) (w : World) (hr0 : Kd.C (Kd.int .i64) w A0 l0.length l0) (hc0 : l0.length ≤ c0) (h : slices_Clone_int_int.f l0 = some r) :
  Calls Tryz.prog 85 #[.slice A0 l0.length c0] w fun e w' => ∃ v0_ : Value, e = .returned (v0_) ∧ Kd.R (Kd.int .i64) 3 w' w.heap.size (fun _ => True) v0_ r ∧ Below w.heap.size w w' := by
 unfold slices_Clone_int_int.f at h
 split at h
 · rename_i hc
   obtain rfl := Option.some.inj h
   exact PSh.clone_c A0 c0 l0 w hc hr0
 · cases h
def shift_Down.f (l0 : List Int) (a1 : Int) : Option (List Int × Int) := if l0.length ≤ 17592186044416 then some (PSh.downF l0 a1) else none
theorem shift_Down.calls (A0 : Option Addr) (c0 : Nat) (l0 : List Int) (a1 : Int) (r1 : List Int) (r2 : Int) (w : World) (hr0 : Kd.C (Kd.int .i64) w A0 l0.length l0) (hc0 : l0.length ≤ c0) (h : shift_Down.f l0 a1 = some (r1, r2)) :
  Calls Tryz.prog 30 #[.slice A0 l0.length c0, .int .i64 a1] w fun e w' => ∃ v0_ : Value, e = .returned (.tuple #[v0_, .int .i64 r2]) ∧ Kd.R (Kd.int .i64) 3 w' w.heap.size (fun _ => True) v0_ r1 ∧ Below w.heap.size w w' := by
 unfold shift_Down.f at h
 split at h
 · rename_i hc
   have e : PSh.downF l0 a1 = (r1, r2) := Option.some.inj h
   have h2 := PSh.down_c A0 c0 l0 a1 w hc hr0
   rw [e] at h2
   exact h2
 · cases h
def side_May.f (l0 : List (List Int)) : Option (Bool) := if l0.length ≤ 17592186044416 ∧ l0.all (fun xs => decide (xs.length ≤ 17592186044416)) = true then some (PS.mayL l0) else none
theorem side_May.calls (A0 : Option Addr) (c0 : Nat) (l0 : List (List Int)) (r : Bool) (w : World) (hr0 : Kd.C (Kd.slice 3 (Kd.int .i64)) w A0 l0.length l0) (hc0 : l0.length ≤ c0) (h : side_May.f l0 = some r) :
  Calls Tryz.prog 129 #[.slice A0 l0.length c0] w fun e w' => e = .returned (.bool r) ∧ Drawn0 w w' := by
 unfold side_May.f at h
 split at h
 · rename_i hc
   refine (PS.sideMay_c A0 c0 l0 w hc.1 (fun xs hx => of_decide_eq_true (List.all_eq_true.1 hc.2 xs hx)) hr0).mono ?_
   rintro e w' ⟨rfl, rfl⟩
   exact ⟨by rw [Option.some.inj h], Drawn0.refl _⟩
 · cases h
end Go.Proofs.YtnoibcdojfnicaaGreatDoor.PG
namespace Go.Proofs.YtnoibcdojfnicaaGreatDoor.PG
open Go.Proofs.YtnoibcdojfnicaaGreatDoorW.Short
open Bool renaming true → Y, false → J
open Go.RowKit Go.Proofs.YtnoibcdojfnicaaGreatDoorW.PrintWords Go.Proofs.YtnoibcdojfnicaaGreatDoorW.PrintLast Go.Proofs.YtnoibcdojfnicaaGreatDoorW.PrintMore
attribute [local go_sem] max2_int min2_int max_two min_two max_three min_three max_four min_four
mutual
def side_turn.l0 : Nat → List (List Int) → Int → List (List Int) → List (List Int) → Int → Int → Option ((List (List Int)) × Int)
 | 0, _, _, _, _, _, _ => none
 | k + 1, x0, x1, x6, x14, x15, x16 => if x16 < x15 then (if 0 ≤ x16 then (if x16 < (x14.length : Int) then ((slices_Clone_int_int.f (rd_L1 x14 x16)).bind fun t153 => (side_turn.l1 k x0 x1 x6 x16 t153 x14 x15 x16 (t153.length : Int) 0)) else (none)) else (none)) else ((side_May.f x6).bind fun t151 => (if t151 = true then (some (x6, 0)) else (some (([] : List (List Int)), 1700))))
def side_turn.l1 : Nat → List (List Int) → Int → List (List Int) → Int → List Int → List (List Int) → Int → Int → Int → Int → Option ((List (List Int)) × Int)
 | 0, _, _, _, _, _, _, _, _, _, _ => none
 | k + 1, x0, x1, x6, x7, x9, x14, x15, x16, x24, x25 => if x25 < x24 then (if 0 ≤ x25 then (if x25 < (x9.length : Int) then (if 0 < (x0.length : Int) then (if x25 < ((rd_L1 x0 0).length : Int) then (side_turn.l1 k x0 x1 x6 x7 (x9.set (x25 : Int).toNat (wrap64 ((rd x9 x25) + (wrap64 ((wrap64 (x7 * x1)) * (rd (rd_L1 x0 0) x25)))))) x14 x15 x16 x24 (wrap64 (x25 + 1))) else (none)) else (none)) else (none)) else (none)) else (if x6.length < 5864062014805 then (side_turn.l0 k x0 x1 (x6 ++ [x9]) x14 x15 (wrap64 (x16 + 1))) else (none))
end
def side_turn.f (k : Nat) (l0 : List (List Int)) (a1 : Int) : Option ((List (List Int)) × Int) := (side_May.f l0).bind fun t150 => (if t150 = true then (side_turn.l0 k l0 a1 ([] : List (List Int)) l0 (l0.length : Int) 0) else (some (([] : List (List Int)), 1700)))
def side_turn.T11 : Bool × List (List Nat × List Nat) := (true, [([], []), ([], []), ([0, 1], [0, 1]), ([2], [2]), ([], []), ([], []), ([4, 5], [4, 5]), ([], []), ([7], [7]), ([8], [8]), ([], []), ([9, 10], [9, 10]), ([11], [11]), ([6, 12], [6, 12]), ([3, 13], [3, 13]), ([0, 1, 0, 1, 2, 3, 4, 5, 6, 7, 8, 9, 10, 11, 12, 13, 14], [0, 1]), ([15, 14, 0, 1, 2, 3, 4, 5, 6, 7, 8, 9, 10, 11, 12, 13, 14], [14, 15])])
def side_turn.B11 : List Nat := [0, 0, 3, 7, 0, 0, 48, 0, 128, 384, 0, 1920, 3968, 8176, 16383, 32767, 65535]
theorem side_turn.tab11 : rtab .any (opsOf Tryz.f86 11) = side_turn.T11 := by kernel_rfl
theorem side_turn.bits11 : waitsOk side_turn.T11.2 side_turn.B11 = true := by kernel_rfl
theorem side_turn.calls (k : Nat) (A0 : Option Addr) (c0 : Nat) (l0 : List (List Int)) (a1 : Int) (r1 : List (List Int)) (r2 : Int) (w : World) (hr0 : Kd.C (Kd.slice 3 (Kd.int .i64)) w A0 l0.length l0) (hc0 : l0.length ≤ c0) (h : side_turn.f k l0 a1 = some (r1, r2)) :
  Calls Tryz.prog 86 #[.slice A0 l0.length c0, .int .i64 a1] w fun e w' => ∃ v0_ : Value, e = .returned (.tuple #[v0_, .int .i64 r2]) ∧ Kd.S (Kd.slice 3 (Kd.int .i64)) 22 w' w.heap.size (fun _ => True) v0_ r1 ∧ Below w.heap.size w w' := by
 have HR0 := Aside0.mk hr0
 have HC0 := Aside0.mk hc0
 clear hr0 hc0
 have HB := Aside0.mk (Below.refl w.heap.size w)
 have H : ((side_May.f l0).bind fun t150 => (if t150 = true then (side_turn.l0 k l0 a1 ([] : List (List Int)) l0 (l0.length : Int) 0) else (some (([] : List (List Int)), 1700)))) = some (r1, r2) := h
 clear h
 replace H := Option.bind_eq_some_iff.mp H
 obtain ⟨t150, A30, H⟩ := H
 replace H : (if t150 = true then (side_turn.l0 k l0 a1 ([] : List (List Int)) l0 (l0.length : Int) 0) else (some (([] : List (List Int)), 1700))) = some (r1, r2) := H
 have A3 := Aside0.mk A30
 clear A30
 by_cases c4 : t150 = true
 ·subst c4
  have H1 : (side_turn.l0 k l0 a1 ([] : List (List Int)) l0 (l0.length : Int) 0) = some (r1, r2) := by rw [if_pos rfl] at H; exact H
  clear H
  have H := H1
  clear H1
  have H' := Aside0.mk H
  clear H
  go_enter Tryz.func86, Tryz.ntmps86
  go_wp2_with (first | ((with_reducible refine gate_callee (f := 129) rfl ?_); refine goesL_ (some 12) rfl rfl Tryz.func129 kr rfl #[.slice A0 l0.length c0] rfl b24_ ?_; (with_reducible refine (side_May.calls _ _ l0 true _ ?side1 ?side2 A3.out).mono ?_); (case side1 => repeat (first | exact HR0.out | (with_reducible refine Kd.C_alloc ?_ _) | (with_reducible refine Kd.C_drewN ?_ _) | (with_reducible refine Kd.C_drew ?_))); (case side2 => exact HC0.out); rintro e w' ⟨rfl, ⟨nd, rfl⟩⟩; refine ⟨_, rfl, ?_⟩))
  go_loopg [6, 16] k (fun kq v6 v16 w' => ∃ (x6_1 : List (List Int)) (x16_1 : Int), v16 = .int .i64 x16_1 ∧ Aside0 (side_turn.l0 kq l0 a1 x6_1 l0 (l0.length : Int) x16_1 = some (r1, r2)) ∧ Aside0 (kq ≤ k) ∧ Aside0 (Kd.S (Kd.slice 3 (Kd.int .i64)) 22 w' w.heap.size (fun _ => True) v6 x6_1) ∧ Aside0 (Below w.heap.size w w'))
  case atStart => exact ⟨(([] : List (List Int))), (0), b75_, H', ⟨Nat.le_refl _⟩, ⟨b25_⟩, ⟨b29_⟩⟩
  case round =>
   clear H'
   try clear c1
   try clear p2
   try clear c4
   obtain ⟨x6_1, x16_1, rfl, HA, HK1, HO_6, HB⟩ := hrel
   cases gk with
   | zero => exact absurd HA.out (by simp [side_turn.l0])
   | succ k1 =>
    have H := HA.out
    clear HA
    simp only [side_turn.l0] at H
    by_cases c5 : x16_1 < (l0.length : Int)
    ·rw [if_pos c5] at H
     have c5b0 : decide (x16_1 < (l0.length : Int)) = true := decide_eq_true c5
     clear c5
     by_cases c6 : 0 ≤ x16_1
     ·rw [if_pos c6] at H
      have c6b0 : decide (0 ≤ x16_1) = true := decide_eq_true c6
      clear c6
      by_cases c7 : x16_1 < (l0.length : Int)
      ·rw [if_pos c7] at H
       have c7b0 : decide (x16_1 < (l0.length : Int)) = true := decide_eq_true c7
       clear c7
       replace H := Option.bind_eq_some_iff.mp H
       obtain ⟨t153, A80, H⟩ := H
       replace H : (side_turn.l1 k1 l0 a1 x6_1 x16_1 t153 l0 (l0.length : Int) x16_1 (t153.length : Int) 0) = some (r1, r2) := H
       have A8 := Aside0.mk A80
       clear A80
       have H' := Aside0.mk H
       clear H
       have p152 : 0 ≤ (x16_1 : Int) := of_decide_eq_true b73_
       have q152 : x16_1 < (l0.length : Int) := of_decide_eq_true b73_
       obtain ⟨ad152, A152_0, c152_0, e152, hx152_0, hl152_0, hi152_0⟩ := at_L1 HR0.out x16_1 p152 q152
       cases e152
       replace hx152_0 := (HB.out.cell (World.block_lt_of_cell? w _ hx152_0)).trans hx152_0
       have HR152_0 := Aside0.mk hi152_0
       have HC152_0 := Aside0.mk hl152_0
       clear hi152_0 hl152_0
       replace p152 := eq_true p152
       replace q152 := eq_true q152
       go_wp2_with (first | ((with_reducible refine gate_callee (f := 85) rfl ?_); refine goesL_ (some 22) rfl rfl Tryz.func85 kr rfl #[.slice A152_0 (rd_L1 l0 x16_1).length c152_0] rfl b24_ ?_; (with_reducible refine (slices_Clone_int_int.calls _ _ (rd_L1 l0 x16_1) t153 _ ?side1 ?side2 A8.out).mono ?_); (case side1 => repeat (first | exact (Kd.C_below HR152_0.out HB.out) | (with_reducible refine Kd.C_alloc ?_ _) | (with_reducible refine Kd.C_drewN ?_ _) | (with_reducible refine Kd.C_drew ?_))); (case side2 => exact HC152_0.out); rintro e w9 ⟨v154, rfl, ho0, hb⟩; refine ⟨_, rfl, ?_⟩; have n0_ := Aside0.mk (Kd.S_elder' (by (with_reducible repeat (first | apply Kd.S_alloc | apply Kd.S_drewN | apply Kd.S_drew)); exact HO_6.out) (Kd.R_base ho0) hb); have n1_ := Aside0.mk (Kd.R_lower ho0 (below_size b28_)); have n2_ := Aside0.mk (below_step b28_ hb); clear HO_6; clear HB; have HO_6 := n0_; have HO155 := n1_; have HB := n2_; clear n0_ n1_ n2_; (try clear hb); (try clear hb2); (try clear hk); (try clear hi); (try clear ho0); obtain ⟨Ao10, co10, eo10⟩ := Kd.R_slice HO155.out; subst eo10))
       go_loopg [25] k1 (fun kq v25 w' => ∃ (x9_2 : List Int) (x25_2 : Int), v25 = .int .i64 x25_2 ∧ Aside0 (side_turn.l1 kq l0 a1 x6_1 x16_1 x9_2 l0 (l0.length : Int) x16_1 (t153.length : Int) x25_2 = some (r1, r2)) ∧ Aside0 (kq ≤ k1) ∧ Aside0 (Kd.S (Kd.slice 3 (Kd.int .i64)) 22 w' w.heap.size (fun k_ => some k_ ≠ ((.slice Ao10 t153.length co10) : Value).ownBlock) u6 x6_1) ∧ Aside0 (Kd.R (Kd.int .i64) 3 w' w.heap.size (fun _ => True) (.slice Ao10 t153.length co10) x9_2) ∧ Aside0 (Below w.heap.size w w'))
       case atStart => exact ⟨(t153), (0), b75_, H', ⟨Nat.le_refl _⟩, ⟨by (with_reducible repeat (first | apply Kd.S_alloc | apply Kd.S_drewN | apply Kd.S_drew)); exact Kd.S_mono HO_6.out (fun _ hk => hk.2)⟩, ⟨by (with_reducible repeat (first | apply Kd.R_alloc | apply Kd.R_drewN | apply Kd.R_drew)); exact HO155.out⟩, ⟨b29_⟩⟩
       case round =>
        clear H'
        try clear c1
        try clear p1
        try clear q1
        try clear hx1
        try clear p2
        try clear c4
        try clear c5
        try clear c5b0
        try clear c6
        try clear c6b0
        try clear c7
        try clear c7b0
        try clear c8
        try clear hx152_0
        try clear p152
        try clear p2
        try clear q152
        obtain ⟨x9_2, x25_2, rfl, HA, HK2, HO_6, HO_9, HB⟩ := hrel
        have hl9_2 := (Kd.R_reads' HO_9.out).1
        rw [hl9_2] at HO_9
        (try simp only [hl9_2])
        (try simp only [hl9_2] at HO_6)
        cases gk with
        | zero => exact absurd HA.out (by simp [side_turn.l1])
        | succ k2 =>
         have H := HA.out
         clear HA
         simp only [side_turn.l1] at H
         by_cases c11 : x25_2 < (t153.length : Int)
         ·rw [if_pos c11] at H
          have c11b0 : decide (x25_2 < (t153.length : Int)) = true := decide_eq_true c11
          (try (have c11b0h := c11b0; simp only [hl9_2] at c11b0h))
          clear c11
          by_cases c12 : 0 ≤ x25_2
          ·rw [if_pos c12] at H
           have c12b0 : decide (0 ≤ x25_2) = true := decide_eq_true c12
           clear c12
           by_cases c13 : x25_2 < (x9_2.length : Int)
           ·rw [if_pos c13] at H
            have c13b0 : decide (x25_2 < (x9_2.length : Int)) = true := decide_eq_true c13
            (try (have c13b0h := c13b0; simp only [hl9_2] at c13b0h))
            clear c13
            by_cases c14 : 0 < (l0.length : Int)
            ·rw [if_pos c14] at H
             have c14b0 : decide (0 < (l0.length : Int)) = true := decide_eq_true c14
             have c14b1 : decide (0 < l0.length) = true := decide_eq_true (by omega)
             (try (have c14b0h := c14b0; simp only [hl9_2] at c14b0h))
             (try (have c14b1h := c14b1; simp only [hl9_2] at c14b1h))
             clear c14
             by_cases c15 : x25_2 < ((rd_L1 l0 0).length : Int)
             ·rw [if_pos c15] at H
              have c15b0 : decide (x25_2 < ((rd_L1 l0 0).length : Int)) = true := decide_eq_true c15
              (try (have c15b0h := c15b0; simp only [hl9_2] at c15b0h))
              clear c15
              obtain ⟨y159, hy159⟩ : ∃ y_ : List Int, y_ = (x9_2.set (x25_2 : Int).toNat (wrap64 ((rd x9_2 x25_2) + (wrap64 ((wrap64 (x16_1 * a1)) * (rd (rd_L1 l0 0) x25_2)))))) := ⟨_, rfl⟩
              replace H : (side_turn.l1 k2 l0 a1 x6_1 x16_1 y159 l0 (l0.length : Int) x16_1 (t153.length : Int) (wrap64 (x25_2 + 1))) = some (r1, r2) := by first | (rw [hy159]; with_reducible exact H) | (have H2_ := (Option.bind_some _ _).symm.trans H; rw [hy159]; with_reducible exact H2_) | (have H2_ := (Option.bind_some _ _).symm.trans H; with_reducible exact H2_) | with_reducible exact H | (rw [hy159]; exact H) | exact H
              have Ny159 := Aside0.mk hy159
              clear hy159
              have H' := Aside0.mk H
              clear H
              try go_wp2
              have n0_ := Aside0.mk (Kd.S_drew HO_6.out)
              have n1_ := Aside0.mk (Kd.R_drew HO_9.out)
              have n2_ := Aside0.mk (below_drew1 HB.out)
              clear HO_6
              clear HO_9
              clear HB
              have HO_6 := n0_
              have HO_9 := n1_
              have HB := n2_
              clear n0_ n1_ n2_
              have p156 : 0 ≤ (x25_2 : Int) := of_decide_eq_true b73_
              have q156 : x25_2 < (x9_2.length : Int) := of_decide_eq_true b73_
              obtain ⟨ad156, e156, hx156_0⟩ := Kd.at_int (Kd.R_reads' HO_9.out).2.2 x25_2 p156 q156
              cases e156
              replace p156 := eq_true p156
              replace q156 := eq_true q156
              have p157 : 0 ≤ (0 : Int) := (by omega)
              have q157 : 0 < (l0.length : Int) := of_decide_eq_true b73_
              obtain ⟨ad157, A157_0, c157_0, e157, hx157_0, hl157_0, hi157_0⟩ := at_L1 HR0.out 0 p157 q157
              have hw157_0 := hx157_0
              (try rw [show ((0 : Int)).toNat = 0 from rfl] at hw157_0)
              (try rw [show 0 * 1 = 0 from rfl] at hw157_0)
              (try rw [Addr.add_zero'] at hw157_0)
              obtain rfl : ad152 = ad157 := (by injection e157)
              have qi157 : (0 < l0.length) = True := eq_true (by omega)
              (try rw [show ((0 : Int)).toNat = 0 from rfl] at hx157_0)
              (try rw [Addr.add_zero'] at hx157_0)
              replace hx157_0 := (HB.out.cell (World.block_lt_of_cell? w _ hx157_0)).trans hx157_0
              have HR157_0 := Aside0.mk hi157_0
              have HC157_0 := Aside0.mk hl157_0
              clear hi157_0 hl157_0
              replace p157 := eq_true p157
              replace q157 := eq_true q157
              have p158 : 0 ≤ (x25_2 : Int) := of_decide_eq_true b73_
              have q158 : x25_2 < ((rd_L1 l0 0).length : Int) := of_decide_eq_true b73_
              obtain ⟨ad158, e158, hx158_0⟩ := Kd.at_int HR157_0.out x25_2 p158 q158
              have hw158_0 := hx158_0
              cases e158
              replace hx158_0 := (HB.out.cell (World.block_lt_of_cell? w _ hx158_0)).trans hx158_0
              replace p158 := eq_true p158
              replace q158 := eq_true q158
              have p16 : 0 ≤ (x25_2 : Int) := of_decide_eq_true b73_
              have q16 : (x25_2 : Int) < ((x9_2.length : Int) : Int) := of_decide_eq_true b73_
              obtain ⟨go16, co16, eo16, gb16, gl16, cl16, HG16⟩ := Kd.R_form HO_9.out (by omega)
              (first | cases eo16 | (injection eo16 with ea_ en_ ec_; (first | subst ea_ | (injection ea_ with ea_; subst ea_)); subst ec_; clear en_))
              have GB16 := Aside0.mk gb16
              have GG16 := Aside0.mk HG16
              clear gb16 gl16 HG16
              (first | simp only [add_plain] at hx156_0 | skip)
              obtain ⟨hx16_0, hf16_0⟩ := Kd.R_celln 0 HO_9.out (x25_2 : Int) p16 q16
              replace p16 := eq_true p16
              replace q16 := eq_true q16
              have HP18 := Kd.R_putn HO_9.out (x25_2 : Int) (wrap64 ((rd x9_2 x25_2) + (wrap64 ((wrap64 (x16_1 * a1)) * (rd (rd_L1 l0 0) x25_2)))))
              rw [← Ny159.out] at HP18
              have HQ18 := Aside0.mk HP18
              clear HP18
              refine start_ (n := 17) (S := fun w' => w'.cell? ⟨go16, (x25_2).toNat, none⟩ = some (.int .i64 (rd x9_2 x25_2)) ∧ w'.cell? ad152 = some (.slice (some ad158) (rd_L1 l0 0).length c157_0) ∧ w'.cell? (ad158.add (x25_2).toNat) = some (.int .i64 (rd (rd_L1 l0 0) x25_2))) (ds := [16]) #[J,J,J,J,J,J,J,J,J,J,J,J,J,J,J,J,J] kr rfl rfl ⟨hx156_0, ((HB.out.cell (World.block_lt_of_cell? w _ hw157_0)).trans hw157_0), ((HB.out.cell (World.block_lt_of_cell? w _ hw158_0)).trans hw158_0)⟩ (fun hHeld => ?_); refine with_tabW side_turn.tab11 side_turn.bits11 (fun HT_ HW_ => ?_)
              generalize wr.drew = w17 at HO_6 HO_9 HB GG16 HQ18 HR157_0 hf16_0 hx156_0 hx157_0 hx158_0 hx16_0 hHeld ⊢
              refine pu_ 0 28 (z 17 1) HT_ ?_
              refine pu_ 1 29 (z 17 3) HT_ ?_
              refine pu_ 2 30 (z 17 7) HT_ ?_
              refine pu_ 4 32 (z 17 23) HT_ ?_
              refine pu_ 5 33 (z 17 55) HT_ ?_
              refine pu_ 6 34 (z 17 119) HT_ ?_
              refine pu_ 7 35 (z 17 247) HT_ ?_
              refine pu_ 8 36 (z 17 503) HT_ ?_
              refine pu_ 10 38 (z 17 1527) HT_ ?_
              refine ta_ 3 31 (z 17 1535) HT_ HW_ hHeld rfl b70_ ?_
              refine ta_ 9 37 (z 17 2047) HT_ HW_ hHeld rfl b70_ ?_
              refine pu_ 11 39 (z 17 4095) HT_ ?_
              refine ta_ 12 40 (z 17 8191) HT_ HW_ hHeld rfl b70_ ?_
              refine pu_ 13 41 (z 17 16383) HT_ ?_
              refine pu_ 14 42 (z 17 32767) HT_ ?_
              refine pu_ 15 43 (z 17 65535) HT_ ?_
              refine last_ (i := 16) (N := none) #[Y,Y,Y,Y,Y,Y,Y,Y,Y,Y,Y,Y,Y,Y,Y,Y,Y] rfl rfl (one_of HT_.out kr) (by decide) (fun K hK => ?_)
              refine skip_ (w1 := ?_) (by rfl) rfl ?_ ?_
              rotate_left
              ·go_simp
               rfl
              refine hK.out _ _ ?_
              clear hK K
              refine done_ (done_of HT_.out kr) ?_
              try go_wp2
              (try simp only [← hl9_2])
              go_roundg k2
              case measure => have := HK1.out; have := HK2.out; omega
              case rel => exact ⟨(y159), (wrap64 (x25_2 + 1)), b75_, H', ⟨by have := HK1.out; have := HK2.out; omega⟩, ⟨by (try simp only [hl9_2]); (with_reducible repeat (first | apply Kd.S_alloc | apply Kd.S_drewN | apply Kd.S_drew)); exact Kd.S_mono (Kd.S_far (p := ⟨go16, (x25_2 : Int).toNat, none⟩) (Kd.S_mono HO_6.out (fun k_ hk => (⟨hk, fun e_ => hk (by rw [e_]; rfl)⟩ : _ ∧ k_ ≠ go16))) (fun _ hk => hk.2) (.int .i64 (wrap64 ((rd x9_2 x25_2) + (wrap64 ((wrap64 (x16_1 * a1)) * (rd (rd_L1 l0 0) x25_2))))))) (fun _ hk => hk.1)⟩, ⟨by (try simp only [hl9_2]); (with_reducible repeat (first | apply Kd.R_alloc | apply Kd.R_drewN | apply Kd.R_drew)); exact HQ18.out⟩, ⟨by repeat (first | (with_reducible first | exact HB.out | apply below_alloc | apply pw_below_drewN | apply below_drew1 | refine below_set ?_ GB16.out) | exact HB.out)⟩⟩
             ·rw [if_neg c15] at H
              exact absurd H (by simp)
            ·rw [if_neg c14] at H
             exact absurd H (by simp)
           ·rw [if_neg c13] at H
            exact absurd H (by simp)
          ·rw [if_neg c12] at H
           exact absurd H (by simp)
         ·rw [if_neg c11] at H
          have c11b0 : decide (x25_2 < (t153.length : Int)) = false := decide_eq_false c11
          (try (have c11b0h := c11b0; simp only [hl9_2] at c11b0h))
          clear c11
          by_cases c19 : x6_1.length < 5864062014805
          ·rw [if_pos c19] at H
           have LMc19 := Aside0.mk c19
           clear c19
           obtain ⟨y160, hy160⟩ : ∃ y_ : List (List Int), y_ = (x6_1 ++ [x9_2]) := ⟨_, rfl⟩
           replace H : (side_turn.l0 k2 l0 a1 y160 l0 (l0.length : Int) (wrap64 (x16_1 + 1))) = some (r1, r2) := by first | (rw [hy160]; with_reducible exact H) | (have H2_ := (Option.bind_some _ _).symm.trans H; rw [hy160]; with_reducible exact H2_) | (have H2_ := (Option.bind_some _ _).symm.trans H; with_reducible exact H2_) | with_reducible exact H | (rw [hy160]; exact H) | exact H
           have Ny160 := Aside0.mk hy160
           clear hy160
           have H' := Aside0.mk H
           clear H
           go_wp2_with (first | ((with_reducible refine gate_builtin (b := .append) (xs := #[.tmp 45, .tmp 47]) rfl ?_); at_builtin; refine Kd.S_append (Kd.slice 3 (Kd.int .i64)) (w0 := w) w.heap.size rfl (.tmp 45) (.tmp 47) 71 22 (.slice none 0 0) 24 rfl Tryz.underlying71 info22 rfl (by decide) (by omega) u6 x6_1 x9_2 [.slice Ao10 x9_2.length co10] (fun _ => True) (fun k_ => some k_ = (.slice Ao10 x9_2.length co10 : Value).ownBlock) rfl rfl ?aP (fun k_ hk_ => ((Kd.R_mono (ok' := fun k_ => ((fun _ => True)) k_ ∧ some k_ ≠ (u6 : Value).ownBlock) (Kd.R_apart' (HO_9.out) (Kd.S_typed HO_6.out) (by decide)) (fun k_ hk => ⟨trivial, hk.2⟩))).1 k_ hk_.symm) ?aF ?aO ?aB ?aS ?aL ?_; (case aP => exact Kd.M_row (Kd.R_mono (Kd.R_tight rfl (Kd.R_mono (ok' := fun k_ => ((fun _ => True)) k_ ∧ some k_ ≠ (u6 : Value).ownBlock) (Kd.R_apart' (HO_9.out) (Kd.S_typed HO_6.out) (by decide)) (fun k_ hk => ⟨trivial, hk.2⟩))) (fun _ h_ => h_))); (case aB => exact b28_); (case aF => exact (fun _ _ => trivial)); (case aO => exact (by (with_reducible repeat (first | apply Kd.S_alloc | apply Kd.S_drewN | apply Kd.S_drew)); exact Kd.S_mono HO_6.out (fun k_ hk => ⟨trivial, fun e_ => hk e_⟩))); (case aS => exact (below_size b28_)); (case aL => have := LMc19.out; omega); intro v161 w20 ho hb hg hat; rw [← Ny160.out] at ho; have n0_ := Aside0.mk (hb); have n1_ := Aside0.mk (ho); clear HB; clear HO_6; clear HO_9; have HB := n0_; have HO162 := n1_; clear n0_ n1_; clear ho hb hg hat))
           (try simp only [← hl9_2])
           go_roundg k2
           case measure => have := HK1.out; have := HK2.out; omega
           case rel => exact ⟨(y160), (wrap64 (x16_1 + 1)), b75_, H', ⟨by have := HK1.out; have := HK2.out; omega⟩, ⟨by (try simp only [hl9_2]); (with_reducible repeat (first | apply Kd.S_alloc | apply Kd.S_drewN | apply Kd.S_drew)); exact HO162.out⟩, ⟨b29_⟩⟩
          ·rw [if_neg c19] at H
           exact absurd H (by simp)
      ·rw [if_neg c7] at H
       exact absurd H (by simp)
     ·rw [if_neg c6] at H
      exact absurd H (by simp)
    ·rw [if_neg c5] at H
     have c5b0 : decide (x16_1 < (l0.length : Int)) = false := decide_eq_false c5
     clear c5
     replace H := Option.bind_eq_some_iff.mp H
     obtain ⟨t151, A210, H⟩ := H
     replace H : (if t151 = true then (some (x6_1, 0)) else (some (([] : List (List Int)), 1700))) = some (r1, r2) := H
     have A21 := Aside0.mk A210
     clear A210
     by_cases c22 : t151 = true
     ·subst c22
      have H1 : (some (x6_1, 0)) = some (r1, r2) := by rw [if_pos rfl] at H; exact H
      clear H
      have H := H1
      clear H1
      simp only [Option.some.injEq, Prod.mk.injEq] at H
      obtain ⟨rfl, rfl⟩ := H
      obtain ⟨Ao23, co23, eo23⟩ := Kd.S_slice HO_6.out
      subst eo23
      go_wp2_with (first | ((with_reducible refine gate_callee (f := 129) rfl ?_); refine goesL_ (some 51) rfl rfl Tryz.func129 kr rfl #[.slice Ao23 x6_1.length co23] rfl b24_ ?_; (with_reducible refine (side_May.calls _ _ x6_1 true _ ?side1 ?side2 A21.out).mono ?_); (case side1 => repeat (first | exact (Kd.S_reads' HO_6.out).2.2 | (with_reducible refine Kd.C_alloc ?_ _) | (with_reducible refine Kd.C_drewN ?_ _) | (with_reducible refine Kd.C_drew ?_))); (case side2 => exact (Kd.S_reads' HO_6.out).2.1); rintro e w' ⟨rfl, ⟨nd, rfl⟩⟩; refine ⟨_, rfl, ?_⟩))
      go_ret2
      exact ⟨_, b60_, by (with_reducible repeat (first | apply Kd.S_alloc | apply Kd.S_drewN | apply Kd.S_drew)); exact HO_6.out, b29_⟩
     ·replace c22 := Bool.eq_false_iff.mpr c22
      subst c22
      have H1 : (some (([] : List (List Int)), 1700)) = some (r1, r2) := by rw [if_neg (show ¬ (false = true) by decide)] at H; exact H
      clear H
      have H := H1
      clear H1
      simp only [Option.some.injEq, Prod.mk.injEq] at H
      obtain ⟨rfl, rfl⟩ := H
      obtain ⟨Ao24, co24, eo24⟩ := Kd.S_slice HO_6.out
      subst eo24
      go_wp2_with (first | ((with_reducible refine gate_callee (f := 129) rfl ?_); refine goesL_ (some 51) rfl rfl Tryz.func129 kr rfl #[.slice Ao24 x6_1.length co24] rfl b24_ ?_; (with_reducible refine (side_May.calls _ _ x6_1 false _ ?side1 ?side2 A21.out).mono ?_); (case side1 => repeat (first | exact (Kd.S_reads' HO_6.out).2.2 | (with_reducible refine Kd.C_alloc ?_ _) | (with_reducible refine Kd.C_drewN ?_ _) | (with_reducible refine Kd.C_drew ?_))); (case side2 => exact (Kd.S_reads' HO_6.out).2.1); rintro e w' ⟨rfl, ⟨nd, rfl⟩⟩; refine ⟨_, rfl, ?_⟩))
      go_ret2
      exact ⟨_, b60_, b25_, b29_⟩
 ·replace c4 := Bool.eq_false_iff.mpr c4
  subst c4
  have H1 : (some (([] : List (List Int)), 1700)) = some (r1, r2) := by rw [if_neg (show ¬ (false = true) by decide)] at H; exact H
  clear H
  have H := H1
  clear H1
  simp only [Option.some.injEq, Prod.mk.injEq] at H
  obtain ⟨rfl, rfl⟩ := H
  go_enter Tryz.func86, Tryz.ntmps86
  go_wp2_with (first | ((with_reducible refine gate_callee (f := 129) rfl ?_); refine goesL_ (some 12) rfl rfl Tryz.func129 kr rfl #[.slice A0 l0.length c0] rfl b24_ ?_; (with_reducible refine (side_May.calls _ _ l0 false _ ?side1 ?side2 A3.out).mono ?_); (case side1 => repeat (first | exact HR0.out | (with_reducible refine Kd.C_alloc ?_ _) | (with_reducible refine Kd.C_drewN ?_ _) | (with_reducible refine Kd.C_drew ?_))); (case side2 => exact HC0.out); rintro e w' ⟨rfl, ⟨nd, rfl⟩⟩; refine ⟨_, rfl, ?_⟩))
  go_ret2
  exact ⟨_, b60_, b25_, b29_⟩
end Go.Proofs.YtnoibcdojfnicaaGreatDoor.PG
