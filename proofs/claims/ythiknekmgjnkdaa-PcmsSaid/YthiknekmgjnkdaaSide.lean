/- Layer 17: may these channels be; a copy of a row: what the functions answer that take a function, or compare a slice with nil. -/
import Derived.Test.YthiknekmgjnkdaaPAllx0
import Derived.Test.YthiknekmgjnkdaaNum
import Derived.Lib.Hide
import Derived.BigQuiet
import Derived.WalkSpells
namespace Go.Proofs.Ythiknekmgjnkdaa.PAll
open Go Go.RowKit Go.Proofs.YthiknekmgjnkdaaW.PrintWords Go.Proofs.YthiknekmgjnkdaaW.PrintMore Go.Proofs.YthiknekmgjnkdaaW.PrintLast
set_option linter.unusedVariables false
set_option linter.unusedSimpArgs false

def inS (x : Int) : Bool := decide (-131072 ≤ x ∧ x ≤ 131072)
def allS (xs : List Int) : Bool := xs.all inS
def mayL (chs : List (List Int)) : Bool := chs.all (fun xs => decide (xs.length = (chs.headD []).length) && allS xs) && decide (chs.length = 1 ∨ chs.length = 2)

theorem rb2 {a b : Bool} (h : a = b) : Ending.returned (.bool a) = .returned (.bool b) := by rw [h]
theorem odd_c (x : Int) (w : World) : Calls Try.prog 42 #[.int .i64 x] w fun e w' => e = .returned (.bool (!inS x)) ∧ w' = w := by
  by_cases c : -131072 ≤ x
  · have c1 : decide (x ≥ -131072) = true := decide_eq_true c
    go_enter Try.func42, Try.ntmps42
    go_wp2
    go_ret
    exact ⟨by simp [inS, c], rfl⟩
  · have c1 : decide (x ≥ -131072) = false := decide_eq_false (by omega)
    go_enter Try.func42, Try.ntmps42
    go_wp2
    go_ret
    exact ⟨by simp [inS]; omega, rfl⟩
theorem elem_c {w : World} {A : Option Addr} {xs : List Int} (h : (Kd.int .i64).C w A xs.length xs) {k : Nat} (hk : k < xs.length) : ∃ ad, A = some ad ∧ w.cell? (ad.add k) = some (.int .i64 (xs.getD k 0)) := by
  obtain ⟨ad, e, hx⟩ := Kd.at_int h (k : Int) (by omega) (by omega)
  rw [Int.toNat_natCast] at hx
  refine ⟨ad, e, ?_⟩
  rw [hx]
  simp [rd]
theorem all_no {xs : List Int} {k : Nat} (hk : k < xs.length) (h : inS (xs.getD k 0) = false) : allS xs = false := by
  unfold allS
  rw [List.all_eq_false]
  exact ⟨xs[k], List.getElem_mem hk, by rw [List.getD_eq_getElem?_getD, List.getElem?_eq_getElem hk] at h; simpa using h⟩
theorem all_yes {xs : List Int} (h : ∀ j, j < xs.length → inS (xs.getD j 0) = true) : allS xs = true := by
  unfold allS
  rw [List.all_eq_true]
  intro x hx
  obtain ⟨j, hj, rfl⟩ := List.getElem_of_mem hx
  have := h j hj
  rw [List.getD_eq_getElem?_getD, List.getElem?_eq_getElem hj] at this
  exact this
set_option maxHeartbeats 4000000 in
theorem index_c (A : Option Addr) (c0 : Nat) (xs : List Int) (W : World) (hb : xs.length ≤ 17592186044416) (hr : (Kd.int .i64).C W A xs.length xs) : Calls Try.prog 43 #[.slice A xs.length c0, .func (Fn.func 42) #[] #[]] W fun e w' => ∃ i : Int, e = .returned (.int .i64 i) ∧ w' = W ∧ decide (i ≥ 0) = !allS xs := by
  have Hr := Lib.hid hr
  clear hr
  go_enter Try.func43, Try.ntmps43
  go_wp2_with fail
  go_loop [8] (fun i => ∃ k : Nat, k ≤ xs.length ∧ i = .int .i64 k ∧ ∀ j, j < k → inS (xs.getD j 0) = true) (fun i => xs.length - (intOf i).toNat)
  case atStart => exact ⟨0, by omega, rfl, fun j hj => by omega⟩
  case round =>
    obtain ⟨k, hk, rfl, hok⟩ := hrel
    have Hok := Lib.hid hok; clear hok
    by_cases hlt : k < xs.length
    · obtain ⟨ad, rfl, hx⟩ := elem_c Hr.out hlt
      obtain ⟨x, hxe⟩ : ∃ x, x = xs.getD k 0 := ⟨_, rfl⟩
      rw [← hxe] at hx
      have Hx := Lib.hid hxe
      clear hxe
      cases hin : inS x
      · have hno := Lib.hid (all_no hlt (by rw [← Hx.out]; exact hin))
        go_wp2_with (go_at_call 42; refine (odd_c _ _).mono ?_; rintro e w' ⟨rfl, rfl⟩; rw [hin])
        go_ret
        exact ⟨(k : Int), rfl, rfl, by rw [hno.out]; exact decide_eq_true (by omega)⟩
      · go_wp2_with (go_at_call 42; refine (odd_c _ _).mono ?_; rintro e w' ⟨rfl, rfl⟩; rw [hin])
        go_round
        case rel =>
          refine ⟨k + 1, by omega, by go_num, fun j hj => ?_⟩
          by_cases hjk : j = k
          · rw [hjk, ← Hx.out]; exact hin
          · exact Hok.out j (by omega)
        case measure => simp [intOf]; omega
    · have hyes := Lib.hid (all_yes (fun j hj => Hok.out j (by omega)))
      go_wp2_with fail
      go_ret
      exact ⟨-1, rfl, rfl, by rw [hyes.out]; rfl⟩
theorem contains_c (A : Option Addr) (c0 : Nat) (xs : List Int) (W : World) (hb : xs.length ≤ 17592186044416) (hr : (Kd.int .i64).C W A xs.length xs) : Calls Try.prog 41 #[.slice A xs.length c0, .func (Fn.func 42) #[] #[]] W fun e w' => e = .returned (.bool (!allS xs)) ∧ w' = W := by
  go_enter Try.func41, Try.ntmps41
  go_wp2_with fail
  refine (index_c A c0 xs W hb hr).mono ?_
  rintro e w' ⟨i, rfl, hw, hi⟩
  have hw := hw.symm
  subst hw
  go_wp2_with fail
  go_ret
  exact ⟨rfl, rfl⟩
theorem may_no1 {chs : List (List Int)} {k : Nat} (hk : k < chs.length) (h : ¬ ((chs.getD k []).length = (chs.headD []).length ∧ allS (chs.getD k []) = true)) : mayL chs = false := by
  unfold mayL
  rw [Bool.and_eq_false_iff]
  left
  rw [List.all_eq_false]
  refine ⟨chs[k], List.getElem_mem hk, ?_⟩
  rw [List.getD_eq_getElem?_getD, List.getElem?_eq_getElem hk] at h
  simpa using h
theorem may_yes1 {chs : List (List Int)} (h : ∀ j, j < chs.length → (chs.getD j []).length = (chs.headD []).length ∧ allS (chs.getD j []) = true) : mayL chs = decide (chs.length = 1 ∨ chs.length = 2) := by
  unfold mayL
  have : chs.all (fun xs => decide (xs.length = (chs.headD []).length) && allS xs) = true := by
    rw [List.all_eq_true]
    intro xs hx
    obtain ⟨j, hj, rfl⟩ := List.getElem_of_mem hx
    have := h j hj
    rw [List.getD_eq_getElem?_getD, List.getElem?_eq_getElem hj] at this
    simpa using this
  rw [this, Bool.true_and]
theorem head_0 (chs : List (List Int)) : chs.getD 0 [] = chs.headD [] := by cases chs <;> rfl
theorem row_c {w : World} {A : Option Addr} {chs : List (List Int)} (h : Kd.C (Kd.slice 3 (Kd.int .i64)) w A chs.length chs) {k : Nat} (hk : k < chs.length) : ∃ ad A0 c0, A = some ad ∧ w.cell? (ad.add k) = some (.slice A0 (chs.getD k []).length c0) ∧ (Kd.int .i64).C w A0 (chs.getD k []).length (chs.getD k []) := by
  obtain ⟨ad, A0, c0, e, h1, h2, h3⟩ := at_L1 h (k : Int) (by omega) (by omega)
  have er : rd_L1 chs (k : Int) = chs.getD k [] := by simp [rd_L1]
  rw [er] at h1 h3
  rw [Int.toNat_natCast] at h1
  exact ⟨ad, A0, c0, e, h1, h3⟩
set_option maxHeartbeats 8000000 in
theorem sideMay_c (A : Option Addr) (c0 : Nat) (chs : List (List Int)) (W : World) (hb : chs.length ≤ 17592186044416) (hbs : ∀ xs ∈ chs, xs.length ≤ 17592186044416) (hr : Kd.C (Kd.slice 3 (Kd.int .i64)) W A chs.length chs) : Calls Try.prog 39 #[.slice A chs.length c0] W fun e w' => e = .returned (.bool (mayL chs)) ∧ w' = W := by
  have Hr := Lib.hid hr
  clear hr
  go_enter Try.func39, Try.ntmps39
  go_wp2_with fail
  go_loop [7] (fun i => ∃ k : Nat, k ≤ chs.length ∧ i = .int .i64 k ∧ ∀ j, j < k → (chs.getD j []).length = (chs.headD []).length ∧ allS (chs.getD j []) = true) (fun i => chs.length - (intOf i).toNat)
  case atStart => exact ⟨0, by omega, rfl, fun j hj => by omega⟩
  case round =>
    obtain ⟨k, hk, rfl, hok⟩ := hrel
    have Hok := Lib.hid hok; clear hok
    by_cases hlt : k < chs.length
    · obtain ⟨ad, A0, c1, rfl, hx, hC⟩ := row_c Hr.out hlt
      obtain ⟨ad2, A2, c2, e2, hx2, _⟩ := row_c Hr.out (show 0 < chs.length by omega)
      obtain rfl := Option.some.inj e2
      rw [head_0] at hx2
      rw [Addr.add_zero'] at hx2
      have h0 : 0 < chs.length := by omega
      have HC := Lib.hid hC
      obtain ⟨xs, hxs⟩ : ∃ xs, xs = chs.getD k [] := ⟨_, rfl⟩
      obtain ⟨m, hm⟩ : ∃ m, m = (chs.headD []).length := ⟨_, rfl⟩
      have hbx : xs.length ≤ 17592186044416 := by
        rw [hxs, List.getD_eq_getElem?_getD, List.getElem?_eq_getElem hlt]
        exact hbs _ (List.getElem_mem hlt)
      rw [← hxs] at hx HC
      rw [← hm] at hx2
      have Hxs := Lib.hid hxs
      have Hm := Lib.hid hm
      clear hxs hm hC e2
      by_cases hl : xs.length = m
      · subst hl
        cases hin : allS xs
        · have hno := Lib.hid (may_no1 hlt (fun h => by rw [← Hxs.out, hin] at h; exact absurd h.2 (by decide)))
          go_wp2_with (go_at_call 41; refine (contains_c _ _ xs _ hbx HC.out).mono ?_; rintro e w' ⟨rfl, hw⟩; have hw := hw.symm; subst hw; rw [hin])
          go_ret
          exact ⟨rb2 hno.out.symm, rfl⟩
        · go_wp2_with (go_at_call 41; refine (contains_c _ _ xs _ hbx HC.out).mono ?_; rintro e w' ⟨rfl, hw⟩; have hw := hw.symm; subst hw; rw [hin])
          go_round
          case rel =>
            refine ⟨k + 1, by omega, by go_num, fun j hj => ?_⟩
            by_cases hjk : j = k
            · rw [hjk, ← Hxs.out, ← Hm.out]; exact ⟨rfl, hin⟩
            · exact Hok.out j (by omega)
          case measure => simp [intOf]; omega
      · have hl2 : ((xs.length : Int) != (m : Int)) = true := by rw [bne_iff_ne]; omega
        have hno := Lib.hid (may_no1 hlt (fun h => by rw [← Hxs.out, ← Hm.out] at h; exact hl h.1))
        go_wp2_with fail
        go_ret
        exact ⟨rb2 hno.out.symm, rfl⟩
    · have hyes := Lib.hid (may_yes1 (fun j hj => Hok.out j (by omega)))
      by_cases h1 : chs.length = 1
      · have e1 : ((chs.length : Int) == 1) = true := by rw [beq_iff_eq]; omega
        go_wp2_with fail
        go_ret
        exact ⟨rb2 (by rw [hyes.out, decide_eq_true (Or.inl h1)]), rfl⟩
      · have e1 : ((chs.length : Int) == 1) = false := by rw [beq_eq_false_iff_ne]; omega
        go_wp2_with fail
        go_ret
        exact ⟨rb2 (by rw [hyes.out]; by_cases h2 : chs.length = 2 <;> simp [h1, h2] <;> omega), rfl⟩
theorem infoS : (Try.prog.info? 3).map (fun i => (i.zero, i.size, i.bytes)) = some (some (.int .i64 0), 1, 8) := by kernel_rfl
set_option maxHeartbeats 4000000 in
theorem clone_c (A : Option Addr) (c0 : Nat) (xs : List Int) (W : World) (hb : xs.length ≤ 17592186044416) (hr : (Kd.int .i64).C W A xs.length xs) : Calls Try.prog 40 #[.slice A xs.length c0] W fun e w' => ∃ v, e = .returned v ∧ (Kd.int .i64).R 3 w' W.heap.size (fun _ => True) v xs ∧ Below W.heap.size W w' := by
  cases A with
  | none =>
    have h0 : xs.length = 0 := by
      rcases Nat.eq_zero_or_pos xs.length with h | h
      · exact h
      · obtain ⟨ad, e, _⟩ := elem_c hr h
        cases e
    have hx : xs = [] := List.length_eq_zero_iff.1 h0
    subst hx
    have eq1 := fun w : World => Lib.run_eql_slice_nil (P := Try.prog) w 44 3 none 0 c0 0 0 Try.underlying44
    go_enter Try.func40, Try.ntmps40
    go_wp2_with fail
    go_ret
    exact ⟨_, rfl, Kd.R_nil _ _ _ _ _, Below.refl _ _⟩
  | some ad =>
    have Hr := Lib.hid hr
    clear hr
    have eq1 := fun w : World => Lib.run_eql_slice_nil (P := Try.prog) w 44 3 (some ad) xs.length c0 0 0 Try.underlying44
    go_enter Try.func40, Try.ntmps40
    go_wp2_with (first | ((with_reducible refine gate_dst (N := 5) rfl ?_); refine Kd.R_lit (Kd.int .i64) _ 3 ?hg (N := 5) ?hd (xs := ([] : List Int)) (inner := []) (ok := fun _ => True) (okp := fun _ => True) ?hr ?hp (fun _ hk => hk) trivial (Below.refl _ _) (Nat.le_refl _) (by simp) ?_; (case hd => rfl); (case hg => rfl); (case hr => first | (go_simp; done) | (go_simp; rfl)); (case hp => exact (Reps.none _ _)); intro v1 w3 ho4 hb2 hg_ hnew_; clear hg_ hnew_; have HO := Lib.hid ho4; have HB := Lib.hid hb2; clear hb2 ho4) | ((with_reducible refine gate_builtin (b := .append) (xs := #[.tmp 5, .tmp 6]) rfl ?_); at_builtin; refine Kd.R_append_rows (Kd.int .i64) (w0 := W) W.heap.size rfl (.tmp 5) (.tmp 6) 44 3 (.int .i64 0) 8 rfl Try.underlying44 infoS rfl (by decide) (by omega) _ [] xs _ _ _ (fun _ => True) (fun _ => False) rfl rfl ?aO ?aR (fun _ _ h => h) (fun _ h => h.elim) ?aF ?aB ?aS ?aL ?_; (case aR => exact Kd.C_below Hr.out HB.out); (case aB => exact HB.out); (case aF => exact (fun _ _ => trivial)); (case aO => exact HO.out); (case aS => exact HB.out.size); (case aL => simp; omega); intro v2 w5 ho hb3 hg hat; have HO2 := Lib.hid ho; have HB2 := Lib.hid hb3; clear ho hb3 hg hat))
    go_ret
    exact ⟨_, rfl, HO2.out, HB2.out⟩
end Go.Proofs.Ythiknekmgjnkdaa.PAll
