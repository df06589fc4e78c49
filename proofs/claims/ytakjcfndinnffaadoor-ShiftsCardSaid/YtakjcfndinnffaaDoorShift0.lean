/- Layer 18: bits behind a number's last bit 1, by Go's table; may samples be; a copy of a row. -/
import Derived.Test.YtakjcfndinnffaaDoorWMore
import Derived.Test.YtakjcfndinnffaaDoorNum
import Derived.Test.YtakjcfndinnffaaDoorProg
import Derived.Lib.Hide
import Derived.BigQuiet
import Derived.WalkSpells
import Derived.WalkKit
import Derived.Laws.Bits64b
import Derived.Lib.TrailingZeros
import Derived.Shelf.Spec.TrailingZeros
import Derived.Outline
namespace Go.Proofs.YtakjcfndinnffaaDoor.Extra
open Go Go.RowKit Go.Proofs.YtakjcfndinnffaaDoorW.PrintWords
set_option linter.unusedVariables false
set_option linter.unusedSimpArgs false
/-- Go's table of the last bit 1, as it is laid. -/
structure Laid (w : World) : Prop where
  out : ∀ j, j < 64 → w.cell? ⟨1, j, none⟩ = some (.int .u8 (Lib.deBruijn64tab.getD j 0))
theorem Laid.below_ {w W : World} (h : Laid w) (hb : Below w.heap.size w W) : Laid W := ⟨fun j hj => (hb.cell (World.block_lt_of_cell? w _ (h.out j hj))).trans (h.out j hj)⟩
theorem Laid.aside {w W : World} (h : Laid w) (hb : Aside0 (Below w.heap.size w W)) : Laid W := h.below_ hb.out
theorem Laid.alloc_ {w : World} (h : Laid w) (o : Obj) : Laid (w.alloc o) := h.below_ (below_alloc (Below.refl _ _) o)
theorem Laid.drewN_ {w : World} (h : Laid w) (n : Nat) : Laid (w.drewN n) := h.below_ (pw_below_drewN (Below.refl _ _) n)
theorem Laid.drew_ {w : World} (h : Laid w) : Laid w.drew := h.below_ (below_drew (Below.refl _ _))
theorem Laid.grown_ {w W : World} (h : Laid w) (hd : Drawn0 w W) : Laid W := h.below_ hd.below
end Go.Proofs.YtakjcfndinnffaaDoor.Extra
namespace Go.Proofs.YtakjcfndinnffaaDoor.PSh
open Go Go.RowKit Go.Proofs.YtakjcfndinnffaaDoorW.PrintWords Go.Proofs.YtakjcfndinnffaaDoorW.PrintMore Go.Proofs.YtakjcfndinnffaaDoorW.PrintLast
def inS (x : Int) : Bool := decide (-131072 ≤ x ∧ x ≤ 131072)
def allS (xs : List Int) : Bool := xs.all inS
theorem wrap_u64i (n : Int) (h0 : 0 ≤ n) (h1 : n < 18446744073709551616) : IntKind.u64.wrap n = n := by rw [IntKind.wrap_u64]; omega
set_option maxHeartbeats 1000000 in
theorem tz64_c (x : Nat) (hx : x < 18446744073709551616) (w : World) (hT : Extra.Laid w) : Calls Tryd.prog 31 #[.int .u64 x] w fun e w' => e = .returned (.int .i64 (Lib.ctz 64 x)) ∧ w' = w := by
  by_cases hx0 : x = 0
  · subst hx0
    go_enter Tryd.func31, Tryd.ntmps31
    go_wp2
    go_ret
    exact ⟨rfl, rfl⟩
  · obtain ⟨hlow, hk⟩ := Lib.lowest_bit 64 x hx0 hx
    obtain ⟨hi, htab⟩ := Lib.deBruijn64_at _ hk
    have hcell := hT.out _ hi
    rw [htab] at hcell
    have key := tz64_key x _ hx hx0 hlow
    obtain ⟨k, hk2⟩ : ∃ k, k = Lib.ctz 64 x := ⟨_, rfl⟩
    rw [← hk2] at hk hcell key hi ⊢
    obtain ⟨idx, hix⟩ : ∃ idx, idx = 2 ^ k * 285870213051353865 % 18446744073709551616 / 288230376151711744 := ⟨_, rfl⟩
    rw [← hix] at hcell key hi
    have hx1 : ((x : Int) == 0) = false := by simp; omega
    clear hk2 hix hlow htab hx0
    go_enter Tryd.func31, Tryd.ntmps31
    go_wp2_with (simp only [key])
    go_ret
    exact ⟨rfl, rfl⟩
theorem tz_c (x : Nat) (hx : x < 18446744073709551616) (w : World) (hT : Extra.Laid w) : Calls Tryd.prog 23 #[.int .u64 x] w fun e w' => e = .returned (.int .i64 (Lib.ctz 64 x)) ∧ w' = w := by
  go_enter Tryd.func23, Tryd.ntmps23
  go_wp2_with (go_at_call 31; refine (tz64_c x hx _ hT).mono ?_; rintro e w' ⟨rfl, hw⟩; have hw := hw.symm; subst hw)
  go_ret
  exact ⟨rfl, rfl⟩
theorem odd_c (x : Int) (w : World) : Calls Tryd.prog 27 #[.int .i64 x] w fun e w' => e = .returned (.bool (!inS x)) ∧ w' = w := by
  by_cases c : -131072 ≤ x
  · have c1 : decide (x ≥ -131072) = true := decide_eq_true c
    go_enter Tryd.func27, Tryd.ntmps27
    go_wp2
    go_ret
    exact ⟨by simp [inS, c], rfl⟩
  · have c1 : decide (x ≥ -131072) = false := decide_eq_false (by omega)
    go_enter Tryd.func27, Tryd.ntmps27
    go_wp2
    go_ret
    exact ⟨by simp [inS]; omega, rfl⟩
theorem elem_c {w : World} {A : Option Addr} {xs : List Int} (h : (Kd.int .i64).C w A xs.length xs) {k : Nat} (hk : k < xs.length) : ∃ ad, A = some ad ∧ w.cell? (ad.add k) = some (.int .i64 (xs.getD k 0)) := by
  obtain ⟨ad, e, hx⟩ := Kd.at_int h (k : Int) (by omega) (by omega)
  rw [Int.toNat_natCast] at hx
  refine ⟨ad, e, ?_⟩
  rw [hx]
  simp [rd]
theorem all_no {xs : List Int} {k : Nat} (hk : k < xs.length) (h : inS (xs.getD k 0) = false) : allS xs = false := by
  unfold allS
  rw [List.all_eq_false]
  exact ⟨xs[k], List.getElem_mem hk, by rw [List.getD_eq_getElem?_getD, List.getElem?_eq_getElem hk] at h; simpa using h⟩
theorem all_yes {xs : List Int} (h : ∀ j, j < xs.length → inS (xs.getD j 0) = true) : allS xs = true := by
  unfold allS
  rw [List.all_eq_true]
  intro x hx
  obtain ⟨j, hj, rfl⟩ := List.getElem_of_mem hx
  have := h j hj
  rw [List.getD_eq_getElem?_getD, List.getElem?_eq_getElem hj] at this
  exact this
set_option maxHeartbeats 4000000 in
theorem index_c (A : Option Addr) (c0 : Nat) (xs : List Int) (W : World) (hb : xs.length ≤ 17592186044416) (hr : (Kd.int .i64).C W A xs.length xs) : Calls Tryd.prog 33 #[.slice A xs.length c0, .func (Fn.func 27) #[] #[]] W fun e w' => ∃ i : Int, e = .returned (.int .i64 i) ∧ w' = W ∧ decide (i ≥ 0) = !allS xs := by
  have Hr := Lib.hid hr
  clear hr
  go_enter Tryd.func33, Tryd.ntmps33
  go_wp2_with fail
  go_loop [8] (fun i => ∃ k : Nat, k ≤ xs.length ∧ i = .int .i64 k ∧ ∀ j, j < k → inS (xs.getD j 0) = true) (fun i => xs.length - (intOf i).toNat)
  case atStart => exact ⟨0, by omega, rfl, fun j hj => by omega⟩
  case round =>
    obtain ⟨k, hk, rfl, hok⟩ := hrel
    have Hok := Lib.hid hok; clear hok
    by_cases hlt : k < xs.length
    · obtain ⟨ad, rfl, hx⟩ := elem_c Hr.out hlt
      obtain ⟨x, hxe⟩ : ∃ x, x = xs.getD k 0 := ⟨_, rfl⟩
      rw [← hxe] at hx
      have Hx := Lib.hid hxe
      clear hxe
      cases hin : inS x
      · have hno := Lib.hid (all_no hlt (by rw [← Hx.out]; exact hin))
        go_wp2_with (go_at_call 27; refine (odd_c _ _).mono ?_; rintro e w' ⟨rfl, rfl⟩; rw [hin])
        go_ret
        exact ⟨(k : Int), rfl, rfl, by rw [hno.out]; exact decide_eq_true (by omega)⟩
      · go_wp2_with (go_at_call 27; refine (odd_c _ _).mono ?_; rintro e w' ⟨rfl, rfl⟩; rw [hin])
        go_round
        case rel =>
          refine ⟨k + 1, by omega, by go_num, fun j hj => ?_⟩
          by_cases hjk : j = k
          · rw [hjk, ← Hx.out]; exact hin
          · exact Hok.out j (by omega)
        case measure => simp [intOf]; omega
    · have hyes := Lib.hid (all_yes (fun j hj => Hok.out j (by omega)))
      go_wp2_with fail
      go_ret
      exact ⟨-1, rfl, rfl, by rw [hyes.out]; rfl⟩
theorem contains_c (A : Option Addr) (c0 : Nat) (xs : List Int) (W : World) (hb : xs.length ≤ 17592186044416) (hr : (Kd.int .i64).C W A xs.length xs) : Calls Tryd.prog 29 #[.slice A xs.length c0, .func (Fn.func 27) #[] #[]] W fun e w' => e = .returned (.bool (!allS xs)) ∧ w' = W := by
  go_enter Tryd.func29, Tryd.ntmps29
  go_wp2_with fail
  refine (index_c A c0 xs W hb hr).mono ?_
  rintro e w' ⟨i, rfl, hw, hi⟩
  have hw := hw.symm
  subst hw
  go_wp2_with fail
  go_ret
  exact ⟨rfl, rfl⟩
theorem infoS : (Tryd.prog.info? 3).map (fun i => (i.zero, i.size, i.bytes)) = some (some (.int .i64 0), 1, 8) := by kernel_rfl
set_option maxHeartbeats 4000000 in
theorem clone_c (A : Option Addr) (c0 : Nat) (xs : List Int) (W : World) (hb : xs.length ≤ 17592186044416) (hr : (Kd.int .i64).C W A xs.length xs) : Calls Tryd.prog 25 #[.slice A xs.length c0] W fun e w' => ∃ v, e = .returned v ∧ (Kd.int .i64).R 3 w' W.heap.size (fun _ => True) v xs ∧ Below W.heap.size W w' := by
  cases A with
  | none =>
    have h0 : xs.length = 0 := by
      rcases Nat.eq_zero_or_pos xs.length with h | h
      · exact h
      · obtain ⟨ad, e, _⟩ := elem_c hr h
        cases e
    have hx : xs = [] := List.length_eq_zero_iff.1 h0
    subst hx
    have eq1 := fun w : World => Lib.run_eql_slice_nil (P := Tryd.prog) w 22 3 none 0 c0 0 0 Tryd.underlying22
    go_enter Tryd.func25, Tryd.ntmps25
    go_wp2_with fail
    go_ret
    exact ⟨_, rfl, Kd.R_nil _ _ _ _ _, Below.refl _ _⟩
  | some ad =>
    have Hr := Lib.hid hr
    clear hr
    have eq1 := fun w : World => Lib.run_eql_slice_nil (P := Tryd.prog) w 22 3 (some ad) xs.length c0 0 0 Tryd.underlying22
    go_enter Tryd.func25, Tryd.ntmps25
    go_wp2_with (first | ((with_reducible refine gate_dst (N := 5) rfl ?_); refine Kd.R_lit (Kd.int .i64) _ 3 ?hg (N := 5) ?hd (xs := ([] : List Int)) (inner := []) (ok := fun _ => True) (okp := fun _ => True) ?hr ?hp (fun _ hk => hk) trivial (Below.refl _ _) (Nat.le_refl _) (by simp) ?_; (case hd => rfl); (case hg => rfl); (case hr => first | (go_simp; done) | (go_simp; rfl)); (case hp => exact (Reps.none _ _)); intro v1 w3 ho4 hb2 hg_ hnew_; clear hg_ hnew_; have HO := Lib.hid ho4; have HB := Lib.hid hb2; clear hb2 ho4) | ((with_reducible refine gate_builtin (b := .append) (xs := #[.tmp 5, .tmp 6]) rfl ?_); at_builtin; refine Kd.R_append_rows (Kd.int .i64) (w0 := W) W.heap.size rfl (.tmp 5) (.tmp 6) 22 3 (.int .i64 0) 8 rfl Tryd.underlying22 infoS rfl (by decide) (by omega) _ [] xs _ _ _ (fun _ => True) (fun _ => False) rfl rfl ?aO ?aR (fun _ _ h => h) (fun _ h => h.elim) ?aF ?aB ?aS ?aL ?_; (case aR => exact Kd.C_below Hr.out HB.out); (case aB => exact HB.out); (case aF => exact (fun _ _ => trivial)); (case aO => exact HO.out); (case aS => exact HB.out.size); (case aL => simp; omega); intro v2 w5 ho hb3 hg hat; have HO2 := Lib.hid ho; have HB2 := Lib.hid hb3; clear ho hb3 hg hat))
    go_ret
    exact ⟨_, rfl, HO2.out, HB2.out⟩

/-- May samples be, and a number of bits? -/
def mayS (xs : List Int) (by_ : Int) : Bool := decide (0 ≤ by_ ∧ by_ ≤ 15) && allS xs
set_option maxHeartbeats 2000000 in
theorem may_c (A : Option Addr) (c0 : Nat) (xs : List Int) (by_ : Int) (W : World) (hb : xs.length ≤ 17592186044416) (hr : (Kd.int .i64).C W A xs.length xs) : Calls Tryd.prog 22 #[.slice A xs.length c0, .int .i64 by_] W fun e w' => e = .returned (.bool (mayS xs by_)) ∧ w' = W := by
  have Hr := Lib.hid hr
  clear hr
  by_cases h1 : 0 ≤ by_
  · by_cases h2 : by_ ≤ 15
    · have e : mayS xs by_ = allS xs := by unfold mayS; rw [decide_eq_true ⟨h1, h2⟩, Bool.true_and]
      rw [e]
      clear e
      go_enter Tryd.func22, Tryd.ntmps22
      go_wp2_with (go_at_call 29; refine (contains_c _ _ xs _ hb Hr.out).mono ?_; rintro e w' ⟨rfl, hw⟩; have hw := hw.symm; subst hw)
      go_ret
      exact ⟨by simp, rfl⟩
    · have e : mayS xs by_ = false := by unfold mayS; rw [decide_eq_false (by omega), Bool.false_and]
      rw [e]
      clear e
      go_enter Tryd.func22, Tryd.ntmps22
      go_wp2_with fail
      go_ret
      exact ⟨rfl, rfl⟩
  · have e : mayS xs by_ = false := by unfold mayS; rw [decide_eq_false (by omega), Bool.false_and]
    rw [e]
    clear e
    go_enter Tryd.func22, Tryd.ntmps22
    go_wp2_with fail
    go_ret
    exact ⟨rfl, rfl⟩
end Go.Proofs.YtakjcfndinnffaaDoor.PSh
