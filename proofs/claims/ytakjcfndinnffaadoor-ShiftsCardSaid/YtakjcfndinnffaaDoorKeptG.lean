import Derived.Test.YtakjcfndinnffaaDoorLend
import Derived.Test.YtakjcfndinnffaaDoorNum
import Derived.Lib.Hide
namespace Go.Proofs.YtakjcfndinnffaaDoor.PSx
open Go Go.RowKit Go.Proofs.YtakjcfndinnffaaDoorW.PrintWords Go.Proofs.YtakjcfndinnffaaDoorW.PrintMore Go.Proofs.YtakjcfndinnffaaDoorW.PrintLast
set_option linter.unusedVariables false
set_option linter.unusedSimpArgs false
set_option maxHeartbeats 4000000 in
theorem kept_calls (A : Option Addr) (c0 : Nat) (A1 : Option Addr) (c1 : Nat) (xs : List Int) (k : Nat) (w : World) (hb : xs.length ≤ 17592186044416) (hr : (Kd.int .i64).C w A (xs.length + 2) (xs ++ [-7777, -8888])) (hc : xs.length + 2 ≤ c0) (h0 : (Kd.int .i64).C w A xs.length xs) (hr1 : (Kd.int .i64).C w A1 xs.length xs) (hc1 : xs.length ≤ c1) (hs : descantlaw0_SameInts.f k xs xs = some true) :
    Calls Tryd.prog 19 #[.slice A xs.length c0, .slice A1 xs.length c1] w fun e w' => e = .returned (.bool true) ∧ Drawn0 w w' := by
  obtain ⟨ad, e1, x1⟩ := Kd.at_int hr (xs.length : Int) (by omega) (by omega)
  obtain ⟨ad2, e2, x2⟩ := Kd.at_int hr ((xs.length + 1 : Nat) : Int) (by omega) (by omega)
  subst e1
  obtain rfl := Option.some.inj e2
  rw [Int.toNat_natCast] at x1 x2
  rw [show rd (xs ++ [-7777, -8888]) (xs.length : Int) = -7777 by simp [rd]] at x1
  rw [show rd (xs ++ [-7777, -8888]) ((xs.length + 1 : Nat) : Int) = -8888 by simp [rd]] at x2
  have hw : wrap64 ((xs.length : Int) + 2) = (xs.length : Int) + 2 := Num.w64 (by omega) (by omega)
  have h2 : (0 : Int) ≤ (xs.length : Int) + 2 := by omega
  have h3 : (xs.length : Int) + 2 ≤ (c0 : Int) := by omega
  have x3 : w.cell? { block := ad.block, off := ad.off + (xs.length + 1) } = some (.int .i64 (-8888)) := by simpa [Addr.add] using x2
  have Hr := Lib.hid h0
  have Hr1 := Lib.hid hr1
  clear hr h0 hr1 e2
  go_enter Tryd.func19, Tryd.ntmps19
  go_wp2_with (go_at_call 17; refine (descantlaw0_SameInts.calls k _ _ xs _ _ xs true _ Hr.out (by omega) Hr1.out hc1 hs).mono ?_; rintro e w' ⟨rfl, m, rfl⟩)
  go_ret
  exact ⟨rfl, ⟨_, rfl⟩⟩
theorem same_loopK (k : Nat) (l : List Int) (hl : l.length ≤ 17592186044416) (d : Nat) : ∀ i : Nat, i + d = l.length → descantlaw0_SameInts.l0 (k + d + 1) l l i = some true := by
  induction d with
  | zero =>
    intro i hi
    simp only [descantlaw0_SameInts.l0]
    rw [if_neg (by omega)]
  | succ d ih =>
    intro i hi
    obtain ⟨m, hm⟩ : ∃ m, m = k + d + 1 := ⟨_, rfl⟩
    rw [show k + (d + 1) + 1 = m + 1 by omega]
    simp only [descantlaw0_SameInts.l0]
    rw [hm, if_pos (by omega), if_pos (by omega), if_pos (by omega), if_pos trivial, Num.w64 (n := (i : Int) + 1) (by omega) (by omega)]
    have := ih (i + 1) (by omega)
    rw [show ((i + 1 : Nat) : Int) = (i : Int) + 1 by omega] at this
    exact this
theorem same_selfK (l : List Int) (hl : l.length ≤ 17592186044416) (k : Nat) (hk : l.length < k) : descantlaw0_SameInts.f k l l = some true := by
  unfold descantlaw0_SameInts.f
  rw [if_pos rfl, show k = (k - 1 - l.length) + l.length + 1 by omega]
  exact same_loopK _ l hl l.length 0 (by omega)
theorem lend_some (l : List Int) (hl : l.length + 2 < 17592186044416) : descantlaw0_LendInts.f l = some l := by
  have h1 : descantlaw0_CopyInts.f l = some l := by
    simp only [descantlaw0_CopyInts.f, Option.bind_some, List.length_nil, List.nil_append]
    rw [if_pos (by omega)]
  simp only [descantlaw0_LendInts.f, h1, Option.bind_some]
  rw [if_pos (by simpa using hl), if_pos (by omega), if_pos (by simp; omega)]
  simp
end Go.Proofs.YtakjcfndinnffaaDoor.PSx
