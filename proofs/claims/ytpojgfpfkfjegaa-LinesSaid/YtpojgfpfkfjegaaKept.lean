import Derived.Test.YtpojgfpfkfjegaaLend
import Derived.Test.YtpojgfpfkfjegaaLinePure
namespace Go.Proofs.Ytpojgfpfkfjegaa.PAll
open Go Go.RowKit Go.Proofs.YtpojgfpfkfjegaaW.PrintWords Go.Proofs.YtpojgfpfkfjegaaW.PrintMore Go.Proofs.YtpojgfpfkfjegaaW.PrintLast
set_option maxHeartbeats 4000000 in
theorem kept_calls (A : Option Addr) (c0 : Nat) (A1 : Option Addr) (c1 : Nat) (xs : List Int) (k : Nat) (w : World) (hb : xs.length ≤ 17592186044416) (hr : (Kd.int .i64).C w A (xs.length + 2) (xs ++ [-7777, -8888])) (hc : xs.length + 2 ≤ c0) (h0 : (Kd.int .i64).C w A xs.length xs) (hr1 : (Kd.int .i64).C w A1 xs.length xs) (hc1 : xs.length ≤ c1) (hs : descantlaw0_SameInts.f k xs xs = some true) :
    Calls Try.prog 16 #[.slice A xs.length c0, .slice A1 xs.length c1] w fun e w' => e = .returned (.bool true) ∧ Drawn0 w w' := by
  obtain ⟨ad, e1, x1⟩ := Kd.at_int hr (xs.length : Int) (by omega) (by omega)
  obtain ⟨ad2, e2, x2⟩ := Kd.at_int hr ((xs.length + 1 : Nat) : Int) (by omega) (by omega)
  subst e1
  obtain rfl := Option.some.inj e2
  rw [Int.toNat_natCast] at x1 x2
  rw [show rd (xs ++ [-7777, -8888]) (xs.length : Int) = -7777 by simp [rd]] at x1
  rw [show rd (xs ++ [-7777, -8888]) ((xs.length + 1 : Nat) : Int) = -8888 by simp [rd]] at x2
  have hw : wrap64 ((xs.length : Int) + 2) = (xs.length : Int) + 2 := Num.w64 (by omega) (by omega)
  have h2 : (0 : Int) ≤ (xs.length : Int) + 2 := by omega
  have h3 : (xs.length : Int) + 2 ≤ (c0 : Int) := by omega
  have x3 : w.cell? { block := ad.block, off := ad.off + (xs.length + 1) } = some (.int .i64 (-8888)) := by simpa [Addr.add] using x2
  have Hr := Lib.hid h0
  have Hr1 := Lib.hid hr1
  clear hr h0 hr1 e2
  go_enter Try.func16, Try.ntmps16
  go_wp2_with (go_at_call 13; refine (descantlaw0_SameInts.calls k _ _ xs _ _ xs true _ Hr.out (by omega) Hr1.out hc1 hs).mono ?_; rintro e w' ⟨rfl, m, rfl⟩)
  go_ret
  exact ⟨rfl, ⟨_, rfl⟩⟩
end Go.Proofs.Ytpojgfpfkfjegaa.PAll
