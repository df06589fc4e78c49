/- Layer 12, Contexts: what Of gives is the document's; the bits stay: the walk. -/
import Derived.Test.YtjdffodhbejnjaaKeptG
import Derived.Test.YtjdffodhbejnjaaCtxRef
import Derived.Test.YtjdffodhbejnjaaPCtxx2
import Derived.Outline
namespace Go.Proofs.Ytjdffodhbejnjaa.PLd
open Go Go.RowKit Go.Proofs.YtjdffodhbejnjaaW.PrintWords Go.Proofs.YtjdffodhbejnjaaW.PrintMore Go.Proofs.YtjdffodhbejnjaaW.PrintLast
set_option linter.unusedVariables false
set_option linter.unusedSimpArgs false
attribute [local go_sem high] PCtx.eqA43
theorem awakeC3 : PCtx.descantlaw12_awake.f = some true := by decide +kernel
set_option maxHeartbeats 8000000 in
theorem contexts_calls (before : Int) (A0 : Option Addr) (c0 : Nat) (xs : List Int) (w : World) (h0 : (Kd.int .i64).C w A0 xs.length xs) (hc0 : xs.length ≤ c0) (l0 : xs.length * 8 ≤ 140737488351232) :
    Calls Try.prog 11 #[.int .i64 before, .slice A0 xs.length c0] w fun e w' => e = .returned (.bool true) ∧ Below w.heap.size w w' := by
  obtain ⟨P, hP⟩ : ∃ P, P = PCt.ctxF before xs := ⟨_, rfl⟩
  obtain ⟨p1, p2, p3, p4⟩ := P
  have F1 : Hid (PCtx.context_Of.f before xs = some (p1, p2, p3, p4)) := Lib.hid (by unfold PCtx.context_Of.f; rw [if_pos (by omega), hP])
  have F2 := Lib.hid hP
  have SX := Lib.hid (same_selfK xs (by omega) (xs.length + 1) (by omega))
  have H0 := Lib.hid h0
  clear h0 hP
  go_enter Try.func11, Try.ntmps11
  go_wp2_with fail
  refine (lend_calls A0 c0 xs xs w H0.out hc0 (lend_some xs (by omega))).mono ?_
  rintro e w1 ⟨AY, cy, rfl, hy, b1⟩
  have B1 := Lib.hid b1
  have HY1 := Lib.hid (Kd.R_reads' hy)
  have cy1 : xs.length + 2 ≤ cy := by have := HY1.out.2.1; simpa using this
  have HYL : Hid ((Kd.int .i64).C w1 AY (xs.length + 2) (xs ++ [-7777, -8888])) := Lib.hid (by have := HY1.out.2.2; simpa using this)
  have HYS : Hid ((Kd.int .i64).C w1 AY xs.length xs) := Lib.hid (by have := Kd.C_take HY1.out.2.2 (m := xs.length) (by simp); simpa using this)
  clear hy b1 HY1
  go_wp2_with fail
  refine (PCtx.context_Of.calls before AY cy xs p1 p2 p3 p4 _ HYS.out (by omega) F1.out).mono ?_
  rintro e w2 ⟨rfl, b2⟩
  have D2 := Lib.hid (below_alloc b2 (.cells #[.int .i64 p1, .int .i64 p2, .int .i64 p3] 43))
  have E2 := Lib.hid b2.size
  clear b2
  go_wp2_with fail
  refine (PCt.refContext_c before A0 c0 xs _ (Kd.C_below H0.out (below_step B1.out D2.out)) hc0).mono ?_
  rintro e w3 ⟨rfl, b3⟩
  rw [← F2.out]
  have hb : w2.heap.size < w3.heap.size := by have := b3.size; simp at this; omega
  have k0 : w3.cell? { block := w2.heap.size, off := 0 } = some (.int .i64 p1) := (Below.cell b3 (by simp)).trans (by simp)
  have k1 : w3.cell? { block := w2.heap.size, off := 1 } = some (.int .i64 p2) := (Below.cell b3 (by simp)).trans (by simp)
  have k2 : w3.cell? { block := w2.heap.size, off := 2 } = some (.int .i64 p3) := (Below.cell b3 (by simp)).trans (by simp)
  have D3 := Lib.hid (below_alloc (below_step D2.out b3) (.cells #[.int .i64 p1, .int .i64 p2, .int .i64 p3] 43))
  clear b3 D2
  go_wp2_with fail
  refine (PCtx.descantlaw0_Num.calls _ _ _ rfl).mono ?_
  rintro e w4 ⟨rfl, hd⟩
  have D4 := Lib.hid (below_step D3.out hd.below)
  clear hd D3 k0 k1 k2
  go_wp2_with fail
  refine (kept_calls AY cy A0 c0 xs _ _ (by omega) (Kd.C_below HYL.out D4.out) cy1 (Kd.C_below HYS.out D4.out) (Kd.C_below H0.out (below_step B1.out D4.out)) hc0 SX.out).mono ?_
  rintro e w5 ⟨rfl, hd⟩
  have D5 := Lib.hid (below_step D4.out hd.below)
  clear hd D4
  go_wp2_with fail
  refine (PCtx.descantlaw12_awake.calls true _ awakeC3).mono ?_
  rintro e w6 ⟨rfl, hb6⟩
  have D6 := Lib.hid (below_step B1.out (below_step D5.out hb6))
  clear hb6 D5
  go_wp2_with fail
  go_ret
  exact ⟨rfl, D6.out⟩
theorem contexts_walk (a0 : Int) (a1 : Option Addr) (len1 cap1 : Nat) (z1 : List Int) (w : World) (w0 : (Lit.int .i64 a0).wf = true) (w1 : (a1 = none ∧ len1 = 0 ∧ cap1 = 0 ∧ z1 = []) ∨ ∃ x, a1 = some x ∧ len1 ≤ cap1 ∧ cap1 ≤ maxLen ∧ z1.length = cap1 ∧ (∀ i, i < z1.length → w.cell? (x.add i) = some (.int .i64 (z1.getD i 0))) ∧ ∀ n ∈ z1, (Lit.int .i64 n).wf = true) (y1 : len1 * 8 ≤ 140737488351232) :
    Calls Try.prog 11 #[.int .i64 a0, .slice a1 len1 cap1] w fun e w' => e = .returned (.bool true) ∧ Below w.heap.size w w' := by
  obtain ⟨l1, rfl, hr1, hm1, hw1, hc1⟩ := ReadsInt.ofRowC w1
  exact contexts_calls a0 _ _ l1 w (Kd.C_of_reads (d := (0 : Int)) (h1 := fun _ => rfl) hr1) hc1 y1
end Go.Proofs.Ytjdffodhbejnjaa.PLd
