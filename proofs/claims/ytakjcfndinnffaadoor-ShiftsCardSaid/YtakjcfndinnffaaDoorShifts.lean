/- Layer 18, Shifts: what Wasted, Down, Up give is the document's; the list stays: the walk. -/
import Derived.Test.YtakjcfndinnffaaDoorKeptG
import Derived.Test.YtakjcfndinnffaaDoorShiftRef
import Derived.Outline
namespace Go.Proofs.YtakjcfndinnffaaDoor.PSx
open Go Go.RowKit Go.Proofs.YtakjcfndinnffaaDoorW.PrintWords Go.Proofs.YtakjcfndinnffaaDoorW.PrintMore Go.Proofs.YtakjcfndinnffaaDoorW.PrintLast
open Go.Proofs.YtakjcfndinnffaaDoor.PSh (allS inS mayS dn upS downOk downF)
open Go.Proofs.YtakjcfndinnffaaDoor.PShift (wst upF)
set_option linter.unusedVariables false
set_option linter.unusedSimpArgs false
theorem spoil_loop (k : Nat) (d : Nat) : ∀ (i : Nat) (l : List Int), l.length ≤ 17592186044416 → i + d = l.length → ∃ r, descantlaw0_SpoilInts.l0 (k + d + 1) l i = some r := by
  induction d with
  | zero =>
    intro i l hl hi
    simp only [descantlaw0_SpoilInts.l0]
    rw [if_neg (by omega)]
    exact ⟨_, rfl⟩
  | succ d ih =>
    intro i l hl hi
    obtain ⟨m, hm⟩ : ∃ m, m = k + d + 1 := ⟨_, rfl⟩
    rw [show k + (d + 1) + 1 = m + 1 by omega]
    simp only [descantlaw0_SpoilInts.l0]
    rw [hm, if_pos (by omega), if_pos (by omega), Num.w64 (n := (i : Int) + 1) (by omega) (by omega)]
    obtain ⟨r, this⟩ := ih (i + 1) (l.set (i : Int).toNat (wrap64 ((-9) - (rd l i)))) (by rw [List.length_set]; omega) (by rw [List.length_set]; omega)
    rw [show ((i + 1 : Nat) : Int) = (i : Int) + 1 by omega] at this
    exact ⟨r, this⟩
theorem spoil_some (l : List Int) (hl : l.length ≤ 17592186044416) : ∃ r, descantlaw0_SpoilInts.f (l.length + 1) l = some r := by
  unfold descantlaw0_SpoilInts.f
  have := spoil_loop 0 l.length 0 l hl (by omega)
  rw [Nat.zero_add] at this
  exact this

theorem down_len (xs : List Int) (by_ : Int) : (downF xs by_).1.length ≤ xs.length := by
  unfold downF
  split
  · rw [List.length_map]; exact Nat.le_refl _
  · exact Nat.zero_le _
theorem up_len (xs : List Int) (by_ : Int) : (upF xs by_).1.length ≤ xs.length := by
  unfold upF
  split
  · split
    · rw [List.length_map]; exact Nat.le_refl _
    · exact Nat.zero_le _
  · exact Nat.zero_le _
def wasF (xs : List Int) : Int × Int := if allS xs = true then (wst xs, 0) else (0, 1800)
theorem was_is (xs : List Int) (hl : xs.length ≤ 17592186044416) : PShift.shift_Wasted.f (0 + xs.length + 1) xs = some (wasF xs) := by
  unfold wasF
  cases h : allS xs
  · rw [if_neg (by decide)]; exact PShift.wasted_no xs hl h _
  · rw [if_pos rfl]; exact PShift.wasted_ok xs hl h 0
set_option maxHeartbeats 16000000 in
theorem shifts_calls (A0 : Option Addr) (c0 : Nat) (xs : List Int) (by_ : Int) (w : World) (h0 : (Kd.int .i64).C w A0 xs.length xs) (hc0 : xs.length ≤ c0) (l0 : xs.length * 8 ≤ 140737488351232) (hL : Extra.Laid w) :
    Calls Tryd.prog 3 #[.slice A0 xs.length c0, .int .i64 by_] w fun e w' => e = .returned (.bool true) ∧ Below w.heap.size w w' := by
  obtain ⟨n, hn⟩ : ∃ n, n = xs.length + xs.length + 30 := ⟨_, rfl⟩
  have k1 := was_is xs (by omega)
  have k2 : descantref13_Wasted.f n xs = some (wasF xs) := refWasted_is xs (by omega) n (by omega)
  have p1 := PShift.down_is xs by_ (by omega)
  have p2 := refDown_is xs by_ (by omega) n (by omega)
  have g1 := PShift.up_is xs by_ (by omega) 0
  have g2 := refUp_is xs by_ (by omega) n (by omega)
  have dl := down_len xs by_
  have ul := up_len xs by_
  obtain ⟨Q, hQ⟩ : ∃ Q, Q = wasF xs := ⟨_, rfl⟩
  obtain ⟨P, hP⟩ : ∃ P, P = downF xs by_ := ⟨_, rfl⟩
  obtain ⟨G, hG⟩ : ∃ G, G = upF xs by_ := ⟨_, rfl⟩
  rw [← hQ] at k1 k2
  rw [← hP] at p1 p2 dl
  rw [← hG] at g1 g2 ul
  clear hQ hP hG
  obtain ⟨K1, K2⟩ := Q
  obtain ⟨P1, P2⟩ := P
  obtain ⟨G1, G2⟩ := G
  simp only at dl ul
  have SX := Lib.hid (same_selfK xs (by omega) (xs.length + 1) (by omega))
  have SP := Lib.hid (same_selfK P1 (by omega) (P1.length + 1) (by omega))
  have SG := Lib.hid (same_selfK G1 (by omega) (G1.length + 1) (by omega))
  have KP := Lib.hid k1
  have KQ := Lib.hid k2
  have PP := Lib.hid p1
  have PQ := Lib.hid p2
  have GP := Lib.hid g1
  have GQ := Lib.hid g2
  have DL := Lib.hid dl
  have UL := Lib.hid ul
  have H0 := Lib.hid h0
  have HL := Lib.hid hL
  clear h0 k1 k2 p1 p2 g1 g2 dl ul hn hL
  go_enter Tryd.func3, Tryd.ntmps3
  go_wp2_with fail
  refine (lend_calls A0 c0 xs xs w H0.out hc0 (lend_some xs (by omega))).mono ?_
  rintro e w1 ⟨AY, cy, rfl, hy, b1⟩
  have B1 := Lib.hid b1
  have HY1 := Lib.hid (Kd.R_reads' hy)
  have cy1 : xs.length + 2 ≤ cy := by have := HY1.out.2.1; simpa using this
  have HYL : Hid ((Kd.int .i64).C w1 AY (xs.length + 2) (xs ++ [-7777, -8888])) := Lib.hid (by have := HY1.out.2.2; simpa using this)
  have HYS : Hid ((Kd.int .i64).C w1 AY xs.length xs) := Lib.hid (by have := Kd.C_take HY1.out.2.2 (m := xs.length) (by simp); simpa using this)
  have H1 := Lib.hid (Kd.C_below H0.out b1)
  have L1 := Lib.hid (HL.out.below_ b1)
  have D1 : Hid (Below w1.heap.size w1 w1) := Lib.hid (Below.refl _ _)
  clear hy b1 HY1 H0 HL
  go_wp2_with fail
  refine (PShift.shift_Wasted.calls _ AY cy xs _ _ _ (Kd.C_below HYS.out D1.out) (by omega) KP.out (L1.out.below_ D1.out)).mono ?_
  rintro e w2 ⟨rfl, hb⟩
  have D2 := Lib.hid (below_step D1.out hb)
  clear hb D1
  go_wp2_with fail
  refine (descantref13_Wasted.calls _ A0 c0 xs _ _ _ (Kd.C_below H1.out D2.out) hc0 KQ.out).mono ?_
  rintro e w3 ⟨rfl, hd⟩
  have D3 := Lib.hid (below_step D2.out hd.below)
  clear hd D2
  have D3X := D3
  go_wp2_with fail
  refine (PShift.shift_Down.calls AY cy xs by_ _ _ _ (Kd.C_below HYS.out D3.out) (by omega) PP.out).mono ?_
  rintro e w4 ⟨va, rfl, hp, hb⟩
  have D4 := Lib.hid (below_step D3.out hb)
  have A4 := Lib.hid hp
  clear hp hb D3
  have A4 := Lib.hid (Kd.R_lower (Kd.R_mono (Kd.R_bound A4.out) (ok' := fun k => k < w4.heap.size) (fun _ hk => hk.2.2.1)) D3X.out.size)
  clear D3X
  have Z4 : Hid (Below w4.heap.size w4 w4) := Lib.hid (Below.refl _ _)
  go_wp2_with fail
  refine (descantref13_Down.calls _ A0 c0 xs by_ _ _ _ (Kd.C_below H1.out D4.out) hc0 PQ.out).mono ?_
  rintro e w5 ⟨vb, rfl, hp, hb⟩
  have A5 := Lib.hid (Kd.R_below A4.out hb)
  have D5 := Lib.hid (below_step D4.out hb)
  have Z5 := Lib.hid (below_step Z4.out hb)
  have B5 := Lib.hid hp
  clear hp hb A4 D4 Z4
  have Z5X := Z5
  have D5X := D5
  go_wp2_with fail
  refine (PShift.shift_Up.calls _ AY cy xs by_ _ _ _ (Kd.C_below HYS.out D5.out) (by omega) GP.out).mono ?_
  rintro e w6 ⟨vc, rfl, hp, hb⟩
  have A6 := Lib.hid (Kd.R_below A5.out hb)
  have B6 := Lib.hid (Kd.R_below B5.out hb)
  have D6 := Lib.hid (below_step D5.out hb)
  have Z6 := Lib.hid (below_step Z5.out hb)
  have C6 := Lib.hid hp
  clear hp hb A5 B5 D5 Z5
  have C6 := Lib.hid (Kd.R_lower (Kd.R_mono (Kd.R_bound C6.out) (ok' := fun k => w4.heap.size ≤ k) (fun _ hk => Nat.le_trans Z5X.out.size hk.2.1)) D5X.out.size)
  clear Z6 Z5X D5X
  go_wp2_with fail
  refine (descantref13_Up.calls _ A0 c0 xs by_ _ _ _ (Kd.C_below H1.out D6.out) hc0 GQ.out).mono ?_
  rintro e w7 ⟨vd, rfl, hp, hb⟩
  have A7 := Lib.hid (Kd.R_below A6.out hb)
  have B7 := Lib.hid (Kd.R_below B6.out hb)
  have C7 := Lib.hid (Kd.R_below C6.out hb)
  have D7 := Lib.hid (below_step D6.out hb)
  have E7 := Lib.hid hp
  clear hp hb A6 B6 C6 D6
  obtain ⟨Aa_, ca_, rfl⟩ := Kd.R_slice A7.out
  obtain ⟨Ab_, cb_, rfl⟩ := Kd.R_slice B7.out
  obtain ⟨Ac_, cc_, rfl⟩ := Kd.R_slice C7.out
  obtain ⟨Ae_, ce_, rfl⟩ := Kd.R_slice E7.out
  go_wp2_with fail
  refine (PShift.descantlaw0_Num.calls _ _ _ rfl).mono ?_
  rintro e w8 ⟨rfl, hd⟩
  have A8 := Lib.hid (Kd.R_below A7.out hd.below)
  have B8 := Lib.hid (Kd.R_below B7.out hd.below)
  have C8 := Lib.hid (Kd.R_below C7.out hd.below)
  have E8 := Lib.hid (Kd.R_below E7.out hd.below)
  have D8 := Lib.hid (below_step D7.out hd.below)
  clear hd A7 B7 C7 E7 D7
  go_wp2_with fail
  refine (descantlaw0_SameInts.calls _ _ _ P1 _ _ P1 true _ (Kd.R_reads' A8.out).2.2 (Kd.R_reads' A8.out).2.1 (Kd.R_reads' B8.out).2.2 (Kd.R_reads' B8.out).2.1 SP.out).mono ?_
  rintro e w9 ⟨rfl, hd⟩
  have A9 := Lib.hid (Kd.R_below A8.out hd.below)
  have B9 := Lib.hid (Kd.R_below B8.out hd.below)
  have C9 := Lib.hid (Kd.R_below C8.out hd.below)
  have E9 := Lib.hid (Kd.R_below E8.out hd.below)
  have D9 := Lib.hid (below_step D8.out hd.below)
  clear hd A8 B8 C8 E8 D8
  go_wp2_with fail
  refine (PShift.descantlaw0_Num.calls _ _ _ rfl).mono ?_
  rintro e w10 ⟨rfl, hd⟩
  have A10 := Lib.hid (Kd.R_below A9.out hd.below)
  have B10 := Lib.hid (Kd.R_below B9.out hd.below)
  have C10 := Lib.hid (Kd.R_below C9.out hd.below)
  have E10 := Lib.hid (Kd.R_below E9.out hd.below)
  have D10 := Lib.hid (below_step D9.out hd.below)
  clear hd A9 B9 C9 E9 D9
  go_wp2_with fail
  refine (descantlaw0_SameInts.calls _ _ _ G1 _ _ G1 true _ (Kd.R_reads' C10.out).2.2 (Kd.R_reads' C10.out).2.1 (Kd.R_reads' E10.out).2.2 (Kd.R_reads' E10.out).2.1 SG.out).mono ?_
  rintro e w11 ⟨rfl, hd⟩
  have A11 := Lib.hid (Kd.R_below A10.out hd.below)
  have B11 := Lib.hid (Kd.R_below B10.out hd.below)
  have C11 := Lib.hid (Kd.R_below C10.out hd.below)
  have E11 := Lib.hid (Kd.R_below E10.out hd.below)
  have D11 := Lib.hid (below_step D10.out hd.below)
  clear hd A10 B10 C10 E10 D10
  go_wp2_with fail
  refine (PShift.descantlaw0_Num.calls _ _ _ rfl).mono ?_
  rintro e w12 ⟨rfl, hd⟩
  have A12 := Lib.hid (Kd.R_below A11.out hd.below)
  have B12 := Lib.hid (Kd.R_below B11.out hd.below)
  have C12 := Lib.hid (Kd.R_below C11.out hd.below)
  have E12 := Lib.hid (Kd.R_below E11.out hd.below)
  have D12 := Lib.hid (below_step D11.out hd.below)
  clear hd A11 B11 C11 E11 D11
  go_wp2_with fail
  obtain ⟨ra, ea⟩ := spoil_some P1 (by have := DL.out; omega)
  refine (descantlaw0_SpoilInts.calls _ _ _ P1 ra w1 w12 D12.out A12.out ea).mono ?_
  rintro e w13 ⟨rfl, -, hb, hk⟩
  have D13 := Lib.hid hb
  have C13 := Lib.hid (Kd.R_kept C12.out hk (fun k h h2 => by omega))
  clear hb hk A12 B12 C12 E12 D12
  go_wp2_with fail
  obtain ⟨rc, ec⟩ := spoil_some G1 (by have := UL.out; omega)
  refine (descantlaw0_SpoilInts.calls _ _ _ G1 rc w1 w13 D13.out C13.out ec).mono ?_
  rintro e w14 ⟨rfl, -, hb, hk⟩
  have D14 := Lib.hid hb
  clear hb hk C13 D13
  go_wp2_with fail
  refine (kept_calls AY cy A0 c0 xs _ _ (by omega) (Kd.C_below HYL.out D14.out) cy1 (Kd.C_below HYS.out D14.out) (Kd.C_below H1.out D14.out) hc0 SX.out).mono ?_
  rintro e w15 ⟨rfl, hd⟩
  have D15 := Lib.hid (below_step D14.out hd.below)
  clear hd D14
  go_wp2_with fail
  refine (PShift.descantlaw18_awake.calls (0 + 20) true _ (PShift.awakeSh 0) (L1.out.below_ D15.out)).mono ?_
  rintro e w16 ⟨rfl, hb⟩
  have D16 := Lib.hid (below_step B1.out (below_step D15.out hb))
  clear hb D15
  go_wp2_with fail
  go_ret
  exact ⟨rfl, D16.out⟩
theorem shifts_walk (a0 : Option Addr) (len0 cap0 : Nat) (z0 : List Int) (a1 : Int) (w : World) (w0 : (a0 = none ∧ len0 = 0 ∧ cap0 = 0 ∧ z0 = []) ∨ ∃ x, a0 = some x ∧ len0 ≤ cap0 ∧ cap0 ≤ maxLen ∧ z0.length = cap0 ∧ (∀ i, i < z0.length → w.cell? (x.add i) = some (.int .i64 (z0.getD i 0))) ∧ ∀ n ∈ z0, (Lit.int .i64 n).wf = true) (y0 : len0 * 8 ≤ 140737488351232) (w1 : (Lit.int .i64 a1).wf = true) (hL : Extra.Laid w) :
    Calls Tryd.prog 3 #[.slice a0 len0 cap0, .int .i64 a1] w fun e w' => e = .returned (.bool true) ∧ Below w.heap.size w w' := by
  obtain ⟨l0, rfl, hr0, hm0, hw0, hc0⟩ := ReadsInt.ofRowC w0
  exact shifts_calls _ _ l0 a1 w (Kd.C_of_reads (d := (0 : Int)) (h1 := fun _ => rfl) hr0) hc0 y0 hL
end Go.Proofs.YtakjcfndinnffaaDoor.PSx
