/- Layer 16, Lines: what Put gives is the document's and comes back by Get, and the other way round: the walk. -/
import Derived.Test.YtpojgfpfkfjegaaLineBack
import Derived.Test.YtpojgfpfkfjegaaLineLaw
import Derived.Test.YtpojgfpfkfjegaaKept
import Derived.Test.YtpojgfpfkfjegaaLine2
namespace Go.Proofs.Ytpojgfpfkfjegaa.PAll
open Go Go.RowKit Go.Proofs.YtpojgfpfkfjegaaW.PrintWords Go.Proofs.YtpojgfpfkfjegaaW.PrintMore Go.Proofs.YtpojgfpfkfjegaaW.PrintLast
set_option linter.unusedVariables false
set_option linter.unusedSimpArgs false
set_option maxHeartbeats 16000000 in
theorem lines_calls (A0 : Option Addr) (c0 : Nat) (xs : List Int) (A1 : Option Addr) (c1 : Nat) (rs : List Int) (w : World) (h0 : (Kd.int .i64).C w A0 xs.length xs) (hc0 : xs.length ≤ c0) (h1 : (Kd.int .i64).C w A1 rs.length rs) (hc1 : rs.length ≤ c1) (l0 : xs.length * 8 ≤ 140737488351232) (l1 : rs.length * 8 ≤ 140737488351232) :
    Calls Try.prog 3 #[.slice A0 xs.length c0, .slice A1 rs.length c1] w fun e w' => e = .returned (.bool true) ∧ Below w.heap.size w w' := by
  obtain ⟨P, hP⟩ : ∃ P, P = lineOf putOne xs := ⟨_, rfl⟩
  obtain ⟨G, hG⟩ : ∃ G, G = lineOf getOne rs := ⟨_, rfl⟩
  obtain ⟨X, hX⟩ : ∃ X, X = lineOf getOne P.1 := ⟨_, rfl⟩
  obtain ⟨Y, hY⟩ : ∃ Y, Y = lineOf putOne G.1 := ⟨_, rfl⟩
  have tp := line_two putOne xs
  have tg := line_two getOne rs
  have tx := line_two getOne P.1
  have ty := line_two putOne G.1
  have bp := @line_put_back xs
  have bg := @line_get_back rs
  rw [← hP] at tp bp
  rw [← hG] at tg bg
  rw [← hX] at tx bp
  rw [← hY] at ty bg
  have HP := Lib.hid hP
  have HG := Lib.hid hG
  have HX := Lib.hid hX
  have HY := Lib.hid hY
  clear hP hG hX hY
  obtain ⟨P1, P2⟩ := P
  obtain ⟨G1, G2⟩ := G
  obtain ⟨X1, X2⟩ := X
  obtain ⟨Y1, Y2⟩ := Y
  simp only at tp tg tx ty bp bg
  have H0 := Lib.hid h0
  have H1 := Lib.hid h1
  clear h0 h1
  go_enter Try.func3, Try.ntmps3
  go_wp2_with fail
  refine (lend_calls A0 c0 xs xs w H0.out hc0 (lend_some xs (by omega))).mono ?_
  rintro e w1 ⟨AY, cy, rfl, hy, b1⟩
  have B1 := Lib.hid b1
  have HY1 := Lib.hid (Kd.R_reads' hy)
  clear hy b1
  go_wp2_with fail
  refine (lend_calls A1 c1 rs rs w1 (Kd.C_below H1.out B1.out) hc1 (lend_some rs (by omega))).mono ?_
  rintro e w2 ⟨AQ, cq, rfl, hq, b2⟩
  have HQ2 := Lib.hid (Kd.R_reads' hq)
  have B2 := Lib.hid (below_step B1.out b2)
  have HY2 : Hid ((Kd.int .i64).C w2 AY (xs ++ [-7777, -8888]).length (xs ++ [-7777, -8888])) := Lib.hid (Kd.C_below HY1.out.2.2 b2)
  have cy1 : xs.length + 2 ≤ cy := by have := HY1.out.2.1; simpa using this
  have cq1 : rs.length + 2 ≤ cq := by have := HQ2.out.2.1; simpa using this
  have HX2 : Hid ((Kd.int .i64).C w2 A0 xs.length xs) := Lib.hid (Kd.C_below H0.out B2.out)
  have HR2 : Hid ((Kd.int .i64).C w2 A1 rs.length rs) := Lib.hid (Kd.C_below H1.out B2.out)
  have HYS : Hid ((Kd.int .i64).C w2 AY xs.length xs) := Lib.hid (by have := Kd.C_take HY2.out (m := xs.length) (by simp); simpa using this)
  have HQS : Hid ((Kd.int .i64).C w2 AQ rs.length rs) := Lib.hid (by have := Kd.C_take HQ2.out.2.2 (m := rs.length) (by simp); simpa using this)
  clear hq b2 HY1 B1 H0 H1
  go_wp2_with fail
  refine (linePut_c AY cy xs w2 HYS.out (by omega)).mono ?_
  rintro e w3 ⟨va, rfl, ra, b3⟩
  rw [← HP.out] at ra ⊢
  simp only at ra ⊢
  have B3 := Lib.hid b3
  have RA3 := Lib.hid ra
  clear b3 ra
  go_wp2_with fail
  refine (refPutLine_c A0 c0 xs w3 (Kd.C_below HX2.out B3.out) (by omega)).mono ?_
  rintro e w4 ⟨vb, rfl, rb, b4⟩
  rw [← HP.out] at rb ⊢
  simp only at rb ⊢
  have B4 := Lib.hid (below_step B3.out b4)
  have RA4 := Lib.hid (Kd.R_below RA3.out b4)
  have RB4 := Lib.hid rb
  clear b4 rb B3 RA3
  go_wp2_with fail
  refine (lineGet_c AQ cq rs w4 (Kd.C_below HQS.out B4.out) (by omega)).mono ?_
  rintro e w5 ⟨vc, rfl, rc, b5⟩
  rw [← HG.out] at rc ⊢
  simp only at rc ⊢
  have B5 := Lib.hid (below_step B4.out b5)
  have RA5 := Lib.hid (Kd.R_below RA4.out b5)
  have RB5 := Lib.hid (Kd.R_below RB4.out b5)
  have RC5 := Lib.hid (Kd.R_lower (Kd.R_mono (Kd.R_bound rc) (ok' := fun k => w4.heap.size ≤ k) (fun _ hk => hk.2.1)) B4.out.size)
  have SA4 : Hid (Kd.R (Kd.int .i64) 3 w5 w2.heap.size (fun k => k < w4.heap.size) va P1) := Lib.hid (Kd.R_below (Kd.R_mono (Kd.R_bound RA4.out) (fun _ hk => hk.2.2.1)) b5)
  clear b5 rc B4 RA4 RB4
  go_wp2_with fail
  refine (refGetLine_c A1 c1 rs w5 (Kd.C_below HR2.out B5.out) (by omega)).mono ?_
  rintro e w6 ⟨vd, rfl, rd_, b6⟩
  rw [← HG.out] at rd_ ⊢
  simp only at rd_ ⊢
  have B6 := Lib.hid (below_step B5.out b6)
  have RA6 := Lib.hid (Kd.R_below SA4.out b6)
  have RB6 := Lib.hid (Kd.R_below RB5.out b6)
  have RC6 := Lib.hid (Kd.R_below RC5.out b6)
  have RD6 := Lib.hid rd_
  clear b6 rd_ B5 RA5 RB5 RC5 SA4
  obtain ⟨Aa, ca, rfl⟩ := Kd.R_slice RA6.out
  obtain ⟨Ab, cb, rfl⟩ := Kd.R_slice RB6.out
  obtain ⟨Ac, cc, rfl⟩ := Kd.R_slice RC6.out
  obtain ⟨Ad, cd, rfl⟩ := Kd.R_slice RD6.out
  go_wp2_with fail
  refine (lineGet_c Aa ca P1 w6 (Kd.R_reads' RA6.out).2.2 (Kd.R_reads' RA6.out).2.1).mono ?_
  rintro e w7 ⟨vx, rfl, rx, b7⟩
  rw [← HX.out] at rx ⊢
  simp only at rx ⊢
  have B7 := Lib.hid (below_step B6.out b7)
  have RA7 := Lib.hid (Kd.R_below RA6.out b7)
  have RB7 := Lib.hid (Kd.R_below RB6.out b7)
  have RC7 := Lib.hid (Kd.R_below RC6.out b7)
  have RD7 := Lib.hid (Kd.R_below RD6.out b7)
  have RX7 := Lib.hid rx
  clear b7 rx B6 RA6 RB6 RC6 RD6
  go_wp2_with fail
  refine (linePut_c Ac cc G1 w7 (Kd.R_reads' RC7.out).2.2 (Kd.R_reads' RC7.out).2.1).mono ?_
  rintro e w8 ⟨vy, rfl, ry, b8⟩
  rw [← HY.out] at ry ⊢
  simp only at ry ⊢
  have B8 := Lib.hid (below_step B7.out b8)
  have RA8 := Lib.hid (Kd.R_below RA7.out b8)
  have RB8 := Lib.hid (Kd.R_below RB7.out b8)
  have RC8 := Lib.hid (Kd.R_below RC7.out b8)
  have RD8 := Lib.hid (Kd.R_below RD7.out b8)
  have RX8 := Lib.hid (Kd.R_below RX7.out b8)
  have RY8 := Lib.hid ry
  clear b8 ry B7 RA7 RB7 RC7 RD7 RX7 HP HG HX HY
  obtain ⟨Ax, cx, rfl⟩ := Kd.R_slice RX8.out
  obtain ⟨Az, cz, rfl⟩ := Kd.R_slice RY8.out
  have SP := Lib.hid (same_selfA P1 (by omega))
  have SG := Lib.hid (same_selfA G1 (by omega))
  have NN : ∀ a, descantlaw0_Num.f a = some a := fun _ => rfl
  have NN2 := Lib.hid NN
  clear NN
  have BP := Lib.hid bp
  have BG := Lib.hid bg
  have TP := Lib.hid tp
  have TG := Lib.hid tg
  clear bp bg tp tg tx ty
  have SXX := Lib.hid (same_selfA xs (by omega))
  have SRR := Lib.hid (same_selfA rs (by omega))
  have BW2 := B2
  rcases TP.out.1 with rfl | rfl
  · obtain ⟨e1, e2⟩ := Prod.mk.inj (BP.out rfl); replace e1 := e1.symm; subst e1; subst e2
    rcases TG.out.1 with rfl | rfl
    · obtain ⟨e1, e2⟩ := Prod.mk.inj (BG.out rfl); replace e1 := e1.symm; subst e1; subst e2
      go_wp2_with fail
      refine (descantlaw0_SameInts.calls _ _ _ _ _ _ _ true _ (Kd.R_reads' RA8.out).2.2 (Kd.R_reads' RA8.out).2.1 (Kd.R_reads' RB8.out).2.2 (Kd.R_reads' RB8.out).2.1 SP.out).mono ?_
      rintro e w9 ⟨rfl, hd⟩
      have B9 := Lib.hid (below_step B8.out hd.below)
      have RA9 := Lib.hid (Kd.R_below RA8.out hd.below)
      have RB9 := Lib.hid (Kd.R_below RB8.out hd.below)
      have RC9 := Lib.hid (Kd.R_below RC8.out hd.below)
      have RD9 := Lib.hid (Kd.R_below RD8.out hd.below)
      have RX9 := Lib.hid (Kd.R_below RX8.out hd.below)
      have RY9 := Lib.hid (Kd.R_below RY8.out hd.below)
      clear hd RA8 RB8 RC8 RD8 RX8 RY8 B8
      go_wp2_with fail
      refine (descantlaw0_Num.calls _ _ _ rfl).mono ?_
      rintro e w10 ⟨rfl, hd⟩
      have B10 := Lib.hid (below_step B9.out hd.below)
      have RA10 := Lib.hid (Kd.R_below RA9.out hd.below)
      have RB10 := Lib.hid (Kd.R_below RB9.out hd.below)
      have RC10 := Lib.hid (Kd.R_below RC9.out hd.below)
      have RD10 := Lib.hid (Kd.R_below RD9.out hd.below)
      have RX10 := Lib.hid (Kd.R_below RX9.out hd.below)
      have RY10 := Lib.hid (Kd.R_below RY9.out hd.below)
      clear hd RA9 RB9 RC9 RD9 RX9 RY9 B9
      go_wp2_with fail
      refine (descantlaw0_SameInts.calls _ _ _ _ _ _ _ true _ (Kd.R_reads' RC10.out).2.2 (Kd.R_reads' RC10.out).2.1 (Kd.R_reads' RD10.out).2.2 (Kd.R_reads' RD10.out).2.1 SG.out).mono ?_
      rintro e w11 ⟨rfl, hd⟩
      have B11 := Lib.hid (below_step B10.out hd.below)
      have RA11 := Lib.hid (Kd.R_below RA10.out hd.below)
      have RB11 := Lib.hid (Kd.R_below RB10.out hd.below)
      have RC11 := Lib.hid (Kd.R_below RC10.out hd.below)
      have RD11 := Lib.hid (Kd.R_below RD10.out hd.below)
      have RX11 := Lib.hid (Kd.R_below RX10.out hd.below)
      have RY11 := Lib.hid (Kd.R_below RY10.out hd.below)
      clear hd RA10 RB10 RC10 RD10 RX10 RY10 B10
      go_wp2_with fail
      refine (descantlaw0_Num.calls _ _ _ rfl).mono ?_
      rintro e w12 ⟨rfl, hd⟩
      have B12 := Lib.hid (below_step B11.out hd.below)
      have RA12 := Lib.hid (Kd.R_below RA11.out hd.below)
      have RB12 := Lib.hid (Kd.R_below RB11.out hd.below)
      have RC12 := Lib.hid (Kd.R_below RC11.out hd.below)
      have RD12 := Lib.hid (Kd.R_below RD11.out hd.below)
      have RX12 := Lib.hid (Kd.R_below RX11.out hd.below)
      have RY12 := Lib.hid (Kd.R_below RY11.out hd.below)
      clear hd RA11 RB11 RC11 RD11 RX11 RY11 B11
      go_wp2_with fail
      refine (descantlaw0_Num.calls _ _ _ rfl).mono ?_
      rintro e w13 ⟨rfl, hd⟩
      have B13 := Lib.hid (below_step B12.out hd.below)
      have RA13 := Lib.hid (Kd.R_below RA12.out hd.below)
      have RB13 := Lib.hid (Kd.R_below RB12.out hd.below)
      have RC13 := Lib.hid (Kd.R_below RC12.out hd.below)
      have RD13 := Lib.hid (Kd.R_below RD12.out hd.below)
      have RX13 := Lib.hid (Kd.R_below RX12.out hd.below)
      have RY13 := Lib.hid (Kd.R_below RY12.out hd.below)
      clear hd RA12 RB12 RC12 RD12 RX12 RY12 B12
      go_wp2_with fail
      refine (descantlaw0_Num.calls _ _ _ rfl).mono ?_
      rintro e w14 ⟨rfl, hd⟩
      have B14 := Lib.hid (below_step B13.out hd.below)
      have RA14 := Lib.hid (Kd.R_below RA13.out hd.below)
      have RB14 := Lib.hid (Kd.R_below RB13.out hd.below)
      have RC14 := Lib.hid (Kd.R_below RC13.out hd.below)
      have RD14 := Lib.hid (Kd.R_below RD13.out hd.below)
      have RX14 := Lib.hid (Kd.R_below RX13.out hd.below)
      have RY14 := Lib.hid (Kd.R_below RY13.out hd.below)
      clear hd RA13 RB13 RC13 RD13 RX13 RY13 B13
      go_wp2_with fail
      refine (descantlaw0_SameInts.calls _ _ _ _ _ _ _ true _ (Kd.R_reads' RX14.out).2.2 (Kd.R_reads' RX14.out).2.1 (Kd.C_below HX2.out B14.out) hc0 SXX.out).mono ?_
      rintro e w15 ⟨rfl, hd⟩
      have B15 := Lib.hid (below_step B14.out hd.below)
      have RA15 := Lib.hid (Kd.R_below RA14.out hd.below)
      have RB15 := Lib.hid (Kd.R_below RB14.out hd.below)
      have RC15 := Lib.hid (Kd.R_below RC14.out hd.below)
      have RD15 := Lib.hid (Kd.R_below RD14.out hd.below)
      have RX15 := Lib.hid (Kd.R_below RX14.out hd.below)
      have RY15 := Lib.hid (Kd.R_below RY14.out hd.below)
      clear hd RA14 RB14 RC14 RD14 RX14 RY14 B14
      go_wp2_with fail
      refine (descantlaw0_Num.calls _ _ _ rfl).mono ?_
      rintro e w16 ⟨rfl, hd⟩
      have B16 := Lib.hid (below_step B15.out hd.below)
      have RA16 := Lib.hid (Kd.R_below RA15.out hd.below)
      have RB16 := Lib.hid (Kd.R_below RB15.out hd.below)
      have RC16 := Lib.hid (Kd.R_below RC15.out hd.below)
      have RD16 := Lib.hid (Kd.R_below RD15.out hd.below)
      have RX16 := Lib.hid (Kd.R_below RX15.out hd.below)
      have RY16 := Lib.hid (Kd.R_below RY15.out hd.below)
      clear hd RA15 RB15 RC15 RD15 RX15 RY15 B15
      go_wp2_with fail
      refine (descantlaw0_Num.calls _ _ _ rfl).mono ?_
      rintro e w17 ⟨rfl, hd⟩
      have B17 := Lib.hid (below_step B16.out hd.below)
      have RA17 := Lib.hid (Kd.R_below RA16.out hd.below)
      have RB17 := Lib.hid (Kd.R_below RB16.out hd.below)
      have RC17 := Lib.hid (Kd.R_below RC16.out hd.below)
      have RD17 := Lib.hid (Kd.R_below RD16.out hd.below)
      have RX17 := Lib.hid (Kd.R_below RX16.out hd.below)
      have RY17 := Lib.hid (Kd.R_below RY16.out hd.below)
      clear hd RA16 RB16 RC16 RD16 RX16 RY16 B16
      go_wp2_with fail
      refine (descantlaw0_SameInts.calls _ _ _ _ _ _ _ true _ (Kd.R_reads' RY17.out).2.2 (Kd.R_reads' RY17.out).2.1 (Kd.C_below HR2.out B17.out) hc1 SRR.out).mono ?_
      rintro e w18 ⟨rfl, hd⟩
      have B18 := Lib.hid (below_step B17.out hd.below)
      have RA18 := Lib.hid (Kd.R_below RA17.out hd.below)
      have RB18 := Lib.hid (Kd.R_below RB17.out hd.below)
      have RC18 := Lib.hid (Kd.R_below RC17.out hd.below)
      have RD18 := Lib.hid (Kd.R_below RD17.out hd.below)
      have RX18 := Lib.hid (Kd.R_below RX17.out hd.below)
      have RY18 := Lib.hid (Kd.R_below RY17.out hd.below)
      clear hd RA17 RB17 RC17 RD17 RX17 RY17 B17
      go_wp2_with fail
      obtain ⟨ra, ea⟩ := spoil_some P1 (by have := TP.out.2; omega)
      refine (descantlaw0_SpoilInts.calls _ _ _ P1 ra w2 w18 B18.out RA18.out ea).mono ?_
      rintro e w19 ⟨rfl, -, hb, hk⟩
      have B19 := Lib.hid hb
      have RC19 := Lib.hid (Kd.R_kept RC18.out hk (fun k h h2 => by omega))
      clear hb hk RA18 RB18 RC18 RD18 RX18 RY18 B18
      go_wp2_with fail
      obtain ⟨rc, ec⟩ := spoil_some G1 (by have := TG.out.2; omega)
      refine (descantlaw0_SpoilInts.calls _ _ _ G1 rc w2 w19 B19.out RC19.out ec).mono ?_
      rintro e w20 ⟨rfl, -, hb, hk⟩
      have B20 := Lib.hid hb
      clear hb hk RC19 B19
      go_wp2_with fail
      refine (kept_calls AY cy A0 c0 xs _ _ (by omega) (by have := Kd.C_below HY2.out B20.out; simpa using this) cy1 (Kd.C_below HYS.out B20.out) (Kd.C_below HX2.out B20.out) hc0 SXX.out).mono ?_
      rintro e w21 ⟨rfl, hd⟩
      have B21 := Lib.hid (below_step B20.out hd.below)
      clear hd B20
      go_wp2_with fail
      refine (kept_calls AQ cq A1 c1 rs _ _ (by omega) (by have := Kd.C_below HQ2.out.2.2 B21.out; simpa using this) cq1 (Kd.C_below HQS.out B21.out) (Kd.C_below HR2.out B21.out) hc1 SRR.out).mono ?_
      rintro e w22 ⟨rfl, hd⟩
      have B22 := Lib.hid (below_step B21.out hd.below)
      clear hd B21
      go_wp2_with fail
      refine (PLine.descantlaw16_awake.calls _ true _ (PLine.awake16 0)).mono ?_
      rintro e w23 ⟨rfl, hb⟩
      have B23 := Lib.hid (below_step B22.out hb)
      clear hb B22
      go_wp2_with fail
      go_ret
      exact ⟨rfl, below_then BW2.out BW2.out.size B23.out⟩
    · skip
      go_wp2_with fail
      refine (descantlaw0_SameInts.calls _ _ _ _ _ _ _ true _ (Kd.R_reads' RA8.out).2.2 (Kd.R_reads' RA8.out).2.1 (Kd.R_reads' RB8.out).2.2 (Kd.R_reads' RB8.out).2.1 SP.out).mono ?_
      rintro e w9 ⟨rfl, hd⟩
      have B9 := Lib.hid (below_step B8.out hd.below)
      have RA9 := Lib.hid (Kd.R_below RA8.out hd.below)
      have RB9 := Lib.hid (Kd.R_below RB8.out hd.below)
      have RC9 := Lib.hid (Kd.R_below RC8.out hd.below)
      have RD9 := Lib.hid (Kd.R_below RD8.out hd.below)
      have RX9 := Lib.hid (Kd.R_below RX8.out hd.below)
      have RY9 := Lib.hid (Kd.R_below RY8.out hd.below)
      clear hd RA8 RB8 RC8 RD8 RX8 RY8 B8
      go_wp2_with fail
      refine (descantlaw0_Num.calls _ _ _ rfl).mono ?_
      rintro e w10 ⟨rfl, hd⟩
      have B10 := Lib.hid (below_step B9.out hd.below)
      have RA10 := Lib.hid (Kd.R_below RA9.out hd.below)
      have RB10 := Lib.hid (Kd.R_below RB9.out hd.below)
      have RC10 := Lib.hid (Kd.R_below RC9.out hd.below)
      have RD10 := Lib.hid (Kd.R_below RD9.out hd.below)
      have RX10 := Lib.hid (Kd.R_below RX9.out hd.below)
      have RY10 := Lib.hid (Kd.R_below RY9.out hd.below)
      clear hd RA9 RB9 RC9 RD9 RX9 RY9 B9
      go_wp2_with fail
      refine (descantlaw0_SameInts.calls _ _ _ _ _ _ _ true _ (Kd.R_reads' RC10.out).2.2 (Kd.R_reads' RC10.out).2.1 (Kd.R_reads' RD10.out).2.2 (Kd.R_reads' RD10.out).2.1 SG.out).mono ?_
      rintro e w11 ⟨rfl, hd⟩
      have B11 := Lib.hid (below_step B10.out hd.below)
      have RA11 := Lib.hid (Kd.R_below RA10.out hd.below)
      have RB11 := Lib.hid (Kd.R_below RB10.out hd.below)
      have RC11 := Lib.hid (Kd.R_below RC10.out hd.below)
      have RD11 := Lib.hid (Kd.R_below RD10.out hd.below)
      have RX11 := Lib.hid (Kd.R_below RX10.out hd.below)
      have RY11 := Lib.hid (Kd.R_below RY10.out hd.below)
      clear hd RA10 RB10 RC10 RD10 RX10 RY10 B10
      go_wp2_with fail
      refine (descantlaw0_Num.calls _ _ _ rfl).mono ?_
      rintro e w12 ⟨rfl, hd⟩
      have B12 := Lib.hid (below_step B11.out hd.below)
      have RA12 := Lib.hid (Kd.R_below RA11.out hd.below)
      have RB12 := Lib.hid (Kd.R_below RB11.out hd.below)
      have RC12 := Lib.hid (Kd.R_below RC11.out hd.below)
      have RD12 := Lib.hid (Kd.R_below RD11.out hd.below)
      have RX12 := Lib.hid (Kd.R_below RX11.out hd.below)
      have RY12 := Lib.hid (Kd.R_below RY11.out hd.below)
      clear hd RA11 RB11 RC11 RD11 RX11 RY11 B11
      go_wp2_with fail
      refine (descantlaw0_Num.calls _ _ _ rfl).mono ?_
      rintro e w13 ⟨rfl, hd⟩
      have B13 := Lib.hid (below_step B12.out hd.below)
      have RA13 := Lib.hid (Kd.R_below RA12.out hd.below)
      have RB13 := Lib.hid (Kd.R_below RB12.out hd.below)
      have RC13 := Lib.hid (Kd.R_below RC12.out hd.below)
      have RD13 := Lib.hid (Kd.R_below RD12.out hd.below)
      have RX13 := Lib.hid (Kd.R_below RX12.out hd.below)
      have RY13 := Lib.hid (Kd.R_below RY12.out hd.below)
      clear hd RA12 RB12 RC12 RD12 RX12 RY12 B12
      go_wp2_with fail
      refine (descantlaw0_Num.calls _ _ _ rfl).mono ?_
      rintro e w14 ⟨rfl, hd⟩
      have B14 := Lib.hid (below_step B13.out hd.below)
      have RA14 := Lib.hid (Kd.R_below RA13.out hd.below)
      have RB14 := Lib.hid (Kd.R_below RB13.out hd.below)
      have RC14 := Lib.hid (Kd.R_below RC13.out hd.below)
      have RD14 := Lib.hid (Kd.R_below RD13.out hd.below)
      have RX14 := Lib.hid (Kd.R_below RX13.out hd.below)
      have RY14 := Lib.hid (Kd.R_below RY13.out hd.below)
      clear hd RA13 RB13 RC13 RD13 RX13 RY13 B13
      go_wp2_with fail
      refine (descantlaw0_SameInts.calls _ _ _ _ _ _ _ true _ (Kd.R_reads' RX14.out).2.2 (Kd.R_reads' RX14.out).2.1 (Kd.C_below HX2.out B14.out) hc0 SXX.out).mono ?_
      rintro e w15 ⟨rfl, hd⟩
      have B15 := Lib.hid (below_step B14.out hd.below)
      have RA15 := Lib.hid (Kd.R_below RA14.out hd.below)
      have RB15 := Lib.hid (Kd.R_below RB14.out hd.below)
      have RC15 := Lib.hid (Kd.R_below RC14.out hd.below)
      have RD15 := Lib.hid (Kd.R_below RD14.out hd.below)
      have RX15 := Lib.hid (Kd.R_below RX14.out hd.below)
      have RY15 := Lib.hid (Kd.R_below RY14.out hd.below)
      clear hd RA14 RB14 RC14 RD14 RX14 RY14 B14
      go_wp2_with fail
      refine (descantlaw0_Num.calls _ _ _ rfl).mono ?_
      rintro e w16 ⟨rfl, hd⟩
      have B16 := Lib.hid (below_step B15.out hd.below)
      have RA16 := Lib.hid (Kd.R_below RA15.out hd.below)
      have RB16 := Lib.hid (Kd.R_below RB15.out hd.below)
      have RC16 := Lib.hid (Kd.R_below RC15.out hd.below)
      have RD16 := Lib.hid (Kd.R_below RD15.out hd.below)
      have RX16 := Lib.hid (Kd.R_below RX15.out hd.below)
      have RY16 := Lib.hid (Kd.R_below RY15.out hd.below)
      clear hd RA15 RB15 RC15 RD15 RX15 RY15 B15
      go_wp2_with fail
      obtain ⟨ra, ea⟩ := spoil_some P1 (by have := TP.out.2; omega)
      refine (descantlaw0_SpoilInts.calls _ _ _ P1 ra w2 w16 B16.out RA16.out ea).mono ?_
      rintro e w17 ⟨rfl, -, hb, hk⟩
      have B17 := Lib.hid hb
      have RC17 := Lib.hid (Kd.R_kept RC16.out hk (fun k h h2 => by omega))
      clear hb hk RA16 RB16 RC16 RD16 RX16 RY16 B16
      go_wp2_with fail
      obtain ⟨rc, ec⟩ := spoil_some G1 (by have := TG.out.2; omega)
      refine (descantlaw0_SpoilInts.calls _ _ _ G1 rc w2 w17 B17.out RC17.out ec).mono ?_
      rintro e w18 ⟨rfl, -, hb, hk⟩
      have B18 := Lib.hid hb
      clear hb hk RC17 B17
      go_wp2_with fail
      refine (kept_calls AY cy A0 c0 xs _ _ (by omega) (by have := Kd.C_below HY2.out B18.out; simpa using this) cy1 (Kd.C_below HYS.out B18.out) (Kd.C_below HX2.out B18.out) hc0 SXX.out).mono ?_
      rintro e w19 ⟨rfl, hd⟩
      have B19 := Lib.hid (below_step B18.out hd.below)
      clear hd B18
      go_wp2_with fail
      refine (kept_calls AQ cq A1 c1 rs _ _ (by omega) (by have := Kd.C_below HQ2.out.2.2 B19.out; simpa using this) cq1 (Kd.C_below HQS.out B19.out) (Kd.C_below HR2.out B19.out) hc1 SRR.out).mono ?_
      rintro e w20 ⟨rfl, hd⟩
      have B20 := Lib.hid (below_step B19.out hd.below)
      clear hd B19
      go_wp2_with fail
      refine (PLine.descantlaw16_awake.calls _ true _ (PLine.awake16 0)).mono ?_
      rintro e w21 ⟨rfl, hb⟩
      have B21 := Lib.hid (below_step B20.out hb)
      clear hb B20
      go_wp2_with fail
      go_ret
      exact ⟨rfl, below_then BW2.out BW2.out.size B21.out⟩
  · skip
    rcases TG.out.1 with rfl | rfl
    · obtain ⟨e1, e2⟩ := Prod.mk.inj (BG.out rfl); replace e1 := e1.symm; subst e1; subst e2
      go_wp2_with fail
      refine (descantlaw0_SameInts.calls _ _ _ _ _ _ _ true _ (Kd.R_reads' RA8.out).2.2 (Kd.R_reads' RA8.out).2.1 (Kd.R_reads' RB8.out).2.2 (Kd.R_reads' RB8.out).2.1 SP.out).mono ?_
      rintro e w9 ⟨rfl, hd⟩
      have B9 := Lib.hid (below_step B8.out hd.below)
      have RA9 := Lib.hid (Kd.R_below RA8.out hd.below)
      have RB9 := Lib.hid (Kd.R_below RB8.out hd.below)
      have RC9 := Lib.hid (Kd.R_below RC8.out hd.below)
      have RD9 := Lib.hid (Kd.R_below RD8.out hd.below)
      have RX9 := Lib.hid (Kd.R_below RX8.out hd.below)
      have RY9 := Lib.hid (Kd.R_below RY8.out hd.below)
      clear hd RA8 RB8 RC8 RD8 RX8 RY8 B8
      go_wp2_with fail
      refine (descantlaw0_Num.calls _ _ _ rfl).mono ?_
      rintro e w10 ⟨rfl, hd⟩
      have B10 := Lib.hid (below_step B9.out hd.below)
      have RA10 := Lib.hid (Kd.R_below RA9.out hd.below)
      have RB10 := Lib.hid (Kd.R_below RB9.out hd.below)
      have RC10 := Lib.hid (Kd.R_below RC9.out hd.below)
      have RD10 := Lib.hid (Kd.R_below RD9.out hd.below)
      have RX10 := Lib.hid (Kd.R_below RX9.out hd.below)
      have RY10 := Lib.hid (Kd.R_below RY9.out hd.below)
      clear hd RA9 RB9 RC9 RD9 RX9 RY9 B9
      go_wp2_with fail
      refine (descantlaw0_SameInts.calls _ _ _ _ _ _ _ true _ (Kd.R_reads' RC10.out).2.2 (Kd.R_reads' RC10.out).2.1 (Kd.R_reads' RD10.out).2.2 (Kd.R_reads' RD10.out).2.1 SG.out).mono ?_
      rintro e w11 ⟨rfl, hd⟩
      have B11 := Lib.hid (below_step B10.out hd.below)
      have RA11 := Lib.hid (Kd.R_below RA10.out hd.below)
      have RB11 := Lib.hid (Kd.R_below RB10.out hd.below)
      have RC11 := Lib.hid (Kd.R_below RC10.out hd.below)
      have RD11 := Lib.hid (Kd.R_below RD10.out hd.below)
      have RX11 := Lib.hid (Kd.R_below RX10.out hd.below)
      have RY11 := Lib.hid (Kd.R_below RY10.out hd.below)
      clear hd RA10 RB10 RC10 RD10 RX10 RY10 B10
      go_wp2_with fail
      refine (descantlaw0_Num.calls _ _ _ rfl).mono ?_
      rintro e w12 ⟨rfl, hd⟩
      have B12 := Lib.hid (below_step B11.out hd.below)
      have RA12 := Lib.hid (Kd.R_below RA11.out hd.below)
      have RB12 := Lib.hid (Kd.R_below RB11.out hd.below)
      have RC12 := Lib.hid (Kd.R_below RC11.out hd.below)
      have RD12 := Lib.hid (Kd.R_below RD11.out hd.below)
      have RX12 := Lib.hid (Kd.R_below RX11.out hd.below)
      have RY12 := Lib.hid (Kd.R_below RY11.out hd.below)
      clear hd RA11 RB11 RC11 RD11 RX11 RY11 B11
      go_wp2_with fail
      refine (descantlaw0_Num.calls _ _ _ rfl).mono ?_
      rintro e w13 ⟨rfl, hd⟩
      have B13 := Lib.hid (below_step B12.out hd.below)
      have RA13 := Lib.hid (Kd.R_below RA12.out hd.below)
      have RB13 := Lib.hid (Kd.R_below RB12.out hd.below)
      have RC13 := Lib.hid (Kd.R_below RC12.out hd.below)
      have RD13 := Lib.hid (Kd.R_below RD12.out hd.below)
      have RX13 := Lib.hid (Kd.R_below RX12.out hd.below)
      have RY13 := Lib.hid (Kd.R_below RY12.out hd.below)
      clear hd RA12 RB12 RC12 RD12 RX12 RY12 B12
      go_wp2_with fail
      refine (descantlaw0_Num.calls _ _ _ rfl).mono ?_
      rintro e w14 ⟨rfl, hd⟩
      have B14 := Lib.hid (below_step B13.out hd.below)
      have RA14 := Lib.hid (Kd.R_below RA13.out hd.below)
      have RB14 := Lib.hid (Kd.R_below RB13.out hd.below)
      have RC14 := Lib.hid (Kd.R_below RC13.out hd.below)
      have RD14 := Lib.hid (Kd.R_below RD13.out hd.below)
      have RX14 := Lib.hid (Kd.R_below RX13.out hd.below)
      have RY14 := Lib.hid (Kd.R_below RY13.out hd.below)
      clear hd RA13 RB13 RC13 RD13 RX13 RY13 B13
      go_wp2_with fail
      refine (descantlaw0_Num.calls _ _ _ rfl).mono ?_
      rintro e w15 ⟨rfl, hd⟩
      have B15 := Lib.hid (below_step B14.out hd.below)
      have RA15 := Lib.hid (Kd.R_below RA14.out hd.below)
      have RB15 := Lib.hid (Kd.R_below RB14.out hd.below)
      have RC15 := Lib.hid (Kd.R_below RC14.out hd.below)
      have RD15 := Lib.hid (Kd.R_below RD14.out hd.below)
      have RX15 := Lib.hid (Kd.R_below RX14.out hd.below)
      have RY15 := Lib.hid (Kd.R_below RY14.out hd.below)
      clear hd RA14 RB14 RC14 RD14 RX14 RY14 B14
      go_wp2_with fail
      refine (descantlaw0_SameInts.calls _ _ _ _ _ _ _ true _ (Kd.R_reads' RY15.out).2.2 (Kd.R_reads' RY15.out).2.1 (Kd.C_below HR2.out B15.out) hc1 SRR.out).mono ?_
      rintro e w16 ⟨rfl, hd⟩
      have B16 := Lib.hid (below_step B15.out hd.below)
      have RA16 := Lib.hid (Kd.R_below RA15.out hd.below)
      have RB16 := Lib.hid (Kd.R_below RB15.out hd.below)
      have RC16 := Lib.hid (Kd.R_below RC15.out hd.below)
      have RD16 := Lib.hid (Kd.R_below RD15.out hd.below)
      have RX16 := Lib.hid (Kd.R_below RX15.out hd.below)
      have RY16 := Lib.hid (Kd.R_below RY15.out hd.below)
      clear hd RA15 RB15 RC15 RD15 RX15 RY15 B15
      go_wp2_with fail
      obtain ⟨ra, ea⟩ := spoil_some P1 (by have := TP.out.2; omega)
      refine (descantlaw0_SpoilInts.calls _ _ _ P1 ra w2 w16 B16.out RA16.out ea).mono ?_
      rintro e w17 ⟨rfl, -, hb, hk⟩
      have B17 := Lib.hid hb
      have RC17 := Lib.hid (Kd.R_kept RC16.out hk (fun k h h2 => by omega))
      clear hb hk RA16 RB16 RC16 RD16 RX16 RY16 B16
      go_wp2_with fail
      obtain ⟨rc, ec⟩ := spoil_some G1 (by have := TG.out.2; omega)
      refine (descantlaw0_SpoilInts.calls _ _ _ G1 rc w2 w17 B17.out RC17.out ec).mono ?_
      rintro e w18 ⟨rfl, -, hb, hk⟩
      have B18 := Lib.hid hb
      clear hb hk RC17 B17
      go_wp2_with fail
      refine (kept_calls AY cy A0 c0 xs _ _ (by omega) (by have := Kd.C_below HY2.out B18.out; simpa using this) cy1 (Kd.C_below HYS.out B18.out) (Kd.C_below HX2.out B18.out) hc0 SXX.out).mono ?_
      rintro e w19 ⟨rfl, hd⟩
      have B19 := Lib.hid (below_step B18.out hd.below)
      clear hd B18
      go_wp2_with fail
      refine (kept_calls AQ cq A1 c1 rs _ _ (by omega) (by have := Kd.C_below HQ2.out.2.2 B19.out; simpa using this) cq1 (Kd.C_below HQS.out B19.out) (Kd.C_below HR2.out B19.out) hc1 SRR.out).mono ?_
      rintro e w20 ⟨rfl, hd⟩
      have B20 := Lib.hid (below_step B19.out hd.below)
      clear hd B19
      go_wp2_with fail
      refine (PLine.descantlaw16_awake.calls _ true _ (PLine.awake16 0)).mono ?_
      rintro e w21 ⟨rfl, hb⟩
      have B21 := Lib.hid (below_step B20.out hb)
      clear hb B20
      go_wp2_with fail
      go_ret
      exact ⟨rfl, below_then BW2.out BW2.out.size B21.out⟩
    · skip
      go_wp2_with fail
      refine (descantlaw0_SameInts.calls _ _ _ _ _ _ _ true _ (Kd.R_reads' RA8.out).2.2 (Kd.R_reads' RA8.out).2.1 (Kd.R_reads' RB8.out).2.2 (Kd.R_reads' RB8.out).2.1 SP.out).mono ?_
      rintro e w9 ⟨rfl, hd⟩
      have B9 := Lib.hid (below_step B8.out hd.below)
      have RA9 := Lib.hid (Kd.R_below RA8.out hd.below)
      have RB9 := Lib.hid (Kd.R_below RB8.out hd.below)
      have RC9 := Lib.hid (Kd.R_below RC8.out hd.below)
      have RD9 := Lib.hid (Kd.R_below RD8.out hd.below)
      have RX9 := Lib.hid (Kd.R_below RX8.out hd.below)
      have RY9 := Lib.hid (Kd.R_below RY8.out hd.below)
      clear hd RA8 RB8 RC8 RD8 RX8 RY8 B8
      go_wp2_with fail
      refine (descantlaw0_Num.calls _ _ _ rfl).mono ?_
      rintro e w10 ⟨rfl, hd⟩
      have B10 := Lib.hid (below_step B9.out hd.below)
      have RA10 := Lib.hid (Kd.R_below RA9.out hd.below)
      have RB10 := Lib.hid (Kd.R_below RB9.out hd.below)
      have RC10 := Lib.hid (Kd.R_below RC9.out hd.below)
      have RD10 := Lib.hid (Kd.R_below RD9.out hd.below)
      have RX10 := Lib.hid (Kd.R_below RX9.out hd.below)
      have RY10 := Lib.hid (Kd.R_below RY9.out hd.below)
      clear hd RA9 RB9 RC9 RD9 RX9 RY9 B9
      go_wp2_with fail
      refine (descantlaw0_SameInts.calls _ _ _ _ _ _ _ true _ (Kd.R_reads' RC10.out).2.2 (Kd.R_reads' RC10.out).2.1 (Kd.R_reads' RD10.out).2.2 (Kd.R_reads' RD10.out).2.1 SG.out).mono ?_
      rintro e w11 ⟨rfl, hd⟩
      have B11 := Lib.hid (below_step B10.out hd.below)
      have RA11 := Lib.hid (Kd.R_below RA10.out hd.below)
      have RB11 := Lib.hid (Kd.R_below RB10.out hd.below)
      have RC11 := Lib.hid (Kd.R_below RC10.out hd.below)
      have RD11 := Lib.hid (Kd.R_below RD10.out hd.below)
      have RX11 := Lib.hid (Kd.R_below RX10.out hd.below)
      have RY11 := Lib.hid (Kd.R_below RY10.out hd.below)
      clear hd RA10 RB10 RC10 RD10 RX10 RY10 B10
      go_wp2_with fail
      refine (descantlaw0_Num.calls _ _ _ rfl).mono ?_
      rintro e w12 ⟨rfl, hd⟩
      have B12 := Lib.hid (below_step B11.out hd.below)
      have RA12 := Lib.hid (Kd.R_below RA11.out hd.below)
      have RB12 := Lib.hid (Kd.R_below RB11.out hd.below)
      have RC12 := Lib.hid (Kd.R_below RC11.out hd.below)
      have RD12 := Lib.hid (Kd.R_below RD11.out hd.below)
      have RX12 := Lib.hid (Kd.R_below RX11.out hd.below)
      have RY12 := Lib.hid (Kd.R_below RY11.out hd.below)
      clear hd RA11 RB11 RC11 RD11 RX11 RY11 B11
      go_wp2_with fail
      refine (descantlaw0_Num.calls _ _ _ rfl).mono ?_
      rintro e w13 ⟨rfl, hd⟩
      have B13 := Lib.hid (below_step B12.out hd.below)
      have RA13 := Lib.hid (Kd.R_below RA12.out hd.below)
      have RB13 := Lib.hid (Kd.R_below RB12.out hd.below)
      have RC13 := Lib.hid (Kd.R_below RC12.out hd.below)
      have RD13 := Lib.hid (Kd.R_below RD12.out hd.below)
      have RX13 := Lib.hid (Kd.R_below RX12.out hd.below)
      have RY13 := Lib.hid (Kd.R_below RY12.out hd.below)
      clear hd RA12 RB12 RC12 RD12 RX12 RY12 B12
      go_wp2_with fail
      refine (descantlaw0_Num.calls _ _ _ rfl).mono ?_
      rintro e w14 ⟨rfl, hd⟩
      have B14 := Lib.hid (below_step B13.out hd.below)
      have RA14 := Lib.hid (Kd.R_below RA13.out hd.below)
      have RB14 := Lib.hid (Kd.R_below RB13.out hd.below)
      have RC14 := Lib.hid (Kd.R_below RC13.out hd.below)
      have RD14 := Lib.hid (Kd.R_below RD13.out hd.below)
      have RX14 := Lib.hid (Kd.R_below RX13.out hd.below)
      have RY14 := Lib.hid (Kd.R_below RY13.out hd.below)
      clear hd RA13 RB13 RC13 RD13 RX13 RY13 B13
      go_wp2_with fail
      obtain ⟨ra, ea⟩ := spoil_some P1 (by have := TP.out.2; omega)
      refine (descantlaw0_SpoilInts.calls _ _ _ P1 ra w2 w14 B14.out RA14.out ea).mono ?_
      rintro e w15 ⟨rfl, -, hb, hk⟩
      have B15 := Lib.hid hb
      have RC15 := Lib.hid (Kd.R_kept RC14.out hk (fun k h h2 => by omega))
      clear hb hk RA14 RB14 RC14 RD14 RX14 RY14 B14
      go_wp2_with fail
      obtain ⟨rc, ec⟩ := spoil_some G1 (by have := TG.out.2; omega)
      refine (descantlaw0_SpoilInts.calls _ _ _ G1 rc w2 w15 B15.out RC15.out ec).mono ?_
      rintro e w16 ⟨rfl, -, hb, hk⟩
      have B16 := Lib.hid hb
      clear hb hk RC15 B15
      go_wp2_with fail
      refine (kept_calls AY cy A0 c0 xs _ _ (by omega) (by have := Kd.C_below HY2.out B16.out; simpa using this) cy1 (Kd.C_below HYS.out B16.out) (Kd.C_below HX2.out B16.out) hc0 SXX.out).mono ?_
      rintro e w17 ⟨rfl, hd⟩
      have B17 := Lib.hid (below_step B16.out hd.below)
      clear hd B16
      go_wp2_with fail
      refine (kept_calls AQ cq A1 c1 rs _ _ (by omega) (by have := Kd.C_below HQ2.out.2.2 B17.out; simpa using this) cq1 (Kd.C_below HQS.out B17.out) (Kd.C_below HR2.out B17.out) hc1 SRR.out).mono ?_
      rintro e w18 ⟨rfl, hd⟩
      have B18 := Lib.hid (below_step B17.out hd.below)
      clear hd B17
      go_wp2_with fail
      refine (PLine.descantlaw16_awake.calls _ true _ (PLine.awake16 0)).mono ?_
      rintro e w19 ⟨rfl, hb⟩
      have B19 := Lib.hid (below_step B18.out hb)
      clear hb B18
      go_wp2_with fail
      go_ret
      exact ⟨rfl, below_then BW2.out BW2.out.size B19.out⟩
theorem lines_walk (a0 : Option Addr) (len0 cap0 : Nat) (z0 : List Int) (a1 : Option Addr) (len1 cap1 : Nat) (z1 : List Int) (w : World) (w0 : (a0 = none ∧ len0 = 0 ∧ cap0 = 0 ∧ z0 = []) ∨ ∃ x, a0 = some x ∧ len0 ≤ cap0 ∧ cap0 ≤ maxLen ∧ z0.length = cap0 ∧ (∀ i, i < z0.length → w.cell? (x.add i) = some (.int .i64 (z0.getD i 0))) ∧ ∀ n ∈ z0, (Lit.int .i64 n).wf = true) (y0 : len0 * 8 ≤ 140737488351232) (w1 : (a1 = none ∧ len1 = 0 ∧ cap1 = 0 ∧ z1 = []) ∨ ∃ x, a1 = some x ∧ len1 ≤ cap1 ∧ cap1 ≤ maxLen ∧ z1.length = cap1 ∧ (∀ i, i < z1.length → w.cell? (x.add i) = some (.int .i64 (z1.getD i 0))) ∧ ∀ n ∈ z1, (Lit.int .i64 n).wf = true) (y1 : len1 * 8 ≤ 140737488351232) :
    Calls Try.prog 3 #[.slice a0 len0 cap0, .slice a1 len1 cap1] w fun e w' => e = .returned (.bool true) ∧ Below w.heap.size w w' := by
  obtain ⟨l0, rfl, hr0, hm0, hw0, hc0⟩ := ReadsInt.ofRowC w0
  obtain ⟨l1, rfl, hr1, hm1, hw1, hc1⟩ := ReadsInt.ofRowC w1
  exact lines_calls _ _ l0 _ _ l1 w (Kd.C_of_reads (d := (0 : Int)) (h1 := fun _ => rfl) hr0) hc0 (Kd.C_of_reads (d := (0 : Int)) (h1 := fun _ => rfl) hr1) hc1 y0 y1
end Go.Proofs.Ytpojgfpfkfjegaa.PAll
