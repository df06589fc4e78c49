/- Layer 21, Waves: the walk. -/
import Derived.Test.YtkngkmemcokbfaaVRefBuild
namespace Go.Proofs.Ytkngkmemcokbfaa.PWv
open Go Go.RowKit Go.Proofs.YtkngkmemcokbfaaW.PrintWords Go.Proofs.YtkngkmemcokbfaaW.PrintMore Go.Proofs.YtkngkmemcokbfaaW.PrintLast
set_option linter.unusedVariables false
set_option linter.unusedSimpArgs false
attribute [local go_sem high] eqA37 eqA45
theorem empty_none : waveOf ((⟨#[]⟩ : ByteArray) ++ ⟨#[]⟩ ++ ⟨#[]⟩) = none := by
  have h : (waveOf ((⟨#[]⟩ : ByteArray) ++ ⟨#[]⟩ ++ ⟨#[]⟩)).isNone = true := by decide +kernel
  simpa using h
set_option maxHeartbeats 4000000 in
theorem waves_calls (s : ByteArray) (c b : Int) (h d t : ByteArray) (w : World) (hs : s.size ≤ 140737488351232) :
    Calls Try.prog 8 #[.string s, .agg #[.int .i64 c, .int .i64 b, .string h, .string d, .string t]] w fun e w' => e = .returned (.bool true) ∧ Below w.heap.size w w' := by
  obtain ⟨v, hv⟩ : ∃ v, v = toldW (waveOf s) := ⟨_, rfl⟩
  obtain ⟨a1, a2, a3, a4, a5, e1⟩ := v
  have P := fun w => parse_c hs hv.symm w
  have Q := fun w => ref_c hs hv.symm w
  obtain ⟨x, hx⟩ : ∃ x, x = buildOf c b h d t := ⟨_, rfl⟩
  obtain ⟨bs, be⟩ := x
  have B := fun w => build_c hx.symm w
  have D := fun w => refbuild_c hx.symm w
  have key : (e1 = 0 ∧ buildOf a1 a2 a3 a4 a5 = (s, 0)) ∨ (e1 = 2100 ∧ buildOf a1 a2 a3 a4 a5 = (⟨#[]⟩, 2100)) := by
    cases ho : waveOf s with
    | none =>
      rw [ho] at hv
      obtain ⟨rfl, rfl, rfl, rfl, rfl, rfl⟩ := told_no hv.symm
      exact .inr ⟨rfl, build_no (by rw [empty_none]; exact fun hh => nomatch hh)⟩
    | some x =>
      obtain ⟨x1, x2, x3, x4, x5⟩ := x
      rw [ho] at hv
      have hv : (a1, a2, a3, a4, a5, e1) = (x1, x2, x3, x4, x5, (0 : Int)) := hv
      simp only [Prod.mk.injEq] at hv
      obtain ⟨rfl, rfl, rfl, rfl, rfl, rfl⟩ := hv
      exact .inl ⟨rfl, build_yes ho⟩
  clear hv hx
  rcases key with ⟨rfl, hk⟩ | ⟨rfl, hk⟩
  all_goals
    have E := fun w => build_c hk w
    clear hk
    go_enter Try.func8, Try.ntmps8
    go_wp2_with fail
    refine (P _).mono ?_
    rintro e w1 ⟨rfl, hb⟩
    have X1 := Lib.hid (below_step (below_alloc (Below.refl w.heap.size w) _) hb)
    have F1 := Lib.hid (blk_below (blk_new w _) hb)
    clear hb P
    go_wp2_with fail
    refine (Q _).mono ?_
    rintro e w2 ⟨rfl, hb⟩
    have X2 := Lib.hid (below_step (below_alloc X1.out _) hb)
    have F2 := Lib.hid (blk_below (blk_alloc F1.out _) hb)
    have G2 := Lib.hid (blk_below (blk_new w1 _) hb)
    clear hb Q X1 F1
    obtain ⟨f0, f1, f2, f3, f4⟩ := five F2.out
    have fl : w.heap.size < w2.heap.size := blk_lt F2.out
    go_wp2_with fail
    refine (B _).mono ?_
    rintro e w3 ⟨rfl, hb⟩
    have X3 := Lib.hid (below_step (below_alloc X2.out _) hb)
    have F3 := Lib.hid (blk_below (blk_alloc F2.out _) hb)
    have G3 := Lib.hid (blk_below (blk_alloc G2.out _) hb)
    have H3 := Lib.hid (blk_below (blk_new w2 _) hb)
    clear hb B X2 F2 G2 f0 f1 f2 f3 f4 fl
    obtain ⟨f0, f1, f2, f3, f4⟩ := five F3.out
    go_wp2_with fail
    refine (D _).mono ?_
    rintro e w4 ⟨rfl, hb⟩
    have X4 := Lib.hid (below_step X3.out hb)
    have G4 := Lib.hid (blk_below G3.out hb)
    have H4 := Lib.hid (blk_below H3.out hb)
    clear hb D X3 F3 G3 H3 f0 f1 f2 f3 f4
    obtain ⟨g0, g1, g2, g3, g4⟩ := five G4.out
    go_wp2_with fail
    refine (E _).mono ?_
    rintro e w5 ⟨rfl, hb⟩
    have X5 := Lib.hid (below_step X4.out hb)
    have G5 := Lib.hid (blk_below G4.out hb)
    have H5 := Lib.hid (blk_below H4.out hb)
    clear hb E X4 G4 H4 g0 g1 g2 g3 g4
    obtain ⟨g0, g1, g2, g3, g4⟩ := five G5.out
    obtain ⟨h0, h1, h2, h3, h4⟩ := five H5.out
    go_wp2_with fail
    refine (descantlaw0_Num.calls _ _ _ rfl).mono ?_
    rintro e w6 ⟨rfl, hq⟩
    have X6 := Lib.hid (below_step X5.out hq.below)
    clear hq X5
    go_wp2_with fail
    refine (descantlaw0_Num.calls _ _ _ rfl).mono ?_
    rintro e w7 ⟨rfl, hq⟩
    have X7 := Lib.hid (below_step X6.out hq.below)
    clear hq X6
    go_wp2_with fail
    refine (descantlaw0_Num.calls _ _ _ rfl).mono ?_
    rintro e w8 ⟨rfl, hq⟩
    have X8 := Lib.hid (below_step X7.out hq.below)
    clear hq X7
    go_wp2_with fail
    first
      | (refine (descantlaw0_Num.calls _ _ _ rfl).mono ?_
         rintro e w9 ⟨rfl, hq⟩
         have X9 := Lib.hid (below_step X8.out hq.below)
         clear hq X8
         go_wp2_with fail
         refine (awake_c _).mono ?_
         rintro e w10 ⟨rfl, hb⟩
         have X10 := Lib.hid (below_step X9.out hb)
         clear hb X9
         go_wp2_with fail
         go_ret
         exact ⟨rfl, X10.out⟩)
      | (refine (awake_c _).mono ?_
         rintro e w10 ⟨rfl, hb⟩
         have X10 := Lib.hid (below_step X8.out hb)
         clear hb X8
         go_wp2_with fail
         go_ret
         exact ⟨rfl, X10.out⟩)
end Go.Proofs.Ytkngkmemcokbfaa.PWv
