/- Layer 21, WaveParts: the walk. -/
import Derived.Test.YtkngkmemcokbfaaVAwake
namespace Go.Proofs.Ytkngkmemcokbfaa.PWv
open Go Go.RowKit Go.Proofs.YtkngkmemcokbfaaW.PrintWords Go.Proofs.YtkngkmemcokbfaaW.PrintMore Go.Proofs.YtkngkmemcokbfaaW.PrintLast
set_option linter.unusedVariables false
set_option linter.unusedSimpArgs false
attribute [local go_sem high] eqA37 eqA45
set_option maxHeartbeats 4000000 in
theorem parts_calls (c b : Int) (h d t : ByteArray) (at_ : Int) (w : World) (hat : (Lit.int .i64 at_).wf = true) :
    Calls Try.prog 11 #[.agg #[.int .i64 c, .int .i64 b, .string h, .string d, .string t], .int .i64 at_] w fun e w' => e = .returned (.bool true) ∧ Below w.heap.size w w' := by
  by_cases ho : buildOk c b h d t
  · have hj := wave_joins ho
    have hsz := wave_size ho
    obtain ⟨s, hs⟩ : ∃ s, s = h ++ d ++ t := ⟨_, rfl⟩
    have hw : waveOf s = some (c, b, h, d, t) := by rw [hs]; exact ho
    rw [← hs] at hsz
    clear hj ho
    have hm1 : 0 ≤ IntKind.u64.wrap at_ % ((s.size : Int) + 1) := Int.emod_nonneg _ (by omega)
    have hm2 : IntKind.u64.wrap at_ % ((s.size : Int) + 1) < (s.size : Int) + 1 := Int.emod_lt_of_pos _ (by omega)
    obtain ⟨n, hn⟩ : ∃ n : Nat, IntKind.u64.wrap at_ % ((s.size : Int) + 1) = n := ⟨(IntKind.u64.wrap at_ % ((s.size : Int) + 1)).toNat, by omega⟩
    have hnl : n ≤ s.size := by omega
    have hun : 0 ≤ IntKind.u64.wrap at_ := by rw [IntKind.wrap_u64]; omega
    have hnt : (IntKind.u64.wrap at_).tmod (s.size + 1) = n := by rw [Int.tmod_eq_emod_of_nonneg hun, hn]
    have hcat : s.extract 0 n ++ ⟨#[]⟩ ++ s.extract n s.size = s := by
      apply Bytes.inj
      rw [Bytes.of_append, Bytes.of_append, Bytes.of_extract, Bytes.of_extract, List.drop_zero, Nat.sub_zero, show bytesOf (⟨#[]⟩ : ByteArray) = [] from rfl, List.append_nil]
      rw [show ((bytesOf s).drop n).take (s.size - n) = (bytesOf s).drop n from List.take_of_length_le (by rw [List.length_drop, bytesOf_length]; omega)]
      exact List.take_append_drop n _
    have B1 := fun w => build_c (build_yes hw) w
    have P1 := fun w => parse_c (s := s) (c := c) (b := b) (h := h) (d := d) (t := t) (e0 := 0) (by omega) (by rw [hw]; rfl) w
    have B2 : (∀ w, Calls Try.prog 22 #[.agg #[.int .i64 c, .int .i64 b, .string (s.extract 0 n), .string ⟨#[]⟩, .string (s.extract n s.size)]] w fun e w' => e = .returned (.tuple #[.string s, .int .i64 0]) ∧ Below w.heap.size w w') ∧ h = s.extract 0 n ∧ d = ⟨#[]⟩ ∧ t = s.extract n s.size ∨
        (∀ w, Calls Try.prog 22 #[.agg #[.int .i64 c, .int .i64 b, .string (s.extract 0 n), .string ⟨#[]⟩, .string (s.extract n s.size)]] w fun e w' => e = .returned (.tuple #[.string ⟨#[]⟩, .int .i64 2100]) ∧ Below w.heap.size w w') ∧ (¬ (s.extract 0 n).toList = h.toList ∨ ¬ d.toList = [] ∨ ¬ (s.extract n s.size).toList = t.toList) := by
      by_cases e : h = s.extract 0 n ∧ d = ⟨#[]⟩ ∧ t = s.extract n s.size
      · refine .inl ⟨fun w => build_c (build_yes ?_) w, e⟩
        rw [hw, e.1, e.2.1, e.2.2]
      · refine .inr ⟨fun w => build_c (build_no ?_) w, ?_⟩
        · rw [hcat, hw]
          intro hh
          have hh := Option.some.inj hh
          obtain ⟨_, hh⟩ := Prod.mk.inj hh; obtain ⟨_, hh⟩ := Prod.mk.inj hh; obtain ⟨h3, hh⟩ := Prod.mk.inj hh; obtain ⟨h4, h5⟩ := Prod.mk.inj hh
          exact e ⟨h3, h4, h5⟩
        · by_cases g1 : (s.extract 0 n).toList = h.toList
          · by_cases g2 : d.toList = []
            · by_cases g3 : (s.extract n s.size).toList = t.toList
              · refine absurd ⟨?_, ?_, ?_⟩ e
                · exact ((Bytes.eq_iff _ _).2 ((Bytes.toList_iff _ _).1 g1)).symm
                · exact (Bytes.eq_iff _ _).2 (List.eq_nil_of_length_eq_zero (by rw [bytesOf_length, (Bytes.nil_iff d).1 g2]))
                · exact ((Bytes.eq_iff _ _).2 ((Bytes.toList_iff _ _).1 g3)).symm
              · exact .inr (.inr g3)
            · exact .inr (.inl g2)
          · exact .inl g1
    have hw1 : wrap64 ((s.size : Int) + 1) = s.size + 1 := Num.w64 (by omega) (by omega)
    have hw2 : IntKind.u64.wrap ((s.size : Int) + 1) = s.size + 1 := by rw [IntKind.wrap_u64]; omega
    have hz : ((s.size : Int) + 1 = 0) = False := eq_false (by omega)
    have hn0 : (0 : Int) ≤ n := by omega
    have hn1 : (n : Int) ≤ s.size := by omega
    have hw3 : wrap64 (n : Int) = n := Num.w64 (by omega) (by omega)
    clear hcat hn hun hsz hm1 hm2
    have HS := Lib.hid hs
    have HW := Lib.hid hw
    clear hs hw
    rcases B2 with ⟨B2, e1, e2, e3⟩ | ⟨B2, hne⟩
    · subst e1; subst e2; subst e3
      go_enter Try.func11, Try.ntmps11
      go_wp2_with fail
      refine (awake_c _).mono ?_
      rintro e w1 ⟨rfl, hb⟩
      have X1 := Lib.hid (below_step (below_alloc (Below.refl w.heap.size w) _) hb)
      have F1 := Lib.hid (blk_below (blk_new w _) hb)
      clear hb
      obtain ⟨f0, f1, f2, f3, f4⟩ := five F1.out
      go_wp2_with fail
      refine (B1 _).mono ?_
      rintro e w2 ⟨rfl, hb⟩
      have X2 := Lib.hid (below_step X1.out hb)
      have F2 := Lib.hid (blk_below F1.out hb)
      clear hb B1 X1 F1 f0 f1 f2 f3 f4
      obtain ⟨f0, f1, f2, f3, f4⟩ := five F2.out
      go_wp2_with fail
      refine (descantlaw0_Num.calls _ _ _ rfl).mono ?_
      rintro e w3 ⟨rfl, hq⟩
      have X3 := Lib.hid (below_step X2.out hq.below)
      have F3 := Lib.hid (blk_below F2.out hq.below)
      clear hq X2 F2 f0 f1 f2 f3 f4
      obtain ⟨f0, f1, f2, f3, f4⟩ := five F3.out
      have fl : w.heap.size < w3.heap.size := blk_lt F3.out
      go_wp2_with fail
      refine (B2 _).mono ?_
      rintro e w4 ⟨rfl, hb⟩
      have X4 := Lib.hid (below_step (below_alloc X3.out _) hb)
      have F4 := Lib.hid (blk_below (blk_alloc F3.out _) hb)
      have G4 := Lib.hid (blk_below (blk_new w3 _) hb)
      clear hb B2 X3 F3 f0 f1 f2 f3 f4 fl
      go_wp2_with fail
      refine (P1 _).mono ?_
      rintro e w5 ⟨rfl, hb⟩
      have X5 := Lib.hid (below_step X4.out hb)
      have F5 := Lib.hid (blk_below F4.out hb)
      have G5 := Lib.hid (blk_below G4.out hb)
      clear hb P1 X4 F4 G4
      go_wp2_with fail
      refine (descantlaw0_Num.calls _ _ _ rfl).mono ?_
      rintro e w6 ⟨rfl, hq⟩
      have X6 := Lib.hid (below_step (below_alloc X5.out _) hq.below)
      have F6 := Lib.hid (blk_below (blk_alloc F5.out _) hq.below)
      have G6 := Lib.hid (blk_below (blk_alloc G5.out _) hq.below)
      have E6 := Lib.hid (blk_below (blk_new w5 _) hq.below)
      clear hq X5 F5 G5
      obtain ⟨f0, f1, f2, f3, f4⟩ := five F6.out
      obtain ⟨g0, g1, g2, g3, g4⟩ := five G6.out
      obtain ⟨e0, e1, e2, e3, e4⟩ := five E6.out
      go_wp2_with fail
      refine (descantlaw0_Num.calls _ _ _ rfl).mono ?_
      rintro e w7 ⟨rfl, hq⟩
      have X7 := Lib.hid (below_step X6.out hq.below)
      clear hq
      go_wp2_with fail
      go_ret
      exact ⟨rfl, X7.out⟩
    · rcases hne with hne | hne | hne
      all_goals
        have hne1 := eq_false hne
        first | have hne2 : ([] : List UInt8) ≠ _ := Ne.symm hne | skip
        go_enter Try.func11, Try.ntmps11
        go_wp2_with fail
        refine (awake_c _).mono ?_
        rintro e w1 ⟨rfl, hb⟩
        have X1 := Lib.hid (below_step (below_alloc (Below.refl w.heap.size w) _) hb)
        have F1 := Lib.hid (blk_below (blk_new w _) hb)
        clear hb
        obtain ⟨f0, f1, f2, f3, f4⟩ := five F1.out
        go_wp2_with fail
        refine (B1 _).mono ?_
        rintro e w2 ⟨rfl, hb⟩
        have X2 := Lib.hid (below_step X1.out hb)
        have F2 := Lib.hid (blk_below F1.out hb)
        clear hb B1 X1 F1 f0 f1 f2 f3 f4
        obtain ⟨f0, f1, f2, f3, f4⟩ := five F2.out
        go_wp2_with fail
        refine (descantlaw0_Num.calls _ _ _ rfl).mono ?_
        rintro e w3 ⟨rfl, hq⟩
        have X3 := Lib.hid (below_step X2.out hq.below)
        have F3 := Lib.hid (blk_below F2.out hq.below)
        clear hq X2 F2 f0 f1 f2 f3 f4
        obtain ⟨f0, f1, f2, f3, f4⟩ := five F3.out
        have fl : w.heap.size < w3.heap.size := blk_lt F3.out
        go_wp2_with fail
        refine (B2 _).mono ?_
        rintro e w4 ⟨rfl, hb⟩
        have X4 := Lib.hid (below_step (below_alloc X3.out _) hb)
        have F4 := Lib.hid (blk_below (blk_alloc F3.out _) hb)
        have G4 := Lib.hid (blk_below (blk_new w3 _) hb)
        clear hb B2 X3 F3 f0 f1 f2 f3 f4 fl
        go_wp2_with fail
        refine (P1 _).mono ?_
        rintro e w5 ⟨rfl, hb⟩
        have X5 := Lib.hid (below_step X4.out hb)
        have F5 := Lib.hid (blk_below F4.out hb)
        have G5 := Lib.hid (blk_below G4.out hb)
        clear hb P1 X4 F4 G4
        go_wp2_with fail
        refine (descantlaw0_Num.calls _ _ _ rfl).mono ?_
        rintro e w6 ⟨rfl, hq⟩
        have X6 := Lib.hid (below_step (below_alloc X5.out _) hq.below)
        have F6 := Lib.hid (blk_below (blk_alloc F5.out _) hq.below)
        have G6 := Lib.hid (blk_below (blk_alloc G5.out _) hq.below)
        have E6 := Lib.hid (blk_below (blk_new w5 _) hq.below)
        clear hq X5 F5 G5
        obtain ⟨f0, f1, f2, f3, f4⟩ := five F6.out
        obtain ⟨g0, g1, g2, g3, g4⟩ := five G6.out
        obtain ⟨e0, e1, e2, e3, e4⟩ := five E6.out
        go_wp2_with fail
        refine (descantlaw0_Num.calls _ _ _ rfl).mono ?_
        rintro e w7 ⟨rfl, hq⟩
        have X7 := Lib.hid (below_step X6.out hq.below)
        clear hq
        go_wp2_with fail
        go_ret
        refine ⟨?_, X7.out⟩
        show Ending.returned (.bool _) = .returned (.bool true)
        refine congrArg (fun b => Ending.returned (Value.bool b)) ?_
        simp [hne]
  · have B1 := fun w => build_c (build_no ho) w
    go_enter Try.func11, Try.ntmps11
    go_wp2_with fail
    refine (awake_c _).mono ?_
    rintro e w1 ⟨rfl, hb⟩
    have X1 := Lib.hid (below_step (below_alloc (Below.refl w.heap.size w) _) hb)
    have F1 := Lib.hid (blk_below (blk_new w _) hb)
    clear hb
    obtain ⟨f0, f1, f2, f3, f4⟩ := five F1.out
    go_wp2_with fail
    refine (B1 _).mono ?_
    rintro e w2 ⟨rfl, hb⟩
    have X2 := Lib.hid (below_step X1.out hb)
    clear hb B1 X1 F1 f0 f1 f2 f3 f4
    go_wp2_with fail
    refine (descantlaw0_Num.calls _ _ _ rfl).mono ?_
    rintro e w3 ⟨rfl, hq⟩
    have X3 := Lib.hid (below_step X2.out hq.below)
    clear hq X2
    go_wp2_with fail
    go_ret
    exact ⟨rfl, X3.out⟩
end Go.Proofs.Ytkngkmemcokbfaa.PWv
