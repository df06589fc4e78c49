/- Layer 21: what every program answers that is one. The walk. -/
import Derived.Test.YtkngkmemcokbfaaVBuild0
import Derived.Test.YtkngkmemcokbfaaPWvx11
import Derived.Test.YtkngkmemcokbfaaPWvx12
import Derived.Test.YtkngkmemcokbfaaPWvx3
import Derived.Outline
namespace Go.Proofs.Ytkngkmemcokbfaa.PWv
open Go Go.RowKit Go.Proofs.YtkngkmemcokbfaaW.PrintWords Go.Proofs.YtkngkmemcokbfaaW.PrintMore Go.Proofs.YtkngkmemcokbfaaW.PrintLast
set_option linter.unusedVariables false
set_option linter.unusedSimpArgs false
attribute [local go_sem high] eqA37 eqA45
/-- A file of two channels of 16 bits. -/
def S64 : ByteArray := ⟨#[82, 73, 70, 70, 56, 0, 0, 0, 87, 65, 86, 69, 102, 109, 116, 32, 16, 0, 0, 0, 1, 0, 2, 0, 114, 97, 116, 101, 97, 110, 100, 98, 4, 0, 16, 0, 100, 97, 116, 97, 8, 0, 0, 0, 97, 98, 99, 100, 101, 102, 103, 104, 109, 111, 114, 101, 3, 0, 0, 0, 97, 98, 99, 100]⟩
def D8 : ByteArray := ⟨#[97, 98, 99, 100, 101, 102, 103, 104]⟩
theorem wav64 : descantlaw21_wav.f 200 2 16 D8 = some S64 := by decide +kernel
theorem parse64 : waveOf S64 = some (2, 16, S64.extract 0 44, D8, S64.extract 52 64) := by
  have h : (match waveOf S64 with | some (c, b, h, d, t) => decide (c = 2 ∧ b = 16 ∧ h.toList = (S64.extract 0 44).toList ∧ d.toList = D8.toList ∧ t.toList = (S64.extract 52 64).toList) | none => false) = true := by decide +kernel
  cases hw : waveOf S64 with
  | none => rw [hw] at h; cases h
  | some v =>
    obtain ⟨c, b, h', d, t⟩ := v
    rw [hw] at h
    obtain ⟨rfl, rfl, e3, e4, e5⟩ := of_decide_eq_true h
    rw [(Bytes.eq_iff _ _).2 ((Bytes.toList_iff _ _).1 e3), (Bytes.eq_iff _ _).2 ((Bytes.toList_iff _ _).1 e4), (Bytes.eq_iff _ _).2 ((Bytes.toList_iff _ _).1 e5)]
    rfl
theorem parse_x : waveOf ⟨#[120]⟩ = none := by
  have h : (waveOf ⟨#[120]⟩).isNone = true := by decide +kernel
  simpa using h
theorem parse_c {s : ByteArray} {c b : Int} {h d t : ByteArray} {e0 : Int} (hs : s.size ≤ 140737488351232) (hw : toldW (waveOf s) = (c, b, h, d, t, e0)) (w : World) :
    Calls Try.prog 20 #[.string s] w fun e w' => e = .returned (.tuple #[.agg #[.int .i64 c, .int .i64 b, .string h, .string d, .string t], .int .i64 e0]) ∧ Below w.heap.size w w' :=
  wave_Parse.calls (0 + 160) s c b h d t e0 w (by rw [parse_of 0 s hs, hw])
theorem build_c {c b : Int} {h d t : ByteArray} {s : ByteArray} {e0 : Int} (hw : buildOf c b h d t = (s, e0)) (w : World) :
    Calls Try.prog 22 #[.agg #[.int .i64 c, .int .i64 b, .string h, .string d, .string t]] w fun e w' => e = .returned (.tuple #[.string s, .int .i64 e0]) ∧ Below w.heap.size w w' :=
  wave_Build.calls (0 + 161) c b h d t s e0 w (by rw [build_of, hw])
theorem build_yes {c b : Int} {h d t s : ByteArray} (hw : waveOf s = some (c, b, h, d, t)) : buildOf c b h d t = (s, 0) := by
  have hj := wave_joins hw
  unfold buildOf buildOk
  rw [hj, if_pos hw]
theorem build_no {c b : Int} {h d t : ByteArray} (hw : waveOf (h ++ d ++ t) ≠ some (c, b, h, d, t)) : buildOf c b h d t = (⟨#[]⟩, 2100) := by
  unfold buildOf buildOk
  rw [if_neg hw]
theorem build_8 : buildOf 2 8 (S64.extract 0 44) D8 (S64.extract 52 64) = (⟨#[]⟩, 2100) := by
  have hj := wave_joins parse64
  apply build_no
  rw [hj, parse64]
  intro h
  have := (Prod.mk.inj (Prod.mk.inj (Option.some.inj h)).2).1
  omega
theorem five {w : World} {g : Nat} {T : TypeId} {a b c d e : Value} (h : w.heap[g]? = some (.cells #[a, b, c, d, e] T (0, 0))) : w.cell? ⟨g, 0, none⟩ = some a ∧ w.cell? ⟨g, 1, none⟩ = some b ∧ w.cell? ⟨g, 2, none⟩ = some c ∧ w.cell? ⟨g, 3, none⟩ = some d ∧ w.cell? ⟨g, 4, none⟩ = some e :=
  ⟨(blk_cell h 0).trans rfl, (blk_cell h 1).trans rfl, (blk_cell h 2).trans rfl, (blk_cell h 3).trans rfl, (blk_cell h 4).trans rfl⟩
theorem twoc {w : World} {g : Nat} {T : TypeId} {a b : Value} (h : w.heap[g]? = some (.cells #[a, b] T (0, 0))) : w.cell? ⟨g, 0, none⟩ = some a ∧ w.cell? ⟨g, 1, none⟩ = some b :=
  ⟨(blk_cell h 0).trans rfl, (blk_cell h 1).trans rfl⟩
set_option maxHeartbeats 4000000 in
theorem awake_c (w : World) : Calls Try.prog 24 #[] w fun e w' => e = .returned (.bool true) ∧ Below w.heap.size w w' := by
  have C1 := fun w => descantlaw21_wav.calls 200 2 16 D8 S64 w wav64
  have hj := wave_joins parse64
  have P1 := fun w => parse_c (s := S64) (c := 2) (b := 16) (h := S64.extract 0 44) (d := D8) (t := S64.extract 52 64) (e0 := 0) (by decide) (by rw [parse64]; rfl) w
  have P2 := fun w => parse_c (s := ⟨#[120]⟩) (c := 0) (b := 0) (h := ⟨#[]⟩) (d := ⟨#[]⟩) (t := ⟨#[]⟩) (e0 := 2100) (by decide) (by rw [parse_x]; rfl) w
  have B1 := fun w => build_c (build_yes parse64) w
  have B2 := fun w => build_c build_8 w
  have hs1 : (S64.extract 0 44).size = 44 := rfl
  have hs2 : D8.size = 8 := rfl
  have hs3 : (S64.extract 52 64).size = 12 := rfl
  obtain ⟨H, hH⟩ : ∃ H, H = S64.extract 0 44 := ⟨_, rfl⟩
  obtain ⟨T, hT⟩ : ∃ T, T = S64.extract 52 64 := ⟨_, rfl⟩
  rw [← hH, ← hT] at hj P1 B1 B2
  rw [← hH] at hs1
  rw [← hT] at hs3
  clear hH hT
  obtain ⟨D, hD⟩ : ∃ D, D = D8 := ⟨_, rfl⟩
  obtain ⟨S, hS⟩ : ∃ S, S = S64 := ⟨_, rfl⟩
  have hdl : D.toList = [97, 98, 99, 100, 101, 102, 103, 104] := by rw [hD]; decide +kernel
  rw [← hD] at C1 hj P1 B1 B2 hs2
  rw [← hS] at C1 hj P1 B1
  have hdl2 : (D.toList == [97, 98, 99, 100, 101, 102, 103, 104]) = true := by rw [hdl]; rfl
  have JJ := Lib.hid hj
  have hj2 : ((H ++ D ++ T).toList == S.toList) = true := by rw [hj]; simp
  have hD8 : (⟨#[97, 98, 99, 100, 101, 102, 103, 104]⟩ : ByteArray) = D := hD.symm
  have hD9 := Lib.hid hD8
  clear hj hD hS hD8 hdl
  go_enter Try.func24, Try.ntmps24
  go_wp2_with fail
  rw [hD9.out]
  refine (C1 _).mono ?_
  rintro e w1 ⟨rfl, hb⟩
  have X1 := Lib.hid (below_step (below_alloc (Below.refl w.heap.size w) _) hb)
  have F1 := Lib.hid (blk_below (blk_new w (.cells #[.int .i64 2, .int .i64 16] 37)) hb)
  clear hb C1
  go_wp2_with fail
  refine (P1 _).mono ?_
  rintro e w2 ⟨rfl, hb⟩
  have X2 := Lib.hid (below_step X1.out hb)
  have F2 := Lib.hid (blk_below F1.out hb)
  clear hb P1 X1 F1
  go_wp2_with fail
  refine (B1 _).mono ?_
  rintro e w3 ⟨rfl, hb⟩
  have X3 := Lib.hid (below_step (below_alloc X2.out _) hb)
  have F3 := Lib.hid (blk_below (blk_alloc F2.out _) hb)
  have G3 := Lib.hid (blk_below (blk_new w2 (.cells #[.int .i64 2, .int .i64 16, .string H, .string D, .string T] 45)) hb)
  clear hb B1 X2 F2
  go_wp2_with fail
  refine (P2 _).mono ?_
  rintro e w4 ⟨rfl, hb⟩
  have X4 := Lib.hid (below_step X3.out hb)
  have F4 := Lib.hid (blk_below F3.out hb)
  have G4 := Lib.hid (blk_below G3.out hb)
  clear hb P2 X3 F3 G3
  obtain ⟨g0, g1, g2, g3, g4⟩ := five G4.out
  have gl : w2.heap.size < w4.heap.size := blk_lt G4.out
  go_wp2_with fail
  refine (B2 _).mono ?_
  rintro e w5 ⟨rfl, hb⟩
  have X5 := Lib.hid (below_step (by first | exact below_set (below_alloc (below_alloc X4.out _) _) (by simp; have := X4.out.size; omega) | exact below_alloc (below_alloc X4.out _) _) hb)
  have hww : Below w4.heap.size w4 w5 := below_step (by first | exact below_set (below_alloc (below_alloc (Below.refl _ _) _) _) (by simp) | exact below_alloc (below_alloc (Below.refl _ _) _) _) hb
  have F5 := Lib.hid (blk_below F4.out hww)
  have G5 := Lib.hid (blk_below G4.out hww)
  clear hb B2 X4 F4 G4 hww g0 g1 g2 g3 g4 gl
  obtain ⟨g0, g1, g2, g3, g4⟩ := five G5.out
  obtain ⟨f0, f1⟩ := twoc F5.out
  have hq1 : 44 + 8 ≤ 9223372036854775807 := by omega
  go_wp2_with fail
  refine (descantlaw0_Num.calls _ _ _ rfl).mono ?_
  rintro e w6 ⟨rfl, hq⟩
  have X6 := Lib.hid (below_step X5.out hq.below)
  clear hq X5
  go_wp2_with fail
  refine (descantlaw0_Num.calls _ _ _ rfl).mono ?_
  rintro e w7 ⟨rfl, hq⟩
  have X7 := Lib.hid (below_step X6.out hq.below)
  clear hq X6
  go_wp2_with fail
  refine (descantlaw0_Num.calls _ _ _ rfl).mono ?_
  rintro e w8 ⟨rfl, hq⟩
  have X8 := Lib.hid (below_step X7.out hq.below)
  clear hq X7
  go_wp2_with fail
  refine (descantlaw0_Num.calls _ _ _ rfl).mono ?_
  rintro e w9 ⟨rfl, hq⟩
  have X9 := Lib.hid (below_step X8.out hq.below)
  clear hq X8
  go_wp2_with fail
  go_ret
  exact ⟨rfl, X9.out⟩
end Go.Proofs.Ytkngkmemcokbfaa.PWv
