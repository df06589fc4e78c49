/- Layer 21: the document's BuildWave, walked. -/
import Derived.Test.YtkngkmemcokbfaaVRefParse
import Derived.Test.YtkngkmemcokbfaaVAwake
namespace Go.Proofs.Ytkngkmemcokbfaa.PWv
open Go Go.RowKit Go.Proofs.YtkngkmemcokbfaaW.PrintWords Go.Proofs.YtkngkmemcokbfaaW.PrintMore Go.Proofs.YtkngkmemcokbfaaW.PrintLast
set_option linter.unusedVariables false
set_option linter.unusedSimpArgs false
attribute [local go_sem high] eqA37 eqA45
theorem parts_differ {c b c' b' : Int} {h d t h' d' t' : ByteArray} (hne : ¬ ((c', b', h', d', t') = (c, b, h, d, t))) : ¬ c' = c ∨ ¬ b' = b ∨ ¬ h'.toList = h.toList ∨ ¬ d'.toList = d.toList ∨ ¬ t'.toList = t.toList := by
  have g : ∀ {x y : ByteArray}, x.toList = y.toList → x = y := fun e => (Bytes.eq_iff _ _).2 ((Bytes.toList_iff _ _).1 e)
  by_cases e1 : c' = c
  · by_cases e2 : b' = b
    · by_cases e3 : h'.toList = h.toList
      · by_cases e4 : d'.toList = d.toList
        · by_cases e5 : t'.toList = t.toList
          · exact absurd (by rw [e1, e2, g e3, g e4, g e5]) hne
          · exact .inr (.inr (.inr (.inr e5)))
        · exact .inr (.inr (.inr (.inl e4)))
      · exact .inr (.inr (.inl e3))
    · exact .inr (.inl e2)
  · exact .inl e1
set_option maxHeartbeats 4000000 in
theorem refbuild_c {c b : Int} {h d t : ByteArray} {s : ByteArray} {e0 : Int} (hw : buildOf c b h d t = (s, e0)) (w : World) :
    Calls Try.prog 23 #[.agg #[.int .i64 c, .int .i64 b, .string h, .string d, .string t]] w fun e w' => e = .returned (.tuple #[.string s, .int .i64 e0]) ∧ Below w.heap.size w w' := by
  by_cases hsz : h.size ≤ 4096 ∧ d.size ≤ 4096 ∧ t.size ≤ 4096
  · obtain ⟨z1, z2, z3⟩ := hsz
    have z1i : ¬ (4096 : Int) < h.size := by omega
    have z2i : ¬ (4096 : Int) < d.size := by omega
    have z3i : ¬ (4096 : Int) < t.size := by omega
    obtain ⟨v, hv⟩ : ∃ v, v = toldW (waveOf (h ++ d ++ t)) := ⟨_, rfl⟩
    obtain ⟨c', b', h', d', t', e'⟩ := v
    have P := fun w => ref_c (s := h ++ d ++ t) (by rw [ByteArray.size_append, ByteArray.size_append]; omega) hv.symm w
    have hq1 : h.size + d.size ≤ 9223372036854775807 := by omega
    have hq2 : h.size + d.size + t.size ≤ 9223372036854775807 := by omega
    have hq1b : decide (h.size + d.size ≤ 9223372036854775807) = true := decide_eq_true hq1
    have hq2b : decide (h.size + d.size + t.size ≤ 9223372036854775807) = true := decide_eq_true hq2
    have hq1c : (9223372036854775807 < h.size + d.size) = False := eq_false (Nat.not_lt.2 hq1)
    have hq2c : (9223372036854775807 < h.size + d.size + t.size) = False := eq_false (Nat.not_lt.2 hq2)
    have key : (e' = 0 ∧ c' = c ∧ b' = b ∧ h' = h ∧ d' = d ∧ t' = t ∧ s = h ++ d ++ t ∧ e0 = 0) ∨ (e' = 2100 ∧ s = ⟨#[]⟩ ∧ e0 = 2100) ∨ (e' = 0 ∧ (¬ c' = c ∨ ¬ b' = b ∨ ¬ h'.toList = h.toList ∨ ¬ d'.toList = d.toList ∨ ¬ t'.toList = t.toList) ∧ s = ⟨#[]⟩ ∧ e0 = 2100) := by
      cases ho : waveOf (h ++ d ++ t) with
      | none =>
        rw [ho] at hv
        have hn := build_no (c := c) (b := b) (h := h) (d := d) (t := t) (by rw [ho]; exact fun hh => nomatch hh)
        rw [hn] at hw
        have h1 := Prod.mk.inj hw
        refine .inr (.inl ⟨?_, h1.1.symm, h1.2.symm⟩)
        exact (told_no hv.symm).2.2.2.2.2
      | some x =>
        obtain ⟨x1, x2, x3, x4, x5⟩ := x
        rw [ho] at hv
        have hv : (c', b', h', d', t', e') = (x1, x2, x3, x4, x5, (0 : Int)) := hv
        simp only [Prod.mk.injEq] at hv
        obtain ⟨rfl, rfl, rfl, rfl, rfl, rfl⟩ := hv
        by_cases e : (c', b', h', d', t') = (c, b, h, d, t)
        · have e2 := e
          simp only [Prod.mk.injEq] at e2
          obtain ⟨rfl, rfl, rfl, rfl, rfl⟩ := e2
          rw [build_yes ho] at hw
          have h1 := Prod.mk.inj hw
          exact .inl ⟨rfl, rfl, rfl, rfl, rfl, rfl, h1.1.symm, h1.2.symm⟩
        · have hn := build_no (c := c) (b := b) (h := h) (d := d) (t := t) (by rw [ho]; exact fun hh => e (Option.some.inj hh))
          rw [hn] at hw
          have h1 := Prod.mk.inj hw
          exact .inr (.inr ⟨rfl, parts_differ e, h1.1.symm, h1.2.symm⟩)
    have KEY := Lib.hid key
    clear key hv hw z1 z2 z3
    go_enter Try.func23, Try.ntmps23
    go_wp2_with fail
    refine (P _).mono ?_
    rintro e w1 ⟨rfl, hb⟩
    have X1 := Lib.hid (below_step (below_alloc (Below.refl w.heap.size w) _) hb)
    have F1 := Lib.hid (blk_below (blk_new w _) hb)
    clear hb P hq1 hq2 hq1b hq2b hq1c hq2c
    obtain ⟨f0, f1, f2, f3, f4⟩ := five F1.out
    have fl : w.heap.size < w1.heap.size := blk_lt F1.out
    rcases KEY.out with ⟨rfl, rfl, rfl, rfl, rfl, rfl, rfl, rfl⟩ | ⟨rfl, rfl, rfl⟩ | ⟨rfl, hne, rfl, rfl⟩
    · go_wp2_with fail
      go_ret2
      exact ⟨rfl, by first | exact below_alloc X1.out _ | exact X1.out⟩
    · go_wp2_with fail
      go_ret2
      exact ⟨rfl, by first | exact below_alloc X1.out _ | exact X1.out⟩
    · have hne2 : (!c' == c || !b' == b || (!h'.toList == h.toList || (!d'.toList == d.toList || !t'.toList == t.toList))) = true := by
        simp only [Bool.or_eq_true, Bool.not_eq_true', beq_eq_false_iff_ne]
        rcases hne with hne | hne | hne | hne | hne
        · exact .inl (.inl hne)
        · exact .inl (.inr hne)
        · exact .inr (.inl hne)
        · exact .inr (.inr (.inl hne))
        · exact .inr (.inr (.inr hne))
      clear hne
      go_wp2_with fail
      go_ret2
      exact ⟨rfl, by first | exact below_alloc X1.out _ | exact X1.out⟩
  · have hn := build_no (c := c) (b := b) (h := h) (d := d) (t := t) (fun hh => by have := ok_size hh; omega)
    rw [hn] at hw
    obtain ⟨rfl, rfl⟩ := Prod.mk.inj hw
    clear hw hn
    rcases (show 4096 < h.size ∨ h.size ≤ 4096 ∧ 4096 < d.size ∨ h.size ≤ 4096 ∧ d.size ≤ 4096 ∧ 4096 < t.size by omega) with z1 | ⟨z1, z2⟩ | ⟨z1, z2, z3⟩
    all_goals
      clear hsz
      go_enter Try.func23, Try.ntmps23
      go_wp2_with fail
      go_ret2
      exact ⟨rfl, (Below.refl _ _).alloc (Nat.le_refl _) _⟩
end Go.Proofs.Ytkngkmemcokbfaa.PWv
