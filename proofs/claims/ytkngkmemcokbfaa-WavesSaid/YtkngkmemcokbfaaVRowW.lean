/- Rows with a file's parts among the parameters: a struct of two ints and three texts. No program in sight. -/
import Derived.Test.YtkngkmemcokbfaaRow
namespace Go.Proofs.Ytkngkmemcokbfaa.Row
open Go Go.ChangeShapes Go.WideShapes
set_option linter.unusedVariables false
set_option linter.unusedSimpArgs false
variable {P : Program} {w : World} {r : Reach} {base : Nat}
theorem cell_text {t : TypeId} {v : Value} (ht : P.underlying t = some .string) (h : Cell.okWide P w r base t v) : ∃ s, v = .string s := by
  unfold Cell.okWide at h
  rw [ht] at h
  cases v <;> simp [Cell.ok, ht] at h
  exact ⟨_, rfl⟩
theorem open_wave {T ti tx : TypeId} {fs : Array Field} {v : Value} (hu : P.underlying T = some (.struct fs)) (hct : P.cellTypes P.depth T = some [ti, ti, tx, tx, tx]) (hC : P.cellsOf T = 5)
    (hi : P.underlying ti = some (.int .i64)) (hx : P.underlying tx = some .string) (hv : Value.okWide P w r base T v) : ∃ (c b : Int) (h d t : ByteArray), v = .agg #[.int .i64 c, .int .i64 b, .string h, .string d, .string t] := by
  unfold Value.okWide at hv
  rw [hu] at hv
  obtain ⟨cs, rfl, hsz, ts, hts, _, hall⟩ := hv
  rw [hct] at hts
  obtain rfl := Option.some.inj hts
  rw [hC] at hsz
  obtain ⟨l⟩ := cs
  have hl : l.length = 5 := by simpa using hsz
  match l, hl with
  | [v0, v1, v2, v3, v4], _ =>
    obtain ⟨u0, e0, h0⟩ := hall 0 v0 rfl
    obtain ⟨u1, e1, h1⟩ := hall 1 v1 rfl
    obtain ⟨u2, e2, h2⟩ := hall 2 v2 rfl
    obtain ⟨u3, e3, h3⟩ := hall 3 v3 rfl
    obtain ⟨u4, e4, h4⟩ := hall 4 v4 rfl
    obtain rfl := Option.some.inj e0
    obtain rfl := Option.some.inj e1
    obtain rfl := Option.some.inj e2
    obtain rfl := Option.some.inj e3
    obtain rfl := Option.some.inj e4
    obtain ⟨c, rfl, _⟩ := cell_int hi h0
    obtain ⟨b, rfl, _⟩ := cell_int hi h1
    obtain ⟨h, rfl⟩ := cell_text hx h2
    obtain ⟨d, rfl⟩ := cell_text hx h3
    obtain ⟨t, rfl⟩ := cell_text hx h4
    exact ⟨c, b, h, d, t, rfl⟩
end Go.Proofs.Ytkngkmemcokbfaa.Row
