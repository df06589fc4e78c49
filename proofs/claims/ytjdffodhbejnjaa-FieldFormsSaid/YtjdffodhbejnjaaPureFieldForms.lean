/- 'FieldForms' of chapter 1: numbers below 0 and beyond so many bytes, counts of bytes and texts that may not be are refused; the greatest number is taken. No condition. -/
import Derived.Test.YtjdffodhbejnjaaPAllx5
import Derived.Test.YtjdffodhbejnjaaField
namespace Go.Proofs.Ytjdffodhbejnjaa.Pure
open Go.RowKit Go.Proofs.Ytjdffodhbejnjaa.PAll Go.Proofs.YtjdffodhbejnjaaW.PrintWords Go.Proofs.YtjdffodhbejnjaaW.PrintLast Go.Proofs.YtjdffodhbejnjaaW.PrintMore
set_option linter.unusedVariables false
set_option linter.unusedSimpArgs false

theorem awake_FieldForms : descantlaw1_awake.f 7 = some true := by decide +kernel

theorem full (m : Int) (h1 : 1 ≤ m) (h4 : m ≤ 4) : (strOfNums (low m.toNat (256 ^ m.toNat - 1))).toList = ((⟨#[255, 255, 255, 255]⟩ : ByteArray).extract 0 m.toNat).toList := by
  rcases show m = 1 ∨ m = 2 ∨ m = 3 ∨ m = 4 by omega with rfl | rfl | rfl | rfl <;> decide +kernel

theorem FieldForms : descantlaw1_FieldForms.Pure := by
  intro a b _ _
  refine ⟨7, ?_⟩
  unfold descantlaw1_FieldForms.f
  rw [awake_FieldForms, Num.and_mask a 3 2 (by decide) (by decide), Num.and_mask b 1023 10 (by decide) (by decide)]
  simp only [Option.bind_some, if_true]
  have ha := Int.emod_nonneg a (show (2 : Int) ^ 2 ≠ 0 by decide)
  have ha2 : a % 2 ^ 2 < 4 := Int.emod_lt_of_pos a (show (0 : Int) < 2 ^ 2 by decide)
  have hb := Int.emod_nonneg b (show (2 : Int) ^ 10 ≠ 0 by decide)
  have hb2 : b % 2 ^ 10 < 1024 := Int.emod_lt_of_pos b (show (0 : Int) < 2 ^ 10 by decide)
  obtain ⟨m, hm⟩ : ∃ i, i = 1 + a % 2 ^ 2 := ⟨_, rfl⟩
  obtain ⟨d, hd⟩ : ∃ j, j = 1 + b % 2 ^ 10 := ⟨_, rfl⟩
  have h1 : 1 ≤ m := by omega
  have h4 : m ≤ 4 := by omega
  rw [← hm, ← hd, Num.w64 (n := m) (by omega) (by omega), Num.w64 (n := d) (by omega) (by omega), Num.w64 (n := 8 * m) (by omega) (by omega), Num.w64 (n := -d) (by omega) (by omega), Num.w64 (n := 4 + d) (by omega) (by omega)]
  have e : wrap64 (shl .i64 1 (8 * m) - 1) = 256 ^ m.toNat - 1 := by
    rcases show m = 1 ∨ m = 2 ∨ m = 3 ∨ m = 4 by omega with rfl | rfl | rfl | rfl <;> · unfold wrap64; decide
  have hp : (256 : Int) ≤ 256 ^ m.toNat ∧ (256 : Int) ^ m.toNat ≤ 4294967296 := by
    rcases show m = 1 ∨ m = 2 ∨ m = 3 ∨ m = 4 by omega with rfl | rfl | rfl | rfl <;> decide
  obtain ⟨r, hr, r0, r3⟩ := Num.umod a 3 (by decide) (by decide)
  rw [e, hr, Num.w64 (n := 256 ^ m.toNat - 1 + d) (by omega) (by omega), put_far (k := 6) (x := -d) (by omega) (by omega)]
  simp only [Option.bind_some]
  rw [if_pos (by omega), put_far (k := 6) (x := 256 ^ m.toNat - 1 + d) (by omega) (by omega)]
  simp only [Option.bind_some, List.length_cons, List.length_nil]
  rw [if_pos r0, if_pos (by omega)]
  have hbad : field_Put.f 7 5 (rd [0, -d, 4 + d] r) = some (⟨#[]⟩, 100) := by
    refine put_far (k := 6) ?_ (by decide)
    rcases show r = 0 ∨ r = 1 ∨ r = 2 by omega with rfl | rfl | rfl <;> simp [rd] <;> omega
  rw [hbad]
  simp only [Option.bind_some]
  rw [if_pos (by omega), if_pos (by omega), get_far (k := 6) (by rw [strOfNums_size, List.length_replicate]; omega), put_in (k := 0) (x := 256 ^ m.toNat - 1) h1 h4 (by omega) (by omega)]
  simp only [Option.bind_some, descantlaw0_Num.f, if_true]
  rw [if_pos (by omega), if_pos (by omega), if_pos (full m h1 h4)]
  rfl

end Go.Proofs.Ytjdffodhbejnjaa.Pure
