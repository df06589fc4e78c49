/- 'FieldWide' of chapter 1: in more bytes a number has bytes 0 behind. No condition. -/
import Derived.Test.YtjdffodhbejnjaaPAllx7
import Derived.Test.YtjdffodhbejnjaaField
namespace Go.Proofs.Ytjdffodhbejnjaa.Pure
open Go.RowKit Go.Proofs.Ytjdffodhbejnjaa.PAll Go.Proofs.YtjdffodhbejnjaaW.PrintWords Go.Proofs.YtjdffodhbejnjaaW.PrintLast Go.Proofs.YtjdffodhbejnjaaW.PrintMore
set_option linter.unusedVariables false
set_option linter.unusedSimpArgs false

theorem awake_FieldWide : descantlaw1_awake.f 7 = some true := by decide +kernel

theorem wide_low (m : Int) (v : Int) (h1 : 1 ≤ m) (h4 : m ≤ 4) (h0 : 0 ≤ v) (hv : v < 256) : (strOfNums (low m.toNat v)).toList = ((strOfNums [v % 256, 0, 0, 0]).extract 0 m.toNat).toList := by
  rw [Bytes.toList_iff, Bytes.of_extract, Bytes.of_nums_in (low_in _ _), Bytes.of_nums_in (by intro x hx; simp at hx; omega)]
  rcases show m = 1 ∨ m = 2 ∨ m = 3 ∨ m = 4 by omega with rfl | rfl | rfl | rfl <;> simp [low] <;> omega

theorem FieldWide : descantlaw1_FieldWide.Pure := by
  intro x a b _ _ _
  refine ⟨7, ?_⟩
  unfold descantlaw1_FieldWide.f
  rw [awake_FieldWide, Num.and_mask a 3 2 (by decide) (by decide), Num.and_mask b 3 2 (by decide) (by decide), Num.and_mask x 255 8 (by decide) (by decide)]
  simp only [Option.bind_some, if_true]
  have ha := Int.emod_nonneg a (show (2 : Int) ^ 2 ≠ 0 by decide)
  have ha2 : a % 2 ^ 2 < 4 := Int.emod_lt_of_pos a (show (0 : Int) < 2 ^ 2 by decide)
  have hb := Int.emod_nonneg b (show (2 : Int) ^ 2 ≠ 0 by decide)
  have hb2 : b % 2 ^ 2 < 4 := Int.emod_lt_of_pos b (show (0 : Int) < 2 ^ 2 by decide)
  have hv0 := Int.emod_nonneg x (show (2 : Int) ^ 8 ≠ 0 by decide)
  have hv1 : x % 2 ^ 8 < 256 := Int.emod_lt_of_pos x (show (0 : Int) < 2 ^ 8 by decide)
  obtain ⟨i, hi⟩ : ∃ i, i = 1 + a % 2 ^ 2 := ⟨_, rfl⟩
  obtain ⟨j, hj⟩ : ∃ j, j = 1 + b % 2 ^ 2 := ⟨_, rfl⟩
  obtain ⟨v, hv⟩ : ∃ v, v = x % 2 ^ 8 := ⟨_, rfl⟩
  rw [← hi, ← hj, ← hv, Num.w64 (n := i) (by omega) (by omega), Num.w64 (n := j) (by omega) (by omega)]
  have hin : ∀ m : Int, 1 ≤ m → m ≤ 4 → v < 256 ^ m.toNat := fun m h1 h2 => by
    rcases show m = 1 ∨ m = 2 ∨ m = 3 ∨ m = 4 by omega with rfl | rfl | rfl | rfl <;> simp <;> omega
  rw [put_in (k := 0) (x := v) (m := i) (by omega) (by omega) (by omega) (hin i (by omega) (by omega)), put_in (k := 0) (x := v) (m := j) (by omega) (by omega) (by omega) (hin j (by omega) (by omega))]
  simp only [Option.bind_some, descantlaw0_Num.f, if_true, strOfNums_size, List.length_cons, List.length_nil]
  rw [if_pos (by omega), if_pos (by omega), if_pos (wide_low i v (by omega) (by omega) (by omega) (by omega)), if_pos (by omega), if_pos (by omega), wide_low j v (by omega) (by omega) (by omega) (by omega), beq_self_eq_true]

end Go.Proofs.Ytjdffodhbejnjaa.Pure
