/- 'FieldBack' of chapter 1: numbers come back out of as many bytes, texts out of their numbers. No condition. -/
import Derived.Test.YtjdffodhbejnjaaPAllx6
import Derived.Test.YtjdffodhbejnjaaField
namespace Go.Proofs.Ytjdffodhbejnjaa.Pure
open Go.RowKit Go.Proofs.Ytjdffodhbejnjaa.PAll Go.Proofs.YtjdffodhbejnjaaW.PrintWords Go.Proofs.YtjdffodhbejnjaaW.PrintLast Go.Proofs.YtjdffodhbejnjaaW.PrintMore
set_option linter.unusedVariables false
set_option linter.unusedSimpArgs false

theorem awake_FieldBack (k : Nat) : descantlaw1_awake.f (k + 7) = some true := by
  unfold descantlaw1_awake.f
  rw [put_in (x := 258) (m := 3) (by decide) (by decide) (by decide) (by decide), put_far (k := k + 6) (x := 256) (m := 1) (by decide) (by decide), get_far (k := k + 6) (by decide)]
  simp only [Option.bind_some]
  rw [get_in (by decide) (by decide)]
  decide +kernel

theorem FieldBack : descantlaw1_FieldBack.Pure := by
  intro x many s hx _ hs
  refine ⟨7 + 1, ?_⟩
  unfold descantlaw1_FieldBack.f
  rw [awake_FieldBack 1, Num.and_mask many 3 2 (by decide) (by decide)]
  simp only [Option.bind_some, if_true]
  obtain ⟨m, hm⟩ : ∃ m, m = 1 + many % 2 ^ 2 := ⟨_, rfl⟩
  have h1 : 1 ≤ m ∧ m ≤ 4 := by
    have a := Int.emod_nonneg many (show (2 : Int) ^ 2 ≠ 0 by decide)
    have b := Int.emod_lt_of_pos many (show (0 : Int) < 2 ^ 2 by decide)
    replace b : many % 2 ^ 2 < 4 := b
    omega
  rw [← hm, Num.w64 (n := m) (by omega) (by omega), Num.w64 (n := 8 * m) (by omega) (by omega), if_pos (by omega)]
  obtain ⟨v, hv, hv0, hv1⟩ : ∃ v, Go.bits .and .i64 x (wrap64 (shl .i64 1 (8 * m) - 1)) = v ∧ 0 ≤ v ∧ v < 256 ^ m.toNat := by
    refine ⟨_, rfl, ?_⟩
    have e : wrap64 (shl .i64 1 (8 * m) - 1) = 2 ^ (8 * m.toNat) - 1 := by
      rcases show m = 1 ∨ m = 2 ∨ m = 3 ∨ m = 4 by omega with rfl | rfl | rfl | rfl <;> · unfold wrap64; decide
    rw [Num.and_mask x _ (8 * m.toNat) (by omega) e, Int.pow_mul]
    exact ⟨Int.emod_nonneg _ (Int.ne_of_gt (Int.pow_pos (by decide))), Int.emod_lt_of_pos _ (Int.pow_pos (by decide))⟩
  rw [hv, put_in (k := 1) h1.1 h1.2 hv0 hv1]
  simp only [Option.bind_some]
  have hsz : (strOfNums (low m.toNat v)).size = m.toNat := by rw [strOfNums_size, low_length]
  rw [get_in (k := 1) (by omega) (by omega), Bytes.of_nums_in (low_in _ _), val_low, Int.emod_eq_of_lt hv0 hv1]
  simp only [Option.bind_some, descantlaw0_Num.f, if_true, bne_self_eq_false]
  rw [if_pos (by omega)]
  simp only [descantlaw1_FieldBack.j0]
  rw [if_neg (by decide)]
  by_cases c : s.size < 1 ∨ 4 < s.size
  · rw [get_far (k := 6) c]
    simp only [Option.bind_some, descantlaw0_Num.f]
    rw [if_neg (by decide), if_pos trivial]
    by_cases c2 : s.toList = []
    · rw [if_pos c2]
    · rw [if_neg c2]
      have : s.size ≠ 0 := fun e => c2 ((Bytes.nil_iff s).2 e)
      congr 1; simp; omega
  · rw [get_in (k := 0) (by omega) (by omega)]
    simp only [Option.bind_some, descantlaw0_Num.f, if_true]
    have r := val_range (bytesOf s) (fun _ h => Bytes.range h)
    rw [bytesOf_length] at r
    rw [put_in (k := 0) (by omega) (by omega) r.1 (by rw [Int.toNat_natCast]; exact r.2)]
    simp only [Option.bind_some, if_true, Int.toNat_natCast]
    congr 1
    rw [beq_iff_eq, Bytes.toList_iff, Bytes.of_nums_in (low_in _ _), Bytes.size_eq, low_val _ (fun _ h => Bytes.range h)]

end Go.Proofs.Ytjdffodhbejnjaa.Pure
