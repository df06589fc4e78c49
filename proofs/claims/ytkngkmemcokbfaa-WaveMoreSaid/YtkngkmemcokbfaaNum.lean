/- Whole numbers of Go's int as Lean's integers: bounds, masks, wraps. No program in sight. -/
import Derived.WalkKit
import Derived.Laws.Entries
import Derived.Laws.Closers25b
import Derived.Laws.BitsLemmas
import Derived.Laws.Bits64
namespace Go.Proofs.Ytkngkmemcokbfaa.Num
open Go.RowKit
set_option linter.unusedVariables false
set_option linter.unusedSimpArgs false

/-- An int of Go's kind lies within its bounds. -/
theorem bounds {a : Int} (h : (Lit.int .i64 a).wf = true) : -9223372036854775808 ≤ a ∧ a ≤ 9223372036854775807 := by
  simp [Lit.wf, IntKind.min, IntKind.max, IntKind.signed, IntKind.bits] at h
  omega

theorem w64 {n : Int} (h1 : -9223372036854775808 ≤ n) (h2 : n ≤ 9223372036854775807) : wrap64 n = n := by
  unfold wrap64; omega

theorem wrap_eq (n : Int) : IntKind.i64.wrap n = wrap64 n := by
  unfold wrap64; exact IntKind.wrap_i64 n

/-- A mask of n bits is the rest by 2 to n. -/
theorem and_mask (x m : Int) (n : Nat) (hn : n ≤ 62) (hm : m = 2 ^ n - 1) : Go.bits .and .i64 x m = x % 2 ^ n := by
  subst hm
  have hp : (2 : Int) ^ n ≤ 4611686018427387904 := by
    have : 2 ^ n ≤ 2 ^ 62 := Nat.pow_le_pow_right (show 0 < 2 by decide) hn
    have h2 : ((2 ^ n : Nat) : Int) = (2 : Int) ^ n := by norm_cast
    omega
  have hp1 : (1 : Int) ≤ 2 ^ n := by
    have := Nat.one_le_two_pow (n := n)
    have h2 : ((2 ^ n : Nat) : Int) = (2 : Int) ^ n := by norm_cast
    omega
  have e1 : (BitVec.ofInt 64 ((2 : Int) ^ n - 1)).toNat = 2 ^ n - 1 := by
    rw [BitVec.toNat_ofInt]
    have : ((2 : Int) ^ n - 1) % ((2 ^ 64 : Nat) : Int) = 2 ^ n - 1 := Int.emod_eq_of_lt (by omega) (by omega)
    rw [this]
    have h2 : ((2 ^ n : Nat) : Int) = (2 : Int) ^ n := by norm_cast
    omega
  have e2 : (BitVec.ofInt 64 x &&& BitVec.ofInt 64 ((2 : Int) ^ n - 1)).toNat = (x % 18446744073709551616).toNat % 2 ^ n := by
    rw [BitVec.toNat_and, e1, Nat.and_two_pow_sub_one_eq_mod, BitVec.toNat_ofInt]
    rfl
  have e3 : (((x % 18446744073709551616).toNat % 2 ^ n : Nat) : Int) = x % 2 ^ n := by
    have h2 : ((2 ^ n : Nat) : Int) = (2 : Int) ^ n := by norm_cast
    rw [Int.natCast_emod, h2, Int.toNat_of_nonneg (Int.emod_nonneg _ (by decide))]
    apply Int.emod_emod_of_dvd
    have : (18446744073709551616 : Int) = 2 ^ n * 2 ^ (64 - n) := by
      rw [← Int.pow_add, show n + (64 - n) = 64 by omega]; rfl
    exact ⟨_, this⟩
  show IntKind.i64.wrap (((BitVec.ofInt 64 x &&& BitVec.ofInt 64 ((2 : Int) ^ n - 1)).toNat : Nat) : Int) = _
  rw [e2, e3, wrap_eq]
  have h4 := Int.emod_nonneg x (show (2 : Int) ^ n ≠ 0 by omega)
  have h5 := Int.emod_lt_of_pos x (show (0 : Int) < 2 ^ n by omega)
  exact w64 (by omega) (by omega)

theorem wraps_i64 (n : Int) (h₀ : 0 ≤ n) (h₁ : n < 2 ^ 63) : IntKind.i64.wrap n = n := by
  rw [wrap_eq]; exact w64 (by omega) (by omega)

/-- Bits that do not meet are added. -/
theorem or_add (x y : Int) (i : Nat) (hx : 0 ≤ x) (hd : x % 2 ^ i = 0) (hx1 : x < 2 ^ 63) (hy : 0 ≤ y) (hy1 : y < 2 ^ i) (hi : i ≤ 63) : Go.bits .or .i64 x y = x + y := by
  refine bits_join .i64 63 (by decide) wraps_i64 i x y hx hd hx1 hy hy1 ?_
  have h1 : (2 : Nat) ^ i ≤ 2 ^ 63 := Nat.pow_le_pow_right (by decide) hi
  have h2 : ((2 ^ i : Nat) : Int) = (2 : Int) ^ i := by norm_cast
  omega

theorem or_comm (x y : Int) : Go.bits .or .i64 x y = Go.bits .or .i64 y x := by
  simp only [Go.bits, BitVec.or_comm]

/-- 'int(uint(x) % n)' lies from 0 to n - 1. -/
theorem umod (x n : Int) (h1 : 1 ≤ n) (h2 : n ≤ 9223372036854775807) : ∃ r, wrap64 (Int.tmod (IntKind.u64.wrap x) n) = r ∧ 0 ≤ r ∧ r < n := by
  refine ⟨_, rfl, ?_⟩
  have hu : 0 ≤ IntKind.u64.wrap x := by rw [IntKind.wrap_u64]; omega
  rw [Int.tmod_eq_emod_of_nonneg hu]
  have a := Int.emod_nonneg (IntKind.u64.wrap x) (show n ≠ 0 by omega)
  have b := Int.emod_lt_of_pos (IntKind.u64.wrap x) (show 0 < n by omega)
  rw [w64 (by omega) (by omega)]
  exact ⟨a, b⟩

end Go.Proofs.Ytkngkmemcokbfaa.Num
