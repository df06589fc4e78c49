/- Whole numbers of Go's int as Lean's integers: bounds, masks, wraps. No program in sight. -/
import Derived.WalkKit
import Derived.Laws.Entries
import Derived.Laws.Closers25b
namespace Go.Proofs.Ytjdffodhbejnjaa.Num
open Go.RowKit

/-- An int of Go's kind lies within its bounds. -/
theorem bounds {a : Int} (h : (Lit.int .i64 a).wf = true) : -9223372036854775808 ≤ a ∧ a ≤ 9223372036854775807 := by
  simp [Lit.wf, IntKind.min, IntKind.max, IntKind.signed, IntKind.bits] at h
  omega

theorem w64 {n : Int} (h1 : -9223372036854775808 ≤ n) (h2 : n ≤ 9223372036854775807) : wrap64 n = n := by
  unfold wrap64; omega

theorem wrap_eq (n : Int) : IntKind.i64.wrap n = wrap64 n := by
  unfold wrap64; exact IntKind.wrap_i64 n

/-- A mask of n bits is the rest by 2 to n. -/
theorem and_mask (x m : Int) (n : Nat) (hn : n ≤ 62) (hm : m = 2 ^ n - 1) : Go.bits .and .i64 x m = x % 2 ^ n := by
  subst hm
  have hp : (2 : Int) ^ n ≤ 4611686018427387904 := by
    have : 2 ^ n ≤ 2 ^ 62 := Nat.pow_le_pow_right (show 0 < 2 by decide) hn
    have h2 : ((2 ^ n : Nat) : Int) = (2 : Int) ^ n := by norm_cast
    omega
  have hp1 : (1 : Int) ≤ 2 ^ n := by
    have := Nat.one_le_two_pow (n := n)
    have h2 : ((2 ^ n : Nat) : Int) = (2 : Int) ^ n := by norm_cast
    omega
  have e1 : (BitVec.ofInt 64 ((2 : Int) ^ n - 1)).toNat = 2 ^ n - 1 := by
    rw [BitVec.toNat_ofInt]
    have : ((2 : Int) ^ n - 1) % ((2 ^ 64 : Nat) : Int) = 2 ^ n - 1 := Int.emod_eq_of_lt (by omega) (by omega)
    rw [this]
    have h2 : ((2 ^ n : Nat) : Int) = (2 : Int) ^ n := by norm_cast
    omega
  have e2 : (BitVec.ofInt 64 x &&& BitVec.ofInt 64 ((2 : Int) ^ n - 1)).toNat = (x % 18446744073709551616).toNat % 2 ^ n := by
    rw [BitVec.toNat_and, e1, Nat.and_two_pow_sub_one_eq_mod, BitVec.toNat_ofInt]
    rfl
  have e3 : (((x % 18446744073709551616).toNat % 2 ^ n : Nat) : Int) = x % 2 ^ n := by
    have h2 : ((2 ^ n : Nat) : Int) = (2 : Int) ^ n := by norm_cast
    rw [Int.natCast_emod, h2, Int.toNat_of_nonneg (Int.emod_nonneg _ (by decide))]
    apply Int.emod_emod_of_dvd
    have : (18446744073709551616 : Int) = 2 ^ n * 2 ^ (64 - n) := by
      rw [← Int.pow_add, show n + (64 - n) = 64 by omega]; rfl
    exact ⟨_, this⟩
  show IntKind.i64.wrap (((BitVec.ofInt 64 x &&& BitVec.ofInt 64 ((2 : Int) ^ n - 1)).toNat : Nat) : Int) = _
  rw [e2, e3, wrap_eq]
  have h4 := Int.emod_nonneg x (show (2 : Int) ^ n ≠ 0 by omega)
  have h5 := Int.emod_lt_of_pos x (show (0 : Int) < 2 ^ n by omega)
  exact w64 (by omega) (by omega)

end Go.Proofs.Ytjdffodhbejnjaa.Num
