/- A part of the proof of a law of descanttop: this session's own texts and printed texts, shortened and joined. -/
import Derived.Test.YtnoibcdojfnicaaGreatDoorE23
set_option linter.unusedVariables false
set_option linter.unusedSimpArgs false
set_option maxRecDepth 100000
set_option maxHeartbeats 16000000
namespace Go.Proofs.YtnoibcdojfnicaaGreatDoor.PSh
open Go.Proofs.YtnoibcdojfnicaaGreatDoorW.Short
open Bool renaming true → Y, false → J
open Go Go.RowKit Go.Proofs.YtnoibcdojfnicaaGreatDoorW.PrintWords Go.Proofs.YtnoibcdojfnicaaGreatDoorW.PrintMore Go.Proofs.YtnoibcdojfnicaaGreatDoorW.PrintLast
open Go.Proofs.YtnoibcdojfnicaaGreatDoor.PSh (allS inS mayS dn upS downOk downF)
open Go.Proofs.YtnoibcdojfnicaaGreatDoor.PW (orAt wastedF wasteAt wasteF allZ isZ)
def D (n : Nat) (x : Int) : Prop := (2 : Int) ^ n ∣ x
theorem pow_cast (n : Nat) : ((2 ^ n : Nat) : Int) = (2 : Int) ^ n := by norm_cast
theorem two_le {n m : Nat} (h : n ≤ m) : ((2 : Int) ^ n) ∣ 2 ^ m := ⟨2 ^ (m - n), by rw [← Int.pow_add, show n + (m - n) = m by omega]⟩
theorem D_nat {n : Nat} (hn : n ≤ 64) (x : Int) : D n x ↔ (BitVec.ofInt 64 x).toNat % 2 ^ n = 0 := by
 have e : (((BitVec.ofInt 64 x).toNat : Nat) : Int) = x % 18446744073709551616 := by
  rw [BitVec.toNat_ofInt]
  exact Int.toNat_of_nonneg (Int.emod_nonneg _ (by decide))
 have h64 : (18446744073709551616 : Int) = 2 ^ 64 := by decide
 have hd : ((2 : Int) ^ n) ∣ 18446744073709551616 := by rw [h64]; exact two_le hn
 have h1 : (2 : Int) ^ n ∣ x ↔ (2 : Int) ^ n ∣ x % 18446744073709551616 := by
  rw [Int.emod_def]
  constructor
  ·intro h; exact Int.dvd_sub h (Int.dvd_trans hd (Int.dvd_mul_right _ _))
  ·intro h
   have := Int.dvd_add h (Int.dvd_trans hd (Int.dvd_mul_right 18446744073709551616 (x / 18446744073709551616)))
   rwa [Int.sub_add_cancel] at this
 unfold D
 rw [h1, ← e, ← pow_cast, Int.natCast_dvd_natCast, Nat.dvd_iff_mod_eq_zero]
theorem D_or {n : Nat} (hn : n ≤ 64) (x y : Int) : D n (Go.bits .or .i64 x y) ↔ D n x ∧ D n y := by
 have e : Go.bits .or .i64 x y = IntKind.i64.wrap (((BitVec.ofInt 64 x ||| BitVec.ofInt 64 y).toNat : Nat) : Int) := rfl
 have h64 : (18446744073709551616 : Int) = 2 ^ 64 := by decide
 have hd : ((2 : Int) ^ n) ∣ 18446744073709551616 := by rw [h64]; exact two_le hn
 have w : ∀ m : Int, D n (IntKind.i64.wrap m) ↔ D n m := fun m => by
  rw [Num.wrap_eq]
  obtain ⟨q, hq⟩ : ∃ q, wrap64 m = m + 18446744073709551616 * q := ⟨(wrap64 m - m) / 18446744073709551616, by unfold wrap64; omega⟩
  unfold D
  rw [hq]
  constructor
  ·intro h
   have := Int.dvd_sub h (Int.dvd_trans hd (Int.dvd_mul_right 18446744073709551616 q))
   rwa [Int.add_sub_cancel] at this
  ·intro h; exact Int.dvd_add h (Int.dvd_trans hd (Int.dvd_mul_right _ _))
 rw [e, w, D_nat hn x, D_nat hn y, BitVec.toNat_or]
 unfold D
 rw [← pow_cast, Int.natCast_dvd_natCast, Nat.dvd_iff_mod_eq_zero, Nat.or_mod_two_pow, Nat.or_eq_zero_iff]
theorem D_zero (n : Nat) : D n 0 := ⟨0, by simp⟩
theorem D_small {x : Int} (h : -9223372036854775808 ≤ x ∧ x ≤ 9223372036854775807) : D 64 x ↔ x = 0 := by
 constructor
 ·rintro ⟨q, hq⟩
  rw [show (2 : Int) ^ 64 = 18446744073709551616 from by decide] at hq
  omega
 ·rintro rfl; exact D_zero _
def orAll (a : Int) : List Int → Int
 | [] => a
 | x :: xs => orAll (Go.bits .or .i64 a x) xs
theorem orAll_D {n : Nat} (hn : n ≤ 64) : ∀ (xs : List Int) (a : Int), D n (orAll a xs) ↔ D n a ∧ ∀ x ∈ xs, D n x
 | [], a => by simp [orAll]
 | x :: xs, a => by
  rw [orAll, orAll_D hn xs, D_or hn]
  simp only [List.mem_cons, forall_eq_or_imp, and_assoc]
theorem or_range (x y : Int) : -9223372036854775808 ≤ Go.bits .or .i64 x y ∧ Go.bits .or .i64 x y ≤ 9223372036854775807 := by
 show -9223372036854775808 ≤ IntKind.i64.wrap _ ∧ IntKind.i64.wrap _ ≤ 9223372036854775807
 rw [Num.wrap_eq]
 unfold wrap64; omega
theorem orAll_range : ∀ (xs : List Int) (a : Int), (-9223372036854775808 ≤ a ∧ a ≤ 9223372036854775807) → -9223372036854775808 ≤ orAll a xs ∧ orAll a xs ≤ 9223372036854775807
 | [], _, h => h
 | x :: xs, a, _ => orAll_range xs _ (or_range a x)
def wst (xs : List Int) : Int := if orAll 0 xs = 0 then 0 else mn ((Lib.ctz 64 (IntKind.u64.wrap (orAll 0 xs)).toNat : Nat) : Int) 15
theorem dvd_pow {n c m : Nat} : 2 ^ n ∣ 2 ^ c * (2 * m + 1) ↔ n ≤ c := by
 constructor
 ·intro h
  rcases Nat.lt_or_ge c n with hc | hc
  ·exfalso
   obtain ⟨q, hq⟩ := h
   rw [show n = c + 1 + (n - c - 1) by omega, Nat.pow_add, Nat.pow_succ, Nat.mul_assoc, Nat.mul_assoc] at hq
   have := Nat.eq_of_mul_eq_mul_left (Nat.two_pow_pos c) hq
   omega
  ·exact hc
 ·intro h; exact Nat.dvd_trans (Nat.pow_dvd_pow 2 h) (Nat.dvd_mul_right _ _)
theorem wst_spec (xs : List Int) (h : allS xs = true) : ((∀ x ∈ xs, x = 0) ∧ wst xs = 0) ∨ ((∃ x ∈ xs, x ≠ 0) ∧ 0 ≤ wst xs ∧ wst xs ≤ 15 ∧ ∀ n : Nat, n ≤ 15 → ((n : Int) ≤ wst xs ↔ ∀ x ∈ xs, D n x)) := by
 have hr := orAll_range xs 0 ⟨by decide, by decide⟩
 have hx : ∀ x ∈ xs, -131072 ≤ x ∧ x ≤ 131072 := fun x hx => of_decide_eq_true (List.all_eq_true.1 h x hx)
 have hz : orAll 0 xs = 0 ↔ ∀ x ∈ xs, x = 0 := by
  rw [← D_small hr, orAll_D (Nat.le_refl _)]
  constructor
  ·intro hh x hx2; exact (D_small ⟨by have := hx x hx2; omega, by have := hx x hx2; omega⟩).1 (hh.2 x hx2)
  ·intro hh; exact ⟨D_zero _, fun x hx2 => by rw [hh x hx2]; exact D_zero _⟩
 by_cases c : orAll 0 xs = 0
 ·left; exact ⟨hz.1 c, by unfold wst; rw [if_pos c]⟩
 ·right
  have hne : ∃ x ∈ xs, x ≠ 0 := by
   apply Classical.byContradiction
   intro hh
   exact c (hz.2 (fun x hx2 => Classical.byContradiction fun h2 => hh ⟨x, hx2, h2⟩))
  refine ⟨hne, ?_⟩
  obtain ⟨a, ha⟩ : ∃ a, a = orAll 0 xs := ⟨_, rfl⟩
  have hw : IntKind.u64.wrap a = a % 18446744073709551616 := by rw [IntKind.wrap_u64]
  obtain ⟨v, hv⟩ : ∃ v, v = (IntKind.u64.wrap a).toNat := ⟨_, rfl⟩
  have hvi : (v : Int) = a % 18446744073709551616 := by rw [hv, hw]; exact Int.toNat_of_nonneg (Int.emod_nonneg _ (by decide))
  have v0 : v ≠ 0 := by rw [← ha] at c hr; omega
  have vl : v < 2 ^ 64 := by have : (v : Int) < 18446744073709551616 := (by omega); omega
  obtain ⟨m, hm, hc64⟩ := Lib.ctzFrom_spec 64 v (by omega) vl
  have hctz : Lib.ctz 64 v = Lib.ctzFrom 64 v := by unfold Lib.ctz; rw [if_neg v0]
  have key : ∀ n, n ≤ 15 → (n ≤ Lib.ctz 64 v ↔ ∀ x ∈ xs, D n x) := fun n hn => by
   have h1 := orAll_D (n := n) (by omega) xs 0
   rw [← ha] at h1
   rw [hctz, ← dvd_pow (m := m), ← hm]
   have h2 : 2 ^ n ∣ v ↔ D n a := by
    rw [D_nat (by omega), Nat.dvd_iff_mod_eq_zero]
    have : (BitVec.ofInt 64 a).toNat = v := by
     rw [BitVec.toNat_ofInt]
     have : ((v : Int)) = a % ((2 ^ 64 : Nat) : Int) := hvi
     omega
    rw [this]
   rw [h2, h1]
   exact ⟨fun hh => hh.2, fun hh => ⟨D_zero _, hh⟩⟩
  have hwst : wst xs = mn (Lib.ctz 64 v : Int) 15 := by unfold wst; rw [if_neg c, ← ha, ← hv]
  have h15 : mn (Lib.ctz 64 v : Int) 15 = if (15 : Int) < (Lib.ctz 64 v : Int) then 15 else (Lib.ctz 64 v : Int) := rfl
  rw [hwst, h15]
  refine ⟨by split <;> omega, by split <;> omega, fun n hn => ?_⟩
  rw [← key n hn]
  split <;> omega
theorem all_iff {xs : List Int} : allS xs = true ↔ ∀ x ∈ xs, -131072 ≤ x ∧ x ≤ 131072 := by
 unfold allS
 rw [List.all_eq_true]
 exact ⟨fun h x hx => of_decide_eq_true (h x hx), fun h x hx => decide_eq_true (h x hx)⟩
theorem down_dvd {n : Nat} (hn : n ≤ 15) {xs : List Int} (h : allS xs = true) (hd : ∀ x ∈ xs, D n x) : downF xs n = (xs.map (dn n), 0) := by
 have hx := all_iff.1 h
 have e : ∀ x ∈ xs, x / 2 ^ n * 2 ^ n = x := fun x hx2 => Int.ediv_mul_cancel (hd x hx2)
 have hp : (1 : Int) ≤ 2 ^ n := by have := Nat.one_le_two_pow (n := n); have h2 := pow_cast n; omega
 have eu : ∀ x ∈ xs, upS n (x / 2 ^ n) = x := fun x hx2 => by
  have := hx x hx2
  unfold upS
  rw [Int.toNat_natCast, e x hx2, Num.w64 (by omega) (by omega)]
 have hm : mayS xs n = true := by unfold mayS; rw [h, decide_eq_true (by omega)]; rfl
 have ho : downOk n xs = true := by
  unfold downOk
  rw [List.all_eq_true]
  intro x hx2
  unfold dn
  rw [Int.toNat_natCast, eu x hx2]
  exact beq_self_eq_true x
 unfold downF
 rw [hm, ho]
 rfl
theorem orAt_all (xs : List Int) : ∀ k, k ≤ xs.length → orAt xs k = orAll 0 (xs.take k)
 | 0, _ => by simp [orAt, orAll]
 | k + 1, h => by
  have e : xs.take (k + 1) = xs.take k ++ [xs.getD k 0] := by
   rw [List.take_add_one, List.getD_eq_getElem?_getD, List.getElem?_eq_getElem (by omega)]
   rfl
  have ha : ∀ (l : List Int) (a y : Int), orAll a (l ++ [y]) = Go.bits .or .i64 (orAll a l) y := by
   intro l
   induction l with
   | nil => intro a y; rfl
   | cons x l ih => intro a y; exact ih _ y
  rw [e, ha]
  show Go.bits .or .i64 (orAt xs k) (rd xs (k : Int)) = _
  rw [orAt_all xs k (by omega)]
  unfold rd
  rw [Int.toNat_natCast]
theorem wasted_wst {xs : List Int} (h : allS xs = true) : wastedF xs = (wst xs, 0) := by
 unfold wastedF wst
 rw [orAt_all xs xs.length (Nat.le_refl _), List.take_length, if_pos (by unfold mayS; rw [h]; rfl)]
 split <;> rfl
theorem allZ_iff {xs : List Int} : allZ xs = true ↔ ∀ x ∈ xs, x = 0 := by
 unfold allZ
 rw [List.all_eq_true]
 constructor
 ·intro h x hx; exact of_decide_eq_true (h x hx)
 ·intro h x hx; exact decide_eq_true (h x hx)
theorem wasteAt_le (chs : List (List Int)) : ∀ k, wasteAt chs k ≤ 15
 | 0 => Int.le_refl _
 | k + 1 => by
  unfold wasteAt
  split
  ·exact wasteAt_le chs k
  ·have := wasteAt_le chs k
   unfold mn
   split <;> omega
theorem wasteAt_in {chs : List (List Int)} (h : ∀ xs ∈ chs, allS xs = true) : ∀ k, k ≤ chs.length → 0 ≤ wasteAt chs k ∧ ∀ j, j < k → allZ (chs.getD j []) = false → wasteAt chs k ≤ wst (chs.getD j [])
 | 0, _ => ⟨by unfold wasteAt; decide, fun j hj => by omega⟩
 | k + 1, hk => by
  obtain ⟨h1, h2⟩ := wasteAt_in h k (by omega)
  have hc : allS (chs.getD k []) = true := h _ (by rw [List.getD_eq_getElem?_getD, List.getElem?_eq_getElem (by omega)]; exact List.getElem_mem _)
  unfold wasteAt
  split
  ·rename_i hz
   refine ⟨h1, fun j hj hn => ?_⟩
   by_cases e : j = k
   ·subst e; rw [hz] at hn; cases hn
   ·exact h2 j (by omega) hn
  ·rename_i hz
   rw [wasted_wst hc]
   dsimp only
   have h0 : 0 ≤ wst (chs.getD k []) := by
    rcases wst_spec _ hc with ⟨_, e⟩ | ⟨_, e, _⟩ <;> omega
   refine ⟨by unfold mn; split <;> omega, fun j hj hn => ?_⟩
   by_cases e : j = k
   ·subst e; unfold mn; split <;> omega
   ·have := h2 j (by omega) hn
    unfold mn; split <;> omega
theorem waste_down {chs : List (List Int)} (h : ∀ xs ∈ chs, allS xs = true) : ∃ n : Nat, n ≤ 15 ∧ wasteF chs = n ∧ ∀ xs ∈ chs, downF xs n = (xs.map (dn n), 0) := by
 obtain ⟨h0, h1⟩ := wasteAt_in h chs.length (Nat.le_refl _)
 have h2 := wasteAt_le chs chs.length
 refine ⟨(wasteF chs).toNat, by unfold wasteF; omega, by unfold wasteF; omega, fun xs hx => ?_⟩
 refine down_dvd (by unfold wasteF; omega) (h xs hx) ?_
 obtain ⟨j, hj, rfl⟩ := List.mem_iff_getElem.1 hx
 have e : chs.getD j [] = chs[j] := by rw [List.getD_eq_getElem?_getD, List.getElem?_eq_getElem hj]; rfl
 cases hz : allZ chs[j]
 ·have h3 := h1 j hj (by rw [e]; exact hz)
  rw [e] at h3
  rcases wst_spec _ (h _ hx) with ⟨hz2, _⟩ | ⟨_, _, _, hs⟩
  ·rw [allZ_iff.2 hz2] at hz; cases hz
  ·exact (hs _ (by unfold wasteF; omega)).1 (by unfold wasteF; omega)
 ·intro x hx2
  rw [allZ_iff.1 hz x hx2]
  exact D_zero _
end Go.Proofs.YtnoibcdojfnicaaGreatDoor.PSh
