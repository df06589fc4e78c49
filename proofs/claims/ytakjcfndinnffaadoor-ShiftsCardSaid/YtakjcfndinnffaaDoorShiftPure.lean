/- Layer 18: what the printed Wasted, Up come to: divisors by powers of two. No program in sight. -/
import Derived.Test.YtakjcfndinnffaaDoorPShiftx2
import Derived.Test.YtakjcfndinnffaaDoorShiftDown
namespace Go.Proofs.YtakjcfndinnffaaDoor.PShift
open Go Go.RowKit Go.Proofs.YtakjcfndinnffaaDoorW.PrintWords Go.Proofs.YtakjcfndinnffaaDoorW.PrintMore Go.Proofs.YtakjcfndinnffaaDoorW.PrintLast
set_option linter.unusedVariables false
set_option linter.unusedSimpArgs false
open Go.Proofs.YtakjcfndinnffaaDoor.PSh (allS inS mayS dn upS downOk downF mix_set)
/-- Divisible by so many twos. -/
def D (n : Nat) (x : Int) : Prop := (2 : Int) ^ n ∣ x
theorem pow_cast (n : Nat) : ((2 ^ n : Nat) : Int) = (2 : Int) ^ n := by norm_cast
theorem two_le {n m : Nat} (h : n ≤ m) : ((2 : Int) ^ n) ∣ 2 ^ m := ⟨2 ^ (m - n), by rw [← Int.pow_add, show n + (m - n) = m by omega]⟩
theorem D_nat {n : Nat} (hn : n ≤ 64) (x : Int) : D n x ↔ (BitVec.ofInt 64 x).toNat % 2 ^ n = 0 := by
  have e : (((BitVec.ofInt 64 x).toNat : Nat) : Int) = x % 18446744073709551616 := by
    rw [BitVec.toNat_ofInt]
    exact Int.toNat_of_nonneg (Int.emod_nonneg _ (by decide))
  have h64 : (18446744073709551616 : Int) = 2 ^ 64 := by decide
  have hd : ((2 : Int) ^ n) ∣ 18446744073709551616 := by rw [h64]; exact two_le hn
  have h1 : (2 : Int) ^ n ∣ x ↔ (2 : Int) ^ n ∣ x % 18446744073709551616 := by
    rw [Int.emod_def]
    constructor
    · intro h; exact Int.dvd_sub h (Int.dvd_trans hd (Int.dvd_mul_right _ _))
    · intro h
      have := Int.dvd_add h (Int.dvd_trans hd (Int.dvd_mul_right 18446744073709551616 (x / 18446744073709551616)))
      rwa [Int.sub_add_cancel] at this
  unfold D
  rw [h1, ← e, ← pow_cast, Int.natCast_dvd_natCast, Nat.dvd_iff_mod_eq_zero]
theorem D_or {n : Nat} (hn : n ≤ 64) (x y : Int) : D n (Go.bits .or .i64 x y) ↔ D n x ∧ D n y := by
  have e : Go.bits .or .i64 x y = IntKind.i64.wrap (((BitVec.ofInt 64 x ||| BitVec.ofInt 64 y).toNat : Nat) : Int) := rfl
  have h64 : (18446744073709551616 : Int) = 2 ^ 64 := by decide
  have hd : ((2 : Int) ^ n) ∣ 18446744073709551616 := by rw [h64]; exact two_le hn
  have w : ∀ m : Int, D n (IntKind.i64.wrap m) ↔ D n m := fun m => by
    rw [Num.wrap_eq]
    obtain ⟨q, hq⟩ : ∃ q, wrap64 m = m + 18446744073709551616 * q := ⟨(wrap64 m - m) / 18446744073709551616, by unfold wrap64; omega⟩
    unfold D
    rw [hq]
    constructor
    · intro h
      have := Int.dvd_sub h (Int.dvd_trans hd (Int.dvd_mul_right 18446744073709551616 q))
      rwa [Int.add_sub_cancel] at this
    · intro h; exact Int.dvd_add h (Int.dvd_trans hd (Int.dvd_mul_right _ _))
  rw [e, w, D_nat hn x, D_nat hn y, BitVec.toNat_or]
  unfold D
  rw [← pow_cast, Int.natCast_dvd_natCast, Nat.dvd_iff_mod_eq_zero, Nat.or_mod_two_pow, Nat.or_eq_zero_iff]
theorem D_zero (n : Nat) : D n 0 := ⟨0, by simp⟩
theorem D_small {x : Int} (h : -9223372036854775808 ≤ x ∧ x ≤ 9223372036854775807) : D 64 x ↔ x = 0 := by
  constructor
  · rintro ⟨q, hq⟩
    rw [show (2 : Int) ^ 64 = 18446744073709551616 from by decide] at hq
    omega
  · rintro rfl; exact D_zero _
theorem D_le {n m : Nat} (h : n ≤ m) {x : Int} (hx : D m x) : D n x := Int.dvd_trans (two_le h) hx
def orAll (a : Int) : List Int → Int
  | [] => a
  | x :: xs => orAll (Go.bits .or .i64 a x) xs
theorem orAll_D {n : Nat} (hn : n ≤ 64) : ∀ (xs : List Int) (a : Int), D n (orAll a xs) ↔ D n a ∧ ∀ x ∈ xs, D n x
  | [], a => by simp [orAll]
  | x :: xs, a => by
    rw [orAll, orAll_D hn xs, D_or hn]
    simp only [List.mem_cons, forall_eq_or_imp, and_assoc]
theorem or_range (x y : Int) : -9223372036854775808 ≤ Go.bits .or .i64 x y ∧ Go.bits .or .i64 x y ≤ 9223372036854775807 := by
  show -9223372036854775808 ≤ IntKind.i64.wrap _ ∧ IntKind.i64.wrap _ ≤ 9223372036854775807
  rw [Num.wrap_eq]
  unfold wrap64; omega
theorem orAll_range : ∀ (xs : List Int) (a : Int), (-9223372036854775808 ≤ a ∧ a ≤ 9223372036854775807) → -9223372036854775808 ≤ orAll a xs ∧ orAll a xs ≤ 9223372036854775807
  | [], _, h => h
  | x :: xs, a, _ => orAll_range xs _ (or_range a x)
/-- How many bits are wasted. -/
def wst (xs : List Int) : Int := if orAll 0 xs = 0 then 0 else mn ((Lib.ctz 64 (IntKind.u64.wrap (orAll 0 xs)).toNat : Nat) : Int) 15
theorem wasted_loop (k : Nat) (xs : List Int) (hl : xs.length ≤ 17592186044416) (d : Nat) : ∀ (j : Nat) (a : Int), j + d = xs.length → shift_Wasted.l0 (k + d + 1) a xs xs.length j = (let a' := orAll a (xs.drop j); if a' = 0 then some (0, 0) else (bits_TrailingZeros.f (IntKind.u64.wrap a')).bind fun t => some (mn t 15, 0)) := by
  induction d with
  | zero =>
    intro j a hj
    simp only [shift_Wasted.l0]
    rw [if_neg (by omega), List.drop_eq_nil_of_le (by omega)]
    rfl
  | succ d ih =>
    intro j a hj
    have hj2 : j < xs.length := by omega
    obtain ⟨m, hm⟩ : ∃ m, m = k + d + 1 := ⟨_, rfl⟩
    have e1 : rd xs (j : Int) = xs[j] := by simp [rd, hj2]
    rw [show k + (d + 1) + 1 = m + 1 by omega]
    simp only [shift_Wasted.l0]
    rw [if_pos (by omega), if_pos (by omega), if_pos (by omega), Num.w64 (n := (j : Int) + 1) (by omega) (by omega), hm, e1, List.drop_eq_getElem_cons hj2, orAll]
    have := ih (j + 1) (Go.bits .or .i64 a xs[j]) (by omega)
    rw [show ((j + 1 : Nat) : Int) = (j : Int) + 1 by omega] at this
    exact this
theorem u64_range (a : Int) : 0 ≤ IntKind.u64.wrap a ∧ IntKind.u64.wrap a < 18446744073709551616 := by rw [IntKind.wrap_u64]; omega
theorem wasted_ok (xs : List Int) (hl : xs.length ≤ 17592186044416) (h : allS xs = true) (k : Nat) : shift_Wasted.f (k + xs.length + 1) xs = some (wst xs, 0) := by
  have hm : mayS xs 0 = true := by unfold mayS; rw [h]; rfl
  unfold shift_Wasted.f shift_may.f
  rw [if_pos hl, hm, Option.bind_some, if_pos rfl]
  have := wasted_loop k xs hl xs.length 0 0 (by omega)
  rw [show ((0 : Nat) : Int) = 0 from rfl, List.drop_zero] at this
  rw [this]
  show (if orAll 0 xs = 0 then _ else _) = _
  unfold wst
  by_cases c : orAll 0 xs = 0
  · rw [if_pos c, if_pos c]
  · rw [if_neg c, if_neg c]
    unfold bits_TrailingZeros.f
    rw [if_pos (u64_range _)]; rfl
theorem wasted_no (xs : List Int) (hl : xs.length ≤ 17592186044416) (h : allS xs = false) (k : Nat) : shift_Wasted.f k xs = some (0, 1800) := by
  have hm : mayS xs 0 = false := by unfold mayS; rw [h, Bool.and_false]
  unfold shift_Wasted.f shift_may.f
  rw [if_pos hl, hm]; rfl
theorem dvd_pow {n c m : Nat} : 2 ^ n ∣ 2 ^ c * (2 * m + 1) ↔ n ≤ c := by
  constructor
  · intro h
    rcases Nat.lt_or_ge c n with hc | hc
    · exfalso
      obtain ⟨q, hq⟩ := h
      rw [show n = c + 1 + (n - c - 1) by omega, Nat.pow_add, Nat.pow_succ, Nat.mul_assoc, Nat.mul_assoc] at hq
      have := Nat.eq_of_mul_eq_mul_left (Nat.two_pow_pos c) hq
      omega
    · exact hc
  · intro h; exact Nat.dvd_trans (Nat.pow_dvd_pow 2 h) (Nat.dvd_mul_right _ _)
theorem wst_spec (xs : List Int) (h : allS xs = true) : ((∀ x ∈ xs, x = 0) ∧ wst xs = 0) ∨ ((∃ x ∈ xs, x ≠ 0) ∧ 0 ≤ wst xs ∧ wst xs ≤ 15 ∧ ∀ n : Nat, n ≤ 15 → ((n : Int) ≤ wst xs ↔ ∀ x ∈ xs, D n x)) := by
  have hr := orAll_range xs 0 ⟨by decide, by decide⟩
  have hx : ∀ x ∈ xs, -131072 ≤ x ∧ x ≤ 131072 := fun x hx => of_decide_eq_true (List.all_eq_true.1 h x hx)
  have hz : orAll 0 xs = 0 ↔ ∀ x ∈ xs, x = 0 := by
    rw [← D_small hr, orAll_D (Nat.le_refl _)]
    constructor
    · intro hh x hx2; exact (D_small ⟨by have := hx x hx2; omega, by have := hx x hx2; omega⟩).1 (hh.2 x hx2)
    · intro hh; exact ⟨D_zero _, fun x hx2 => by rw [hh x hx2]; exact D_zero _⟩
  by_cases c : orAll 0 xs = 0
  · left; exact ⟨hz.1 c, by unfold wst; rw [if_pos c]⟩
  · right
    have hne : ∃ x ∈ xs, x ≠ 0 := by
      apply Classical.byContradiction
      intro hh
      exact c (hz.2 (fun x hx2 => Classical.byContradiction fun h2 => hh ⟨x, hx2, h2⟩))
    refine ⟨hne, ?_⟩
    obtain ⟨a, ha⟩ : ∃ a, a = orAll 0 xs := ⟨_, rfl⟩
    have hw : IntKind.u64.wrap a = a % 18446744073709551616 := by rw [IntKind.wrap_u64]
    obtain ⟨v, hv⟩ : ∃ v, v = (IntKind.u64.wrap a).toNat := ⟨_, rfl⟩
    have hvi : (v : Int) = a % 18446744073709551616 := by rw [hv, hw]; exact Int.toNat_of_nonneg (Int.emod_nonneg _ (by decide))
    have v0 : v ≠ 0 := by rw [← ha] at c hr; omega
    have vl : v < 2 ^ 64 := by have : (v : Int) < 18446744073709551616 := by omega
                               omega
    obtain ⟨m, hm, hc64⟩ := Lib.ctzFrom_spec 64 v (by omega) vl
    have hctz : Lib.ctz 64 v = Lib.ctzFrom 64 v := by unfold Lib.ctz; rw [if_neg v0]
    have key : ∀ n, n ≤ 15 → (n ≤ Lib.ctz 64 v ↔ ∀ x ∈ xs, D n x) := fun n hn => by
      have h1 := orAll_D (n := n) (by omega) xs 0
      rw [← ha] at h1
      rw [hctz, ← dvd_pow (m := m), ← hm]
      have h2 : 2 ^ n ∣ v ↔ D n a := by
        rw [D_nat (by omega), Nat.dvd_iff_mod_eq_zero]
        have : (BitVec.ofInt 64 a).toNat = v := by
          rw [BitVec.toNat_ofInt]
          have : ((v : Int)) = a % ((2 ^ 64 : Nat) : Int) := hvi
          omega
        rw [this]
      rw [h2, h1]
      exact ⟨fun hh => hh.2, fun hh => ⟨D_zero _, hh⟩⟩
    have hwst : wst xs = mn (Lib.ctz 64 v : Int) 15 := by unfold wst; rw [if_neg c, ← ha, ← hv]
    have h15 : mn (Lib.ctz 64 v : Int) 15 = if (15 : Int) < (Lib.ctz 64 v : Int) then 15 else (Lib.ctz 64 v : Int) := rfl
    rw [hwst, h15]
    refine ⟨by split <;> omega, by split <;> omega, fun n hn => ?_⟩
    rw [← key n hn]
    split <;> omega
theorem wst_eq {xs ys : List Int} (hx : allS xs = true) (hy : allS ys = true) (hz : (∃ x ∈ xs, x ≠ 0) ↔ ∃ y ∈ ys, y ≠ 0) (hd : ∀ n, n ≤ 15 → ((∀ x ∈ xs, D n x) ↔ ∀ y ∈ ys, D n y)) : wst xs = wst ys := by
  rcases wst_spec xs hx with ⟨h1, h2⟩ | ⟨h1, h2, h3, h4⟩
  · rcases wst_spec ys hy with ⟨k1, k2⟩ | ⟨k1, k2, k3, k4⟩
    · rw [h2, k2]
    · obtain ⟨x, hx2, hx3⟩ := hz.2 k1
      exact absurd (h1 x hx2) hx3
  · rcases wst_spec ys hy with ⟨k1, k2⟩ | ⟨k1, k2, k3, k4⟩
    · obtain ⟨x, hx2, hx3⟩ := hz.1 h1
      exact absurd (k1 x hx2) hx3
    · obtain ⟨p, hp⟩ := Int.eq_ofNat_of_zero_le h2
      obtain ⟨q, hq⟩ := Int.eq_ofNat_of_zero_le k2
      have a := (k4 p (by omega)).2 ((hd p (by omega)).1 ((h4 p (by omega)).1 (by omega)))
      have b := (h4 q (by omega)).2 ((hd q (by omega)).2 ((k4 q (by omega)).1 (by omega)))
      omega
theorem all_iff {xs : List Int} : allS xs = true ↔ ∀ x ∈ xs, -131072 ≤ x ∧ x ≤ 131072 := by
  unfold allS
  rw [List.all_eq_true]
  exact ⟨fun h x hx => of_decide_eq_true (h x hx), fun h x hx => decide_eq_true (h x hx)⟩
theorem shl_is {by_ : Int} (h0 : 0 ≤ by_) (h1 : by_ ≤ 64) (x : Int) : shl .i64 x by_ = upS by_ x := by
  unfold shl upS
  rw [Nat.min_eq_left (show by_.toNat ≤ IntKind.i64.bits by simp [IntKind.bits]; omega), Num.wrap_eq]
def upF (xs : List Int) (by_ : Int) : List Int × Int := if mayS xs by_ = true then (if mayS (xs.map (upS by_)) by_ = true then (xs.map (upS by_), 0) else ([], 1800)) else ([], 1800)
theorem up_loop (k : Nat) (by_ : Int) (h0 : 0 ≤ by_) (h1 : by_ ≤ 15) (xs : List Int) (hl : xs.length ≤ 17592186044416) (d : Nat) : ∀ j : Nat, j + d = xs.length → shift_Up.l0 (k + d + 1) by_ ((xs.take j).map (upS by_) ++ xs.drop j) xs.length j = (shift_may.f (xs.map (upS by_)) by_).bind fun t => if t = true then some (xs.map (upS by_), 0) else some ([], 1800) := by
  induction d with
  | zero =>
    intro j hj
    simp only [shift_Up.l0]
    rw [if_neg (by omega), List.take_of_length_le (by omega), List.drop_eq_nil_of_le (by omega), List.append_nil]
  | succ d ih =>
    intro j hj
    have hj2 : j < xs.length := by omega
    obtain ⟨m, hm⟩ : ∃ m, m = k + d + 1 := ⟨_, rfl⟩
    rw [show k + (d + 1) + 1 = m + 1 by omega]
    simp only [shift_Up.l0]
    have hrd : rd ((xs.take j).map (upS by_) ++ xs.drop j) (j : Int) = rd xs (j : Int) := PSh.mix_at (upS by_) xs hj2
    have hs := mix_set (upS by_) xs hj2
    rw [if_pos (by omega), if_pos (by omega), if_pos (by simp; omega), if_pos h0, hrd, shl_is h0 (by omega), Int.toNat_natCast, hs, Num.w64 (n := (j : Int) + 1) (by omega) (by omega), hm]
    have := ih (j + 1) (by omega)
    rw [show ((j + 1 : Nat) : Int) = (j : Int) + 1 by omega] at this
    exact this
theorem up_is (xs : List Int) (by_ : Int) (hl : xs.length ≤ 17592186044416) (k : Nat) : shift_Up.f (k + xs.length + 1) xs by_ = some (upF xs by_) := by
  unfold shift_Up.f upF
  rw [show shift_may.f xs by_ = some (mayS xs by_) by unfold shift_may.f; rw [if_pos hl], Option.bind_some]
  by_cases hm : mayS xs by_ = true
  · have hm2 := hm
    unfold mayS at hm2
    rw [Bool.and_eq_true, decide_eq_true_iff] at hm2
    have := up_loop k by_ hm2.1.1 hm2.1.2 xs hl xs.length 0 (by omega)
    rw [List.take_zero, List.map_nil, List.nil_append, List.drop_zero, show ((0 : Nat) : Int) = 0 from rfl] at this
    rw [if_pos hm, if_pos hm, show slices_Clone_int_int.f xs = some xs by unfold slices_Clone_int_int.f; rw [if_pos hl], Option.bind_some, this, show shift_may.f (xs.map (upS by_)) by_ = some (mayS (xs.map (upS by_)) by_) by unfold shift_may.f; rw [if_pos (by simpa using hl)], Option.bind_some]
    split <;> rfl
  · rw [if_neg hm, if_neg hm]
theorem down_is (xs : List Int) (by_ : Int) (hl : xs.length ≤ 17592186044416) : shift_Down.f xs by_ = some (downF xs by_) := by unfold shift_Down.f; rw [if_pos hl]
theorem same_loopP (k : Nat) (l : List Int) (hl : l.length ≤ 17592186044416) (d : Nat) : ∀ i : Nat, i + d = l.length → descantlaw0_SameInts.l0 (k + d + 1) l l i = some true := by
  induction d with
  | zero =>
    intro i hi
    simp only [descantlaw0_SameInts.l0]
    rw [if_neg (by omega)]
  | succ d ih =>
    intro i hi
    obtain ⟨m, hm⟩ : ∃ m, m = k + d + 1 := ⟨_, rfl⟩
    rw [show k + (d + 1) + 1 = m + 1 by omega]
    simp only [descantlaw0_SameInts.l0]
    rw [hm, if_pos (by omega), if_pos (by omega), if_pos (by omega), if_pos trivial, Num.w64 (n := (i : Int) + 1) (by omega) (by omega)]
    have := ih (i + 1) (by omega)
    rw [show ((i + 1 : Nat) : Int) = (i : Int) + 1 by omega] at this
    exact this
theorem same_selfP (l : List Int) (hl : l.length ≤ 17592186044416) (k : Nat) : descantlaw0_SameInts.f (k + l.length + 1) l l = some true := by
  unfold descantlaw0_SameInts.f
  rw [if_pos rfl]
  exact same_loopP k l hl l.length 0 (by omega)
/-- Down where all are divisible, and what Up makes of it. -/
theorem down_dvd {n : Nat} (hn : n ≤ 15) {xs : List Int} (h : allS xs = true) (hd : ∀ x ∈ xs, D n x) : downF xs n = (xs.map (fun x => x / 2 ^ n), 0) ∧ upF (xs.map (fun x => x / 2 ^ n)) n = (xs, 0) := by
  have hx := all_iff.1 h
  have e : ∀ x ∈ xs, x / 2 ^ n * 2 ^ n = x := fun x hx2 => Int.ediv_mul_cancel (hd x hx2)
  have hp : (1 : Int) ≤ 2 ^ n := by have := Nat.one_le_two_pow (n := n); have h2 := pow_cast n; omega
  have eu : ∀ x ∈ xs, upS n (x / 2 ^ n) = x := fun x hx2 => by
    have := hx x hx2
    unfold upS
    rw [Int.toNat_natCast, e x hx2, Num.w64 (by omega) (by omega)]
  have hm : mayS xs n = true := by unfold mayS; rw [h, decide_eq_true (by omega)]; rfl
  have ho : downOk n xs = true := by
    unfold downOk
    rw [List.all_eq_true]
    intro x hx2
    unfold dn
    rw [Int.toNat_natCast, eu x hx2]
    exact beq_self_eq_true x
  have hdn : xs.map (dn n) = xs.map (fun x => x / 2 ^ n) := List.map_congr_left (fun x _ => by unfold dn; rw [Int.toNat_natCast])
  have ha : allS (xs.map (fun x => x / 2 ^ n)) = true := by
    rw [all_iff]
    intro y hy
    obtain ⟨x, hx2, rfl⟩ := List.mem_map.1 hy
    have h1 := hx x hx2
    constructor
    · refine Int.le_ediv_of_mul_le (by omega) ?_
      obtain ⟨q, hq⟩ : ∃ q : Int, q = 2 ^ n := ⟨_, rfl⟩
      rw [← hq] at hp ⊢
      omega
    · refine Int.le_trans (Int.ediv_le_ediv (by omega) h1.2) ?_
      exact Int.ediv_le_self _ (by decide)
  have hb : (xs.map (fun x => x / 2 ^ n)).map (upS n) = xs := by
    rw [List.map_map]
    conv => rhs; rw [← List.map_id xs]
    exact List.map_congr_left (fun x hx2 => eu x hx2)
  constructor
  · unfold downF
    rw [hm, ho, hdn]; rfl
  · unfold upF
    rw [hb, hm, show mayS (xs.map (fun x => x / 2 ^ n)) n = true by unfold mayS; rw [ha, decide_eq_true (by omega)]; rfl]
    rfl
theorem down_notdvd {n : Nat} {xs : List Int} (h : ¬ ∀ x ∈ xs, D n x) (hx : allS xs = true) (hn : n ≤ 15) : downF xs n = ([], 1800) := by
  have ho : downOk n xs = false := by
    unfold downOk
    rw [List.all_eq_false]
    obtain ⟨x, hh⟩ := Classical.not_forall.1 h
    obtain ⟨hx2, hx3⟩ := Classical.not_imp.1 hh
    refine ⟨x, hx2, fun he => hx3 ?_⟩
    have he := eq_of_beq he
    unfold upS dn at he
    rw [Int.toNat_natCast] at he
    have r := all_iff.1 hx x hx2
    have hp : (0 : Int) < 2 ^ n := by have := Nat.one_le_two_pow (n := n); have h2 := pow_cast n; omega
    have h1 : x / 2 ^ n * 2 ^ n ≤ x := Int.ediv_mul_le x (by omega)
    have h2 : x < x / 2 ^ n * 2 ^ n + 2 ^ n := by have := Int.lt_ediv_add_one_mul_self x hp; rw [Int.add_mul, Int.one_mul] at this; exact this
    have h3 : (2 : Int) ^ n ≤ 32768 := by
      have : 2 ^ n ≤ 2 ^ 15 := Nat.pow_le_pow_right (by decide) hn
      have h4 := pow_cast n
      omega
    rw [Num.w64 (by omega) (by omega)] at he
    exact ⟨x / 2 ^ n, by rw [Int.mul_comm]; exact he.symm⟩
  unfold downF
  rw [ho, Bool.and_false]; rfl
theorem awakeSh (k : Nat) : descantlaw18_awake.f (k + 20) = some true := by
  have h : descantlaw18_awake.f 20 = some true := by decide +kernel
  induction k with
  | zero => exact h
  | succ k ih => exact (descantlaw18_awake.mono _ _ ih)
end Go.Proofs.YtakjcfndinnffaaDoor.PShift
