/- Layer 18: the document's Wasted, Down, Up are the program's. No program in sight. -/
import Derived.Test.YtakjcfndinnffaaDoorSpoilS
import Derived.Test.YtakjcfndinnffaaDoorPSxx2
import Derived.Test.YtakjcfndinnffaaDoorPSxx1
import Derived.Test.YtakjcfndinnffaaDoorPSxx3
import Derived.Test.YtakjcfndinnffaaDoorShiftPure
import Derived.Test.YtakjcfndinnffaaDoorNum
namespace Go.Proofs.YtakjcfndinnffaaDoor.PSx
open Go Go.RowKit Go.Proofs.YtakjcfndinnffaaDoorW.PrintWords Go.Proofs.YtakjcfndinnffaaDoorW.PrintMore Go.Proofs.YtakjcfndinnffaaDoorW.PrintLast
open Go.Proofs.YtakjcfndinnffaaDoor.PSh (allS inS mayS dn upS downOk downF)
open Go.Proofs.YtakjcfndinnffaaDoor.PShift (wst orAll upF D D_or D_zero D_le D_small orAll_D orAll_range wst_spec shl_is)
set_option linter.unusedVariables false
set_option linter.unusedSimpArgs false
theorem drop_at {xs : List Int} {j : Nat} (h : j < xs.length) : xs.drop j = rd xs (j : Int) :: xs.drop (j + 1) := by
  rw [List.drop_eq_getElem_cons h]
  congr 1
  unfold rd
  rw [Int.toNat_natCast, List.getD_eq_getElem?_getD, List.getElem?_eq_getElem h]; rfl
theorem take_at {xs : List Int} {j : Nat} (h : j < xs.length) : xs.take (j + 1) = xs.take j ++ [rd xs (j : Int)] := by
  rw [List.take_add_one, List.getElem?_eq_getElem h]
  congr 1
  unfold rd
  rw [Int.toNat_natCast, List.getD_eq_getElem?_getD, List.getElem?_eq_getElem h]; rfl
theorem sample_is (x : Int) : descantref13_sampleMay.f x = some (inS x) := by
  unfold descantref13_sampleMay.f descantref13_upTo.f inS
  by_cases h1 : x ≥ -131072
  · rw [if_pos h1, Option.bind_some]
    congr 1
    rw [decide_eq_decide]; omega
  · rw [if_neg h1, Option.bind_some]
    congr 1; symm; rw [decide_eq_false_iff_not]; omega
theorem smay_loop (k : Nat) (xs : List Int) (hl : xs.length ≤ 17592186044416) (d : Nat) : ∀ j : Nat, j + d = xs.length → descantref13_samplesMay.l0 (k + d + 1) xs j = some (allS (xs.drop j)) := by
  induction d with
  | zero =>
    intro j hj
    simp only [descantref13_samplesMay.l0]
    rw [if_neg (by omega), List.drop_eq_nil_of_le (by omega)]; rfl
  | succ d ih =>
    intro j hj
    obtain ⟨m, hm⟩ : ∃ m, m = k + d + 1 := ⟨_, rfl⟩
    rw [show k + (d + 1) + 1 = m + 1 by omega]
    simp only [descantref13_samplesMay.l0]
    rw [if_pos (by omega), if_pos (by omega), sample_is, Option.bind_some, drop_at (show j < xs.length by omega), show allS (rd xs (j : Int) :: xs.drop (j + 1)) = (inS (rd xs (j : Int)) && allS (xs.drop (j + 1))) from rfl]
    cases inS (rd xs (j : Int))
    · rfl
    · rw [if_pos rfl, hm, Num.w64 (n := (j : Int) + 1) (by omega) (by omega)]
      have := ih (j + 1) (by omega)
      rw [show ((j + 1 : Nat) : Int) = (j : Int) + 1 by omega] at this
      rw [this]; rfl
theorem smay_is (xs : List Int) (hl : xs.length ≤ 17592186044416) (K : Nat) (hK : xs.length + 1 ≤ K) : descantref13_samplesMay.f K xs = some (allS xs) := by
  obtain ⟨k, rfl⟩ : ∃ k, K = k + xs.length + 1 := ⟨K - xs.length - 1, by omega⟩
  exact smay_loop k xs hl xs.length 0 (by omega)
theorem upTo_is (by_ : Int) : descantref13_upTo.f by_ 0 15 = some (decide (0 ≤ by_ ∧ by_ ≤ 15)) := by
  unfold descantref13_upTo.f
  by_cases h : by_ ≥ 0
  · rw [if_pos h]; congr 1; rw [decide_eq_decide]; omega
  · rw [if_neg h]; congr 1; symm; rw [decide_eq_false_iff_not]; omega
theorem shr_is {by_ : Int} (h0 : 0 ≤ by_) (h1 : by_ ≤ 64) (x : Int) : shr .i64 x by_ = dn by_ x := by
  unfold shr dn
  rw [Nat.min_eq_left (show by_.toNat ≤ IntKind.i64.bits by simp [IntKind.bits]; omega)]
theorem down_loop (k : Nat) (by_ : Int) (h0 : 0 ≤ by_) (h1 : by_ ≤ 15) (xs : List Int) (hl : xs.length < 17592186044416) (d : Nat) : ∀ j : Nat, j + d = xs.length → descantref13_Down.l0 (k + d + 1) xs by_ ((xs.take j).map (dn by_)) j = some (if downOk by_ (xs.drop j) = true then (xs.map (dn by_), 0) else ([], 1800)) := by
  induction d with
  | zero =>
    intro j hj
    simp only [descantref13_Down.l0]
    rw [if_neg (by omega), List.drop_eq_nil_of_le (by omega), if_pos (show downOk by_ [] = true from rfl), List.take_of_length_le (by omega)]
  | succ d ih =>
    intro j hj
    obtain ⟨m, hm⟩ : ∃ m, m = k + d + 1 := ⟨_, rfl⟩
    rw [show k + (d + 1) + 1 = m + 1 by omega]
    simp only [descantref13_Down.l0]
    rw [if_pos (by omega), if_pos (by omega), if_pos h0, shr_is h0 (by omega), shl_is h0 (by omega), drop_at (show j < xs.length by omega), show downOk by_ (rd xs (j : Int) :: xs.drop (j + 1)) = ((upS by_ (dn by_ (rd xs (j : Int))) == rd xs (j : Int)) && downOk by_ (xs.drop (j + 1))) from rfl]
    by_cases c : upS by_ (dn by_ (rd xs (j : Int))) = rd xs (j : Int)
    · rw [if_pos c, if_pos (by rw [List.length_map, List.length_take]; omega), beq_iff_eq.2 c, Bool.true_and, hm, Num.w64 (n := (j : Int) + 1) (by omega) (by omega)]
      have := ih (j + 1) (by omega)
      rw [show ((j + 1 : Nat) : Int) = (j : Int) + 1 by omega, take_at (show j < xs.length by omega), List.map_append] at this
      exact this
    · rw [if_neg c, beq_eq_false_iff_ne.2 c, Bool.false_and, if_neg (by decide)]
theorem down_bad (xs : List Int) (by_ : Int) (K : Nat) (hK : 1 ≤ K) : descantref13_Down.j0 K xs by_ true = some ([], 1800) := by
  obtain ⟨k, rfl⟩ : ∃ k, K = k + 1 := ⟨K - 1, by omega⟩
  simp only [descantref13_Down.j0]; rfl
theorem refDown_is (xs : List Int) (by_ : Int) (hl : xs.length < 17592186044416) (K : Nat) (hK : xs.length + 2 ≤ K) : descantref13_Down.f K xs by_ = some (downF xs by_) := by
  unfold descantref13_Down.f downF mayS
  rw [smay_is xs (by omega) K (by omega), Option.bind_some, upTo_is, Option.bind_some]
  cases hs : allS xs
  · rw [if_neg (by decide), down_bad xs by_ K (by omega), Bool.and_false, Bool.false_and, if_neg (by decide)]
  · rw [if_pos rfl, Bool.and_true]
    by_cases hb : 0 ≤ by_ ∧ by_ ≤ 15
    · rw [decide_eq_true hb, Bool.true_and]
      obtain ⟨k, rfl⟩ : ∃ k, K = k + xs.length + 1 + 1 := ⟨K - xs.length - 2, by omega⟩
      obtain ⟨m, hm⟩ : ∃ m, m = k + xs.length + 1 := ⟨_, rfl⟩
      rw [← hm]
      simp only [descantref13_Down.j0]
      rw [if_neg (by decide), hm]
      exact down_loop k by_ hb.1 hb.2 xs hl xs.length 0 (by omega)
    · rw [decide_eq_false hb, Bool.false_and, if_neg (by decide)]
      exact down_bad xs by_ K (by omega)
theorem upR_loop (k : Nat) (by_ : Int) (h0 : 0 ≤ by_) (h1 : by_ ≤ 15) (xs : List Int) (hl : xs.length < 17592186044416) (hk : xs.length + 1 ≤ k) (d : Nat) : ∀ j : Nat, j + d = xs.length → descantref13_Up.l0 (k + d + 1) xs by_ ((xs.take j).map (upS by_)) j = some (if allS (xs.map (upS by_)) = true then (xs.map (upS by_), 0) else ([], 1800)) := by
  induction d with
  | zero =>
    intro j hj
    rw [Nat.add_zero]
    simp only [descantref13_Up.l0]
    rw [if_neg (by omega), List.take_of_length_le (by omega), smay_is _ (by rw [List.length_map]; omega) k (by rw [List.length_map]; omega), Option.bind_some]
    split <;> rfl
  | succ d ih =>
    intro j hj
    obtain ⟨m, hm⟩ : ∃ m, m = k + d + 1 := ⟨_, rfl⟩
    rw [show k + (d + 1) + 1 = m + 1 by omega]
    simp only [descantref13_Up.l0]
    rw [if_pos (by omega), if_pos (by omega), if_pos h0, shl_is h0 (by omega), if_pos (by rw [List.length_map, List.length_take]; omega), hm, Num.w64 (n := (j : Int) + 1) (by omega) (by omega)]
    have := ih (j + 1) (by omega)
    rw [show ((j + 1 : Nat) : Int) = (j : Int) + 1 by omega, take_at (show j < xs.length by omega), List.map_append] at this
    exact this
theorem up_bad (xs : List Int) (by_ : Int) (K : Nat) (hK : 1 ≤ K) : descantref13_Up.j0 K xs by_ true = some ([], 1800) := by
  obtain ⟨k, rfl⟩ : ∃ k, K = k + 1 := ⟨K - 1, by omega⟩
  simp only [descantref13_Up.j0]; rfl
theorem refUp_is (xs : List Int) (by_ : Int) (hl : xs.length < 17592186044416) (K : Nat) (hK : xs.length + xs.length + 3 ≤ K) : descantref13_Up.f K xs by_ = some (upF xs by_) := by
  unfold descantref13_Up.f upF mayS
  rw [smay_is xs (by omega) K (by omega), Option.bind_some, upTo_is, Option.bind_some]
  cases hs : allS xs
  · rw [if_neg (by decide), up_bad xs by_ K (by omega), Bool.and_false, if_neg (by decide)]
  · rw [if_pos rfl, Bool.and_true]
    by_cases hb : 0 ≤ by_ ∧ by_ ≤ 15
    · rw [decide_eq_true hb, Bool.true_and, if_pos rfl]
      obtain ⟨k, rfl⟩ : ∃ k, K = k + xs.length + 1 + 1 := ⟨K - xs.length - 2, by omega⟩
      obtain ⟨m, hm⟩ : ∃ m, m = k + xs.length + 1 := ⟨_, rfl⟩
      rw [← hm]
      simp only [descantref13_Up.j0]
      rw [if_neg (by decide), hm]
      exact upR_loop k by_ hb.1 hb.2 xs hl (by omega) xs.length 0 (by omega)
    · rw [decide_eq_false hb, if_neg (by decide)]
      exact up_bad xs by_ K (by omega)
/-! ### Wasted -/
theorem or_loop (k : Nat) (xs : List Int) (hl : xs.length < 17592186044416) (d : Nat) : ∀ (j : Nat) (a : Int), j + d = xs.length → descantref13_Wasted.l0 (k + d + 1) xs a j = descantref13_Wasted.l1 k (orAll a (xs.drop j)) 0 := by
  induction d with
  | zero =>
    intro j a hj
    rw [Nat.add_zero]
    simp only [descantref13_Wasted.l0]
    rw [if_neg (by omega), List.drop_eq_nil_of_le (by omega)]; rfl
  | succ d ih =>
    intro j a hj
    obtain ⟨m, hm⟩ : ∃ m, m = k + d + 1 := ⟨_, rfl⟩
    rw [show k + (d + 1) + 1 = m + 1 by omega]
    simp only [descantref13_Wasted.l0]
    rw [if_pos (by omega), if_pos (by omega), hm, Num.w64 (n := (j : Int) + 1) (by omega) (by omega), drop_at (show j < xs.length by omega)]
    have := ih (j + 1) (Go.bits .or .i64 a (rd xs (j : Int))) (by omega)
    rw [show ((j + 1 : Nat) : Int) = (j : Int) + 1 by omega] at this
    exact this
theorem bit_is {a : Int} {i : Nat} (hi : i ≤ 15) (h : D i a) : Go.bits .and .i64 (shr .i64 a (i : Int)) 1 = 0 ↔ D (i + 1) a := by
  obtain ⟨q, rfl⟩ := h
  have hp : (0 : Int) < 2 ^ i := by
    have h1 := Nat.one_le_two_pow (n := i)
    have h2 : ((2 ^ i : Nat) : Int) = (2 : Int) ^ i := by norm_cast
    omega
  rw [shr_is (by omega) (by omega), Num.and_mask _ 1 1 (by omega) (by rfl), show (2 : Int) ^ 1 = 2 from rfl]
  unfold dn D
  rw [Int.toNat_natCast, Int.mul_ediv_cancel_left q (by omega), Int.pow_succ]
  constructor
  · intro h
    exact Int.mul_dvd_mul_left _ (Int.dvd_of_emod_eq_zero (by simpa using h))
  · intro h
    have := Int.dvd_of_mul_dvd_mul_left (show (2 : Int) ^ i ≠ 0 by omega) h
    simpa using Int.emod_eq_zero_of_dvd this
theorem bits_loop (k : Nat) (a : Int) (ha : a ≠ 0) (n : Nat) (hn : n ≤ 15) (hd : ∀ m : Nat, m ≤ 15 → (m ≤ n ↔ D m a)) (d : Nat) : ∀ i : Nat, i + d = n → descantref13_Wasted.l1 (k + d + 1) a i = some ((n : Int), 0) := by
  induction d with
  | zero =>
    intro i hi
    obtain rfl : i = n := by omega
    rw [Nat.add_zero]
    simp only [descantref13_Wasted.l1]
    rw [if_neg ha]
    by_cases c : i < 15
    · have h1 : ¬ D (i + 1) a := fun h => by have := (hd (i + 1) (by omega)).2 h; omega
      rw [if_pos (by omega), if_pos (by omega), if_neg (fun h => h1 ((bit_is hn ((hd i hn).1 (by omega))).1 h))]
    · rw [if_neg (by omega)]
  | succ d ih =>
    intro i hi
    obtain ⟨m, hm⟩ : ∃ m, m = k + d + 1 := ⟨_, rfl⟩
    rw [show k + (d + 1) + 1 = m + 1 by omega]
    simp only [descantref13_Wasted.l1]
    rw [if_neg ha, if_pos (by omega), if_pos (by omega), if_pos ((bit_is (by omega) ((hd i (by omega)).1 (by omega))).2 ((hd (i + 1) (by omega)).1 (by omega))), hm, Num.w64 (n := (i : Int) + 1) (by omega) (by omega)]
    have := ih (i + 1) (by omega)
    rw [show ((i + 1 : Nat) : Int) = (i : Int) + 1 by omega] at this
    exact this
theorem all_in {xs : List Int} (h : allS xs = true) : ∀ x ∈ xs, -131072 ≤ x ∧ x ≤ 131072 := fun x hx => of_decide_eq_true (List.all_eq_true.1 h x hx)
theorem refWasted_is (xs : List Int) (hl : xs.length < 17592186044416) (K : Nat) (hK : xs.length + 20 ≤ K) : descantref13_Wasted.f K xs = some (if allS xs = true then (wst xs, 0) else (0, 1800)) := by
  unfold descantref13_Wasted.f
  rw [smay_is xs (by omega) K (by omega), Option.bind_some]
  cases hs : allS xs
  · rw [if_neg (by decide), if_neg (by decide)]
  · rw [if_pos rfl, if_pos rfl]
    obtain ⟨k, rfl⟩ : ∃ k, K = k + 16 + xs.length + 1 := ⟨K - xs.length - 17, by omega⟩
    have h1 := or_loop (k + 16) xs hl xs.length 0 0 (by omega)
    rw [List.drop_zero] at h1
    refine (show descantref13_Wasted.l0 (k + 16 + xs.length + 1) xs 0 0 = _ from h1).trans ?_
    have hr := orAll_range xs 0 ⟨by decide, by decide⟩
    have hx := all_in hs
    rcases wst_spec xs hs with ⟨hz, hw⟩ | ⟨⟨x, hxm, hx0⟩, w0, w1, hD⟩
    · have h0 : orAll 0 xs = 0 := (D_small hr).1 ((orAll_D (by omega) xs 0).2 ⟨D_zero 64, fun x hx => by rw [hz x hx]; exact D_zero 64⟩)
      rw [h0, hw, show k + 16 = (k + 15) + 1 by omega]
      simp only [descantref13_Wasted.l1]; rfl
    · have ha : orAll 0 xs ≠ 0 := fun h => by
        have h64 := ((orAll_D (n := 64) (by omega) xs 0).1 (by rw [h]; exact D_zero 64)).2 x hxm
        have := hx x hxm
        exact hx0 ((D_small (by omega)).1 h64)
      obtain ⟨n, hn⟩ : ∃ n : Nat, wst xs = n := ⟨(wst xs).toNat, by omega⟩
      rw [hn] at w1 hD ⊢
      have := bits_loop (k + 15 - n) (orAll 0 xs) ha n (by omega) (fun m hm => by
        constructor
        · intro h; exact (orAll_D (by omega) xs 0).2 ⟨D_zero m, (hD m hm).1 (by omega)⟩
        · intro h; have := (hD m hm).2 ((orAll_D (by omega) xs 0).1 h).2; omega) n 0 (by omega)
      rw [show k + 15 - n + n + 1 = k + 16 by omega] at this
      exact this
end Go.Proofs.YtakjcfndinnffaaDoor.PSx
