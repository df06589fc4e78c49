/- 'ShiftBack' of chapter 18: all wasted bits may go, and come back. No condition. -/
import Derived.Test.YtakjcfndinnffaaDoorPShiftx3
import Derived.Test.YtakjcfndinnffaaDoorShiftPure
namespace Go.Proofs.YtakjcfndinnffaaDoor.Pure
open Go.RowKit Go.Proofs.YtakjcfndinnffaaDoor.PShift Go.Proofs.YtakjcfndinnffaaDoorW.PrintWords Go.Proofs.YtakjcfndinnffaaDoorW.PrintLast
set_option linter.unusedVariables false
set_option linter.unusedSimpArgs false
open Go.Proofs.YtakjcfndinnffaaDoor.PSh (allS inS mayS downF)
def v8 (n : Nat) (x : Int) : Int := (x % 256 - 128) * 2 ^ n
theorem v8_in {n : Nat} (hn : n ≤ 7) (x : Int) : -131072 ≤ v8 n x ∧ v8 n x ≤ 131072 := by
  have hp : (1 : Int) ≤ 2 ^ n := by have := Nat.one_le_two_pow (n := n); have h2 := pow_cast n; omega
  have hq : (2 : Int) ^ n ≤ 128 := by
    have : 2 ^ n ≤ 2 ^ 7 := Nat.pow_le_pow_right (by decide) hn
    have h2 := pow_cast n; omega
  obtain ⟨q, e⟩ : ∃ q : Int, q = 2 ^ n := ⟨_, rfl⟩
  obtain ⟨u, hu⟩ : ∃ u, u = x % 256 := ⟨_, rfl⟩
  have u0 : 0 ≤ u ∧ u ≤ 255 := by omega
  unfold v8
  rw [← e, ← hu]
  rw [← e] at hp hq
  have h1 : 0 ≤ u * q := Int.mul_nonneg u0.1 (by omega)
  have h2 : u * q ≤ 255 * q := Int.mul_le_mul_of_nonneg_right u0.2 (by omega)
  rw [Int.sub_mul]
  omega
theorem v8_shl {n : Nat} (hn : n ≤ 7) (x : Int) : shl .i64 (wrap64 (Go.bits .and .i64 x 255 - 128)) (n : Int) = v8 n x := by
  have h : Go.bits .and .i64 x 255 = x % 256 := Num.and_mask x 255 8 (by omega) (by rfl)
  rw [h, Num.w64 (by omega) (by omega), shl_is (by omega) (by omega)]
  unfold PSh.upS
  have := v8_in hn x
  unfold v8 at this ⊢
  rw [Int.toNat_natCast, Num.w64 (by omega) (by omega)]
theorem v8_dvd (n : Nat) (x : Int) : D n (v8 n x) := ⟨x % 256 - 128, by unfold v8; rw [Int.mul_comm]⟩
def isZ8 (l : List Int) : Bool := l.all (fun x => x == 0)
theorem z8_snoc (l : List Int) (v : Int) : isZ8 (l ++ [v]) = (isZ8 l && (v == 0)) := by simp [isZ8]
theorem back_loop (K : Nat) (xs : List Int) (a : Int) (n : Nat) (hn : n ≤ 7) (ha : Go.bits .and .i64 a 7 = (n : Int)) (hl : xs.length < 17592186044416) (d : Nat) : ∀ j : Nat, j + d = xs.length → descantlaw18_ShiftBack.l0 (K + d + 1) xs a ((xs.take j).map (v8 n)) (isZ8 ((xs.take j).map (v8 n))) j = descantlaw18_ShiftBack.l0 (K + 1) xs a (xs.map (v8 n)) (isZ8 (xs.map (v8 n))) xs.length := by
  induction d with
  | zero => intro j hj; rw [List.take_of_length_le (by omega), show j = xs.length by omega]
  | succ d ih =>
    intro j hj
    have hj2 : j < xs.length := by omega
    obtain ⟨q, hq⟩ : ∃ q, q = K + d + 1 := ⟨_, rfl⟩
    have ih := ih (j + 1) (by omega)
    rw [show K + (d + 1) + 1 = q + 1 by omega]
    conv => lhs; simp only [descantlaw18_ShiftBack.l0]
    have hz : ((xs.take j).map (v8 n)).length = j := by simp; omega
    have e1 : rd xs (j : Int) = xs[j] := by simp [rd, hj2]
    have hs : (xs.take (j + 1)).map (v8 n) = (xs.take j).map (v8 n) ++ [v8 n (rd xs (j : Int))] := by
      rw [e1, List.take_succ_eq_append_getElem hj2, List.map_append]; rfl
    have hrd : rd ((xs.take j).map (v8 n) ++ [v8 n (rd xs (j : Int))]) (j : Int) = v8 n (rd xs (j : Int)) := by
      obtain ⟨l, hl2⟩ : ∃ l, l = (xs.take j).map (v8 n) := ⟨_, rfl⟩
      rw [← hl2] at hz ⊢
      subst hz
      simp [rd]
    rw [hs, z8_snoc, ← hq, show ((j + 1 : Nat) : Int) = (j : Int) + 1 by omega] at ih
    rw [if_pos (by omega), if_pos (by omega), ha, if_pos (by omega), if_pos (by omega), v8_shl hn, Option.bind_some, hrd, Num.w64 (n := (j : Int) + 1) (by omega) (by omega)]
    cases hb : isZ8 ((xs.take j).map (v8 n))
    · rw [hb, Bool.false_and] at ih
      rw [if_neg (by decide)]; exact ih
    · rw [hb, Bool.true_and] at ih
      rw [if_pos rfl, if_pos (by simp only [List.length_append, hz, List.length_singleton]; omega)]; exact ih
theorem ShiftBack : descantlaw18_ShiftBack.Pure := by
  intro xs a h0 h1 h2 wa
  have hl : xs.length ≤ 17592186043904 := by omega
  have ha : Go.bits .and .i64 a 7 = a % 8 := Num.and_mask a 7 3 (by omega) (by rfl)
  obtain ⟨n, hn⟩ : ∃ n : Nat, (n : Int) = a % 8 := ⟨(a % 8).toNat, by omega⟩
  obtain ⟨q, hq⟩ : ∃ q, q = xs.length + 20 := ⟨_, rfl⟩
  refine ⟨q + xs.length + 1, ?_⟩
  unfold descantlaw18_ShiftBack.f
  rw [show q + xs.length + 1 = (xs.length + xs.length + 1) + 20 by omega, awakeSh, Option.bind_some, if_pos rfl]
  have lp := back_loop q xs a n (by omega) (by rw [ha, hn]) (by omega) xs.length 0 (by omega)
  rw [List.take_zero, List.map_nil, show ((0 : Nat) : Int) = 0 from rfl, show isZ8 [] = true from rfl] at lp
  rewrite [show (xs.length + xs.length + 1) + 20 = q + xs.length + 1 by omega]
  refine lp.trans ?_
  simp only [descantlaw18_ShiftBack.l0]
  rw [if_neg (by omega)]
  obtain ⟨zs, hzs⟩ : ∃ zs, zs = xs.map (v8 n) := ⟨_, rfl⟩
  have zl : zs.length = xs.length := by rw [hzs, List.length_map]
  have za : allS zs = true := by
    rw [all_iff, hzs]
    intro x hx
    obtain ⟨u, _, rfl⟩ := List.mem_map.1 hx
    exact v8_in (by omega) u
  have zd : ∀ x ∈ zs, D n x := by
    rw [hzs]
    intro x hx
    obtain ⟨u, _, rfl⟩ := List.mem_map.1 hx
    exact v8_dvd n u
  have hp : ∃ p : Nat, p ≤ 15 ∧ wst zs = p ∧ (∀ x ∈ zs, D p x) ∧ (isZ8 zs = true ∧ p = 0 ∨ isZ8 zs = false ∧ n ≤ p ∧ downF zs ((p : Int) + 1) = ([], 1800)) := by
    rcases wst_spec zs za with ⟨k1, k2⟩ | ⟨k1, k2, k3, k4⟩
    · exact ⟨0, by omega, k2, fun x hx => ⟨x, by simp⟩, .inl ⟨by unfold isZ8; rw [List.all_eq_true]; intro x hx; rw [k1 x hx]; rfl, rfl⟩⟩
    · obtain ⟨p, hp⟩ := Int.eq_ofNat_of_zero_le k2
      refine ⟨p, by omega, hp, (k4 p (by omega)).1 (by omega), .inr ⟨?_, ?_, ?_⟩⟩
      · obtain ⟨x, hx, hx2⟩ := k1
        unfold isZ8; rw [List.all_eq_false]; exact ⟨x, hx, by simpa using hx2⟩
      · have := (k4 n (by omega)).2 zd; omega
      · by_cases c : p + 1 ≤ 15
        · have hnd : ¬ ∀ x ∈ zs, D (p + 1) x := fun h => by have := (k4 (p + 1) c).2 h; omega
          have := down_notdvd hnd za c
          rw [show ((p + 1 : Nat) : Int) = (p : Int) + 1 by omega] at this
          exact this
        · unfold downF mayS
          rw [decide_eq_false (by omega)]; rfl
  obtain ⟨p, p15, pw, pd, pz⟩ := hp
  have d1 := down_dvd p15 za pd
  rw [← hzs, show q = 19 + zs.length + 1 by omega, wasted_ok zs (by omega) za, Option.bind_some, pw]
  simp only []
  rw [down_is zs p (by omega), d1.1, Option.bind_some]
  simp only []
  rw [show 19 + zs.length + 1 = 19 + (zs.map fun x => x / 2 ^ p).length + 1 by simp, up_is _ p (by simp; omega), d1.2, Option.bind_some, Num.w64 (n := (p : Int) + 1) (by omega) (by omega), down_is zs _ (by omega)]
  simp only [Option.bind_some, descantlaw0_Num.f, if_true]
  rw [show 19 + (zs.map fun x => x / 2 ^ p).length + 1 = 19 + zs.length + 1 by simp, same_selfP zs (by omega), Option.bind_some, if_pos rfl, ha, ← hn]
  rcases pz with ⟨z1, rfl⟩ | ⟨z1, z2, z3⟩
  · rw [z1, if_pos rfl, if_pos (by simp)]
  · rw [z1, if_neg (by decide), if_pos (by omega), z3]; rfl
end Go.Proofs.YtakjcfndinnffaaDoor.Pure
