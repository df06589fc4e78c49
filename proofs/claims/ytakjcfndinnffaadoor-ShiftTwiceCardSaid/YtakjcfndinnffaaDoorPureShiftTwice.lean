/- 'ShiftTwice' of chapter 18: down by so many, and by so many more. No condition. -/
import Derived.Test.YtakjcfndinnffaaDoorPShiftx5
import Derived.Test.YtakjcfndinnffaaDoorShiftPure
namespace Go.Proofs.YtakjcfndinnffaaDoor.Pure
open Go.RowKit Go.Proofs.YtakjcfndinnffaaDoor.PShift Go.Proofs.YtakjcfndinnffaaDoorW.PrintWords Go.Proofs.YtakjcfndinnffaaDoorW.PrintLast
set_option linter.unusedVariables false
set_option linter.unusedSimpArgs false
open Go.Proofs.YtakjcfndinnffaaDoor.PSh (allS inS mayS downF)
def v7 (n : Nat) (x : Int) : Int := (x % 8) * 2 ^ n
theorem v7_in {n : Nat} (hn : n ≤ 14) (x : Int) : -131072 ≤ v7 n x ∧ v7 n x ≤ 131072 := by
  have hp : (1 : Int) ≤ 2 ^ n := by have := Nat.one_le_two_pow (n := n); have h2 := pow_cast n; omega
  have hq : (2 : Int) ^ n ≤ 16384 := by
    have : 2 ^ n ≤ 2 ^ 14 := Nat.pow_le_pow_right (by decide) hn
    have h2 := pow_cast n; omega
  obtain ⟨q, e⟩ : ∃ q : Int, q = 2 ^ n := ⟨_, rfl⟩
  obtain ⟨u, hu⟩ : ∃ u, u = x % 8 := ⟨_, rfl⟩
  have u0 : 0 ≤ u ∧ u ≤ 7 := by omega
  unfold v7
  rw [← e, ← hu]
  rw [← e] at hp hq
  have h1 : 0 ≤ u * q := Int.mul_nonneg u0.1 (by omega)
  have h2 : u * q ≤ 7 * q := Int.mul_le_mul_of_nonneg_right u0.2 (by omega)
  omega
theorem v7_shl {n m : Nat} (hn : n ≤ 7) (hm : m ≤ 7) (x : Int) : shl .i64 (Go.bits .and .i64 x 7) (((n + m : Nat) : Int)) = v7 (n + m) x := by
  have h : Go.bits .and .i64 x 7 = x % 8 := Num.and_mask x 7 3 (by omega) (by rfl)
  rw [h, shl_is (by omega) (by omega)]
  unfold PSh.upS
  have := v7_in (n := n + m) (by omega) x
  unfold v7 at this ⊢
  rw [Int.toNat_natCast, Num.w64 (by omega) (by omega)]
theorem v7_split (n m : Nat) (x : Int) : v7 (n + m) x / 2 ^ n = v7 m x := by
  have hp : (2 : Int) ^ n ≠ 0 := by have := Nat.one_le_two_pow (n := n); have h2 := pow_cast n; omega
  unfold v7
  rw [Int.pow_add, Int.mul_comm (2 ^ n), ← Int.mul_assoc]
  exact Int.mul_ediv_cancel _ hp
theorem v7_dvd (n m : Nat) (x : Int) : D n (v7 (n + m) x) := ⟨v7 m x, by unfold v7; rw [Int.pow_add, Int.mul_comm (x % 8), Int.mul_assoc, Int.mul_comm (2 ^ m)]⟩
theorem twice_loop (K : Nat) (xs : List Int) (n m : Nat) (hn : n ≤ 7) (hm : m ≤ 7) (hl : xs.length < 17592186044416) (d : Nat) : ∀ j : Nat, j + d = xs.length → descantlaw18_ShiftTwice.l0 (K + d + 1) xs n m ((xs.take j).map (v7 (n + m))) j = descantlaw18_ShiftTwice.l0 (K + 1) xs n m (xs.map (v7 (n + m))) xs.length := by
  induction d with
  | zero => intro j hj; rw [List.take_of_length_le (by omega), show j = xs.length by omega]
  | succ d ih =>
    intro j hj
    have hj2 : j < xs.length := by omega
    obtain ⟨q, hq⟩ : ∃ q, q = K + d + 1 := ⟨_, rfl⟩
    have ih := ih (j + 1) (by omega)
    rw [show K + (d + 1) + 1 = q + 1 by omega]
    conv => lhs; simp only [descantlaw18_ShiftTwice.l0]
    have hz : ((xs.take j).map (v7 (n + m))).length = j := by simp; omega
    have e1 : rd xs (j : Int) = xs[j] := by simp [rd, hj2]
    have hs : (xs.take (j + 1)).map (v7 (n + m)) = (xs.take j).map (v7 (n + m)) ++ [v7 (n + m) (rd xs (j : Int))] := by
      rw [e1, List.take_succ_eq_append_getElem hj2, List.map_append]; rfl
    rw [hs, ← hq, show ((j + 1 : Nat) : Int) = (j : Int) + 1 by omega] at ih
    rw [if_pos (by omega), if_pos (by omega), Num.w64 (n := (n : Int) + m) (by omega) (by omega), if_pos (by omega), if_pos (by omega), Num.w64 (n := (j : Int) + 1) (by omega) (by omega), show (n : Int) + m = ((n + m : Nat) : Int) by omega, v7_shl hn hm]
    exact ih
theorem ShiftTwice : descantlaw18_ShiftTwice.Pure := by
  intro xs a b h0 h1 h2 wa wb
  have hl : xs.length ≤ 17592186043904 := by omega
  have ha : Go.bits .and .i64 a 7 = a % 8 := Num.and_mask a 7 3 (by omega) (by rfl)
  have hb : Go.bits .and .i64 b 7 = b % 8 := Num.and_mask b 7 3 (by omega) (by rfl)
  obtain ⟨n, hn⟩ : ∃ n : Nat, (n : Int) = a % 8 := ⟨(a % 8).toNat, by omega⟩
  obtain ⟨m, hm⟩ : ∃ m : Nat, (m : Int) = b % 8 := ⟨(b % 8).toNat, by omega⟩
  obtain ⟨q, hq⟩ : ∃ q, q = xs.length + 20 := ⟨_, rfl⟩
  refine ⟨q + xs.length + 1, ?_⟩
  unfold descantlaw18_ShiftTwice.f
  rw [show q + xs.length + 1 = (xs.length + xs.length + 1) + 20 by omega, awakeSh, Option.bind_some, if_pos rfl, ha, hb, ← hn, ← hm]
  have lp := twice_loop q xs n m (by omega) (by omega) (by omega) xs.length 0 (by omega)
  rw [List.take_zero, List.map_nil, show ((0 : Nat) : Int) = 0 from rfl] at lp
  rewrite [show (xs.length + xs.length + 1) + 20 = q + xs.length + 1 by omega]
  refine lp.trans ?_
  simp only [descantlaw18_ShiftTwice.l0]
  rw [if_neg (by omega)]
  obtain ⟨zs, hzs⟩ : ∃ zs, zs = xs.map (v7 (n + m)) := ⟨_, rfl⟩
  obtain ⟨ps, hps⟩ : ∃ ps, ps = xs.map (v7 m) := ⟨_, rfl⟩
  obtain ⟨qs, hqs⟩ : ∃ qs, qs = xs.map (v7 0) := ⟨_, rfl⟩
  have zl : zs.length = xs.length := by rw [hzs, List.length_map]
  have pl : ps.length = xs.length := by rw [hps, List.length_map]
  have ql : qs.length = xs.length := by rw [hqs, List.length_map]
  have all_v : ∀ k, k ≤ 14 → allS (xs.map (v7 k)) = true := fun k hk => by
    rw [all_iff]
    intro x hx
    obtain ⟨u, _, rfl⟩ := List.mem_map.1 hx
    exact v7_in hk u
  have z1 : zs.map (fun x => x / 2 ^ n) = ps := by rw [hzs, hps, List.map_map]; exact List.map_congr_left (fun x _ => v7_split n m x)
  have z2 : zs.map (fun x => x / 2 ^ (n + m)) = qs := by rw [hzs, hqs, List.map_map]; exact List.map_congr_left (fun x _ => v7_split (n + m) 0 x)
  have z3 : ps.map (fun x => x / 2 ^ m) = qs := by rw [hps, hqs, List.map_map]; exact List.map_congr_left (fun x _ => v7_split m 0 x)
  have d1 := down_dvd (n := n) (by omega) (xs := zs) (by rw [hzs]; exact all_v _ (by omega)) (by rw [hzs]; intro x hx; obtain ⟨u, _, rfl⟩ := List.mem_map.1 hx; exact v7_dvd n m u)
  have d2 := down_dvd (n := m) (by omega) (xs := ps) (by rw [hps]; exact all_v _ (by omega)) (by rw [hps]; intro x hx; obtain ⟨u, _, rfl⟩ := List.mem_map.1 hx; exact v7_dvd m 0 u)
  have d3 := down_dvd (n := n + m) (by omega) (xs := zs) (by rw [hzs]; exact all_v _ (by omega)) (by rw [hzs]; intro x hx; obtain ⟨u, _, rfl⟩ := List.mem_map.1 hx; exact v7_dvd (n + m) 0 u)
  rw [z1] at d1
  rw [z3] at d2
  rw [z2] at d3
  rw [← hzs, Num.w64 (n := (n : Int) + m) (by omega) (by omega), show (n : Int) + m = ((n + m : Nat) : Int) by omega, down_is zs n (by omega), d1.1, Option.bind_some, down_is ps m (by omega), d2.1, Option.bind_some, down_is zs _ (by omega), d3.1, Option.bind_some, show q = 19 + qs.length + 1 by omega, up_is qs m (by omega), d2.2]
  simp only [Option.bind_some, descantlaw0_Num.f, if_true]
  rw [same_selfP qs (by omega), Option.bind_some, if_pos rfl, show 19 + qs.length + 1 = 19 + ps.length + 1 by omega, same_selfP ps (by omega)]
  rfl
end Go.Proofs.YtakjcfndinnffaaDoor.Pure
