/- 'ShiftMore' of chapter 18: one sample more wastes no more bits. No condition. -/
import Derived.Test.YtakjcfndinnffaaDoorPShiftx4
import Derived.Test.YtakjcfndinnffaaDoorShiftPure
namespace Go.Proofs.YtakjcfndinnffaaDoor.Pure
open Go.RowKit Go.Proofs.YtakjcfndinnffaaDoor.PShift Go.Proofs.YtakjcfndinnffaaDoorW.PrintWords Go.Proofs.YtakjcfndinnffaaDoorW.PrintLast
set_option linter.unusedVariables false
set_option linter.unusedSimpArgs false
open Go.Proofs.YtakjcfndinnffaaDoor.PSh (allS inS mayS downF)
def zm (x : Int) : Int := wrap64 (Go.bits .and .i64 x 65535 - 30000)
theorem zm_in (x : Int) : -30000 ≤ zm x ∧ zm x ≤ 35535 := by
  have h : Go.bits .and .i64 x 65535 = x % 65536 := Num.and_mask x 65535 16 (by omega) (by rfl)
  unfold zm
  rw [h, Num.w64 (by omega) (by omega)]
  omega
def isZero (l : List Int) : Bool := l.all (fun x => x == 0)
theorem zero_snoc (l : List Int) (v : Int) : isZero (l ++ [v]) = (isZero l && (v == 0)) := by simp [isZero]
theorem map_snoc (f : Int → Int) (xs : List Int) {k : Nat} (h : k < xs.length) : (xs.take (k + 1)).map f = (xs.take k).map f ++ [f (rd xs (k : Int))] := by
  have e1 : rd xs (k : Int) = xs[k] := by simp [rd, h]
  rw [e1, List.take_succ_eq_append_getElem h, List.map_append]; rfl
theorem rd_snoc (l : List Int) (v : Int) {k : Nat} (h : l.length = k) : rd (l ++ [v]) (k : Int) = v := by
  subst h; simp [rd]
theorem more_loop (K : Nat) (xs : List Int) (y : Int) (hl : xs.length < 17592186044416) (d : Nat) : ∀ j : Nat, j + d = xs.length → descantlaw18_ShiftMore.l0 (K + d + 1) xs y ((xs.take j).map zm) (isZero ((xs.take j).map zm)) j = descantlaw18_ShiftMore.l0 (K + 1) xs y (xs.map zm) (isZero (xs.map zm)) xs.length := by
  induction d with
  | zero => intro j hj; rw [List.take_of_length_le (by omega), show j = xs.length by omega]
  | succ d ih =>
    intro j hj
    have hj2 : j < xs.length := by omega
    obtain ⟨m, hm⟩ : ∃ m, m = K + d + 1 := ⟨_, rfl⟩
    have ih := ih (j + 1) (by omega)
    rw [show K + (d + 1) + 1 = m + 1 by omega]
    conv => lhs; simp only [descantlaw18_ShiftMore.l0]
    have hz : ((xs.take j).map zm).length = j := by simp; omega
    have hs := map_snoc zm xs hj2
    rw [hs, zero_snoc, ← hm, show ((j + 1 : Nat) : Int) = (j : Int) + 1 by omega] at ih
    rw [if_pos (by omega), if_pos (by omega), if_pos (by omega), Option.bind_some, Num.w64 (n := (j : Int) + 1) (by omega) (by omega), show wrap64 (Go.bits .and .i64 (rd xs (j : Int)) 65535 - 30000) = zm (rd xs (j : Int)) from rfl, rd_snoc _ _ hz]
    cases hb : isZero ((xs.take j).map zm)
    · rw [hb, Bool.false_and] at ih
      rw [if_neg (by decide)]; exact ih
    · rw [hb, Bool.true_and] at ih
      rw [if_pos rfl, if_pos (by simp only [List.length_append, hz, List.length_singleton]; omega)]; with_reducible exact ih
theorem ShiftMore : descantlaw18_ShiftMore.Pure := by
  intro xs y h0 h1 h2 wy
  have hl : xs.length ≤ 17592186043904 := by omega
  refine ⟨(xs.length + 20) + xs.length + 1, ?_⟩
  unfold descantlaw18_ShiftMore.f
  rw [show xs.length + 20 + xs.length + 1 = (xs.length + xs.length + 1) + 20 by omega, awakeSh, Option.bind_some, if_pos rfl]
  obtain ⟨q, hq⟩ : ∃ q, q = xs.length + 20 := ⟨_, rfl⟩
  have lp := more_loop q xs y (by omega) xs.length 0 (by omega)
  rw [List.take_zero, List.map_nil, show ((0 : Nat) : Int) = 0 from rfl, show isZero [] = true from rfl] at lp
  rewrite [show (xs.length + xs.length + 1) + 20 = q + xs.length + 1 by omega]
  refine lp.trans ?_
  simp only [descantlaw18_ShiftMore.l0]
  rw [if_neg (by omega)]
  obtain ⟨zs, hzs⟩ : ∃ zs, zs = xs.map zm := ⟨_, rfl⟩
  have zl : zs.length = xs.length := by rw [hzs, List.length_map]
  have za : allS zs = true := by
    rw [all_iff, hzs]
    intro x hx
    obtain ⟨u, _, rfl⟩ := List.mem_map.1 hx
    have := zm_in u
    omega
  have hy : Go.bits .and .i64 y 65535 = y % 65536 := Num.and_mask y 65535 16 (by omega) (by rfl)
  have zb : allS (zs ++ [y % 65536]) = true := by
    rw [all_iff]
    intro x hx
    rcases List.mem_append.1 hx with h | h
    · exact all_iff.1 za x h
    · rw [List.mem_singleton.1 h]; omega
  rw [← hzs, hy, show q = 19 + zs.length + 1 by omega, wasted_ok zs (by omega) za, Option.bind_some, if_pos (by omega), show 19 + zs.length + 1 = 18 + (zs ++ [y % 65536]).length + 1 by simp; omega, wasted_ok (zs ++ [y % 65536]) (by simp; omega) zb]
  simp only [Option.bind_some, descantlaw0_Num.f, if_true]
  rcases wst_spec zs za with ⟨k1, k2⟩ | ⟨k1, k2, k3, k4⟩
  · have : isZero zs = true := by unfold isZero; rw [List.all_eq_true]; intro x hx; rw [k1 x hx]; rfl
    rw [this, if_pos rfl, if_pos k2]
  · have : isZero zs = false := by
      obtain ⟨x, hx, hx2⟩ := k1
      unfold isZero; rw [List.all_eq_false]; exact ⟨x, hx, by simpa using hx2⟩
    rw [this, if_neg (by decide)]
    congr 1
    rw [decide_eq_true_iff]
    rcases wst_spec (zs ++ [y % 65536]) zb with ⟨m1, m2⟩ | ⟨m1, m2, m3, m4⟩
    · omega
    · obtain ⟨p, hp⟩ := Int.eq_ofNat_of_zero_le m2
      have := (k4 p (by omega)).2 (fun x hx => (m4 p (by omega)).1 (by omega) x (by simp [hx]))
      omega
end Go.Proofs.YtakjcfndinnffaaDoor.Pure
