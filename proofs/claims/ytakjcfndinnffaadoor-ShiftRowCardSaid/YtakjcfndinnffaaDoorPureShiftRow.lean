/- 'ShiftRow' of chapter 18: samples in another row, and their opposites, waste the same bits. No condition. -/
import Derived.Test.YtakjcfndinnffaaDoorPShiftx6
import Derived.Test.YtakjcfndinnffaaDoorShiftPure
namespace Go.Proofs.YtakjcfndinnffaaDoor.Pure
open Go.RowKit Go.Proofs.YtakjcfndinnffaaDoor.PShift Go.Proofs.YtakjcfndinnffaaDoorW.PrintWords Go.Proofs.YtakjcfndinnffaaDoorW.PrintLast
set_option linter.unusedVariables false
set_option linter.unusedSimpArgs false
open Go.Proofs.YtakjcfndinnffaaDoor.PSh (allS inS mayS downF)
def v4 (x : Int) : Int := wrap64 (Go.bits .and .i64 x 4095 * 4)
theorem v4_in (x : Int) : 0 ≤ v4 x ∧ v4 x ≤ 16380 := by
  have h : Go.bits .and .i64 x 4095 = x % 4096 := Num.and_mask x 4095 12 (by omega) (by rfl)
  unfold v4
  rw [h, Num.w64 (by omega) (by omega)]
  omega
def n4 (x : Int) : Int := wrap64 (-(v4 x))
theorem n4_is (x : Int) : n4 x = -v4 x := by
  have := v4_in x
  unfold n4
  rw [Num.w64 (by omega) (by omega)]
theorem row_loop (K : Nat) (xs : List Int) (a : Int) (hl : xs.length < 17592186044416) (d : Nat) : ∀ j : Nat, j + d = xs.length → descantlaw18_ShiftRow.l0 (K + d + 1) xs a ((xs.take j).map v4) ((xs.take j).map n4) j = descantlaw18_ShiftRow.l1 K a (xs.map v4) (xs.map n4) [] 0 := by
  induction d with
  | zero =>
    intro j hj
    simp only [descantlaw18_ShiftRow.l0]
    rw [if_neg (by omega), List.take_of_length_le (by omega)]
  | succ d ih =>
    intro j hj
    have hj2 : j < xs.length := by omega
    obtain ⟨q, hq⟩ : ∃ q, q = K + d + 1 := ⟨_, rfl⟩
    have ih := ih (j + 1) (by omega)
    rw [show K + (d + 1) + 1 = q + 1 by omega]
    conv => lhs; simp only [descantlaw18_ShiftRow.l0]
    have e1 : rd xs (j : Int) = xs[j] := by simp [rd, hj2]
    have hs : ∀ f : Int → Int, (xs.take (j + 1)).map f = (xs.take j).map f ++ [f (rd xs (j : Int))] := fun f => by
      rw [e1, List.take_succ_eq_append_getElem hj2, List.map_append]; rfl
    rw [hs, hs, ← hq, show ((j + 1 : Nat) : Int) = (j : Int) + 1 by omega] at ih
    rw [if_pos (by omega), if_pos (by omega), if_pos (by simp; omega), if_pos (by simp; omega), Num.w64 (n := (j : Int) + 1) (by omega) (by omega)]
    exact ih
/-- The row that begins somewhere else. -/
def rot (ys : List Int) (a : Nat) (j : Nat) : Int := rd ys (((j + a) % ys.length : Nat) : Int)
theorem rot_loop (K : Nat) (ys zs : List Int) (at_ : Int) (a : Nat) (hl : ys.length < 17592186044416) (ha : 0 < ys.length → wrap64 (Int.tmod (IntKind.u64.wrap at_) (ys.length : Int)) = (a : Int)) (hal : a < ys.length ∨ ys.length = 0) (d : Nat) : ∀ j : Nat, j + d = ys.length → descantlaw18_ShiftRow.l1 (K + d + 1) at_ ys zs ((List.range j).map (rot ys a)) j = descantlaw18_ShiftRow.l1 (K + 1) at_ ys zs ((List.range ys.length).map (rot ys a)) ys.length := by
  induction d with
  | zero => intro j hj; rw [show j = ys.length by omega]
  | succ d ih =>
    intro j hj
    obtain ⟨q, hq⟩ : ∃ q, q = K + d + 1 := ⟨_, rfl⟩
    have ih := ih (j + 1) (by omega)
    rw [show K + (d + 1) + 1 = q + 1 by omega]
    conv => lhs; simp only [descantlaw18_ShiftRow.l1]
    have hw : IntKind.u64.wrap (ys.length : Int) = (ys.length : Int) := by rw [IntKind.wrap_u64]; omega
    have hm : Int.tmod ((j : Int) + a) (ys.length : Int) = (((j + a) % ys.length : Nat) : Int) := by
      rw [Int.tmod_eq_emod_of_nonneg (by omega)]; norm_cast
    have hlt := Nat.mod_lt (j + a) (show ys.length > 0 by omega)
    rw [List.range_succ, List.map_append, ← hq, show ((j + 1 : Nat) : Int) = (j : Int) + 1 by omega] at ih
    rw [if_pos (by omega), hw, ha (by omega), if_neg (by omega), if_neg (by omega), Num.w64 (n := (j : Int) + a) (by omega) (by omega), hm, if_pos (by omega), if_pos (by omega), if_pos (by simp; omega), Num.w64 (n := (j : Int) + 1) (by omega) (by omega)]
    exact ih
theorem rot_mem {ys : List Int} {a : Nat} (ha : a < ys.length) (y : Int) : y ∈ (List.range ys.length).map (rot ys a) ↔ y ∈ ys := by
  constructor
  · intro h
    obtain ⟨j, hj, rfl⟩ := List.mem_map.1 h
    have hlt := Nat.mod_lt (j + a) (show ys.length > 0 by omega)
    have e1 : rot ys a j = ys[(j + a) % ys.length] := by unfold rot rd; rw [Int.toNat_natCast, List.getD_eq_getElem?_getD, List.getElem?_eq_getElem hlt]; rfl
    rw [e1]
    exact List.getElem_mem hlt
  · intro h
    obtain ⟨j, hj, rfl⟩ := List.getElem_of_mem h
    refine List.mem_map.2 ⟨(j + (ys.length - a)) % ys.length, List.mem_range.2 (Nat.mod_lt _ (by omega)), ?_⟩
    have e : ((j + (ys.length - a)) % ys.length + a) % ys.length = j := by
      rw [Nat.mod_add_mod, show j + (ys.length - a) + a = j + ys.length by omega, Nat.add_mod_right, Nat.mod_eq_of_lt hj]
    unfold rot
    rw [e]
    simp [rd, hj]
theorem ShiftRow : descantlaw18_ShiftRow.Pure := by
  intro xs at_ h0 h1 h2 wa
  have hl : xs.length ≤ 17592186043904 := by omega
  obtain ⟨q, hq⟩ : ∃ q, q = xs.length + 20 := ⟨_, rfl⟩
  obtain ⟨p, hp⟩ : ∃ p, p = q + xs.length := ⟨_, rfl⟩
  refine ⟨(p + 1) + xs.length + 1, ?_⟩
  unfold descantlaw18_ShiftRow.f
  rw [show (p + 1) + xs.length + 1 = (xs.length + xs.length + xs.length + 2) + 20 by omega, awakeSh, Option.bind_some, if_pos rfl]
  have lp := row_loop (p + 1) xs at_ (by omega) xs.length 0 (by omega)
  rw [List.take_zero, List.map_nil, List.map_nil, show ((0 : Nat) : Int) = 0 from rfl] at lp
  rewrite [show (xs.length + xs.length + xs.length + 2) + 20 = (p + 1) + xs.length + 1 by omega]
  refine lp.trans ?_
  obtain ⟨ys, hys⟩ : ∃ ys, ys = xs.map v4 := ⟨_, rfl⟩
  obtain ⟨zs, hzs⟩ : ∃ zs, zs = xs.map n4 := ⟨_, rfl⟩
  have yl : ys.length = xs.length := by rw [hys, List.length_map]
  have zl : zs.length = xs.length := by rw [hzs, List.length_map]
  have hb : 0 ≤ IntKind.u64.wrap at_ := (u64_range at_).1
  have hbu := (u64_range at_).2
  obtain ⟨a, ha, hal⟩ : ∃ a : Nat, (0 < ys.length → wrap64 (Int.tmod (IntKind.u64.wrap at_) (ys.length : Int)) = (a : Int)) ∧ (a < ys.length ∨ ys.length = 0) := by
    by_cases c : ys.length = 0
    · exact ⟨0, fun h => by omega, .inr c⟩
    · have e1 := Int.emod_nonneg (IntKind.u64.wrap at_) (show (ys.length : Int) ≠ 0 by omega)
      have e2 := Int.emod_lt_of_pos (IntKind.u64.wrap at_) (show (0 : Int) < ys.length by omega)
      refine ⟨(IntKind.u64.wrap at_ % (ys.length : Int)).toNat, fun _ => ?_, .inl (by omega)⟩
      rw [Int.tmod_eq_emod_of_nonneg hb, Num.w64 (by omega) (by omega)]
      omega
  have lq := rot_loop q ys zs at_ a (by omega) ha hal ys.length 0 (by omega)
  rw [List.range_zero, List.map_nil, show ((0 : Nat) : Int) = 0 from rfl] at lq
  rewrite [← hys, ← hzs, show p + 1 = q + ys.length + 1 by omega]
  refine lq.trans ?_
  simp only [descantlaw18_ShiftRow.l1]
  rw [if_neg (by omega)]
  obtain ⟨ws, hws⟩ : ∃ ws, ws = (List.range ys.length).map (rot ys a) := ⟨_, rfl⟩
  have wl : ws.length = ys.length := by rw [hws]; simp
  have ya : allS ys = true := by
    rw [all_iff, hys]
    intro x hx
    obtain ⟨u, _, rfl⟩ := List.mem_map.1 hx
    have := v4_in u
    omega
  have za : allS zs = true := by
    rw [all_iff, hzs]
    intro x hx
    obtain ⟨u, _, rfl⟩ := List.mem_map.1 hx
    have := v4_in u
    rw [n4_is]
    omega
  have hmem : ∀ y, y ∈ ws ↔ y ∈ ys := fun y => by
    rcases hal with h | h
    · rw [hws]; exact rot_mem h y
    · rw [List.length_eq_zero_iff.1 (show ws.length = 0 by omega), List.length_eq_zero_iff.1 h]
  have wa2 : allS ws = true := by
    rw [all_iff]
    intro x hx
    exact all_iff.1 ya x ((hmem x).1 hx)
  have e1 : wst ys = wst zs := by
    refine wst_eq ya za ?_ ?_
    · constructor
      · rintro ⟨x, hx, hx2⟩
        rw [hys] at hx
        obtain ⟨u, hu, rfl⟩ := List.mem_map.1 hx
        exact ⟨n4 u, by rw [hzs]; exact List.mem_map.2 ⟨u, hu, rfl⟩, by rw [n4_is]; omega⟩
      · rintro ⟨x, hx, hx2⟩
        rw [hzs] at hx
        obtain ⟨u, hu, rfl⟩ := List.mem_map.1 hx
        rw [n4_is] at hx2
        exact ⟨v4 u, by rw [hys]; exact List.mem_map.2 ⟨u, hu, rfl⟩, by omega⟩
    · intro n hn
      rw [hys, hzs]
      constructor
      · intro h x hx
        obtain ⟨u, hu, rfl⟩ := List.mem_map.1 hx
        have := h (v4 u) (List.mem_map.2 ⟨u, hu, rfl⟩)
        rw [n4_is]
        exact Int.dvd_neg.2 this
      · intro h x hx
        obtain ⟨u, hu, rfl⟩ := List.mem_map.1 hx
        have := h (n4 u) (List.mem_map.2 ⟨u, hu, rfl⟩)
        rw [n4_is] at this
        exact Int.dvd_neg.1 this
  have e2 : wst ys = wst ws := by
    refine wst_eq ya wa2 ?_ ?_
    · constructor
      · rintro ⟨x, hx, hx2⟩; exact ⟨x, (hmem x).2 hx, hx2⟩
      · rintro ⟨x, hx, hx2⟩; exact ⟨x, (hmem x).1 hx, hx2⟩
    · intro n hn
      constructor
      · intro h x hx; exact h x ((hmem x).1 hx)
      · intro h x hx; exact h x ((hmem x).2 hx)
  rw [← hws, show q = 19 + ys.length + 1 by omega, wasted_ok ys (by omega) ya, Option.bind_some, show 19 + ys.length + 1 = 19 + zs.length + 1 by omega, wasted_ok zs (by omega) za, Option.bind_some, show 19 + zs.length + 1 = 19 + ws.length + 1 by omega, wasted_ok ws (by omega) wa2]
  simp only [Option.bind_some, descantlaw0_Num.f, if_true]
  rw [if_pos e1, e2]
  simp
end Go.Proofs.YtakjcfndinnffaaDoor.Pure
