/- Layer 17: the document's answer (two loops over the channels) is what turn answers. No program in sight. -/
import Derived.Test.YthiknekmgjnkdaaPRefx3
import Derived.Test.YthiknekmgjnkdaaSideTurn
namespace Go.Proofs.Ythiknekmgjnkdaa.PRef
open Go Go.RowKit Go.Proofs.YthiknekmgjnkdaaW.PrintWords Go.Proofs.YthiknekmgjnkdaaW.PrintMore Go.Proofs.YthiknekmgjnkdaaW.PrintLast
set_option linter.unusedVariables false
set_option linter.unusedSimpArgs false
open Go.Proofs.Ythiknekmgjnkdaa.PAll (mayL allS inS)
open Go.Proofs.Ythiknekmgjnkdaa.PSide (turnO chg set_step)
theorem sample_is (x : Int) : descantref13_sampleMay.f x = some (inS x) := by
  unfold descantref13_sampleMay.f descantref13_upTo.f inS
  by_cases h1 : x ≥ -131072
  · rw [if_pos h1, Option.bind_some]
    congr 1
    rw [decide_eq_decide]; omega
  · rw [if_neg h1, Option.bind_some]
    congr 1
    symm; rw [decide_eq_false_iff_not]; omega
theorem row_may (k : Nat) (chs : List (List Int)) (i : Nat) (hi : i < chs.length) (hc : chs.length ≤ 100) (hl : (rd_L1 chs (i : Int)).length ≤ 17592186044416) (d : Nat) : ∀ j : Nat, j + d = (rd_L1 chs (i : Int)).length → descantref13_ChannelsMay.l1 (k + d + 1) chs i j = if allS ((rd_L1 chs (i : Int)).drop j) = true then descantref13_ChannelsMay.l0 k chs ((i + 1 : Nat) : Int) else some false := by
  induction d with
  | zero =>
    intro j hj
    simp only [descantref13_ChannelsMay.l1]
    rw [if_pos (by omega), if_pos (by omega), if_neg (by omega), List.drop_eq_nil_of_le (by omega), if_pos (by rfl), Num.w64 (n := (i : Int) + 1) (by omega) (by omega)]
    rfl
  | succ d ih =>
    intro j hj
    obtain ⟨m, hm⟩ : ∃ m, m = k + d + 1 := ⟨_, rfl⟩
    rw [show k + (d + 1) + 1 = m + 1 by omega]
    simp only [descantref13_ChannelsMay.l1]
    have hjl : j < (rd_L1 chs (i : Int)).length := by omega
    rw [if_pos (by omega), if_pos (by omega), if_pos (by omega), if_pos (by omega), sample_is, Option.bind_some, List.drop_eq_getElem_cons hjl, Num.w64 (n := (j : Int) + 1) (by omega) (by omega), hm]
    have e : rd (rd_L1 chs (i : Int)) (j : Int) = (rd_L1 chs (i : Int))[j] := by simp [rd, hjl]
    have ih := ih (j + 1) (by omega)
    rw [show ((j + 1 : Nat) : Int) = (j : Int) + 1 by omega] at ih
    rw [e, ih]
    show _ = if (inS _ && allS _) = true then _ else _
    cases inS (rd_L1 chs (i : Int))[j] <;> simp
theorem may_one (k : Nat) (x : List Int) (hx : x.length ≤ 17592186044416) : descantref13_ChannelsMay.f (k + x.length + 3) [x] = some (mayL [x]) := by
  unfold descantref13_ChannelsMay.f descantref13_upTo.f
  rw [if_pos (by simp), Option.bind_some, if_pos (by simp), show k + x.length + 3 = (k + 1 + x.length + 1) + 1 by omega]
  simp only [descantref13_ChannelsMay.l0]
  have h := row_may (k + 1) [x] 0 (by simp) (by simp) hx x.length 0 (by simp [rd_L1])
  rw [show ((0 : Nat) : Int) = 0 from rfl] at h
  rw [if_pos (by simp), if_pos (by decide), if_pos (by simp), if_pos trivial, h, show rd_L1 [x] 0 = x from rfl, List.drop_zero]
  simp only [descantref13_ChannelsMay.l0]
  have e : mayL [x] = allS x := by simp [mayL]
  rw [e, if_neg (show ¬ (((0 + 1 : Nat) : Int) < (([x] : List (List Int)).length : Int)) by simp)]
  cases allS x <;> rfl
theorem may_two (k : Nat) (x y : List Int) (hx : x.length ≤ 17592186044416) : descantref13_ChannelsMay.f (k + x.length + x.length + 5) [x, y] = some (mayL [x, y]) := by
  unfold descantref13_ChannelsMay.f descantref13_upTo.f
  rw [if_pos (by simp), Option.bind_some, if_pos (by simp), show k + x.length + x.length + 5 = (k + x.length + 3 + x.length + 1) + 1 by omega]
  simp only [descantref13_ChannelsMay.l0]
  have h := row_may (k + x.length + 3) [x, y] 0 (by simp) (by simp) hx x.length 0 (by simp [rd_L1])
  rw [show ((0 : Nat) : Int) = 0 from rfl] at h
  rw [if_pos (by simp), if_pos (by decide), if_pos (by simp), if_pos trivial, h, show rd_L1 [x, y] 0 = x from rfl, List.drop_zero, show k + x.length + 3 = (k + 1 + x.length + 1) + 1 by omega]
  simp only [descantref13_ChannelsMay.l0]
  rw [if_pos (show ((0 + 1 : Nat) : Int) < (([x, y] : List (List Int)).length : Int) by simp), if_pos (show (0 : Int) ≤ ((0 + 1 : Nat) : Int) by simp), if_pos (show (0 : Int) < (([x, y] : List (List Int)).length : Int) by simp), show rd_L1 [x, y] ((0 + 1 : Nat) : Int) = y from rfl, show rd_L1 [x, y] 0 = x from rfl]
  by_cases hl : y.length = x.length
  · have e : mayL [x, y] = (allS x && allS y) := by simp [mayL, hl]
    have h2 := row_may (k + 1) [x, y] 1 (by simp) (by simp) (by rw [show rd_L1 [x, y] ((1 : Nat) : Int) = y from rfl]; omega) x.length 0 (by rw [show rd_L1 [x, y] ((1 : Nat) : Int) = y from rfl]; omega)
    rw [show rd_L1 [x, y] ((1 : Nat) : Int) = y from rfl, List.drop_zero] at h2
    rw [if_pos (show (y.length : Int) = (x.length : Int) by omega), show ((0 + 1 : Nat) : Int) = ((1 : Nat) : Int) from rfl, show (0 : Int) = ((0 : Nat) : Int) from rfl, h2, e]
    simp only [descantref13_ChannelsMay.l0]
    rw [if_neg (show ¬ (((1 + 1 : Nat) : Int) < (([x, y] : List (List Int)).length : Int)) by simp)]
    cases allS x <;> cases allS y <;> rfl
  · have e : mayL [x, y] = false := by simp [mayL, hl]
    rw [if_neg (show ¬ ((y.length : Int) = (x.length : Int)) by omega), e]
    cases allS x <;> rfl
/-- Channels that may be, or not, told by the document's loop. -/
theorem may_is (chs : List (List Int)) (h2 : ∀ xs ∈ chs, xs.length ≤ 17592186044416) (m : Nat) (hm : ∀ xs ∈ chs, xs.length ≤ m) (k : Nat) : descantref13_ChannelsMay.f (k + m + m + 5) chs = some (mayL chs) := by
  rcases chs with _ | ⟨x, _ | ⟨y, _ | ⟨z, t⟩⟩⟩
  · rfl
  · have := hm x (by simp)
    rw [show k + m + m + 5 = (k + (m - x.length) + m + 2) + x.length + 3 by omega, may_one _ x (h2 x (by simp))]
  · have := hm x (by simp)
    rw [show k + m + m + 5 = (k + (m - x.length) + (m - x.length)) + x.length + x.length + 5 by omega, may_two _ x y (h2 x (by simp))]
  · have e : mayL (x :: y :: z :: t) = false := by simp [mayL]
    have u : descantref13_upTo.f (((x :: y :: z :: t).length : Nat) : Int) 1 2 = some false := by
      unfold descantref13_upTo.f
      have : (((x :: y :: z :: t).length : Nat) : Int) = (t.length : Int) + 3 := by simp; omega
      rw [this, if_pos (by omega), decide_eq_false (by omega)]
    unfold descantref13_ChannelsMay.f
    rw [u, e]; rfl
/-- A sample turned by another one, as the document tells it. -/
def chgR (w : Int) (r a : Int) : Int := wrap64 (r + wrap64 (w * a))
theorem side_all (x0 : List (List Int)) (w : Int) (out : List (List Int)) (h0 : 0 < x0.length) (ho : out.length < 100) (d : Nat) : ∀ (k j : Nat) (cur : List Int), cur.length ≤ (rd_L1 x0 0).length → cur.length ≤ 17592186044416 → j + d = cur.length → descantref13_sided.l1 (k + d + 1) x0 w out 1 cur j = descantref13_sided.l0 k x0 w (out ++ [cur.take j ++ List.zipWith (chgR w) (cur.drop j) ((rd_L1 x0 0).drop j)]) 2 := by
  induction d with
  | zero =>
    intro k j cur hl hb hj
    simp only [descantref13_sided.l1]
    rw [if_neg (by omega), if_pos (by omega)]
    have : j = cur.length := by omega
    subst this
    rw [show wrap64 (1 + 1) = 2 from by decide +kernel]
    simp
  | succ d ih =>
    intro k j cur hl hb hj
    obtain ⟨m, hm⟩ : ∃ m, m = k + d + 1 := ⟨_, rfl⟩
    rw [show k + (d + 1) + 1 = m + 1 by omega]
    simp only [descantref13_sided.l1]
    rw [hm, if_pos (by omega), if_pos trivial, if_pos (by omega), if_pos (by omega), if_pos (by omega), Num.w64 (n := (j : Int) + 1) (by omega) (by omega)]
    have := ih k (j + 1) (cur.set j (chgR w (rd cur j) (rd (rd_L1 x0 0) j))) (by simpa using hl) (by simpa using hb) (by rw [List.length_set]; omega)
    rw [set_step (chgR w) cur (rd_L1 x0 0) j (by omega) (by omega), show ((j + 1 : Nat) : Int) = (j : Int) + 1 by omega] at this
    exact this
theorem first_row (x0 : List (List Int)) (w : Int) (k : Nat) (x : List Int) : descantref13_sided.l1 (k + 1) x0 w [] 0 x 0 = descantref13_sided.l0 k x0 w [x] 1 := by
  simp only [descantref13_sided.l1]
  split
  · rw [if_neg (by decide), if_pos (by simp), show wrap64 (0 + 1) = 1 from by decide +kernel]; rfl
  · rw [if_pos (by simp), show wrap64 (0 + 1) = 1 from by decide +kernel]; rfl
theorem chg_same {w : Int} (hw : w = 1 ∨ w = -1) (r a : Int) : chgR w r a = chg 1 w r a := by
  unfold chgR chg
  rw [Int.one_mul, Num.w64 (n := w) (by omega) (by omega)]
theorem sided_is (chs : List (List Int)) (w : Int) (hw : w = 1 ∨ w = -1) (h2 : ∀ xs ∈ chs, xs.length < 17592186044416) (m : Nat) (hm : ∀ xs ∈ chs, xs.length ≤ m) (k : Nat) : descantref13_sided.f (k + m + m + m + 20) chs w = some (turnO chs w) := by
  have h3 : ∀ xs ∈ chs, xs.length ≤ 17592186044416 := fun xs hx => Nat.le_of_lt (h2 xs hx)
  unfold descantref13_sided.f turnO
  rw [show k + m + m + m + 20 = (k + m + 15) + m + m + 5 by omega, may_is chs h3 m hm, Option.bind_some]
  by_cases hy : mayL chs = true
  · rw [if_pos hy, if_pos hy]
    rcases chs with _ | ⟨x, _ | ⟨y, _ | ⟨z, t⟩⟩⟩
    · exact absurd hy (by decide)
    · have a := h2 x (by simp)
      obtain ⟨q, hq⟩ : ∃ q, q = k + m + 12 := ⟨_, rfl⟩
      rw [show k + m + 15 + m + m + 5 = ((q + 1 + m + m + 5) + 1) + 1 by omega]
      simp only [descantref13_sided.l0]
      rw [if_pos (by simp), Option.bind_some, if_pos (by decide), show rd_L1 [x] 0 = x from rfl, if_pos (by simpa using a), List.nil_append, first_row]
      rw [show q + 1 + m + m + 5 = (q + m + m + 5) + 1 by omega]
      simp only [descantref13_sided.l0]
      rw [if_neg (by simp), may_is [x] h3 m hm, hy]; rfl
    · have a := h2 x (by simp)
      have b := h2 y (by simp)
      have bm := hm y (by simp)
      have al : y.length = x.length := by simp [mayL] at hy; exact hy.2.1
      obtain ⟨q, hq⟩ : ∃ q, q = k + m + (m - y.length) + 10 := ⟨_, rfl⟩
      rw [show k + m + 15 + m + m + 5 = ((((q + m + 5) + 1 + y.length + 1) + 1) + 1) + 1 by omega]
      simp only [descantref13_sided.l0]
      rw [if_pos (by simp), Option.bind_some, if_pos (by decide), show rd_L1 [x, y] 0 = x from rfl, if_pos (by simpa using a), List.nil_append, first_row]
      simp only [descantref13_sided.l0]
      have hs := side_all [x, y] w [x] (by simp) (by simp) y.length ((q + m + 5) + 1) 0 y (by rw [show rd_L1 [x, y] 0 = x from rfl]; omega) (by omega) (by omega)
      rw [show ((0 : Nat) : Int) = 0 from rfl] at hs
      rw [if_pos (by simp), Option.bind_some, if_pos (by decide), show rd_L1 [x, y] 1 = y from rfl, if_pos (by simpa using b), List.nil_append, hs]
      simp only [descantref13_sided.l0]
      rw [show rd_L1 [x, y] 0 = x from rfl, List.take_zero, List.drop_zero, List.drop_zero, List.nil_append, List.singleton_append, if_neg (by simp)]
      have e : List.zipWith (chgR w) y x = List.zipWith (chg 1 w) y x := by congr 1; funext r a; exact chg_same hw r a
      have hz : ∀ xs ∈ [x, List.zipWith (chg 1 w) y x], xs.length ≤ x.length := by
        intro xs hx
        simp at hx
        rcases hx with rfl | rfl
        · omega
        · rw [List.length_zipWith]; omega
      rw [e, show q + m + 5 = (q - x.length + (m - x.length)) + x.length + x.length + 5 by omega, may_is _ (fun xs hx => by have := hz xs hx; omega) x.length hz, Option.bind_some]
      split <;> rfl
    · exact absurd hy (by simp [mayL])
  · rw [if_neg hy, if_neg hy]
theorem refPut_is (chs : List (List Int)) (h2 : ∀ xs ∈ chs, xs.length < 17592186044416) (m : Nat) (hm : ∀ xs ∈ chs, xs.length ≤ m) (k : Nat) : descantref13_PutSide.f (k + m + m + m + 20) chs = some (turnO chs (-1)) := by
  unfold descantref13_PutSide.f; rw [sided_is chs (-1) (.inr rfl) h2 m hm k]; rfl
theorem refGet_is (chs : List (List Int)) (h2 : ∀ xs ∈ chs, xs.length < 17592186044416) (m : Nat) (hm : ∀ xs ∈ chs, xs.length ≤ m) (k : Nat) : descantref13_GetSide.f (k + m + m + m + 20) chs = some (turnO chs 1) := by
  unfold descantref13_GetSide.f; rw [sided_is chs 1 (.inl rfl) h2 m hm k]; rfl
theorem copy_loop (chs : List (List Int)) (hc : chs.length < 5864062014805) (h2 : ∀ xs ∈ chs, xs.length < 17592186044416) (k : Nat) (d : Nat) : ∀ j : Nat, j + d = chs.length → descantlaw0_CopyLists.l0 (k + d + 1) chs (chs.take j) j = some chs := by
  induction d with
  | zero =>
    intro j hj
    simp only [descantlaw0_CopyLists.l0]
    rw [if_neg (by omega), List.take_of_length_le (by omega)]
  | succ d ih =>
    intro j hj
    obtain ⟨m, hm⟩ : ∃ m, m = k + d + 1 := ⟨_, rfl⟩
    have hj2 : j < chs.length := by omega
    have hr : rd_L1 chs (j : Int) = chs[j] := by simp [rd_L1, hj2]
    rw [show k + (d + 1) + 1 = m + 1 by omega]
    simp only [descantlaw0_CopyLists.l0]
    rw [hr, if_pos (by omega), Option.bind_some, if_pos (by omega), if_pos (by simpa using h2 _ (List.getElem_mem hj2)), if_pos (by rw [List.length_take]; omega), List.nil_append, Num.w64 (n := (j : Int) + 1) (by omega) (by omega), hm]
    have := ih (j + 1) (by omega)
    rw [List.take_succ_eq_append_getElem hj2, show ((j + 1 : Nat) : Int) = (j : Int) + 1 by omega] at this
    exact this
theorem copy_is (chs : List (List Int)) (hc : chs.length < 5864062014805) (h2 : ∀ xs ∈ chs, xs.length < 17592186044416) : descantlaw0_CopyLists.f (chs.length + 1) chs = some chs := by
  unfold descantlaw0_CopyLists.f
  have := copy_loop chs hc h2 0 chs.length 0 (by omega)
  rw [Nat.zero_add, List.take_zero] at this
  exact this
end Go.Proofs.Ythiknekmgjnkdaa.PRef
