/- Layer 17: what side.turn answers for one channel and for two; two lists that are one are the same: all by the printed functions. -/
import Derived.Test.YthiknekmgjnkdaaPSidex4
import Derived.Test.YthiknekmgjnkdaaPSidex3
import Derived.Test.YthiknekmgjnkdaaPSidex3
import Derived.Test.YthiknekmgjnkdaaNum
namespace Go.Proofs.Ythiknekmgjnkdaa.PSide
open Go Go.RowKit Go.Proofs.YthiknekmgjnkdaaW.PrintWords Go.Proofs.YthiknekmgjnkdaaW.PrintMore Go.Proofs.YthiknekmgjnkdaaW.PrintLast
set_option linter.unusedVariables false
set_option linter.unusedSimpArgs false
open Go.Proofs.Ythiknekmgjnkdaa.PAll (mayL allS inS)

/-- A sample turned by another one. -/
def chg (kk w : Int) (r a : Int) : Int := wrap64 (r + wrap64 (wrap64 (kk * w) * a))
theorem set_step (f : Int → Int → Int) (cur a : List Int) (j : Nat) (h1 : j < cur.length) (h2 : j < a.length) : (cur.set j (f (rd cur j) (rd a j))).take (j + 1) ++ List.zipWith f ((cur.set j (f (rd cur j) (rd a j))).drop (j + 1)) (a.drop (j + 1)) = cur.take j ++ List.zipWith f (cur.drop j) (a.drop j) := by
  have e1 : rd cur (j : Int) = cur[j] := by simp [rd, h1]
  have e2 : rd a (j : Int) = a[j] := by simp [rd, h2]
  rw [e1, e2, List.drop_eq_getElem_cons h1, List.drop_eq_getElem_cons h2, List.zipWith_cons_cons, List.drop_set_of_lt (by omega), List.take_set, List.take_succ_eq_append_getElem h1, List.set_append_right _ _ (by rw [List.length_take]; omega)]
  simp [Nat.min_eq_left (Nat.le_of_lt h1)]
theorem l1_all (x0 : List (List Int)) (w kk : Int) (out : List (List Int)) (rows : List (List Int)) (n i : Int) (h0 : 0 < x0.length) (ho : out.length < 100) (d : Nat) : ∀ (k j : Nat) (cur : List Int), cur.length ≤ (rd_L1 x0 0).length → cur.length ≤ 17592186044416 → j + d = cur.length → side_turn.l1 (k + d + 1) x0 w out kk cur rows n i cur.length j = side_turn.l0 k x0 w (out ++ [cur.take j ++ List.zipWith (chg kk w) (cur.drop j) ((rd_L1 x0 0).drop j)]) rows n (wrap64 (i + 1)) := by
  induction d with
  | zero =>
    intro k j cur hl hb hj
    simp only [side_turn.l1]
    rw [if_neg (by omega), if_pos (by omega)]
    have : j = cur.length := by omega
    subst this
    simp
  | succ d ih =>
    intro k j cur hl hb hj
    obtain ⟨m, hm⟩ : ∃ m, m = k + d + 1 := ⟨_, rfl⟩
    rw [show k + (d + 1) + 1 = m + 1 by omega]
    simp only [side_turn.l1]
    rw [hm, if_pos (by omega), if_pos (by omega), if_pos (by omega), if_pos (by omega), if_pos (by omega), Num.w64 (n := (j : Int) + 1) (by omega) (by omega)]
    have := ih k (j + 1) (cur.set j (chg kk w (rd cur j) (rd (rd_L1 x0 0) j))) (by simpa using hl) (by simpa using hb) (by rw [List.length_set]; omega)
    rw [List.length_set, set_step (chg kk w) cur (rd_L1 x0 0) j (by omega) (by omega), show ((j + 1 : Nat) : Int) = (j : Int) + 1 by omega] at this
    exact this
theorem chg_zero {w r a : Int} (h : inS r = true) : chg 0 w r a = r := by
  have h := of_decide_eq_true h
  unfold chg
  rw [Int.zero_mul, Num.w64 (n := 0) (by omega) (by omega), Int.zero_mul, Num.w64 (n := 0) (by omega) (by omega), Int.add_zero, Num.w64 (by omega) (by omega)]
theorem zip_zero {w : Int} : ∀ (x : List Int), allS x = true → List.zipWith (chg 0 w) x x = x
  | [], _ => rfl
  | r :: x, h => by
    have h2 : inS r = true ∧ allS x = true := by simpa [allS] using h
    rw [List.zipWith_cons_cons, chg_zero h2.1, zip_zero x h2.2]
theorem zip_zero2 {w : Int} : ∀ (x a : List Int), allS x = true → x.length = a.length → List.zipWith (chg 0 w) x a = x
  | [], _, _, _ => rfl
  | r :: x, [], _, h => by simp at h
  | r :: x, b :: a, h, hl => by
    have h2 : inS r = true ∧ allS x = true := by simpa [allS] using h
    rw [List.zipWith_cons_cons, chg_zero h2.1, zip_zero2 x a h2.2 (by simpa using hl)]
theorem may_ok {chs : List (List Int)} (h1 : chs.length ≤ 17592186044416) (h2 : ∀ xs ∈ chs, xs.length ≤ 17592186044416) : side_May.f chs = some (mayL chs) := by
  unfold side_May.f
  rw [if_pos ⟨by omega, List.all_eq_true.2 (fun xs hx => decide_eq_true (h2 xs hx))⟩]
theorem clone_ok {x : List Int} (h : x.length ≤ 17592186044416) : slices_Clone_int_int.f x = some x := by
  unfold slices_Clone_int_int.f; rw [if_pos h]
theorem turn_no {chs : List (List Int)} (k : Nat) (w : Int) (h1 : chs.length ≤ 17592186044416) (h2 : ∀ xs ∈ chs, xs.length ≤ 17592186044416) (h : mayL chs = false) : side_turn.f k chs w = some ([], 1700) := by
  unfold side_turn.f; rw [may_ok h1 h2, h]; rfl
/-- What turn answers. -/
def turnO (chs : List (List Int)) (w : Int) : List (List Int) × Int :=
  if mayL chs = true then
    match chs with
    | [x, y] => if mayL [x, List.zipWith (chg 1 w) y x] = true then ([x, List.zipWith (chg 1 w) y x], 0) else ([], 1700)
    | _ => (chs, 0)
  else ([], 1700)
theorem turn_one (x : List Int) (w : Int) (hm : mayL [x] = true) (hb : x.length ≤ 17592186044416) (k : Nat) : side_turn.f (k + x.length + 8) [x] w = some ([x], 0) := by
  have ha : allS x = true := by simpa [mayL] using hm
  have hk := may_ok (chs := [x]) (by simp) (by simpa using hb)
  unfold side_turn.f
  rw [hk, hm, Option.bind_some, if_pos rfl, show k + x.length + 8 = (k + x.length + 7) + 1 by omega]
  simp only [side_turn.l0]
  rw [if_pos (by simp), if_pos (by decide), if_pos (by simp), show rd_L1 [x] 0 = x from rfl, clone_ok hb, Option.bind_some]
  have h := l1_all [x] w 0 [] [x] (([x] : List (List Int)).length : Int) 0 (by simp) (by simp) x.length (k + 6) 0 x (by rw [show rd_L1 [x] 0 = x from rfl]; omega) hb (by omega)
  rw [show k + 6 + x.length + 1 = k + x.length + 7 by omega] at h
  rw [show ((0 : Nat) : Int) = 0 from rfl] at h
  rw [h]
  rw [show rd_L1 [x] 0 = x from rfl, List.take_zero, List.drop_zero, List.nil_append, zip_zero x ha, show wrap64 (0 + 1) = 1 from by decide +kernel, List.nil_append, show k + 6 = (k + 5) + 1 by omega]
  simp only [side_turn.l0]
  rw [if_neg (by simp), hk, hm, Option.bind_some, if_pos rfl]
theorem turn_two (x y : List Int) (w : Int) (hm : mayL [x, y] = true) (hb : x.length ≤ 17592186044416) (k : Nat) : side_turn.f (k + x.length + x.length + 12) [x, y] w = some (if mayL [x, List.zipWith (chg 1 w) y x] = true then ([x, List.zipWith (chg 1 w) y x], 0) else ([], 1700)) := by
  have ha : (allS x = true ∧ y.length = x.length) ∧ allS y = true := by
    simp [mayL] at hm
    exact ⟨⟨hm.1, hm.2.1⟩, hm.2.2⟩
  obtain ⟨⟨a1, a2⟩, a3⟩ := ha
  have hk := may_ok (chs := [x, y]) (by simp) (by intro z hz; simp at hz; rcases hz with rfl | rfl <;> omega)
  have hk2 := may_ok (chs := [x, List.zipWith (chg 1 w) y x]) (by simp) (by intro z hz; simp at hz; rcases hz with rfl | rfl <;> (try rw [List.length_zipWith]) <;> omega)
  unfold side_turn.f
  rw [hk, hm, Option.bind_some, if_pos rfl, show k + x.length + x.length + 12 = (k + x.length + x.length + 11) + 1 by omega]
  simp only [side_turn.l0]
  rw [if_pos (by simp), if_pos (by decide), if_pos (by simp), show rd_L1 [x, y] 0 = x from rfl, clone_ok hb, Option.bind_some]
  have h := l1_all [x, y] w 0 [] [x, y] (([x, y] : List (List Int)).length : Int) 0 (by simp) (by simp) x.length (k + x.length + 10) 0 x (by rw [show rd_L1 [x, y] 0 = x from rfl]; omega) hb (by omega)
  rw [show k + x.length + 10 + x.length + 1 = k + x.length + x.length + 11 by omega] at h
  rw [show ((0 : Nat) : Int) = 0 from rfl] at h
  rw [h]
  rw [show rd_L1 [x, y] 0 = x from rfl, List.take_zero, List.drop_zero, List.nil_append, zip_zero x a1, show wrap64 (0 + 1) = 1 from by decide +kernel, List.nil_append, show k + x.length + 10 = (k + x.length + 9) + 1 by omega]
  simp only [side_turn.l0]
  rw [if_pos (by simp), if_pos (by decide), if_pos (by simp), show rd_L1 [x, y] 1 = y from rfl, clone_ok (by omega), Option.bind_some]
  have h2 := l1_all [x, y] w 1 [x] [x, y] (([x, y] : List (List Int)).length : Int) 1 (by simp) (by simp) y.length (k + 8) 0 y (by rw [show rd_L1 [x, y] 0 = x from rfl]; omega) (by omega) (by omega)
  rw [show k + 8 + y.length + 1 = k + x.length + 9 by omega] at h2
  rw [show ((0 : Nat) : Int) = 0 from rfl] at h2
  rw [h2]
  rw [show rd_L1 [x, y] 0 = x from rfl, List.take_zero, List.drop_zero, List.nil_append, List.drop_zero, show wrap64 (1 + 1) = 2 from by decide +kernel, show k + 8 = (k + 7) + 1 by omega]
  simp only [side_turn.l0]
  rw [if_neg (by simp), List.singleton_append, hk2, Option.bind_some]
  split <;> rfl
theorem turn_is (chs : List (List Int)) (w : Int) (h1 : chs.length ≤ 17592186044416) (h2 : ∀ xs ∈ chs, xs.length ≤ 17592186044416) (m : Nat) (hm : ∀ xs ∈ chs, xs.length ≤ m) (k : Nat) : side_turn.f (k + m + m + 12) chs w = some (turnO chs w) := by
  unfold turnO
  by_cases hy : mayL chs = true
  · rw [if_pos hy]
    rcases chs with _ | ⟨x, _ | ⟨y, _ | ⟨z, t⟩⟩⟩
    · exact absurd hy (by decide)
    · have := hm x (by simp)
      rw [show k + m + m + 12 = (k + (m - x.length) + m + 4) + x.length + 8 by omega, turn_one x w hy (h2 x (by simp))]
    · have := hm x (by simp)
      rw [show k + m + m + 12 = (k + (m - x.length) + (m - x.length)) + x.length + x.length + 12 by omega, turn_two x y w hy (h2 x (by simp))]
    · exact absurd hy (by simp [mayL])
  · rw [if_neg hy, turn_no _ w h1 h2 (Bool.eq_false_iff.2 hy)]
theorem put_is (chs : List (List Int)) (h1 : chs.length ≤ 17592186044416) (h2 : ∀ xs ∈ chs, xs.length ≤ 17592186044416) (m : Nat) (hm : ∀ xs ∈ chs, xs.length ≤ m) (k : Nat) : side_Put.f (k + m + m + 12) chs = some (turnO chs (-1)) := by
  unfold side_Put.f; rw [turn_is chs (-1) h1 h2 m hm k]; rfl
theorem get_is (chs : List (List Int)) (h1 : chs.length ≤ 17592186044416) (h2 : ∀ xs ∈ chs, xs.length ≤ 17592186044416) (m : Nat) (hm : ∀ xs ∈ chs, xs.length ≤ m) (k : Nat) : side_Get.f (k + m + m + 12) chs = some (turnO chs 1) := by
  unfold side_Get.f; rw [turn_is chs 1 h1 h2 m hm k]; rfl
theorem same_loopS (k : Nat) (l : List Int) (hl : l.length ≤ 17592186044416) (d : Nat) : ∀ i : Nat, i + d = l.length → descantlaw0_SameInts.l0 (k + d + 1) l l i = some true := by
  induction d with
  | zero =>
    intro i hi
    simp only [descantlaw0_SameInts.l0]
    rw [if_neg (by omega)]
  | succ d ih =>
    intro i hi
    obtain ⟨m, hm⟩ : ∃ m, m = k + d + 1 := ⟨_, rfl⟩
    rw [show k + (d + 1) + 1 = m + 1 by omega]
    simp only [descantlaw0_SameInts.l0]
    rw [hm, if_pos (by omega), if_pos (by omega), if_pos (by omega), if_pos trivial, Num.w64 (n := (i : Int) + 1) (by omega) (by omega)]
    have := ih (i + 1) (by omega)
    rw [show ((i + 1 : Nat) : Int) = (i : Int) + 1 by omega] at this
    exact this
theorem same_selfS (l : List Int) (hl : l.length ≤ 17592186044416) (k : Nat) (hk : l.length < k) : descantlaw0_SameInts.f k l l = some true := by
  unfold descantlaw0_SameInts.f
  rw [if_pos rfl, show k = (k - 1 - l.length) + l.length + 1 by omega]
  exact same_loopS _ l hl l.length 0 (by omega)
theorem same_loopL (k : Nat) (l : List (List Int)) (hl : l.length ≤ 17592186044416) (hs : ∀ r ∈ l, r.length ≤ 17592186044416 ∧ r.length < k) (d : Nat) : ∀ i : Nat, i + d = l.length → descantlaw0_SameLists.l0 (k + d + 1) l l i = some true := by
  induction d with
  | zero =>
    intro i hi
    simp only [descantlaw0_SameLists.l0]
    rw [if_neg (by omega)]
  | succ d ih =>
    intro i hi
    obtain ⟨m, hm⟩ : ∃ m, m = k + d + 1 := ⟨_, rfl⟩
    have hr : rd_L1 l (i : Int) ∈ l := by
      have : i < l.length := by omega
      simp [rd_L1, this]
    rw [show k + (d + 1) + 1 = m + 1 by omega]
    simp only [descantlaw0_SameLists.l0]
    rw [if_pos (by omega), if_pos (by omega), if_pos (by omega), same_selfS _ (hs _ hr).1 m (by have := (hs _ hr).2; omega), Option.bind_some, if_pos rfl, hm, Num.w64 (n := (i : Int) + 1) (by omega) (by omega)]
    have := ih (i + 1) (by omega)
    rw [show ((i + 1 : Nat) : Int) = (i : Int) + 1 by omega] at this
    exact this
theorem same_lists (l : List (List Int)) (hl : l.length ≤ 17592186044416) (m : Nat) (hs : ∀ r ∈ l, r.length ≤ 17592186044416 ∧ r.length ≤ m) : descantlaw0_SameLists.f (m + l.length + 2) l l = some true := by
  unfold descantlaw0_SameLists.f
  rw [if_pos rfl, show m + l.length + 2 = (m + 1) + l.length + 1 by omega]
  exact same_loopL _ l hl (fun r hr => ⟨(hs r hr).1, by have := (hs r hr).2; omega⟩) l.length 0 (by omega)
theorem awakeS : descantlaw17_awake.f 60 = some true := by decide +kernel
end Go.Proofs.Ythiknekmgjnkdaa.PSide
