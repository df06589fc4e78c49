/- Layer 19: what both Puts and both Gets come to, and that samples' bytes are the bytes. No program in sight. -/
import Derived.Test.YthiknekmgjnkdaaPcmJoin
import Derived.Test.YthiknekmgjnkdaaPAllx6
import Derived.Test.YthiknekmgjnkdaaPRpx2
import Derived.Test.YthiknekmgjnkdaaPRpx4
import Derived.Test.YthiknekmgjnkdaaPRpx5
import Derived.Test.YthiknekmgjnkdaaSide
namespace Go.Proofs.Ythiknekmgjnkdaa.PRp
open Go Go.RowKit Go.Proofs.YthiknekmgjnkdaaW.PrintWords Go.Proofs.YthiknekmgjnkdaaW.PrintMore Go.Proofs.YthiknekmgjnkdaaW.PrintLast
set_option linter.unusedVariables false
set_option linter.unusedSimpArgs false
open Go.Proofs.Ythiknekmgjnkdaa.PAll (mayL allS inS)
theorem sample_is (x : Int) : descantref13_sampleMay.f x = some (inS x) := by
  unfold descantref13_sampleMay.f descantref13_upTo.f inS
  by_cases h1 : x ≥ -131072
  · rw [if_pos h1, Option.bind_some]
    congr 1
    rw [decide_eq_decide]; omega
  · rw [if_neg h1, Option.bind_some]
    congr 1
    symm; rw [decide_eq_false_iff_not]; omega
theorem row_may (k : Nat) (chs : List (List Int)) (i : Nat) (hi : i < chs.length) (hc : chs.length ≤ 100) (hl : (rd_L1 chs (i : Int)).length ≤ 17592186044416) (d : Nat) : ∀ j : Nat, j + d = (rd_L1 chs (i : Int)).length → descantref13_ChannelsMay.l1 (k + d + 1) chs i j = if allS ((rd_L1 chs (i : Int)).drop j) = true then descantref13_ChannelsMay.l0 k chs ((i + 1 : Nat) : Int) else some false := by
  induction d with
  | zero =>
    intro j hj
    simp only [descantref13_ChannelsMay.l1]
    rw [if_pos (by omega), if_pos (by omega), if_neg (by omega), List.drop_eq_nil_of_le (by omega), if_pos (by rfl), Num.w64 (n := (i : Int) + 1) (by omega) (by omega)]
    rfl
  | succ d ih =>
    intro j hj
    obtain ⟨m, hm⟩ : ∃ m, m = k + d + 1 := ⟨_, rfl⟩
    rw [show k + (d + 1) + 1 = m + 1 by omega]
    simp only [descantref13_ChannelsMay.l1]
    have hjl : j < (rd_L1 chs (i : Int)).length := by omega
    rw [if_pos (by omega), if_pos (by omega), if_pos (by omega), if_pos (by omega), sample_is, Option.bind_some, List.drop_eq_getElem_cons hjl, Num.w64 (n := (j : Int) + 1) (by omega) (by omega), hm]
    have e : rd (rd_L1 chs (i : Int)) (j : Int) = (rd_L1 chs (i : Int))[j] := by simp [rd, hjl]
    have ih := ih (j + 1) (by omega)
    rw [show ((j + 1 : Nat) : Int) = (j : Int) + 1 by omega] at ih
    rw [e, ih]
    show _ = if (inS _ && allS _) = true then _ else _
    cases inS (rd_L1 chs (i : Int))[j] <;> simp
theorem may_one (k : Nat) (x : List Int) (hx : x.length ≤ 17592186044416) : descantref13_ChannelsMay.f (k + x.length + 3) [x] = some (mayL [x]) := by
  unfold descantref13_ChannelsMay.f descantref13_upTo.f
  rw [if_pos (by simp), Option.bind_some, if_pos (by simp), show k + x.length + 3 = (k + 1 + x.length + 1) + 1 by omega]
  simp only [descantref13_ChannelsMay.l0]
  have h := row_may (k + 1) [x] 0 (by simp) (by simp) hx x.length 0 (by simp [rd_L1])
  rw [show ((0 : Nat) : Int) = 0 from rfl] at h
  rw [if_pos (by simp), if_pos (by decide), if_pos (by simp), if_pos trivial, h, show rd_L1 [x] 0 = x from rfl, List.drop_zero]
  simp only [descantref13_ChannelsMay.l0]
  have e : mayL [x] = allS x := by simp [mayL]
  rw [e, if_neg (show ¬ (((0 + 1 : Nat) : Int) < (([x] : List (List Int)).length : Int)) by simp)]
  cases allS x <;> rfl
theorem may_two (k : Nat) (x y : List Int) (hx : x.length ≤ 17592186044416) : descantref13_ChannelsMay.f (k + x.length + x.length + 5) [x, y] = some (mayL [x, y]) := by
  unfold descantref13_ChannelsMay.f descantref13_upTo.f
  rw [if_pos (by simp), Option.bind_some, if_pos (by simp), show k + x.length + x.length + 5 = (k + x.length + 3 + x.length + 1) + 1 by omega]
  simp only [descantref13_ChannelsMay.l0]
  have h := row_may (k + x.length + 3) [x, y] 0 (by simp) (by simp) hx x.length 0 (by simp [rd_L1])
  rw [show ((0 : Nat) : Int) = 0 from rfl] at h
  rw [if_pos (by simp), if_pos (by decide), if_pos (by simp), if_pos trivial, h, show rd_L1 [x, y] 0 = x from rfl, List.drop_zero, show k + x.length + 3 = (k + 1 + x.length + 1) + 1 by omega]
  simp only [descantref13_ChannelsMay.l0]
  rw [if_pos (show ((0 + 1 : Nat) : Int) < (([x, y] : List (List Int)).length : Int) by simp), if_pos (show (0 : Int) ≤ ((0 + 1 : Nat) : Int) by simp), if_pos (show (0 : Int) < (([x, y] : List (List Int)).length : Int) by simp), show rd_L1 [x, y] ((0 + 1 : Nat) : Int) = y from rfl, show rd_L1 [x, y] 0 = x from rfl]
  by_cases hl : y.length = x.length
  · have e : mayL [x, y] = (allS x && allS y) := by simp [mayL, hl]
    have h2 := row_may (k + 1) [x, y] 1 (by simp) (by simp) (by rw [show rd_L1 [x, y] ((1 : Nat) : Int) = y from rfl]; omega) x.length 0 (by rw [show rd_L1 [x, y] ((1 : Nat) : Int) = y from rfl]; omega)
    rw [show rd_L1 [x, y] ((1 : Nat) : Int) = y from rfl, List.drop_zero] at h2
    rw [if_pos (show (y.length : Int) = (x.length : Int) by omega), show ((0 + 1 : Nat) : Int) = ((1 : Nat) : Int) from rfl, show (0 : Int) = ((0 : Nat) : Int) from rfl, h2, e]
    simp only [descantref13_ChannelsMay.l0]
    rw [if_neg (show ¬ (((1 + 1 : Nat) : Int) < (([x, y] : List (List Int)).length : Int)) by simp)]
    cases allS x <;> cases allS y <;> rfl
  · have e : mayL [x, y] = false := by simp [mayL, hl]
    rw [if_neg (show ¬ ((y.length : Int) = (x.length : Int)) by omega), e]
    cases allS x <;> rfl
/-- Channels that may be, or not, told by the document's loop. -/
theorem may_is (chs : List (List Int)) (h2 : ∀ xs ∈ chs, xs.length ≤ 17592186044416) (m : Nat) (hm : ∀ xs ∈ chs, xs.length ≤ m) (k : Nat) : descantref13_ChannelsMay.f (k + m + m + 5) chs = some (mayL chs) := by
  rcases chs with _ | ⟨x, _ | ⟨y, _ | ⟨z, t⟩⟩⟩
  · rfl
  · have := hm x (by simp)
    rw [show k + m + m + 5 = (k + (m - x.length) + m + 2) + x.length + 3 by omega, may_one _ x (h2 x (by simp))]
  · have := hm x (by simp)
    rw [show k + m + m + 5 = (k + (m - x.length) + (m - x.length)) + x.length + x.length + 5 by omega, may_two _ x y (h2 x (by simp))]
  · have e : mayL (x :: y :: z :: t) = false := by simp [mayL]
    have u : descantref13_upTo.f (((x :: y :: z :: t).length : Nat) : Int) 1 2 = some false := by
      unfold descantref13_upTo.f
      have : (((x :: y :: z :: t).length : Nat) : Int) = (t.length : Int) + 3 := by simp; omega
      rw [this, if_pos (by omega), decide_eq_false (by omega)]
    unfold descantref13_ChannelsMay.f
    rw [u, e]; rfl
theorem copy_loop (chs : List (List Int)) (hc : chs.length < 5864062014805) (h2 : ∀ xs ∈ chs, xs.length < 17592186044416) (k : Nat) (d : Nat) : ∀ j : Nat, j + d = chs.length → descantlaw0_CopyLists.l0 (k + d + 1) chs (chs.take j) j = some chs := by
  induction d with
  | zero =>
    intro j hj
    simp only [descantlaw0_CopyLists.l0]
    rw [if_neg (by omega), List.take_of_length_le (by omega)]
  | succ d ih =>
    intro j hj
    obtain ⟨m, hm⟩ : ∃ m, m = k + d + 1 := ⟨_, rfl⟩
    have hj2 : j < chs.length := by omega
    have hr : rd_L1 chs (j : Int) = chs[j] := by simp [rd_L1, hj2]
    rw [show k + (d + 1) + 1 = m + 1 by omega]
    simp only [descantlaw0_CopyLists.l0]
    rw [hr, if_pos (by omega), Option.bind_some, if_pos (by omega), if_pos (by simpa using h2 _ (List.getElem_mem hj2)), if_pos (by rw [List.length_take]; omega), List.nil_append, Num.w64 (n := (j : Int) + 1) (by omega) (by omega), hm]
    have := ih (j + 1) (by omega)
    rw [List.take_succ_eq_append_getElem hj2, show ((j + 1 : Nat) : Int) = (j : Int) + 1 by omega] at this
    exact this
theorem copy_is (chs : List (List Int)) (hc : chs.length < 5864062014805) (h2 : ∀ xs ∈ chs, xs.length < 17592186044416) : descantlaw0_CopyLists.f (chs.length + 1) chs = some chs := by
  unfold descantlaw0_CopyLists.f
  have := copy_loop chs hc h2 0 chs.length 0 (by omega)
  rw [Nat.zero_add, List.take_zero] at this
  exact this
end Go.Proofs.Ythiknekmgjnkdaa.PRp
namespace Go.Proofs.Ythiknekmgjnkdaa.PAll
open Go Go.RowKit Go.Proofs.YthiknekmgjnkdaaW.PrintWords Go.Proofs.YthiknekmgjnkdaaW.PrintMore Go.Proofs.YthiknekmgjnkdaaW.PrintLast
abbrev nilB : ByteArray := ⟨#[]⟩
def enc (b x : Int) : List Int := if b = 8 then [(x + 128) % 256] else [x % 256, x / 256 % 256]
def lim (b : Int) : Int := if b = 8 then 128 else 32768
def okS (b x : Int) : Bool := decide (-lim b ≤ x ∧ x < lim b)
def okAt (b : Int) (rows : List (List Int)) (i : Nat) : Bool := rows.all fun r => okS b (rd r (i : Int))
def encAt (b : Int) (rows : List (List Int)) (i : Nat) : List Int := rows.flatMap fun r => enc b (rd r (i : Int))
theorem enc_len (b x : Int) : 1 ≤ (enc b x).length ∧ (enc b x).length ≤ 2 := by unfold enc; split <;> simp
theorem encAt_len (b : Int) (rows : List (List Int)) (i : Nat) : (encAt b rows i).length ≤ 2 * rows.length := by
  induction rows with
  | nil => simp [encAt]
  | cons r rows ih =>
    have := (enc_len b (rd r (i : Int))).2
    show (enc b (rd r (i : Int)) ++ encAt b rows i).length ≤ _
    rw [List.length_append, List.length_cons]; omega
theorem okAt_drop {b : Int} {rows : List (List Int)} {i h : Nat} (hh : h < rows.length) : okAt b (rows.drop h) i = (okS b (rd rows[h] (i : Int)) && okAt b (rows.drop (h + 1)) i) := by
  rw [List.drop_eq_getElem_cons hh]; rfl
theorem encAt_drop {b : Int} {rows : List (List Int)} {i h : Nat} (hh : h < rows.length) : encAt b (rows.drop h) i = enc b (rd rows[h] (i : Int)) ++ encAt b (rows.drop (h + 1)) i := by
  rw [List.drop_eq_getElem_cons hh]; rfl
theorem rdL_at {rows : List (List Int)} {h : Nat} (hh : h < rows.length) : rd_L1 rows (h : Int) = rows[h] := by simp [rd_L1, hh]
theorem put_l1 (k : Nat) (rows : List (List Int)) (c b : Int) (hb : b = 8 ∨ b = 16) (i L : Nat) (hi : ∀ r ∈ rows, i < r.length) (hr : rows.length ≤ 100) (hiL : i < 100000) (d : Nat) : ∀ (h : Nat) (acc : List Int), h + d = rows.length → acc.length ≤ 1000000 + 2 * h →
    pcm_Put.l1 (k + d + 1) rows (lim b) acc i L i rows rows.length h c b = if okAt b (rows.drop h) i = true then pcm_Put.l0 k rows (lim b) (acc ++ encAt b (rows.drop h) i) L ((i + 1 : Nat) : Int) c b else some (nilB, 1900) := by
  induction d with
  | zero =>
    intro h acc hh ha
    simp only [pcm_Put.l1]
    rw [if_neg (by omega), List.drop_eq_nil_of_le (by omega), if_pos (by rfl), show encAt b [] i = [] from rfl, List.append_nil, Num.w64 (n := (i : Int) + 1) (by omega) (by omega)]
    rfl
  | succ d ih =>
    intro h acc hh ha
    obtain ⟨m, hm⟩ : ∃ m, m = k + d + 1 := ⟨_, rfl⟩
    have hlt : h < rows.length := by omega
    rw [show k + (d + 1) + 1 = m + 1 by omega]
    simp only [pcm_Put.l1]
    have hil := hi _ (List.getElem_mem hlt)
    have hl : lim b = 128 ∨ lim b = 32768 := by unfold lim; split <;> simp
    obtain ⟨x, hx⟩ : ∃ x, x = rd rows[h] (i : Int) := ⟨_, rfl⟩
    rw [if_pos (by omega), if_pos (by omega), if_pos (by omega), if_pos (by omega), rdL_at hlt, if_pos (by omega), ← hx, Num.w64 (n := -lim b) (by omega) (by omega), okAt_drop hlt, encAt_drop hlt, ← hx]
    by_cases c1 : x < -lim b
    · rw [if_pos c1, show okS b x = false from decide_eq_false (by omega)]; rfl
    · by_cases c2 : x ≥ lim b
      · rw [if_neg c1, if_pos c2, show okS b x = false from decide_eq_false (by omega)]; rfl
      · have e : pcm_bytes.f x b = some (enc b x) := by
          unfold pcm_bytes.f enc
          rcases hb with rfl | rfl
          · rw [if_pos rfl, if_pos rfl, Num.w64 (by omega) (by omega)]
          · rw [if_neg (by decide), if_neg (by decide)]
        have el := enc_len b x
        have := ih (h + 1) (acc ++ enc b x) (by omega) (by rw [List.length_append]; omega)
        rw [if_neg c1, if_neg c2, e, Option.bind_some, if_pos (by omega), Num.w64 (n := (h : Int) + 1) (by omega) (by omega), show okS b x = true from decide_eq_true (by omega), Bool.true_and, ← List.append_assoc, hm, show (h : Int) + 1 = ((h + 1 : Nat) : Int) by omega]
        exact this
def okFrom (b : Int) (rows : List (List Int)) (i d : Nat) : Bool := (List.range' i d).all (okAt b rows)
def encFrom (b : Int) (rows : List (List Int)) (i d : Nat) : List Int := (List.range' i d).flatMap (encAt b rows)
theorem okFrom_succ (b : Int) (rows : List (List Int)) (i d : Nat) : okFrom b rows i (d + 1) = (okAt b rows i && okFrom b rows (i + 1) d) := by unfold okFrom; rw [List.range'_succ, List.all_cons]
theorem encFrom_succ (b : Int) (rows : List (List Int)) (i d : Nat) : encFrom b rows i (d + 1) = encAt b rows i ++ encFrom b rows (i + 1) d := by unfold encFrom; rw [List.range'_succ, List.flatMap_cons]
theorem put_l0 (rows : List (List Int)) (c b : Int) (hb : b = 8 ∨ b = 16) (L : Nat) (hi : ∀ r ∈ rows, r.length = L) (hr : rows.length ≤ 2) (hL : L ≤ 5000) (d : Nat) : ∀ (k i : Nat) (acc : List Int), i + d = L → acc.length ≤ 4 * i →
    pcm_Put.l0 (k + d * (rows.length + 2) + 1) rows (lim b) acc L i c b = if okFrom b rows i d = true then some (strOfNums (acc ++ encFrom b rows i d), 0) else some (nilB, 1900) := by
  induction d with
  | zero =>
    intro k i acc hh ha
    simp only [pcm_Put.l0]
    rw [if_neg (by omega), show okFrom b rows i 0 = true from rfl, if_pos rfl, show encFrom b rows i 0 = [] from rfl, List.append_nil]
  | succ d ih =>
    intro k i acc hh ha
    obtain ⟨q, hq⟩ : ∃ q, q = k + d * (rows.length + 2) + 1 := ⟨_, rfl⟩
    rw [show k + (d + 1) * (rows.length + 2) + 1 = (q + rows.length + 1) + 1 by rw [Nat.add_mul, Nat.one_mul]; omega]
    simp only [pcm_Put.l0]
    rw [if_pos (by omega)]
    have l1 := put_l1 q rows c b hb i L (fun r hr2 => by have := hi r hr2; omega) (by omega) (by omega) rows.length 0 acc (by omega) (by omega)
    rw [List.drop_zero, show ((0 : Nat) : Int) = 0 from rfl] at l1
    rw [l1, okFrom_succ, encFrom_succ]
    have el := encAt_len b rows i
    cases ho : okAt b rows i
    · rfl
    · have := ih k (i + 1) (acc ++ encAt b rows i) (by omega) (by rw [List.length_append]; omega)
      rw [if_pos rfl, Bool.true_and, ← List.append_assoc, hq]
      exact this
theorem ref_l1 (k : Nat) (rows : List (List Int)) (b : Int) (hb : b = 8 ∨ b = 16) (i : Nat) (hi : ∀ r ∈ rows, i < r.length) (hr : rows.length ≤ 100) (hiL : i < 100000) (d : Nat) : ∀ (h : Nat) (acc : List Int), h + d = rows.length → acc.length ≤ 1000000 + 2 * h →
    PRp.descantref13_PutPcm.l1 (k + d + 1) rows acc i h rows.length b = if okAt b (rows.drop h) i = true then PRp.descantref13_PutPcm.l0 k rows (acc ++ encAt b (rows.drop h) i) ((i + 1 : Nat) : Int) rows.length b else some (nilB, 1900) := by
  induction d with
  | zero =>
    intro h acc hh ha
    simp only [PRp.descantref13_PutPcm.l1]
    rw [if_neg (by omega), List.drop_eq_nil_of_le (by omega), if_pos (by rfl), show encAt b [] i = [] from rfl, List.append_nil, Num.w64 (n := (i : Int) + 1) (by omega) (by omega)]
    rfl
  | succ d ih =>
    intro h acc hh ha
    obtain ⟨m, hm⟩ : ∃ m, m = k + d + 1 := ⟨_, rfl⟩
    have hlt : h < rows.length := by omega
    rw [show k + (d + 1) + 1 = m + 1 by omega]
    simp only [PRp.descantref13_PutPcm.l1]
    have hil := hi _ (List.getElem_mem hlt)
    obtain ⟨x, hx⟩ : ∃ x, x = rd rows[h] (i : Int) := ⟨_, rfl⟩
    have rL : PRp.rd_L1 rows (h : Int) = rows[h] := rdL_at hlt
    rw [if_pos (by omega), if_pos (by omega), if_pos (by omega), if_pos (by omega), rL, if_pos (by omega), ← hx, okAt_drop hlt, encAt_drop hlt, ← hx]
    have ut : ∀ lo hi : Int, PRp.descantref13_upTo.f x lo hi = some (decide (lo ≤ x ∧ x ≤ hi)) := fun lo hi => by
      unfold PRp.descantref13_upTo.f
      by_cases c1 : x ≥ lo
      · rw [if_pos c1]; congr 1; rw [decide_eq_decide]; omega
      · rw [if_neg c1]; congr 1; symm; rw [decide_eq_false_iff_not]; omega
    have el := enc_len b x
    have := ih (h + 1) (acc ++ enc b x) (by omega) (by rw [List.length_append]; omega)
    rw [show ((h + 1 : Nat) : Int) = (h : Int) + 1 by omega, ← hm] at this
    rcases hb with rfl | rfl
    · rw [if_pos rfl, ut, Option.bind_some, show okS 8 x = decide (-128 ≤ x ∧ x ≤ 127) by unfold okS lim; rw [if_pos rfl, decide_eq_decide]; omega]
      by_cases c1 : -128 ≤ x ∧ x ≤ 127
      · rw [decide_eq_true c1, if_pos rfl, if_pos (by omega), Num.w64 (n := x + 128) (by omega) (by omega), Num.w64 (n := (h : Int) + 1) (by omega) (by omega), Bool.true_and, ← List.append_assoc]
        exact this
      · rw [decide_eq_false c1]; rfl
    · rw [if_neg (by decide), ut, Option.bind_some, show okS 16 x = decide (-32768 ≤ x ∧ x ≤ 32767) by unfold okS lim; rw [if_neg (by decide), decide_eq_decide]; omega]
      by_cases c1 : -32768 ≤ x ∧ x ≤ 32767
      · rw [decide_eq_true c1, if_pos rfl, if_pos (by omega), Option.bind_some, if_pos (by rw [List.length_append, List.length_singleton]; omega), Num.w64 (n := (h : Int) + 1) (by omega) (by omega), Bool.true_and, ← List.append_assoc, List.append_assoc]
        exact this
      · rw [decide_eq_false c1]; rfl
theorem ref_l0 (rows : List (List Int)) (b : Int) (hb : b = 8 ∨ b = 16) (L : Nat) (hi : ∀ r ∈ rows, r.length = L) (hr : rows.length ≤ 2) (h1 : 0 < rows.length) (hL : L ≤ 5000) (d : Nat) : ∀ (k i : Nat) (acc : List Int), i + d = L → acc.length ≤ 4 * i →
    PRp.descantref13_PutPcm.l0 (k + d * (rows.length + 2) + 1) rows acc i rows.length b = if okFrom b rows i d = true then some (strOfNums (acc ++ encFrom b rows i d), 0) else some (nilB, 1900) := by
  have r0 : (PRp.rd_L1 rows 0).length = L := by
    have : PRp.rd_L1 rows ((0 : Nat) : Int) = rows[0] := rdL_at h1
    rw [show (0 : Int) = ((0 : Nat) : Int) from rfl, this]
    exact hi _ (List.getElem_mem h1)
  induction d with
  | zero =>
    intro k i acc hh ha
    simp only [PRp.descantref13_PutPcm.l0]
    rw [if_pos (by omega), r0, if_neg (by omega), show okFrom b rows i 0 = true from rfl, if_pos rfl, show encFrom b rows i 0 = [] from rfl, List.append_nil]
  | succ d ih =>
    intro k i acc hh ha
    obtain ⟨q, hq⟩ : ∃ q, q = k + d * (rows.length + 2) + 1 := ⟨_, rfl⟩
    rw [show k + (d + 1) * (rows.length + 2) + 1 = (q + rows.length + 1) + 1 by rw [Nat.add_mul, Nat.one_mul]; omega]
    simp only [PRp.descantref13_PutPcm.l0]
    rw [if_pos (by omega), r0, if_pos (by omega)]
    have l1 := ref_l1 q rows b hb i (fun r hr2 => by have := hi r hr2; omega) (by omega) (by omega) rows.length 0 acc (by omega) (by omega)
    rw [List.drop_zero, show ((0 : Nat) : Int) = 0 from rfl] at l1
    rw [l1, okFrom_succ, encFrom_succ]
    have el := encAt_len b rows i
    cases ho : okAt b rows i
    · rfl
    · have := ih k (i + 1) (acc ++ encAt b rows i) (by omega) (by rw [List.length_append]; omega)
      rw [if_pos rfl, Bool.true_and, ← List.append_assoc, hq]
      exact this
end Go.Proofs.Ythiknekmgjnkdaa.PAll
