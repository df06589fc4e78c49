/- Layer 19: what both Puts and both Gets answer; samples' bytes are the bytes. No program in sight. -/
import Derived.Test.YthiknekmgjnkdaaPcmPut
namespace Go.Proofs.Ythiknekmgjnkdaa.PAll
open Go Go.RowKit Go.Proofs.YthiknekmgjnkdaaW.PrintWords Go.Proofs.YthiknekmgjnkdaaW.PrintMore Go.Proofs.YthiknekmgjnkdaaW.PrintLast
set_option linter.unusedVariables false
set_option linter.unusedSimpArgs false
def sameL (chs : List (List Int)) : Bool := chs.all fun r => decide (r.length = (chs.headD []).length)
def putOk (chs : List (List Int)) (c b : Int) : Bool := fmtOk c b && decide ((chs.length : Int) = c ∧ ((chs.headD []).length : Int) * fs c b ≤ 4096) && sameL chs && okFrom b chs 0 (chs.headD []).length
def putF (chs : List (List Int)) (c b : Int) : ByteArray × Int := if putOk chs c b = true then (strOfNums (encFrom b chs 0 (chs.headD []).length), 0) else (nilB, 1900)
theorem putF_no {chs : List (List Int)} {c b : Int} (h : putOk chs c b = false) : putF chs c b = (nilB, 1900) := by unfold putF; rw [h]; rfl
theorem fmt_cases {c b : Int} (h : fmtOk c b = true) : (c = 1 ∨ c = 2) ∧ (b = 8 ∨ b = 16) := by unfold fmtOk at h; exact of_decide_eq_true h
theorem put_j0 (chs : List (List Int)) (c b : Int) (hf : fmtOk c b = true) (hn : chs.length ≤ 2) (h0 : 0 < chs.length) (hs : sameL chs = true) (hL : (chs.headD []).length ≤ 4096) (K : Nat) (hK : 20000 ≤ K) : pcm_Put.j0 K chs false c b = if okFrom b chs 0 (chs.headD []).length = true then some (strOfNums (encFrom b chs 0 (chs.headD []).length), 0) else some (nilB, 1900) := by
  obtain ⟨hc, hb⟩ := fmt_cases hf
  obtain ⟨L, hLd⟩ : ∃ L, L = (chs.headD []).length := ⟨_, rfl⟩
  have hrow : ∀ r ∈ chs, r.length = L := fun r hr => by rw [hLd]; exact of_decide_eq_true (List.all_eq_true.1 hs r hr)
  have hm : L * (chs.length + 2) ≤ 4096 * 4 := Nat.mul_le_mul (by omega) (by omega)
  obtain ⟨k, hk⟩ : ∃ k, k = K - L * (chs.length + 2) - 2 := ⟨_, rfl⟩
  rw [show K = (k + L * (chs.length + 2) + 1) + 1 by omega, ← hLd]
  simp only [pcm_Put.j0]
  have hM : shl .i64 1 (wrap64 (b - 1)) = lim b := by rcases hb with rfl | rfl <;> decide +kernel
  have hw : 0 ≤ wrap64 (b - 1) := by rcases hb with rfl | rfl <;> decide +kernel
  have hr0 : rd_L1 chs 0 = chs.headD [] := by cases chs <;> rfl
  rw [if_neg (by decide), if_pos hw, if_pos (by omega), hM, hr0, ← hLd]
  have := put_l0 chs c b hb L hrow hn (by omega) L k 0 [] (by omega) (by simp)
  rw [List.nil_append, show ((0 : Nat) : Int) = 0 from rfl] at this
  exact this
theorem put_bad (chs : List (List Int)) (c b : Int) (K : Nat) (hK : 20000 ≤ K) : pcm_Put.j0 K chs true c b = some (nilB, 1900) := by
  obtain ⟨k, rfl⟩ : ∃ k, K = k + 1 := ⟨K - 1, by omega⟩
  simp only [pcm_Put.j0]; rfl
theorem head_ge {c b : Int} (hf : fmtOk c b = true) (L : Nat) : (L : Int) > wrap64 (4096 / fs c b) ↔ ¬ ((L : Int) * fs c b ≤ 4096) := by
  obtain ⟨hc, hb⟩ := fmt_cases hf
  rcases hc with rfl | rfl <;> rcases hb with rfl | rfl <;> simp [fs]
  · rw [show wrap64 4096 = 4096 from by decide +kernel]
  · rw [show wrap64 2048 = 2048 from by decide +kernel]; omega
  · rw [show wrap64 2048 = 2048 from by decide +kernel]; omega
  · rw [show wrap64 1024 = 1024 from by decide +kernel]; omega
theorem fs_pos {c b : Int} (hf : fmtOk c b = true) : 1 ≤ fs c b ∧ fs c b ≤ 4 := (frame_eq hf).2
theorem le_4096 {c b : Int} (hf : fmtOk c b = true) {L : Nat} (h : (L : Int) * fs c b ≤ 4096) : L ≤ 4096 := by
  obtain ⟨hc, hb⟩ := fmt_cases hf
  rcases hc with rfl | rfl <;> rcases hb with rfl | rfl <;> simp [fs] at h <;> omega
theorem pcm_put_is (chs : List (List Int)) (c b : Int) (K : Nat) (hK : 20000 ≤ K) : pcm_Put.f K chs c b = some (putF chs c b) := by
  unfold pcm_Put.f
  rw [may_eq, Option.bind_some]
  cases hf : fmtOk c b
  · rw [if_neg (by decide), put_bad _ _ _ K hK, putF_no (by unfold putOk; rw [hf]; rfl)]
  · obtain ⟨hfr, f1, f4⟩ := frame_eq hf
    obtain ⟨hc, hb⟩ := fmt_cases hf
    rw [if_pos rfl]
    by_cases hl : (chs.length : Int) = c
    · have hr0 : rd_L1 chs 0 = chs.headD [] := by cases chs <;> rfl
      rw [if_pos hl, if_pos (by omega), hfr, Option.bind_some, if_neg (by omega), hr0]
      by_cases h1 : ((chs.headD []).length : Int) * fs c b ≤ 4096
      · have hL := le_4096 hf h1
        rw [if_neg (by rw [head_ge hf]; simpa using h1), if_pos (by rw [Num.w64 (by omega) (by omega)]; omega), if_pos (by rw [Num.w64 (by omega) (by omega)]; omega), Num.w64 (n := c - 1) (by omega) (by omega)]
        have hcmp : (((rd_L1 chs (c - 1)).length : Int) != ((chs.headD []).length : Int)) = !sameL chs := by
          rcases chs with _ | ⟨x, _ | ⟨y, _ | ⟨z, t⟩⟩⟩
          · simp at hl; omega
          · have : c = 1 := by simpa using hl.symm
            subst this
            simp [rd_L1, sameL]
          · have : c = 2 := by simpa using hl.symm
            subst this
            show (((rd_L1 [x, y] 1).length : Int) != (x.length : Int)) = _
            rw [show rd_L1 [x, y] 1 = y from rfl, bne]
            congr 1
            rw [Bool.eq_iff_iff, beq_iff_eq]
            simp [sameL]
            omega
          · simp at hl; omega
        rw [hcmp]
        cases hs : sameL chs
        · rw [Bool.not_false, put_bad _ _ _ K hK, putF_no (by unfold putOk; rw [hs, Bool.and_false]; rfl)]
        · rw [Bool.not_true, put_j0 chs c b hf (by omega) (by omega) hs hL K hK]
          unfold putF putOk
          rw [hf, hs, decide_eq_true ⟨hl, h1⟩]
          simp only [Bool.true_and]
          split <;> rfl
      · rw [if_pos ((head_ge hf _).2 h1), put_bad _ _ _ K hK, putF_no (by unfold putOk; rw [decide_eq_false (fun h => h1 h.2), Bool.and_false]; rfl)]
    · rw [if_neg hl, put_bad _ _ _ K hK, putF_no (by unfold putOk; rw [decide_eq_false (fun h => hl h.1), Bool.and_false]; rfl)]
theorem ok_allS {chs : List (List Int)} {b : Int} {L : Nat} (h : okFrom b chs 0 L = true) (hs : ∀ r ∈ chs, r.length = L) : ∀ r ∈ chs, allS r = true := by
  intro r hr
  unfold allS
  rw [List.all_eq_true]
  intro x hx
  obtain ⟨j, hj, rfl⟩ := List.getElem_of_mem hx
  have h1 := List.all_eq_true.1 h j (by rw [List.mem_range'_1]; have := hs r hr; omega)
  have h2 := of_decide_eq_true (List.all_eq_true.1 h1 r hr)
  have e1 : rd r (j : Int) = r[j] := by simp [rd, hj]
  rw [e1] at h2
  unfold lim at h2
  exact decide_eq_true (by split at h2 <;> omega)
theorem ref_bad (chs : List (List Int)) (c b : Int) (K : Nat) (hK : 20000 ≤ K) : PRp.descantref13_PutPcm.j0 K chs true c b = some (nilB, 1900) := by
  obtain ⟨k, rfl⟩ : ∃ k, K = k + 1 := ⟨K - 1, by omega⟩
  simp only [PRp.descantref13_PutPcm.j0]; rfl
theorem refMayP (c b : Int) : PRp.descantref13_FormatMay.f c b = some (fmtOk c b) := refMay_eq c b
theorem refFrameP {c b : Int} (h : fmtOk c b = true) : PRp.descantref13_FrameSize.f c b = some (fs c b) := (frame_eq h).1
theorem ref_put_is (chs : List (List Int)) (c b : Int) (h2 : ∀ xs ∈ chs, xs.length ≤ 17592186044416) (m : Nat) (hm : ∀ xs ∈ chs, xs.length ≤ m) (K : Nat) (hK : m + m + 20005 ≤ K) : PRp.descantref13_PutPcm.f K chs c b = some (putF chs c b) := by
  unfold PRp.descantref13_PutPcm.f
  rw [refMayP, Option.bind_some]
  cases hf : fmtOk c b
  · rw [if_neg (by decide), ref_bad _ _ _ K (by omega), putF_no (by unfold putOk; rw [hf]; rfl)]
  · obtain ⟨hc, hb⟩ := fmt_cases hf
    have f1 := fs_pos hf
    rw [if_pos rfl]
    by_cases hl : (chs.length : Int) = c
    · have hr0 : PRp.rd_L1 chs 0 = chs.headD [] := by cases chs <;> rfl
      rw [if_pos hl, show K = (K - m - m - 5) + m + m + 5 by omega, PRp.may_is chs h2 m hm, ← show K = (K - m - m - 5) + m + m + 5 by omega, Option.bind_some]
      have hmay : mayL chs = (sameL chs && chs.all allS) := by
        unfold mayL sameL
        rw [decide_eq_true (by omega), Bool.and_true]
        rw [Bool.eq_iff_iff, Bool.and_eq_true, List.all_eq_true, List.all_eq_true, List.all_eq_true]
        constructor
        · intro h
          exact ⟨fun r hr => (Bool.and_eq_true_iff.1 (h r hr)).1, fun r hr => (Bool.and_eq_true_iff.1 (h r hr)).2⟩
        · intro h r hr
          exact Bool.and_eq_true_iff.2 ⟨h.1 r hr, h.2 r hr⟩
      by_cases hs : sameL chs = true
      · by_cases ha : chs.all allS = true
        · rw [hmay, hs, ha, if_pos (by rfl), if_pos (by omega), refFrameP hf, Option.bind_some, hr0]
          have hLm : (chs.headD []).length ≤ 17592186044416 := by
            cases chs with
            | nil => simp
            | cons r t => exact h2 r (by simp)
          have hw : wrap64 (((chs.headD []).length : Int) * fs c b) = ((chs.headD []).length : Int) * fs c b := by
            obtain ⟨q, hq⟩ : ∃ q, q = fs c b := ⟨_, rfl⟩
            have : q = 1 ∨ q = 2 ∨ q = 3 ∨ q = 4 := by omega
            rw [← hq]
            rcases this with rfl | rfl | rfl | rfl <;> exact Num.w64 (by omega) (by omega)
          rw [hw]
          by_cases h1 : ((chs.headD []).length : Int) * fs c b ≤ 4096
          · have hL := le_4096 hf h1
            obtain ⟨L, hLd⟩ : ∃ L, L = (chs.headD []).length := ⟨_, rfl⟩
            have hrow : ∀ r ∈ chs, r.length = L := fun r hr => by rw [hLd]; exact of_decide_eq_true (List.all_eq_true.1 hs r hr)
            have hmm : L * (chs.length + 2) ≤ 4096 * 4 := Nat.mul_le_mul (by omega) (by omega)
            have hput : putF chs c b = if okFrom b chs 0 L = true then (strOfNums (encFrom b chs 0 L), 0) else (nilB, 1900) := by
              unfold putF putOk
              rw [hf, hs, decide_eq_true ⟨hl, h1⟩, ← hLd]
              simp only [Bool.true_and]
            rw [decide_eq_false (by omega), hput]
            obtain ⟨k, hk⟩ : ∃ k, k = K - L * (chs.length + 2) - 2 := ⟨_, rfl⟩
            rw [show K = (k + L * (chs.length + 2) + 1) + 1 by omega]
            simp only [PRp.descantref13_PutPcm.j0]
            have := ref_l0 chs b hb L hrow (by omega) (by omega) (by omega) L k 0 [] (by omega) (by simp)
            rw [List.nil_append, show ((0 : Nat) : Int) = 0 from rfl, hl] at this
            rw [if_neg (by decide), this]
            split <;> rfl
          · rw [decide_eq_true (by omega), ref_bad _ _ _ K (by omega), putF_no (by unfold putOk; rw [decide_eq_false (fun h => h1 h.2), Bool.and_false]; rfl)]
        · have hn : putOk chs c b = false := by
            rw [Bool.eq_false_iff]
            intro ht
            unfold putOk at ht
            simp only [Bool.and_eq_true] at ht
            exact ha (List.all_eq_true.2 (ok_allS ht.2 (fun r hr => of_decide_eq_true (List.all_eq_true.1 hs r hr))))
          rw [hmay, Bool.eq_false_iff.2 ha, Bool.and_false, if_neg (by decide), ref_bad _ _ _ K (by omega), putF_no hn]
      · rw [hmay, Bool.eq_false_iff.2 hs, Bool.false_and, if_neg (by decide), ref_bad _ _ _ K (by omega), putF_no (by unfold putOk; rw [Bool.eq_false_iff.2 hs, Bool.and_false]; rfl)]
    · rw [if_neg hl, ref_bad _ _ _ K (by omega), putF_no (by unfold putOk; rw [decide_eq_false (fun h => hl h.1), Bool.and_false]; rfl)]
end Go.Proofs.Ythiknekmgjnkdaa.PAll
