/- Layer 19: the document's Get; the bytes of what Get gives are the bytes. No program in sight. -/
import Derived.Test.YthiknekmgjnkdaaPcmPut2
namespace Go.Proofs.Ythiknekmgjnkdaa.PAll
open Go Go.RowKit Go.Proofs.YthiknekmgjnkdaaW.PrintWords Go.Proofs.YthiknekmgjnkdaaW.PrintMore Go.Proofs.YthiknekmgjnkdaaW.PrintLast
set_option linter.unusedVariables false
set_option linter.unusedSimpArgs false
/-- The place of sample j of channel h. -/
theorem ref_get_l1 (K : Nat) (s : ByteArray) (c b : Int) (hg : getOk s c b = true) (out : List (List Int)) (ho : out.length ≤ 100) (h : Nat) (hh : h < c.toNat) (d : Nat) : ∀ j : Nat, j + d = frames s c b → PRp.descantref13_GetPcm.l1 (K + d + 1) s out (b / 8) h ((List.range j).map fun j : Nat => smp s b (((c.toNat * j + h : Nat) : Int) * (b / 8))) (((c.toNat * j + h : Nat) : Int) * (b / 8)) c b = PRp.descantref13_GetPcm.l0 K s (out ++ [chan s c b h (frames s c b)]) (b / 8) ((h + 1 : Nat) : Int) c b := by
  obtain ⟨e1, n1, -⟩ := frames_eq hg
  have hf : fmtOk c b = true := by unfold getOk at hg; rw [Bool.and_eq_true] at hg; exact hg.1
  have hfr := refFrameP hf
  obtain ⟨hc, hb⟩ := fmt_cases hf
  obtain ⟨F, hF⟩ : ∃ F, F = frames s c b := ⟨_, rfl⟩
  rw [← hF] at e1 n1 ⊢
  induction d with
  | zero =>
    intro j hj
    have hj2 : j = F := by omega
    subst hj2
    simp only [PRp.descantref13_GetPcm.l1]
    rw [if_neg (by rcases hc with rfl | rfl <;> rcases hb with rfl | rfl <;> simp [fs] at e1 hh ⊢ <;> omega), if_pos (by omega), Num.w64 (n := (h : Int) + 1) (by omega) (by omega)]
    rfl
  | succ d ih =>
    intro j hj
    obtain ⟨m, hm⟩ : ∃ m, m = K + d + 1 := ⟨_, rfl⟩
    rw [show K + (d + 1) + 1 = m + 1 by omega]
    simp only [PRp.descantref13_GetPcm.l1]
    have ih := ih (j + 1) (by omega)
    obtain ⟨p, hp⟩ : ∃ p : Nat, (p : Int) = ((c.toNat * j + h : Nat) : Int) * (b / 8) := ⟨(((c.toNat * j + h : Nat) : Int) * (b / 8)).toNat, by rcases hc with rfl | rfl <;> rcases hb with rfl | rfl <;> simp <;> omega⟩
    have hp2 : ((c.toNat * (j + 1) + h : Nat) : Int) * (b / 8) = (p : Int) + fs c b := by
      rw [hp]; rcases hc with rfl | rfl <;> rcases hb with rfl | rfl <;> simp [fs] <;> omega
    have hlt : (p : Int) + b / 8 ≤ s.size := by
      rw [hp, ← e1]; rcases hc with rfl | rfl <;> rcases hb with rfl | rfl <;> simp [fs] at hh ⊢ <;> omega
    have hs : s.size ≤ 20000 := by have := fs_pos hf; rw [← Int.ofNat_le, ← e1]; rcases hc with rfl | rfl <;> rcases hb with rfl | rfl <;> simp [fs] <;> omega
    have hfp := fs_pos hf
    rw [List.range_succ, List.map_append, List.map_singleton, hp2, ← hm, ← hp] at ih
    rw [← hp, hfr, if_pos (by omega), if_pos (by omega)]
    have r1 := bt_range s (p : Int)
    have r2 := bt_range s ((p : Int) + 1)
    rcases hb with rfl | rfl
    · have e2 : smp s 8 (p : Int) = wrap64 (wrap64 (bt s (p : Int)) - 128) := by
        unfold smp; rw [if_pos rfl, Num.w64 (n := bt s _) (by omega) (by omega), Num.w64 (by omega) (by omega)]
      rw [e2] at ih
      rw [if_neg (by decide), if_pos (by simp; omega), Option.bind_some, Num.w64 (n := (p : Int) + fs c 8) (by omega) (by omega)]
      exact ih
    · have e2 : smp s 16 (p : Int) = wrap64 (s16 (bt s (p : Int)) (bt s ((p : Int) + 1))) := by
        have := smp_in s 16 (p : Int)
        have e3 : smp s 16 (p : Int) = s16 (bt s (p : Int)) (bt s ((p : Int) + 1)) := by unfold smp; rw [if_neg (by decide)]
        rw [e3] at this ⊢
        rw [Num.w64 (by omega) (by omega)]
      rw [e2] at ih
      rw [if_pos (by decide), Num.w64 (n := (p : Int) + 1) (by omega) (by omega), if_pos (by omega), if_pos (by omega), if_pos (by simp; omega), Option.bind_some, Num.w64 (n := (p : Int) + fs c 16) (by omega) (by omega)]
      exact ih
theorem ref_get_l0 (K : Nat) (s : ByteArray) (c b : Int) (hg : getOk s c b = true) (hK : 5000 ≤ K) (d : Nat) : ∀ h : Nat, h + d = c.toNat → PRp.descantref13_GetPcm.l0 (K + d * 5000 + 1) s ((List.range h).map fun h => chan s c b h (frames s c b)) (b / 8) h c b = some (samples s c b, 0) := by
  obtain ⟨e1, n1, s1⟩ := frames_eq hg
  have hf : fmtOk c b = true := by unfold getOk at hg; rw [Bool.and_eq_true] at hg; exact hg.1
  obtain ⟨hc, hb⟩ := fmt_cases hf
  induction d with
  | zero =>
    intro h hh
    simp only [PRp.descantref13_GetPcm.l0]
    rw [if_neg (by omega), s1, show h = c.toNat by omega]
  | succ d ih =>
    intro h hh
    obtain ⟨q, hq⟩ : ∃ q, q = K + d * 5000 + (4999 - frames s c b) := ⟨_, rfl⟩
    rw [show K + (d + 1) * 5000 + 1 = (q + frames s c b + 1) + 1 by omega]
    simp only [PRp.descantref13_GetPcm.l0]
    have l1 := ref_get_l1 q s c b hg ((List.range h).map fun h => chan s c b h (frames s c b)) (by simp; omega) h (by omega) (frames s c b) 0 (by omega)
    rw [List.range_zero, List.map_nil, Nat.mul_zero, Nat.zero_add] at l1
    rw [if_pos (by omega), Num.w64 (n := (h : Int) * (b / 8)) (by rcases hb with rfl | rfl <;> simp <;> omega) (by rcases hb with rfl | rfl <;> simp <;> omega), l1]
    have := ih (h + 1) (by omega)
    rw [List.range_succ, List.map_append, List.map_singleton] at this
    exact at_rounds (g := fun k => PRp.descantref13_GetPcm.l0 k s ((List.range h).map (fun h => chan s c b h (frames s c b)) ++ [chan s c b h (frames s c b)]) (b / 8) ((h + 1 : Nat) : Int) c b) (fun k => (PRp.descantref13_GetPcm.mono_l k).2.1 _ _ _ _ _ _) (show K + d * 5000 + 1 ≤ q by omega) this
theorem refGet_bad (s : ByteArray) (c b : Int) (K : Nat) (hK : 1 ≤ K) : PRp.descantref13_GetPcm.j0 K s true c b = some ([], 1900) := by
  obtain ⟨k, rfl⟩ : ∃ k, K = k + 1 := ⟨K - 1, by omega⟩
  simp only [PRp.descantref13_GetPcm.j0]; rfl
theorem ref_get_is (s : ByteArray) (c b : Int) (K : Nat) (hK : 20000 ≤ K) : PRp.descantref13_GetPcm.f K s c b = some (if getOk s c b = true then (samples s c b, 0) else ([], 1900)) := by
  unfold PRp.descantref13_GetPcm.f
  rw [refMayP, Option.bind_some]
  cases hf : fmtOk c b
  · rw [if_neg (by decide), refGet_bad _ _ _ K (by omega)]
    unfold getOk; rw [hf]; rfl
  · have f1 := fs_pos hf
    obtain ⟨hc, hb⟩ := fmt_cases hf
    rw [if_pos rfl, refFrameP hf, Option.bind_some, if_neg (by omega)]
    by_cases h1 : (s.size : Int) % fs c b = 0
    · rw [if_pos h1]
      by_cases h2 : s.size ≤ 4096
      · have hg : getOk s c b = true := by unfold getOk; rw [hf, decide_eq_true ⟨h1, h2⟩]; rfl
        rw [decide_eq_false (by omega), if_pos hg, show K = (K - 1) + 1 by omega]
        simp only [PRp.descantref13_GetPcm.j0]
        have l0 := ref_get_l0 5000 s c b hg (by omega) c.toNat 0 (by omega)
        rw [List.range_zero, List.map_nil, show ((0 : Nat) : Int) = 0 from rfl] at l0
        rw [if_neg (by decide), Int.tdiv_eq_ediv_of_nonneg (by omega), Num.w64 (n := b / 8) (by omega) (by omega)]
        exact at_rounds (g := fun k => PRp.descantref13_GetPcm.l0 k s [] (b / 8) 0 c b) (fun k => (PRp.descantref13_GetPcm.mono_l k).2.1 _ _ _ _ _ _) (show 5000 + c.toNat * 5000 + 1 ≤ K - 1 by omega) l0
      · rw [decide_eq_true (by omega), refGet_bad _ _ _ K (by omega)]
        unfold getOk; rw [hf, decide_eq_false (fun h => h2 h.2)]; rfl
    · rw [if_neg h1, refGet_bad _ _ _ K (by omega)]
      unfold getOk; rw [hf, decide_eq_false (fun h => h1 h.1)]; rfl
theorem flat (g : Nat → Int) (m d : Nat) : ∀ i : Nat, (List.range' i d).flatMap (fun i => (List.range' (i * m) m).map g) = (List.range' (i * m) (d * m)).map g := by
  induction d with
  | zero => intro i; simp
  | succ d ih =>
    intro i
    rw [List.range'_succ, List.flatMap_cons, ih, ← List.map_append, show (i + 1) * m = i * m + m by rw [Nat.add_mul, Nat.one_mul], List.range'_append_1, show (d + 1) * m = m + d * m by rw [Nat.add_mul, Nat.one_mul, Nat.add_comm]]
theorem bytes_all (s : ByteArray) : (List.range' 0 s.size).map (fun j : Nat => bt s (j : Int)) = bytesOf s := by
  apply List.ext_getElem?
  intro j
  rcases Nat.lt_or_ge j s.size with h | h
  · rw [List.getElem?_map, List.getElem?_range' h]
    simp only [Option.map_some, Nat.zero_add, Nat.one_mul]
    rw [Bytes.bt_eq, Int.toNat_natCast, List.getD_eq_getElem?_getD, List.getElem?_eq_getElem (by rw [bytesOf_length]; exact h)]
    rfl
  · rw [List.getElem?_eq_none (by simpa using h), List.getElem?_eq_none (by rw [bytesOf_length]; exact h)]
theorem str_bytes (s : ByteArray) : strOfNums (bytesOf s) = s := Bytes.inj (Bytes.of_nums_in (fun _ hx => Bytes.range hx))
theorem enc8 (s : ByteArray) (p : Int) : enc 8 (smp s 8 p) = [bt s p] := by
  have := bt_range s p
  unfold enc smp
  rw [if_pos rfl, if_pos rfl]
  congr 1; omega
theorem enc16 (s : ByteArray) (p : Int) : enc 16 (smp s 16 p) = [bt s p, bt s (p + 1)] := by
  have h1 := bt_range s p
  have h2 := bt_range s (p + 1)
  unfold enc smp
  rw [if_neg (by decide), if_neg (by decide), s16_eq h1.1 h1.2 h2.1 h2.2]
  split
  · congr 1
    · omega
    · congr 1; omega
  · congr 1
    · omega
    · congr 1; omega
theorem ok_smp (s : ByteArray) {b : Int} (hb : b = 8 ∨ b = 16) (p : Int) : okS b (smp s b p) = true := by
  have h0 := smp_in s b p
  have h1 := bt_range s p
  unfold okS lim
  rcases hb with rfl | rfl
  · rw [if_pos rfl]
    exact decide_eq_true (by unfold smp; rw [if_pos rfl]; omega)
  · rw [if_neg (by decide)]; exact decide_eq_true (by omega)
theorem chan_rd (s : ByteArray) (c b : Int) (h F i : Nat) (hi : i < F) : rd (chan s c b h F) (i : Int) = smp s b (((c.toNat * i + h : Nat) : Int) * (b / 8)) := by
  unfold rd chan
  rw [Int.toNat_natCast, List.getD_eq_getElem?_getD, List.getElem?_map, List.getElem?_range hi]; rfl
theorem enc_frame (s : ByteArray) (c b : Int) (hf : fmtOk c b = true) (F i : Nat) (hi : i < F) : encAt b ((List.range c.toNat).map fun h => chan s c b h F) i = (List.range' (i * (fs c b).toNat) (fs c b).toNat).map (fun j : Nat => bt s (j : Int)) := by
  obtain ⟨hc, hb⟩ := fmt_cases hf
  unfold encAt
  rcases hc with rfl | rfl <;> rcases hb with rfl | rfl
  · show enc 8 (rd (chan s 1 8 0 F) (i : Int)) ++ [] = _
    rw [chan_rd _ _ _ _ _ _ hi, enc8]
    simp [fs]
  · show enc 16 (rd (chan s 1 16 0 F) (i : Int)) ++ [] = _
    rw [chan_rd _ _ _ _ _ _ hi, enc16]
    simp [fs, List.range'_succ]
  · show enc 8 (rd (chan s 2 8 0 F) (i : Int)) ++ (enc 8 (rd (chan s 2 8 1 F) (i : Int)) ++ []) = _
    rw [chan_rd _ _ _ _ _ _ hi, chan_rd _ _ _ _ _ _ hi, enc8, enc8]
    simp [fs, List.range'_succ, Int.mul_comm]
  · show enc 16 (rd (chan s 2 16 0 F) (i : Int)) ++ (enc 16 (rd (chan s 2 16 1 F) (i : Int)) ++ []) = _
    rw [chan_rd _ _ _ _ _ _ hi, chan_rd _ _ _ _ _ _ hi, enc16, enc16]
    have e1 : ((2 : Int).toNat * i + 0 : Nat) = 2 * i := by simp
    have e2 : ((2 : Int).toNat * i + 1 : Nat) = 2 * i + 1 := by simp
    rw [e1, e2]
    simp [fs, List.range'_succ]
    refine ⟨?_, ?_, ?_, ?_⟩ <;> congr 1 <;> omega
theorem fm_congr {α β : Type} (l : List α) (f g : α → List β) (h : ∀ i ∈ l, f i = g i) : l.flatMap f = l.flatMap g := by
  induction l with
  | nil => rfl
  | cons a l ih =>
    rw [List.flatMap_cons, List.flatMap_cons, h a List.mem_cons_self, ih (fun i hi => h i (List.mem_cons_of_mem a hi))]
theorem put_back (s : ByteArray) (c b : Int) (hg : getOk s c b = true) : putF (samples s c b) c b = (s, 0) := by
  obtain ⟨e1, n1, s1⟩ := frames_eq hg
  have hf : fmtOk c b = true := by unfold getOk at hg; rw [Bool.and_eq_true] at hg; exact hg.1
  have hz : s.size ≤ 4096 := by unfold getOk at hg; rw [Bool.and_eq_true, decide_eq_true_iff] at hg; exact hg.2.2
  obtain ⟨hc, hb⟩ := fmt_cases hf
  have hfp := fs_pos hf
  obtain ⟨F, hF⟩ : ∃ F, F = frames s c b := ⟨_, rfl⟩
  rw [← hF] at e1 n1 s1
  rw [s1]
  have hh : (((List.range c.toNat).map fun h => chan s c b h F).headD []).length = F := by
    rcases hc with rfl | rfl
    · exact chan_length s 1 b 0 F
    · exact chan_length s 2 b 0 F
  have hrow : ∀ r ∈ (List.range c.toNat).map (fun h => chan s c b h F), r.length = F := fun r hr => by
    obtain ⟨h, _, rfl⟩ := List.mem_map.1 hr
    exact chan_length s c b h F
  have hok : okFrom b ((List.range c.toNat).map fun h => chan s c b h F) 0 F = true := by
    unfold okFrom okAt
    rw [List.all_eq_true]
    intro i hi
    rw [List.mem_range'_1] at hi
    rw [List.all_eq_true]
    intro r hr
    obtain ⟨h, _, rfl⟩ := List.mem_map.1 hr
    rw [chan_rd _ _ _ _ _ _ (by omega)]
    exact ok_smp s hb _
  have hp : putOk ((List.range c.toNat).map fun h => chan s c b h F) c b = true := by
    unfold putOk
    rw [hf, hh, hok, decide_eq_true ⟨by rw [List.length_map, List.length_range]; omega, by omega⟩]
    unfold sameL
    rw [hh, List.all_eq_true.2 (fun r hr => decide_eq_true (hrow r hr))]
    rfl
  have henc : encFrom b ((List.range c.toNat).map fun h => chan s c b h F) 0 F = bytesOf s := by
    unfold encFrom
    rw [show (List.range' 0 F).flatMap (encAt b ((List.range c.toNat).map fun h => chan s c b h F)) = (List.range' 0 F).flatMap (fun i => (List.range' (i * (fs c b).toNat) (fs c b).toNat).map (fun j : Nat => bt s (j : Int))) from fm_congr _ _ _ (fun i hi => enc_frame s c b hf F i (by rw [List.mem_range'_1] at hi; omega)), flat, Nat.zero_mul, show F * (fs c b).toNat = s.size by rw [← Int.ofNat_inj, Int.natCast_mul, Int.toNat_of_nonneg (by omega)]; exact e1]
    exact bytes_all s
  unfold putF
  rw [if_pos hp, hh, henc, str_bytes]
end Go.Proofs.Ythiknekmgjnkdaa.PAll
