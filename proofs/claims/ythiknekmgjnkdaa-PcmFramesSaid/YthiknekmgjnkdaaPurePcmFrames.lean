/- 'PcmFrames' of chapter 19: each sample stands in its frame's bytes. No condition. -/
import Derived.Test.YthiknekmgjnkdaaPAllx11
import Derived.Test.YthiknekmgjnkdaaPcm
namespace Go.Proofs.Ythiknekmgjnkdaa.Pure
open Go.RowKit Go.Proofs.Ythiknekmgjnkdaa.PAll Go.Proofs.YthiknekmgjnkdaaW.PrintWords Go.Proofs.YthiknekmgjnkdaaW.PrintLast
set_option linter.unusedVariables false
set_option linter.unusedSimpArgs false

theorem awakeF (k : Nat) : descantlaw19_awake.f (k + 60) = some true := by
  have h : descantlaw19_awake.f 60 = some true := by decide +kernel
  induction k with
  | zero => exact h
  | succ k ih => exact (descantlaw19_awake.mono _ _ ih)
/-- One sample is looked at. -/
theorem l1_step (k : Nat) (wide : Bool) (w8 : Int) (s : ByteArray) (chs : List (List Int)) (ch i C B a : Int) (hc0 : 0 ≤ ch) (hc1 : ch < (chs.length : Int)) (hi0 : 0 ≤ i) (hi1 : i < ((rd_L1 chs ch).length : Int)) (hi2 : i ≤ 4096)
    (ha : wrap64 ((wrap64 (i * w8)) + (wrap64 (Int.tdiv (wrap64 (ch * B)) 8))) = a) (h0 : 0 ≤ a) (h1 : a < (s.size : Int)) (h2 : wide = true → a + 1 < (s.size : Int)) (hs : (s.size : Int) ≤ 4096)
    (hv : rd (rd_L1 chs ch) i = smp s (if wide = true then 16 else 8) a) : descantlaw19_PcmFrames.l1 (k + 1) wide w8 s chs ch i C B = descantlaw19_PcmFrames.l1 k wide w8 s chs ch (i + 1) C B := by
  have b1 := bt_range s a
  have b2 := bt_range s (a + 1)
  have ei : wrap64 (i + 1) = i + 1 := Num.w64 (by omega) (by omega)
  have ea : wrap64 (bt s a) = bt s a := Num.w64 (by omega) (by omega)
  have eb : wrap64 (bt s (a + 1)) = bt s (a + 1) := Num.w64 (by omega) (by omega)
  simp only [descantlaw19_PcmFrames.l1]
  rw [if_pos hc0, if_pos hc1, if_pos hi1, ha, if_pos h0, if_pos h1]
  cases wide
  · rw [if_neg (by decide), if_pos hi0, hv, ea, Num.w64 (n := bt s a - 128) (by omega) (by omega), ei]
    rw [if_pos (by simp [smp])]
  · have ha1 : wrap64 (a + 1) = a + 1 := Num.w64 (by omega) (by omega)
    rw [if_pos rfl, ha1, if_pos (by omega), if_pos (h2 rfl), ea, eb, Num.w64 (n := 256 * bt s (a + 1)) (by omega) (by omega), Num.w64 (n := bt s a + 256 * bt s (a + 1)) (by omega) (by omega), Num.w64 (n := bt s a + 256 * bt s (a + 1) - 65536) (by omega) (by omega), ei, hv]
    have e : smp s (if true = true then 16 else 8) a = s16 (bt s a) (bt s (a + 1)) := by simp [smp]
    rw [e, s16_eq b1.1 b1.2 b2.1 b2.2]
    by_cases hg : bt s a + 256 * bt s (a + 1) > 32767
    · rw [if_pos hg, if_pos hg, if_pos hi0, if_pos rfl]
    · rw [if_neg hg, if_neg hg, if_pos hi0, if_pos rfl]
/-- All samples of a channel. -/
theorem l1_all (k : Nat) (wide : Bool) (w8 : Int) (s : ByteArray) (chs : List (List Int)) (ch C B : Int) (n : Nat) (at_ : Nat → Int) (hc0 : 0 ≤ ch) (hc1 : ch < (chs.length : Int)) (hc2 : ch ≤ 2) (hn : ((rd_L1 chs ch).length : Int) = n) (hn2 : n ≤ 4096)
    (ha : ∀ i : Nat, i < n → wrap64 ((wrap64 (i * w8)) + (wrap64 (Int.tdiv (wrap64 (ch * B)) 8))) = at_ i) (h0 : ∀ i, i < n → 0 ≤ at_ i) (h1 : ∀ i, i < n → at_ i < (s.size : Int)) (h2 : ∀ i, i < n → wide = true → at_ i + 1 < (s.size : Int)) (hs : (s.size : Int) ≤ 4096)
    (hv : ∀ i : Nat, i < n → rd (rd_L1 chs ch) i = smp s (if wide = true then 16 else 8) (at_ i)) (d : Nat) :
    ∀ i : Nat, i + d = n → descantlaw19_PcmFrames.l1 (k + d + 1) wide w8 s chs ch i C B = descantlaw19_PcmFrames.l0 k wide w8 s chs (ch + 1) C B := by
  induction d with
  | zero =>
    intro i hi
    simp only [descantlaw19_PcmFrames.l1]
    rw [if_pos hc0, if_pos hc1, if_neg (by omega), Num.w64 (n := ch + 1) (by omega) (by omega)]
  | succ d ih =>
    intro i hi
    rw [show k + (d + 1) + 1 = (k + d + 1) + 1 by omega, l1_step (k + d + 1) wide w8 s chs ch i C B (at_ i) hc0 hc1 (by omega) (by omega) (by omega) (ha i (by omega)) (h0 i (by omega)) (h1 i (by omega)) (h2 i (by omega)) hs (hv i (by omega))]
    have := ih (i + 1) (by omega)
    rw [show ((i + 1 : Nat) : Int) = (i : Int) + 1 by omega] at this
    exact this
theorem l0_end (k : Nat) (wide : Bool) (w8 : Int) (s : ByteArray) (chs : List (List Int)) (C B : Int) : descantlaw19_PcmFrames.l0 (k + 1) wide w8 s chs C C B = some true := by
  simp only [descantlaw19_PcmFrames.l0]
  rw [if_neg (by omega)]
theorem l0_step (k : Nat) (wide : Bool) (w8 : Int) (s : ByteArray) (chs : List (List Int)) (ch C B : Int) (n : Nat) (hc : ch < C) (hc0 : 0 ≤ ch) (hc1 : ch < (chs.length : Int)) (h8 : w8 ≠ 0) (hn : ((rd_L1 chs ch).length : Int) = n) (hq : wrap64 ((s.size : Int) / w8) = n) : descantlaw19_PcmFrames.l0 (k + 1) wide w8 s chs ch C B = descantlaw19_PcmFrames.l1 k wide w8 s chs ch 0 C B := by
  simp only [descantlaw19_PcmFrames.l0]
  rw [if_pos hc, if_pos hc0, if_pos hc1, if_neg h8, hq, if_pos hn]
theorem rd_map (n : Nat) (f : Nat → Int) (i : Nat) (h : i < n) : rd ((List.range n).map f) i = f i := by
  simp [rd, h]
theorem part_size (s : ByteArray) (m : Nat) (h : m ≤ s.size) : (s.extract 0 m).size = m := by
  rw [ByteArray.size_extract]; omega
/-- The loops, in each of the four formats. -/
theorem one_ch (k : Nat) (wide : Bool) (B w : Int) (hw : B = 8 ∧ w = 1 ∧ wide = false ∨ B = 16 ∧ w = 2 ∧ wide = true) (s : ByteArray) (n : Nat) (hn : (n : Int) * w = s.size) (hs : s.size ≤ 4096) : descantlaw19_PcmFrames.l0 (k + n + 4) wide w s (chans s 1 B w n) 0 1 B = some true := by
  have hc : chans s 1 B w n = [(List.range n).map fun j : Nat => smp s B ((j : Int) * w)] := by unfold chans; rw [if_pos rfl]
  have hr : rd_L1 (chans s 1 B w n) 0 = (List.range n).map fun j : Nat => smp s B ((j : Int) * w) := by rw [hc]; rfl
  have hl : ((rd_L1 (chans s 1 B w n) 0).length : Int) = n := by rw [hr]; simp
  have hn2 : n ≤ 4096 := by rcases hw with ⟨_, h, _⟩ | ⟨_, h, _⟩ <;> rw [h] at hn <;> omega
  have hB : (if wide = true then (16 : Int) else 8) = B := by rcases hw with ⟨h1, _, h2⟩ | ⟨h1, _, h2⟩ <;> rw [h1, h2] <;> rfl
  rw [show k + n + 4 = (k + n + 3) + 1 by omega, l0_step (k + n + 3) wide w s _ 0 1 B n (by omega) (by omega) (by rw [hc]; simp) (by omega) hl (by rw [← hn]; rcases hw with ⟨_, h, _⟩ | ⟨_, h, _⟩ <;> rw [h] <;> exact (Num.w64 (by omega) (by omega)).trans (by omega))]
  have := l1_all (k + 2) wide w s (chans s 1 B w n) 0 1 B n (fun i => (i : Int) * w) (by omega) (by rw [hc]; simp) (by omega) hl hn2 (fun i hi => by
    rw [Int.zero_mul, show wrap64 (Int.tdiv (wrap64 0) 8) = 0 from by decide +kernel]
    rcases hw with ⟨_, h, _⟩ | ⟨_, h, _⟩ <;> rw [h, Num.w64 (n := (i : Int) * _) (by omega) (by omega), Int.add_zero] <;> exact Num.w64 (by omega) (by omega)) (fun i hi => by rcases hw with ⟨_, h, _⟩ | ⟨_, h, _⟩ <;> rw [h] <;> omega) (fun i hi => by rw [← hn]; rcases hw with ⟨_, h, _⟩ | ⟨_, h, _⟩ <;> rw [h] <;> omega) (fun i hi hwd => by
    rcases hw with ⟨_, _, h2⟩ | ⟨_, h, _⟩
    · rw [h2] at hwd; exact absurd hwd (by decide)
    · rw [← hn, h]; omega) (by omega) (fun i hi => by rw [hr, hB]; exact rd_map n _ i hi) n 0 (by omega)
  rw [show k + 2 + n + 1 = k + n + 3 by omega] at this
  rw [show ((0 : Nat) : Int) = 0 from rfl] at this
  rw [this, show (0 : Int) + 1 = 1 from rfl, show k + 2 = (k + 1) + 1 by omega]
  exact l0_end _ _ _ _ _ _ _
theorem two_ch (k : Nat) (wide : Bool) (B w : Int) (hw : B = 8 ∧ w = 1 ∧ wide = false ∨ B = 16 ∧ w = 2 ∧ wide = true) (s : ByteArray) (n : Nat) (hn : (n : Int) * (2 * w) = s.size) (hs : s.size ≤ 4096) : descantlaw19_PcmFrames.l0 (k + 2 * n + 8) wide (2 * w) s (chans s 2 B w (2 * n)) 0 2 B = some true := by
  have hc : chans s 2 B w (2 * n) = [(List.range n).map fun j : Nat => smp s B (((2 * j : Nat) : Int) * w), (List.range n).map fun j : Nat => smp s B (((2 * j + 1 : Nat) : Int) * w)] := by
    unfold chans; rw [if_neg (by decide), show (2 * n + 1) / 2 = n by omega, show 2 * n / 2 = n by omega]
  have hr0 : rd_L1 (chans s 2 B w (2 * n)) 0 = (List.range n).map fun j : Nat => smp s B (((2 * j : Nat) : Int) * w) := by rw [hc]; rfl
  have hr1 : rd_L1 (chans s 2 B w (2 * n)) 1 = (List.range n).map fun j : Nat => smp s B (((2 * j + 1 : Nat) : Int) * w) := by rw [hc]; rfl
  have hl0 : ((rd_L1 (chans s 2 B w (2 * n)) 0).length : Int) = n := by rw [hr0]; simp
  have hl1 : ((rd_L1 (chans s 2 B w (2 * n)) 1).length : Int) = n := by rw [hr1]; simp
  have hlen : ((chans s 2 B w (2 * n)).length : Int) = 2 := by rw [hc]; rfl
  have hn2 : n ≤ 4096 := by rcases hw with ⟨_, h, _⟩ | ⟨_, h, _⟩ <;> rw [h] at hn <;> omega
  have hB : (if wide = true then (16 : Int) else 8) = B := by rcases hw with ⟨h1, _, h2⟩ | ⟨h1, _, h2⟩ <;> rw [h1, h2] <;> rfl
  have hq : wrap64 ((s.size : Int) / (2 * w)) = n := by rw [← hn]; rcases hw with ⟨_, h, _⟩ | ⟨_, h, _⟩ <;> rw [h] <;> exact (Num.w64 (by omega) (by omega)).trans (by omega)
  have a0 := l1_all (k + n + 6) wide (2 * w) s (chans s 2 B w (2 * n)) 0 2 B n (fun i => ((2 * i : Nat) : Int) * w) (by omega) (by omega) (by omega) hl0 hn2 (fun i hi => by
    rw [Int.zero_mul, show wrap64 (Int.tdiv (wrap64 0) 8) = 0 from by decide +kernel]
    rcases hw with ⟨_, h, _⟩ | ⟨_, h, _⟩ <;> rw [h, Num.w64 (n := (i : Int) * _) (by omega) (by omega), Int.add_zero, Num.w64 (by omega) (by omega)] <;> omega) (fun i hi => by rcases hw with ⟨_, h, _⟩ | ⟨_, h, _⟩ <;> rw [h] <;> omega) (fun i hi => by rw [← hn]; rcases hw with ⟨_, h, _⟩ | ⟨_, h, _⟩ <;> rw [h] <;> omega) (fun i hi hwd => by
    rcases hw with ⟨_, _, h2⟩ | ⟨_, h, _⟩
    · rw [h2] at hwd; exact absurd hwd (by decide)
    · rw [← hn, h]; omega) (by omega) (fun i hi => by rw [hr0, hB]; exact rd_map n _ i hi) n 0 (by omega)
  have a1 := l1_all (k + 4) wide (2 * w) s (chans s 2 B w (2 * n)) 1 2 B n (fun i => ((2 * i + 1 : Nat) : Int) * w) (by omega) (by omega) (by omega) hl1 hn2 (fun i hi => by
    rcases hw with ⟨h8, h, _⟩ | ⟨h8, h, _⟩
    · rw [h8, h, show wrap64 (Int.tdiv (wrap64 (1 * 8)) 8) = 1 from by decide +kernel, Num.w64 (n := (i : Int) * _) (by omega) (by omega), Num.w64 (by omega) (by omega)]; omega
    · rw [h8, h, show wrap64 (Int.tdiv (wrap64 (1 * 16)) 8) = 2 from by decide +kernel, Num.w64 (n := (i : Int) * _) (by omega) (by omega), Num.w64 (by omega) (by omega)]; omega) (fun i hi => by rcases hw with ⟨_, h, _⟩ | ⟨_, h, _⟩ <;> rw [h] <;> omega) (fun i hi => by rw [← hn]; rcases hw with ⟨_, h, _⟩ | ⟨_, h, _⟩ <;> rw [h] <;> omega) (fun i hi hwd => by
    rcases hw with ⟨_, _, h2⟩ | ⟨_, h, _⟩
    · rw [h2] at hwd; exact absurd hwd (by decide)
    · rw [← hn, h]; omega) (by omega) (fun i hi => by rw [hr1, hB]; exact rd_map n _ i hi) n 0 (by omega)
  rw [show ((0 : Nat) : Int) = 0 from rfl] at a0 a1
  have w0 : 2 * w ≠ 0 := by rcases hw with ⟨_, h, _⟩ | ⟨_, h, _⟩ <;> rw [h] <;> decide
  rw [show k + 2 * n + 8 = (k + 2 * n + 7) + 1 by omega, l0_step (k + 2 * n + 7) wide (2 * w) s _ 0 2 B n (by omega) (by omega) (by omega) w0 hl0 hq, show k + 2 * n + 7 = k + n + 6 + n + 1 by omega, a0, show (0 : Int) + 1 = 1 from rfl, show k + n + 6 = (k + n + 5) + 1 by omega, l0_step (k + n + 5) wide (2 * w) s _ 1 2 B n (by omega) (by omega) (by omega) w0 hl1 hq, show k + n + 5 = k + 4 + n + 1 by omega, a1, show (1 : Int) + 1 = 2 from rfl, show k + 4 = (k + 3) + 1 by omega]
  exact l0_end _ _ _ _ _ _ _
/-- What follows the choice of a format. -/
theorem j1_true (a0 : ByteArray) (ha : a0.size ≤ 140737488351232) (wide : Bool) (c B w F : Int) (hw : B = 8 ∧ w = 1 ∧ wide = false ∨ B = 16 ∧ w = 2 ∧ wide = true) (hc : c = 1 ∧ F = w ∨ c = 2 ∧ F = 2 * w) : descantlaw19_PcmFrames.j1 19990 a0 wide c B = some true := by
  have hF : wrap64 (Int.tdiv (wrap64 (c * B)) 8) = F := by
    rcases hw with ⟨rfl, rfl, _⟩ | ⟨rfl, rfl, _⟩ <;> rcases hc with ⟨rfl, rfl⟩ | ⟨rfl, rfl⟩ <;> decide +kernel
  have hF2 : F = 1 ∨ F = 2 ∨ F = 4 := by rcases hw with ⟨_, rfl, _⟩ | ⟨_, rfl, _⟩ <;> rcases hc with ⟨_, rfl⟩ | ⟨_, rfl⟩ <;> decide
  have hfs : fs c B = F := by unfold fs; rcases hw with ⟨rfl, rfl, _⟩ | ⟨rfl, rfl, _⟩ <;> rcases hc with ⟨rfl, rfl⟩ | ⟨rfl, rfl⟩ <;> decide
  have hfm : fmtOk c B = true := by unfold fmtOk; rcases hw with ⟨rfl, rfl, _⟩ | ⟨rfl, rfl, _⟩ <;> rcases hc with ⟨rfl, rfl⟩ | ⟨rfl, rfl⟩ <;> decide
  obtain ⟨n, hn⟩ : ∃ n : Nat, (n : Int) = (a0.size : Int) / F := ⟨((a0.size : Int) / F).toNat, by rcases hF2 with h | h | h <;> rw [h] <;> omega⟩
  have hnF : 0 ≤ (n : Int) * F ∧ (n : Int) * F ≤ a0.size := by rw [hn]; rcases hF2 with h | h | h <;> rw [h] <;> omega
  obtain ⟨m, hm⟩ : ∃ m : Nat, (m : Int) = (n : Int) * F := ⟨((n : Int) * F).toNat, by omega⟩
  have e1 : wrap64 ((a0.size : Int) / F) = n := by rw [← hn]; exact Num.w64 (by omega) (by rcases hF2 with h | h | h <;> rw [h] at hn <;> omega)
  have e2 : wrap64 ((n : Int) * F) = m := by rw [← hm]; exact Num.w64 (by omega) (by omega)
  have hsz := part_size a0 m (by omega)
  obtain ⟨s, hs⟩ : ∃ s, s = a0.extract 0 m := ⟨_, rfl⟩
  rw [← hs] at hsz
  rw [show 19990 = 19989 + 1 from rfl]
  simp only [descantlaw19_PcmFrames.j1]
  rw [hF, if_neg (by rcases hF2 with h | h | h <;> rw [h] <;> decide), e1, e2, if_pos (by omega), if_pos (by omega), Int.toNat_natCast, ← hs, show 19989 = 15789 + 4200 from rfl, get_eq]
  simp only [Option.bind_some]
  have hdiv : (s.size : Int) % fs c B = 0 := by rw [hfs, hsz, hm]; exact Int.mul_emod_left _ _
  have hj : ∀ k chs x, descantlaw19_PcmFrames.j2 (k + 1) wide F s chs x c B = if x = true then some (decide ((s.size : Int) > 4096)) else descantlaw19_PcmFrames.l0 k wide F s chs 0 c B := fun k chs x => by simp only [descantlaw19_PcmFrames.j2]
  by_cases h : s.size ≤ 4096
  · have hg : getOk s c B = true := by unfold getOk; rw [hfm, decide_eq_true ⟨hdiv, h⟩]; rfl
    rw [if_pos hg]
    simp only [descantlaw0_Num.f, Option.bind_some]
    rw [if_pos trivial, show 15789 + 4200 = 19988 + 1 from rfl, hj]
    have hn4 : n ≤ 4096 := by rcases hF2 with e | e | e <;> rw [e] at hm <;> omega
    have hlen : ((samples s c B).length : Int) = c := by
      unfold samples; rw [chans_length _ _ _ _ _ (by omega)]; omega
    rw [if_neg (by rw [hlen]; simp)]
    unfold samples
    rcases hc with ⟨rfl, rfl⟩ | ⟨rfl, rfl⟩
    · have hq : s.size / (B / 8).toNat = n := by rcases hw with ⟨rfl, rfl, _⟩ | ⟨rfl, rfl, _⟩ <;> simp <;> omega
      have hB8 : B / 8 = F := by rcases hw with ⟨rfl, rfl, _⟩ | ⟨rfl, rfl, _⟩ <;> decide
      have := one_ch (19988 - n - 4) wide B F hw s n (by rw [hsz]; omega) h
      rw [show 19988 - n - 4 + n + 4 = 19988 by omega] at this
      rw [hq, hB8]; exact this
    · have hq : s.size / (B / 8).toNat = 2 * n := by rcases hw with ⟨rfl, rfl, _⟩ | ⟨rfl, rfl, _⟩ <;> simp <;> omega
      have hB8 : B / 8 = w := by rcases hw with ⟨rfl, rfl, _⟩ | ⟨rfl, rfl, _⟩ <;> decide
      have := two_ch (19988 - 2 * n - 8) wide B w hw s n (by rw [hsz]; omega) h
      rw [show 19988 - 2 * n - 8 + 2 * n + 8 = 19988 by omega] at this
      rw [hq, hB8]; exact this
  · have hg : getOk s c B = false := by unfold getOk; rw [hfm, decide_eq_false (fun e => h e.2)]; rfl
    rw [hg, if_neg (by decide)]
    simp only [descantlaw0_Num.f, Option.bind_some]
    rw [if_neg (by decide), show 15789 + 4200 = 19988 + 1 from rfl, hj, if_pos rfl]
    congr 1
    exact decide_eq_true (by omega)
theorem PcmFrames : descantlaw19_PcmFrames.Pure := by
  intro a0 a1 a2 ha
  refine ⟨19991, ?_⟩
  unfold descantlaw19_PcmFrames.f
  rw [show 19991 = 19931 + 60 from rfl, awakeF, show 19931 + 60 = 19990 + 1 from rfl]
  simp only [Option.bind_some, if_true, descantlaw19_PcmFrames.j0]
  cases a1 <;> cases a2
  · rw [if_neg (by decide), if_neg (by decide)]; exact j1_true a0 ha false 1 8 1 1 (by decide) (by decide)
  · rw [if_neg (by decide), if_pos rfl]; exact j1_true a0 ha true 1 16 2 2 (by decide) (by decide)
  · rw [if_pos rfl, if_neg (by decide)]; exact j1_true a0 ha false 2 8 1 2 (by decide) (by decide)
  · rw [if_pos rfl, if_pos rfl]; exact j1_true a0 ha true 2 16 2 4 (by decide) (by decide)
end Go.Proofs.Ythiknekmgjnkdaa.Pure
