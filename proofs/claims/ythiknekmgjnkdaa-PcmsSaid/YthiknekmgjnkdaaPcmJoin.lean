/- 'PcmJoin' of chapter 19: the samples of frames one behind the other are those of both, channel by channel; the walk of the statement. No condition. -/
import Derived.Test.YthiknekmgjnkdaaPAllx12
import Derived.Test.YthiknekmgjnkdaaPcm
namespace Go.Proofs.Ythiknekmgjnkdaa.PAll
open Go Go.RowKit Go.Proofs.YthiknekmgjnkdaaW.PrintWords Go.Proofs.YthiknekmgjnkdaaW.PrintMore
set_option linter.unusedVariables false
set_option linter.unusedSimpArgs false

theorem bt_left (a b : ByteArray) (i : Int) (h0 : 0 ≤ i) (h : i < a.size) : bt (a ++ b) i = bt a i := by
  rw [Bytes.bt_eq, Bytes.bt_eq, Bytes.of_append]
  simp only [List.getD_eq_getElem?_getD]
  rw [List.getElem?_append_left (by rw [bytesOf_length]; omega)]
theorem bt_right (a b : ByteArray) (i : Int) (h0 : 0 ≤ i) : bt (a ++ b) ((a.size : Int) + i) = bt b i := by
  rw [Bytes.bt_eq, Bytes.bt_eq, Bytes.of_append]
  simp only [List.getD_eq_getElem?_getD]
  rw [List.getElem?_append_right (by rw [bytesOf_length]; omega), bytesOf_length, show ((a.size : Int) + i).toNat - a.size = i.toNat by omega]
theorem smp_left (a b : ByteArray) (w p : Int) (h0 : 0 ≤ p) (h : p + w / 8 ≤ a.size) (hw : w = 8 ∨ w = 16) : smp (a ++ b) w p = smp a w p := by
  unfold smp
  rcases hw with rfl | rfl
  · rw [if_pos rfl, if_pos rfl, bt_left a b p h0 (by omega)]
  · rw [if_neg (by decide), if_neg (by decide), bt_left a b p h0 (by omega), bt_left a b (p + 1) (by omega) (by omega)]
theorem smp_right (a b : ByteArray) (w p : Int) (h0 : 0 ≤ p) : smp (a ++ b) w ((a.size : Int) + p) = smp b w p := by
  unfold smp
  rw [bt_right a b p h0, show (a.size : Int) + p + 1 = (a.size : Int) + (p + 1) by omega, bt_right a b (p + 1) (by omega)]

/-- A channel of so many frames. -/
def chan (s : ByteArray) (c b : Int) (h F : Nat) : List Int := (List.range F).map fun j => smp s b (((c.toNat * j + h : Nat) : Int) * (b / 8))
theorem chan_length (s : ByteArray) (c b : Int) (h F : Nat) : (chan s c b h F).length = F := by simp [chan]
def frames (s : ByteArray) (c b : Int) : Nat := s.size / (fs c b).toNat
theorem frames_eq {s : ByteArray} {c b : Int} (hg : getOk s c b = true) : (frames s c b : Int) * fs c b = s.size ∧ frames s c b ≤ 4096 ∧ samples s c b = (List.range c.toNat).map fun h => chan s c b h (frames s c b) := by
  unfold getOk fmtOk at hg
  rw [Bool.and_eq_true, decide_eq_true_iff, decide_eq_true_iff] at hg
  obtain ⟨⟨rfl | rfl, rfl | rfl⟩, h1, h2⟩ := hg <;> simp [fs] at h1 <;> refine ⟨by simp [frames, fs] <;> omega, by simp [frames, fs] <;> omega, ?_⟩ <;> simp [samples, chans, frames, fs, chan, List.range_succ]
  · rw [show (s.size + 1) / 2 = s.size / 2 by omega]
  · rw [show (s.size / 2 + 1) / 2 = s.size / 4 by omega, show s.size / 2 / 2 = s.size / 4 by omega]
    exact ⟨rfl, rfl⟩
theorem chan_join (a b : ByteArray) (c w : Int) (h : Nat) (hh : h < c.toNat) (ha : getOk a c w = true) (F : Nat) : chan (a ++ b) c w h (frames a c w + F) = chan a c w h (frames a c w) ++ chan b c w h F := by
  obtain ⟨e, _, _⟩ := frames_eq ha
  unfold getOk fmtOk at ha
  rw [Bool.and_eq_true, decide_eq_true_iff, decide_eq_true_iff] at ha
  unfold chan
  rw [List.range_add, List.map_append, List.map_map]
  congr 1
  · apply List.map_congr_left
    intro j hj
    have hj2 := List.mem_range.1 hj
    obtain ⟨⟨rfl | rfl, rfl | rfl⟩, _⟩ := ha <;> simp [fs] at e hh ⊢ <;> refine smp_left a b _ _ (by omega) (by omega) (by omega)
  · apply List.map_congr_left
    intro j _
    obtain ⟨⟨rfl | rfl, rfl | rfl⟩, _⟩ := ha <;> simp [fs] at e hh ⊢ <;> rw [← smp_right a b _ _ (by omega)] <;> congr 1 <;> omega

theorem same_ints (k : Nat) (xs : List Int) (hl : xs.length ≤ 100000) (n : Nat) : ∀ i : Int, 0 ≤ i → (xs.length : Int) - i ≤ n → descantlaw0_SameInts.l0 (k + n + 1) xs xs i = some true := by
  induction n with
  | zero => intro i h0 h; simp only [descantlaw0_SameInts.l0]; rw [if_neg (by omega)]
  | succ n ih =>
    intro i h0 h
    obtain ⟨m, hm⟩ : ∃ m, m = k + n + 1 := ⟨_, rfl⟩
    rw [show k + (n + 1) + 1 = m + 1 by omega]
    simp only [descantlaw0_SameInts.l0]
    by_cases c : i < (xs.length : Int)
    · rw [if_pos c, if_pos h0, if_pos c, if_pos trivial, Num.w64 (n := i + 1) (by omega) (by omega), hm]
      exact ih _ (by omega) (by omega)
    · rw [if_neg c]
theorem same_ints_f (k : Nat) (xs : List Int) (n : Nat) (hn : xs.length ≤ n) (hl : n ≤ 100000) : descantlaw0_SameInts.f (k + n + 1) xs xs = some true := by
  unfold descantlaw0_SameInts.f
  rw [if_pos rfl]
  exact same_ints k xs (by omega) n 0 (by decide) (by omega)

theorem rd_map (c : Int) (f : Nat → List Int) (i : Nat) (h : i < c.toNat) : rd_L1 ((List.range c.toNat).map f) (i : Int) = f i := by
  unfold rd_L1
  rw [Int.toNat_natCast, List.getD_eq_getElem?_getD, List.getElem?_map, List.getElem?_range h]
  rfl

theorem same_any (K : Nat) (xs : List Int) (hK : xs.length + 1 ≤ K) (hl : xs.length ≤ 100000) : descantlaw0_SameInts.f K xs xs = some true := by
  obtain ⟨k, rfl⟩ : ∃ k, K = k + xs.length + 1 := ⟨K - xs.length - 1, by omega⟩
  exact same_ints_f k xs xs.length (Nat.le_refl _) hl

theorem join_loop (K : Nat) (hK : 8193 ≤ K) (c : Int) (hc : 0 ≤ c) (hc4 : c ≤ 4) (f g r : Nat → List Int) (hf : ∀ i, i < c.toNat → (f i).length ≤ 4096 ∧ (g i).length ≤ 4096 ∧ f i ++ g i = r i) (n : Nat) :
    ∀ i : Nat, i + n = c.toNat → descantlaw19_PcmJoin.l0 (K + n + 1) ((List.range c.toNat).map f) ((List.range c.toNat).map g) ((List.range c.toNat).map r) i = some true := by
  induction n with
  | zero =>
    intro i hi
    simp only [descantlaw19_PcmJoin.l0]
    rw [if_neg (by simp; omega)]
  | succ n ih =>
    intro i hi
    obtain ⟨m, hm⟩ : ∃ m, m = K + n + 1 := ⟨_, rfl⟩
    rw [show K + (n + 1) + 1 = m + 1 by omega]
    simp only [descantlaw19_PcmJoin.l0]
    have hic : i < c.toNat := by omega
    obtain ⟨h1, h2, h3⟩ := hf i hic
    rw [if_pos (by simp; omega)]
    simp only [Option.bind_some]
    rw [if_pos (by omega), if_pos (by simp; omega), rd_map c f i hic, rd_map c g i hic, rd_map c r i hic, if_pos (by simp; omega)]
    simp only [Option.bind_some, List.nil_append]
    rw [if_pos (by simp; omega), if_pos (by omega), h3]
    have hl : (r i).length ≤ 8192 := by rw [← h3, List.length_append]; omega
    rw [same_any m (r i) (by omega) (by omega)]
    simp only [Option.bind_some, if_true]
    rw [Num.w64 (n := (i : Int) + 1) (by omega) (by omega), show (i : Int) + 1 = ((i + 1 : Nat) : Int) by omega, hm]
    exact ih (i + 1) (by omega)

theorem refMay_eq (c b : Int) : descantref13_FormatMay.f c b = some (fmtOk c b) := by
  unfold descantref13_FormatMay.f descantref13_upTo.f fmtOk
  by_cases h1 : c ≥ 1
  · rw [if_pos h1]
    by_cases h2 : c ≤ 2
    · rw [decide_eq_true h2]
      simp only [Option.bind_some, if_true]
      by_cases h3 : b = 8
      · rw [if_pos h3]; congr 1; symm; rw [decide_eq_true_iff]; omega
      · rw [if_neg h3]; congr 1; rw [Bool.eq_iff_iff, beq_iff_eq, decide_eq_true_iff]; omega
    · rw [decide_eq_false h2]
      simp only [Option.bind_some]
      rw [if_neg (by decide)]; congr 1; symm; rw [decide_eq_false_iff_not]; omega
  · rw [if_neg h1]
    simp only [Option.bind_some]
    rw [if_neg (by decide)]; congr 1; symm; rw [decide_eq_false_iff_not]; omega

theorem awake19 (k : Nat) : descantlaw19_awake.f (k + 60) = some true := by
  have h : descantlaw19_awake.f 60 = some true := by decide +kernel
  induction k with
  | zero => exact h
  | succ k ih => exact (descantlaw19_awake.mono _ _ ih)

theorem join_true (a b : ByteArray) (c w : Int) (ha : a.size ≤ 140737488351232) (hb : b.size ≤ 140737488351232) : descantlaw19_PcmJoin.f 9010 a b c w = some true := by
  unfold descantlaw19_PcmJoin.f
  rw [show 9010 = 8950 + 60 from rfl, awake19 8950, show 8950 + 60 = 4810 + 4200 from rfl, get_eq, get_eq, get_eq]
  simp only [Option.bind_some, if_true]
  rw [if_pos (by omega)]
  simp only [Option.bind_some, descantlaw0_Num.f]
  cases h1 : getOk a c w
  · simp only [if_neg (show ¬ (false = true) by decide)]
    rw [if_neg (by decide), show 4810 + 4200 = 9009 + 1 from rfl]
    simp only [descantlaw19_PcmJoin.j0, descantlaw0_Num.f, Option.bind_some]
    rw [if_pos trivial, if_neg (by decide)]
  · cases h2 : getOk b c w
    · simp only [if_neg (show ¬ (false = true) by decide), if_true]
      rw [if_neg (by decide), show 4810 + 4200 = 9009 + 1 from rfl]
      simp only [descantlaw19_PcmJoin.j0, descantlaw0_Num.f, Option.bind_some, if_true]
      rw [if_neg (by decide)]
    · obtain ⟨e1, n1, s1⟩ := frames_eq h1
      obtain ⟨e2, n2, s2⟩ := frames_eq h2
      have hfm : fmtOk c w = true := by unfold getOk at h1; rw [Bool.and_eq_true] at h1; exact h1.1
      obtain ⟨_, f1, f4⟩ := frame_eq hfm
      have hmod : ((a ++ b).size : Int) % fs c w = 0 := by
        rw [ByteArray.size_append, Int.natCast_add, ← e1, ← e2, ← Int.add_mul]
        exact Int.mul_emod_left _ _
      cases h3 : getOk (a ++ b) c w
      · simp only [if_neg (show ¬ (false = true) by decide), if_true]
        rw [show 4810 + 4200 = 9009 + 1 from rfl]
        simp only [descantlaw19_PcmJoin.j0, descantlaw0_Num.f, Option.bind_some, if_true]
        rw [if_pos (by decide)]
        unfold getOk at h3
        rw [hfm, Bool.true_and, decide_eq_false_iff_not, ByteArray.size_append] at h3
        rw [ByteArray.size_append] at hmod
        rw [Num.w64 (by omega) (by omega)]
        congr 1
        rw [decide_eq_true_iff]
        have : ¬ (a.size + b.size ≤ 4096) := fun h => h3 ⟨hmod, h⟩
        omega
      · obtain ⟨e3, n3, s3⟩ := frames_eq h3
        simp only [if_true]
        rw [show 4810 + 4200 = 9009 + 1 from rfl]
        simp only [descantlaw19_PcmJoin.j0]
        rw [s1, s2, s3, if_neg (by decide)]
        simp only [List.length_map, List.length_range]
        rw [if_pos trivial, if_pos trivial, refMay_eq, hfm]
        simp only [Option.bind_some]
        rw [show 9009 = 9008 + 1 from rfl]
        simp only [descantlaw19_PcmJoin.j1]
        rw [if_neg (by decide)]
        have hF : frames (a ++ b) c w = frames a c w + frames b c w := by
          rw [ByteArray.size_append, Int.natCast_add, ← e1, ← e2, ← Int.add_mul] at e3
          have := Int.eq_of_mul_eq_mul_right (show fs c w ≠ 0 by omega) e3
          omega
        have hc : c = 1 ∨ c = 2 := by
          unfold fmtOk at hfm; rw [decide_eq_true_iff] at hfm; exact hfm.1
        have j := join_loop (9007 - c.toNat) (by omega) c (by omega) (by omega) (fun h => chan a c w h (frames a c w)) (fun h => chan b c w h (frames b c w)) (fun h => chan (a ++ b) c w h (frames (a ++ b) c w)) (fun i hi => ⟨by rw [chan_length]; omega, by rw [chan_length]; omega, by rw [hF, chan_join a b c w i hi h1]⟩) c.toNat 0 (by omega)
        rw [show 9007 - c.toNat + c.toNat + 1 = 9008 by omega] at j
        exact j

theorem join_walk (a b : ByteArray) (c w : Int) (W : World) (ha : a.size ≤ 140737488351232) (hb : b.size ≤ 140737488351232) (_hc : ∀ x ∈ [c, w], IntKind.i64.has x) :
    Calls Try.prog 6 #[.string a, .string b, .agg #[.int .i64 c, .int .i64 w]] W fun e W' => e = .returned (.bool true) ∧ Below W.heap.size W W' :=
  descantlaw19_PcmJoin.calls 9010 a b c w true W (join_true a b c w ha hb)

end Go.Proofs.Ythiknekmgjnkdaa.PAll
