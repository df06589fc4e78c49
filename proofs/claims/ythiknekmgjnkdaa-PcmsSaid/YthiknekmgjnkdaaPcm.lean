/- Samples in bytes (layer 19): what the printed Get comes to. -/
import Derived.Test.YthiknekmgjnkdaaPAllx2
import Derived.Test.YthiknekmgjnkdaaNum
import Derived.Test.YthiknekmgjnkdaaBytes
namespace Go.Proofs.Ythiknekmgjnkdaa.PAll
open Go Go.RowKit Go.Proofs.YthiknekmgjnkdaaW.PrintWords Go.Proofs.YthiknekmgjnkdaaW.PrintMore
set_option linter.unusedVariables false
set_option linter.unusedSimpArgs false

theorem bt_extract (s : ByteArray) (a b i : Nat) (h : a + i < b) : bt (s.extract a b) (i : Int) = bt s ((a + i : Nat) : Int) := by
  rw [Bytes.bt_eq, Bytes.bt_eq, Bytes.of_extract, Int.toNat_natCast, Int.toNat_natCast]
  simp only [List.getD_eq_getElem?_getD]
  rw [List.getElem?_take, if_pos (by omega), List.getElem?_drop]

/-- The number of two bytes. -/
def s16 (lo hi : Int) : Int := IntKind.i16.wrap (Go.bits .or .u16 (IntKind.u16.wrap lo) (IntKind.u16.wrap ((IntKind.u16.wrap hi) * 256)))
theorem wrap_u16 (n : Int) : IntKind.u16.wrap n = n % 65536 := by simp [IntKind.wrap, IntKind.bits, IntKind.signed]
theorem wrap_i16 (n : Int) : IntKind.i16.wrap n = (n + 32768) % 65536 - 32768 := by
  simp [IntKind.wrap, IntKind.bits, IntKind.signed]
  split <;> omega
theorem s16_eq {lo hi : Int} (h0 : 0 ≤ lo) (h1 : lo ≤ 255) (h2 : 0 ≤ hi) (h3 : hi ≤ 255) : s16 lo hi = if lo + 256 * hi > 32767 then lo + 256 * hi - 65536 else lo + 256 * hi := by
  have e : Go.bits .or .u16 (hi * 256) lo = hi * 256 + lo :=
    bits_join .u16 16 (by decide) (fun n a b => by rw [wrap_u16]; omega) 8 (hi * 256) lo (by omega) (by omega) (by omega) h0 (by omega) (by omega)
  have e2 : Go.bits .or .u16 lo (hi * 256) = Go.bits .or .u16 (hi * 256) lo := by simp only [Go.bits, BitVec.or_comm]
  unfold s16
  rw [wrap_u16, wrap_u16, wrap_u16, show lo % 65536 = lo by omega, show hi % 65536 * 256 % 65536 = hi * 256 by omega, e2, e, wrap_i16]
  split <;> omega

/-- The sample that stands somewhere. -/
def smp (s : ByteArray) (b : Int) (p : Int) : Int := if b = 8 then bt s p - 128 else s16 (bt s p) (bt s (p + 1))
theorem smp_in (s : ByteArray) (b p : Int) : -32768 ≤ smp s b p ∧ smp s b p ≤ 32767 := by
  have h1 := bt_range s p
  have h2 := bt_range s (p + 1)
  unfold smp
  split
  · omega
  · rw [s16_eq h1.1 h1.2 h2.1 h2.2]; split <;> omega

/-- The channels of the first i samples. -/
def chans (s : ByteArray) (c b w : Int) (i : Nat) : List (List Int) :=
  if c = 1 then [(List.range i).map fun j : Nat => smp s b ((j : Int) * w)]
  else [(List.range ((i + 1) / 2)).map fun j : Nat => smp s b (((2 * j : Nat) : Int) * w), (List.range (i / 2)).map fun j : Nat => smp s b (((2 * j + 1 : Nat) : Int) * w)]

theorem sample_at {s : ByteArray} {b w : Int} (hb : b = 8 ∧ w = 1 ∨ b = 16 ∧ w = 2) (i : Nat) (h : ((i : Int) + 1) * w ≤ s.size) :
    pcm_sample.f (s.extract ((i : Int) * w).toNat (((i : Int) + 1) * w).toNat) = some (smp s b (i * w)) := by
  unfold pcm_sample.f
  rw [ByteArray.size_extract]
  rcases hb with ⟨rfl, rfl⟩ | ⟨rfl, rfl⟩
  · have e : min ((i : Int) + 1 * 1).toNat s.size = i + 1 := by omega
    rw [if_pos (by omega), if_pos (by omega)]
    have hx := bt_extract s ((i : Int) * 1).toNat (((i : Int) + 1) * 1).toNat 0 (by omega)
    rw [show ((0 : Nat) : Int) = 0 from rfl] at hx
    rw [hx, show ((((i : Int) * 1).toNat + 0 : Nat) : Int) = (i : Int) * 1 by omega]
    have := bt_range s ((i : Int) * 1)
    rw [Num.w64 (n := bt s _) (by omega) (by omega), Num.w64 (by omega) (by omega)]
    simp [smp]
  · rw [if_neg (by omega), if_pos (by omega), if_pos (by omega)]
    have h0 := bt_extract s ((i : Int) * 2).toNat (((i : Int) + 1) * 2).toNat 0 (by omega)
    have h1 := bt_extract s ((i : Int) * 2).toNat (((i : Int) + 1) * 2).toNat 1 (by omega)
    rw [show ((0 : Nat) : Int) = 0 from rfl] at h0
    rw [show ((1 : Nat) : Int) = 1 from rfl] at h1
    rw [h0, h1, show ((((i : Int) * 2).toNat + 0 : Nat) : Int) = (i : Int) * 2 by omega, show ((((i : Int) * 2).toNat + 1 : Nat) : Int) = (i : Int) * 2 + 1 by omega]
    have r := smp_in s 16 ((i : Int) * 2)
    have e : smp s 16 ((i : Int) * 2) = s16 (bt s ((i : Int) * 2)) (bt s ((i : Int) * 2 + 1)) := by simp [smp]
    rw [e] at r ⊢
    unfold s16 at r ⊢
    rw [Num.w64 (by omega) (by omega)]

theorem chans_length (s : ByteArray) (c b w : Int) (i : Nat) (hc : c = 1 ∨ c = 2) : (chans s c b w i).length = c.toNat := by
  unfold chans; rcases hc with rfl | rfl <;> rfl
theorem chans_zero (s : ByteArray) (c b w : Int) (hc : c = 1 ∨ c = 2) : chans s c b w 0 = List.replicate c.toNat [] := by
  unfold chans; rcases hc with rfl | rfl <;> rfl
/-- One sample more. -/
theorem chans_step (s : ByteArray) (c b w : Int) (i : Nat) (hc : c = 1 ∨ c = 2) :
    (chans s c b w i).set ((i : Int) % c).toNat ((chans s c b w i).getD ((i : Int) % c).toNat [] ++ [smp s b (i * w)]) = chans s c b w (i + 1) ∧ ((chans s c b w i).getD ((i : Int) % c).toNat []).length ≤ i := by
  unfold chans
  rcases hc with rfl | rfl
  · rw [if_pos rfl, if_pos rfl, show ((i : Int) % 1).toNat = 0 by omega]
    simp [List.range_succ]
  · rw [if_neg (by decide), if_neg (by decide)]
    by_cases h : i % 2 = 0
    · rw [show ((i : Int) % 2).toNat = 0 by omega, show (i + 1 + 1) / 2 = i / 2 + 1 by omega, show (i + 1) / 2 = i / 2 by omega]
      simp [List.range_succ]
      refine ⟨?_, by omega⟩
      rw [show ((2 : Int) * ((i : Int) / 2)) = (i : Int) by omega]
    · rw [show ((i : Int) % 2).toNat = 1 by omega, show (i + 1 + 1) / 2 = (i + 1) / 2 by omega, show (i + 1) / 2 = i / 2 + 1 by omega]
      simp [List.range_succ]
      refine ⟨?_, by omega⟩
      rw [show ((2 : Int) * ((i : Int) / 2)) + 1 = (i : Int) by omega]

theorem get_loop (k : Nat) (s : ByteArray) (c b w : Int) (hs : s.size ≤ 4096) (hc : c = 1 ∨ c = 2) (hb : b = 8 ∧ w = 1 ∨ b = 16 ∧ w = 2) (N : Nat) (hN : (N : Int) * w = s.size) (d : Nat) :
    ∀ i : Nat, i + d = N → pcm_Get.l0 (k + d + 1) s (chans s c b w i) w i c b = some (chans s c b w N, 0) := by
  have hw : w = 1 ∨ w = 2 := by omega
  induction d with
  | zero =>
    intro i hi
    simp only [pcm_Get.l0]
    have hiN : i = N := by omega
    subst hiN
    have hl : (i : Int) ≤ 4096 := by rcases hw with rfl | rfl <;> omega
    rw [Num.w64 (n := (i : Int) * w) (by rcases hw with rfl | rfl <;> omega) (by rcases hw with rfl | rfl <;> omega), if_neg (by omega)]
  | succ d ih =>
    intro i hi
    obtain ⟨m, hm⟩ : ∃ m, m = k + d + 1 := ⟨_, rfl⟩
    rw [show k + (d + 1) + 1 = m + 1 by omega]
    simp only [pcm_Get.l0]
    rw [hm]
    have h1 : ((i : Int) + 1) * w ≤ s.size := by
      rw [← hN]; rcases hw with rfl | rfl <;> omega
    have h2 : (i : Int) * w + w = ((i : Int) + 1) * w := by rw [Int.add_mul, Int.one_mul]
    have hl : (i : Int) ≤ 4096 := by rcases hw with rfl | rfl <;> omega
    have h0 : 0 ≤ (i : Int) * w := by rcases hw with rfl | rfl <;> omega
    rw [Num.w64 (n := (i : Int) * w) (by omega) (by omega), if_pos (by omega), if_neg (by omega), Int.tmod_eq_emod_of_nonneg (by omega), Num.w64 (n := (i : Int) + 1) (by omega) (by omega), Num.w64 (n := ((i : Int) + 1) * w) (by omega) (by omega)]
    have m0 : 0 ≤ (i : Int) % c := Int.emod_nonneg _ (by omega)
    have m1 : (i : Int) % c < c := Int.emod_lt_of_pos _ (by omega)
    have cl := chans_length s c b w i hc
    obtain ⟨st, ln⟩ := chans_step s c b w i hc
    have er : rd_L1 (chans s c b w i) ((i : Int) % c) = (chans s c b w i).getD ((i : Int) % c).toNat [] := rfl
    rw [if_pos m0, if_pos (by omega), if_pos h0, if_pos (by omega), if_pos h1, sample_at hb i h1]
    simp only [Option.bind_some]
    rw [er, if_pos (by omega), st, show (i : Int) + 1 = ((i + 1 : Nat) : Int) by omega]
    exact ih (i + 1) (by omega)

def fmtOk (c b : Int) : Bool := decide ((c = 1 ∨ c = 2) ∧ (b = 8 ∨ b = 16))
theorem may_eq (c b : Int) : pcm_May.f c b = some (fmtOk c b) := by
  unfold pcm_May.f fmtOk
  by_cases h1 : c = 1
  · rw [if_pos h1]
    by_cases h2 : b = 8
    · rw [if_pos h2]; congr 1; symm; rw [decide_eq_true_iff]; exact ⟨Or.inl h1, Or.inl h2⟩
    · rw [if_neg h2]; congr 1; rw [Bool.eq_iff_iff, beq_iff_eq, decide_eq_true_iff]; omega
  · rw [if_neg h1]
    by_cases h3 : c = 2
    · rw [if_pos h3]
      by_cases h2 : b = 8
      · rw [if_pos h2]; congr 1; symm; rw [decide_eq_true_iff]; exact ⟨Or.inr h3, Or.inl h2⟩
      · rw [if_neg h2]; congr 1; rw [Bool.eq_iff_iff, beq_iff_eq, decide_eq_true_iff]; omega
    · rw [if_neg h3]; congr 1; symm; rw [decide_eq_false_iff_not]; omega

/-- How many bytes a frame has. -/
def fs (c b : Int) : Int := c * b / 8
theorem frame_eq {c b : Int} (h : fmtOk c b = true) : pcm_Frame.f c b = some (fs c b) ∧ 1 ≤ fs c b ∧ fs c b ≤ 4 := by
  unfold fmtOk at h
  rw [decide_eq_true_iff] at h
  obtain ⟨rfl | rfl, rfl | rfl⟩ := h <;> refine ⟨?_, by decide, by decide⟩ <;> · unfold pcm_Frame.f wrap64; decide

/-- May these be frames of such a format? -/
def getOk (s : ByteArray) (c b : Int) : Bool := fmtOk c b && decide ((s.size : Int) % fs c b = 0 ∧ s.size ≤ 4096)
def samples (s : ByteArray) (c b : Int) : List (List Int) := chans s c b (b / 8) (s.size / (b / 8).toNat)
theorem get_eq (k : Nat) (s : ByteArray) (c b : Int) : pcm_Get.f (k + 4200) s c b = some (if getOk s c b = true then (samples s c b, 0) else ([], 1900)) := by
  have bad : ∀ k, pcm_Get.j0 (k + 1) s true c b = some ([], 1900) := fun k => by simp only [pcm_Get.j0]; rfl
  unfold pcm_Get.f
  rw [may_eq]
  simp only [Option.bind_some]
  cases hf : fmtOk c b
  · rw [if_neg (by decide), bad]; unfold getOk; rw [hf]; rfl
  · obtain ⟨e, f1, f4⟩ := frame_eq hf
    rw [if_pos rfl]
    unfold pcm_Frames.f
    rw [e]
    simp only [Option.bind_some]
    rw [if_neg (by omega)]
    simp only [Option.bind_some]
    by_cases h1 : (s.size : Int) % fs c b = 0
    · rw [show ((s.size : Int) % fs c b == 0) = true by rw [beq_iff_eq]; exact h1, if_pos rfl]
      by_cases h2 : s.size ≤ 4096
      · rw [show decide ((s.size : Int) > 4096) = false by rw [decide_eq_false_iff_not]; omega]
        have hg : getOk s c b = true := by unfold getOk; rw [hf, decide_eq_true ⟨h1, h2⟩]; rfl
        rw [if_pos hg, show k + 4200 = (k + 4199) + 1 by omega]
        simp only [pcm_Get.j0]
        unfold fmtOk at hf
        rw [decide_eq_true_iff] at hf
        have hw : b = 8 ∧ b / 8 = 1 ∨ b = 16 ∧ b / 8 = 2 := by omega
        rw [if_neg (by decide), if_pos (by omega), if_pos (by omega), Int.tdiv_eq_ediv_of_nonneg (by omega), Num.w64 (n := b / 8) (by omega) (by omega), ← chans_zero s c b (b / 8) hf.1]
        obtain ⟨N, hNd⟩ : ∃ N, N = s.size / (b / 8).toNat := ⟨_, rfl⟩
        have hN : (N : Int) * (b / 8) = s.size := by
          rcases hf with ⟨rfl | rfl, rfl | rfl⟩ <;> simp [fs] at h1 hNd ⊢ <;> omega
        have hl : N ≤ 4096 := by rcases hw with ⟨_, h⟩ | ⟨_, h⟩ <;> rw [h] at hN <;> omega
        have g := get_loop (k + 4198 - N) s c b (b / 8) h2 hf.1 hw N hN N 0 (by omega)
        rw [show k + 4198 - N + N + 1 = k + 4199 by omega] at g
        unfold samples
        rw [← hNd]
        exact g
      · rw [show decide ((s.size : Int) > 4096) = true by rw [decide_eq_true_iff]; omega, bad]
        unfold getOk; rw [hf, decide_eq_false (fun h => h2 h.2)]; rfl
    · rw [show ((s.size : Int) % fs c b == 0) = false by rw [beq_eq_false_iff_ne]; exact h1, if_neg (by decide), bad]
      unfold getOk; rw [hf, decide_eq_false (fun h => h1 h.1)]; rfl

end Go.Proofs.Ythiknekmgjnkdaa.PAll
