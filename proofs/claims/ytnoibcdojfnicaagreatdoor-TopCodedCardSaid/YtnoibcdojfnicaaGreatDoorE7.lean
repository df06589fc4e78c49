/- A part of the proof of a law of descanttop: this session's own texts and printed texts, shortened and joined. -/
import Derived.Test.YtnoibcdojfnicaaGreatDoorE6
import Derived.Shelf.Strings.Builder1
import Derived.Shelf.Strings.Builder2
import Derived.Shelf.Strings.OnBuilder
import Derived.Shelf.Small.Bits
import Derived.Shelf.Strings.Repeat
set_option linter.unusedVariables false
set_option linter.unusedSimpArgs false
set_option maxRecDepth 100000
set_option maxHeartbeats 16000000
namespace Go.Proofs.YtnoibcdojfnicaaGreatDoor.PG
open Go.Proofs.YtnoibcdojfnicaaGreatDoorW.Short
open Bool renaming true → Y, false → J
open Go Go.RowKit Go.Proofs.YtnoibcdojfnicaaGreatDoorW.PrintWords Go.Proofs.YtnoibcdojfnicaaGreatDoorW.PrintMore
theorem bt_extract (s : ByteArray) (a b i : Nat) (h : a + i < b) : bt (s.extract a b) (i : Int) = bt s ((a + i : Nat) : Int) := by
 rw [Bytes.bt_eq, Bytes.bt_eq, Bytes.of_extract, Int.toNat_natCast, Int.toNat_natCast]
 simp only [List.getD_eq_getElem?_getD]
 rw [List.getElem?_take, if_pos (by omega), List.getElem?_drop]
def s16 (lo hi : Int) : Int := IntKind.i16.wrap (Go.bits .or .u16 (IntKind.u16.wrap lo) (IntKind.u16.wrap ((IntKind.u16.wrap hi) * 256)))
theorem wrap_u16 (n : Int) : IntKind.u16.wrap n = n % 65536 := by simp [IntKind.wrap, IntKind.bits, IntKind.signed]
theorem wrap_i16 (n : Int) : IntKind.i16.wrap n = (n + 32768) % 65536 - 32768 := by
 simp [IntKind.wrap, IntKind.bits, IntKind.signed]
 split <;> omega
theorem s16_eq {lo hi : Int} (h0 : 0 ≤ lo) (h1 : lo ≤ 255) (h2 : 0 ≤ hi) (h3 : hi ≤ 255) : s16 lo hi = if lo + 256 * hi > 32767 then lo + 256 * hi - 65536 else lo + 256 * hi := by
 have e : Go.bits .or .u16 (hi * 256) lo = hi * 256 + lo :=
  bits_join .u16 16 (by decide) (fun n a b => by rw [wrap_u16]; omega) 8 (hi * 256) lo (by omega) (by omega) (by omega) h0 (by omega) (by omega)
 have e2 : Go.bits .or .u16 lo (hi * 256) = Go.bits .or .u16 (hi * 256) lo := by simp only [Go.bits, BitVec.or_comm]
 unfold s16
 rw [wrap_u16, wrap_u16, wrap_u16, show lo % 65536 = lo by omega, show hi % 65536 * 256 % 65536 = hi * 256 by omega, e2, e, wrap_i16]
 split <;> omega
def smp (s : ByteArray) (b : Int) (p : Int) : Int := if b = 8 then bt s p - 128 else s16 (bt s p) (bt s (p + 1))
theorem smp_in (s : ByteArray) (b p : Int) : -32768 ≤ smp s b p ∧ smp s b p ≤ 32767 := by
 have h1 := bt_range s p
 have h2 := bt_range s (p + 1)
 unfold smp
 split
 ·omega
 ·rw [s16_eq h1.1 h1.2 h2.1 h2.2]; split <;> omega
def chans (s : ByteArray) (c b w : Int) (i : Nat) : List (List Int) :=
 if c = 1 then [(List.range i).map fun j : Nat => smp s b ((j : Int) * w)]
 else [(List.range ((i + 1) / 2)).map fun j : Nat => smp s b (((2 * j : Nat) : Int) * w), (List.range (i / 2)).map fun j : Nat => smp s b (((2 * j + 1 : Nat) : Int) * w)]
theorem sample_at {s : ByteArray} {b w : Int} (hb : b = 8 ∧ w = 1 ∨ b = 16 ∧ w = 2) (i : Nat) (h : ((i : Int) + 1) * w ≤ s.size) :
  pcm_sample.f (s.extract ((i : Int) * w).toNat (((i : Int) + 1) * w).toNat) = some (smp s b (i * w)) := by
 unfold pcm_sample.f
 rw [ByteArray.size_extract]
 rcases hb with ⟨rfl, rfl⟩ | ⟨rfl, rfl⟩
 ·have e : min ((i : Int) + 1 * 1).toNat s.size = i + 1 := by omega
  rw [if_pos (by omega), if_pos (by omega)]
  have hx := bt_extract s ((i : Int) * 1).toNat (((i : Int) + 1) * 1).toNat 0 (by omega)
  rw [show ((0 : Nat) : Int) = 0 from rfl] at hx
  rw [hx, show ((((i : Int) * 1).toNat + 0 : Nat) : Int) = (i : Int) * 1 by omega]
  have := bt_range s ((i : Int) * 1)
  rw [Num.w64 (n := bt s _) (by omega) (by omega), Num.w64 (by omega) (by omega)]
  simp [smp]
 ·rw [if_neg (by omega), if_pos (by omega), if_pos (by omega)]
  have h0 := bt_extract s ((i : Int) * 2).toNat (((i : Int) + 1) * 2).toNat 0 (by omega)
  have h1 := bt_extract s ((i : Int) * 2).toNat (((i : Int) + 1) * 2).toNat 1 (by omega)
  rw [show ((0 : Nat) : Int) = 0 from rfl] at h0
  rw [show ((1 : Nat) : Int) = 1 from rfl] at h1
  rw [h0, h1, show ((((i : Int) * 2).toNat + 0 : Nat) : Int) = (i : Int) * 2 by omega, show ((((i : Int) * 2).toNat + 1 : Nat) : Int) = (i : Int) * 2 + 1 by omega]
  have r := smp_in s 16 ((i : Int) * 2)
  have e : smp s 16 ((i : Int) * 2) = s16 (bt s ((i : Int) * 2)) (bt s ((i : Int) * 2 + 1)) := by simp [smp]
  rw [e] at r ⊢
  unfold s16 at r ⊢
  rw [Num.w64 (by omega) (by omega)]
theorem chans_length (s : ByteArray) (c b w : Int) (i : Nat) (hc : c = 1 ∨ c = 2) : (chans s c b w i).length = c.toNat := by
 unfold chans; rcases hc with rfl | rfl <;> rfl
theorem chans_zero (s : ByteArray) (c b w : Int) (hc : c = 1 ∨ c = 2) : chans s c b w 0 = List.replicate c.toNat [] := by
 unfold chans; rcases hc with rfl | rfl <;> rfl
theorem chans_step (s : ByteArray) (c b w : Int) (i : Nat) (hc : c = 1 ∨ c = 2) :
  (chans s c b w i).set ((i : Int) % c).toNat ((chans s c b w i).getD ((i : Int) % c).toNat [] ++ [smp s b (i * w)]) = chans s c b w (i + 1) ∧ ((chans s c b w i).getD ((i : Int) % c).toNat []).length ≤ i := by
 unfold chans
 rcases hc with rfl | rfl
 ·rw [if_pos rfl, if_pos rfl, show ((i : Int) % 1).toNat = 0 by omega]
  simp [List.range_succ]
 ·rw [if_neg (by decide), if_neg (by decide)]
  by_cases h : i % 2 = 0
  ·rw [show ((i : Int) % 2).toNat = 0 by omega, show (i + 1 + 1) / 2 = i / 2 + 1 by omega, show (i + 1) / 2 = i / 2 by omega]
   simp [List.range_succ]
   refine ⟨?_, by omega⟩
   rw [show ((2 : Int) * ((i : Int) / 2)) = (i : Int) by omega]
  ·rw [show ((i : Int) % 2).toNat = 1 by omega, show (i + 1 + 1) / 2 = (i + 1) / 2 by omega, show (i + 1) / 2 = i / 2 + 1 by omega]
   simp [List.range_succ]
   refine ⟨?_, by omega⟩
   rw [show ((2 : Int) * ((i : Int) / 2)) + 1 = (i : Int) by omega]
theorem get_loop (k : Nat) (s : ByteArray) (c b w : Int) (hs : s.size ≤ 4096) (hc : c = 1 ∨ c = 2) (hb : b = 8 ∧ w = 1 ∨ b = 16 ∧ w = 2) (N : Nat) (hN : (N : Int) * w = s.size) (d : Nat) :
  ∀ i : Nat, i + d = N → pcm_Get.l0 (k + d + 1) s (chans s c b w i) w i c b = some (chans s c b w N, 0) := by
 have hw : w = 1 ∨ w = 2 := by omega
 induction d with
 | zero =>
  intro i hi
  simp only [pcm_Get.l0]
  have hiN : i = N := by omega
  subst hiN
  have hl : (i : Int) ≤ 4096 := by rcases hw with rfl | rfl <;> omega
  rw [Num.w64 (n := (i : Int) * w) (by rcases hw with rfl | rfl <;> omega) (by rcases hw with rfl | rfl <;> omega), if_neg (by omega)]
 | succ d ih =>
  intro i hi
  obtain ⟨m, hm⟩ : ∃ m, m = k + d + 1 := ⟨_, rfl⟩
  rw [show k + (d + 1) + 1 = m + 1 by omega]
  simp only [pcm_Get.l0]
  rw [hm]
  have h1 : ((i : Int) + 1) * w ≤ s.size := by
   rw [← hN]; rcases hw with rfl | rfl <;> omega
  have h2 : (i : Int) * w + w = ((i : Int) + 1) * w := by rw [Int.add_mul, Int.one_mul]
  have hl : (i : Int) ≤ 4096 := by rcases hw with rfl | rfl <;> omega
  have h0 : 0 ≤ (i : Int) * w := by rcases hw with rfl | rfl <;> omega
  rw [Num.w64 (n := (i : Int) * w) (by omega) (by omega), if_pos (by omega), if_neg (by omega), Int.tmod_eq_emod_of_nonneg (by omega), Num.w64 (n := (i : Int) + 1) (by omega) (by omega), Num.w64 (n := ((i : Int) + 1) * w) (by omega) (by omega)]
  have m0 : 0 ≤ (i : Int) % c := Int.emod_nonneg _ (by omega)
  have m1 : (i : Int) % c < c := Int.emod_lt_of_pos _ (by omega)
  have cl := chans_length s c b w i hc
  obtain ⟨st, ln⟩ := chans_step s c b w i hc
  have er : rd_L1 (chans s c b w i) ((i : Int) % c) = (chans s c b w i).getD ((i : Int) % c).toNat [] := rfl
  rw [if_pos m0, if_pos (by omega), if_pos h0, if_pos (by omega), if_pos h1, sample_at hb i h1]
  simp only [Option.bind_some]
  rw [er, if_pos (by omega), st, show (i : Int) + 1 = ((i + 1 : Nat) : Int) by omega]
  exact ih (i + 1) (by omega)
def fmtOk (c b : Int) : Bool := decide ((c = 1 ∨ c = 2) ∧ (b = 8 ∨ b = 16))
theorem may_eq (c b : Int) : pcm_May.f c b = some (fmtOk c b) := by
 unfold pcm_May.f fmtOk
 by_cases h1 : c = 1
 ·rw [if_pos h1]
  by_cases h2 : b = 8
  ·rw [if_pos h2]; congr 1; symm; rw [decide_eq_true_iff]; exact ⟨Or.inl h1, Or.inl h2⟩
  ·rw [if_neg h2]; congr 1; rw [Bool.eq_iff_iff, beq_iff_eq, decide_eq_true_iff]; omega
 ·rw [if_neg h1]
  by_cases h3 : c = 2
  ·rw [if_pos h3]
   by_cases h2 : b = 8
   ·rw [if_pos h2]; congr 1; symm; rw [decide_eq_true_iff]; exact ⟨Or.inr h3, Or.inl h2⟩
   ·rw [if_neg h2]; congr 1; rw [Bool.eq_iff_iff, beq_iff_eq, decide_eq_true_iff]; omega
  ·rw [if_neg h3]; congr 1; symm; rw [decide_eq_false_iff_not]; omega
def fs (c b : Int) : Int := c * b / 8
theorem frame_eq {c b : Int} (h : fmtOk c b = true) : pcm_Frame.f c b = some (fs c b) ∧ 1 ≤ fs c b ∧ fs c b ≤ 4 := by
 unfold fmtOk at h
 rw [decide_eq_true_iff] at h
 obtain ⟨rfl | rfl, rfl | rfl⟩ := h <;> refine ⟨?_, by decide, by decide⟩ <;> · unfold pcm_Frame.f wrap64; decide
def getOk (s : ByteArray) (c b : Int) : Bool := fmtOk c b && decide ((s.size : Int) % fs c b = 0 ∧ s.size ≤ 4096)
def samples (s : ByteArray) (c b : Int) : List (List Int) := chans s c b (b / 8) (s.size / (b / 8).toNat)
theorem get_eq (k : Nat) (s : ByteArray) (c b : Int) : pcm_Get.f (k + 4200) s c b = some (if getOk s c b = true then (samples s c b, 0) else ([], 1900)) := by
 have bad : ∀ k, pcm_Get.j0 (k + 1) s true c b = some ([], 1900) := fun k => by simp only [pcm_Get.j0]; rfl
 unfold pcm_Get.f
 rw [may_eq]
 simp only [Option.bind_some]
 cases hf : fmtOk c b
 ·rw [if_neg (by decide), bad]; unfold getOk; rw [hf]; rfl
 ·obtain ⟨e, f1, f4⟩ := frame_eq hf
  rw [if_pos rfl]
  unfold pcm_Frames.f
  rw [e]
  simp only [Option.bind_some]
  rw [if_neg (by omega)]
  simp only [Option.bind_some]
  by_cases h1 : (s.size : Int) % fs c b = 0
  ·rw [show ((s.size : Int) % fs c b == 0) = true by rw [beq_iff_eq]; exact h1, if_pos rfl]
   by_cases h2 : s.size ≤ 4096
   ·rw [show decide ((s.size : Int) > 4096) = false by rw [decide_eq_false_iff_not]; omega]
    have hg : getOk s c b = true := by unfold getOk; rw [hf, decide_eq_true ⟨h1, h2⟩]; rfl
    rw [if_pos hg, show k + 4200 = (k + 4199) + 1 by omega]
    simp only [pcm_Get.j0]
    unfold fmtOk at hf
    rw [decide_eq_true_iff] at hf
    have hw : b = 8 ∧ b / 8 = 1 ∨ b = 16 ∧ b / 8 = 2 := by omega
    rw [if_neg (by decide), if_pos (by omega), if_pos (by omega), Int.tdiv_eq_ediv_of_nonneg (by omega), Num.w64 (n := b / 8) (by omega) (by omega), ← chans_zero s c b (b / 8) hf.1]
    obtain ⟨N, hNd⟩ : ∃ N, N = s.size / (b / 8).toNat := ⟨_, rfl⟩
    have hN : (N : Int) * (b / 8) = s.size := by
     rcases hf with ⟨rfl | rfl, rfl | rfl⟩ <;> simp [fs] at h1 hNd ⊢ <;> omega
    have hl : N ≤ 4096 := by rcases hw with ⟨_, h⟩ | ⟨_, h⟩ <;> rw [h] at hN <;> omega
    have g := get_loop (k + 4198 - N) s c b (b / 8) h2 hf.1 hw N hN N 0 (by omega)
    rw [show k + 4198 - N + N + 1 = k + 4199 by omega] at g
    unfold samples
    rw [← hNd]
    exact g
   ·rw [show decide ((s.size : Int) > 4096) = true by rw [decide_eq_true_iff]; omega, bad]
    unfold getOk; rw [hf, decide_eq_false (fun h => h2 h.2)]; rfl
  ·rw [show ((s.size : Int) % fs c b == 0) = false by rw [beq_eq_false_iff_ne]; exact h1, if_neg (by decide), bad]
   unfold getOk; rw [hf, decide_eq_false (fun h => h1 h.1)]; rfl
end Go.Proofs.YtnoibcdojfnicaaGreatDoor.PG
namespace Go.Proofs
open Go.Proofs.YtnoibcdojfnicaaGreatDoorW.Short
open Bool renaming true → Y, false → J
open Go.Shelf Go.RowKit
def Tryz.lays169_ren : Go.Shelf.Ren := ⟨fun | 169 => 103 | n => n, fun | 70 => 162 | 9 => 9 | 0 => 0 | 72 => 164 | 37 => 96 | 127 => 202 | 3 => 3 | 5 => 5 | n => n, fun | n => n⟩
theorem Tryz.lays169 : Go.Proofs.Lays.n169 Tryz.prog Tryz.lays169_ren := {
 mixed := by kernel_rfl
 f169 := Tryz.func103.trans (congrArg some kr)
 t0 := Tryz.underlying0
 a0 := Tryz.isAgg0
 z0 := Tryz.sizeOf0
 v0 := Tryz.zeroValue0
 t3 := Tryz.underlying3
 a3 := Tryz.isAgg3
 z3 := Tryz.sizeOf3
 v3 := Tryz.zeroValue3
 t9 := Tryz.underlying9
 a9 := Tryz.isAgg9
 z9 := Tryz.sizeOf9
 v9 := Tryz.zeroValue9
 t37 := Tryz.underlying96
 a37 := Tryz.isAgg96
 z37 := Tryz.sizeOf96
 v37 := Tryz.zeroValue96
 t70 := Tryz.underlying162
 a70 := Tryz.isAgg162
 z70 := Tryz.sizeOf162
 v70 := Tryz.zeroValue162
 t72 := Tryz.underlying164
 a72 := Tryz.isAgg164
 z72 := Tryz.sizeOf164
 v72 := Tryz.zeroValue164
 t127 := Tryz.underlying202
 a127 := Tryz.isAgg202
 z127 := Tryz.sizeOf202
 v127 := Tryz.zeroValue202 }
theorem Tryz.Builder_Extra_169 : Builder.Extra Tryz.prog Tryz.lays169_ren := {
 sizeBuilder := by kernel_rfl
 liesBuilder := by kernel_rfl
 t5 := Tryz.underlying5
 a5 := Tryz.isAgg5
 z5 := Tryz.sizeOf5
 v5 := Tryz.zeroValue5
 infoByte := by kernel_rfl
 cellsByte := by kernel_rfl
 sizeByte := by kernel_rfl
 neB5 := by decide }
theorem Tryz.Builder_String_any (B b : Nat) (l : List UInt8) (w : World) (h : Lib.IsBuilder 164 5 B b (Lib.byteCells l) w) (hBw : B ≤ w.heap.size) :
  Calls Tryz.prog 103 #[.pointer (some ⟨b, 0, none⟩)] w fun e w' => e = .returned (.string ⟨l.toArray⟩) ∧ Below B w w' := Any.Builder_String_any Tryz.lays169 Tryz.Builder_Extra_169 B b l w h hBw
def Tryz.lays156_ren : Go.Shelf.Ren := ⟨fun | 156 => 134 | 165 => 150 | 166 => 102 | 169 => 103 | 240 => 142 | 241 => 167 | 276 => 161 | 277 => 173 | n => n, fun | 31 => 84 | 9 => 9 | 3 => 3 | 4 => 4 | 0 => 0 | 20 => 20 | 72 => 164 | 76 => 169 | 70 => 162 | 37 => 96 | 75 => 168 | 127 => 202 | 164 => 217 | 5 => 5 | 80 => 171 | n => n, fun | n => n⟩
theorem Tryz.lays156 : Go.Proofs.Lays.n156 Tryz.prog Tryz.lays156_ren := {
 mixed := by kernel_rfl
 f156 := Tryz.func134.trans (congrArg some kr)
 f165 := Tryz.func150.trans (congrArg some kr)
 f166 := Tryz.func102.trans (congrArg some kr)
 f169 := Tryz.func103.trans (congrArg some kr)
 f240 := Tryz.func142.trans (congrArg some kr)
 f241 := Tryz.func167.trans (congrArg some kr)
 f276 := Tryz.func161.trans (congrArg some kr)
 f277 := Tryz.func173.trans (congrArg some kr)
 t0 := Tryz.underlying0
 a0 := Tryz.isAgg0
 z0 := Tryz.sizeOf0
 v0 := Tryz.zeroValue0
 t3 := Tryz.underlying3
 a3 := Tryz.isAgg3
 z3 := Tryz.sizeOf3
 v3 := Tryz.zeroValue3
 t4 := Tryz.underlying4
 a4 := Tryz.isAgg4
 z4 := Tryz.sizeOf4
 v4 := Tryz.zeroValue4
 t9 := Tryz.underlying9
 a9 := Tryz.isAgg9
 z9 := Tryz.sizeOf9
 v9 := Tryz.zeroValue9
 t20 := Tryz.underlying20
 a20 := Tryz.isAgg20
 z20 := Tryz.sizeOf20
 v20 := Tryz.zeroValue20
 t31 := Tryz.underlying84
 a31 := Tryz.isAgg84
 z31 := Tryz.sizeOf84
 v31 := Tryz.zeroValue84
 t37 := Tryz.underlying96
 a37 := Tryz.isAgg96
 z37 := Tryz.sizeOf96
 v37 := Tryz.zeroValue96
 t70 := Tryz.underlying162
 a70 := Tryz.isAgg162
 z70 := Tryz.sizeOf162
 v70 := Tryz.zeroValue162
 t72 := Tryz.underlying164
 a72 := Tryz.isAgg164
 z72 := Tryz.sizeOf164
 v72 := Tryz.zeroValue164
 t75 := Tryz.underlying168
 a75 := Tryz.isAgg168
 z75 := Tryz.sizeOf168
 v75 := Tryz.zeroValue168
 t76 := Tryz.underlying169
 a76 := Tryz.isAgg169
 z76 := Tryz.sizeOf169
 v76 := Tryz.zeroValue169
 t127 := Tryz.underlying202
 a127 := Tryz.isAgg202
 z127 := Tryz.sizeOf202
 v127 := Tryz.zeroValue202
 t164 := Tryz.underlying217
 a164 := Tryz.isAgg217
 z164 := Tryz.sizeOf217
 v164 := Tryz.zeroValue217 }
theorem Tryz.Builder_Extra_156 : Builder.Extra Tryz.prog Tryz.lays156_ren := {
 sizeBuilder := by kernel_rfl
 liesBuilder := by kernel_rfl
 t5 := Tryz.underlying5
 a5 := Tryz.isAgg5
 z5 := Tryz.sizeOf5
 v5 := Tryz.zeroValue5
 infoByte := by kernel_rfl
 cellsByte := by kernel_rfl
 sizeByte := by kernel_rfl
 neB5 := by decide }
theorem Tryz.strings_Join_none (a : Option Addr) (c : Nat) (sep : ByteArray) (w : World) :
  Calls Tryz.prog 134 #[.slice a 0 c, .string sep] w fun e w' => e = .returned (.string ⟨#[]⟩) ∧ w' = w := Any.strings_Join_none Tryz.lays156 Tryz.Builder_Extra_156 a c sep w
theorem Tryz.strings_Join (bk o c : Nat) (xs : List ByteArray) (sep : ByteArray) (w : World) (hcells : ∀ (j : Nat) x, xs[j]? = some x → w.cell? ⟨bk, o + j, none⟩ = some (.string x)) (hbk : bk < w.heap.size) (hN : xs.length ≤ 140737488355328) (hcap : xs.length ≤ c) (hlen : (Lib.join (xs.map (·.data.toList)) sep.data.toList).length ≤ 140737488355328) :
  Calls Tryz.prog 134 #[.slice (some ⟨bk, o, none⟩) xs.length c, .string sep] w fun e w' => e = .returned (.string ⟨(Lib.join (xs.map (·.data.toList)) sep.data.toList).toArray⟩) ∧ Below w.heap.size w w' := Any.strings_Join Tryz.lays156 Tryz.Builder_Extra_156 bk o c xs sep w hcells hbk hN hcap hlen
def Tryz.lays125_ren : Go.Shelf.Ren := ⟨fun | 125 => 61 | 128 => 117 | 129 => 118 | n => n, fun | 46 => 33 | 3 => 3 | 51 => 145 | 53 => 179 | 4 => 4 | 5 => 5 | 9 => 9 | n => n, fun | n => n⟩
theorem Tryz.lays125 : Go.Proofs.Lays.n125 Tryz.prog Tryz.lays125_ren := {
 mixed := by kernel_rfl
 f125 := Tryz.func61.trans (congrArg some kr)
 f128 := Tryz.func117.trans (congrArg some kr)
 f129 := Tryz.func118.trans (congrArg some kr)
 t3 := Tryz.underlying3
 a3 := Tryz.isAgg3
 z3 := Tryz.sizeOf3
 v3 := Tryz.zeroValue3
 t4 := Tryz.underlying4
 a4 := Tryz.isAgg4
 z4 := Tryz.sizeOf4
 v4 := Tryz.zeroValue4
 t5 := Tryz.underlying5
 a5 := Tryz.isAgg5
 z5 := Tryz.sizeOf5
 v5 := Tryz.zeroValue5
 t9 := Tryz.underlying9
 a9 := Tryz.isAgg9
 z9 := Tryz.sizeOf9
 v9 := Tryz.zeroValue9
 t46 := Tryz.underlying33
 a46 := Tryz.isAgg33
 z46 := Tryz.sizeOf33
 v46 := Tryz.zeroValue33
 t51 := Tryz.underlying145
 a51 := Tryz.isAgg145
 z51 := Tryz.sizeOf145
 v51 := Tryz.zeroValue145
 t53 := Tryz.underlying179
 a53 := Tryz.isAgg179
 z53 := Tryz.sizeOf179
 v53 := Tryz.zeroValue179 }
theorem Tryz.bits_Len (x : Int) (w : World) (h0 : 0 ≤ x) (h1 : x ≤ 18446744073709551615) :
  Calls Tryz.prog 61 #[.int .u64 x] w fun e w' => e = .returned (.int .i64 (Lib.bitLen x.toNat)) ∧ w' = w := Any.bits_Len Tryz.lays125 x w h0 h1
def Tryz.lays105_ren : Go.Shelf.Ren := ⟨fun | 105 => 125 | 212 => 119 | 99 => 98 | 165 => 150 | 166 => 102 | 170 => 151 | 169 => 103 | 263 => 148 | 264 => 149 | 206 => 140 | 240 => 142 | 241 => 167 | 276 => 161 | 277 => 173 | n => n, fun | 9 => 9 | 3 => 3 | 4 => 4 | 20 => 20 | 0 => 0 | 46 => 33 | 109 => 180 | 5 => 5 | 72 => 164 | 76 => 169 | 51 => 145 | 146 => 205 | 53 => 179 | 148 => 207 | 70 => 162 | 37 => 96 | 75 => 168 | 127 => 202 | 164 => 217 | 80 => 171 | n => n, fun | n => n⟩
theorem Tryz.lays105 : Go.Proofs.Lays.n105 Tryz.prog Tryz.lays105_ren := {
 mixed := by kernel_rfl
 f99 := Tryz.func98.trans (congrArg some kr)
 f105 := Tryz.func125.trans (congrArg some kr)
 f165 := Tryz.func150.trans (congrArg some kr)
 f166 := Tryz.func102.trans (congrArg some kr)
 f169 := Tryz.func103.trans (congrArg some kr)
 f170 := Tryz.func151.trans (congrArg some kr)
 f206 := Tryz.func140.trans (congrArg some kr)
 f212 := Tryz.func119.trans (congrArg some kr)
 f240 := Tryz.func142.trans (congrArg some kr)
 f241 := Tryz.func167.trans (congrArg some kr)
 f263 := Tryz.func148.trans (congrArg some kr)
 f264 := Tryz.func149.trans (congrArg some kr)
 f276 := Tryz.func161.trans (congrArg some kr)
 f277 := Tryz.func173.trans (congrArg some kr)
 t0 := Tryz.underlying0
 a0 := Tryz.isAgg0
 z0 := Tryz.sizeOf0
 v0 := Tryz.zeroValue0
 t3 := Tryz.underlying3
 a3 := Tryz.isAgg3
 z3 := Tryz.sizeOf3
 v3 := Tryz.zeroValue3
 t4 := Tryz.underlying4
 a4 := Tryz.isAgg4
 z4 := Tryz.sizeOf4
 v4 := Tryz.zeroValue4
 t5 := Tryz.underlying5
 a5 := Tryz.isAgg5
 z5 := Tryz.sizeOf5
 v5 := Tryz.zeroValue5
 t9 := Tryz.underlying9
 a9 := Tryz.isAgg9
 z9 := Tryz.sizeOf9
 v9 := Tryz.zeroValue9
 t20 := Tryz.underlying20
 a20 := Tryz.isAgg20
 z20 := Tryz.sizeOf20
 v20 := Tryz.zeroValue20
 t37 := Tryz.underlying96
 a37 := Tryz.isAgg96
 z37 := Tryz.sizeOf96
 v37 := Tryz.zeroValue96
 t46 := Tryz.underlying33
 a46 := Tryz.isAgg33
 z46 := Tryz.sizeOf33
 v46 := Tryz.zeroValue33
 t51 := Tryz.underlying145
 a51 := Tryz.isAgg145
 z51 := Tryz.sizeOf145
 v51 := Tryz.zeroValue145
 t53 := Tryz.underlying179
 a53 := Tryz.isAgg179
 z53 := Tryz.sizeOf179
 v53 := Tryz.zeroValue179
 t70 := Tryz.underlying162
 a70 := Tryz.isAgg162
 z70 := Tryz.sizeOf162
 v70 := Tryz.zeroValue162
 t72 := Tryz.underlying164
 a72 := Tryz.isAgg164
 z72 := Tryz.sizeOf164
 v72 := Tryz.zeroValue164
 t75 := Tryz.underlying168
 a75 := Tryz.isAgg168
 z75 := Tryz.sizeOf168
 v75 := Tryz.zeroValue168
 t76 := Tryz.underlying169
 a76 := Tryz.isAgg169
 z76 := Tryz.sizeOf169
 v76 := Tryz.zeroValue169
 t109 := Tryz.underlying180
 a109 := Tryz.isAgg180
 z109 := Tryz.sizeOf180
 v109 := Tryz.zeroValue180
 t127 := Tryz.underlying202
 a127 := Tryz.isAgg202
 z127 := Tryz.sizeOf202
 v127 := Tryz.zeroValue202
 t146 := Tryz.underlying205
 a146 := Tryz.isAgg205
 z146 := Tryz.sizeOf205
 v146 := Tryz.zeroValue205
 t148 := Tryz.underlying207
 a148 := Tryz.isAgg207
 z148 := Tryz.sizeOf207
 v148 := Tryz.zeroValue207
 t164 := Tryz.underlying217
 a164 := Tryz.isAgg217
 z164 := Tryz.sizeOf217
 v164 := Tryz.zeroValue217 }
theorem Tryz.Builder_Extra_105 : Builder.Extra Tryz.prog Tryz.lays105_ren := {
 sizeBuilder := by kernel_rfl
 liesBuilder := by kernel_rfl
 t5 := Tryz.underlying5
 a5 := Tryz.isAgg5
 z5 := Tryz.sizeOf5
 v5 := Tryz.zeroValue5
 infoByte := by kernel_rfl
 cellsByte := by kernel_rfl
 sizeByte := by kernel_rfl
 neB5 := by decide }
theorem Tryz.strings_Repeat (s : ByteArray) (c : Nat) (w : World) (hc : c ≤ 9223372036854775807) (hlen : s.size * c ≤ 140737488355328) :
  Calls Tryz.prog 125 #[.string s, .int .i64 c] w fun e w' => e = .returned (.string ⟨(Lib.repeatL s.data.toList c).toArray⟩) ∧ Below w.heap.size w w' := Any.strings_Repeat Tryz.lays105 Tryz.Builder_Extra_105 s c w hc hlen
theorem Tryz.Builder_WriteString (B b : Nat) (bs : List Value) (s : ByteArray) (w : World) (h : Lib.IsBuilder 164 5 B b bs w) (hlen : bs.length + s.size ≤ 140737488355328) (hBw : B ≤ w.heap.size) :
  Calls Tryz.prog 102 #[.pointer (some ⟨b, 0, none⟩), .string s] w fun e w' => e = .returned (.tuple #[.int .i64 s.size, .nilIface]) ∧ (Lib.BuilderAt 164 5 B b (.pointer (some ⟨b, 0, none⟩)) (bs ++ Lib.strCells s) w' ∧ Below B w w') :=
 Any.Builder_WriteString { Tryz.lays105 with } Tryz.Builder_Extra_105 B b bs s w h hlen hBw
end Go.Proofs
namespace Go.Proofs.YtnoibcdojfnicaaGreatDoor.PTp
open Go.Proofs.YtnoibcdojfnicaaGreatDoorW.Short
open Bool renaming true → Y, false → J
open Go Go.RowKit Go.Proofs.YtnoibcdojfnicaaGreatDoorW.PrintWords Go.Proofs.YtnoibcdojfnicaaGreatDoorW.PrintMore Go.Proofs.YtnoibcdojfnicaaGreatDoorW.PrintLast
attribute [-go_sem] Instr.loadAt Instr.storeAt Instr.build
theorem load_u32 (v : Value) : Instr.loadAt 145 v = (do loadVar 145 (← Instr.sureAddr v)) := rfl
theorem store_u32 (v u : Value) : Instr.storeAt 145 v u = (do storeVar 145 (← Instr.sureAddr v) u) := rfl
attribute [local go_sem] load_u32 store_u32
def crcBit (s : Int) : Int := Go.bits .xor .u32 (s / 2) (Go.bits .and .u32 3988292384 (IntKind.u32.wrap (-(Go.bits .and .u32 s 1))))
def crcBits : Nat → Int → Int
 | 0, s => s
 | k + 1, s => crcBit (crcBits k s)
def crcT (j : Nat) : Int := crcBits 4 (j : Int)
def U16 (t : Nat → Int) : Array Value := #[.int .u32 (t 0), .int .u32 (t 1), .int .u32 (t 2), .int .u32 (t 3), .int .u32 (t 4), .int .u32 (t 5), .int .u32 (t 6), .int .u32 (t 7), .int .u32 (t 8), .int .u32 (t 9), .int .u32 (t 10), .int .u32 (t 11), .int .u32 (t 12), .int .u32 (t 13), .int .u32 (t 14), .int .u32 (t 15)]
theorem u16_at (t : Nat → Int) (k : Nat) (h : k < 16) : (U16 t)[k]? = some (.int .u32 (t k)) := by
 rcases show k = 0 ∨ k = 1 ∨ k = 2 ∨ k = 3 ∨ k = 4 ∨ k = 5 ∨ k = 6 ∨ k = 7 ∨ k = 8 ∨ k = 9 ∨ k = 10 ∨ k = 11 ∨ k = 12 ∨ k = 13 ∨ k = 14 ∨ k = 15 by omega with rfl | rfl | rfl | rfl | rfl | rfl | rfl | rfl | rfl | rfl | rfl | rfl | rfl | rfl | rfl | rfl <;> rfl
theorem u16_set (t : Nat → Int) (k : Nat) (h : k < 16) (v : Int) : (U16 t).setIfInBounds k (.int .u32 v) = U16 (fun j => if j = k then v else t j) := by
 rcases show k = 0 ∨ k = 1 ∨ k = 2 ∨ k = 3 ∨ k = 4 ∨ k = 5 ∨ k = 6 ∨ k = 7 ∨ k = 8 ∨ k = 9 ∨ k = 10 ∨ k = 11 ∨ k = 12 ∨ k = 13 ∨ k = 14 ∨ k = 15 by omega with rfl | rfl | rfl | rfl | rfl | rfl | rfl | rfl | rfl | rfl | rfl | rfl | rfl | rfl | rfl | rfl <;> rfl
theorem u16_ext {t u : Nat → Int} (h : ∀ j, j < 16 → t j = u j) : U16 t = U16 u := by
 unfold U16
 rw [h 0 (by decide), h 1 (by decide), h 2 (by decide), h 3 (by decide), h 4 (by decide), h 5 (by decide), h 6 (by decide), h 7 (by decide), h 8 (by decide), h 9 (by decide), h 10 (by decide), h 11 (by decide), h 12 (by decide), h 13 (by decide), h 14 (by decide), h 15 (by decide)]
theorem u16_upto (k : Nat) (hlt : k < 16) : (U16 fun j => if j < k then crcT j else 0).setIfInBounds k (.int .u32 (crcBits 4 (k : Int))) = U16 fun j => if j < k + 1 then crcT j else 0 := by
 rw [u16_set _ k hlt]
 refine u16_ext (fun j _ => ?_)
 by_cases h : j = k
 ·subst h
  rw [if_pos rfl, if_pos (by omega)]
  rfl
 ·rw [if_neg h]
  by_cases h2 : j < k
  ·rw [if_pos h2, if_pos (by omega)]
  ·rw [if_neg h2, if_neg (by omega)]
theorem u16_one (t : Nat → Int) : (U16 t).all (·.oneCell') = true := by simp [U16, Value.oneCell']
theorem half_c (W : World) : Calls Tryz.prog 88 #[] W fun e w' => e = .returned (.agg (U16 crcT)) ∧ Below W.heap.size W w' := by
 go_enter Tryz.func88, Tryz.ntmps88
 go_wp2_with fail
 have B0 := Lib.hid (blk_alloc (blk_new W (.cells (U16 fun _ => 0) 146)) (.cells (U16 fun _ => 0) 146))
 have B1 := Lib.hid (blk_new (W.alloc (.cells (U16 fun _ => 0) 146)) (.cells (U16 fun _ => 0) 146))
 have HB := Lib.hid (below_alloc (below_alloc (Below.refl W.heap.size W) (.cells (U16 fun _ => 0) 146)) (.cells (U16 fun _ => 0) 146))
 rw [show (W.alloc (.cells (U16 fun _ => 0) 146)).heap.size = W.heap.size + 1 by simp] at B1
 go_loopw [4] (fun i wr => ∃ k : Nat, k ≤ 16 ∧ i = .int .i64 k ∧ Hid (wr.heap[W.heap.size]? = some (.cells (U16 fun _ => 0) 146 (0, 0))) ∧ Hid (wr.heap[W.heap.size + 1]? = some (.cells (U16 fun j => if j < k then crcT j else 0) 146 (0, 0))) ∧ Hid (Below W.heap.size W wr)) (fun i _ => 16 - (intOf i).toNat)
 case atStart => exact ⟨0, by omega, rfl, B0, B1, HB⟩
 case round =>
  obtain ⟨k, hk, rfl, b0, b1, hB⟩ := hrel
  by_cases hlt : k < 16
  ·have z1 : W.heap.size < wr.heap.size := blk_lt b0.out
   have z2 : W.heap.size + 1 < wr.heap.size := blk_lt b1.out
   have hw := IntKind.wrap_u32 (k : Int)
   have c1 := (blk_cell b1.out k).trans (u16_at _ k hlt)
   have f1 := blk_frozen b1.out k
   go_wp2_with fail
   rw [show (k : Int) % 4294967296 = k by omega]
   clear hw
   go_loop [3, 9] (fun s i => ∃ m : Nat, m ≤ 4 ∧ i = .int .i64 m ∧ s = .int .u32 (crcBits m (k : Int))) (fun _ i => 4 - (intOf i).toNat)
   case atStart => exact ⟨0, by omega, rfl, rfl⟩
   case round =>
    obtain ⟨m, hm, rfl, rfl⟩ := hrel
    by_cases hlm : m < 4
    ·obtain ⟨s, hs⟩ : ∃ s, s = crcBits m (k : Int) := ⟨_, rfl⟩
     rw [← hs]
     have Hs := Lib.hid hs
     clear hs
     go_wp2_with fail
     go_round
     case rel => exact ⟨m + 1, by omega, by go_num, by show _ = Value.int .u32 (crcBit (crcBits m _)); rw [← Hs.out]; rfl⟩
     case measure => simp [intOf]; omega
    ·obtain rfl : m = 4 := by omega
     go_wp2_with fail
     go_roundw
     case rel => exact ⟨k + 1, by omega, by go_num, Lib.hid (blk_far b0.out (by simp) _), Lib.hid ((blk_set b1.out k _).trans (by rw [u16_upto k hlt])), Lib.hid (hB.out.setCell (by simp) _)⟩
     case measure => simp [intOf]; omega
  ·obtain rfl : k = 16 := by omega
   have e1 : wr.heap[W.heap.size + 1]? = some (.cells (U16 crcT) 146 (0, 0)) := b1.out.trans (by rw [u16_ext (fun j hj => if_pos hj)])
   have l1 := Agg.load_all (P := Tryz.prog) e1 146 _ Tryz.underlying146 rfl kr
   have s1 := Agg.store_all (P := Tryz.prog) b0.out 146 (U16 crcT) kr rfl (u16_one _)
   go_wp2_with fail
   exact bodyPost_ret (v := .agg (U16 crcT)) (Agg.results_c rfl _ _ W.heap.size 146 (U16 crcT) (0, 0) _ rfl (Agg.blk_row b0.out _) Tryz.underlying146 rfl kr) rfl ⟨rfl, Agg.below_row hB.out (Nat.le_refl _) _⟩
def crcHalf (s : Int) : Int := Go.bits .xor .u32 (s / 16) (crcT (Go.bits .and .u32 s 15).toNat)
def crcRun : List UInt8 → Int → Int
 | [], s => s
 | b :: r, s => crcRun r (crcHalf (crcHalf (Go.bits .xor .u32 s (b.toNat : Int))))
def crcF (s : ByteArray) : Int := wrap64 (Go.bits .xor .u32 IntKind.u32.max (crcRun s.toList 4294967295))
theorem store16 (w : World) (u : Nat → Int) : (Instr.storeAt 146 (.pointer (some ⟨w.heap.size, 0, none⟩)) (.agg (U16 u))).run Tryz.prog (w.alloc (.cells #[.int .u32 0, .int .u32 0, .int .u32 0, .int .u32 0, .int .u32 0, .int .u32 0, .int .u32 0, .int .u32 0, .int .u32 0, .int .u32 0, .int .u32 0, .int .u32 0, .int .u32 0, .int .u32 0, .int .u32 0, .int .u32 0] 146 (0, 0))) = .ok () (w.alloc (.cells (U16 u) 146 (0, 0))) := run_storeAt_new w 146 (U16 fun _ => 0) (U16 u) kr rfl (u16_one u)
attribute [local go_sem high] store16
attribute [-go_sem] Instr.build
theorem and15 (x : Int) : 0 ≤ Go.bits .and .u32 x 15 ∧ Go.bits .and .u32 x 15 < 16 := by
 have h : Go.bits .and .u32 x 15 = ((BitVec.ofInt 32 x &&& BitVec.ofInt 32 15).toNat : Int) := by
  show IntKind.u32.wrap (((BitVec.ofInt 32 x &&& BitVec.ofInt 32 15).toNat : Nat) : Int) = _
  rw [IntKind.wrap_u32]
  have := (BitVec.ofInt 32 x &&& BitVec.ofInt 32 15).isLt
  omega
 rw [h, BitVec.toNat_and]
 have := Nat.and_le_right (n := (BitVec.ofInt 32 x).toNat) (m := (BitVec.ofInt 32 15).toNat)
 have e : (BitVec.ofInt 32 15).toNat = 15 := by decide
 rw [e] at this ⊢
 omega
theorem size_list (s : ByteArray) : s.toList.length = s.size := by rw [ByteArray.toList_eq, Array.length_toList]; rfl
theorem drop_byte (s : ByteArray) {k : Nat} (h : k < s.size) : s.toList.drop k = s[k] :: s.toList.drop (k + 1) := by
 rw [List.drop_eq_getElem_cons (by rw [size_list]; exact h)]
 congr 1
 simp only [ByteArray.toList_eq]
 rw [Array.getElem_toList]
 rfl
theorem sum_c (s : ByteArray) (hs : s.size ≤ 281474976710656) (W : World) : Calls Tryz.prog 33 #[.string s] W fun e w' => e = .returned (.int .i64 (crcF s)) ∧ Below W.heap.size W w' := by
 go_enter Tryz.func33, Tryz.ntmps33
 go_wp2_with (go_at_call 88; refine (half_c _).mono ?_; rintro e w1 ⟨rfl, hb⟩)
 have B1 := Lib.hid (blk_new w1 (.cells (U16 crcT) 146))
 have HB := Lib.hid (below_alloc hb (.cells (U16 crcT) 146))
 obtain ⟨n, hn⟩ : ∃ n, n = w1.heap.size := ⟨_, rfl⟩
 rw [← hn] at B1 ⊢
 generalize w1.alloc (.cells (U16 crcT) 146) = w2 at B1 HB ⊢
 clear hb hn
 go_loop [4, 9] (fun x i => ∃ (k : Nat) (y : Int), k ≤ s.size ∧ i = .int .i64 k ∧ x = .int .u32 y ∧ Hid (crcRun s.toList 4294967295 = crcRun (s.toList.drop k) y)) (fun _ i => s.size - (intOf i).toNat)
 case atStart => exact ⟨0, 4294967295, by omega, rfl, rfl, Lib.hid rfl⟩
 case round =>
  obtain ⟨k, y, hk, rfl, rfl, hT⟩ := hrel
  by_cases hlt : k < s.size
  ·have q1 := fun x => (and15 x).1
   have q2 := fun x => (and15 x).2
   have c1 : ∀ x, w2.cell? ⟨n, (Go.bits .and .u32 x 15).toNat, none⟩ = some (.int .u32 (crcT (Go.bits .and .u32 x 15).toNat)) := fun x => (blk_cell B1.out _).trans (u16_at _ _ (by have := and15 x; omega))
   obtain ⟨b, hb⟩ : ∃ b, b = s[k] := ⟨_, rfl⟩
   have hT2 := hT.out
   rw [drop_byte s hlt, ← hb] at hT2
   have HT := Lib.hid hT2
   clear hT hT2
   have hb2 : b.toNat < 256 := b.toNat_lt
   have hb3 : (b.toNat : Int) % 4294967296 = b.toNat := by omega
   go_wp2_with fail
   rw [← hb, hb3]
   go_round
   case rel => exact ⟨k + 1, _, by omega, by go_num, rfl, HT⟩
   case measure => simp [intOf]; omega
  ·obtain rfl : k = s.size := by omega
   go_wp2_with fail
   rw [List.drop_eq_nil_of_le (by rw [size_list]; exact Nat.le_refl _)] at hT
   go_ret
   exact ⟨by unfold crcF; rw [hT.out]; rfl, HB.out⟩
end Go.Proofs.YtnoibcdojfnicaaGreatDoor.PTp
