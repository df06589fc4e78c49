/- 'PcmForms' of chapter 19: formats, bytes, samples that may not be. No condition. -/
import Derived.Test.YthiknekmgjnkdaaPFormx7
import Derived.Test.YthiknekmgjnkdaaPcmG
namespace Go.Proofs.Ythiknekmgjnkdaa.Pure
open Go.RowKit Go.Proofs.Ythiknekmgjnkdaa.PForm Go.Proofs.YthiknekmgjnkdaaW.PrintWords Go.Proofs.YthiknekmgjnkdaaW.PrintLast
set_option linter.unusedVariables false
set_option linter.unusedSimpArgs false

theorem awakeP (k : Nat) : descantlaw19_awake.f (k + 60) = some true := by
  have h : descantlaw19_awake.f 60 = some true := by decide +kernel
  induction k with
  | zero => exact h
  | succ k ih => exact (descantlaw19_awake.mono _ _ ih)
abbrev nilS : ByteArray := ⟨#[]⟩
theorem j0_bad (k : Nat) (chs : List (List Int)) (c b : Int) : pcm_Put.j0 (k + 1) chs true c b = some (nilS, 1900) := by
  simp only [pcm_Put.j0]
  rw [if_pos trivial]
theorem put_fmt {c b : Int} (h : fmtOk c b = false) (k : Nat) (chs : List (List Int)) : pcm_Put.f (k + 1) chs c b = some (nilS, 1900) := by
  unfold pcm_Put.f
  rw [may_eq, Option.bind_some, h, if_neg (by decide), j0_bad]
theorem get_fmt {c b : Int} (h : fmtOk c b = false) (k : Nat) (s : ByteArray) : pcm_Get.f (k + 4200) s c b = some ([], 1900) := by
  rw [get_eq, show getOk s c b = false by unfold getOk; rw [h]; rfl]
  rfl
theorem get_no {c b : Int} {s : ByteArray} (h : ¬ ((s.size : Int) % fs c b = 0 ∧ s.size ≤ 4096)) (k : Nat) : pcm_Get.f (k + 4200) s c b = some ([], 1900) := by
  rw [get_eq, show getOk s c b = false by unfold getOk; rw [decide_eq_false h, Bool.and_false]]
  rfl
/-- What ends Put's look at a format that may be, of two channels and 16 bits. -/
theorem put2_head (k : Nat) (a b : List Int) (x : Bool) (hx : x = (decide ((a.length : Int) > 1024) || ((b.length : Int) != (a.length : Int)))) : pcm_Put.f k [a, b] 2 16 = pcm_Put.j0 k [a, b] x 2 16 := by
  unfold pcm_Put.f
  rw [may_eq, Option.bind_some, show fmtOk 2 16 = true from by decide, if_pos rfl, if_pos (by simp), if_pos (by simp), (frame_eq (show fmtOk 2 16 = true from by decide)).1, Option.bind_some, show fs 2 16 = 4 from by decide, if_neg (by decide), show wrap64 ((4096 : Int) / 4) = 1024 from by decide +kernel, show rd_L1 [a, b] 0 = a from rfl, show wrap64 (2 - 1) = 1 from by decide +kernel, show rd_L1 [a, b] 1 = b from rfl]
  by_cases h : (a.length : Int) > 1024
  · rw [if_pos h, hx, decide_eq_true h]; rfl
  · rw [if_neg h, if_pos (by decide), if_pos (by simp), hx, decide_eq_false h, Bool.false_or]
theorem put2_bad (k : Nat) {a b : List Int} (h : (a.length : Int) > 1024 ∨ b.length ≠ a.length) : pcm_Put.f (k + 1) [a, b] 2 16 = some (nilS, 1900) := by
  rw [put2_head (k + 1) a b true (by
    rcases h with h | h
    · rw [decide_eq_true h]; rfl
    · rw [show ((b.length : Int) != (a.length : Int)) = true by rw [bne_iff_ne]; omega, Bool.or_true])]
  exact j0_bad k _ _ _
theorem put2_val (k : Nat) {V : Int} (h : V < -32768 ∨ 32768 ≤ V) : pcm_Put.f (k + 5) [[1], [V]] 2 16 = some (nilS, 1900) := by
  rw [put2_head (k + 5) [1] [V] false (by simp)]
  obtain ⟨m, hm⟩ : ∃ m, m = k + 3 := ⟨_, rfl⟩
  rw [show k + 5 = (m + 1) + 1 by omega]
  simp only [pcm_Put.j0]
  rw [if_neg (by decide), show wrap64 (16 - 1) = 15 from by decide +kernel, if_pos (by decide), if_pos (by simp), show shl .i64 1 15 = 32768 from by decide +kernel, show rd_L1 [[1], [V]] 0 = [1] from rfl]
  simp only [pcm_Put.l0]
  rw [if_pos (by simp), hm]
  obtain ⟨q, hq⟩ : ∃ q, q = k + 1 := ⟨_, rfl⟩
  rw [show k + 3 = (q + 1) + 1 by omega]
  simp only [pcm_Put.l1]
  have b1 : pcm_bytes.f 1 16 = some [1, 0] := by decide +kernel
  rw [if_pos (by simp), if_pos (by decide), if_pos (by simp), if_pos (by decide), show rd_L1 [[1], [V]] 0 = [1] from rfl, if_pos (by simp), show rd [1] 0 = 1 from rfl, show wrap64 (-32768) = -32768 from by decide +kernel, if_neg (by decide), if_neg (by decide), b1, Option.bind_some, if_pos (by simp), show wrap64 (0 + 1) = 1 from by decide +kernel, if_pos (by simp), if_pos (by decide), if_pos (by simp), show rd_L1 [[1], [V]] 1 = [V] from rfl, if_pos (by decide), if_pos (by simp), show rd [V] 0 = V from rfl]
  rcases h with h | h
  · rw [if_pos h]
  · rw [if_neg (by omega), if_pos (by omega)]
theorem put1_val (k : Nat) {V : Int} (h : V < -128 ∨ 128 ≤ V) : pcm_Put.f (k + 4) [[V]] 1 8 = some (nilS, 1900) := by
  unfold pcm_Put.f
  rw [may_eq, Option.bind_some, show fmtOk 1 8 = true from by decide, if_pos rfl, if_pos (by simp), if_pos (by simp), (frame_eq (show fmtOk 1 8 = true from by decide)).1, Option.bind_some, show fs 1 8 = 1 from by decide, if_neg (by decide), show wrap64 ((4096 : Int) / 1) = 4096 from by decide +kernel, show rd_L1 [[V]] 0 = [V] from rfl, show wrap64 (1 - 1) = 0 from by decide +kernel, show rd_L1 [[V]] 0 = [V] from rfl, if_neg (by simp), if_pos (by decide), if_pos (by simp), show ((([V] : List Int).length : Int) != (([V] : List Int).length : Int)) = false by simp]
  obtain ⟨m, hm⟩ : ∃ m, m = k + 2 := ⟨_, rfl⟩
  rw [show k + 4 = (m + 1) + 1 by omega]
  simp only [pcm_Put.j0]
  rw [if_neg (by decide), show wrap64 (8 - 1) = 7 from by decide +kernel, if_pos (by decide), if_pos (by simp), show shl .i64 1 7 = 128 from by decide +kernel, show rd_L1 [[V]] 0 = [V] from rfl]
  simp only [pcm_Put.l0]
  rw [if_pos (by simp), hm]
  simp only [pcm_Put.l1]
  rw [if_pos (by simp), if_pos (by decide), if_pos (by simp), if_pos (by decide), show rd_L1 [[V]] 0 = [V] from rfl, if_pos (by simp), show rd [V] 0 = V from rfl, show wrap64 (-128) = -128 from by decide +kernel]
  rcases h with h | h
  · rw [if_pos h]
  · rw [if_neg (by omega), if_pos (by omega)]
theorem str_size (l : List Int) : (strOfNums l).size = l.length := by simp [strOfNums, ByteArray.size]
theorem rd_two {A B t : Int} (ht : t = 0 ∨ t = 1) : rd [A, B] t = if t = 0 then A else B := by
  rcases ht with rfl | rfl <;> rfl
theorem PcmForms : descantlaw19_PcmForms.Pure := by
  intro a0 a1 w0 w1
  refine ⟨4260, ?_⟩
  have hx : Go.bits .and .i64 a1 1023 = a1 % 1024 := Num.and_mask a1 1023 10 (by omega) (by rfl)
  have h1 : Go.bits .and .i64 a0 1 = a0 % 2 := Num.and_mask a0 1 1 (by omega) (by rfl)
  obtain ⟨d, hd⟩ : ∃ d, d = 1 + a1 % 1024 := ⟨_, rfl⟩
  have d1 : 1 ≤ d ∧ d ≤ 1024 := by omega
  obtain ⟨u, hu⟩ : ∃ u, u = a0 % 2 := ⟨_, rfl⟩
  have u2 : u = 0 ∨ u = 1 := by omega
  obtain ⟨t, ht, t0, t1⟩ := Num.umod a0 6 (by omega) (by omega)
  obtain ⟨F, hF⟩ : ∃ F : List S24, F = [⟨0, 8⟩, ⟨2 + d, 8⟩, ⟨-d, 16⟩, ⟨1, 0⟩, ⟨1, 24⟩, ⟨2, -8⟩] := ⟨_, rfl⟩
  have hbad : fmtOk (rd_T24 F t).f0 (rd_T24 F t).f1 = false := by
    rw [hF]
    rcases show t = 0 ∨ t = 1 ∨ t = 2 ∨ t = 3 ∨ t = 4 ∨ t = 5 by omega with rfl | rfl | rfl | rfl | rfl | rfl
    · rfl
    · show fmtOk (2 + d) 8 = false; unfold fmtOk; exact decide_eq_false (by omega)
    · show fmtOk (-d) 16 = false; unfold fmtOk; exact decide_eq_false (by omega)
    · rfl
    · rfl
    · rfl
  obtain ⟨c, hc⟩ : ∃ c, c = (rd_T24 F t).f0 := ⟨_, rfl⟩
  obtain ⟨b, hb⟩ : ∃ b, b = (rd_T24 F t).f1 := ⟨_, rfl⟩
  rw [← hc, ← hb] at hbad
  obtain ⟨V, hV⟩ : ∃ V, V = rd [-32768 - d, 32767 + d] u := ⟨_, rfl⟩
  obtain ⟨U, hU⟩ : ∃ U, U = rd [-128 - d, 127 + d] u := ⟨_, rfl⟩
  have V1 : V < -32768 ∨ 32768 ≤ V := by rw [rd_two u2] at hV; split at hV <;> omega
  have U1 : U < -128 ∨ 128 ≤ U := by rw [rd_two u2] at hU; split at hU <;> omega
  obtain ⟨n, hn⟩ : ∃ n, n = (1024 + d).toNat := ⟨_, rfl⟩
  obtain ⟨p, hp⟩ : ∃ p, p = (4096 + 4 * d).toNat := ⟨_, rfl⟩
  have g1 : pcm_Get.f (60 + 4200) nilS c b = some ([], 1900) := get_fmt hbad 60 _
  have g2 : pcm_Put.f (60 + 4200) [] c b = some (nilS, 1900) := put_fmt hbad 4259 _
  have g3 : pcm_Get.f (60 + 4200) ((⟨#[97, 98, 99, 100, 101]⟩ : ByteArray).extract 0 (1 + 4 * u).toNat) 2 16 = some ([], 1900) := get_no (by
    rcases u2 with rfl | rfl <;> decide) 60
  have g4 : pcm_Get.f (60 + 4200) (strOfNums (List.replicate p 0)) 2 16 = some ([], 1900) := get_no (by
    rw [str_size, List.length_replicate]; omega) 60
  have g5 : pcm_Put.f (60 + 4200) [[1], [V]] 2 16 = some (nilS, 1900) := put2_val 4255 V1
  have g6 : pcm_Put.f (60 + 4200) [[U]] 1 8 = some (nilS, 1900) := put1_val 4256 U1
  have g7 : pcm_Put.f (60 + 4200) [[1], [1, 2]] 2 16 = some (nilS, 1900) := put2_bad 4259 (Or.inr (by decide))
  have g8 : pcm_Put.f (60 + 4200) [List.replicate n 0, List.replicate n 0] 2 16 = some (nilS, 1900) := put2_bad 4259 (Or.inl (by rw [List.length_replicate]; omega))
  unfold descantlaw19_PcmForms.f
  rw [show 4260 = 4200 + 60 from rfl, awakeP, show 4200 + 60 = 60 + 4200 from rfl, Option.bind_some, if_pos rfl, Option.bind_some, hx, h1, Num.w64 (n := 1 + a1 % 1024) (by omega) (by omega), ← hd, ← hu, ht, Num.w64 (n := 2 + d) (by omega) (by omega), Num.w64 (n := -d) (by omega) (by omega), Num.w64 (n := 4 * u) (by omega) (by omega), Num.w64 (n := 1 + 4 * u) (by omega) (by omega), Num.w64 (n := 4 * d) (by omega) (by omega), Num.w64 (n := 4096 + 4 * d) (by omega) (by omega), Num.w64 (n := -32768 - d) (by omega) (by omega), Num.w64 (n := 32767 + d) (by omega) (by omega), Num.w64 (n := -128 - d) (by omega) (by omega), Num.w64 (n := 127 + d) (by omega) (by omega), Num.w64 (n := 1024 + d) (by omega) (by omega), ← hF, ← hc, ← hb, ← hp, ← hn]
  rw [if_pos t0, if_pos (by rw [hF]; simpa using t1), g1, Option.bind_some, g2, Option.bind_some, if_pos (by omega), if_pos (by omega), g3, Option.bind_some, if_pos (by omega), if_pos (by omega), g4, Option.bind_some, Option.bind_some, ← hV, if_pos (by omega), if_pos (by simp; omega), g5, Option.bind_some, Option.bind_some, ← hU, if_pos (by simp; omega), g6, Option.bind_some, g7, Option.bind_some, if_pos (by omega), if_pos (by omega), g8, Option.bind_some, may_eq, hbad, Option.bind_some, if_neg (by decide)]
  rfl
end Go.Proofs.Ythiknekmgjnkdaa.Pure
