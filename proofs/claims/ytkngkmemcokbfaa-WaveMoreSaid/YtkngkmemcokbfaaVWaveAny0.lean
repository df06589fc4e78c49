/- Layer 21, WaveAny: the file that is made, and what is told of it. No program in sight but the printed pieces. -/
import Derived.Test.YtkngkmemcokbfaaVBytesOwn
import Derived.Test.YtkngkmemcokbfaaVFieldRef
import Derived.Test.YtkngkmemcokbfaaVRef0
import Derived.Test.YtkngkmemcokbfaaPWvx12
namespace Go.Proofs.Ytkngkmemcokbfaa.PWv
open Go Go.RowKit Go.Proofs.YtkngkmemcokbfaaW.PrintWords Go.Proofs.YtkngkmemcokbfaaW.PrintMore
set_option linter.unusedVariables false
set_option linter.unusedSimpArgs false
/-- What is ahead of the data: the size of what is behind it, the eight free bytes, the data's size. -/
def headL (n : Int) (r0 r1 r2 r3 r4 r5 r6 r7 : Int) (l : Int) : List Int :=
  [82, 73, 70, 70, n % 256, n / 256 % 256, n / 256 / 256 % 256, n / 256 / 256 / 256 % 256, 87, 65, 86, 69, 102, 109, 116, 32, 16, 0, 0, 0, 1, 0, 1, 0, r0, r1, r2, r3, r4, r5, r6, r7, 1, 0, 8, 0, 100, 97, 116, 97, l % 256, l / 256 % 256, l / 256 / 256 % 256, l / 256 / 256 / 256 % 256]
def padL (l : Int) : List Int := if l % 2 = 1 then [112] else []
def tailL (q : Int) : List Int := [109, 111, 114, 101, 3, 0, 0, 0, 97, 98, 99, q]
theorem padL_len (l : Nat) : (padL (l : Int)).length = l % 2 := by
  unfold padL
  split
  · show 1 = _; omega
  · show 0 = _; omega
theorem drop_head {A B : List Int} {k : Nat} (hA : A.length = k) (j : Nat) : (A ++ B).drop (k + j) = B.drop j := by
  rw [List.drop_append, List.drop_eq_nil_of_le (by omega), List.nil_append, show k + j - A.length = j by omega]
theorem val4 (n : Int) (h0 : 0 ≤ n) (h1 : n < 4294967296) : val [n % 256, n / 256 % 256, n / 256 / 256 % 256, n / 256 / 256 / 256 % 256] = n := by
  have := val_low 4 n
  have e : low 4 n = [n % 256, n / 256 % 256, n / 256 / 256 % 256, n / 256 / 256 / 256 % 256] := rfl
  rw [e] at this
  rw [this]
  omega
def moreId : ByteArray := ⟨#[109, 111, 114, 101]⟩
theorem any_wave (t data : ByteArray) (r0 r1 r2 r3 r4 r5 r6 r7 q : Int) (hl : data.size ≤ 4096) (hts : t.size = 56 + data.size + data.size % 2) (ht4 : t.size ≤ 4096)
    (ht : bytesOf t = headL ((t.size : Int) - 8) r0 r1 r2 r3 r4 r5 r6 r7 data.size ++ (bytesOf data ++ (padL data.size ++ tailL q))) :
    waveOf t = some (1, 8, t.extract 0 44, data, t.extract (44 + data.size) t.size) := by
  obtain ⟨l, hld⟩ : ∃ l : Nat, l = data.size := ⟨_, rfl⟩
  rw [← hld] at hl hts ht ⊢
  have hdl : (bytesOf data).length = l := by rw [bytesOf_length, hld]
  obtain ⟨X, hX⟩ : ∃ X, X = bytesOf data ++ (padL (l : Int) ++ tailL q) := ⟨_, rfl⟩
  rw [← hX] at ht
  have hxd : ∀ j, X.drop (l + l % 2 + j) = (tailL q).drop j := by
    intro j
    rw [hX, ← List.append_assoc]
    exact drop_head (by rw [List.length_append, hdl, padL_len]) j
  have ex : ∀ i j : Nat, bytesOf (t.extract i j) = ((bytesOf t).drop i).take (j - i) := fun i j => Bytes.of_extract t i j
  have n4 : num4 t 4 = (t.size : Int) - 8 := by
    unfold num4
    rw [show ((4 : Int)).toNat = 4 from rfl, show ((4 : Int) + 4).toNat = 8 from rfl, ex, ht]
    show val [_, _, _, _] = _
    exact val4 _ (by omega) (by omega)
  have n16 : num4 t 16 = 16 := by
    unfold num4
    rw [show ((16 : Int)).toNat = 16 from rfl, show ((16 : Int) + 4).toNat = 20 from rfl, ex, ht]
    show val [16, 0, 0, 0] = _
    rfl
  have n40 : num4 t 40 = l := by
    unfold num4
    rw [show ((40 : Int)).toNat = 40 from rfl, show ((40 : Int) + 4).toNat = 44 from rfl, ex, ht]
    show val [_, _, _, _] = _
    exact val4 _ (by omega) (by omega)
  have d44 : ∀ j, (bytesOf t).drop (44 + j) = X.drop j := fun j => by rw [ht]; exact drop_head (k := 44) (by rfl) j
  have n3 : num4 t (44 + l + l % 2 + 4) = 3 := by
    unfold num4
    rw [show ((44 : Int) + l + l % 2 + 4).toNat = 44 + (l + l % 2 + 4) by omega, show ((44 : Int) + l + l % 2 + 4 + 4).toNat = 44 + (l + l % 2 + 8) by omega, ex, d44, hxd, show 44 + (l + l % 2 + 8) - (44 + (l + l % 2 + 4)) = 4 by omega]
    rfl
  have f0 : t.extract 12 16 = fmtId := by
    apply Bytes.inj
    rw [ex, ht]
    rfl
  have f1 : t.extract 36 40 = dataId := by
    apply Bytes.inj
    rw [ex, ht]
    rfl
  have f2 : t.extract (44 + l + l % 2) (44 + l + l % 2 + 4) = moreId := by
    apply Bytes.inj
    rw [ex, show 44 + l + l % 2 = 44 + (l + l % 2 + 0) by omega, d44, hxd, show 44 + (l + l % 2 + 0) + 4 - (44 + (l + l % 2 + 0)) = 4 by omega]
    rfl
  have fr : front t = true := by
    unfold front
    refine decide_eq_true ⟨by omega, ht4, ?_, n4, ?_⟩
    · rw [ex, ht]; rfl
    · rw [ex, ht]; rfl
  have hc : chunksOf t = some [⟨fmtId, 20, 16⟩, ⟨dataId, 44, l⟩, ⟨moreId, 44 + l + l % 2 + 8, 3⟩] := by
    unfold chunksOf
    rw [if_pos fr]
    rw [show (64 : Nat) = 60 + 1 + 1 + 1 + 1 from rfl]
    rw [rest, if_pos (by omega), if_neg (by omega), show (12 : Int) + 4 = 16 from rfl, n16, if_neg (by omega), show (12 : Int) + 8 + (16 + 16 % 2) = 36 from rfl]
    rw [rest, if_pos (by omega), if_neg (by omega), show (36 : Int) + 4 = 40 from rfl, n40, if_neg (by omega), show (36 : Int) + 8 + ((l : Int) + (l : Int) % 2) = 44 + l + l % 2 by omega]
    rw [rest, if_pos (by omega), if_neg (by omega), n3, if_neg (by omega)]
    rw [rest, if_neg (by omega)]
    rw [show ((12 : Int)).toNat = 12 from rfl, show ((16 : Int)).toNat = 16 from rfl, show ((36 : Int)).toNat = 36 from rfl, show ((40 : Int)).toNat = 40 from rfl, f0, f1]
    rw [show ((44 : Int) + l + l % 2).toNat = 44 + l + l % 2 by omega, show ((44 : Int) + l + l % 2 + 4).toNat = 44 + l + l % 2 + 4 by omega, f2]
    rfl
  have hff : wave_one.find fmtId [⟨fmtId, 20, 16⟩, ⟨dataId, 44, l⟩, ⟨moreId, 44 + l + l % 2 + 8, 3⟩] 0 = 0 := by
    rw [find_cons, if_pos (show isId ⟨fmtId, 20, 16⟩ fmtId = true by decide +kernel)]; rfl
  have hfd : wave_one.find dataId [⟨fmtId, 20, 16⟩, ⟨dataId, 44, l⟩, ⟨moreId, 44 + l + l % 2 + 8, 3⟩] 0 = 1 := by
    rw [find_cons, if_neg (show ¬ isId ⟨fmtId, 20, 16⟩ dataId = true by decide +kernel), find_cons, if_pos (by show (dataId.toList == dataId.toList) = true; decide +kernel)]; rfl
  have hlf : lone fmtId [⟨fmtId, 20, 16⟩, ⟨dataId, 44, l⟩, ⟨moreId, 44 + l + l % 2 + 8, 3⟩] = true := by
    rw [lone, if_pos (show isId ⟨fmtId, 20, 16⟩ fmtId = true by decide +kernel), has, has, has]
    show (!((dataId.toList == fmtId.toList) || ((moreId.toList == fmtId.toList) || false))) = true
    decide +kernel
  have hld2 : lone dataId [⟨fmtId, 20, 16⟩, ⟨dataId, 44, l⟩, ⟨moreId, 44 + l + l % 2 + 8, 3⟩] = true := by
    rw [lone, if_neg (show ¬ isId ⟨fmtId, 20, 16⟩ dataId = true by decide +kernel), lone, if_pos (by show (dataId.toList == dataId.toList) = true; decide +kernel), has, has]
    show (!((moreId.toList == dataId.toList) || false)) = true
    decide +kernel
  have hte : bytesOf (t.extract 20 36) = [1, 0, 1, 0, r0, r1, r2, r3, r4, r5, r6, r7, 1, 0, 8, 0] := by rw [ex, ht]; rfl
  have m2 : ∀ p : Nat, num2 (t.extract 20 36) p = val (([1, 0, 1, 0, r0, r1, r2, r3, r4, r5, r6, r7, 1, 0, 8, 0].drop p).take (p + 2 - p)) := fun p => by
    unfold num2; rw [Bytes.of_extract, hte]
  have e2 : num2 (t.extract 20 36) 2 = 1 := m2 2
  have e14 : num2 (t.extract 20 36) 14 = 8 := m2 14
  have e0 : num2 (t.extract 20 36) 0 = 1 := m2 0
  have e12 : num2 (t.extract 20 36) 12 = 1 := m2 12
  have hda : t.extract 44 (44 + l) = data := by
    apply Bytes.inj
    rw [ex, show (44 : Nat) = 44 + 0 from rfl, d44, List.drop_zero, hX, show 44 + 0 + l - (44 + 0) = l by omega]
    rw [List.take_append_of_le_length (by omega), List.take_of_length_le (by omega)]
  unfold waveOf
  rw [hc, Option.bind_some]
  unfold waveIn
  rw [found_is, found_is, hff, hfd, if_pos ⟨hlf, hld2, by decide⟩]
  show waveAt t ⟨fmtId, 20, 16⟩ ⟨dataId, 44, l⟩ = _
  unfold waveAt
  dsimp only
  rw [show ((20 : Int)).toNat = 20 from rfl, show ((20 : Int) + 16).toNat = 36 from rfl, e2, e14, if_pos]
  · rw [show ((44 : Int)).toNat = 44 from rfl, show ((44 : Int) + l).toNat = 44 + l by omega, hda]
    rfl
  · refine ⟨rfl, ?_, by show (l : Int) % 1 = 0; omega⟩
    unfold formOk
    rw [e2, e14, e0, e12]
    decide +kernel
theorem low_size (n : Nat) (x : Int) : (strOfNums (low n x)).size = n := by rw [nums_size', low_length]
theorem low_bytes (n : Nat) (x : Int) : bytesOf (strOfNums (low n x)) = low n x := Bytes.of_nums_in (low_in n x)
theorem wav_of (k : Nat) (data : ByteArray) (hs : data.size ≤ 140737488351232) : ∃ s, descantlaw21_wav.f (k + 6) 1 8 data = some s ∧ s.size = 56 + data.size + data.size % 2 ∧ bytesOf s = headL ((s.size : Int) - 8) 114 97 116 101 97 110 100 98 data.size ++ (bytesOf data ++ (padL data.size ++ tailL 100)) := by
  have a1 : ∀ x, descantref1_Low.f (k + 6) x 2 = some (strOfNums (low 2 x)) := fun x => ref_low (by decide) (by decide)
  have a4 : ∀ x, descantref1_Low.f (k + 6) x 4 = some (strOfNums (low 4 x)) := fun x => ref_low (by decide) (by decide)
  have hf : wrap64 (Int.tdiv (wrap64 (1 * 8)) 8) = 1 := by decide +kernel
  unfold descantlaw21_wav.f
  rw [a1 1, Option.bind_some, low_size, if_pos (by omega), if_pos (by omega), hf, a1 1, Option.bind_some, low_size, if_pos (by omega), a1 8, Option.bind_some, low_size, if_pos (by omega), if_pos (by omega), a4, Option.bind_some, low_size, if_pos (by omega), if_pos (by omega)]
  have b0 : bytesOf (⟨#[87, 65, 86, 69, 102, 109, 116, 32, 16, 0, 0, 0, 1, 0]⟩ : ByteArray) = [87, 65, 86, 69, 102, 109, 116, 32, 16, 0, 0, 0, 1, 0] := rfl
  have b1 : bytesOf (⟨#[114, 97, 116, 101, 97, 110, 100, 98]⟩ : ByteArray) = [114, 97, 116, 101, 97, 110, 100, 98] := rfl
  have b2 : bytesOf (⟨#[100, 97, 116, 97]⟩ : ByteArray) = [100, 97, 116, 97] := rfl
  have b3 : bytesOf (⟨#[109, 111, 114, 101, 3, 0, 0, 0, 97, 98, 99, 100]⟩ : ByteArray) = tailL 100 := rfl
  have b4 : bytesOf (⟨#[82, 73, 70, 70]⟩ : ByteArray) = [82, 73, 70, 70] := rfl
  have b5 : bytesOf (⟨#[112]⟩ : ByteArray) = [112] := rfl
  by_cases hp : (data.size : Int) % 2 = 1
  · rw [if_pos hp, if_pos (by omega), if_pos (by omega), a4, Option.bind_some, low_size, if_pos (by omega), if_pos (by omega)]
    refine ⟨_, rfl, ?_, ?_⟩
    · simp only [ByteArray.size_append, low_size]
      show 4 + 4 + (14 + 2 + 8 + 2 + 2 + 4 + 4 + data.size + 1 + 12) = _
      omega
    · have hz : (((⟨#[82, 73, 70, 70]⟩ : ByteArray) ++ strOfNums (low 4 (14 + ((2 : Nat) : Int) + 8 + ((2 : Nat) : Int) + ((2 : Nat) : Int) + 4 + ((4 : Nat) : Int) + (data.size : Int) + 1 + 12)) ++ ((⟨#[87, 65, 86, 69, 102, 109, 116, 32, 16, 0, 0, 0, 1, 0]⟩ : ByteArray) ++ strOfNums (low 2 1) ++ (⟨#[114, 97, 116, 101, 97, 110, 100, 98]⟩ : ByteArray) ++ strOfNums (low 2 1) ++ strOfNums (low 2 8) ++ (⟨#[100, 97, 116, 97]⟩ : ByteArray) ++ strOfNums (low 4 (data.size : Int)) ++ data ++ (⟨#[112]⟩ : ByteArray) ++ (⟨#[109, 111, 114, 101, 3, 0, 0, 0, 97, 98, 99, 100]⟩ : ByteArray))).size : Int) - 8 = 14 + ((2 : Nat) : Int) + 8 + ((2 : Nat) : Int) + ((2 : Nat) : Int) + 4 + ((4 : Nat) : Int) + (data.size : Int) + 1 + 12 := by
        simp only [ByteArray.size_append, low_size]
        show ((4 + 4 + (14 + 2 + 8 + 2 + 2 + 4 + 4 + data.size + 1 + 12) : Nat) : Int) - 8 = _
        omega
      rw [hz]
      obtain ⟨n, hn⟩ : ∃ n, n = 14 + ((2 : Nat) : Int) + 8 + ((2 : Nat) : Int) + ((2 : Nat) : Int) + 4 + ((4 : Nat) : Int) + (data.size : Int) + 1 + 12 := ⟨_, rfl⟩
      rw [← hn]
      simp only [Bytes.of_append, low_bytes, b0, b1, b2, b3, b4, b5]
      unfold padL
      rw [if_pos hp]
      simp [low, headL]
  · rw [if_neg hp, if_pos (by omega), a4, Option.bind_some, low_size, if_pos (by omega), if_pos (by omega)]
    refine ⟨_, rfl, ?_, ?_⟩
    · simp only [ByteArray.size_append, low_size]
      show 4 + 4 + (14 + 2 + 8 + 2 + 2 + 4 + 4 + data.size + 12) = _
      omega
    · have hz : (((⟨#[82, 73, 70, 70]⟩ : ByteArray) ++ strOfNums (low 4 (14 + ((2 : Nat) : Int) + 8 + ((2 : Nat) : Int) + ((2 : Nat) : Int) + 4 + ((4 : Nat) : Int) + (data.size : Int) + 12)) ++ ((⟨#[87, 65, 86, 69, 102, 109, 116, 32, 16, 0, 0, 0, 1, 0]⟩ : ByteArray) ++ strOfNums (low 2 1) ++ (⟨#[114, 97, 116, 101, 97, 110, 100, 98]⟩ : ByteArray) ++ strOfNums (low 2 1) ++ strOfNums (low 2 8) ++ (⟨#[100, 97, 116, 97]⟩ : ByteArray) ++ strOfNums (low 4 (data.size : Int)) ++ data ++ (⟨#[109, 111, 114, 101, 3, 0, 0, 0, 97, 98, 99, 100]⟩ : ByteArray))).size : Int) - 8 = 14 + ((2 : Nat) : Int) + 8 + ((2 : Nat) : Int) + ((2 : Nat) : Int) + 4 + ((4 : Nat) : Int) + (data.size : Int) + 12 := by
        simp only [ByteArray.size_append, low_size]
        show ((4 + 4 + (14 + 2 + 8 + 2 + 2 + 4 + 4 + data.size + 12) : Nat) : Int) - 8 = _
        omega
      rw [hz]
      obtain ⟨n, hn⟩ : ∃ n, n = 14 + ((2 : Nat) : Int) + 8 + ((2 : Nat) : Int) + ((2 : Nat) : Int) + 4 + ((4 : Nat) : Int) + (data.size : Int) + 12 := ⟨_, rfl⟩
      rw [← hn]
      simp only [Bytes.of_append, low_bytes, b0, b1, b2, b3, b4, b5]
      unfold padL
      rw [if_neg hp]
      simp [low, headL]
/-- The eight free bytes written anew, and the last one. -/
theorem turned (A D P : List Int) (n r0 r1 r2 r3 r4 r5 r6 r7 l q q' : Int) : (setMany (headL n 114 97 116 101 97 110 100 98 l ++ (D ++ (P ++ tailL q))) 24 [r0, r1, r2, r3, r4, r5, r6, r7]).set (44 + (D.length + (P.length + 11))) q' = headL n r0 r1 r2 r3 r4 r5 r6 r7 l ++ (D ++ (P ++ tailL q')) := by
  have h1 : setMany (headL n 114 97 116 101 97 110 100 98 l ++ (D ++ (P ++ tailL q))) 24 [r0, r1, r2, r3, r4, r5, r6, r7] = headL n r0 r1 r2 r3 r4 r5 r6 r7 l ++ (D ++ (P ++ tailL q)) := rfl
  rw [h1, List.set_append_right _ _ (by show 44 ≤ _; omega)]
  rw [show 44 + (D.length + (P.length + 11)) - (headL n r0 r1 r2 r3 r4 r5 r6 r7 l).length = D.length + (P.length + 11) from by show 44 + _ - 44 = _; omega]
  rw [List.set_append_right _ _ (by omega), show D.length + (P.length + 11) - D.length = P.length + 11 by omega]
  rw [List.set_append_right _ _ (by omega), show P.length + 11 - P.length = 11 by omega]
  rfl
end Go.Proofs.Ytkngkmemcokbfaa.PWv
