/- Layer 20, RiffMany: the text that is built, the chunks that are told. No program in sight. -/
import Derived.Test.YtkngkmemcokbfaaRiffLaw
import Derived.Test.YtkngkmemcokbfaaRiff
import Derived.Test.YtkngkmemcokbfaaNum
import Derived.Lib.Hide
namespace Go.Proofs.Ytkngkmemcokbfaa.PAll
open Go Go.RowKit Go.Proofs.YtkngkmemcokbfaaW.PrintWords Go.Proofs.YtkngkmemcokbfaaW.PrintMore
set_option linter.unusedVariables false
set_option linter.unusedSimpArgs false
def szOf (zs : List Int) (i : Nat) : Int := if i < zs.length then Go.bits .and .i64 (rd zs (i : Int)) 7 else 0
def stepU (T : ByteArray) (z : Int) : ByteArray := ((T ++ (⟨#[97, 98, 99, 100]⟩ : ByteArray)) ++ strOfNums [z % 256, 0, 0, 0]) ++ (⟨#[48, 49, 50, 51, 52, 53, 54]⟩ : ByteArray).extract 0 z.toNat
def stepT (T : ByteArray) (z : Int) : ByteArray := if z % 2 = 1 then stepU T z ++ (⟨#[63]⟩ : ByteArray) else stepU T z
def sAt (zs : List Int) : Nat → ByteArray
  | 0 => ⟨#[87, 65, 86, 69]⟩
  | i + 1 => stepT (sAt zs i) (szOf zs i)
def wAt (zs : List Int) : Nat → List S34
  | 0 => []
  | i + 1 => wAt zs i ++ [⟨⟨#[97, 98, 99, 100]⟩, (4 : Int) + (sAt zs i).size + 12, szOf zs i⟩]
theorem sz_range (zs : List Int) (i : Nat) : 0 ≤ szOf zs i ∧ szOf zs i ≤ 7 := by
  unfold szOf
  split
  · rw [Num.and_mask _ 7 3 (by omega) (by rfl)]; omega
  · omega
theorem nums_size (l : List Int) : (strOfNums l).size = l.length := by
  rw [← bytesOf_length, Bytes.of_nums, List.length_map]
theorem stepU_size (T : ByteArray) {z : Int} (h0 : 0 ≤ z) (h7 : z ≤ 7) : ((stepU T z).size : Int) = T.size + 8 + z := by
  unfold stepU
  rw [ByteArray.size_append, ByteArray.size_append, ByteArray.size_append, nums_size, ByteArray.size_extract]
  show ((T.size + 4 + 4 + (min z.toNat 7 - 0) : Nat) : Int) = _
  omega
theorem stepT_size (T : ByteArray) {z : Int} (h0 : 0 ≤ z) (h7 : z ≤ 7) : ((stepT T z).size : Int) = T.size + 8 + z + z % 2 := by
  unfold stepT
  have := stepU_size T h0 h7
  split
  · rw [ByteArray.size_append, Int.natCast_add, this]
    show (T.size : Int) + 8 + z + ((1 : Nat) : Int) = _
    omega
  · rw [this]; omega
theorem sAt_size (zs : List Int) : ∀ i : Nat, (sAt zs i).size ≤ 4 + 16 * i
  | 0 => Nat.le_refl 4
  | i + 1 => by
    have h := sz_range zs i
    have := stepT_size (sAt zs i) h.1 h.2
    have ih := sAt_size zs i
    show (stepT (sAt zs i) (szOf zs i)).size ≤ _
    omega
theorem wAt_length (zs : List Int) : ∀ i : Nat, (wAt zs i).length = i
  | 0 => rfl
  | i + 1 => by show (wAt zs i ++ [_]).length = _; rw [List.length_append, wAt_length zs i]; rfl
def fileOf (T : ByteArray) : ByteArray := ((⟨#[82, 73, 70, 70]⟩ : ByteArray) ++ strOfNums [(T.size : Int) % 256, (T.size : Int) / 256, 0, 0]) ++ T
theorem fileOf_size (T : ByteArray) : (fileOf T).size = 8 + T.size := by
  unfold fileOf
  rw [ByteArray.size_append, ByteArray.size_append, nums_size]
  show 4 + 4 + T.size = _
  omega
def pc (z : Int) : List Int := [97, 98, 99, 100, z, 0, 0, 0] ++ (([48, 49, 50, 51, 52, 53, 54] : List Int).take z.toNat ++ (if z % 2 = 1 then [63] else []))
theorem pc_len {z : Int} (h0 : 0 ≤ z) (h7 : z ≤ 7) : ((pc z).length : Int) = 8 + z + z % 2 := by
  obtain ⟨k, rfl⟩ : ∃ k : Nat, z = k := ⟨z.toNat, by omega⟩
  rcases (show k = 0 ∨ k = 1 ∨ k = 2 ∨ k = 3 ∨ k = 4 ∨ k = 5 ∨ k = 6 ∨ k = 7 by omega) with rfl | rfl | rfl | rfl | rfl | rfl | rfl | rfl <;> rfl
theorem step_bytes (T : ByteArray) {z : Int} (h0 : 0 ≤ z) (h7 : z ≤ 7) : bytesOf (stepT T z) = bytesOf T ++ pc z := by
  have e1 : bytesOf (stepU T z) = bytesOf T ++ ([97, 98, 99, 100, z, 0, 0, 0] ++ ([48, 49, 50, 51, 52, 53, 54] : List Int).take z.toNat) := by
    unfold stepU
    rw [Bytes.of_append, Bytes.of_append, Bytes.of_append, Bytes.of_extract, Bytes.of_nums_in (fun x hx => by simp at hx; omega), show bytesOf (⟨#[97, 98, 99, 100]⟩ : ByteArray) = [97, 98, 99, 100] from by rfl, show bytesOf (⟨#[48, 49, 50, 51, 52, 53, 54]⟩ : ByteArray) = [48, 49, 50, 51, 52, 53, 54] from by rfl, show z % 256 = z by omega, List.drop_zero, Nat.sub_zero]
    simp
  unfold stepT pc
  split
  · rw [Bytes.of_append, e1, show bytesOf (⟨#[63]⟩ : ByteArray) = [63] from by rfl]
    simp
  · rw [e1]
    simp
theorem pre (zs : List Int) (i : Nat) : ∀ n, i < n → ∃ t, bytesOf (sAt zs n) = bytesOf (sAt zs i) ++ (pc (szOf zs i) ++ t)
  | 0, h => absurd h (by omega)
  | n + 1, h => by
    have e : bytesOf (sAt zs (n + 1)) = bytesOf (sAt zs n) ++ pc (szOf zs n) := step_bytes _ (sz_range zs n).1 (sz_range zs n).2
    rcases Nat.lt_or_ge i n with hi | hi
    · obtain ⟨t, ht⟩ := pre zs i n hi
      exact ⟨t ++ pc (szOf zs n), by rw [e, ht]; simp⟩
    · obtain rfl : i = n := by omega
      exact ⟨[], by rw [e]; simp⟩
theorem drop_mid {H B R : List Int} {s : Nat} (hH : H.length = 8) (hB : B.length = s) (k : Nat) : (H ++ (B ++ R)).drop (8 + s + k) = R.drop k := by
  rw [← List.append_assoc, List.drop_append, List.drop_eq_nil_of_le (by rw [List.length_append]; omega), List.nil_append]
  congr 1
  rw [List.length_append]; omega
theorem file_bytes (T : ByteArray) (hT : T.size ≤ 4000) : bytesOf (fileOf T) = [82, 73, 70, 70, (T.size : Int) % 256, (T.size : Int) / 256, 0, 0] ++ bytesOf T := by
  unfold fileOf
  rw [Bytes.of_append, Bytes.of_append, Bytes.of_nums_in (fun x hx => by simp at hx; omega), show bytesOf (⟨#[82, 73, 70, 70]⟩ : ByteArray) = [82, 73, 70, 70] from by rfl]
  rfl
def el (zs : List Int) (i : Nat) : S34 := ⟨⟨#[97, 98, 99, 100]⟩, (4 : Int) + (sAt zs i).size + 12, szOf zs i⟩
theorem w_drop (zs : List Int) (i : Nat) : ∀ n, i < n → (wAt zs n).drop i = el zs i :: (wAt zs n).drop (i + 1)
  | 0, h => absurd h (by omega)
  | n + 1, h => by
    have e : wAt zs (n + 1) = wAt zs n ++ [el zs n] := rfl
    have hl := wAt_length zs n
    rw [e]
    rcases Nat.lt_or_ge i n with hi | hi
    · rw [List.drop_append_of_le_length (by omega), List.drop_append_of_le_length (by omega), w_drop zs i n hi]; rfl
    · obtain rfl : i = n := by omega
      rw [List.drop_append_of_le_length (by omega), List.drop_eq_nil_of_le (by omega), List.drop_eq_nil_of_le (by rw [List.length_append]; simp; omega)]; rfl
theorem rest_is (zs : List Int) (n : Nat) (hn : n ≤ 127) (d : Nat) : ∀ i : Nat, i ≤ n → rest (fileOf (sAt zs n)) d (8 + (sAt zs i).size : Int) = if n - i ≤ d then some ((wAt zs n).drop i) else none := by
  have hT := sAt_size zs n
  have hF := fileOf_size (sAt zs n)
  have hb := file_bytes (sAt zs n) (by omega)
  have hlt : ∀ i, i < n → ((sAt zs i).size : Int) + (8 + szOf zs i + szOf zs i % 2) ≤ (sAt zs n).size := by
    intro i hi
    obtain ⟨t, ht⟩ := pre zs i n hi
    have h1 := congrArg List.length ht
    rw [List.length_append, List.length_append, bytesOf_length, bytesOf_length] at h1
    have h2 := pc_len (sz_range zs i).1 (sz_range zs i).2
    omega
  induction d with
  | zero =>
    intro i hi
    unfold rest
    rcases Nat.lt_or_ge i n with h | h
    · have := hlt i h
      have hz := sz_range zs i
      rw [if_pos (by omega), if_neg (by omega)]
    · obtain rfl : i = n := by omega
      rw [if_neg (by omega), if_pos (by omega), List.drop_eq_nil_of_le (by rw [wAt_length]; omega)]
  | succ d ih =>
    intro i hi
    unfold rest
    rcases Nat.lt_or_ge i n with h | h
    · have hs := hlt i h
      have hz := sz_range zs i
      obtain ⟨t, ht⟩ := pre zs i n h
      rw [ht] at hb
      have hnum : num4 (fileOf (sAt zs n)) (8 + (sAt zs i).size + 4) = szOf zs i := by
        unfold num4
        rw [Bytes.of_extract, hb, show ((8 : Int) + (sAt zs i).size + 4).toNat = 8 + (sAt zs i).size + 4 by omega, drop_mid rfl (by rw [bytesOf_length]) 4, show ((8 : Int) + (sAt zs i).size + 4 + 4).toNat - (8 + (sAt zs i).size + 4) = 4 by omega]
        show val [szOf zs i, 0, 0, 0] = _
        simp [val]
      have hid : (fileOf (sAt zs n)).extract ((8 : Int) + (sAt zs i).size).toNat ((8 : Int) + (sAt zs i).size + 4).toNat = ⟨#[97, 98, 99, 100]⟩ := by
        apply Bytes.inj
        rw [Bytes.of_extract, hb, show ((8 : Int) + (sAt zs i).size).toNat = 8 + (sAt zs i).size + 0 by omega, drop_mid rfl (by rw [bytesOf_length]) 0, show ((8 : Int) + (sAt zs i).size + 4).toNat - (8 + (sAt zs i).size + 0) = 4 by omega]
        rfl
      have hnx : (8 : Int) + (sAt zs i).size + 8 + (szOf zs i + szOf zs i % 2) = 8 + (sAt zs (i + 1)).size := by
        have := stepT_size (sAt zs i) hz.1 hz.2
        show _ = 8 + ((stepT (sAt zs i) (szOf zs i)).size : Int)
        omega
      rw [if_pos (by omega), if_neg (by omega), hnum, if_neg (by omega), hnx, ih (i + 1) (by omega), hid]
      by_cases c : n - (i + 1) ≤ d
      · rw [if_pos c, if_pos (by omega), w_drop zs i n h]
        unfold el
        rw [Option.map_some, show (8 : Int) + (sAt zs i).size + 8 = 4 + (sAt zs i).size + 12 by omega]
      · rw [if_neg c, if_neg (by omega)]; rfl
    · obtain rfl : i = n := by omega
      rw [if_neg (by omega), if_pos (by omega), List.drop_eq_nil_of_le (by rw [wAt_length]; omega)]
theorem wave_first (zs : List Int) : ∀ n, (bytesOf (sAt zs n)).take 4 = [87, 65, 86, 69]
  | 0 => by rfl
  | n + 1 => by
    have e : bytesOf (sAt zs (n + 1)) = bytesOf (sAt zs n) ++ pc (szOf zs n) := step_bytes _ (sz_range zs n).1 (sz_range zs n).2
    have h := wave_first zs n
    have hl : 4 ≤ (bytesOf (sAt zs n)).length := by have := congrArg List.length h; simp at this; omega
    rw [e, List.take_append_of_le_length hl, h]
theorem many_chunks (zs : List Int) (n : Nat) (hn : n ≤ 127) : told [] (chunksOf (fileOf (sAt zs n))) = if n ≤ 64 then (wAt zs n, 0) else ([], 2000) := by
  have hT := sAt_size zs n
  have hF := fileOf_size (sAt zs n)
  have hb := file_bytes (sAt zs n) (by omega)
  have hw := wave_first zs n
  have hl : 4 ≤ (sAt zs n).size := by have := congrArg List.length hw; simp at this; have h2 := bytesOf_length (sAt zs n); omega
  have hf : front (fileOf (sAt zs n)) = true := by
    unfold front
    rw [decide_eq_true_iff]
    refine ⟨by omega, by omega, ?_, ?_, ?_⟩
    · rw [Bytes.of_extract, hb]; rfl
    · unfold num4
      rw [Bytes.of_extract, hb]
      show val [((sAt zs n).size : Int) % 256, ((sAt zs n).size : Int) / 256, 0, 0] = _
      simp only [val]; omega
    · rw [Bytes.of_extract, hb, List.drop_append_of_le_length (by simp)]
      show ((bytesOf (sAt zs n))).take 4 = _
      exact hw
  unfold chunksOf
  rw [if_pos hf]
  have h := rest_is zs n hn 64 0 (by omega)
  rw [show (8 : Int) + (sAt zs 0).size = 12 from rfl, Nat.sub_zero, List.drop_zero] at h
  rw [h]
  split <;> rfl
end Go.Proofs.Ytkngkmemcokbfaa.PAll
