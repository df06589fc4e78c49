/- A file's chunks (layer 20): the document's own Chunks comes to the same. -/
import Derived.Test.YtkngkmemcokbfaaPWvx10
import Derived.Test.YtkngkmemcokbfaaVFieldRef3
import Derived.Test.YtkngkmemcokbfaaVRiff
namespace Go.Proofs.Ytkngkmemcokbfaa.PWv
open Go Go.RowKit Go.Proofs.YtkngkmemcokbfaaW.PrintWords Go.Proofs.YtkngkmemcokbfaaW.PrintMore
set_option linter.unusedVariables false
set_option linter.unusedSimpArgs false

theorem ref_loop (k : Nat) (s : ByteArray) (hs : s.size ≤ 4096) (d : Nat) : ∀ (acc : List S34) (p : Int), acc.length + d = 64 → 0 ≤ p → p ≤ s.size →
    descantref13_Chunks.l0 (k + 2 * d + 12) s acc p = some (told acc (rest s d p)) := by
  induction d with
  | zero =>
    intro acc p ha h0 hp
    simp only [descantref13_Chunks.l0, rest]
    by_cases c : p < (s.size : Int)
    · rw [if_pos c, if_pos c, Num.w64 (n := (s.size : Int) - p) (by omega) (by omega)]
      by_cases c8 : (s.size : Int) - p < 8
      · rw [if_pos c8]; simp only [descantref13_Chunks.j2]; rfl
      · rw [if_neg c8, show ((acc.length : Int) == 64) = true by rw [beq_iff_eq]; omega]
        simp only [descantref13_Chunks.j2]; rfl
    · rw [if_neg c, if_neg c]; simp [told]
  | succ d ih =>
    intro acc p ha h0 hp
    rw [show k + 2 * (d + 1) + 12 = (k + 2 * d + 13) + 1 by omega]
    simp only [descantref13_Chunks.l0, rest]
    by_cases c : p < (s.size : Int)
    · rw [if_pos c, if_pos c, Num.w64 (n := (s.size : Int) - p) (by omega) (by omega)]
      rw [show k + 2 * d + 13 = (k + 2 * d + 12) + 1 by omega]
      by_cases c8 : (s.size : Int) - p < 8
      · rw [if_pos c8, if_pos c8]; simp only [descantref13_Chunks.j2]; rfl
      · rw [if_neg c8, if_neg c8, show ((acc.length : Int) == 64) = false by rw [beq_eq_false_iff_ne]; omega]
        simp only [descantref13_Chunks.j2]
        rw [if_neg (by decide), Num.w64 (n := p + 4) (by omega) (by omega), Num.w64 (n := p + 8) (by omega) (by omega), if_pos (by omega), if_pos (by omega), if_pos (by omega)]
        have hx : (s.extract (p + 4).toNat (p + 8).toNat).size = 4 := by rw [ByteArray.size_extract]; omega
        rw [show k + 2 * d + 12 = (k + 2 * d + 5) + 7 by omega, ref_get _ _ (by omega), get_in (by omega) (by omega)]
        simp only [Option.bind_some]
        have hn0 : val (bytesOf (s.extract (p + 4).toNat (p + 8).toNat)) = num4 s (p + 4) := by
          unfold num4; rw [show p + 4 + 4 = p + 8 by omega]
        have r := num4_range s (p + 4) (by omega) (by omega)
        rw [hn0]
        obtain ⟨n, hn⟩ : ∃ n, n = num4 s (p + 4) := ⟨_, rfl⟩
        rw [← hn] at r ⊢
        rw [show Go.bits .and .i64 n 1 = n % 2 from Num.and_mask n 1 1 (by decide) (by decide), Num.w64 (n := n + n % 2) (by omega) (by omega), Num.w64 (n := (s.size : Int) - p) (by omega) (by omega), Num.w64 (n := (s.size : Int) - p - 8) (by omega) (by omega)]
        by_cases cn : n + n % 2 > (s.size : Int) - (p + 8)
        · rw [if_pos (show n + n % 2 > (s.size : Int) - p - 8 by omega), if_pos cn]; rfl
        · rw [if_neg (show ¬ n + n % 2 > (s.size : Int) - p - 8 by omega), if_neg cn, if_pos h0, if_pos (by omega), if_pos (by omega), if_pos (by omega), Num.w64 (n := p + 8 + n) (by omega) (by omega), Num.w64 (by omega) (by omega)]
          rw [show k + 2 * d + 5 + 7 = k + 2 * d + 12 by omega, ih _ _ (by simp; omega) (by omega) (by omega), show p + 8 + n + n % 2 = p + 8 + (n + n % 2) by omega]
          cases rest s d (p + 8 + (n + n % 2)) with
          | none => rfl
          | some cs => simp [told]
    · rw [if_neg c, if_neg c]; simp [told]

theorem chunks_ref (k : Nat) (s : ByteArray) (hs : s.size ≤ 140737488351232) : descantref13_Chunks.f (k + 160) s = some (told [] (chunksOf s)) := by
  have bad : ∀ k, descantref13_Chunks.j0 (k + 1) s true = some ([], 2000) := fun k => by simp only [descantref13_Chunks.j0]; rfl
  have no : ∀ k, front s = false → descantref13_Chunks.j0 (k + 1) s true = some (told [] (chunksOf s)) := fun k h => by rw [bad, chunksOf, h]; rfl
  unfold descantref13_Chunks.f
  rw [show k + 160 = (k + 159) + 1 by omega]
  by_cases c2 : (s.size : Int) < 12
  · rw [if_pos c2]; exact no _ (decide_eq_false (by omega))
  rw [if_neg c2]
  by_cases c1 : (s.size : Int) > 4096
  · rw [if_pos c1]; exact no _ (decide_eq_false (by omega))
  rw [if_neg c1, if_pos (by decide), if_pos (by omega)]
  by_cases c3 : bytesOf (s.extract 0 4) = [82, 73, 70, 70]
  · have e : (s.extract 0 4).toList = [82, 73, 70, 70] := by rw [extract_list, c3]; rfl
    rw [if_pos e, if_pos (by decide), if_pos (by omega), Num.w64 (n := (s.size : Int) - 8) (by omega) (by omega), show k + 159 + 1 = (k + 154) + 6 by omega, ref_low (by decide) (by decide)]
    simp only [Option.bind_some]
    have hx : (s.extract 4 8).size = 4 := by rw [ByteArray.size_extract]; omega
    have hb : (bytesOf (s.extract 4 8)).length = 4 := by rw [bytesOf_length, hx]
    have iff4 : (s.extract 4 8).toList = (strOfNums (low (4 : Int).toNat ((s.size : Int) - 8))).toList ↔ num4 s 4 = (s.size : Int) - 8 := by
      rw [Bytes.toList_iff, Bytes.of_nums_in (low_in _ _)]
      constructor
      · intro h
        have h2 := congrArg val h
        rw [val_low, Int.emod_eq_of_lt (by omega) (by show _ < (4294967296 : Int); omega)] at h2
        exact h2
      · intro h
        have h2 : val (bytesOf (s.extract 4 8)) = (s.size : Int) - 8 := h
        rw [← h2]
        have h3 := low_val (bytesOf (s.extract 4 8)) (fun _ h => Bytes.range h)
        rw [hb] at h3
        exact h3.symm
    by_cases c4 : num4 s 4 = (s.size : Int) - 8
    · rw [if_pos (iff4.2 c4), if_pos (by decide), if_pos (by omega)]
      by_cases c5 : bytesOf (s.extract 8 12) = [87, 65, 86, 69]
      · have e : ((s.extract 8 12).toList != [87, 65, 86, 69]) = false := by
          rw [bne_eq_false_iff_eq, extract_list, c5]; rfl
        rw [e]
        simp only [descantref13_Chunks.j0]
        rw [if_neg (by decide), show k + 154 + 5 = (k + 19) + 2 * 64 + 12 by omega, ref_loop _ _ (by omega) 64 [] 12 rfl (by decide) (by omega)]
        have hf : front s = true := decide_eq_true ⟨by omega, by omega, c3, c4, c5⟩
        rw [chunksOf, if_pos hf]
      · have e : ((s.extract 8 12).toList != [87, 65, 86, 69]) = true := by
          rw [bne_iff_ne]; intro h; exact c5 (by rw [(extract_list s _ 8 12).1 h]; rfl)
        rw [e]; exact no _ (decide_eq_false (fun h => c5 h.2.2.2.2))
    · rw [if_neg (fun h => c4 (iff4.1 h))]; exact no _ (decide_eq_false (fun h => c4 h.2.2.2.1))
  · have e : ¬ (s.extract 0 4).toList = [82, 73, 70, 70] := fun h => c3 (by rw [(extract_list s _ 0 4).1 h]; rfl)
    rw [if_neg e]; exact no _ (decide_eq_false (fun h => c3 h.2.2.1))

end Go.Proofs.Ytkngkmemcokbfaa.PWv
