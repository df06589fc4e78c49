/- A file's chunks (layer 20): what the printed Chunks comes to. -/
import Derived.Test.YtkngkmemcokbfaaPWvx4
import Derived.Test.YtkngkmemcokbfaaVField0
namespace Go.Proofs.Ytkngkmemcokbfaa.PWv
open Go Go.RowKit Go.Proofs.YtkngkmemcokbfaaW.PrintWords Go.Proofs.YtkngkmemcokbfaaW.PrintMore
set_option linter.unusedVariables false
set_option linter.unusedSimpArgs false

/-- The number of four bytes. -/
def num4 (s : ByteArray) (at_ : Int) : Int := val (bytesOf (s.extract at_.toNat (at_ + 4).toNat))
/-- The chunks from a place on, at most d; none: they are none. -/
def rest (s : ByteArray) : Nat → Int → Option (List S34)
  | 0, p => if p < (s.size : Int) then none else some []
  | d + 1, p => if p < (s.size : Int) then
      if (s.size : Int) - p < 8 then none
      else if num4 s (p + 4) + num4 s (p + 4) % 2 > (s.size : Int) - (p + 8) then none
      else (rest s d (p + 8 + (num4 s (p + 4) + num4 s (p + 4) % 2))).map fun cs => ⟨s.extract p.toNat (p + 4).toNat, p + 8, num4 s (p + 4)⟩ :: cs
    else some []
/-- What stands ahead of the chunks. -/
def front (s : ByteArray) : Bool :=
  decide (12 ≤ s.size ∧ s.size ≤ 4096 ∧ bytesOf (s.extract 0 4) = [82, 73, 70, 70] ∧ num4 s 4 = (s.size : Int) - 8 ∧ bytesOf (s.extract 8 12) = [87, 65, 86, 69])
/-- A file's chunks, or none. -/
def chunksOf (s : ByteArray) : Option (List S34) := if front s = true then rest s 64 12 else none
def told (acc : List S34) : Option (List S34) → List S34 × Int
  | none => ([], 2000)
  | some cs => (acc ++ cs, 0)

theorem num4_range (s : ByteArray) (p : Int) (h0 : 0 ≤ p) (h : p + 4 ≤ s.size) : 0 ≤ num4 s p ∧ num4 s p < 4294967296 := by
  have r := val_range (bytesOf (s.extract p.toNat (p + 4).toNat)) (fun _ h => Bytes.range h)
  rw [bytesOf_length, ByteArray.size_extract, show min (p + 4).toNat s.size - p.toNat = 4 by omega] at r
  exact r

theorem size_of {k : Nat} {s : ByteArray} {p : Int} (h0 : 0 ≤ p) (h : p + 4 ≤ s.size) (hs : s.size ≤ 4096) : riff_size.f (k + 7) s p = some (num4 s p) := by
  unfold riff_size.f
  rw [Num.w64 (n := p + 4) (by omega) (by omega), if_pos h0, if_pos (by omega), if_pos h]
  rw [get_in (by rw [ByteArray.size_extract]; omega) (by rw [ByteArray.size_extract]; omega)]
  rfl

theorem loop_of (k : Nat) (s : ByteArray) (hs : s.size ≤ 4096) (d : Nat) : ∀ (acc : List S34) (p : Int), acc.length + d = 64 → 0 ≤ p → p ≤ s.size →
    riff_Chunks.l0 (k + 2 * d + 12) s acc p = some (told acc (rest s d p)) := by
  induction d with
  | zero =>
    intro acc p ha h0 hp
    simp only [riff_Chunks.l0, rest]
    by_cases c : p < (s.size : Int)
    · rw [if_pos c, if_pos c, if_pos (by omega)]
      simp only [riff_Chunks.j2]; rfl
    · rw [if_neg c, if_neg c]; simp [told]
  | succ d ih =>
    intro acc p ha h0 hp
    rw [show k + 2 * (d + 1) + 12 = (k + 2 * d + 13) + 1 by omega]
    simp only [riff_Chunks.l0, rest]
    by_cases c : p < (s.size : Int)
    · rw [if_pos c, if_pos c, if_neg (by omega), Num.w64 (n := (s.size : Int) - p) (by omega) (by omega)]
      rw [show k + 2 * d + 13 = (k + 2 * d + 12) + 1 by omega]
      by_cases c8 : (s.size : Int) - p < 8
      · rw [if_pos c8, decide_eq_true c8]; simp only [riff_Chunks.j2]; rfl
      · rw [if_neg c8, decide_eq_false c8]
        simp only [riff_Chunks.j2]
        rw [if_neg (by decide), Num.w64 (n := p + 4) (by omega) (by omega), if_pos h0, if_pos (by omega), if_pos (by omega)]
        rw [show k + 2 * d + 12 = (k + 2 * d + 5) + 7 by omega, size_of (by omega) (by omega) hs]
        simp only [Option.bind_some]
        have r := num4_range s (p + 4) (by omega) (by omega)
        obtain ⟨n, hn⟩ : ∃ n, n = num4 s (p + 4) := ⟨_, rfl⟩
        rw [← hn] at r ⊢
        rw [Int.tmod_eq_emod_of_nonneg r.1, Num.w64 (n := n + n % 2) (by omega) (by omega), Num.w64 (n := p + 8) (by omega) (by omega), Num.w64 (n := (s.size : Int) - (p + 8)) (by omega) (by omega)]
        by_cases cn : n + n % 2 > (s.size : Int) - (p + 8)
        · rw [if_pos cn, if_pos cn]; rfl
        · rw [if_neg cn, if_neg cn, if_pos (by omega), Num.w64 (by omega) (by omega)]
          rw [show k + 2 * d + 5 + 7 = k + 2 * d + 12 by omega, ih _ _ (by simp; omega) (by omega) (by omega)]
          cases rest s d (p + 8 + (n + n % 2)) with
          | none => rfl
          | some cs => simp [told]
    · rw [if_neg c, if_neg c]; simp [told]

theorem extract_list (s : ByteArray) (l : List UInt8) (i j : Nat) : (s.extract i j).toList = l ↔ bytesOf (s.extract i j) = l.map fun b => (b.toNat : Int) := by
  rw [← Bytes.of_lit, ← Bytes.toList_iff]
  exact ⟨fun h => h.trans (ByteArray.toList_mk l).symm, fun h => h.trans (ByteArray.toList_mk l)⟩

theorem chunks_prog (k : Nat) (s : ByteArray) (hs : s.size ≤ 140737488351232) : riff_Chunks.f (k + 160) s = some (told [] (chunksOf s)) := by
  have bad : ∀ k, riff_Chunks.j0 (k + 1) s true = some ([], 2000) := fun k => by simp only [riff_Chunks.j0]; rfl
  have no : ∀ k, front s = false → riff_Chunks.j0 (k + 1) s true = some (told [] (chunksOf s)) := fun k h => by rw [bad, chunksOf, h]; rfl
  unfold riff_Chunks.f
  rw [show k + 160 = (k + 159) + 1 by omega]
  by_cases c1 : (s.size : Int) > 4096
  · rw [if_pos c1]; exact no _ (decide_eq_false (by omega))
  rw [if_neg c1]
  by_cases c2 : (s.size : Int) < 12
  · rw [if_pos c2]; exact no _ (decide_eq_false (by omega))
  rw [if_neg c2]
  unfold strings_HasPrefix.f stringslite_HasPrefix.f
  rw [show (((⟨#[82, 73, 70, 70]⟩ : ByteArray).size : Nat) : Int) = 4 from rfl, if_pos (by omega), if_pos (by decide), if_pos (by omega)]
  simp only [Option.bind_some]
  rw [show (4 : Int).toNat = 4 from rfl]
  by_cases c3 : bytesOf (s.extract 0 4) = [82, 73, 70, 70]
  · have e : ((s.extract 0 4).toList == (⟨#[82, 73, 70, 70]⟩ : ByteArray).toList) = true := by
      rw [beq_iff_eq, Bytes.toList_iff, c3]; rfl
    rw [e, if_pos rfl, show k + 159 + 1 = (k + 153) + 7 by omega, size_of (by decide) (by omega) (by omega), Num.w64 (n := (s.size : Int) - 8) (by omega) (by omega)]
    simp only [Option.bind_some]
    by_cases c4 : num4 s 4 = (s.size : Int) - 8
    · rw [if_pos c4, if_pos (by decide), if_pos (by omega)]
      by_cases c5 : bytesOf (s.extract 8 12) = [87, 65, 86, 69]
      · have e : ((s.extract 8 12).toList != [87, 65, 86, 69]) = false := by
          rw [bne_eq_false_iff_eq, extract_list, c5]; rfl
        rw [e]
        simp only [riff_Chunks.j0]
        rw [if_neg (by decide), show k + 153 + 6 = (k + 19) + 2 * 64 + 12 by omega, loop_of _ _ (by omega) 64 [] 12 rfl (by decide) (by omega)]
        have hf : front s = true := decide_eq_true ⟨by omega, by omega, c3, c4, c5⟩
        rw [chunksOf, if_pos hf]
      · have e : ((s.extract 8 12).toList != [87, 65, 86, 69]) = true := by
          rw [bne_iff_ne]; intro h; exact c5 (by rw [(extract_list s _ 8 12).1 h]; rfl)
        rw [e]; exact no _ (decide_eq_false (fun h => c5 h.2.2.2.2))
    · rw [if_neg c4]; exact no _ (decide_eq_false (fun h => c4 h.2.2.2.1))
  · have e : ((s.extract 0 4).toList == (⟨#[82, 73, 70, 70]⟩ : ByteArray).toList) = false := by
      rw [beq_eq_false_iff_ne]; intro h; exact c3 (by rw [(Bytes.toList_iff _ _).1 h]; rfl)
    rw [e, if_neg (by decide)]; exact no _ (decide_eq_false (fun h => c3 h.2.2.1))

end Go.Proofs.Ytkngkmemcokbfaa.PWv
