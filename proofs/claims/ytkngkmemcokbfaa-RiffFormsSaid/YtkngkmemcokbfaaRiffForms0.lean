/- Layer 20, RiffForms: texts that are no such file. No program in sight. -/
import Derived.Test.YtkngkmemcokbfaaRiffMany0
namespace Go.Proofs.Ytkngkmemcokbfaa.PAll
open Go Go.RowKit Go.Proofs.YtkngkmemcokbfaaW.PrintWords Go.Proofs.YtkngkmemcokbfaaW.PrintMore
set_option linter.unusedVariables false
set_option linter.unusedSimpArgs false
def S60 : ByteArray := ⟨#[82, 73, 70, 70, 52, 0, 0, 0, 87, 65, 86, 69, 102, 109, 116, 32, 16, 0, 0, 0, 1, 0, 1, 0, 114, 97, 116, 101, 97, 110, 100, 98, 1, 0, 8, 0, 100, 97, 116, 97, 3, 0, 0, 0, 97, 98, 99, 112, 109, 111, 114, 101, 3, 0, 0, 0, 97, 98, 99, 100]⟩
theorem wav60 : descantlaw20_wav.f 200 1 8 (⟨#[97, 98, 99]⟩ : ByteArray) = some S60 := by decide +kernel
theorem ref60 : ∃ x, descantref13_Chunks.f 200 S60 = some (x, 0) := by
  have h : ((descantref13_Chunks.f 200 S60).map (·.2)) = some 0 := by decide +kernel
  obtain ⟨⟨x, y⟩, h3, h4⟩ := Option.map_eq_some_iff.1 h
  have h5 : y = 0 := h4
  subst h5
  exact ⟨x, h3⟩
def places14 : List Int := [0, 3, 4, 5, 7, 8, 11, 16, 17, 19, 40, 43, 52, 55]
/-- A place among the fourteen. -/
theorem place (i : Nat) (hi : i < 14) : ∃ k : Nat, rd places14 (i : Int) = k ∧ k < 60 ∧ (k < 16 ∨ 16 ≤ k ∧ k < 20 ∨ 40 ≤ k) ∧ (k < 16 → ∀ m : Nat, m < 64 → front (strOfNums ((bytesOf S60).set k (Go.bits .xor .u8 ((bytesOf S60).getD k 0) (1 + m)))) = false) := by
  have h : ∀ i : Fin 14, 0 ≤ rd places14 (i.val : Int) ∧ (rd places14 (i.val : Int)).toNat < 60 ∧ ((rd places14 (i.val : Int)).toNat < 16 ∨ 16 ≤ (rd places14 (i.val : Int)).toNat ∧ (rd places14 (i.val : Int)).toNat < 20 ∨ 40 ≤ (rd places14 (i.val : Int)).toNat) ∧ ((rd places14 (i.val : Int)).toNat < 16 → ∀ m : Fin 64, front (strOfNums ((bytesOf S60).set (rd places14 (i.val : Int)).toNat (Go.bits .xor .u8 ((bytesOf S60).getD (rd places14 (i.val : Int)).toNat 0) (1 + (m.val : Int))))) = false) := by decide +kernel
  obtain ⟨h1, h2, h3, h4⟩ := h ⟨i, hi⟩
  exact ⟨_, (Int.toNat_of_nonneg h1).symm, h2, h3, fun hk m hm => h4 hk ⟨m, hm⟩⟩
theorem none_of {t : ByteArray} (h : front t = false) : chunksOf t = none := by unfold chunksOf; rw [h]; rfl
theorem cut_none (n : Nat) (hn : n < 60) : chunksOf (S60.extract 0 n) = none := by
  have h : ∀ n : Fin 60, front (S60.extract 0 n.val) = false := by decide +kernel
  exact none_of (h ⟨n, hn⟩)
theorem more_none (z : ByteArray) (h1 : 1 ≤ z.size) : chunksOf (S60 ++ z) = none := by
  apply none_of
  unfold front
  refine decide_eq_false (fun h => ?_)
  have h4 := h.2.2.2.1
  have e : num4 (S60 ++ z) 4 = 52 := by
    unfold num4
    rw [Bytes.of_extract, Bytes.of_append, List.drop_append_of_le_length (by decide), List.take_append_of_le_length (by decide)]
    decide +kernel
  rw [e, ByteArray.size_append, show S60.size = 60 from rfl] at h4
  omega
theorem big_none (z : ByteArray) (h : 4096 < z.size) : chunksOf z = none := by
  apply none_of
  unfold front
  exact decide_eq_false (fun h => by omega)
theorem xor_range : ∀ k : Nat, k < 60 → ∀ m : Nat, m < 64 → 0 ≤ Go.bits .xor .u8 ((bytesOf S60).getD k 0) (1 + (m : Int)) ∧ Go.bits .xor .u8 ((bytesOf S60).getD k 0) (1 + (m : Int)) ≤ 255 := by
  have h : ∀ k : Fin 60, ∀ m : Fin 64, 0 ≤ Go.bits .xor .u8 ((bytesOf S60).getD k.val 0) (1 + (m.val : Int)) ∧ Go.bits .xor .u8 ((bytesOf S60).getD k.val 0) (1 + (m.val : Int)) ≤ 255 := by decide +kernel
  exact fun k hk m hm => h ⟨k, hk⟩ ⟨m, hm⟩
end Go.Proofs.Ytkngkmemcokbfaa.PAll
