/- Texts as lists of numbers from 0 to 255. No program in sight. -/
import Derived.Test.YtkngkmemcokbfaaWMore
import Derived.Laws.Strings
namespace Go.Proofs.Ytkngkmemcokbfaa.Bytes
open Go Go.RowKit Go.Proofs.YtkngkmemcokbfaaW.PrintWords
set_option linter.unusedVariables false
set_option linter.unusedSimpArgs false

theorem size_eq (s : ByteArray) : s.size = (bytesOf s).length := by rw [bytesOf_length]
theorem bt_eq (s : ByteArray) (i : Int) : bt s i = (bytesOf s).getD i.toNat 0 := by
  rw [← rd_bytesOf]; rfl
theorem range {s : ByteArray} {x : Int} (h : x ∈ bytesOf s) : 0 ≤ x ∧ x ≤ 255 := by
  rw [bytesOf, List.mem_map] at h
  obtain ⟨b, _, rfl⟩ := h
  have := b.toNat_lt
  omega
theorem inj {s t : ByteArray} (h : bytesOf s = bytesOf t) : s = t := by
  have e : s.data.toList = t.data.toList := by
    have h1 := congrArg (List.map fun n : Int => UInt8.ofNat n.toNat) h
    simpa [bytesOf, List.map_map, Function.comp_def] using h1
  have e2 : s.data = t.data := by
    cases hs : s.data; cases ht : t.data; rw [hs, ht] at e; simp at e; rw [e]
  cases s; cases t; simp at e2; rw [e2]
theorem eq_iff (s t : ByteArray) : s = t ↔ bytesOf s = bytesOf t := ⟨fun h => by rw [h], inj⟩
theorem toList_iff (s t : ByteArray) : s.toList = t.toList ↔ bytesOf s = bytesOf t := by
  rw [ByteArray.toList_eq, ByteArray.toList_eq, ← eq_iff]
  constructor
  · intro h
    have e2 : s.data = t.data := by
      cases hs : s.data; cases ht : t.data; rw [hs, ht] at h; simp at h; rw [h]
    cases s; cases t; simp at e2; rw [e2]
  · intro h; rw [h]
theorem nil_iff (s : ByteArray) : s.toList = [] ↔ s.size = 0 := by
  rw [ByteArray.toList_eq, ← List.length_eq_zero_iff, Array.length_toList]; rfl
theorem of_nums (l : List Int) : bytesOf (strOfNums l) = l.map fun x => (x.toNat : Int) % 256 := by
  rw [bytesOf, strOfNums_data, List.map_map]
  apply List.map_congr_left
  intro x _
  simp [UInt8.toNat_ofNat']
theorem of_nums_in {l : List Int} (h : ∀ x ∈ l, 0 ≤ x ∧ x ≤ 255) : bytesOf (strOfNums l) = l := by
  rw [of_nums]
  conv => rhs; rw [← List.map_id l]
  apply List.map_congr_left
  intro x hx
  have := h x hx
  simp only [id]
  omega
theorem of_lit (l : List UInt8) : bytesOf (⟨l.toArray⟩ : ByteArray) = l.map fun b => (b.toNat : Int) := by simp [bytesOf]
theorem of_append (s t : ByteArray) : bytesOf (s ++ t) = bytesOf s ++ bytesOf t := by
  simp [bytesOf, ByteArray.append_eq, ByteArray.data_append]
theorem of_extract (s : ByteArray) (i j : Nat) : bytesOf (s.extract i j) = ((bytesOf s).drop i).take (j - i) := by
  simp [bytesOf, ByteArray.data_extract, List.extract_eq_take_drop]

end Go.Proofs.Ytkngkmemcokbfaa.Bytes
