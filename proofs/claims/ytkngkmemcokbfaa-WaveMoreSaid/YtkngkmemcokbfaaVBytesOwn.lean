/- A row of bytes that '[]byte(s)' has made: read, written, turned to a text again. (Its block bears a mark behind its cells: Kd.R does not hold of it.) -/
import Derived.Test.YtkngkmemcokbfaaVBuild0
import Derived.Lib.ConvBytes
namespace Go.Proofs.Ytkngkmemcokbfaa.PWv
open Go Go.RowKit Go.Proofs.YtkngkmemcokbfaaW.PrintWords Go.Proofs.YtkngkmemcokbfaaW.PrintMore
set_option linter.unusedVariables false
set_option linter.unusedSimpArgs false
def BB (w : World) (g : Nat) (xs : List Int) : Prop := ∃ cells fz, w.heap[g]? = some (.cells cells 5 fz) ∧ (∀ j, j < xs.length → cells[j]? = some (.int .u8 (xs.getD j 0))) ∧ xs.length ≤ fz.1
theorem BB.conv (W : World) (s : ByteArray) : BB (Lib.bytesWorld W 5 s) W.heap.size (bytesOf s) := by
  refine ⟨_, _, Lib.bytesWorld_at_new W 5 s, fun j hj => ?_, ?_⟩
  · rw [bytesOf_length] at hj
    have h1 := Lib.bytesWorld_cell W 5 s j hj
    have h2 : (Lib.bytesWorld W 5 s).cell? ⟨W.heap.size, j, none⟩ = (Lib.bytesCells W 5 s)[j]? := by
      simp [World.cell?, Lib.bytesWorld_at_new]
    rw [← h2, h1]
    congr 2
    unfold bytesOf
    have hj2 : j < s.data.toList.length := by simpa using hj
    have hj3 : j < s.data.size := by simpa using hj2
    simp [List.getD_eq_getElem?_getD, hj2]
    rw [Array.getElem?_eq_getElem hj3]; rfl
  · rw [bytesOf_length]
    show s.size ≤ (Lib.bytesCells W 5 s).size
    unfold Lib.bytesCells
    rw [Array.size_append, Array.size_map]
    exact Nat.le_add_right _ _
theorem BB.cell {w : World} {g : Nat} {xs : List Int} (h : BB w g xs) {j : Nat} (hj : j < xs.length) : w.cell? ⟨g, j, none⟩ = some (.int .u8 (xs.getD j 0)) := by
  obtain ⟨cells, fz, h1, h2, h3⟩ := h
  rw [← h2 j hj]
  simp [World.cell?, h1]
theorem BB.frozen {w : World} {g : Nat} {xs : List Int} (h : BB w g xs) {j : Nat} (hj : j < xs.length) : w.frozen? ⟨g, j, none⟩ = false := by
  obtain ⟨cells, ⟨lo, hi⟩, h1, h2, h3⟩ := h
  have h3 : xs.length ≤ lo := h3
  simp [World.frozen?, h1]
  intro h; omega
theorem BB.below {w w' : World} {g : Nat} {xs : List Int} (h : BB w g xs) (hb : Below w.heap.size w w') : BB w' g xs := by
  obtain ⟨cells, fz, h1, h2, h3⟩ := h
  exact ⟨cells, fz, blk_below h1 hb, h2, h3⟩
theorem BB.set {w : World} {g : Nat} {xs : List Int} (h : BB w g xs) {j : Nat} (hj : j < xs.length) (x : Int) : BB (w.setCell ⟨g, j, none⟩ (.int .u8 x)) g (xs.set j x) := by
  obtain ⟨cells, fz, h1, h2, h3⟩ := h
  refine ⟨cells.setIfInBounds j (.int .u8 x), fz, ?_, fun k hk => ?_, by rw [List.length_set]; exact h3⟩
  · have hg : g < w.heap.size := by
      rcases Nat.lt_or_ge g w.heap.size with h | h
      · exact h
      · rw [Array.getElem?_eq_none h] at h1; cases h1
    simp [World.setCell, Array.getElem?_modify, h1]
  · rw [List.length_set] at hk
    have hc : j < cells.size := by
      have := h2 j hj
      rcases Nat.lt_or_ge j cells.size with h | h
      · exact h
      · rw [Array.getElem?_eq_none h] at this; cases this
    rw [Array.getElem?_setIfInBounds]
    by_cases e : j = k
    · subst e
      rw [if_pos rfl, if_pos hc, List.getD_eq_getElem?_getD, List.getElem?_set_self hj]; rfl
    · rw [if_neg e, h2 k hk, List.getD_eq_getElem?_getD, List.getD_eq_getElem?_getD, List.getElem?_set_ne e]
theorem BB.reads {w : World} {g : Nat} {xs : List Int} (h : BB w g xs) (hl : xs.length ≤ 9223372036854775807) : (Kd.int .u8).C w (some ⟨g, 0, none⟩) xs.length xs := by
  refine Kd.C_of_reads (enc := Value.int .u8) (d := (0 : Int)) (h1 := fun _ => rfl) ⟨rfl, hl, fun _ => ⟨_, rfl, fun j hj => ?_⟩⟩
  rw [add_plain]
  exact h.cell hj
theorem nums_size' (l : List Int) : (strOfNums l).size = l.length := by
  rw [← bytesOf_length, Bytes.of_nums, List.length_map]
/-- Some bytes written one behind the other. -/
def setMany : List Int → Nat → List Int → List Int
  | xs, _, [] => xs
  | xs, o, v :: r => setMany (xs.set o v) (o + 1) r
theorem setMany_length : ∀ (r : List Int) (xs : List Int) (o : Nat), (setMany xs o r).length = xs.length
  | [], xs, o => rfl
  | v :: r, xs, o => by
    unfold setMany
    rw [setMany_length r, List.length_set]
theorem BB.setCells {g : Nat} : ∀ (r : List Int) (xs : List Int) (o : Nat) (w : World), BB w g xs → o + r.length ≤ xs.length → BB (w.setCells g o (r.map (Value.int .u8))) g (setMany xs o r)
  | [], xs, o, w, h, _ => h
  | v :: r, xs, o, w, h, hl => by
    have hl : o + (r.length + 1) ≤ xs.length := hl
    exact BB.setCells r (xs.set o v) (o + 1) _ (h.set (by omega) v) (by rw [List.length_set]; omega)
theorem below_setCells' {g : Nat} {w : World} : ∀ (r : List Value) (o : Nat) (W : World), Below w.heap.size w W → w.heap.size ≤ g → Below w.heap.size w (W.setCells g o r)
  | [], o, W, h, _ => h
  | v :: r, o, W, h, hg => below_setCells' r (o + 1) _ (below_set h hg) hg
theorem bytes_map (s : ByteArray) : (s.data.toList.map fun x => Value.int .u8 (x.toNat : Int)) = (bytesOf s).map (Value.int .u8) := by
  unfold bytesOf
  rw [List.map_map]
  rfl
end Go.Proofs.Ytkngkmemcokbfaa.PWv
