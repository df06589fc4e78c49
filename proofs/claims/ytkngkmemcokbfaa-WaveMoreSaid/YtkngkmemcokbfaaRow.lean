/- Rows with a struct of ints among the parameters: its value, cell by cell. No program in sight. -/
import Derived.Test.YtkngkmemcokbfaaRows
import Derived.WalkKit
import Derived.ProofKit
import Derived.OpenShut
import Derived.ChangeOld
import Derived.Below
namespace Go.Proofs.Ytkngkmemcokbfaa.Row
open Go Go.ChangeShapes Go.WideShapes
set_option linter.unusedVariables false
set_option linter.unusedSimpArgs false
variable {P : Program} {w : World} {r : Reach} {base : Nat}

theorem cell_int {t : TypeId} {k : IntKind} {v : Value} (ht : P.underlying t = some (.int k)) (h : Cell.okWide P w r base t v) : ∃ n, v = .int k n ∧ k.has n := by
  unfold Cell.okWide at h
  rw [ht] at h
  cases v <;> simp [Cell.ok, ht] at h
  obtain ⟨rfl, h⟩ := h
  exact ⟨_, rfl, h⟩
theorem list_ints {k : IntKind} : ∀ l : List Value, (∀ v ∈ l, ∃ n, v = .int k n ∧ k.has n) → ∃ xs : List Int, l = xs.map (Value.int k) ∧ ∀ x ∈ xs, k.has x
  | [], _ => ⟨[], rfl, by simp⟩
  | v :: l, h => by
    obtain ⟨n, rfl, hn⟩ := h v (by simp)
    obtain ⟨xs, rfl, hx⟩ := list_ints l (fun v hv => h v (by simp [hv]))
    exact ⟨n :: xs, rfl, by intro x hx2; rcases List.mem_cons.1 hx2 with rfl | h2; exact hn; exact hx x h2⟩
/-- A struct whose cells are ints. -/
theorem open_ints {T t : TypeId} {k : IntKind} {fs : Array Field} {n : Nat} {v : Value} (hu : P.underlying T = some (.struct fs)) (hct : P.cellTypes P.depth T = some (List.replicate n t)) (hC : P.cellsOf T = n)
    (ht : P.underlying t = some (.int k)) (hv : Value.okWide P w r base T v) : ∃ xs : List Int, xs.length = n ∧ v = .agg (xs.map (Value.int k)).toArray ∧ ∀ x ∈ xs, k.has x := by
  unfold Value.okWide at hv
  rw [hu] at hv
  obtain ⟨cs, rfl, hsz, ts, hts, _, hall⟩ := hv
  rw [hct] at hts
  obtain rfl := Option.some.inj hts
  have h : ∀ v ∈ cs.toList, ∃ n, v = .int k n ∧ k.has n := by
    intro v hv
    obtain ⟨i, hi, rfl⟩ := List.getElem_of_mem hv
    obtain ⟨u, hu2, hc⟩ := hall i cs.toList[i] (by simp)
    rw [List.getElem?_replicate] at hu2
    split at hu2
    · obtain rfl := Option.some.inj hu2
      exact cell_int ht hc
    · cases hu2
  obtain ⟨xs, hx, hh⟩ := list_ints _ h
  refine ⟨xs, ?_, ?_, hh⟩
  · have := congrArg List.length hx
    rw [List.length_map, Array.length_toList, hsz, hC] at this
    exact this.symm
  · congr 1
    rw [← hx]
theorem list2 {α : Type} {l : List α} (h : l.length = 2) : ∃ a b, l = [a, b] := by
  match l, h with
  | [a, b], _ => exact ⟨a, b, rfl⟩
theorem has_i64 {x : Int} (h : IntKind.i64.has x) : -9223372036854775808 ≤ x ∧ x ≤ 9223372036854775807 := h

end Go.Proofs.Ytkngkmemcokbfaa.Row
