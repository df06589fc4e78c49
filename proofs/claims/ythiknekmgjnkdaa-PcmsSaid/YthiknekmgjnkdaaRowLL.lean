/- A list of lists of ints among a law's parameters: what the call reads of it, and how long its rows are. No program in sight. -/
import Derived.Deep.Matrix
import Derived.SizedLaws
import Derived.ChangeSlices
import Derived.Test.YthiknekmgjnkdaaWWords
namespace Go.Proofs.Ythiknekmgjnkdaa.RowLL
open Go Go.RowKit Go.ChangeShapes Go.WideShapes Go.Deep Go.Proofs.YthiknekmgjnkdaaW.PrintWords
set_option linter.unusedVariables false
set_option linter.unusedSimpArgs false
theorem all_mem {H : Type} {P : Program} {e : TypeId} : ∀ {ds : List (DataW H)} {d : DataW H}, d ∈ ds → ∀ n ∈ d.weights P e, n ∈ DataW.weightsAll P e ds
  | d0 :: ds, d, hd, n, hn => by
    simp only [DataW.weightsAll, List.mem_append]
    rcases List.mem_cons.1 hd with rfl | h
    · exact .inl hn
    · exact .inr (all_mem h n hn)
  | [], _, hd, _, _ => by cases hd
theorem open_rows {H : Type} {enc : TypeId × Value → H} {P : Program} {W : World} {base : Nat} {held : Bool} {t e q : TypeId} {a : Option Addr} {len cap : Nat} {d : DataW H} {ps : List MemPlace} {ts : List TypeId} {ds : List (DataW H)} {j : Nat}
    (hsz : (DataW.weightsEach P ts ds).all (· ≤ reachBytes) = true) (ht : ts[j]? = some t) (hd : ds[j]? = some d) (hu : P.underlying t = some (.slice e)) (he : P.underlying e = some (.slice q)) (hq : P.underlying q = some (.int .i64)) (ce : P.cellsOf e = 1) (cq : P.cellsOf q = 1) (be : P.bytesOf e = 24) (bq : P.bytesOf q = 8)
    (h : DataW.Trod enc P W base (fun _ => true) held t (.slice a len cap) d ps) :
    ∃ chs : List (List Int), len = chs.length ∧ Kd.C (Kd.slice q (Kd.int .i64)) W a chs.length chs ∧ chs.length ≤ cap ∧ chs.length * 24 ≤ 140737488351232 ∧ ∀ xs ∈ chs, xs.length * 8 ≤ 140737488351232 ∧ ∀ x ∈ xs, (Lit.int .i64 x).wf = true := by
  obtain ⟨fuel, hf⟩ := h
  rcases open_int_rows hu he hq ce cq hf with ⟨hcs, _⟩ | ⟨x, l, c, A, L, C, Z, hcs, _, hl, hm, hx, hrow⟩
  · simp [Value.cells] at hcs
    obtain ⟨rfl, rfl, rfl⟩ := hcs
    exact ⟨[], rfl, ⟨rfl, by simp, fun h => absurd h (Nat.lt_irrefl _)⟩, Nat.le_refl _, by simp, fun xs hx => by cases hx⟩
  · simp [Value.cells] at hcs
    obtain ⟨rfl, rfl, rfl⟩ := hcs
    obtain ⟨hx, _⟩ := Prod.mk.inj hx
    subst hx
    have lr : ∀ r, r < len → ((Z r).take (L r)).length = L r := fun r hr => by
      obtain ⟨_, h2, _, h4, _⟩ := hrow r (by omega)
      rw [List.length_take]; omega
    refine ⟨(List.range len).map fun r => (Z r).take (L r), by simp, ?_, by simpa using hl, ?_, ?_⟩
    · refine ⟨by simp, by simp; unfold maxLen at hm; omega, fun _ => ⟨x, rfl, fun j p hj => ?_⟩⟩
      rw [List.getElem?_map] at hj
      obtain ⟨r, hr, rfl⟩ := Option.map_eq_some_iff.1 hj
      obtain ⟨hlt, hr2⟩ := List.getElem?_eq_some_iff.1 hr
      rw [List.length_range] at hlt
      rw [List.getElem_range] at hr2
      subst hr2
      obtain ⟨h1, h2, h3, h4, h5, h6, h7⟩ := hrow j (by omega)
      refine ⟨[.slice (A j) (L j) (C j)], rfl, ⟨A j, C j, by rw [lr j hlt], by rw [lr j hlt]; exact h2, ?_⟩, fun i u hu => ?_⟩
      · refine Kd.C_of_reads (d := (0 : Int)) (h1 := fun _ => rfl) (show ReadsInt W .i64 (A j) ((Z j).take (L j)).length ((Z j).take (L j)) from ?_)
        rw [lr j hlt]
        refine ⟨lr j hlt, by unfold maxLen at h3; omega, fun hp => ?_⟩
        cases hA : A j with
        | none => have := h6 hA; omega
        | some a' =>
          refine ⟨a', rfl, fun i hi => ?_⟩
          rw [(h7 a' hA).2 i (by omega), List.getD_eq_getElem?_getD, List.getD_eq_getElem?_getD, List.getElem?_take, if_pos hi]
      · obtain ⟨rfl, rfl⟩ : i = 0 ∧ u = .slice (A j) (L j) (C j) := by
          rcases i with _ | i
          · exact ⟨rfl, by simpa using hu.symm⟩
          · simp at hu
        show W.cell? (x.add (j * 1 + 0)) = _
        rw [Nat.mul_one, Nat.add_zero]
        exact h1
    · have z := sized_slice hsz ht hd hu
      rw [be] at z
      simp [reachBytes] at z ⊢
      omega
    · intro xs hxs
      obtain ⟨r, hr, rfl⟩ := List.mem_map.1 hxs
      have hr := List.mem_range.1 hr
      obtain ⟨h1, h2, h3, h4, h5, h6, h7⟩ := hrow r (by omega)
      refine ⟨?_, fun y hy => h5 y (List.mem_of_mem_take hy)⟩
      rw [lr r hr]
      cases hA : A r with
      | none => have := h6 hA; omega
      | some a' =>
        have hmem : (intRow .i64 (A r) (L r) (Z r) : DataW H) ∈ (List.range len).map fun r => intRow .i64 (A r) (L r) (Z r) := List.mem_map.2 ⟨r, List.mem_range.2 hr, rfl⟩
        have hw := List.all_eq_true.1 hsz _ (DataW.weights_mem_each ht hd ((L r + (C r - L r)) * 8) (by
          simp only [DataW.weights, hu, List.mem_cons, List.mem_append]
          refine .inr (.inl (all_mem hmem _ ?_))
          rw [hA]
          simp [intRow, DataW.weights, he, bq, lits, h4]
          left
          rw [Nat.min_eq_left h2]))
        have hw2 : (L r + (C r - L r)) * 8 ≤ 140737488351232 := of_decide_eq_true hw
        omega
end Go.Proofs.Ythiknekmgjnkdaa.RowLL
