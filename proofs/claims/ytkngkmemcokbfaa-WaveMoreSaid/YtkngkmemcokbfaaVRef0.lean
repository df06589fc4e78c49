/- Layer 21: the document's own search for the two chunks comes to the same. No program in sight. -/
import Derived.Test.YtkngkmemcokbfaaVBuild0
namespace Go.Proofs.Ytkngkmemcokbfaa.PWv
open Go Go.RowKit Go.Proofs.YtkngkmemcokbfaaW.PrintWords Go.Proofs.YtkngkmemcokbfaaW.PrintMore
set_option linter.unusedVariables false
set_option linter.unusedSimpArgs false
def isId (c : S34) (id : ByteArray) : Bool := c.f0.toList == id.toList
def has (id : ByteArray) : List S34 → Bool
  | [] => false
  | c :: L => isId c id || has id L
def lone (id : ByteArray) : List S34 → Bool
  | [] => false
  | c :: L => if isId c id = true then !has id L else lone id L
/-- The document's search: from a place on, with what was found. -/
def scan : List S34 → Nat → Int → Int → Option (Int × Int)
  | [], _, a, b => some (a, b)
  | c :: L, i, a, b =>
    if isId c fmtId = true then (if 0 ≤ a ∨ 0 ≤ b then none else scan L (i + 1) i b)
    else if isId c dataId = true then (if a < 0 ∨ 0 ≤ b then none else scan L (i + 1) a i)
    else scan L (i + 1) a b
theorem find_cons (id : ByteArray) (c : S34) (L : List S34) (i : Nat) : wave_one.find id (c :: L) i = if isId c id = true then (i : Int) else wave_one.find id L (i + 1) := rfl
theorem find_has (id : ByteArray) : ∀ (L : List S34) (i : Nat), (0 ≤ wave_one.find id L i ↔ has id L = true) ∧ (has id L = false → wave_one.find id L i = -1) ∧ (has id L = true → (i : Int) ≤ wave_one.find id L i)
  | [], i => ⟨⟨fun h => absurd h (by show ¬ (0 : Int) ≤ -1; decide), fun h => nomatch h⟩, fun _ => rfl, fun h => nomatch h⟩
  | c :: L, i => by
    have ih := find_has id L (i + 1)
    rw [find_cons]
    unfold has
    by_cases h : isId c id = true
    · rw [if_pos h, h]
      simp
    · rw [if_neg h, Bool.eq_false_iff.2 h, Bool.false_or]
      exact ⟨ih.1, ih.2.1, fun hh => by have := ih.2.2 hh; omega⟩
theorem lone_has {id : ByteArray} : ∀ {L : List S34}, lone id L = true → has id L = true
  | [], h => nomatch h
  | c :: L, h => by
    unfold lone at h
    unfold has
    by_cases e : isId c id = true
    · rw [e]; rfl
    · rw [if_neg e] at h
      rw [lone_has h, Bool.or_true]
theorem found_lone (id : ByteArray) : ∀ (L : List S34) (i : Nat), (decide (0 ≤ wave_one.find id L i) && !decide (0 ≤ wave_one.find id (L.drop (wave_one.find id L i + 1 - i).toNat) 0)) = lone id L
  | [], i => rfl
  | c :: L, i => by
    rw [find_cons]
    unfold lone
    by_cases e : isId c id = true
    · rw [if_pos e, if_pos e, show ((i : Int) + 1 - i).toNat = 1 by omega, List.drop_one, List.tail_cons, decide_eq_true (show (0 : Int) ≤ i by omega), Bool.true_and]
      congr 1
      rw [Bool.eq_iff_iff, decide_eq_true_iff]
      exact (find_has id L 0).1
    · rw [if_neg e, if_neg e]
      have ih := found_lone id L (i + 1)
      have fh := find_has id L (i + 1)
      cases hh : has id L with
      | false =>
        have e1 := fh.2.1 hh
        rw [e1] at ih ⊢
        rw [decide_eq_false (show ¬ (0 : Int) ≤ -1 by decide), Bool.false_and] at ih ⊢
        exact ih
      | true =>
        have e1 := fh.2.2 hh
        rw [show (wave_one.find id L (i + 1) + 1 - (i : Int)).toNat = (wave_one.find id L (i + 1) + 1 - ((i + 1 : Nat) : Int)).toNat + 1 by omega, List.drop_succ_cons]
        exact ih
theorem found_is (L : List S34) (id : ByteArray) : wave_one.found L id = lone id L := by
  have := found_lone id L 0
  unfold wave_one.found
  rw [show wave_one.find id L 0 + 1 - ((0 : Nat) : Int) = wave_one.find id L 0 + 1 by omega] at this
  exact this
theorem ids_apart {c : S34} (h : isId c fmtId = true) : isId c dataId = false := by
  unfold isId at h ⊢
  rw [eq_of_beq h]
  decide +kernel
theorem scan2 : ∀ (L : List S34) (i : Nat) (a b : Int), 0 ≤ a → 0 ≤ b → scan L i a b = if has fmtId L = true ∨ has dataId L = true then none else some (a, b)
  | [], i, a, b, _, _ => rfl
  | c :: L, i, a, b, ha, hb => by
    have ih := scan2 L (i + 1) a b ha hb
    unfold scan has
    by_cases e : isId c fmtId = true
    · rw [if_pos e, if_pos (.inl ha), e, if_pos (.inl (by rfl))]
    · rw [if_neg e, Bool.eq_false_iff.2 e, Bool.false_or]
      by_cases e2 : isId c dataId = true
      · rw [if_pos e2, if_pos (.inr hb), e2, if_pos (.inr (by rfl))]
      · rw [if_neg e2, Bool.eq_false_iff.2 e2, Bool.false_or]; exact ih
theorem scan1 : ∀ (L : List S34) (i : Nat) (a : Int), 0 ≤ a → scan L i a (-1) = if has fmtId L = true then none else if has dataId L = true then (if lone dataId L = true then some (a, wave_one.find dataId L i) else none) else some (a, -1)
  | [], i, a, _ => rfl
  | c :: L, i, a, ha => by
    have ih := scan1 L (i + 1) a ha
    rw [scan, has, has, lone, find_cons]
    by_cases e : isId c fmtId = true
    · rw [if_pos e, if_pos (.inl ha), e, if_pos (by rfl)]
    · rw [if_neg e, Bool.eq_false_iff.2 e, Bool.false_or]
      by_cases e2 : isId c dataId = true
      · rw [if_pos e2, if_neg (by omega), scan2 L (i + 1) a i ha (by omega), e2, Bool.true_or, if_pos rfl, if_pos rfl, if_pos rfl]
        cases has fmtId L <;> cases has dataId L <;> rfl
      · rw [if_neg e2, if_neg e2, if_neg e2, Bool.eq_false_iff.2 e2, Bool.false_or]; exact ih
/-- What the search comes to. -/
def both (L : List S34) (i : Nat) : Prop := lone fmtId L = true ∧ lone dataId L = true ∧ wave_one.find fmtId L i ≤ wave_one.find dataId L i
theorem scan0 : ∀ (L : List S34) (i : Nat), (scan L i (-1) (-1) = none ∧ ¬ both L i) ∨ (∃ a, scan L i (-1) (-1) = some (a, -1) ∧ ¬ both L i) ∨ (scan L i (-1) (-1) = some (wave_one.find fmtId L i, wave_one.find dataId L i) ∧ both L i)
  | [], i => .inr (.inl ⟨-1, rfl, fun h => nomatch h.1⟩)
  | c :: L, i => by
    have ih := scan0 L (i + 1)
    unfold both at ih ⊢
    rw [scan, lone, lone, find_cons, find_cons]
    by_cases e : isId c fmtId = true
    · rw [if_pos e, if_neg (by omega), if_pos e, if_pos e, ids_apart e, if_neg (by decide), if_neg (by decide), scan1 L (i + 1) i (by omega)]
      have fh := find_has dataId L (i + 1)
      cases hf : has fmtId L with
      | true => exact .inl ⟨rfl, fun h => nomatch h.1⟩
      | false =>
        rw [if_neg (by decide)]
        cases hd : has dataId L with
        | false =>
          refine .inr (.inl ⟨i, rfl, fun h => ?_⟩)
          rw [lone_has h.2.1] at hd; cases hd
        | true =>
          rw [if_pos rfl]
          cases hl : lone dataId L with
          | false => exact .inl ⟨rfl, fun h => nomatch h.2.1⟩
          | true =>
            rw [if_pos rfl]
            refine .inr (.inr ⟨rfl, rfl, rfl, ?_⟩)
            have := fh.2.2 hd
            omega
    · rw [if_neg e, if_neg e, if_neg e]
      by_cases e2 : isId c dataId = true
      · rw [if_pos e2, if_pos (.inl (by decide)), if_pos e2, if_pos e2]
        refine .inl ⟨rfl, fun h => ?_⟩
        have := (find_has fmtId L (i + 1)).2.2 (lone_has h.1)
        have := h.2.2
        omega
      · rw [if_neg e2, if_neg e2, if_neg e2]
        exact ih
theorem both_is (L : List S34) : both L 0 ↔ (wave_one.found L fmtId = true ∧ wave_one.found L dataId = true ∧ wave_one.find fmtId L 0 ≤ wave_one.find dataId L 0) := by
  unfold both
  rw [found_is, found_is]
end Go.Proofs.Ytkngkmemcokbfaa.PWv
