/- Numbers in bytes (layer 1): the document's GetField. -/
import Derived.Test.YtkngkmemcokbfaaPWvx9
import Derived.Test.YtkngkmemcokbfaaVFieldRef
import Derived.Test.YtkngkmemcokbfaaVField0
namespace Go.Proofs.Ytkngkmemcokbfaa.PWv
open Go Go.RowKit Go.Proofs.YtkngkmemcokbfaaW.PrintWords Go.Proofs.YtkngkmemcokbfaaW.PrintMore
set_option linter.unusedVariables false
set_option linter.unusedSimpArgs false

theorem ref_get (k : Nat) (s : ByteArray) (hs : s.size ≤ 140737488351232) : descantref1_GetField.f (k + 7) s = field_Get.f (k + 7) s := by
  unfold descantref1_GetField.f
  rw [upTo_eq]
  by_cases c : (1 : Int) ≤ s.size ∧ (s.size : Int) ≤ 4
  · rw [decide_eq_true c, get_in (by omega) (by omega)]
    simp only [Option.bind_some, if_true]
    have b0 := bt_range s 0
    have b1 := bt_range s 1
    have b2 := bt_range s 2
    have b3 := bt_range s 3
    have hl := Bytes.size_eq s
    have e0 := Bytes.bt_eq s 0
    have e1 := Bytes.bt_eq s 1
    have e2 := Bytes.bt_eq s 2
    have e3 := Bytes.bt_eq s 3
    obtain ⟨l, hb⟩ : ∃ l, l = bytesOf s := ⟨_, rfl⟩
    rw [← hb] at hl e0 e1 e2 e3 ⊢
    obtain ⟨x0, hx0⟩ : ∃ x, x = bt s 0 := ⟨_, rfl⟩
    obtain ⟨x1, hx1⟩ : ∃ x, x = bt s 1 := ⟨_, rfl⟩
    obtain ⟨x2, hx2⟩ : ∃ x, x = bt s 2 := ⟨_, rfl⟩
    obtain ⟨x3, hx3⟩ : ∃ x, x = bt s 3 := ⟨_, rfl⟩
    rw [← hx0] at b0 e0
    rw [← hx1] at b1 e1
    rw [← hx2] at b2 e2
    rw [← hx3] at b3 e3
    have t0 := Num.w64 (n := x0) (by omega) (by omega)
    have t1 := Num.w64 (n := x1) (by omega) (by omega)
    have t2 := Num.w64 (n := x2) (by omega) (by omega)
    have t3 := Num.w64 (n := x3) (by omega) (by omega)
    have o : ∀ a b : Int, 0 ≤ a → a < 16777216 → 0 ≤ b → b ≤ 255 → Go.bits .or .i64 (wrap64 (a * 256)) b = a * 256 + b := fun a b h1 h2 h3 h4 => by
      rw [Num.w64 (by omega) (by omega), Num.or_add (a * 256) b 8 (by omega) (by omega) (by omega) h3 (by omega) (by decide)]
    have w0 : wrap64 (1 - 1) = 0 := by unfold wrap64; decide
    have w1 : wrap64 (2 - 1) = 1 := by unfold wrap64; decide
    have w2 : wrap64 (3 - 1) = 2 := by unfold wrap64; decide
    have w3 : wrap64 (4 - 1) = 3 := by unfold wrap64; decide
    have wm : wrap64 (0 - 1) = -1 := by unfold wrap64; decide
    have hs4 : s.size = 1 ∨ s.size = 2 ∨ s.size = 3 ∨ s.size = 4 := by omega
    have g0 : ∀ (k : Nat) (a b : Int), b < 0 → descantref1_GetField.l0 (k + 1) s a b = some (a, 0) := fun k a b h => by
      simp only [descantref1_GetField.l0]; rw [if_neg (by omega)]
    have g1 : ∀ (k : Nat) (a b : Int), 0 ≤ b → b < s.size → descantref1_GetField.l0 (k + 1) s a b = descantref1_GetField.l0 k s (Go.bits .or .i64 (wrap64 (a * 256)) (wrap64 (bt s b))) (wrap64 (b - 1)) := fun k a b h h2 => by
      simp only [descantref1_GetField.l0]; rw [if_pos (by omega), if_pos h, if_pos (by omega)]
    rcases hs4 with hs4 | hs4 | hs4 | hs4 <;> rw [hs4] at hl
    · obtain ⟨y0, rfl⟩ : ∃ y0, l = [y0] := by match l, hl with | [y0], _ => exact ⟨_, rfl⟩
      simp at e0
      subst e0
      rw [hs4, show ((1 : Nat) : Int) = 1 from rfl, w0, g1 _ _ _ (by omega) (by omega), wm, g0 _ _ _ (by omega), ← hx0, t0, o _ _ (by omega) (by omega) (by omega) (by omega)]
      congr 2; simp [val]
    · obtain ⟨y0, y1, rfl⟩ : ∃ y0 y1, l = [y0, y1] := by match l, hl with | [y0, y1], _ => exact ⟨_, _, rfl⟩
      simp at e0 e1
      subst e0 e1
      rw [hs4, show ((2 : Nat) : Int) = 2 from rfl, w1, g1 _ _ _ (by omega) (by omega), w0, g1 _ _ _ (by omega) (by omega), wm, g0 _ _ _ (by omega), ← hx0, ← hx1, t0, t1, o 0 _ (by omega) (by omega) (by omega) (by omega), o _ _ (by omega) (by omega) (by omega) (by omega)]
      congr 2; simp [val]; omega
    · obtain ⟨y0, y1, y2, rfl⟩ : ∃ y0 y1 y2, l = [y0, y1, y2] := by match l, hl with | [y0, y1, y2], _ => exact ⟨_, _, _, rfl⟩
      simp at e0 e1 e2
      subst e0 e1 e2
      rw [hs4, show ((3 : Nat) : Int) = 3 from rfl, w2, g1 _ _ _ (by omega) (by omega), w1, g1 _ _ _ (by omega) (by omega), w0, g1 _ _ _ (by omega) (by omega), wm, g0 _ _ _ (by omega), ← hx0, ← hx1, ← hx2, t0, t1, t2, o 0 _ (by omega) (by omega) (by omega) (by omega), o _ x1 (by omega) (by omega) (by omega) (by omega), o _ x0 (by omega) (by omega) (by omega) (by omega)]
      congr 2; simp [val]; omega
    · obtain ⟨y0, y1, y2, y3, rfl⟩ : ∃ y0 y1 y2 y3, l = [y0, y1, y2, y3] := by match l, hl with | [y0, y1, y2, y3], _ => exact ⟨_, _, _, _, rfl⟩
      simp at e0 e1 e2 e3
      subst e0 e1 e2 e3
      rw [hs4, show ((4 : Nat) : Int) = 4 from rfl, w3, g1 _ _ _ (by omega) (by omega), w2, g1 _ _ _ (by omega) (by omega), w1, g1 _ _ _ (by omega) (by omega), w0, g1 _ _ _ (by omega) (by omega), wm, g0 _ _ _ (by omega), ← hx0, ← hx1, ← hx2, ← hx3, t0, t1, t2, t3, o 0 _ (by omega) (by omega) (by omega) (by omega), o _ x2 (by omega) (by omega) (by omega) (by omega), o _ x1 (by omega) (by omega) (by omega) (by omega), o _ x0 (by omega) (by omega) (by omega) (by omega)]
      congr 2; simp [val]; omega
  · rw [decide_eq_false c, get_far (by omega)]; rfl

end Go.Proofs.Ytkngkmemcokbfaa.PWv
