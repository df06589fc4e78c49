/- Numbers in bytes (layer 1): what the printed Get comes to. -/
import Derived.Test.YtkngkmemcokbfaaPWvx3
import Derived.Test.YtkngkmemcokbfaaNum
import Derived.Test.YtkngkmemcokbfaaBytes
namespace Go.Proofs.Ytkngkmemcokbfaa.PWv
open Go Go.RowKit Go.Proofs.YtkngkmemcokbfaaW.PrintWords Go.Proofs.YtkngkmemcokbfaaW.PrintMore
set_option linter.unusedVariables false
set_option linter.unusedSimpArgs false

/-- A number's lowest bytes. -/
def low : Nat → Int → List Int
  | 0, _ => []
  | n + 1, x => x % 256 :: low n (x / 256)
theorem low_length (n : Nat) (x : Int) : (low n x).length = n := by
  induction n generalizing x with
  | zero => rfl
  | succ n ih => simp [low, ih]
theorem low_in (n : Nat) (x : Int) : ∀ y ∈ low n x, 0 ≤ y ∧ y ≤ 255 := by
  induction n generalizing x with
  | zero => intro y h; cases h
  | succ n ih =>
    intro y h
    simp only [low, List.mem_cons] at h
    rcases h with rfl | h
    · omega
    · exact ih _ y h
/-- The number of some bytes. -/
def val : List Int → Int
  | [] => 0
  | b :: l => b + 256 * val l
theorem val_low (n : Nat) (x : Int) : val (low n x) = x % 256 ^ n := by
  induction n generalizing x with
  | zero => simp [low, val]
  | succ n ih =>
    simp only [low, val, ih]
    rw [Int.pow_succ, Int.mul_comm (256 ^ n) 256]
    have hp : (0 : Int) < 256 ^ n := Int.pow_pos (by decide)
    have h3 := Int.emod_nonneg (x / 256) (show (256 : Int) ^ n ≠ 0 by omega)
    have h4 := Int.emod_lt_of_pos (x / 256) hp
    have h5 : x = (256 * (x / 256 % 256 ^ n) + x % 256) + 256 * 256 ^ n * (x / 256 / 256 ^ n) := by
      have e1 := Int.emod_add_mul_ediv (x / 256) (256 ^ n)
      rw [Int.mul_assoc]
      omega
    have h6 : x % (256 * 256 ^ n) = 256 * (x / 256 % 256 ^ n) + x % 256 := by
      conv => lhs; rw [h5]
      rw [Int.add_mul_emod_self_left]
      exact Int.emod_eq_of_lt (by omega) (by omega)
    omega
theorem low_val (l : List Int) (h : ∀ y ∈ l, 0 ≤ y ∧ y ≤ 255) : low l.length (val l) = l := by
  induction l with
  | nil => rfl
  | cons b l ih =>
    have hb := h b (by simp)
    simp only [List.length_cons, low, val]
    rw [show (b + 256 * val l) % 256 = b by omega, show (b + 256 * val l) / 256 = val l by omega, ih (fun y hy => h y (by simp [hy]))]
theorem val_range (l : List Int) (h : ∀ y ∈ l, 0 ≤ y ∧ y ≤ 255) : 0 ≤ val l ∧ val l < 256 ^ l.length := by
  induction l with
  | nil => simp [val]
  | cons b l ih =>
    have hb := h b (by simp)
    have := ih (fun y hy => h y (by simp [hy]))
    simp only [List.length_cons, val, Int.pow_succ]
    omega

theorem shr_at (x : Int) (j : Nat) (h : j ≤ 63) : shr .i64 x (j : Int) = x / 2 ^ j := by
  unfold shr
  rw [Int.toNat_natCast, Nat.min_eq_left (by show j ≤ 64; omega)]

theorem get_far {k : Nat} {s : ByteArray} (h : s.size < 1 ∨ 4 < s.size) : field_Get.f (k + 1) s = some (0, 100) := by
  unfold field_Get.f
  by_cases c : s.toList = []
  · rw [if_pos c]; simp only [field_Get.j0]; rfl
  · rw [if_neg c]
    have : s.size ≠ 0 := fun e => c ((Bytes.nil_iff s).2 e)
    rw [show decide ((s.size : Int) > 4) = true by simp; omega]
    simp only [field_Get.j0]; rfl

theorem shl_at (x : Int) (j : Nat) (h : j ≤ 63) (h0 : 0 ≤ x) (h1 : x ≤ 255) (hj : j ≤ 24) : shl .i64 x (j : Int) = x * 2 ^ j := by
  unfold shl
  rw [Int.toNat_natCast, Nat.min_eq_left (by show j ≤ 64; omega), Num.wrap_eq]
  have h2 : (2 : Nat) ^ j ≤ 2 ^ 24 := Nat.pow_le_pow_right (by decide) hj
  have h3 : ((2 ^ j : Nat) : Int) = (2 : Int) ^ j := by norm_cast
  have h6 : (0 : Int) ≤ 2 ^ j := by rw [← h3]; exact Int.natCast_nonneg _
  have h4 : x * 2 ^ j ≤ 255 * 2 ^ 24 := Int.mul_le_mul h1 (by omega) (by omega) (by decide)
  have h5 : 0 ≤ x * 2 ^ j := Int.mul_nonneg h0 (by omega)
  exact Num.w64 (by omega) (by omega)

theorem get_in {k : Nat} {s : ByteArray} (h1 : 1 ≤ s.size) (h4 : s.size ≤ 4) : field_Get.f (k + 7) s = some (val (bytesOf s), 0) := by
  unfold field_Get.f
  rw [if_neg (fun c => by have := (Bytes.nil_iff s).1 c; omega), show decide ((s.size : Int) > 4) = false by simp; omega]
  simp only [field_Get.j0]
  rw [if_neg (by decide)]
  have b0 := bt_range s 0
  have b1 := bt_range s 1
  have b2 := bt_range s 2
  have b3 := bt_range s 3
  have hl := Bytes.size_eq s
  have e0 := Bytes.bt_eq s 0
  have e1 := Bytes.bt_eq s 1
  have e2 := Bytes.bt_eq s 2
  have e3 := Bytes.bt_eq s 3
  obtain ⟨l, hb⟩ : ∃ l, l = bytesOf s := ⟨_, rfl⟩
  rw [← hb] at hl e0 e1 e2 e3 ⊢
  obtain ⟨x0, hx0⟩ : ∃ x, x = bt s 0 := ⟨_, rfl⟩
  obtain ⟨x1, hx1⟩ : ∃ x, x = bt s 1 := ⟨_, rfl⟩
  obtain ⟨x2, hx2⟩ : ∃ x, x = bt s 2 := ⟨_, rfl⟩
  obtain ⟨x3, hx3⟩ : ∃ x, x = bt s 3 := ⟨_, rfl⟩
  rw [← hx0] at b0 e0
  rw [← hx1] at b1 e1
  rw [← hx2] at b2 e2
  rw [← hx3] at b3 e3
  have t0 : shl .i64 (wrap64 x0) 0 = x0 := by
    rw [Num.w64 (by omega) (by omega)]; have := shl_at x0 0 (by decide) b0.1 b0.2 (by decide); rw [show (0 : Int) = ((0 : Nat) : Int) from rfl, this]; omega
  have t1 : shl .i64 (wrap64 x1) 8 = x1 * 256 := by rw [Num.w64 (by omega) (by omega)]; exact shl_at x1 8 (by decide) b1.1 b1.2 (by decide)
  have t2 : shl .i64 (wrap64 x2) 16 = x2 * 65536 := by rw [Num.w64 (by omega) (by omega)]; exact shl_at x2 16 (by decide) b2.1 b2.2 (by decide)
  have t3 : shl .i64 (wrap64 x3) 24 = x3 * 16777216 := by rw [Num.w64 (by omega) (by omega)]; exact shl_at x3 24 (by decide) b3.1 b3.2 (by decide)
  have o0 : Go.bits .or .i64 0 x0 = x0 := by rw [Num.or_add 0 x0 8 (by decide) (by decide) (by decide) b0.1 (by omega) (by decide)]; omega
  have o1 : Go.bits .or .i64 x0 (x1 * 256) = x0 + x1 * 256 := by rw [Num.or_comm, Num.or_add (x1 * 256) x0 8 (by omega) (by omega) (by omega) b0.1 (by omega) (by decide)]; omega
  have o2 : Go.bits .or .i64 (x0 + x1 * 256) (x2 * 65536) = x0 + x1 * 256 + x2 * 65536 := by rw [Num.or_comm, Num.or_add (x2 * 65536) _ 16 (by omega) (by omega) (by omega) (by omega) (by omega) (by decide)]; omega
  have o3 : Go.bits .or .i64 (x0 + x1 * 256 + x2 * 65536) (x3 * 16777216) = x0 + x1 * 256 + x2 * 65536 + x3 * 16777216 := by rw [Num.or_comm, Num.or_add (x3 * 16777216) _ 24 (by omega) (by omega) (by omega) (by omega) (by omega) (by decide)]; omega
  have hs : s.size = 1 ∨ s.size = 2 ∨ s.size = 3 ∨ s.size = 4 := by omega
  rcases hs with hs | hs | hs | hs <;> rw [hs] at hl
  · obtain ⟨y0, rfl⟩ : ∃ y0, l = [y0] := by match l, hl with | [y0], _ => exact ⟨_, rfl⟩
    simp at e0
    subst e0
    simp [field_Get.l0, hs, ← hx0, wrap64, val] at t0 o0 ⊢
    simp [t0, o0]
  · obtain ⟨y0, y1, rfl⟩ : ∃ y0 y1, l = [y0, y1] := by match l, hl with | [y0, y1], _ => exact ⟨_, _, rfl⟩
    simp at e0 e1
    subst e0 e1
    simp [field_Get.l0, hs, ← hx0, ← hx1, wrap64, val] at t0 t1 o0 o1 ⊢
    simp [t0, o0, t1, o1]; omega
  · obtain ⟨y0, y1, y2, rfl⟩ : ∃ y0 y1 y2, l = [y0, y1, y2] := by match l, hl with | [y0, y1, y2], _ => exact ⟨_, _, _, rfl⟩
    simp at e0 e1 e2
    subst e0 e1 e2
    simp [field_Get.l0, hs, ← hx0, ← hx1, ← hx2, wrap64, val] at t0 t1 t2 o0 o1 o2 ⊢
    simp [t0, o0, t1, o1, t2, o2]; omega
  · obtain ⟨y0, y1, y2, y3, rfl⟩ : ∃ y0 y1 y2 y3, l = [y0, y1, y2, y3] := by match l, hl with | [y0, y1, y2, y3], _ => exact ⟨_, _, _, _, rfl⟩
    simp at e0 e1 e2 e3
    subst e0 e1 e2 e3
    simp [field_Get.l0, hs, ← hx0, ← hx1, ← hx2, ← hx3, wrap64, val] at t0 t1 t2 t3 o0 o1 o2 o3 ⊢
    simp [t0, o0, t1, o1, t2, o2, t3, o3]; omega

end Go.Proofs.Ytkngkmemcokbfaa.PWv
