-- Printed by a program of this session over the kit's printer (wip/gen/pr.py). Not trusted: Lean checks it.
import Derived.Test.YtkngkmemcokbfaaPWvx0
import Derived.Test.YtkngkmemcokbfaaPWvx9
namespace Go.Proofs.Ytkngkmemcokbfaa.PWv
open Go.RowKit Go.Proofs.YtkngkmemcokbfaaW.PrintWords Go.Proofs.YtkngkmemcokbfaaW.PrintLast Go.Proofs.YtkngkmemcokbfaaW.PrintMore
attribute [local go_sem] max2_int min2_int max_two min_two max_three min_three max_four min_four   -- for this text's walks alone
set_option linter.unusedVariables false
set_option linter.unusedSimpArgs false

/-! ### descantlaw21_wav: function 25 -/
def descantlaw21_wav.f (k : Nat) (a0_0 : Int) (a0_1 : Int) (a1 : ByteArray) : Option (ByteArray) := (descantref1_Low.f k a0_0 2).bind fun t185 => (if 14 + t185.size ≤ 9223372036854775807 then (if 14 + t185.size + 8 ≤ 9223372036854775807 then ((descantref1_Low.f k (wrap64 (Int.tdiv (wrap64 (a0_0 * a0_1)) 8)) 2).bind fun t186 => (if 14 + t185.size + 8 + t186.size ≤ 9223372036854775807 then ((descantref1_Low.f k a0_1 2).bind fun t187 => (if 14 + t185.size + 8 + t186.size + t187.size ≤ 9223372036854775807 then (if 14 + t185.size + 8 + t186.size + t187.size + 4 ≤ 9223372036854775807 then ((descantref1_Low.f k (a1.size : Int) 4).bind fun t188 => (if 14 + t185.size + 8 + t186.size + t187.size + 4 + t188.size ≤ 9223372036854775807 then (if 14 + t185.size + 8 + t186.size + t187.size + 4 + t188.size + a1.size ≤ 9223372036854775807 then (if ((a1.size : Int) % 2) = 1 then (if 14 + t185.size + 8 + t186.size + t187.size + 4 + t188.size + a1.size + 1 ≤ 9223372036854775807 then (if 14 + t185.size + 8 + t186.size + t187.size + 4 + t188.size + a1.size + 1 + 12 ≤ 9223372036854775807 then ((descantref1_Low.f k (14 + (t185.size : Int) + 8 + (t186.size : Int) + (t187.size : Int) + 4 + (t188.size : Int) + (a1.size : Int) + 1 + 12) 4).bind fun t189 => (if 4 + t189.size ≤ 9223372036854775807 then (if 4 + t189.size + (14 + t185.size + 8 + t186.size + t187.size + 4 + t188.size + a1.size + 1 + 12) ≤ 9223372036854775807 then (some (((⟨#[82, 73, 70, 70]⟩ : ByteArray) ++ t189) ++ ((((((((((⟨#[87, 65, 86, 69, 102, 109, 116, 32, 16, 0, 0, 0, 1, 0]⟩ : ByteArray) ++ t185) ++ (⟨#[114, 97, 116, 101, 97, 110, 100, 98]⟩ : ByteArray)) ++ t186) ++ t187) ++ (⟨#[100, 97, 116, 97]⟩ : ByteArray)) ++ t188) ++ a1) ++ (⟨#[112]⟩ : ByteArray)) ++ (⟨#[109, 111, 114, 101, 3, 0, 0, 0, 97, 98, 99, 100]⟩ : ByteArray)))) else (none)) else (none))) else (none)) else (none)) else (if 14 + t185.size + 8 + t186.size + t187.size + 4 + t188.size + a1.size + 12 ≤ 9223372036854775807 then ((descantref1_Low.f k (14 + (t185.size : Int) + 8 + (t186.size : Int) + (t187.size : Int) + 4 + (t188.size : Int) + (a1.size : Int) + 12) 4).bind fun t190 => (if 4 + t190.size ≤ 9223372036854775807 then (if 4 + t190.size + (14 + t185.size + 8 + t186.size + t187.size + 4 + t188.size + a1.size + 12) ≤ 9223372036854775807 then (some (((⟨#[82, 73, 70, 70]⟩ : ByteArray) ++ t190) ++ (((((((((⟨#[87, 65, 86, 69, 102, 109, 116, 32, 16, 0, 0, 0, 1, 0]⟩ : ByteArray) ++ t185) ++ (⟨#[114, 97, 116, 101, 97, 110, 100, 98]⟩ : ByteArray)) ++ t186) ++ t187) ++ (⟨#[100, 97, 116, 97]⟩ : ByteArray)) ++ t188) ++ a1) ++ (⟨#[109, 111, 114, 101, 3, 0, 0, 0, 97, 98, 99, 100]⟩ : ByteArray)))) else (none)) else (none))) else (none))) else (none)) else (none))) else (none)) else (none))) else (none))) else (none)) else (none))
theorem descantlaw21_wav.mono : ∀ a0 a1 a2 k, LeO (descantlaw21_wav.f k a0 a1 a2) (descantlaw21_wav.f (k + 1) a0 a1 a2) := by
 intro a0 a1 a2 k
 unfold descantlaw21_wav.f
 repeat' first
   | (with_reducible exact descantref1_Low.mono _ _ _)
   | (with_reducible exact LeO.refl _)
   | (with_reducible exact LeO.none _)
   | (with_reducible refine LeO.ite ?_ ?_)
   | (with_reducible refine LeO.bind ?_ (fun _ => ?_))
   | exact descantref1_Low.mono _ _ _
   | exact LeO.none _
   | refine LeO.ite ?_ ?_
   | refine LeO.bind ?_ (fun _ => ?_)
def descantlaw21_wav.T2 : Bool × List (List Nat × List Nat) := (true, [([], []), ([0], [0]), ([1], [1]), ([2], [2]), ([3], [3]), ([], []), ([5, 2], [5]), ([4, 6], [4, 6]), ([], []), ([8], [8]), ([9, 6], [9]), ([7, 10], [7, 10]), ([11, 10, 0, 1, 2, 3, 4, 5, 6, 7, 8, 9, 10, 11], [11])])
def descantlaw21_wav.B2 : List Nat := [0, 1, 3, 7, 15, 0, 39, 127, 0, 256, 871, 2047, 4095]
theorem descantlaw21_wav.tab2 : rtab .any (opsOf Try.f25 2) = descantlaw21_wav.T2 := by kernel_rfl
theorem descantlaw21_wav.bits2 : waitsOk descantlaw21_wav.T2.2 descantlaw21_wav.B2 = true := by kernel_rfl
set_option maxHeartbeats 8000000 in
set_option maxRecDepth 100000 in
theorem descantlaw21_wav.calls (k : Nat) (a0_0 : Int) (a0_1 : Int) (a1 : ByteArray) (r : ByteArray) (w : World) (h : descantlaw21_wav.f k a0_0 a0_1 a1 = some r) :
  Calls Try.prog 25 #[.agg #[.int .i64 a0_0, .int .i64 a0_1], .string a1] w fun e w' => e = .returned (.string r) ∧ Below w.heap.size w w' := by
 have hu37 := Try.underlying37
 have HB := Aside0.mk (Below.refl w.heap.size w)
 have H : ((descantref1_Low.f k a0_0 2).bind fun t185 => (if 14 + t185.size ≤ 9223372036854775807 then (if 14 + t185.size + 8 ≤ 9223372036854775807 then ((descantref1_Low.f k (wrap64 (Int.tdiv (wrap64 (a0_0 * a0_1)) 8)) 2).bind fun t186 => (if 14 + t185.size + 8 + t186.size ≤ 9223372036854775807 then ((descantref1_Low.f k a0_1 2).bind fun t187 => (if 14 + t185.size + 8 + t186.size + t187.size ≤ 9223372036854775807 then (if 14 + t185.size + 8 + t186.size + t187.size + 4 ≤ 9223372036854775807 then ((descantref1_Low.f k (a1.size : Int) 4).bind fun t188 => (if 14 + t185.size + 8 + t186.size + t187.size + 4 + t188.size ≤ 9223372036854775807 then (if 14 + t185.size + 8 + t186.size + t187.size + 4 + t188.size + a1.size ≤ 9223372036854775807 then (if ((a1.size : Int) % 2) = 1 then (if 14 + t185.size + 8 + t186.size + t187.size + 4 + t188.size + a1.size + 1 ≤ 9223372036854775807 then (if 14 + t185.size + 8 + t186.size + t187.size + 4 + t188.size + a1.size + 1 + 12 ≤ 9223372036854775807 then ((descantref1_Low.f k (14 + (t185.size : Int) + 8 + (t186.size : Int) + (t187.size : Int) + 4 + (t188.size : Int) + (a1.size : Int) + 1 + 12) 4).bind fun t189 => (if 4 + t189.size ≤ 9223372036854775807 then (if 4 + t189.size + (14 + t185.size + 8 + t186.size + t187.size + 4 + t188.size + a1.size + 1 + 12) ≤ 9223372036854775807 then (some (((⟨#[82, 73, 70, 70]⟩ : ByteArray) ++ t189) ++ ((((((((((⟨#[87, 65, 86, 69, 102, 109, 116, 32, 16, 0, 0, 0, 1, 0]⟩ : ByteArray) ++ t185) ++ (⟨#[114, 97, 116, 101, 97, 110, 100, 98]⟩ : ByteArray)) ++ t186) ++ t187) ++ (⟨#[100, 97, 116, 97]⟩ : ByteArray)) ++ t188) ++ a1) ++ (⟨#[112]⟩ : ByteArray)) ++ (⟨#[109, 111, 114, 101, 3, 0, 0, 0, 97, 98, 99, 100]⟩ : ByteArray)))) else (none)) else (none))) else (none)) else (none)) else (if 14 + t185.size + 8 + t186.size + t187.size + 4 + t188.size + a1.size + 12 ≤ 9223372036854775807 then ((descantref1_Low.f k (14 + (t185.size : Int) + 8 + (t186.size : Int) + (t187.size : Int) + 4 + (t188.size : Int) + (a1.size : Int) + 12) 4).bind fun t190 => (if 4 + t190.size ≤ 9223372036854775807 then (if 4 + t190.size + (14 + t185.size + 8 + t186.size + t187.size + 4 + t188.size + a1.size + 12) ≤ 9223372036854775807 then (some (((⟨#[82, 73, 70, 70]⟩ : ByteArray) ++ t190) ++ (((((((((⟨#[87, 65, 86, 69, 102, 109, 116, 32, 16, 0, 0, 0, 1, 0]⟩ : ByteArray) ++ t185) ++ (⟨#[114, 97, 116, 101, 97, 110, 100, 98]⟩ : ByteArray)) ++ t186) ++ t187) ++ (⟨#[100, 97, 116, 97]⟩ : ByteArray)) ++ t188) ++ a1) ++ (⟨#[109, 111, 114, 101, 3, 0, 0, 0, 97, 98, 99, 100]⟩ : ByteArray)))) else (none)) else (none))) else (none))) else (none)) else (none))) else (none)) else (none))) else (none))) else (none)) else (none))) = some r := h
 clear h
 replace H := Option.bind_eq_some_iff.mp H
 obtain ⟨t185, A30, H⟩ := H
 replace H : (if 14 + t185.size ≤ 9223372036854775807 then (if 14 + t185.size + 8 ≤ 9223372036854775807 then ((descantref1_Low.f k (wrap64 (Int.tdiv (wrap64 (a0_0 * a0_1)) 8)) 2).bind fun t186 => (if 14 + t185.size + 8 + t186.size ≤ 9223372036854775807 then ((descantref1_Low.f k a0_1 2).bind fun t187 => (if 14 + t185.size + 8 + t186.size + t187.size ≤ 9223372036854775807 then (if 14 + t185.size + 8 + t186.size + t187.size + 4 ≤ 9223372036854775807 then ((descantref1_Low.f k (a1.size : Int) 4).bind fun t188 => (if 14 + t185.size + 8 + t186.size + t187.size + 4 + t188.size ≤ 9223372036854775807 then (if 14 + t185.size + 8 + t186.size + t187.size + 4 + t188.size + a1.size ≤ 9223372036854775807 then (if ((a1.size : Int) % 2) = 1 then (if 14 + t185.size + 8 + t186.size + t187.size + 4 + t188.size + a1.size + 1 ≤ 9223372036854775807 then (if 14 + t185.size + 8 + t186.size + t187.size + 4 + t188.size + a1.size + 1 + 12 ≤ 9223372036854775807 then ((descantref1_Low.f k (14 + (t185.size : Int) + 8 + (t186.size : Int) + (t187.size : Int) + 4 + (t188.size : Int) + (a1.size : Int) + 1 + 12) 4).bind fun t189 => (if 4 + t189.size ≤ 9223372036854775807 then (if 4 + t189.size + (14 + t185.size + 8 + t186.size + t187.size + 4 + t188.size + a1.size + 1 + 12) ≤ 9223372036854775807 then (some (((⟨#[82, 73, 70, 70]⟩ : ByteArray) ++ t189) ++ ((((((((((⟨#[87, 65, 86, 69, 102, 109, 116, 32, 16, 0, 0, 0, 1, 0]⟩ : ByteArray) ++ t185) ++ (⟨#[114, 97, 116, 101, 97, 110, 100, 98]⟩ : ByteArray)) ++ t186) ++ t187) ++ (⟨#[100, 97, 116, 97]⟩ : ByteArray)) ++ t188) ++ a1) ++ (⟨#[112]⟩ : ByteArray)) ++ (⟨#[109, 111, 114, 101, 3, 0, 0, 0, 97, 98, 99, 100]⟩ : ByteArray)))) else (none)) else (none))) else (none)) else (none)) else (if 14 + t185.size + 8 + t186.size + t187.size + 4 + t188.size + a1.size + 12 ≤ 9223372036854775807 then ((descantref1_Low.f k (14 + (t185.size : Int) + 8 + (t186.size : Int) + (t187.size : Int) + 4 + (t188.size : Int) + (a1.size : Int) + 12) 4).bind fun t190 => (if 4 + t190.size ≤ 9223372036854775807 then (if 4 + t190.size + (14 + t185.size + 8 + t186.size + t187.size + 4 + t188.size + a1.size + 12) ≤ 9223372036854775807 then (some (((⟨#[82, 73, 70, 70]⟩ : ByteArray) ++ t190) ++ (((((((((⟨#[87, 65, 86, 69, 102, 109, 116, 32, 16, 0, 0, 0, 1, 0]⟩ : ByteArray) ++ t185) ++ (⟨#[114, 97, 116, 101, 97, 110, 100, 98]⟩ : ByteArray)) ++ t186) ++ t187) ++ (⟨#[100, 97, 116, 97]⟩ : ByteArray)) ++ t188) ++ a1) ++ (⟨#[109, 111, 114, 101, 3, 0, 0, 0, 97, 98, 99, 100]⟩ : ByteArray)))) else (none)) else (none))) else (none))) else (none)) else (none))) else (none)) else (none))) else (none))) else (none)) else (none)) = some r := H
 have A3 := Aside0.mk A30
 clear A30
 by_cases c4 : 14 + t185.size ≤ 9223372036854775807
 ·rw [if_pos c4] at H
  have c4b0 := eq_true c4
  have c4b1 : decide (14 + t185.size ≤ 9223372036854775807) = true := decide_eq_true c4
  try have c4b2 : (9223372036854775807 < 14 + t185.size) = False := eq_false (Nat.not_lt.2 c4)
  by_cases c5 : 14 + t185.size + 8 ≤ 9223372036854775807
  ·rw [if_pos c5] at H
   have c5b0 := eq_true c5
   have c5b1 : decide (14 + t185.size + 8 ≤ 9223372036854775807) = true := decide_eq_true c5
   try have c5b2 : (9223372036854775807 < 14 + t185.size + 8) = False := eq_false (Nat.not_lt.2 c5)
   replace H := Option.bind_eq_some_iff.mp H
   obtain ⟨t186, A60, H⟩ := H
   replace H : (if 14 + t185.size + 8 + t186.size ≤ 9223372036854775807 then ((descantref1_Low.f k a0_1 2).bind fun t187 => (if 14 + t185.size + 8 + t186.size + t187.size ≤ 9223372036854775807 then (if 14 + t185.size + 8 + t186.size + t187.size + 4 ≤ 9223372036854775807 then ((descantref1_Low.f k (a1.size : Int) 4).bind fun t188 => (if 14 + t185.size + 8 + t186.size + t187.size + 4 + t188.size ≤ 9223372036854775807 then (if 14 + t185.size + 8 + t186.size + t187.size + 4 + t188.size + a1.size ≤ 9223372036854775807 then (if ((a1.size : Int) % 2) = 1 then (if 14 + t185.size + 8 + t186.size + t187.size + 4 + t188.size + a1.size + 1 ≤ 9223372036854775807 then (if 14 + t185.size + 8 + t186.size + t187.size + 4 + t188.size + a1.size + 1 + 12 ≤ 9223372036854775807 then ((descantref1_Low.f k (14 + (t185.size : Int) + 8 + (t186.size : Int) + (t187.size : Int) + 4 + (t188.size : Int) + (a1.size : Int) + 1 + 12) 4).bind fun t189 => (if 4 + t189.size ≤ 9223372036854775807 then (if 4 + t189.size + (14 + t185.size + 8 + t186.size + t187.size + 4 + t188.size + a1.size + 1 + 12) ≤ 9223372036854775807 then (some (((⟨#[82, 73, 70, 70]⟩ : ByteArray) ++ t189) ++ ((((((((((⟨#[87, 65, 86, 69, 102, 109, 116, 32, 16, 0, 0, 0, 1, 0]⟩ : ByteArray) ++ t185) ++ (⟨#[114, 97, 116, 101, 97, 110, 100, 98]⟩ : ByteArray)) ++ t186) ++ t187) ++ (⟨#[100, 97, 116, 97]⟩ : ByteArray)) ++ t188) ++ a1) ++ (⟨#[112]⟩ : ByteArray)) ++ (⟨#[109, 111, 114, 101, 3, 0, 0, 0, 97, 98, 99, 100]⟩ : ByteArray)))) else (none)) else (none))) else (none)) else (none)) else (if 14 + t185.size + 8 + t186.size + t187.size + 4 + t188.size + a1.size + 12 ≤ 9223372036854775807 then ((descantref1_Low.f k (14 + (t185.size : Int) + 8 + (t186.size : Int) + (t187.size : Int) + 4 + (t188.size : Int) + (a1.size : Int) + 12) 4).bind fun t190 => (if 4 + t190.size ≤ 9223372036854775807 then (if 4 + t190.size + (14 + t185.size + 8 + t186.size + t187.size + 4 + t188.size + a1.size + 12) ≤ 9223372036854775807 then (some (((⟨#[82, 73, 70, 70]⟩ : ByteArray) ++ t190) ++ (((((((((⟨#[87, 65, 86, 69, 102, 109, 116, 32, 16, 0, 0, 0, 1, 0]⟩ : ByteArray) ++ t185) ++ (⟨#[114, 97, 116, 101, 97, 110, 100, 98]⟩ : ByteArray)) ++ t186) ++ t187) ++ (⟨#[100, 97, 116, 97]⟩ : ByteArray)) ++ t188) ++ a1) ++ (⟨#[109, 111, 114, 101, 3, 0, 0, 0, 97, 98, 99, 100]⟩ : ByteArray)))) else (none)) else (none))) else (none))) else (none)) else (none))) else (none)) else (none))) else (none)) = some r := H
   have A6 := Aside0.mk A60
   clear A60
   by_cases c7 : 14 + t185.size + 8 + t186.size ≤ 9223372036854775807
   ·rw [if_pos c7] at H
    have c7b0 := eq_true c7
    have c7b1 : decide (14 + t185.size + 8 + t186.size ≤ 9223372036854775807) = true := decide_eq_true c7
    try have c7b2 : (9223372036854775807 < 14 + t185.size + 8 + t186.size) = False := eq_false (Nat.not_lt.2 c7)
    replace H := Option.bind_eq_some_iff.mp H
    obtain ⟨t187, A80, H⟩ := H
    replace H : (if 14 + t185.size + 8 + t186.size + t187.size ≤ 9223372036854775807 then (if 14 + t185.size + 8 + t186.size + t187.size + 4 ≤ 9223372036854775807 then ((descantref1_Low.f k (a1.size : Int) 4).bind fun t188 => (if 14 + t185.size + 8 + t186.size + t187.size + 4 + t188.size ≤ 9223372036854775807 then (if 14 + t185.size + 8 + t186.size + t187.size + 4 + t188.size + a1.size ≤ 9223372036854775807 then (if ((a1.size : Int) % 2) = 1 then (if 14 + t185.size + 8 + t186.size + t187.size + 4 + t188.size + a1.size + 1 ≤ 9223372036854775807 then (if 14 + t185.size + 8 + t186.size + t187.size + 4 + t188.size + a1.size + 1 + 12 ≤ 9223372036854775807 then ((descantref1_Low.f k (14 + (t185.size : Int) + 8 + (t186.size : Int) + (t187.size : Int) + 4 + (t188.size : Int) + (a1.size : Int) + 1 + 12) 4).bind fun t189 => (if 4 + t189.size ≤ 9223372036854775807 then (if 4 + t189.size + (14 + t185.size + 8 + t186.size + t187.size + 4 + t188.size + a1.size + 1 + 12) ≤ 9223372036854775807 then (some (((⟨#[82, 73, 70, 70]⟩ : ByteArray) ++ t189) ++ ((((((((((⟨#[87, 65, 86, 69, 102, 109, 116, 32, 16, 0, 0, 0, 1, 0]⟩ : ByteArray) ++ t185) ++ (⟨#[114, 97, 116, 101, 97, 110, 100, 98]⟩ : ByteArray)) ++ t186) ++ t187) ++ (⟨#[100, 97, 116, 97]⟩ : ByteArray)) ++ t188) ++ a1) ++ (⟨#[112]⟩ : ByteArray)) ++ (⟨#[109, 111, 114, 101, 3, 0, 0, 0, 97, 98, 99, 100]⟩ : ByteArray)))) else (none)) else (none))) else (none)) else (none)) else (if 14 + t185.size + 8 + t186.size + t187.size + 4 + t188.size + a1.size + 12 ≤ 9223372036854775807 then ((descantref1_Low.f k (14 + (t185.size : Int) + 8 + (t186.size : Int) + (t187.size : Int) + 4 + (t188.size : Int) + (a1.size : Int) + 12) 4).bind fun t190 => (if 4 + t190.size ≤ 9223372036854775807 then (if 4 + t190.size + (14 + t185.size + 8 + t186.size + t187.size + 4 + t188.size + a1.size + 12) ≤ 9223372036854775807 then (some (((⟨#[82, 73, 70, 70]⟩ : ByteArray) ++ t190) ++ (((((((((⟨#[87, 65, 86, 69, 102, 109, 116, 32, 16, 0, 0, 0, 1, 0]⟩ : ByteArray) ++ t185) ++ (⟨#[114, 97, 116, 101, 97, 110, 100, 98]⟩ : ByteArray)) ++ t186) ++ t187) ++ (⟨#[100, 97, 116, 97]⟩ : ByteArray)) ++ t188) ++ a1) ++ (⟨#[109, 111, 114, 101, 3, 0, 0, 0, 97, 98, 99, 100]⟩ : ByteArray)))) else (none)) else (none))) else (none))) else (none)) else (none))) else (none)) else (none)) = some r := H
    have A8 := Aside0.mk A80
    clear A80
    by_cases c9 : 14 + t185.size + 8 + t186.size + t187.size ≤ 9223372036854775807
    ·rw [if_pos c9] at H
     have c9b0 := eq_true c9
     have c9b1 : decide (14 + t185.size + 8 + t186.size + t187.size ≤ 9223372036854775807) = true := decide_eq_true c9
     try have c9b2 : (9223372036854775807 < 14 + t185.size + 8 + t186.size + t187.size) = False := eq_false (Nat.not_lt.2 c9)
     by_cases c10 : 14 + t185.size + 8 + t186.size + t187.size + 4 ≤ 9223372036854775807
     ·rw [if_pos c10] at H
      have c10b0 := eq_true c10
      have c10b1 : decide (14 + t185.size + 8 + t186.size + t187.size + 4 ≤ 9223372036854775807) = true := decide_eq_true c10
      try have c10b2 : (9223372036854775807 < 14 + t185.size + 8 + t186.size + t187.size + 4) = False := eq_false (Nat.not_lt.2 c10)
      replace H := Option.bind_eq_some_iff.mp H
      obtain ⟨t188, A110, H⟩ := H
      replace H : (if 14 + t185.size + 8 + t186.size + t187.size + 4 + t188.size ≤ 9223372036854775807 then (if 14 + t185.size + 8 + t186.size + t187.size + 4 + t188.size + a1.size ≤ 9223372036854775807 then (if ((a1.size : Int) % 2) = 1 then (if 14 + t185.size + 8 + t186.size + t187.size + 4 + t188.size + a1.size + 1 ≤ 9223372036854775807 then (if 14 + t185.size + 8 + t186.size + t187.size + 4 + t188.size + a1.size + 1 + 12 ≤ 9223372036854775807 then ((descantref1_Low.f k (14 + (t185.size : Int) + 8 + (t186.size : Int) + (t187.size : Int) + 4 + (t188.size : Int) + (a1.size : Int) + 1 + 12) 4).bind fun t189 => (if 4 + t189.size ≤ 9223372036854775807 then (if 4 + t189.size + (14 + t185.size + 8 + t186.size + t187.size + 4 + t188.size + a1.size + 1 + 12) ≤ 9223372036854775807 then (some (((⟨#[82, 73, 70, 70]⟩ : ByteArray) ++ t189) ++ ((((((((((⟨#[87, 65, 86, 69, 102, 109, 116, 32, 16, 0, 0, 0, 1, 0]⟩ : ByteArray) ++ t185) ++ (⟨#[114, 97, 116, 101, 97, 110, 100, 98]⟩ : ByteArray)) ++ t186) ++ t187) ++ (⟨#[100, 97, 116, 97]⟩ : ByteArray)) ++ t188) ++ a1) ++ (⟨#[112]⟩ : ByteArray)) ++ (⟨#[109, 111, 114, 101, 3, 0, 0, 0, 97, 98, 99, 100]⟩ : ByteArray)))) else (none)) else (none))) else (none)) else (none)) else (if 14 + t185.size + 8 + t186.size + t187.size + 4 + t188.size + a1.size + 12 ≤ 9223372036854775807 then ((descantref1_Low.f k (14 + (t185.size : Int) + 8 + (t186.size : Int) + (t187.size : Int) + 4 + (t188.size : Int) + (a1.size : Int) + 12) 4).bind fun t190 => (if 4 + t190.size ≤ 9223372036854775807 then (if 4 + t190.size + (14 + t185.size + 8 + t186.size + t187.size + 4 + t188.size + a1.size + 12) ≤ 9223372036854775807 then (some (((⟨#[82, 73, 70, 70]⟩ : ByteArray) ++ t190) ++ (((((((((⟨#[87, 65, 86, 69, 102, 109, 116, 32, 16, 0, 0, 0, 1, 0]⟩ : ByteArray) ++ t185) ++ (⟨#[114, 97, 116, 101, 97, 110, 100, 98]⟩ : ByteArray)) ++ t186) ++ t187) ++ (⟨#[100, 97, 116, 97]⟩ : ByteArray)) ++ t188) ++ a1) ++ (⟨#[109, 111, 114, 101, 3, 0, 0, 0, 97, 98, 99, 100]⟩ : ByteArray)))) else (none)) else (none))) else (none))) else (none)) else (none)) = some r := H
      have A11 := Aside0.mk A110
      clear A110
      by_cases c12 : 14 + t185.size + 8 + t186.size + t187.size + 4 + t188.size ≤ 9223372036854775807
      ·rw [if_pos c12] at H
       have c12b0 := eq_true c12
       have c12b1 : decide (14 + t185.size + 8 + t186.size + t187.size + 4 + t188.size ≤ 9223372036854775807) = true := decide_eq_true c12
       try have c12b2 : (9223372036854775807 < 14 + t185.size + 8 + t186.size + t187.size + 4 + t188.size) = False := eq_false (Nat.not_lt.2 c12)
       by_cases c13 : 14 + t185.size + 8 + t186.size + t187.size + 4 + t188.size + a1.size ≤ 9223372036854775807
       ·rw [if_pos c13] at H
        have c13b0 := eq_true c13
        have c13b1 : decide (14 + t185.size + 8 + t186.size + t187.size + 4 + t188.size + a1.size ≤ 9223372036854775807) = true := decide_eq_true c13
        try have c13b2 : (9223372036854775807 < 14 + t185.size + 8 + t186.size + t187.size + 4 + t188.size + a1.size) = False := eq_false (Nat.not_lt.2 c13)
        by_cases c14 : ((a1.size : Int) % 2) = 1
        ·rw [if_pos c14] at H
         have c14b0 : (((a1.size : Int) % 2) == 1) = true := beq_iff_eq.mpr c14
         have c14b1 : (((a1.size : Int) % 2) != 1) = false := bne_eq_false_iff_eq.mpr c14
         clear c14
         by_cases c15 : 14 + t185.size + 8 + t186.size + t187.size + 4 + t188.size + a1.size + 1 ≤ 9223372036854775807
         ·rw [if_pos c15] at H
          have c15b0 := eq_true c15
          have c15b1 : decide (14 + t185.size + 8 + t186.size + t187.size + 4 + t188.size + a1.size + 1 ≤ 9223372036854775807) = true := decide_eq_true c15
          try have c15b2 : (9223372036854775807 < 14 + t185.size + 8 + t186.size + t187.size + 4 + t188.size + a1.size + 1) = False := eq_false (Nat.not_lt.2 c15)
          by_cases c16 : 14 + t185.size + 8 + t186.size + t187.size + 4 + t188.size + a1.size + 1 + 12 ≤ 9223372036854775807
          ·rw [if_pos c16] at H
           have c16b0 := eq_true c16
           have c16b1 : decide (14 + t185.size + 8 + t186.size + t187.size + 4 + t188.size + a1.size + 1 + 12 ≤ 9223372036854775807) = true := decide_eq_true c16
           try have c16b2 : (9223372036854775807 < 14 + t185.size + 8 + t186.size + t187.size + 4 + t188.size + a1.size + 1 + 12) = False := eq_false (Nat.not_lt.2 c16)
           replace H := Option.bind_eq_some_iff.mp H
           obtain ⟨t189, A170, H⟩ := H
           replace H : (if 4 + t189.size ≤ 9223372036854775807 then (if 4 + t189.size + (14 + t185.size + 8 + t186.size + t187.size + 4 + t188.size + a1.size + 1 + 12) ≤ 9223372036854775807 then (some (((⟨#[82, 73, 70, 70]⟩ : ByteArray) ++ t189) ++ ((((((((((⟨#[87, 65, 86, 69, 102, 109, 116, 32, 16, 0, 0, 0, 1, 0]⟩ : ByteArray) ++ t185) ++ (⟨#[114, 97, 116, 101, 97, 110, 100, 98]⟩ : ByteArray)) ++ t186) ++ t187) ++ (⟨#[100, 97, 116, 97]⟩ : ByteArray)) ++ t188) ++ a1) ++ (⟨#[112]⟩ : ByteArray)) ++ (⟨#[109, 111, 114, 101, 3, 0, 0, 0, 97, 98, 99, 100]⟩ : ByteArray)))) else (none)) else (none)) = some r := H
           have A17 := Aside0.mk A170
           clear A170
           by_cases c18 : 4 + t189.size ≤ 9223372036854775807
           ·rw [if_pos c18] at H
            have c18b0 := eq_true c18
            have c18b1 : decide (4 + t189.size ≤ 9223372036854775807) = true := decide_eq_true c18
            try have c18b2 : (9223372036854775807 < 4 + t189.size) = False := eq_false (Nat.not_lt.2 c18)
            by_cases c19 : 4 + t189.size + (14 + t185.size + 8 + t186.size + t187.size + 4 + t188.size + a1.size + 1 + 12) ≤ 9223372036854775807
            ·rw [if_pos c19] at H
             have c19b0 := eq_true c19
             have c19b1 : decide (4 + t189.size + (14 + t185.size + 8 + t186.size + t187.size + 4 + t188.size + a1.size + 1 + 12) ≤ 9223372036854775807) = true := decide_eq_true c19
             try have c19b2 : (9223372036854775807 < 4 + t189.size + (14 + t185.size + 8 + t186.size + t187.size + 4 + t188.size + a1.size + 1 + 12)) = False := eq_false (Nat.not_lt.2 c19)
             obtain rfl := Option.some.inj H
             go_enter Try.func25, Try.ntmps25
             try go_wp2_with (first | ((with_reducible refine gate_dst (N := 2) rfl ?_); refine box_event ?hg (N := 2) ?hd (cs := #[.int .i64 a0_0, .int .i64 a0_1]) (t := 37) ?hr ?_; (case hd => rfl); (case hg => rfl); (case hr => first | (go_simp; done) | (go_simp; rfl)); intro gb184 hg w20 hbox hb; have n0_ := Aside0.mk (below_step (by repeat (first | (with_reducible first | exact HB.out | apply below_alloc | apply pw_below_drewN | apply below_drew1) | exact HB.out)) hb); have n1_ := Aside0.mk (hbox); have n2_ := Aside0.mk ((by rw [hg]; exact (below_size (by repeat (first | (with_reducible first | exact HB.out | apply below_alloc | apply pw_below_drewN | apply below_drew1) | exact HB.out))) : w.heap.size ≤ gb184)); have n3_ := Aside0.mk ((by rw [hg]; exact (below_size (by repeat (first | (with_reducible first | exact HB.out | apply below_alloc | apply pw_below_drewN | apply below_drew1) | exact HB.out))) : w.heap.size ≤ gb184)); clear HB; have HB := n0_; have BK184 := n1_; have GW184 := n2_; have GE184 := n3_; clear n0_ n1_ n2_ n3_; clear hb hbox hg; have hcz21_0 : w20.cell? ⟨gb184, 0, none⟩ = some (.int .i64 a0_0) := (blk_cell BK184.out 0).trans rfl; have hcz21_1 : w20.cell? ⟨gb184, 1, none⟩ = some (.int .i64 a0_1) := (blk_cell BK184.out 1).trans rfl; have hfz21_0 := blk_frozen BK184.out 0; have hfz21_1 := blk_frozen BK184.out 1))
             have n0_ := Aside0.mk (blk_drew BK184.out)
             have n1_ := Aside0.mk (below_drew1 HB.out)
             clear BK184
             clear HB
             have BK184 := n0_
             have HB := n1_
             clear n0_ n1_
             refine start_ (n := 13) (S := fun w' => w'.cell? ⟨gb184, 0, none⟩ = some (.int .i64 a0_0) ∧ w'.cell? ⟨gb184, 1, none⟩ = some (.int .i64 a0_1)) (ds := []) #[false, false, false, false, false, false, false, false, false, false, false, false, false] (by kernel_rfl) rfl rfl ⟨(blk_cell BK184.out 0).trans rfl, (blk_cell BK184.out 1).trans rfl⟩ (fun hHeld => ?_); refine with_tabW descantlaw21_wav.tab2 descantlaw21_wav.bits2 (fun HT_ HW_ => ?_)
             generalize w20.drew = w22 at BK184 HB hHeld ⊢
             refine pure_ (i := 0) (N := some 13) (v := ?_) (a' := ?_) #[true, false, false, false, false, false, false, false, false, false, false, false, false] rfl rfl (any_of HT_.out (by kernel_rfl)) (fun _ _ _ h => h) (Or.inl ⟨by rfl, ?_⟩) ?_ ?_
             rotate_left
             ·intro w'
              go_simp
              with_reducible rfl
             rotate_left
             ·simp only [Act.put, List.setIfInBounds_toArray, List.set_cons_zero, List.set_cons_succ, i64_w, i32_w]
              rfl
             refine pure_ (i := 5) (N := some 18) (v := ?_) (a' := ?_) #[true, false, false, false, false, true, false, false, false, false, false, false, false] rfl rfl (any_of HT_.out (by kernel_rfl)) (fun _ _ _ h => h) (Or.inl ⟨by rfl, ?_⟩) ?_ ?_
             rotate_left
             ·intro w'
              go_simp
              with_reducible rfl
             rotate_left
             ·simp only [Act.put, List.setIfInBounds_toArray, List.set_cons_zero, List.set_cons_succ, i64_w, i32_w]
              rfl
             refine pure_ (i := 8) (N := some 21) (v := ?_) (a' := ?_) #[true, false, false, false, false, true, false, false, true, false, false, false, false] rfl rfl (any_of HT_.out (by kernel_rfl)) (fun _ _ _ h => h) (Or.inl ⟨by rfl, ?_⟩) ?_ ?_
             rotate_left
             ·intro w'
              go_simp
              with_reducible rfl
             rotate_left
             ·simp only [Act.put, List.setIfInBounds_toArray, List.set_cons_zero, List.set_cons_succ, i64_w, i32_w]
              rfl
             refine take_ (i := 1) (N := some 14) (v := ?_) (a' := ?_) #[true, true, false, false, false, true, false, false, true, false, false, false, false] rfl rfl (take_ofW HT_.out HW_.out (by kernel_rfl)) (fun _ _ _ h => h) (Or.inl ⟨by rfl, ?_⟩) hHeld ?_ ?_
             rotate_left
             ·rintro w' ⟨s0, s1⟩
              go_simp
              with_reducible rfl
             rotate_left
             ·simp only [Act.put, List.setIfInBounds_toArray, List.set_cons_zero, List.set_cons_succ, i64_w, i32_w]
              rfl
             refine take_ (i := 9) (N := some 22) (v := ?_) (a' := ?_) #[true, true, false, false, false, true, false, false, true, true, false, false, false] rfl rfl (take_ofW HT_.out HW_.out (by kernel_rfl)) (fun _ _ _ h => h) (Or.inl ⟨by rfl, ?_⟩) hHeld ?_ ?_
             rotate_left
             ·rintro w' ⟨s0, s1⟩
              go_simp
              with_reducible rfl
             rotate_left
             ·simp only [Act.put, List.setIfInBounds_toArray, List.set_cons_zero, List.set_cons_succ, i64_w, i32_w]
              rfl
             refine one_ (i := 2) (N := some 15) #[true, true, true, false, false, true, false, false, true, true, false, false, false] rfl rfl (one_of HT_.out (by kernel_rfl)) (by decide) (fun K hK => ?_)
             refine goes_ Try.func26 (by kernel_rfl) rfl #[.int .i64 a0_0, .int .i64 2] (by rfl) rfl rfl (by (try simp only [List.map_toArray, List.map_cons, List.map_nil]); first | done | rfl | (simp only [List.length_drop, List.length_take]; rfl)) ?_
             with_reducible refine (descantref1_Low.calls k a0_0 2 t185 _ A3.out).mono ?_
             rintro e w23 ⟨rfl, hb⟩
             refine ⟨_, rfl, ?_⟩
             have n0_ := Aside0.mk (blk_below (g := gb184) (o := .cells #[.int .i64 a0_0, .int .i64 a0_1] 37 (0, 0)) (by (with_reducible repeat (first | refine blk_drewN ?_ _ | refine blk_drew ?_ | refine blk_alloc ?_ _)); exact BK184.out) hb)
             have n1_ := Aside0.mk (below_step (by repeat (first | (with_reducible first | exact HB.out | apply below_alloc | apply pw_below_drewN | apply below_drew1 | refine below_set ?_ GE184.out) | exact HB.out)) hb)
             clear BK184
             clear HB
             have BK184 := n0_
             have HB := n1_
             clear n0_ n1_
             (try clear hb)
             (try clear hb2)
             (try clear hk)
             (try clear hi)
             refine hK.out _ _ ⟨(blk_cell BK184.out 0).trans rfl, (blk_cell BK184.out 1).trans rfl⟩ (fun hHeld => ?_)
             clear hK K
             refine norm_ (a' := ?_) ?_ ?_
             rotate_left
             ·show Act.put _ (some 15) _ = _
              simp only [Act.put, List.setIfInBounds_toArray, List.set_cons_zero, List.set_cons_succ, i64_w, i32_w]
              rfl
             refine pure_ (i := 3) (N := some 16) (v := ?_) (a' := ?_) #[true, true, true, true, false, true, false, false, true, true, false, false, false] rfl rfl (any_of HT_.out (by kernel_rfl)) (fun _ _ _ h => h) (Or.inl ⟨by rfl, ?_⟩) ?_ ?_
             rotate_left
             ·intro w'
              go_simp
              with_reducible rfl
             rotate_left
             ·simp only [Act.put, List.setIfInBounds_toArray, List.set_cons_zero, List.set_cons_succ, i64_w, i32_w]
              rfl
             refine pure_ (i := 4) (N := some 17) (v := ?_) (a' := ?_) #[true, true, true, true, true, true, false, false, true, true, false, false, false] rfl rfl (any_of HT_.out (by kernel_rfl)) (fun _ _ _ h => h) (Or.inl ⟨by rfl, ?_⟩) ?_ ?_
             rotate_left
             ·intro w'
              go_simp
              with_reducible rfl
             rotate_left
             ·simp only [Act.put, List.setIfInBounds_toArray, List.set_cons_zero, List.set_cons_succ, i64_w, i32_w]
              rfl
             refine one_ (i := 6) (N := some 19) #[true, true, true, true, true, true, true, false, true, true, false, false, false] rfl rfl (one_of HT_.out (by kernel_rfl)) (by decide) (fun K hK => ?_)
             refine goes_ Try.func26 (by kernel_rfl) rfl #[.int .i64 (wrap64 (Int.tdiv (wrap64 (a0_0 * a0_1)) 8)), .int .i64 2] (by rfl) rfl rfl (by (try simp only [List.map_toArray, List.map_cons, List.map_nil]); first | done | rfl | (simp only [List.length_drop, List.length_take]; rfl)) ?_
             with_reducible refine (descantref1_Low.calls k (wrap64 (Int.tdiv (wrap64 (a0_0 * a0_1)) 8)) 2 t186 _ A6.out).mono ?_
             rintro e w24 ⟨rfl, hb⟩
             refine ⟨_, rfl, ?_⟩
             have n0_ := Aside0.mk (blk_below (g := gb184) (o := .cells #[.int .i64 a0_0, .int .i64 a0_1] 37 (0, 0)) (by (with_reducible repeat (first | refine blk_drewN ?_ _ | refine blk_drew ?_ | refine blk_alloc ?_ _)); exact BK184.out) hb)
             have n1_ := Aside0.mk (below_step (by repeat (first | (with_reducible first | exact HB.out | apply below_alloc | apply pw_below_drewN | apply below_drew1 | refine below_set ?_ GE184.out) | exact HB.out)) hb)
             clear BK184
             clear HB
             have BK184 := n0_
             have HB := n1_
             clear n0_ n1_
             (try clear hb)
             (try clear hb2)
             (try clear hk)
             (try clear hi)
             refine hK.out _ _ ⟨(blk_cell BK184.out 0).trans rfl, (blk_cell BK184.out 1).trans rfl⟩ (fun hHeld => ?_)
             clear hK K
             refine norm_ (a' := ?_) ?_ ?_
             rotate_left
             ·show Act.put _ (some 19) _ = _
              simp only [Act.put, List.setIfInBounds_toArray, List.set_cons_zero, List.set_cons_succ, i64_w, i32_w]
              rfl
             refine pure_ (i := 7) (N := some 20) (v := ?_) (a' := ?_) #[true, true, true, true, true, true, true, true, true, true, false, false, false] rfl rfl (any_of HT_.out (by kernel_rfl)) (fun _ _ _ h => h) (Or.inl ⟨by rfl, ?_⟩) ?_ ?_
             rotate_left
             ·intro w'
              go_simp
              with_reducible rfl
             rotate_left
             ·simp only [Act.put, List.setIfInBounds_toArray, List.set_cons_zero, List.set_cons_succ, i64_w, i32_w]
              rfl
             refine one_ (i := 10) (N := some 23) #[true, true, true, true, true, true, true, true, true, true, true, false, false] rfl rfl (one_of HT_.out (by kernel_rfl)) (by decide) (fun K hK => ?_)
             refine goes_ Try.func26 (by kernel_rfl) rfl #[.int .i64 a0_1, .int .i64 2] (by rfl) rfl rfl (by (try simp only [List.map_toArray, List.map_cons, List.map_nil]); first | done | rfl | (simp only [List.length_drop, List.length_take]; rfl)) ?_
             with_reducible refine (descantref1_Low.calls k a0_1 2 t187 _ A8.out).mono ?_
             rintro e w25 ⟨rfl, hb⟩
             refine ⟨_, rfl, ?_⟩
             have n0_ := Aside0.mk (blk_below (g := gb184) (o := .cells #[.int .i64 a0_0, .int .i64 a0_1] 37 (0, 0)) (by (with_reducible repeat (first | refine blk_drewN ?_ _ | refine blk_drew ?_ | refine blk_alloc ?_ _)); exact BK184.out) hb)
             have n1_ := Aside0.mk (below_step (by repeat (first | (with_reducible first | exact HB.out | apply below_alloc | apply pw_below_drewN | apply below_drew1 | refine below_set ?_ GE184.out) | exact HB.out)) hb)
             clear BK184
             clear HB
             have BK184 := n0_
             have HB := n1_
             clear n0_ n1_
             (try clear hb)
             (try clear hb2)
             (try clear hk)
             (try clear hi)
             refine hK.out _ _ ⟨(blk_cell BK184.out 0).trans rfl, (blk_cell BK184.out 1).trans rfl⟩ (fun hHeld => ?_)
             clear hK K
             refine norm_ (a' := ?_) ?_ ?_
             rotate_left
             ·show Act.put _ (some 23) _ = _
              simp only [Act.put, List.setIfInBounds_toArray, List.set_cons_zero, List.set_cons_succ, i64_w, i32_w]
              rfl
             refine pure_ (i := 11) (N := some 24) (v := ?_) (a' := ?_) #[true, true, true, true, true, true, true, true, true, true, true, true, false] rfl rfl (any_of HT_.out (by kernel_rfl)) (fun _ _ _ h => h) (Or.inl ⟨by rfl, ?_⟩) ?_ ?_
             rotate_left
             ·intro w'
              go_simp
              with_reducible rfl
             rotate_left
             ·simp only [Act.put, List.setIfInBounds_toArray, List.set_cons_zero, List.set_cons_succ, i64_w, i32_w]
              rfl
             refine pure_ (i := 12) (N := some 6) (v := ?_) (a' := ?_) #[true, true, true, true, true, true, true, true, true, true, true, true, true] rfl rfl (any_of HT_.out (by kernel_rfl)) (fun _ _ _ h => h) (Or.inl ⟨by rfl, ?_⟩) ?_ ?_
             rotate_left
             ·intro w'
              go_simp
              with_reducible rfl
             rotate_left
             ·simp only [Act.put, List.setIfInBounds_toArray, List.set_cons_zero, List.set_cons_succ, i64_w, i32_w]
              rfl
             refine done_ (done_of HT_.out (by kernel_rfl)) ?_
             try go_wp2_with (first | ((with_reducible refine gate_callee (f := 26) rfl ?_); refine goesL_ (some 29) rfl rfl Try.func26 (by kernel_rfl) rfl #[.int .i64 (a1.size : Int), .int .i64 4] rfl (by (try simp only [List.map_toArray, List.map_cons, List.map_nil]); first | done | rfl | (simp only [List.length_drop, List.length_take]; rfl)) ?_; (with_reducible refine (descantref1_Low.calls k (a1.size : Int) 4 t188 _ A11.out).mono ?_); rintro e w26 ⟨rfl, hb⟩; refine ⟨_, rfl, ?_⟩; have n0_ := Aside0.mk (blk_below (g := gb184) (o := .cells #[.int .i64 a0_0, .int .i64 a0_1] 37 (0, 0)) (by (with_reducible repeat (first | refine blk_drewN ?_ _ | refine blk_drew ?_ | refine blk_alloc ?_ _)); exact BK184.out) hb); have n1_ := Aside0.mk (below_step (by repeat (first | (with_reducible first | exact HB.out | apply below_alloc | apply pw_below_drewN | apply below_drew1 | refine below_set ?_ GE184.out) | exact HB.out)) hb); clear BK184; clear HB; have BK184 := n0_; have HB := n1_; clear n0_ n1_; (try clear hb); (try clear hb2); (try clear hk); (try clear hi)) | ((with_reducible refine gate_callee (f := 26) rfl ?_); refine goesL_ (some 43) rfl rfl Try.func26 (by kernel_rfl) rfl #[.int .i64 (14 + (t185.size : Int) + 8 + (t186.size : Int) + (t187.size : Int) + 4 + (t188.size : Int) + (a1.size : Int) + 1 + 12), .int .i64 4] rfl (by (try simp only [List.map_toArray, List.map_cons, List.map_nil]); first | done | rfl | (simp only [List.length_drop, List.length_take]; rfl)) ?_; (with_reducible refine (descantref1_Low.calls k (14 + (t185.size : Int) + 8 + (t186.size : Int) + (t187.size : Int) + 4 + (t188.size : Int) + (a1.size : Int) + 1 + 12) 4 t189 _ A17.out).mono ?_); rintro e w27 ⟨rfl, hb⟩; refine ⟨_, rfl, ?_⟩; have n0_ := Aside0.mk (blk_below (g := gb184) (o := .cells #[.int .i64 a0_0, .int .i64 a0_1] 37 (0, 0)) (by (with_reducible repeat (first | refine blk_drewN ?_ _ | refine blk_drew ?_ | refine blk_alloc ?_ _)); exact BK184.out) hb); have n1_ := Aside0.mk (below_step (by repeat (first | (with_reducible first | exact HB.out | apply below_alloc | apply pw_below_drewN | apply below_drew1 | refine below_set ?_ GE184.out) | exact HB.out)) hb); clear BK184; clear HB; have BK184 := n0_; have HB := n1_; clear n0_ n1_; (try clear hb); (try clear hb2); (try clear hk); (try clear hi)))
             go_ret
             exact ⟨by first | rfl | (simp [errW_none, errW_some] <;> rfl) | (simp [*, errW_none, errW_some] <;> rfl), by repeat (first | (with_reducible first | exact HB.out | apply below_alloc | apply pw_below_drewN | apply below_drew1 | refine below_set ?_ GE184.out) | exact HB.out)⟩
            ·rw [if_neg c19] at H
             exact absurd H (by simp)
           ·rw [if_neg c18] at H
            exact absurd H (by simp)
          ·rw [if_neg c16] at H
           exact absurd H (by simp)
         ·rw [if_neg c15] at H
          exact absurd H (by simp)
        ·rw [if_neg c14] at H
         have c14b0 : (((a1.size : Int) % 2) == 1) = false := beq_eq_false_iff_ne.mpr c14
         have c14b1 : (((a1.size : Int) % 2) != 1) = true := bne_iff_ne.mpr c14
         by_cases c28 : 14 + t185.size + 8 + t186.size + t187.size + 4 + t188.size + a1.size + 12 ≤ 9223372036854775807
         ·rw [if_pos c28] at H
          have c28b0 := eq_true c28
          have c28b1 : decide (14 + t185.size + 8 + t186.size + t187.size + 4 + t188.size + a1.size + 12 ≤ 9223372036854775807) = true := decide_eq_true c28
          try have c28b2 : (9223372036854775807 < 14 + t185.size + 8 + t186.size + t187.size + 4 + t188.size + a1.size + 12) = False := eq_false (Nat.not_lt.2 c28)
          replace H := Option.bind_eq_some_iff.mp H
          obtain ⟨t190, A290, H⟩ := H
          replace H : (if 4 + t190.size ≤ 9223372036854775807 then (if 4 + t190.size + (14 + t185.size + 8 + t186.size + t187.size + 4 + t188.size + a1.size + 12) ≤ 9223372036854775807 then (some (((⟨#[82, 73, 70, 70]⟩ : ByteArray) ++ t190) ++ (((((((((⟨#[87, 65, 86, 69, 102, 109, 116, 32, 16, 0, 0, 0, 1, 0]⟩ : ByteArray) ++ t185) ++ (⟨#[114, 97, 116, 101, 97, 110, 100, 98]⟩ : ByteArray)) ++ t186) ++ t187) ++ (⟨#[100, 97, 116, 97]⟩ : ByteArray)) ++ t188) ++ a1) ++ (⟨#[109, 111, 114, 101, 3, 0, 0, 0, 97, 98, 99, 100]⟩ : ByteArray)))) else (none)) else (none)) = some r := H
          have A29 := Aside0.mk A290
          clear A290
          by_cases c30 : 4 + t190.size ≤ 9223372036854775807
          ·rw [if_pos c30] at H
           have c30b0 := eq_true c30
           have c30b1 : decide (4 + t190.size ≤ 9223372036854775807) = true := decide_eq_true c30
           try have c30b2 : (9223372036854775807 < 4 + t190.size) = False := eq_false (Nat.not_lt.2 c30)
           by_cases c31 : 4 + t190.size + (14 + t185.size + 8 + t186.size + t187.size + 4 + t188.size + a1.size + 12) ≤ 9223372036854775807
           ·rw [if_pos c31] at H
            have c31b0 := eq_true c31
            have c31b1 : decide (4 + t190.size + (14 + t185.size + 8 + t186.size + t187.size + 4 + t188.size + a1.size + 12) ≤ 9223372036854775807) = true := decide_eq_true c31
            try have c31b2 : (9223372036854775807 < 4 + t190.size + (14 + t185.size + 8 + t186.size + t187.size + 4 + t188.size + a1.size + 12)) = False := eq_false (Nat.not_lt.2 c31)
            obtain rfl := Option.some.inj H
            go_enter Try.func25, Try.ntmps25
            try go_wp2_with (first | ((with_reducible refine gate_dst (N := 2) rfl ?_); refine box_event ?hg (N := 2) ?hd (cs := #[.int .i64 a0_0, .int .i64 a0_1]) (t := 37) ?hr ?_; (case hd => rfl); (case hg => rfl); (case hr => first | (go_simp; done) | (go_simp; rfl)); intro gb184 hg w32 hbox hb; have n0_ := Aside0.mk (below_step (by repeat (first | (with_reducible first | exact HB.out | apply below_alloc | apply pw_below_drewN | apply below_drew1) | exact HB.out)) hb); have n1_ := Aside0.mk (hbox); have n2_ := Aside0.mk ((by rw [hg]; exact (below_size (by repeat (first | (with_reducible first | exact HB.out | apply below_alloc | apply pw_below_drewN | apply below_drew1) | exact HB.out))) : w.heap.size ≤ gb184)); have n3_ := Aside0.mk ((by rw [hg]; exact (below_size (by repeat (first | (with_reducible first | exact HB.out | apply below_alloc | apply pw_below_drewN | apply below_drew1) | exact HB.out))) : w.heap.size ≤ gb184)); clear HB; have HB := n0_; have BK184 := n1_; have GW184 := n2_; have GE184 := n3_; clear n0_ n1_ n2_ n3_; clear hb hbox hg; have hcz33_0 : w32.cell? ⟨gb184, 0, none⟩ = some (.int .i64 a0_0) := (blk_cell BK184.out 0).trans rfl; have hcz33_1 : w32.cell? ⟨gb184, 1, none⟩ = some (.int .i64 a0_1) := (blk_cell BK184.out 1).trans rfl; have hfz33_0 := blk_frozen BK184.out 0; have hfz33_1 := blk_frozen BK184.out 1))
            have n0_ := Aside0.mk (blk_drew BK184.out)
            have n1_ := Aside0.mk (below_drew1 HB.out)
            clear BK184
            clear HB
            have BK184 := n0_
            have HB := n1_
            clear n0_ n1_
            refine start_ (n := 13) (S := fun w' => w'.cell? ⟨gb184, 0, none⟩ = some (.int .i64 a0_0) ∧ w'.cell? ⟨gb184, 1, none⟩ = some (.int .i64 a0_1)) (ds := []) #[false, false, false, false, false, false, false, false, false, false, false, false, false] (by kernel_rfl) rfl rfl ⟨(blk_cell BK184.out 0).trans rfl, (blk_cell BK184.out 1).trans rfl⟩ (fun hHeld => ?_); refine with_tabW descantlaw21_wav.tab2 descantlaw21_wav.bits2 (fun HT_ HW_ => ?_)
            generalize w32.drew = w34 at BK184 HB hHeld ⊢
            refine pure_ (i := 0) (N := some 13) (v := ?_) (a' := ?_) #[true, false, false, false, false, false, false, false, false, false, false, false, false] rfl rfl (any_of HT_.out (by kernel_rfl)) (fun _ _ _ h => h) (Or.inl ⟨by rfl, ?_⟩) ?_ ?_
            rotate_left
            ·intro w'
             go_simp
             with_reducible rfl
            rotate_left
            ·simp only [Act.put, List.setIfInBounds_toArray, List.set_cons_zero, List.set_cons_succ, i64_w, i32_w]
             rfl
            refine pure_ (i := 5) (N := some 18) (v := ?_) (a' := ?_) #[true, false, false, false, false, true, false, false, false, false, false, false, false] rfl rfl (any_of HT_.out (by kernel_rfl)) (fun _ _ _ h => h) (Or.inl ⟨by rfl, ?_⟩) ?_ ?_
            rotate_left
            ·intro w'
             go_simp
             with_reducible rfl
            rotate_left
            ·simp only [Act.put, List.setIfInBounds_toArray, List.set_cons_zero, List.set_cons_succ, i64_w, i32_w]
             rfl
            refine pure_ (i := 8) (N := some 21) (v := ?_) (a' := ?_) #[true, false, false, false, false, true, false, false, true, false, false, false, false] rfl rfl (any_of HT_.out (by kernel_rfl)) (fun _ _ _ h => h) (Or.inl ⟨by rfl, ?_⟩) ?_ ?_
            rotate_left
            ·intro w'
             go_simp
             with_reducible rfl
            rotate_left
            ·simp only [Act.put, List.setIfInBounds_toArray, List.set_cons_zero, List.set_cons_succ, i64_w, i32_w]
             rfl
            refine take_ (i := 1) (N := some 14) (v := ?_) (a' := ?_) #[true, true, false, false, false, true, false, false, true, false, false, false, false] rfl rfl (take_ofW HT_.out HW_.out (by kernel_rfl)) (fun _ _ _ h => h) (Or.inl ⟨by rfl, ?_⟩) hHeld ?_ ?_
            rotate_left
            ·rintro w' ⟨s0, s1⟩
             go_simp
             with_reducible rfl
            rotate_left
            ·simp only [Act.put, List.setIfInBounds_toArray, List.set_cons_zero, List.set_cons_succ, i64_w, i32_w]
             rfl
            refine take_ (i := 9) (N := some 22) (v := ?_) (a' := ?_) #[true, true, false, false, false, true, false, false, true, true, false, false, false] rfl rfl (take_ofW HT_.out HW_.out (by kernel_rfl)) (fun _ _ _ h => h) (Or.inl ⟨by rfl, ?_⟩) hHeld ?_ ?_
            rotate_left
            ·rintro w' ⟨s0, s1⟩
             go_simp
             with_reducible rfl
            rotate_left
            ·simp only [Act.put, List.setIfInBounds_toArray, List.set_cons_zero, List.set_cons_succ, i64_w, i32_w]
             rfl
            refine one_ (i := 2) (N := some 15) #[true, true, true, false, false, true, false, false, true, true, false, false, false] rfl rfl (one_of HT_.out (by kernel_rfl)) (by decide) (fun K hK => ?_)
            refine goes_ Try.func26 (by kernel_rfl) rfl #[.int .i64 a0_0, .int .i64 2] (by rfl) rfl rfl (by (try simp only [List.map_toArray, List.map_cons, List.map_nil]); first | done | rfl | (simp only [List.length_drop, List.length_take]; rfl)) ?_
            with_reducible refine (descantref1_Low.calls k a0_0 2 t185 _ A3.out).mono ?_
            rintro e w35 ⟨rfl, hb⟩
            refine ⟨_, rfl, ?_⟩
            have n0_ := Aside0.mk (blk_below (g := gb184) (o := .cells #[.int .i64 a0_0, .int .i64 a0_1] 37 (0, 0)) (by (with_reducible repeat (first | refine blk_drewN ?_ _ | refine blk_drew ?_ | refine blk_alloc ?_ _)); exact BK184.out) hb)
            have n1_ := Aside0.mk (below_step (by repeat (first | (with_reducible first | exact HB.out | apply below_alloc | apply pw_below_drewN | apply below_drew1 | refine below_set ?_ GE184.out) | exact HB.out)) hb)
            clear BK184
            clear HB
            have BK184 := n0_
            have HB := n1_
            clear n0_ n1_
            (try clear hb)
            (try clear hb2)
            (try clear hk)
            (try clear hi)
            refine hK.out _ _ ⟨(blk_cell BK184.out 0).trans rfl, (blk_cell BK184.out 1).trans rfl⟩ (fun hHeld => ?_)
            clear hK K
            refine norm_ (a' := ?_) ?_ ?_
            rotate_left
            ·show Act.put _ (some 15) _ = _
             simp only [Act.put, List.setIfInBounds_toArray, List.set_cons_zero, List.set_cons_succ, i64_w, i32_w]
             rfl
            refine pure_ (i := 3) (N := some 16) (v := ?_) (a' := ?_) #[true, true, true, true, false, true, false, false, true, true, false, false, false] rfl rfl (any_of HT_.out (by kernel_rfl)) (fun _ _ _ h => h) (Or.inl ⟨by rfl, ?_⟩) ?_ ?_
            rotate_left
            ·intro w'
             go_simp
             with_reducible rfl
            rotate_left
            ·simp only [Act.put, List.setIfInBounds_toArray, List.set_cons_zero, List.set_cons_succ, i64_w, i32_w]
             rfl
            refine pure_ (i := 4) (N := some 17) (v := ?_) (a' := ?_) #[true, true, true, true, true, true, false, false, true, true, false, false, false] rfl rfl (any_of HT_.out (by kernel_rfl)) (fun _ _ _ h => h) (Or.inl ⟨by rfl, ?_⟩) ?_ ?_
            rotate_left
            ·intro w'
             go_simp
             with_reducible rfl
            rotate_left
            ·simp only [Act.put, List.setIfInBounds_toArray, List.set_cons_zero, List.set_cons_succ, i64_w, i32_w]
             rfl
            refine one_ (i := 6) (N := some 19) #[true, true, true, true, true, true, true, false, true, true, false, false, false] rfl rfl (one_of HT_.out (by kernel_rfl)) (by decide) (fun K hK => ?_)
            refine goes_ Try.func26 (by kernel_rfl) rfl #[.int .i64 (wrap64 (Int.tdiv (wrap64 (a0_0 * a0_1)) 8)), .int .i64 2] (by rfl) rfl rfl (by (try simp only [List.map_toArray, List.map_cons, List.map_nil]); first | done | rfl | (simp only [List.length_drop, List.length_take]; rfl)) ?_
            with_reducible refine (descantref1_Low.calls k (wrap64 (Int.tdiv (wrap64 (a0_0 * a0_1)) 8)) 2 t186 _ A6.out).mono ?_
            rintro e w36 ⟨rfl, hb⟩
            refine ⟨_, rfl, ?_⟩
            have n0_ := Aside0.mk (blk_below (g := gb184) (o := .cells #[.int .i64 a0_0, .int .i64 a0_1] 37 (0, 0)) (by (with_reducible repeat (first | refine blk_drewN ?_ _ | refine blk_drew ?_ | refine blk_alloc ?_ _)); exact BK184.out) hb)
            have n1_ := Aside0.mk (below_step (by repeat (first | (with_reducible first | exact HB.out | apply below_alloc | apply pw_below_drewN | apply below_drew1 | refine below_set ?_ GE184.out) | exact HB.out)) hb)
            clear BK184
            clear HB
            have BK184 := n0_
            have HB := n1_
            clear n0_ n1_
            (try clear hb)
            (try clear hb2)
            (try clear hk)
            (try clear hi)
            refine hK.out _ _ ⟨(blk_cell BK184.out 0).trans rfl, (blk_cell BK184.out 1).trans rfl⟩ (fun hHeld => ?_)
            clear hK K
            refine norm_ (a' := ?_) ?_ ?_
            rotate_left
            ·show Act.put _ (some 19) _ = _
             simp only [Act.put, List.setIfInBounds_toArray, List.set_cons_zero, List.set_cons_succ, i64_w, i32_w]
             rfl
            refine pure_ (i := 7) (N := some 20) (v := ?_) (a' := ?_) #[true, true, true, true, true, true, true, true, true, true, false, false, false] rfl rfl (any_of HT_.out (by kernel_rfl)) (fun _ _ _ h => h) (Or.inl ⟨by rfl, ?_⟩) ?_ ?_
            rotate_left
            ·intro w'
             go_simp
             with_reducible rfl
            rotate_left
            ·simp only [Act.put, List.setIfInBounds_toArray, List.set_cons_zero, List.set_cons_succ, i64_w, i32_w]
             rfl
            refine one_ (i := 10) (N := some 23) #[true, true, true, true, true, true, true, true, true, true, true, false, false] rfl rfl (one_of HT_.out (by kernel_rfl)) (by decide) (fun K hK => ?_)
            refine goes_ Try.func26 (by kernel_rfl) rfl #[.int .i64 a0_1, .int .i64 2] (by rfl) rfl rfl (by (try simp only [List.map_toArray, List.map_cons, List.map_nil]); first | done | rfl | (simp only [List.length_drop, List.length_take]; rfl)) ?_
            with_reducible refine (descantref1_Low.calls k a0_1 2 t187 _ A8.out).mono ?_
            rintro e w37 ⟨rfl, hb⟩
            refine ⟨_, rfl, ?_⟩
            have n0_ := Aside0.mk (blk_below (g := gb184) (o := .cells #[.int .i64 a0_0, .int .i64 a0_1] 37 (0, 0)) (by (with_reducible repeat (first | refine blk_drewN ?_ _ | refine blk_drew ?_ | refine blk_alloc ?_ _)); exact BK184.out) hb)
            have n1_ := Aside0.mk (below_step (by repeat (first | (with_reducible first | exact HB.out | apply below_alloc | apply pw_below_drewN | apply below_drew1 | refine below_set ?_ GE184.out) | exact HB.out)) hb)
            clear BK184
            clear HB
            have BK184 := n0_
            have HB := n1_
            clear n0_ n1_
            (try clear hb)
            (try clear hb2)
            (try clear hk)
            (try clear hi)
            refine hK.out _ _ ⟨(blk_cell BK184.out 0).trans rfl, (blk_cell BK184.out 1).trans rfl⟩ (fun hHeld => ?_)
            clear hK K
            refine norm_ (a' := ?_) ?_ ?_
            rotate_left
            ·show Act.put _ (some 23) _ = _
             simp only [Act.put, List.setIfInBounds_toArray, List.set_cons_zero, List.set_cons_succ, i64_w, i32_w]
             rfl
            refine pure_ (i := 11) (N := some 24) (v := ?_) (a' := ?_) #[true, true, true, true, true, true, true, true, true, true, true, true, false] rfl rfl (any_of HT_.out (by kernel_rfl)) (fun _ _ _ h => h) (Or.inl ⟨by rfl, ?_⟩) ?_ ?_
            rotate_left
            ·intro w'
             go_simp
             with_reducible rfl
            rotate_left
            ·simp only [Act.put, List.setIfInBounds_toArray, List.set_cons_zero, List.set_cons_succ, i64_w, i32_w]
             rfl
            refine pure_ (i := 12) (N := some 6) (v := ?_) (a' := ?_) #[true, true, true, true, true, true, true, true, true, true, true, true, true] rfl rfl (any_of HT_.out (by kernel_rfl)) (fun _ _ _ h => h) (Or.inl ⟨by rfl, ?_⟩) ?_ ?_
            rotate_left
            ·intro w'
             go_simp
             with_reducible rfl
            rotate_left
            ·simp only [Act.put, List.setIfInBounds_toArray, List.set_cons_zero, List.set_cons_succ, i64_w, i32_w]
             rfl
            refine done_ (done_of HT_.out (by kernel_rfl)) ?_
            try go_wp2_with (first | ((with_reducible refine gate_callee (f := 26) rfl ?_); refine goesL_ (some 29) rfl rfl Try.func26 (by kernel_rfl) rfl #[.int .i64 (a1.size : Int), .int .i64 4] rfl (by (try simp only [List.map_toArray, List.map_cons, List.map_nil]); first | done | rfl | (simp only [List.length_drop, List.length_take]; rfl)) ?_; (with_reducible refine (descantref1_Low.calls k (a1.size : Int) 4 t188 _ A11.out).mono ?_); rintro e w38 ⟨rfl, hb⟩; refine ⟨_, rfl, ?_⟩; have n0_ := Aside0.mk (blk_below (g := gb184) (o := .cells #[.int .i64 a0_0, .int .i64 a0_1] 37 (0, 0)) (by (with_reducible repeat (first | refine blk_drewN ?_ _ | refine blk_drew ?_ | refine blk_alloc ?_ _)); exact BK184.out) hb); have n1_ := Aside0.mk (below_step (by repeat (first | (with_reducible first | exact HB.out | apply below_alloc | apply pw_below_drewN | apply below_drew1 | refine below_set ?_ GE184.out) | exact HB.out)) hb); clear BK184; clear HB; have BK184 := n0_; have HB := n1_; clear n0_ n1_; (try clear hb); (try clear hb2); (try clear hk); (try clear hi)) | ((with_reducible refine gate_callee (f := 26) rfl ?_); refine goesL_ (some 43) rfl rfl Try.func26 (by kernel_rfl) rfl #[.int .i64 (14 + (t185.size : Int) + 8 + (t186.size : Int) + (t187.size : Int) + 4 + (t188.size : Int) + (a1.size : Int) + 12), .int .i64 4] rfl (by (try simp only [List.map_toArray, List.map_cons, List.map_nil]); first | done | rfl | (simp only [List.length_drop, List.length_take]; rfl)) ?_; (with_reducible refine (descantref1_Low.calls k (14 + (t185.size : Int) + 8 + (t186.size : Int) + (t187.size : Int) + 4 + (t188.size : Int) + (a1.size : Int) + 12) 4 t190 _ A29.out).mono ?_); rintro e w39 ⟨rfl, hb⟩; refine ⟨_, rfl, ?_⟩; have n0_ := Aside0.mk (blk_below (g := gb184) (o := .cells #[.int .i64 a0_0, .int .i64 a0_1] 37 (0, 0)) (by (with_reducible repeat (first | refine blk_drewN ?_ _ | refine blk_drew ?_ | refine blk_alloc ?_ _)); exact BK184.out) hb); have n1_ := Aside0.mk (below_step (by repeat (first | (with_reducible first | exact HB.out | apply below_alloc | apply pw_below_drewN | apply below_drew1 | refine below_set ?_ GE184.out) | exact HB.out)) hb); clear BK184; clear HB; have BK184 := n0_; have HB := n1_; clear n0_ n1_; (try clear hb); (try clear hb2); (try clear hk); (try clear hi)))
            go_ret
            exact ⟨by first | rfl | (simp [errW_none, errW_some] <;> rfl) | (simp [*, errW_none, errW_some] <;> rfl), by repeat (first | (with_reducible first | exact HB.out | apply below_alloc | apply pw_below_drewN | apply below_drew1 | refine below_set ?_ GE184.out) | exact HB.out)⟩
           ·rw [if_neg c31] at H
            exact absurd H (by simp)
          ·rw [if_neg c30] at H
           exact absurd H (by simp)
         ·rw [if_neg c28] at H
          exact absurd H (by simp)
       ·rw [if_neg c13] at H
        exact absurd H (by simp)
      ·rw [if_neg c12] at H
       exact absurd H (by simp)
     ·rw [if_neg c10] at H
      exact absurd H (by simp)
    ·rw [if_neg c9] at H
     exact absurd H (by simp)
   ·rw [if_neg c7] at H
    exact absurd H (by simp)
  ·rw [if_neg c5] at H
   exact absurd H (by simp)
 ·rw [if_neg c4] at H
  exact absurd H (by simp)

end Go.Proofs.Ytkngkmemcokbfaa.PWv
