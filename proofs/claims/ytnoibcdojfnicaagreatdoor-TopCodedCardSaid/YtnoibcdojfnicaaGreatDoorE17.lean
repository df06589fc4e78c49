/- A part of the proof of a law of descanttop: this session's own texts and printed texts, shortened and joined. -/
import Derived.Test.YtnoibcdojfnicaaGreatDoorE3
import Derived.Lib.Hide
import Derived.WalkSpells
import Derived.Outline
set_option linter.unusedVariables false
set_option linter.unusedSimpArgs false
set_option maxRecDepth 100000
set_option maxHeartbeats 16000000
namespace Go.Proofs.YtnoibcdojfnicaaGreatDoor.PB
open Go.Proofs.YtnoibcdojfnicaaGreatDoorW.Short
open Bool renaming true → Y, false → J
open Go.RowKit Go.Proofs.YtnoibcdojfnicaaGreatDoorW.PrintWords Go.Proofs.YtnoibcdojfnicaaGreatDoorW.PrintLast Go.Proofs.YtnoibcdojfnicaaGreatDoorW.PrintMore
attribute [local go_sem] max2_int min2_int max_two min_two max_three min_three max_four min_four
def errW : Option Int → Value
  | none => .nilIface
  | some c => .iface 0 (.int .i64 c)
theorem errW_none : errW none = .nilIface := rfl
theorem errW_some (c : Int) : errW (some c) = .iface 0 (.int .i64 c) := rfl
theorem info5 : (Tryz.prog.info? 5).map (fun i => (i.zero, i.size, i.bytes)) = some (some (.int .u8 0), 1, 1) := by kernel_rfl
end Go.Proofs.YtnoibcdojfnicaaGreatDoor.PB
namespace Go.Proofs.YtnoibcdojfnicaaGreatDoor.PB
open Go.Proofs.YtnoibcdojfnicaaGreatDoorW.Short
open Bool renaming true → Y, false → J
open Go.RowKit Go.Proofs.YtnoibcdojfnicaaGreatDoorW.PrintWords Go.Proofs.YtnoibcdojfnicaaGreatDoorW.PrintLast Go.Proofs.YtnoibcdojfnicaaGreatDoorW.PrintMore
attribute [local go_sem] max2_int min2_int max_two min_two max_three min_three max_four min_four
def gamma_Ones.l0 : Nat → List Int → List Int → Int → Int → Option (Int × Bool)
 | 0, _, _, _, _ => none
 | k + 1, x0, x6, x7, x8 => if x8 < x7 then (if 0 ≤ x8 then (if x8 < (x6.length : Int) then (if (rd x6 x8) = 1 then (gamma_Ones.l0 k x0 x6 x7 (wrap64 (x8 + 1))) else (some (x8, ((rd x6 x8) == 0)))) else (none)) else (none)) else (some ((x0.length : Int), false))
def gamma_Ones.f (k : Nat) (l0 : List Int) : Option (Int × Bool) := gamma_Ones.l0 k l0 l0 (l0.length : Int) 0
theorem gamma_Ones.calls (k : Nat) (A0 : Option Addr) (c0 : Nat) (l0 : List Int) (r1 : Int) (r2 : Bool) (w : World) (hr0 : Kd.C (Kd.int .i64) w A0 l0.length l0) (hc0 : l0.length ≤ c0) (h : gamma_Ones.f k l0 = some (r1, r2)) :
  Calls Tryz.prog 65 #[.slice A0 l0.length c0] w fun e w' => e = .returned (.tuple #[.int .i64 r1, .bool r2]) ∧ Drawn0 w w' := by
 have HR0 := Aside0.mk hr0
 have HC0 := Aside0.mk hc0
 clear hr0 hc0
 have H : (gamma_Ones.l0 k l0 l0 (l0.length : Int) 0) = some (r1, r2) := h
 clear h
 have H' := Aside0.mk H
 clear H
 go_enter Tryz.func65, Tryz.ntmps65
 go_wp2
 go_loopg [8] k (fun kq v8 w' => ∃ (x8_1 : Int), v8 = .int .i64 x8_1 ∧ Aside0 (gamma_Ones.l0 kq l0 l0 (l0.length : Int) x8_1 = some (r1, r2)) ∧ Aside0 (kq ≤ k) ∧ Drawn0 w w')
 case atStart => exact ⟨(0), b75_, H', ⟨Nat.le_refl _⟩, b69_⟩
 case round =>
  clear H'
  obtain ⟨x8_1, rfl, HA, HK1, ⟨m1, rfl⟩⟩ := hrel
  cases gk with
  | zero => exact absurd HA.out (by simp [gamma_Ones.l0])
  | succ k1 =>
   have H := HA.out
   clear HA
   simp only [gamma_Ones.l0] at H
   by_cases c2 : x8_1 < (l0.length : Int)
   ·rw [if_pos c2] at H
    have c2b0 : decide (x8_1 < (l0.length : Int)) = true := decide_eq_true c2
    clear c2
    by_cases c3 : 0 ≤ x8_1
    ·rw [if_pos c3] at H
     have c3b0 : decide (0 ≤ x8_1) = true := decide_eq_true c3
     clear c3
     by_cases c4 : x8_1 < (l0.length : Int)
     ·rw [if_pos c4] at H
      have c4b0 : decide (x8_1 < (l0.length : Int)) = true := decide_eq_true c4
      clear c4
      by_cases c5 : (rd l0 x8_1) = 1
      ·rw [if_pos c5] at H
       have c5b0 : ((rd l0 x8_1) == 1) = true := beq_iff_eq.mpr c5
       have c5b1 : ((rd l0 x8_1) != 1) = false := bne_eq_false_iff_eq.mpr c5
       clear c5
       have H' := Aside0.mk H
       clear H
       have p133 : 0 ≤ (x8_1 : Int) := of_decide_eq_true b73_
       have q133 : x8_1 < (l0.length : Int) := of_decide_eq_true b73_
       obtain ⟨ad133, e133, hx133_0⟩ := Kd.at_int HR0.out x8_1 p133 q133
       cases e133
       replace p133 := eq_true p133
       replace q133 := eq_true q133
       go_wp2
       go_roundg k1
       case measure => have := HK1.out; omega
       case rel => exact ⟨(wrap64 (x8_1 + 1)), b75_, H', ⟨b83_⟩, b69_⟩
      ·rw [if_neg c5] at H
       have c5b0 : ((rd l0 x8_1) == 1) = false := beq_eq_false_iff_ne.mpr c5
       have c5b1 : ((rd l0 x8_1) != 1) = true := bne_iff_ne.mpr c5
       simp only [Option.some.injEq, Prod.mk.injEq] at H
       obtain ⟨rfl, rfl⟩ := H
       have p133 : 0 ≤ (x8_1 : Int) := of_decide_eq_true b73_
       have q133 : x8_1 < (l0.length : Int) := of_decide_eq_true b73_
       obtain ⟨ad133, e133, hx133_0⟩ := Kd.at_int HR0.out x8_1 p133 q133
       cases e133
       replace p133 := eq_true p133
       replace q133 := eq_true q133
       go_wp2
       go_ret2
       exact ⟨b76_, b69_⟩
     ·rw [if_neg c4] at H
      exact absurd H (by simp)
    ·rw [if_neg c3] at H
     exact absurd H (by simp)
   ·rw [if_neg c2] at H
    have c2b0 : decide (x8_1 < (l0.length : Int)) = false := decide_eq_false c2
    clear c2
    simp only [Option.some.injEq, Prod.mk.injEq] at H
    obtain ⟨rfl, rfl⟩ := H
    go_wp2
    go_ret2
    exact ⟨b76_, b69_⟩
def fold_Number.f (a0 : Int) : Option (Bool) := if a0 ≥ (-16777216) then (some (decide (a0 ≤ 16777216))) else (some false)
theorem fold_Number.calls (a0 : Int) (r : Bool) (w : World) (h : fold_Number.f a0 = some r) :
  Calls Tryz.prog 60 #[.int .i64 a0] w fun e w' => e = .returned (.bool r) ∧ Drawn0 w w' := by
 have H : (if a0 ≥ (-16777216) then (some (decide (a0 ≤ 16777216))) else (some false)) = some r := h
 clear h
 by_cases c2 : a0 ≥ (-16777216)
 ·rw [if_pos c2] at H
  have c2b0 : decide ((-16777216) ≤ a0) = true := decide_eq_true c2
  clear c2
  obtain rfl := Option.some.inj H
  go_enter Tryz.func60, Tryz.ntmps60
  go_wp2
  go_ret
  exact ⟨b76_, b69_⟩
 ·rw [if_neg c2] at H
  have c2b0 : decide ((-16777216) ≤ a0) = false := decide_eq_false c2
  clear c2
  obtain rfl := Option.some.inj H
  go_enter Tryz.func60, Tryz.ntmps60
  go_wp2
  go_ret
  exact ⟨b76_, b69_⟩
def fold_Put.f (a0 : Int) : Option (Int × Int) := (fold_Number.f a0).bind fun t143 => (if t143 = true then (if a0 < 0 then (some (wrap64 ((wrap64 ((-2) * a0)) - 1), 0)) else (some (wrap64 (2 * a0), 0))) else (some (0, 1000)))
theorem fold_Put.calls (a0 : Int) (r1 : Int) (r2 : Int) (w : World) (h : fold_Put.f a0 = some (r1, r2)) :
  Calls Tryz.prog 20 #[.int .i64 a0] w fun e w' => e = .returned (.tuple #[.int .i64 r1, .int .i64 r2]) ∧ Drawn0 w w' := by
 have H : ((fold_Number.f a0).bind fun t143 => (if t143 = true then (if a0 < 0 then (some (wrap64 ((wrap64 ((-2) * a0)) - 1), 0)) else (some (wrap64 (2 * a0), 0))) else (some (0, 1000)))) = some (r1, r2) := h
 clear h
 replace H := Option.bind_eq_some_iff.mp H
 obtain ⟨t143, A20, H⟩ := H
 replace H : (if t143 = true then (if a0 < 0 then (some (wrap64 ((wrap64 ((-2) * a0)) - 1), 0)) else (some (wrap64 (2 * a0), 0))) else (some (0, 1000))) = some (r1, r2) := H
 have A2 := Aside0.mk A20
 clear A20
 by_cases c3 : t143 = true
 ·subst c3
  have H1 : (if a0 < 0 then (some (wrap64 ((wrap64 ((-2) * a0)) - 1), 0)) else (some (wrap64 (2 * a0), 0))) = some (r1, r2) := by rw [if_pos rfl] at H; exact H
  clear H
  have H := H1
  clear H1
  by_cases c4 : a0 < 0
  ·rw [if_pos c4] at H
   have c4b0 : decide (a0 < 0) = true := decide_eq_true c4
   clear c4
   simp only [Option.some.injEq, Prod.mk.injEq] at H
   obtain ⟨rfl, rfl⟩ := H
   go_enter Tryz.func20, Tryz.ntmps20
   go_wp2_with (first | ((with_reducible refine gate_callee (f := 60) rfl ?_); refine goesL_ (some 6) rfl rfl Tryz.func60 kr rfl #[.int .i64 a0] rfl b24_ ?_; (with_reducible refine (fold_Number.calls a0 true _ A2.out).mono ?_); rintro e w' ⟨rfl, ⟨nd, rfl⟩⟩; refine ⟨_, rfl, ?_⟩))
   go_ret2
   exact ⟨b76_, b69_⟩
  ·rw [if_neg c4] at H
   have c4b0 : decide (a0 < 0) = false := decide_eq_false c4
   clear c4
   simp only [Option.some.injEq, Prod.mk.injEq] at H
   obtain ⟨rfl, rfl⟩ := H
   go_enter Tryz.func20, Tryz.ntmps20
   go_wp2_with (first | ((with_reducible refine gate_callee (f := 60) rfl ?_); refine goesL_ (some 6) rfl rfl Tryz.func60 kr rfl #[.int .i64 a0] rfl b24_ ?_; (with_reducible refine (fold_Number.calls a0 true _ A2.out).mono ?_); rintro e w' ⟨rfl, ⟨nd, rfl⟩⟩; refine ⟨_, rfl, ?_⟩))
   go_ret2
   exact ⟨b76_, b69_⟩
 ·replace c3 := Bool.eq_false_iff.mpr c3
  subst c3
  have H1 : (some (0, 1000)) = some (r1, r2) := by rw [if_neg (show ¬ (false = true) by decide)] at H; exact H
  clear H
  have H := H1
  clear H1
  simp only [Option.some.injEq, Prod.mk.injEq] at H
  obtain ⟨rfl, rfl⟩ := H
  go_enter Tryz.func20, Tryz.ntmps20
  go_wp2_with (first | ((with_reducible refine gate_callee (f := 60) rfl ?_); refine goesL_ (some 6) rfl rfl Tryz.func60 kr rfl #[.int .i64 a0] rfl b24_ ?_; (with_reducible refine (fold_Number.calls a0 false _ A2.out).mono ?_); rintro e w' ⟨rfl, ⟨nd, rfl⟩⟩; refine ⟨_, rfl, ?_⟩))
  go_ret2
  exact ⟨b76_, b69_⟩
end Go.Proofs.YtnoibcdojfnicaaGreatDoor.PB
namespace Go.Proofs.YtnoibcdojfnicaaGreatDoor.PB
open Go.Proofs.YtnoibcdojfnicaaGreatDoorW.Short
open Bool renaming true → Y, false → J
open Go Go.RowKit Go.Proofs.YtnoibcdojfnicaaGreatDoorW.PrintWords Go.Proofs.YtnoibcdojfnicaaGreatDoorW.PrintMore Go.Proofs.YtnoibcdojfnicaaGreatDoorW.PrintLast
def isBit (x : Int) : Bool := decide (x = 0 ∨ x = 1)
def allB (bs : List Int) : Bool := bs.all isBit
def ones : List Int → Nat
 | [] => 0
 | b :: bs => if b = 1 then ones bs + 1 else 0
def lastOne (bs : List Int) : Bool := decide (0 < bs.length ∧ rd bs ((bs.length : Int) - 1) = 1)
def mnI (x y : Int) : Int := if y < x then y else x
def ctxOk (before : Int) (bs : List Int) : Bool := decide (0 ≤ before ∧ before ≤ 63 ∧ bs.length ≤ 63) && allB bs
def ctxF (before : Int) (bs : List Int) : Int × Int × Int × Int :=
 if ctxOk before bs = true then
  (min (ones bs : Int) 31 + (if ones bs < bs.length then 32 else 0), 2 * min before 31 + (if ones bs < bs.length then 1 else 0), min (bs.length : Int) 31 + (if lastOne bs = true then 32 else 0), 0)
 else (0, 0, 0, 1200)
theorem odd_c (x : Int) (w : World) : Calls Tryz.prog 63 #[.int .i64 x] w fun e w' => e = .returned (.bool (!isBit x)) ∧ w' = w := by
 by_cases c : x = 0
 ·subst c
  go_enter Tryz.func63, Tryz.ntmps63
  go_wp2
  go_ret
  exact ⟨rfl, rfl⟩
 ·have c1 : (x != 0) = true := by simpa using c
  have c2 : (!isBit x) = (x != 1) := by simp [isBit, c]; rw [bne]; by_cases h : x = 1 <;> simp [h]
  rw [c2]
  clear c2
  go_enter Tryz.func63, Tryz.ntmps63
  go_wp2
  go_ret
  exact ⟨rfl, rfl⟩
theorem elem_c {w : World} {A : Option Addr} {xs : List Int} (h : (Kd.int .i64).C w A xs.length xs) {k : Nat} (hk : k < xs.length) : ∃ ad, A = some ad ∧ w.cell? (ad.add k) = some (.int .i64 (xs.getD k 0)) := by
 obtain ⟨ad, e, hx⟩ := Kd.at_int h (k : Int) (by omega) (by omega)
 rw [Int.toNat_natCast] at hx
 refine ⟨ad, e, ?_⟩
 rw [hx]
 simp [rd]
theorem all_no {xs : List Int} {k : Nat} (hk : k < xs.length) (h : isBit (xs.getD k 0) = false) : allB xs = false := by
 unfold allB
 rw [List.all_eq_false]
 exact ⟨xs[k], List.getElem_mem hk, b62_⟩
theorem all_yes {xs : List Int} (h : ∀ j, j < xs.length → isBit (xs.getD j 0) = true) : allB xs = true := by
 unfold allB
 rw [List.all_eq_true]
 intro x hx
 obtain ⟨j, hj, rfl⟩ := List.getElem_of_mem hx
 have := h j hj
 rw [List.getD_eq_getElem?_getD, List.getElem?_eq_getElem hj] at this
 exact this
theorem index_c (A : Option Addr) (c0 : Nat) (xs : List Int) (W : World) (hb : xs.length ≤ 17592186044416) (hr : (Kd.int .i64).C W A xs.length xs) : Calls Tryz.prog 120 #[.slice A xs.length c0, .func (Fn.func 63) #[] #[]] W fun e w' => ∃ i : Int, e = .returned (.int .i64 i) ∧ w' = W ∧ decide (i ≥ 0) = !allB xs := by
 have Hr := Lib.hid hr
 clear hr
 go_enter Tryz.func120, Tryz.ntmps120
 go_wp2_with fail
 go_loop [8] (fun i => ∃ k : Nat, k ≤ xs.length ∧ i = .int .i64 k ∧ ∀ j, j < k → isBit (xs.getD j 0) = true) (fun i => xs.length - (intOf i).toNat)
 case atStart => exact ⟨0, by omega, rfl, fun j hj => by omega⟩
 case round =>
  obtain ⟨k, hk, rfl, hok⟩ := hrel
  have Hok := Lib.hid hok; clear hok
  by_cases hlt : k < xs.length
  ·obtain ⟨ad, rfl, hx⟩ := elem_c Hr.out hlt
   obtain ⟨x, hxe⟩ : ∃ x, x = xs.getD k 0 := ⟨_, rfl⟩
   rw [← hxe] at hx
   have Hx := Lib.hid hxe
   clear hxe
   cases hin : isBit x
   ·have hno := Lib.hid (all_no hlt b80_)
    go_wp2_with (go_at_call 63; refine (odd_c _ _).mono ?_; rintro e w' ⟨rfl, rfl⟩; rw [hin])
    go_ret
    exact ⟨(k : Int), rfl, rfl, b77_⟩
   ·go_wp2_with (go_at_call 63; refine (odd_c _ _).mono ?_; rintro e w' ⟨rfl, rfl⟩; rw [hin])
    go_round
    case rel =>
     refine ⟨k + 1, by omega, by go_num, fun j hj => ?_⟩
     by_cases hjk : j = k
     ·rw [hjk, ← Hx.out]; exact hin
     ·exact Hok.out j (by omega)
    case measure => simp [intOf]; omega
  ·have hyes := Lib.hid (all_yes (fun j hj => Hok.out j (by omega)))
   go_wp2_with fail
   go_ret
   exact ⟨-1, rfl, rfl, by rw [hyes.out]; rfl⟩
theorem contains_c (A : Option Addr) (c0 : Nat) (xs : List Int) (W : World) (hb : xs.length ≤ 17592186044416) (hr : (Kd.int .i64).C W A xs.length xs) : Calls Tryz.prog 64 #[.slice A xs.length c0, .func (Fn.func 63) #[] #[]] W fun e w' => e = .returned (.bool (!allB xs)) ∧ w' = W := by
 go_enter Tryz.func64, Tryz.ntmps64
 go_wp2_with fail
 refine (index_c A c0 xs W hb hr).mono ?_
 rintro e w' ⟨i, rfl, hw, hi⟩
 have hw := hw.symm
 subst hw
 go_wp2_with fail
 go_ret
 exact ⟨rfl, rfl⟩
theorem ones_le : ∀ bs : List Int, ones bs ≤ bs.length
 | [] => Nat.le_refl _
 | b :: bs => by
  unfold ones
  have := ones_le bs
  split <;> simp <;> omega
theorem ones_drop (bs : List Int) (j : Nat) (hj : j < bs.length) : ones (bs.drop j) = if rd bs (j : Int) = 1 then ones (bs.drop (j + 1)) + 1 else 0 := by
 have e1 : rd bs (j : Int) = bs[j] := by simp [rd, hj]
 rw [e1, List.drop_eq_getElem_cons hj]
 conv => lhs; unfold ones
theorem gamma_loop (bs : List Int) (hb : bs.length ≤ 1000000) (k : Nat) (d : Nat) : ∀ j : Nat, j + d = bs.length → gamma_Ones.l0 (k + d + 1) bs bs bs.length j = some (if j + ones (bs.drop j) < bs.length then (((j + ones (bs.drop j) : Nat) : Int), (rd bs ((j + ones (bs.drop j) : Nat) : Int) == 0)) else ((bs.length : Int), false)) := by
 induction d with
 | zero =>
  intro j hj
  simp only [gamma_Ones.l0]
  rw [if_neg (by omega), if_neg (by omega)]
 | succ d ih =>
  intro j hj
  obtain ⟨m, hm⟩ : ∃ m, m = k + d + 1 := ⟨_, rfl⟩
  rw [show k + (d + 1) + 1 = m + 1 by omega]
  simp only [gamma_Ones.l0]
  rw [if_pos (by omega), if_pos (by omega), if_pos (by omega), ones_drop bs j (by omega)]
  by_cases h : rd bs (j : Int) = 1
  ·have := ih (j + 1) (by omega)
   rw [show ((j + 1 : Nat) : Int) = (j : Int) + 1 by omega, ← hm] at this
   rw [if_pos h, if_pos h, Num.w64 (by omega) (by omega), this, show j + (ones (bs.drop (j + 1)) + 1) = j + 1 + ones (bs.drop (j + 1)) by omega]
  ·rw [if_neg h, if_neg h, if_pos (by omega)]; rfl
theorem gamma_is (bs : List Int) (hb : bs.length ≤ 1000000) : gamma_Ones.f (bs.length + 1) bs = some (if ones bs < bs.length then ((ones bs : Int), (rd bs (ones bs : Int) == 0)) else ((bs.length : Int), false)) := by
 unfold gamma_Ones.f
 have := gamma_loop bs hb 0 bs.length 0 (by omega)
 rw [Nat.zero_add, Nat.zero_add, List.drop_zero] at this
 exact this
theorem rd_bit {bs : List Int} (h : allB bs = true) {j : Nat} (hj : j < bs.length) : rd bs (j : Int) = 0 ∨ rd bs (j : Int) = 1 := by
 have e1 : rd bs (j : Int) = bs[j] := by simp [rd, hj]
 rw [e1]
 exact of_decide_eq_true (List.all_eq_true.1 h _ (List.getElem_mem hj))
theorem ones_at : ∀ {bs : List Int}, ones bs < bs.length → rd bs (ones bs : Int) ≠ 1
 | [], h => by simp at h
 | b :: bs, h => by
  unfold ones at h ⊢
  by_cases hb : b = 1
  ·rw [if_pos hb] at h ⊢
   have := ones_at (bs := bs) (by simpa using h)
   unfold rd at this ⊢
   simpa using this
  ·rw [if_neg hb]
   simpa [rd] using hb
theorem gamma_bits (bs : List Int) (hb : bs.length ≤ 1000000) (h : allB bs = true) : gamma_Ones.f (bs.length + 1) bs = some ((ones bs : Int), decide (ones bs < bs.length)) := by
 rw [gamma_is bs hb]
 by_cases c : ones bs < bs.length
 ·have h1 := ones_at c
  rcases rd_bit h c with h2 | h2
  ·rw [if_pos c, h2, decide_eq_true c]; rfl
  ·exact absurd h2 h1
 ·have := ones_le bs
  rw [if_neg c, decide_eq_false c, show bs.length = ones bs by omega]
theorem min2_I (k k' : IntKind) (x y : Int) : Builtin.min2 (.int k x) (.int k' y) = pure (.int k (mnI x y)) := by simp only [Builtin.min2, mnI]
attribute [local go_sem high] min2_I
attribute [local go_sem] min_two
theorem least_c (x : Int) (w : World) : Calls Tryz.prog 66 #[.int .i64 x] w fun e w' => e = .returned (.int .i64 (mnI x 31)) ∧ w' = w := by
 go_enter Tryz.func66, Tryz.ntmps66
 go_wp2
 go_ret
 exact ⟨rfl, rfl⟩
theorem mnI_min (x y : Int) : mnI x y = min x y := by unfold mnI; omega
theorem last_at {bs : List Int} (h : 0 < bs.length) {w : World} {A : Option Addr} (hr : (Kd.int .i64).C w A bs.length bs) : ∃ ad, A = some ad ∧ w.cell? (ad.add (bs.length - 1)) = some (.int .i64 (rd bs ((bs.length : Int) - 1))) := by
 obtain ⟨ad, e, hx⟩ := Kd.at_int hr ((bs.length : Int) - 1) (by omega) (by omega)
 rw [show ((bs.length : Int) - 1).toNat = bs.length - 1 by omega] at hx
 exact ⟨ad, e, hx⟩
theorem of_bad (before : Int) (A : Option Addr) (c0 : Nat) (bs : List Int) (W : World) (hb : bs.length ≤ 17592186044416) (hr : (Kd.int .i64).C W A bs.length bs) (hbad : ctxOk before bs = false) :
  Calls Tryz.prog 22 #[.int .i64 before, .slice A bs.length c0] W fun e w' => e = .returned (.tuple #[.agg #[.int .i64 0, .int .i64 0, .int .i64 0], .int .i64 1200]) ∧ Below W.heap.size W w' := by
 have Hr := Lib.hid hr
 clear hr
 by_cases h1 : before < 0
 ·clear hbad
  go_enter Tryz.func22, Tryz.ntmps22
  go_wp2_with fail
  exact bodyPost_ret (v := .tuple #[.agg #[.int .i64 0, .int .i64 0, .int .i64 0], .int .i64 1200]) b78_ rfl ⟨rfl, (Below.refl _ _).alloc (Nat.le_refl _) _⟩
 ·have h0 : 0 ≤ before := by omega
  by_cases h2 : 63 < before
  ·clear hbad h1
   go_enter Tryz.func22, Tryz.ntmps22
   go_wp2_with fail
   exact bodyPost_ret (v := .tuple #[.agg #[.int .i64 0, .int .i64 0, .int .i64 0], .int .i64 1200]) b78_ rfl ⟨rfl, (Below.refl _ _).alloc (Nat.le_refl _) _⟩
  ·have h3 : before ≤ 63 := by omega
   by_cases h4 : 63 < bs.length
   ·have h5 : decide ((63 : Int) < (bs.length : Int)) = true := decide_eq_true (by omega)
    clear hbad h1 h2
    go_enter Tryz.func22, Tryz.ntmps22
    go_wp2_with fail
    exact bodyPost_ret (v := .tuple #[.agg #[.int .i64 0, .int .i64 0, .int .i64 0], .int .i64 1200]) b78_ rfl ⟨rfl, (Below.refl _ _).alloc (Nat.le_refl _) _⟩
   ·have h5 : decide ((63 : Int) < (bs.length : Int)) = false := decide_eq_false (by omega)
    have h6 : allB bs = false := by
     unfold ctxOk at hbad
     rw [decide_eq_true (by omega), Bool.true_and] at hbad
     exact hbad
    have H6 := Lib.hid h6
    clear hbad h1 h2 h6
    go_enter Tryz.func22, Tryz.ntmps22
    go_wp2_with (go_at_call 64; refine (contains_c _ _ bs _ hb (Kd.C_below Hr.out ((Below.refl _ _).alloc (Nat.le_refl _) _))).mono ?_; rintro e w' ⟨rfl, hw⟩; have hw := hw.symm; subst hw; rw [H6.out])
    exact bodyPost_ret (v := .tuple #[.agg #[.int .i64 0, .int .i64 0, .int .i64 0], .int .i64 1200]) b78_ rfl ⟨rfl, (Below.refl _ _).alloc (Nat.le_refl _) _⟩
theorem of_good (before : Int) (A : Option Addr) (c0 : Nat) (bs : List Int) (W : World) (hr : (Kd.int .i64).C W A bs.length bs) (hc : bs.length ≤ c0) (hok : ctxOk before bs = true) :
  Calls Tryz.prog 22 #[.int .i64 before, .slice A bs.length c0] W fun e w' => e = .returned (.tuple #[.agg #[.int .i64 (ctxF before bs).1, .int .i64 (ctxF before bs).2.1, .int .i64 (ctxF before bs).2.2.1], .int .i64 0]) ∧ Below W.heap.size W w' := by
 have Hr := Lib.hid hr
 have Hr1 := Lib.hid (Kd.C_below hr (below_alloc (Below.refl _ _) (.cells #[.int .i64 0, .int .i64 0, .int .i64 0] 26)))
 unfold ctxOk at hok
 rw [Bool.and_eq_true, decide_eq_true_iff] at hok
 obtain ⟨⟨h0, h3, h4⟩, h6⟩ := hok
 have G := Lib.hid (gamma_bits bs (by omega) h6)
 have h5 : decide ((63 : Int) < (bs.length : Int)) = false := decide_eq_false (by omega)
 have ol := ones_le bs
 obtain ⟨x, hx⟩ : ∃ x, x = mnI (ones bs : Int) 31 := ⟨_, rfl⟩
 obtain ⟨y, hy⟩ : ∃ y, y = mnI before 31 := ⟨_, rfl⟩
 obtain ⟨z, hz⟩ : ∃ z, z = mnI (bs.length : Int) 31 := ⟨_, rfl⟩
 have x0 : 0 ≤ x := by rw [hx, mnI_min]; omega
 have x1 : x ≤ 31 := by rw [hx, mnI_min]; omega
 have y0 : 0 ≤ y := by rw [hy, mnI_min]; omega
 have y1 : y ≤ 31 := by rw [hy, mnI_min]; omega
 have z0 : 0 ≤ z := by rw [hz, mnI_min]; omega
 have z1 : z ≤ 31 := by rw [hz, mnI_min]; omega
 have F1 : Hid ((ctxF before bs).1 = x + (if ones bs < bs.length then 32 else 0)) := Lib.hid (by unfold ctxF ctxOk; rw [if_pos (by rw [decide_eq_true (by omega), h6]; rfl), hx, mnI_min])
 have F2 : Hid ((ctxF before bs).2.1 = 2 * y + (if ones bs < bs.length then 1 else 0)) := Lib.hid (by unfold ctxF ctxOk; rw [if_pos (by rw [decide_eq_true (by omega), h6]; rfl), hy, mnI_min])
 have F3 : Hid ((ctxF before bs).2.2.1 = z + (if lastOne bs = true then 32 else 0)) := Lib.hid (by unfold ctxF ctxOk; rw [if_pos (by rw [decide_eq_true (by omega), h6]; rfl), hz, mnI_min])
 have HX := Lib.hid hx
 have HY := Lib.hid hy
 have HZ := Lib.hid hz
 have H6 := Lib.hid h6
 clear hx hy hz h6 ol
 rw [F1.out, F2.out, F3.out]
 by_cases hl : 0 < bs.length
 ·obtain ⟨ad, rfl, lc⟩ := last_at hl hr
  obtain ⟨q, hq⟩ : ∃ q, q = rd bs ((bs.length : Int) - 1) := ⟨_, rfl⟩
  rw [← hq] at lc
  have HL : Hid (lastOne bs = decide (q = 1)) := Lib.hid (by unfold lastOne; rw [← hq, decide_eq_decide]; omega)
  rw [HL.out]
  clear hq hr
  by_cases c : ones bs < bs.length
  ·rw [if_pos c, if_pos c]
   have C := Lib.hid c
   clear c
   by_cases q1 : q = 1
   ·subst q1
    rw [if_pos (by decide)]
    go_enter Tryz.func22, Tryz.ntmps22
    go_wp2_with (go_at_call 64; refine (contains_c _ _ bs _ (by omega) Hr1.out).mono ?_; rintro e w' ⟨rfl, hw⟩; have hw := hw.symm; subst hw; rw [H6.out])
    refine (gamma_Ones.calls _ _ _ bs _ _ _ Hr1.out hc G.out).mono ?_
    rintro e w1 ⟨rfl, n, rfl⟩
    rw [decide_eq_true C.out]
    have lc2 : ∀ o : Obj, (((W.alloc (.cells #[.int .i64 0, .int .i64 0, .int .i64 0] 26)).drewN n).alloc o).cell? (ad.add (bs.length - 1)) = some (.int .i64 1) := fun o => (Below.cell ((pw_below_drewN (below_alloc (Below.refl _ _) _) n).alloc (by simp) o) (World.block_lt_of_cell? W _ lc)).trans lc
    go_wp2_with (go_at_call 66; refine (least_c _ _).mono ?_; rintro e w' ⟨rfl, hw⟩; have hw := hw.symm; subst hw; (first | rw [← HX.out] | rw [← HY.out] | rw [← HZ.out]))
    exact bodyPost_ret (v := .tuple #[.agg #[.int .i64 (x + 32), .int .i64 (2 * y + 1), .int .i64 (z + 32)], .int .i64 0]) b78_ rfl ⟨by simp, b22_⟩
   ·rw [if_neg (by simpa using q1)]
    have q2 : (q == 1) = false := by simpa using q1
    clear q1
    go_enter Tryz.func22, Tryz.ntmps22
    go_wp2_with (go_at_call 64; refine (contains_c _ _ bs _ (by omega) Hr1.out).mono ?_; rintro e w' ⟨rfl, hw⟩; have hw := hw.symm; subst hw; rw [H6.out])
    refine (gamma_Ones.calls _ _ _ bs _ _ _ Hr1.out hc G.out).mono ?_
    rintro e w1 ⟨rfl, n, rfl⟩
    rw [decide_eq_true C.out]
    have lc2 : ∀ o : Obj, (((W.alloc (.cells #[.int .i64 0, .int .i64 0, .int .i64 0] 26)).drewN n).alloc o).cell? (ad.add (bs.length - 1)) = some (.int .i64 q) := fun o => (Below.cell ((pw_below_drewN (below_alloc (Below.refl _ _) _) n).alloc (by simp) o) (World.block_lt_of_cell? W _ lc)).trans lc
    go_wp2_with (go_at_call 66; refine (least_c _ _).mono ?_; rintro e w' ⟨rfl, hw⟩; have hw := hw.symm; subst hw; (first | rw [← HX.out] | rw [← HY.out] | rw [← HZ.out]))
    exact bodyPost_ret (v := .tuple #[.agg #[.int .i64 (x + 32), .int .i64 (2 * y + 1), .int .i64 (z)], .int .i64 0]) b78_ rfl ⟨by simp, b22_⟩
  ·rw [if_neg c, if_neg c]
   have C := Lib.hid c
   clear c
   by_cases q1 : q = 1
   ·subst q1
    rw [if_pos (by decide)]
    go_enter Tryz.func22, Tryz.ntmps22
    go_wp2_with (go_at_call 64; refine (contains_c _ _ bs _ (by omega) Hr1.out).mono ?_; rintro e w' ⟨rfl, hw⟩; have hw := hw.symm; subst hw; rw [H6.out])
    refine (gamma_Ones.calls _ _ _ bs _ _ _ Hr1.out hc G.out).mono ?_
    rintro e w1 ⟨rfl, n, rfl⟩
    rw [decide_eq_false C.out]
    have lc2 : ∀ o : Obj, (((W.alloc (.cells #[.int .i64 0, .int .i64 0, .int .i64 0] 26)).drewN n).alloc o).cell? (ad.add (bs.length - 1)) = some (.int .i64 1) := fun o => (Below.cell ((pw_below_drewN (below_alloc (Below.refl _ _) _) n).alloc (by simp) o) (World.block_lt_of_cell? W _ lc)).trans lc
    go_wp2_with (go_at_call 66; refine (least_c _ _).mono ?_; rintro e w' ⟨rfl, hw⟩; have hw := hw.symm; subst hw; (first | rw [← HX.out] | rw [← HY.out] | rw [← HZ.out]))
    exact bodyPost_ret (v := .tuple #[.agg #[.int .i64 (x), .int .i64 (2 * y), .int .i64 (z + 32)], .int .i64 0]) b78_ rfl ⟨by simp, b22_⟩
   ·rw [if_neg (by simpa using q1)]
    have q2 : (q == 1) = false := by simpa using q1
    clear q1
    go_enter Tryz.func22, Tryz.ntmps22
    go_wp2_with (go_at_call 64; refine (contains_c _ _ bs _ (by omega) Hr1.out).mono ?_; rintro e w' ⟨rfl, hw⟩; have hw := hw.symm; subst hw; rw [H6.out])
    refine (gamma_Ones.calls _ _ _ bs _ _ _ Hr1.out hc G.out).mono ?_
    rintro e w1 ⟨rfl, n, rfl⟩
    rw [decide_eq_false C.out]
    have lc2 : ∀ o : Obj, (((W.alloc (.cells #[.int .i64 0, .int .i64 0, .int .i64 0] 26)).drewN n).alloc o).cell? (ad.add (bs.length - 1)) = some (.int .i64 q) := fun o => (Below.cell ((pw_below_drewN (below_alloc (Below.refl _ _) _) n).alloc (by simp) o) (World.block_lt_of_cell? W _ lc)).trans lc
    go_wp2_with (go_at_call 66; refine (least_c _ _).mono ?_; rintro e w' ⟨rfl, hw⟩; have hw := hw.symm; subst hw; (first | rw [← HX.out] | rw [← HY.out] | rw [← HZ.out]))
    exact bodyPost_ret (v := .tuple #[.agg #[.int .i64 (x), .int .i64 (2 * y), .int .i64 (z)], .int .i64 0]) b78_ rfl ⟨by simp, b22_⟩
 ·have c : ¬ ones bs < bs.length := by have := ones_le bs; omega
  have hl2 : ¬ (lastOne bs = true) := by unfold lastOne; simp; omega
  rw [if_neg c, if_neg c, if_neg hl2]
  have C := Lib.hid c
  obtain rfl : bs = [] := List.length_eq_zero_iff.1 (by omega)
  clear c hl2 hl hr
  go_enter Tryz.func22, Tryz.ntmps22
  go_wp2_with (go_at_call 64; refine (contains_c _ _ ([] : List Int) _ (by omega) Hr1.out).mono ?_; rintro e w' ⟨rfl, hw⟩; have hw := hw.symm; subst hw; rw [H6.out])
  refine (gamma_Ones.calls _ _ _ ([] : List Int) _ _ _ Hr1.out hc G.out).mono ?_
  rintro e w1 ⟨rfl, n, rfl⟩
  rw [decide_eq_false C.out]
  go_wp2_with (go_at_call 66; refine (least_c _ _).mono ?_; rintro e w' ⟨rfl, hw⟩; have hw := hw.symm; subst hw; (first | rw [← HX.out] | rw [← HY.out] | rw [show mnI 0 31 = z from HZ.out.symm]))
  exact bodyPost_ret (v := .tuple #[.agg #[.int .i64 (x), .int .i64 (2 * y), .int .i64 (z)], .int .i64 0]) b78_ rfl ⟨by simp, b22_⟩
end Go.Proofs.YtnoibcdojfnicaaGreatDoor.PB
