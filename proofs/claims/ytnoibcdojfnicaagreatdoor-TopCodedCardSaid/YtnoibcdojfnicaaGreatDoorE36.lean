/- A part of the proof of a law of descanttop: this session's own texts and printed texts, shortened and joined. -/
import Derived.Test.YtnoibcdojfnicaaGreatDoorE9
set_option linter.unusedVariables false
set_option linter.unusedSimpArgs false
set_option maxRecDepth 100000
set_option maxHeartbeats 16000000
namespace Go.Proofs.YtnoibcdojfnicaaGreatDoor.PG
open Go.Proofs.YtnoibcdojfnicaaGreatDoorW.Short
open Bool renaming true → Y, false → J
open Go.RowKit Go.Proofs.YtnoibcdojfnicaaGreatDoorW.PrintWords Go.Proofs.YtnoibcdojfnicaaGreatDoorW.PrintLast Go.Proofs.YtnoibcdojfnicaaGreatDoorW.PrintMore
attribute [local go_sem] max2_int min2_int max_two min_two max_three min_three max_four min_four
def wave_one.find (id : ByteArray) : List (S151) → Nat → Int
  | [], _ => -1
  | c :: L, i => if (c.f0.toList == id.toList) = true then (i : Int) else wave_one.find id L (i + 1)
theorem wave_one.find_range (id : ByteArray) : ∀ (L : List (S151)) (i : Nat), wave_one.find id L i = -1 ∨ (i : Int) ≤ wave_one.find id L i ∧ wave_one.find id L i < i + L.length
  | [], i => .inl rfl
  | c :: L, i => by
    unfold wave_one.find
    split
    · right; simp; omega
    · rcases wave_one.find_range id L (i + 1) with h | h
      · exact .inl h
      · right; simp; omega
def wave_one.found (L : List (S151)) (id : ByteArray) : Bool := decide (0 ≤ wave_one.find id L 0) && !decide (0 ≤ wave_one.find id (L.drop (wave_one.find id L 0 + 1).toNat) 0)
def wave_one.f (l0 : List (S151)) (a1 : ByteArray) : Option (Int × Bool) := if l0.length ≤ 4096 then some (wave_one.find a1 l0 0, wave_one.found l0 a1) else none
theorem wave_one.clo (b : Bool) (x : S151) (B : Nat) (id : ByteArray) (w : World) (hB : w.cell? ⟨B, 0, none⟩ = some (.string id)) (hBl : B < w.heap.size) (hb : (x.f0.toList == id.toList) = b) :
    Calls Tryz.prog 135 #[.agg #[.string x.f0, .int .i64 x.f1, .int .i64 x.f2], .pointer (some ⟨B, 0, none⟩)] w fun e w' => e = .returned (.bool b) ∧ Below w.heap.size w w' := by
  go_enter Tryz.func135, Tryz.ntmps135
  go_wp2
  go_ret
  exact ⟨by first | rfl | rw [hb], (Below.refl _ _).alloc (Nat.le_refl _) _⟩
theorem wave_one.rdc (L : List (S151)) (i : Nat) (hi : i < L.length) : L.drop i = rd_T151 L (i : Int) :: L.drop (i + 1) := by
  rw [List.drop_eq_getElem_cons hi]
  congr 1
  unfold rd_T151
  rw [Int.toNat_natCast, List.getD_eq_getElem?_getD, List.getElem?_eq_getElem hi]; rfl
theorem wave_one.index (A0 : Option Addr) (c0 : Nat) (L : List (S151)) (B : Nat) (id : ByteArray) (w : World) (hr0 : Kd.C k151 w A0 L.length L) (hc0 : L.length ≤ c0) (hL : L.length ≤ 4096) (hB : w.cell? ⟨B, 0, none⟩ = some (.string id)) (hBl : B < w.heap.size) :
    Calls Tryz.prog 136 #[.slice A0 L.length c0, .func (.func 135) #[] #[.pointer (some ⟨B, 0, none⟩)]] w fun e w' => e = .returned (.int .i64 (wave_one.find id L 0)) ∧ Below w.heap.size w w' := by
  have HR := Lib.hid hr0
  clear hr0
  go_enter Tryz.func136, Tryz.ntmps136
  go_wp2_with fail
  go_loopw [8] (fun v w' => ∃ i : Nat, v = .int .i64 i ∧ i ≤ L.length ∧ Hid (wave_one.find id (L.drop i) i = wave_one.find id L 0) ∧ Hid (Below w.heap.size w w')) (fun v _ => L.length - (intOf v).toNat)
  case atStart => exact ⟨0, rfl, Nat.zero_le _, Lib.hid (by rw [List.drop_zero]), Lib.hid (Below.refl _ _)⟩
  case round =>
    obtain ⟨i, rfl, hi, hF, hW⟩ := hrel
    by_cases hlt : i < L.length
    · obtain ⟨ad, e1, x0, x1, x2⟩ := at_T151 HR.out (i : Int) (by omega) (by omega)
      subst e1
      rw [Int.toNat_natCast] at x0 x1 x2
      have y0 := (hW.out.cell (World.block_lt_of_cell? w _ x0)).trans x0
      have y1 := (hW.out.cell (World.block_lt_of_cell? w _ x1)).trans x1
      have y2 := (hW.out.cell (World.block_lt_of_cell? w _ x2)).trans x2
      have yB := (hW.out.cell (p := ⟨B, 0, none⟩) hBl).trans hB
      have hB2 := Nat.lt_of_lt_of_le hBl hW.out.size
      have hd := wave_one.rdc L i hlt
      rw [hd] at hF
      obtain ⟨x, hx⟩ : ∃ x, x = rd_T151 L (i : Int) := ⟨_, rfl⟩
      rw [← hx] at hF y0 y1 y2
      clear x0 x1 x2 hd hx
      have hlti : (i : Int) < L.length := by omega
      cases hb : (x.f0.toList == id.toList) with
      | true =>
        have HB := Lib.hid hb
        clear hb
        go_wp2_with fail
        refine (wave_one.clo true x B id _ yB hB2 HB.out).mono ?_
        rintro e w1 ⟨rfl, hb1⟩
        have B1 := Lib.hid (below_step hW.out hb1)
        clear hb1
        go_wp2_with fail
        go_ret
        refine ⟨?_, B1.out⟩
        have h := hF.out
        rw [wave_one.find, if_pos HB.out] at h
        rw [← h]
        rfl
      | false =>
        have HB := Lib.hid hb
        clear hb
        have hF2 : Hid (wave_one.find id (L.drop (i + 1)) (i + 1) = wave_one.find id L 0) := Lib.hid (by
          have h := hF.out
          rw [wave_one.find, if_neg (by rw [HB.out]; decide)] at h
          exact h)
        clear hF
        go_wp2_with fail
        refine (wave_one.clo false x B id _ yB hB2 HB.out).mono ?_
        rintro e w1 ⟨rfl, hb1⟩
        have B1 := Lib.hid (below_step hW.out hb1)
        clear hb1
        go_wp2_with fail
        go_roundw
        case rel => exact ⟨i + 1, by simp, by omega, hF2, B1⟩
        case measure => simp [intOf]; omega
    · obtain rfl : i = L.length := by omega
      go_wp2_with fail
      go_ret
      refine ⟨?_, hW.out⟩
      have h := hF.out
      rw [List.drop_length] at h
      rw [← h]
      rfl
theorem wave_one.contains (A0 : Option Addr) (c0 : Nat) (L : List (S151)) (B : Nat) (id : ByteArray) (w : World) (hr0 : Kd.C k151 w A0 L.length L) (hc0 : L.length ≤ c0) (hL : L.length ≤ 4096) (hB : w.cell? ⟨B, 0, none⟩ = some (.string id)) (hBl : B < w.heap.size) :
    Calls Tryz.prog 137 #[.slice A0 L.length c0, .func (.func 135) #[] #[.pointer (some ⟨B, 0, none⟩)]] w fun e w' => e = .returned (.bool (decide (0 ≤ wave_one.find id L 0))) ∧ Below w.heap.size w w' := by
  have C := wave_one.index A0 c0 L B id w hr0 hc0 hL hB hBl
  obtain ⟨z, hz⟩ : ∃ z, z = wave_one.find id L 0 := ⟨_, rfl⟩
  rw [← hz] at C ⊢
  clear hz
  go_enter Tryz.func137, Tryz.ntmps137
  go_wp2_with fail
  refine C.mono ?_
  rintro e w1 ⟨rfl, hb1⟩
  have B1 := Lib.hid hb1
  clear hb1 C
  go_wp2_with fail
  go_ret
  exact ⟨rfl, B1.out⟩
theorem wave_one.calls (A0 : Option Addr) (c0 : Nat) (l0 : List (S151)) (a1 : ByteArray) (r0 : Int) (r1 : Bool) (w : World) (hr0 : Kd.C k151 w A0 l0.length l0) (hc0 : l0.length ≤ c0) (h : wave_one.f l0 a1 = some (r0, r1)) :
    Calls Tryz.prog 90 #[.slice A0 l0.length c0, .string a1] w fun e w' => e = .returned (.tuple #[.int .i64 r0, .bool r1]) ∧ Below w.heap.size w w' := by
  unfold wave_one.f at h
  split at h
  · rename_i hl
    have h := Option.some.inj h
    obtain ⟨h1, h2⟩ := Prod.mk.inj h
    have hrg := wave_one.find_range a1 l0 0
    unfold wave_one.found at h2
    rw [h1] at h2 hrg
    have H1 := Lib.hid h1
    have H2 := Lib.hid h2
    have HR := Lib.hid hr0
    clear h h1 h2 hr0
    have hcell : (w.alloc (.cells #[.string a1] 9)).cell? ⟨w.heap.size, 0, none⟩ = some (.string a1) := by simp
    have CI := wave_one.index A0 c0 l0 w.heap.size a1 (w.alloc (.cells #[.string a1] 9)) (Kd.C_below HR.out ((Below.refl _ _).alloc (Nat.le_refl _) _)) hc0 hl hcell (by simp)
    rw [H1.out] at CI
    rcases hrg with hm | hm
    · subst hm
      have hr1 : r1 = false := by rw [← H2.out]; rfl
      subst hr1
      clear hcell
      go_enter Tryz.func90, Tryz.ntmps90
      go_wp2_with fail
      refine CI.mono ?_
      rintro e w1 ⟨rfl, hb1⟩
      have B1 := Lib.hid (below_step ((Below.refl _ _).alloc (Nat.le_refl _) _) hb1)
      clear hb1 CI
      go_wp2_with fail
      go_ret2
      exact ⟨rfl, B1.out⟩
    · obtain ⟨i, rfl⟩ : ∃ i : Nat, r0 = i := ⟨r0.toNat, by omega⟩
      have hil : i < l0.length := by omega
      have hi1 : wrap64 ((i : Int) + 1) = (i : Int) + 1 := by unfold wrap64; omega
      have hd0 : decide ((0 : Int) ≤ (i : Int)) = true := decide_eq_true (by omega)
      have H2b := H2.out
      rw [hd0, show ((i : Int) + 1).toNat = i + 1 by omega, Bool.true_and] at H2b
      have hdl : (l0.drop (i + 1)).length = l0.length - (i + 1) := List.length_drop
      have hi0 : (0 : Int) ≤ i := by omega
      have hi0b : (0 : Int) ≤ (i : Int) + 1 := by omega
      have hi2 : (i : Int) + 1 ≤ l0.length := by omega
      have hi3 : (i : Int) + 1 ≤ c0 := by omega
      have hi4 : ((i : Int) + 1).toNat = i + 1 := by omega
      have HD := Lib.hid hdl
      have HD0 := Lib.hid hd0
      have H2c := Lib.hid H2b
      clear hcell hdl hd0 H2b
      go_enter Tryz.func90, Tryz.ntmps90
      go_wp2_with fail
      refine CI.mono ?_
      rintro e w1 ⟨rfl, hb1⟩
      have B1 := Lib.hid (below_step ((Below.refl _ _).alloc (Nat.le_refl _) _) hb1)
      have hcell1 : w1.cell? ⟨w.heap.size, 0, none⟩ = some (.string a1) := (hb1.cell (p := ⟨w.heap.size, 0, none⟩) (by simp)).trans (by simp)
      have hlt1 : w.heap.size < w1.heap.size := by have := hb1.size; simp at this; omega
      have CC := fun cc hcc => wave_one.contains _ cc (l0.drop (i + 1)) w.heap.size a1 w1 (Kd.C_drop (m := i + 1) (c := c0) (Kd.C_below HR.out B1.out) (by omega) hc0) hcc (by rw [HD.out]; omega) hcell1 hlt1
      rw [HD.out] at CC
      obtain ⟨zz, hzz⟩ : ∃ zz, zz = decide (0 ≤ wave_one.find a1 (l0.drop (i + 1)) 0) := ⟨_, rfl⟩
      rw [← hzz] at CC H2c
      have ZZ := Lib.hid hzz
      clear hzz
      have hz2 : (!zz) = r1 := H2c.out
      have hz3 : zz = !r1 := by rw [← hz2]; simp
      subst hz3
      clear hz2 H2c
      clear hb1 CI hcell1 hlt1
      by_cases hcap : c0 = i + 1
      · rw [if_pos hcap] at CC
        have hcap2 : (c0 = i + 1) = True := eq_true hcap
        cases r1 <;> (go_wp2_with fail; refine (CC _ (by omega)).mono ?_; rintro e w2 ⟨rfl, hb2⟩; have B2 := Lib.hid (below_step B1.out hb2); clear hb2; go_wp2_with fail; go_ret2; exact ⟨rfl, B2.out⟩)
      · rw [if_neg hcap] at CC
        have hcap2 : (c0 = i + 1) = False := eq_false hcap
        cases r1 <;> (go_wp2_with fail; refine (CC _ (by omega)).mono ?_; rintro e w2 ⟨rfl, hb2⟩; have B2 := Lib.hid (below_step B1.out hb2); clear hb2; go_wp2_with fail; go_ret2; exact ⟨rfl, B2.out⟩)
  · cases h
def wave_two.f (k : Nat) (a0 : ByteArray) (a1 : Int) : Option (Int) := if 0 ≤ a1 then (if a1 ≤ (wrap64 (a1 + 2)) then (if (wrap64 (a1 + 2)) ≤ (a0.size : Int) then ((field_Get.f k (a0.extract (a1 : Int).toNat ((wrap64 (a1 + 2)) : Int).toNat)).bind fun bt231 => (some bt231.1)) else (none)) else (none)) else (none)
theorem wave_two.calls (k : Nat) (a0 : ByteArray) (a1 : Int) (r : Int) (w : World) (h : wave_two.f k a0 a1 = some r) :
  Calls Tryz.prog 138 #[.string a0, .int .i64 a1] w fun e w' => e = .returned (.int .i64 r) ∧ Drawn0 w w' := by
 have H : (if 0 ≤ a1 then (if a1 ≤ (wrap64 (a1 + 2)) then (if (wrap64 (a1 + 2)) ≤ (a0.size : Int) then ((field_Get.f k (a0.extract (a1 : Int).toNat ((wrap64 (a1 + 2)) : Int).toNat)).bind fun bt231 => (some bt231.1)) else (none)) else (none)) else (none)) = some r := h
 clear h
 by_cases c3 : 0 ≤ a1
 ·rw [if_pos c3] at H
  have c3b0 := eq_true c3
  have c3b1 : decide (0 ≤ a1) = true := decide_eq_true c3
  clear c3
  by_cases c4 : a1 ≤ (wrap64 (a1 + 2))
  ·rw [if_pos c4] at H
   have c4b0 := eq_true c4
   have c4b1 : decide (a1 ≤ (wrap64 (a1 + 2))) = true := decide_eq_true c4
   by_cases c5 : (wrap64 (a1 + 2)) ≤ (a0.size : Int)
   ·rw [if_pos c5] at H
    have c5b0 := eq_true c5
    have c5b1 : decide ((wrap64 (a1 + 2)) ≤ (a0.size : Int)) = true := decide_eq_true c5
    replace H := Option.bind_eq_some_iff.mp H
    obtain ⟨⟨t231, t232⟩, A60, H⟩ := H
    replace H : (some t231) = some r := H
    have A6 := Aside0.mk A60
    clear A60
    obtain rfl := Option.some.inj H
    go_enter Tryz.func138, Tryz.ntmps138
    go_wp2_with (first | ((with_reducible refine gate_callee (f := 106) rfl ?_); refine goesL_ (some 13) rfl rfl Tryz.func106 kr rfl #[.string (a0.extract (a1 : Int).toNat ((wrap64 (a1 + 2)) : Int).toNat)] rfl b24_ ?_; (with_reducible refine (field_Get.calls k (a0.extract (a1 : Int).toNat ((wrap64 (a1 + 2)) : Int).toNat) t231 t232 _ A6.out).mono ?_); rintro e w' ⟨rfl, ⟨nd, rfl⟩⟩; refine ⟨_, rfl, ?_⟩))
    go_ret
    exact ⟨b76_, b69_⟩
   ·rw [if_neg c5] at H
    exact absurd H (by simp)
  ·rw [if_neg c4] at H
   exact absurd H (by simp)
 ·rw [if_neg c3] at H
  exact absurd H (by simp)
end Go.Proofs.YtnoibcdojfnicaaGreatDoor.PG
namespace Go.Proofs.YtnoibcdojfnicaaGreatDoor.PG
open Go.Proofs.YtnoibcdojfnicaaGreatDoorW.Short
open Bool renaming true → Y, false → J
open Go.RowKit Go.Proofs.YtnoibcdojfnicaaGreatDoorW.PrintWords Go.Proofs.YtnoibcdojfnicaaGreatDoorW.PrintLast Go.Proofs.YtnoibcdojfnicaaGreatDoorW.PrintMore
attribute [local go_sem] max2_int min2_int max_two min_two max_three min_three max_four min_four
def wave_format.f (k : Nat) (a0 : ByteArray) : Option (Int × Int × Bool) := (wave_two.f k a0 2).bind fun t234 => ((wave_two.f k a0 14).bind fun t235 => ((pcm_May.f t234 t235).bind fun t237 => (if t237 = true then ((wave_two.f k a0 0).bind fun t238 => (if t238 = 1 then ((wave_two.f k a0 12).bind fun t239 => ((pcm_Frame.f t234 t235).bind fun t240 => (some (t234, t235, (t239 == t240))))) else (none))) else (none))))
def wave_format.T2 : Bool × List (List Nat × List Nat) := (true, [([], []), ([], []), ([1], [1]), ([2, 2], [2]), ([3], [3]), ([4, 3, 3], [3, 4]), ([5, 3], [3, 5]), ([3, 6], [3, 6]), ([7, 5], [7]), ([8], [8]), ([9, 8, 8], [8, 9]), ([8], [8]), ([11, 10, 8], [8, 11]), ([10, 12, 8], [8, 10, 12]), ([8, 13], [8, 13]), ([0, 12, 0], [0]), ([14, 15, 0, 1, 2, 3, 4, 5, 6, 7, 8, 9, 10, 11, 12, 13, 14, 15], [14])])
def wave_format.B2 : List Nat := [0, 0, 2, 6, 14, 30, 62, 126, 254, 510, 1022, 510, 4094, 8190, 16382, 8191, 65535]
theorem wave_format.tab2 : rtab .any (opsOf Tryz.f91 2) = wave_format.T2 := by kernel_rfl
theorem wave_format.bits2 : waitsOk wave_format.T2.2 wave_format.B2 = true := by kernel_rfl
theorem wave_format.calls (k : Nat) (a0 : ByteArray) (r1 : Int) (r2 : Int) (r3 : Bool) (w : World) (h : wave_format.f k a0 = some (r1, r2, r3)) :
  Calls Tryz.prog 91 #[.string a0] w fun e w' => e = .returned (.tuple #[.agg #[.int .i64 r1, .int .i64 r2], .bool r3]) ∧ Below w.heap.size w w' := by
 have hu69 := Tryz.underlying69
 have HB := Aside0.mk (Below.refl w.heap.size w)
 have H : ((wave_two.f k a0 2).bind fun t234 => ((wave_two.f k a0 14).bind fun t235 => ((pcm_May.f t234 t235).bind fun t237 => (if t237 = true then ((wave_two.f k a0 0).bind fun t238 => (if t238 = 1 then ((wave_two.f k a0 12).bind fun t239 => ((pcm_Frame.f t234 t235).bind fun t240 => (some (t234, t235, (t239 == t240))))) else (none))) else (none))))) = some (r1, r2, r3) := h
 clear h
 replace H := Option.bind_eq_some_iff.mp H
 obtain ⟨t234, A20, H⟩ := H
 replace H : ((wave_two.f k a0 14).bind fun t235 => ((pcm_May.f t234 t235).bind fun t237 => (if t237 = true then ((wave_two.f k a0 0).bind fun t238 => (if t238 = 1 then ((wave_two.f k a0 12).bind fun t239 => ((pcm_Frame.f t234 t235).bind fun t240 => (some (t234, t235, (t239 == t240))))) else (none))) else (none)))) = some (r1, r2, r3) := H
 have A2 := Aside0.mk A20
 clear A20
 replace H := Option.bind_eq_some_iff.mp H
 obtain ⟨t235, A30, H⟩ := H
 replace H : ((pcm_May.f t234 t235).bind fun t237 => (if t237 = true then ((wave_two.f k a0 0).bind fun t238 => (if t238 = 1 then ((wave_two.f k a0 12).bind fun t239 => ((pcm_Frame.f t234 t235).bind fun t240 => (some (t234, t235, (t239 == t240))))) else (none))) else (none))) = some (r1, r2, r3) := H
 have A3 := Aside0.mk A30
 clear A30
 replace H := Option.bind_eq_some_iff.mp H
 obtain ⟨t237, A40, H⟩ := H
 replace H : (if t237 = true then ((wave_two.f k a0 0).bind fun t238 => (if t238 = 1 then ((wave_two.f k a0 12).bind fun t239 => ((pcm_Frame.f t234 t235).bind fun t240 => (some (t234, t235, (t239 == t240))))) else (none))) else (none)) = some (r1, r2, r3) := H
 have A4 := Aside0.mk A40
 clear A40
 by_cases c5 : t237 = true
 ·subst c5
  have H1 : ((wave_two.f k a0 0).bind fun t238 => (if t238 = 1 then ((wave_two.f k a0 12).bind fun t239 => ((pcm_Frame.f t234 t235).bind fun t240 => (some (t234, t235, (t239 == t240))))) else (none))) = some (r1, r2, r3) := by rw [if_pos rfl] at H; exact H
  clear H
  have H := H1
  clear H1
  replace H := Option.bind_eq_some_iff.mp H
  obtain ⟨t238, A60, H⟩ := H
  replace H : (if t238 = 1 then ((wave_two.f k a0 12).bind fun t239 => ((pcm_Frame.f t234 t235).bind fun t240 => (some (t234, t235, (t239 == t240))))) else (none)) = some (r1, r2, r3) := H
  have A6 := Aside0.mk A60
  clear A60
  by_cases c7 : t238 = 1
  ·rw [if_pos c7] at H
   have c7b0 : (t238 == 1) = true := beq_iff_eq.mpr c7
   have c7b1 : (t238 != 1) = false := bne_eq_false_iff_eq.mpr c7
   clear c7
   replace H := Option.bind_eq_some_iff.mp H
   obtain ⟨t239, A80, H⟩ := H
   replace H : ((pcm_Frame.f t234 t235).bind fun t240 => (some (t234, t235, (t239 == t240)))) = some (r1, r2, r3) := H
   have A8 := Aside0.mk A80
   clear A80
   replace H := Option.bind_eq_some_iff.mp H
   obtain ⟨t240, A90, H⟩ := H
   replace H : (some (t234, t235, (t239 == t240))) = some (r1, r2, r3) := H
   have A9 := Aside0.mk A90
   clear A90
   simp only [Option.some.injEq, Prod.mk.injEq] at H
   obtain ⟨rfl, rfl, rfl⟩ := H
   go_enter Tryz.func91, Tryz.ntmps91
   try go_wp2_with (first | ((with_reducible refine gate_dst (N := 2) rfl ?_); refine box_event ?hg (N := 2) ?hd (cs := #[.int .i64 0, .int .i64 0]) (t := 69) ?hr ?_; (case hd => rfl); (case hg => rfl); (case hr => first | (go_simp; done) | (go_simp; rfl)); intro gb233 hg w10 hbox hb; have n0_ := Aside0.mk (below_step b28_ hb); have n1_ := Aside0.mk (hbox); have n2_ := Aside0.mk ((by rw [hg]; exact (below_size b28_) : w.heap.size ≤ gb233)); have n3_ := Aside0.mk ((by rw [hg]; exact (below_size b28_) : w.heap.size ≤ gb233)); clear HB; have HB := n0_; have BK233 := n1_; have GW233 := n2_; have GE233 := n3_; clear n0_ n1_ n2_ n3_; clear hb hbox hg) | ((with_reducible refine gate_callee (f := 138) rfl ?_); refine goesL_ (some 6) rfl rfl Tryz.func138 kr rfl #[.string a0, .int .i64 2] rfl b24_ ?_; (with_reducible refine (wave_two.calls k a0 2 t234 _ A2.out).mono ?_); rintro e w' ⟨rfl, ⟨nd, rfl⟩⟩; refine ⟨_, rfl, ?_⟩; (try (rw [drewN_self w10]; generalize hq_ : World.drewN w10 _ = w10; have n0_ : Aside0 (w10.heap[gb233]? = some (.cells #[.int .i64 0, .int .i64 0] 69 (0, 0))) := ⟨by rw [← hq_]; exact b41_⟩; have n1_ : Aside0 (Below w.heap.size w w10) := ⟨by rw [← hq_]; exact b13_⟩; clear BK233 HB hq_; have BK233 := n0_; have HB := n1_; clear n0_ n1_))) | ((with_reducible refine gate_callee (f := 138) rfl ?_); refine goesL_ (some 8) rfl rfl Tryz.func138 kr rfl #[.string a0, .int .i64 14] rfl b24_ ?_; (with_reducible refine (wave_two.calls k a0 14 t235 _ A3.out).mono ?_); rintro e w' ⟨rfl, ⟨nd, rfl⟩⟩; refine ⟨_, rfl, ?_⟩; (try (rw [drewN_self w10]; generalize hq_ : World.drewN w10 _ = w10; have n0_ : Aside0 (w10.heap[gb233]? = some (.cells #[.int .i64 0, .int .i64 0] 69 (0, 0))) := ⟨by rw [← hq_]; exact b41_⟩; have n1_ : Aside0 (Below w.heap.size w w10) := ⟨by rw [← hq_]; exact b13_⟩; clear BK233 HB hq_; have BK233 := n0_; have HB := n1_; clear n0_ n1_))) | ((with_reducible refine gate_dst (N := 4) rfl ?_); refine box_event ?hg (N := 4) ?hd (cs := #[.int .i64 0, .int .i64 0]) (t := 69) ?hr ?_; (case hd => rfl); (case hg => rfl); (case hr => first | (go_simp; done) | (go_simp; rfl)); intro gb236 hg w11 hbox hb; have n0_ := Aside0.mk (blk_below (g := gb233) (o := .cells #[.int .i64 0, .int .i64 0] 69 (0, 0)) b41_ hb); have n1_ := Aside0.mk (below_step b13_ hb); have n2_ := Aside0.mk (hbox); have n3_ := Aside0.mk ((by rw [hg]; exact (below_size b13_) : w.heap.size ≤ gb236)); have n4_ := Aside0.mk ((by rw [hg]; exact (below_size b13_) : w.heap.size ≤ gb236)); have n5_ := Aside0.mk ((by rw [hg]; exact Nat.ne_of_lt (blk_lt (g := gb233) (o := .cells #[.int .i64 0, .int .i64 0] 69 (0, 0)) b41_) : gb233 ≠ gb236)); have n6_ := Aside0.mk ((by rw [hg]; exact Nat.ne_of_gt (blk_lt (g := gb233) (o := .cells #[.int .i64 0, .int .i64 0] 69 (0, 0)) b41_) : gb236 ≠ gb233)); clear BK233; clear HB; have BK233 := n0_; have HB := n1_; have BK236 := n2_; have GW236 := n3_; have GE236 := n4_; have NB233_236 := n5_; have NB236_233 := n6_; clear n0_ n1_ n2_ n3_ n4_ n5_ n6_; clear hb hbox hg; have hnb12 := NB236_233.out; have hnc12 := NB233_236.out; have hcz13_0 : w11.cell? ⟨gb236, 0, none⟩ = some (.int .i64 0) := (blk_cell BK236.out 0).trans rfl; have hcz13_1 : w11.cell? ⟨gb236, 1, none⟩ = some (.int .i64 0) := (blk_cell BK236.out 1).trans rfl; have hfz13_0 := blk_frozen BK236.out 0; have hfz13_1 := blk_frozen BK236.out 1))
   have n0_ : Aside0 (((w11.setCell ⟨gb236, 0, none⟩ (.int .i64 t234)).setCell ⟨gb236, 1, none⟩ (.int .i64 t235)).heap[gb233]? = some (.cells #[.int .i64 0, .int .i64 0] 69 (0, 0))) := ⟨by (with_reducible repeat (first | refine blk_drewN ?_ _ | refine blk_drew ?_ | refine blk_alloc ?_ _)); refine blk_far ?_ NB233_236.out _; (with_reducible repeat (first | refine blk_drewN ?_ _ | refine blk_drew ?_ | refine blk_alloc ?_ _)); refine blk_far ?_ NB233_236.out _; (with_reducible repeat (first | refine blk_drewN ?_ _ | refine blk_drew ?_ | refine blk_alloc ?_ _)); exact BK233.out⟩
   have n1_ : Aside0 (((w11.setCell ⟨gb236, 0, none⟩ (.int .i64 t234)).setCell ⟨gb236, 1, none⟩ (.int .i64 t235)).heap[gb236]? = some (.cells #[.int .i64 t234, .int .i64 t235] 69 (0, 0))) := ⟨by (with_reducible repeat (first | refine blk_drewN ?_ _ | refine blk_drew ?_ | refine blk_alloc ?_ _)); refine blk_put (cs := #[.int .i64 t234, .int .i64 0]) ?_ 1 _ rfl; (with_reducible repeat (first | refine blk_drewN ?_ _ | refine blk_drew ?_ | refine blk_alloc ?_ _)); refine blk_put (cs := #[.int .i64 0, .int .i64 0]) ?_ 0 _ rfl; (with_reducible repeat (first | refine blk_drewN ?_ _ | refine blk_drew ?_ | refine blk_alloc ?_ _)); exact BK236.out⟩
   have n2_ : Aside0 (Below w.heap.size w ((w11.setCell ⟨gb236, 0, none⟩ (.int .i64 t234)).setCell ⟨gb236, 1, none⟩ (.int .i64 t235))) := ⟨by repeat (first | (with_reducible first | exact HB.out | apply below_alloc | apply pw_below_drewN | apply below_drew1 | refine below_set ?_ GE233.out | refine below_set ?_ GE236.out) | exact HB.out)⟩
   (try clear BK233)
   (try clear BK236)
   (try clear HB)
   generalize ((w11.setCell ⟨gb236, 0, none⟩ (.int .i64 t234)).setCell ⟨gb236, 1, none⟩ (.int .i64 t235)) = w14 at n0_ n1_ n2_ ⊢
   have BK233 := n0_
   have BK236 := n1_
   have HB := n2_
   clear n0_ n1_ n2_
   have n0_ := Aside0.mk (blk_drew BK233.out)
   have n1_ := Aside0.mk (blk_drew BK236.out)
   have n2_ := Aside0.mk (below_drew1 HB.out)
   clear BK233
   clear BK236
   clear HB
   have BK233 := n0_
   have BK236 := n1_
   have HB := n2_
   clear n0_ n1_ n2_
   refine start_ (n := 17) (S := fun w' => w'.cell? ⟨gb236, 0, none⟩ = some (.int .i64 t234) ∧ w'.cell? ⟨gb236, 1, none⟩ = some (.int .i64 t235)) (ds := []) #[J,J,J,J,J,J,J,J,J,J,J,J,J,J,J,J,J] kr rfl rfl ⟨(blk_cell BK236.out 0).trans rfl, (blk_cell BK236.out 1).trans rfl⟩ (fun hHeld => ?_); refine with_tabW wave_format.tab2 wave_format.bits2 (fun HT_ HW_ => ?_)
   generalize w14.drew = w15 at BK233 BK236 HB hHeld ⊢
   refine ta_ 0 10 (z 17 1) HT_ HW_ hHeld rfl b74_ ?_
   refine ta_ 1 11 (z 17 3) HT_ HW_ hHeld rfl b74_ ?_
   refine one_ (i := 2) (N := some 12) #[Y,Y,Y,J,J,J,J,J,J,J,J,J,J,J,J,J,J] rfl rfl (one_of HT_.out kr) (by decide) (fun K hK => ?_)
   refine goes_ Tryz.func81 kr rfl #[.agg #[.int .i64 t234, .int .i64 t235]] (by rfl) rfl rfl b24_ ?_
   with_reducible refine (pcm_May.calls t234 t235 true _ A4.out).mono ?_
   rintro e w16 ⟨rfl, hb⟩
   refine ⟨_, rfl, ?_⟩
   have n0_ := Aside0.mk (blk_below (g := gb233) (o := .cells #[.int .i64 0, .int .i64 0] 69 (0, 0)) b41_ hb)
   have n1_ := Aside0.mk (blk_below (g := gb236) (o := .cells #[.int .i64 t234, .int .i64 t235] 69 (0, 0)) (by (with_reducible repeat (first | refine blk_drewN ?_ _ | refine blk_drew ?_ | refine blk_alloc ?_ _)); exact BK236.out) hb)
   have n2_ := Aside0.mk (below_step (by repeat (first | (with_reducible first | exact HB.out | apply below_alloc | apply pw_below_drewN | apply below_drew1 | refine below_set ?_ GE233.out | refine below_set ?_ GE236.out) | exact HB.out)) hb)
   clear BK233
   clear BK236
   clear HB
   have BK233 := n0_
   have BK236 := n1_
   have HB := n2_
   clear n0_ n1_ n2_
   (try clear hb)
   (try clear hb2)
   (try clear hk)
   (try clear hi)
   refine hK.out _ _ ⟨(blk_cell BK236.out 0).trans rfl, (blk_cell BK236.out 1).trans rfl⟩ (fun hHeld => ?_)
   clear hK K
   refine norm_ (a' := ?_) ?_ ?_
   rotate_left
   ·show Act.put _ (some 12) _ = _
    exact pT
   refine pu_ 3 13 (z 17 15) HT_ ?_
   refine pu_ 4 14 (z 17 31) HT_ ?_
   refine one_ (i := 5) (N := some 15) #[Y,Y,Y,Y,Y,Y,J,J,J,J,J,J,J,J,J,J,J] rfl rfl (one_of HT_.out kr) (by decide) (fun K hK => ?_)
   refine goes_ Tryz.func138 kr rfl #[.string a0, .int .i64 0] (by rfl) rfl rfl b24_ ?_
   with_reducible refine (wave_two.calls k a0 0 t238 _ A6.out).mono ?_
   rintro e w' ⟨rfl, ⟨nd, rfl⟩⟩
   refine ⟨_, rfl, ?_⟩
   refine hK.out _ _ ⟨(blk_cell BK236.out 0).trans rfl, (blk_cell BK236.out 1).trans rfl⟩ (fun hHeld => ?_)
   clear hK K
   refine norm_ (a' := ?_) ?_ ?_
   rotate_left
   ·show Act.put _ (some 15) _ = _
    exact pT
   refine pu_ 6 16 (z 17 127) HT_ ?_
   refine pu_ 7 17 (z 17 255) HT_ ?_
   refine pu_ 8 18 (z 17 511) HT_ ?_
   refine pu_ 9 19 (z 17 1023) HT_ ?_
   refine ta_ 11 21 (z 17 3071) HT_ HW_ hHeld rfl b74_ ?_
   refine one_ (i := 10) (N := some 20) #[Y,Y,Y,Y,Y,Y,Y,Y,Y,Y,Y,Y,J,J,J,J,J] rfl rfl (one_of HT_.out kr) (by decide) (fun K hK => ?_)
   refine goes_ Tryz.func138 kr rfl #[.string a0, .int .i64 12] (by rfl) rfl rfl b24_ ?_
   with_reducible refine (wave_two.calls k a0 12 t239 _ A8.out).mono ?_
   rintro e w' ⟨rfl, ⟨nd, rfl⟩⟩
   refine ⟨_, rfl, ?_⟩
   refine hK.out _ _ ⟨(blk_cell BK236.out 0).trans rfl, (blk_cell BK236.out 1).trans rfl⟩ (fun hHeld => ?_)
   clear hK K
   refine norm_ (a' := ?_) ?_ ?_
   rotate_left
   ·show Act.put _ (some 20) _ = _
    exact pT
   refine one_ (i := 12) (N := some 22) #[Y,Y,Y,Y,Y,Y,Y,Y,Y,Y,Y,Y,Y,J,J,J,J] rfl rfl (one_of HT_.out kr) (by decide) (fun K hK => ?_)
   refine goes_ Tryz.func75 kr rfl #[.agg #[.int .i64 t234, .int .i64 t235]] (by rfl) rfl rfl b24_ ?_
   with_reducible refine (pcm_Frame.calls t234 t235 t240 _ A9.out).mono ?_
   rintro e w17 ⟨rfl, hb⟩
   refine ⟨_, rfl, ?_⟩
   have n0_ := Aside0.mk (blk_below (g := gb233) (o := .cells #[.int .i64 0, .int .i64 0] 69 (0, 0)) b41_ hb)
   have n1_ := Aside0.mk (blk_below (g := gb236) (o := .cells #[.int .i64 t234, .int .i64 t235] 69 (0, 0)) (by (with_reducible repeat (first | refine blk_drewN ?_ _ | refine blk_drew ?_ | refine blk_alloc ?_ _)); exact BK236.out) hb)
   have n2_ := Aside0.mk (below_step (by repeat (first | (with_reducible first | exact HB.out | apply below_alloc | apply pw_below_drewN | apply below_drew1 | refine below_set ?_ GE233.out | refine below_set ?_ GE236.out) | exact HB.out)) hb)
   clear BK233
   clear BK236
   clear HB
   have BK233 := n0_
   have BK236 := n1_
   have HB := n2_
   clear n0_ n1_ n2_
   (try clear hb)
   (try clear hb2)
   (try clear hk)
   (try clear hi)
   refine hK.out _ _ ⟨(blk_cell BK236.out 0).trans rfl, (blk_cell BK236.out 1).trans rfl⟩ (fun hHeld => ?_)
   clear hK K
   refine norm_ (a' := ?_) ?_ ?_
   rotate_left
   ·show Act.put _ (some 22) _ = _
    exact pT
   refine pu_ 13 23 (z 17 16383) HT_ ?_
   refine pu_ 14 24 (z 17 32767) HT_ ?_
   refine one_ (i := 15) (N := none) #[Y,Y,Y,Y,Y,Y,Y,Y,Y,Y,Y,Y,Y,Y,Y,Y,J] rfl rfl (one_of HT_.out kr) (by decide) (fun K hK => ?_)
   have hs18 : w17.cell? ⟨gb233, 0, none⟩ = some (.int .i64 0) := (blk_cell BK233.out 0).trans rfl
   have hfs18 := blk_frozen BK233.out 0
   have hns18_1 := NB236_233.out
   have hms18_1 := NB233_236.out
   have hs19 : w17.cell? ⟨gb233, 1, none⟩ = some (.int .i64 0) := (blk_cell BK233.out 1).trans rfl
   have hfs19 := blk_frozen BK233.out 1
   have hns19_1 := NB236_233.out
   have hms19_1 := NB233_236.out
   refine skip_ (w1 := ?_) (by rfl) rfl ?_ ?_
   rotate_left
   ·go_simp
    rfl
   refine hK.out _ _ ⟨((cell_far (p := ⟨gb233, _, none⟩) NB236_233.out _).trans (((cell_far (p := ⟨gb233, _, none⟩) NB236_233.out _).trans (hHeld.1)))), ((cell_far (p := ⟨gb233, _, none⟩) NB236_233.out _).trans (((cell_far (p := ⟨gb233, _, none⟩) NB236_233.out _).trans (hHeld.2))))⟩ (fun hHeld => ?_)
   clear hK K
   refine pu_ 16 3 (z 17 131071) HT_ ?_
   refine done_ (done_of HT_.out kr) ?_
   try go_wp2
   refine bodyPost_ret (results_ct rfl _ _ gb233 69 #[.int .i64 t234, .int .i64 t235] (0, 0) _ rfl (by (with_reducible repeat (first | refine blk_drewN ?_ _ | refine blk_drew ?_ | refine blk_alloc ?_ _)); refine blk_put (cs := #[.int .i64 t234, .int .i64 0]) ?_ 1 _ rfl; (with_reducible repeat (first | refine blk_drewN ?_ _ | refine blk_drew ?_ | refine blk_alloc ?_ _)); refine blk_put (cs := #[.int .i64 0, .int .i64 0]) ?_ 0 _ rfl; (with_reducible repeat (first | refine blk_drewN ?_ _ | refine blk_drew ?_ | refine blk_alloc ?_ _)); exact BK233.out) Tryz.underlying69 rfl kr) rfl ?_
   exact ⟨b60_, by repeat (first | (with_reducible first | exact HB.out | apply below_alloc | apply pw_below_drewN | apply below_drew1 | refine below_set ?_ GE233.out | refine below_set ?_ GE236.out) | exact HB.out)⟩
  ·rw [if_neg c7] at H
   exact absurd H (by simp)
 ·replace c5 := Bool.eq_false_iff.mpr c5
  subst c5
  have H1 : (none) = some (r1, r2, r3) := by rw [if_neg (show ¬ (false = true) by decide)] at H; exact H
  clear H
  have H := H1
  clear H1
  exact absurd H (by simp)
end Go.Proofs.YtnoibcdojfnicaaGreatDoor.PG
