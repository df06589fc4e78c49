-- Printed by a program of this session over the kit's printer (wip/gen/pr.py). Not trusted: Lean checks it.
import Derived.Test.YtkngkmemcokbfaaPWvx0
import Derived.Test.YtkngkmemcokbfaaPWvx3
import Derived.Lib.Hide
namespace Go.Proofs.Ytkngkmemcokbfaa.PWv
open Go.RowKit Go.Proofs.YtkngkmemcokbfaaW.PrintWords Go.Proofs.YtkngkmemcokbfaaW.PrintLast Go.Proofs.YtkngkmemcokbfaaW.PrintMore
attribute [local go_sem] max2_int min2_int max_two min_two max_three min_three max_four min_four   -- for this text's walks alone
set_option linter.unusedVariables false
set_option linter.unusedSimpArgs false

-- NOT PRINTED: function 39 (api_Chunk_39)

-- NOT PRINTED: function 40 (api_Chunk_40)

--import Derived.Lib.Hide
--kind plain
--making
/-! ### wave_one: given -/
def wave_one.find (id : ByteArray) : List (S34) → Nat → Int
  | [], _ => -1
  | c :: L, i => if (c.f0.toList == id.toList) = true then (i : Int) else wave_one.find id L (i + 1)
theorem wave_one.find_range (id : ByteArray) : ∀ (L : List (S34)) (i : Nat), wave_one.find id L i = -1 ∨ (i : Int) ≤ wave_one.find id L i ∧ wave_one.find id L i < i + L.length
  | [], i => .inl rfl
  | c :: L, i => by
    unfold wave_one.find
    split
    · right; simp; omega
    · rcases wave_one.find_range id L (i + 1) with h | h
      · exact .inl h
      · right; simp; omega
def wave_one.found (L : List (S34)) (id : ByteArray) : Bool := decide (0 ≤ wave_one.find id L 0) && !decide (0 ≤ wave_one.find id (L.drop (wave_one.find id L 0 + 1).toNat) 0)
def wave_one.f (l0 : List (S34)) (a1 : ByteArray) : Option (Int × Bool) := if l0.length ≤ 4096 then some (wave_one.find a1 l0 0, wave_one.found l0 a1) else none
theorem wave_one.clo (b : Bool) (x : S34) (B : Nat) (id : ByteArray) (w : World) (hB : w.cell? ⟨B, 0, none⟩ = some (.string id)) (hBl : B < w.heap.size) (hb : (x.f0.toList == id.toList) = b) :
    Calls Try.prog 38 #[.agg #[.string x.f0, .int .i64 x.f1, .int .i64 x.f2], .pointer (some ⟨B, 0, none⟩)] w fun e w' => e = .returned (.bool b) ∧ Below w.heap.size w w' := by
  go_enter Try.func38, Try.ntmps38
  go_wp2
  go_ret
  exact ⟨by first | rfl | rw [hb], (Below.refl _ _).alloc (Nat.le_refl _) _⟩
theorem wave_one.rdc (L : List (S34)) (i : Nat) (hi : i < L.length) : L.drop i = rd_T34 L (i : Int) :: L.drop (i + 1) := by
  rw [List.drop_eq_getElem_cons hi]
  congr 1
  unfold rd_T34
  rw [Int.toNat_natCast, List.getD_eq_getElem?_getD, List.getElem?_eq_getElem hi]; rfl
set_option maxHeartbeats 1000000 in
theorem wave_one.index (A0 : Option Addr) (c0 : Nat) (L : List (S34)) (B : Nat) (id : ByteArray) (w : World) (hr0 : Kd.C k34 w A0 L.length L) (hc0 : L.length ≤ c0) (hL : L.length ≤ 4096) (hB : w.cell? ⟨B, 0, none⟩ = some (.string id)) (hBl : B < w.heap.size) :
    Calls Try.prog 39 #[.slice A0 L.length c0, .func (.func 38) #[] #[.pointer (some ⟨B, 0, none⟩)]] w fun e w' => e = .returned (.int .i64 (wave_one.find id L 0)) ∧ Below w.heap.size w w' := by
  have HR := Lib.hid hr0
  clear hr0
  go_enter Try.func39, Try.ntmps39
  go_wp2_with fail
  go_loopw [8] (fun v w' => ∃ i : Nat, v = .int .i64 i ∧ i ≤ L.length ∧ Hid (wave_one.find id (L.drop i) i = wave_one.find id L 0) ∧ Hid (Below w.heap.size w w')) (fun v _ => L.length - (intOf v).toNat)
  case atStart => exact ⟨0, rfl, Nat.zero_le _, Lib.hid (by rw [List.drop_zero]), Lib.hid (Below.refl _ _)⟩
  case round =>
    obtain ⟨i, rfl, hi, hF, hW⟩ := hrel
    by_cases hlt : i < L.length
    · obtain ⟨ad, e1, x0, x1, x2⟩ := at_T34 HR.out (i : Int) (by omega) (by omega)
      subst e1
      rw [Int.toNat_natCast] at x0 x1 x2
      have y0 := (hW.out.cell (World.block_lt_of_cell? w _ x0)).trans x0
      have y1 := (hW.out.cell (World.block_lt_of_cell? w _ x1)).trans x1
      have y2 := (hW.out.cell (World.block_lt_of_cell? w _ x2)).trans x2
      have yB := (hW.out.cell (p := ⟨B, 0, none⟩) hBl).trans hB
      have hB2 := Nat.lt_of_lt_of_le hBl hW.out.size
      have hd := wave_one.rdc L i hlt
      rw [hd] at hF
      obtain ⟨x, hx⟩ : ∃ x, x = rd_T34 L (i : Int) := ⟨_, rfl⟩
      rw [← hx] at hF y0 y1 y2
      clear x0 x1 x2 hd hx
      have hlti : (i : Int) < L.length := by omega
      cases hb : (x.f0.toList == id.toList) with
      | true =>
        have HB := Lib.hid hb
        clear hb
        go_wp2_with fail
        refine (wave_one.clo true x B id _ yB hB2 HB.out).mono ?_
        rintro e w1 ⟨rfl, hb1⟩
        have B1 := Lib.hid (below_step hW.out hb1)
        clear hb1
        go_wp2_with fail
        go_ret
        refine ⟨?_, B1.out⟩
        have h := hF.out
        rw [wave_one.find, if_pos HB.out] at h
        rw [← h]
        rfl
      | false =>
        have HB := Lib.hid hb
        clear hb
        have hF2 : Hid (wave_one.find id (L.drop (i + 1)) (i + 1) = wave_one.find id L 0) := Lib.hid (by
          have h := hF.out
          rw [wave_one.find, if_neg (by rw [HB.out]; decide)] at h
          exact h)
        clear hF
        go_wp2_with fail
        refine (wave_one.clo false x B id _ yB hB2 HB.out).mono ?_
        rintro e w1 ⟨rfl, hb1⟩
        have B1 := Lib.hid (below_step hW.out hb1)
        clear hb1
        go_wp2_with fail
        go_roundw
        case rel => exact ⟨i + 1, by simp, by omega, hF2, B1⟩
        case measure => simp [intOf]; omega
    · obtain rfl : i = L.length := by omega
      go_wp2_with fail
      go_ret
      refine ⟨?_, hW.out⟩
      have h := hF.out
      rw [List.drop_length] at h
      rw [← h]
      rfl
theorem wave_one.contains (A0 : Option Addr) (c0 : Nat) (L : List (S34)) (B : Nat) (id : ByteArray) (w : World) (hr0 : Kd.C k34 w A0 L.length L) (hc0 : L.length ≤ c0) (hL : L.length ≤ 4096) (hB : w.cell? ⟨B, 0, none⟩ = some (.string id)) (hBl : B < w.heap.size) :
    Calls Try.prog 40 #[.slice A0 L.length c0, .func (.func 38) #[] #[.pointer (some ⟨B, 0, none⟩)]] w fun e w' => e = .returned (.bool (decide (0 ≤ wave_one.find id L 0))) ∧ Below w.heap.size w w' := by
  have C := wave_one.index A0 c0 L B id w hr0 hc0 hL hB hBl
  obtain ⟨z, hz⟩ : ∃ z, z = wave_one.find id L 0 := ⟨_, rfl⟩
  rw [← hz] at C ⊢
  clear hz
  go_enter Try.func40, Try.ntmps40
  go_wp2_with fail
  refine C.mono ?_
  rintro e w1 ⟨rfl, hb1⟩
  have B1 := Lib.hid hb1
  clear hb1 C
  go_wp2_with fail
  go_ret
  exact ⟨rfl, B1.out⟩
set_option maxHeartbeats 1000000 in
theorem wave_one.calls (A0 : Option Addr) (c0 : Nat) (l0 : List (S34)) (a1 : ByteArray) (r0 : Int) (r1 : Bool) (w : World) (hr0 : Kd.C k34 w A0 l0.length l0) (hc0 : l0.length ≤ c0) (h : wave_one.f l0 a1 = some (r0, r1)) :
    Calls Try.prog 30 #[.slice A0 l0.length c0, .string a1] w fun e w' => e = .returned (.tuple #[.int .i64 r0, .bool r1]) ∧ Below w.heap.size w w' := by
  unfold wave_one.f at h
  split at h
  · rename_i hl
    have h := Option.some.inj h
    obtain ⟨h1, h2⟩ := Prod.mk.inj h
    have hrg := wave_one.find_range a1 l0 0
    unfold wave_one.found at h2
    rw [h1] at h2 hrg
    have H1 := Lib.hid h1
    have H2 := Lib.hid h2
    have HR := Lib.hid hr0
    clear h h1 h2 hr0
    have hcell : (w.alloc (.cells #[.string a1] 9)).cell? ⟨w.heap.size, 0, none⟩ = some (.string a1) := by simp
    have CI := wave_one.index A0 c0 l0 w.heap.size a1 (w.alloc (.cells #[.string a1] 9)) (Kd.C_below HR.out ((Below.refl _ _).alloc (Nat.le_refl _) _)) hc0 hl hcell (by simp)
    rw [H1.out] at CI
    rcases hrg with hm | hm
    · subst hm
      have hr1 : r1 = false := by rw [← H2.out]; rfl
      subst hr1
      clear hcell
      go_enter Try.func30, Try.ntmps30
      go_wp2_with fail
      refine CI.mono ?_
      rintro e w1 ⟨rfl, hb1⟩
      have B1 := Lib.hid (below_step ((Below.refl _ _).alloc (Nat.le_refl _) _) hb1)
      clear hb1 CI
      go_wp2_with fail
      go_ret2
      exact ⟨rfl, B1.out⟩
    · obtain ⟨i, rfl⟩ : ∃ i : Nat, r0 = i := ⟨r0.toNat, by omega⟩
      have hil : i < l0.length := by omega
      have hi1 : wrap64 ((i : Int) + 1) = (i : Int) + 1 := by unfold wrap64; omega
      have hd0 : decide ((0 : Int) ≤ (i : Int)) = true := decide_eq_true (by omega)
      have H2b := H2.out
      rw [hd0, show ((i : Int) + 1).toNat = i + 1 by omega, Bool.true_and] at H2b
      have hdl : (l0.drop (i + 1)).length = l0.length - (i + 1) := List.length_drop
      have hi0 : (0 : Int) ≤ i := by omega
      have hi0b : (0 : Int) ≤ (i : Int) + 1 := by omega
      have hi2 : (i : Int) + 1 ≤ l0.length := by omega
      have hi3 : (i : Int) + 1 ≤ c0 := by omega
      have hi4 : ((i : Int) + 1).toNat = i + 1 := by omega
      have HD := Lib.hid hdl
      have HD0 := Lib.hid hd0
      have H2c := Lib.hid H2b
      clear hcell hdl hd0 H2b
      go_enter Try.func30, Try.ntmps30
      go_wp2_with fail
      refine CI.mono ?_
      rintro e w1 ⟨rfl, hb1⟩
      have B1 := Lib.hid (below_step ((Below.refl _ _).alloc (Nat.le_refl _) _) hb1)
      have hcell1 : w1.cell? ⟨w.heap.size, 0, none⟩ = some (.string a1) := (hb1.cell (p := ⟨w.heap.size, 0, none⟩) (by simp)).trans (by simp)
      have hlt1 : w.heap.size < w1.heap.size := by have := hb1.size; simp at this; omega
      have CC := fun cc hcc => wave_one.contains _ cc (l0.drop (i + 1)) w.heap.size a1 w1 (Kd.C_drop (m := i + 1) (c := c0) (Kd.C_below HR.out B1.out) (by omega) hc0) hcc (by rw [HD.out]; omega) hcell1 hlt1
      rw [HD.out] at CC
      obtain ⟨zz, hzz⟩ : ∃ zz, zz = decide (0 ≤ wave_one.find a1 (l0.drop (i + 1)) 0) := ⟨_, rfl⟩
      rw [← hzz] at CC H2c
      have ZZ := Lib.hid hzz
      clear hzz
      have hz2 : (!zz) = r1 := H2c.out
      have hz3 : zz = !r1 := by rw [← hz2]; simp
      subst hz3
      clear hz2 H2c
      clear hb1 CI hcell1 hlt1
      by_cases hcap : c0 = i + 1
      · rw [if_pos hcap] at CC
        have hcap2 : (c0 = i + 1) = True := eq_true hcap
        cases r1 <;> (go_wp2_with fail; refine (CC _ (by omega)).mono ?_; rintro e w2 ⟨rfl, hb2⟩; have B2 := Lib.hid (below_step B1.out hb2); clear hb2; go_wp2_with fail; go_ret2; exact ⟨rfl, B2.out⟩)
      · rw [if_neg hcap] at CC
        have hcap2 : (c0 = i + 1) = False := eq_false hcap
        cases r1 <;> (go_wp2_with fail; refine (CC _ (by omega)).mono ?_; rintro e w2 ⟨rfl, hb2⟩; have B2 := Lib.hid (below_step B1.out hb2); clear hb2; go_wp2_with fail; go_ret2; exact ⟨rfl, B2.out⟩)
  · cases h

/-! ### wave_two: function 41 -/
def wave_two.f (k : Nat) (a0 : ByteArray) (a1 : Int) : Option (Int) := if 0 ≤ a1 then (if a1 ≤ (wrap64 (a1 + 2)) then (if (wrap64 (a1 + 2)) ≤ (a0.size : Int) then ((field_Get.f k (a0.extract (a1 : Int).toNat ((wrap64 (a1 + 2)) : Int).toNat)).bind fun bt111 => (some bt111.1)) else (none)) else (none)) else (none)
theorem wave_two.mono : ∀ a0 a1 k, LeO (wave_two.f k a0 a1) (wave_two.f (k + 1) a0 a1) := by
 intro a0 a1 k
 unfold wave_two.f
 repeat' first
   | (with_reducible exact field_Get.mono _ _)
   | (with_reducible exact LeO.refl _)
   | (with_reducible exact LeO.none _)
   | (with_reducible refine LeO.ite ?_ ?_)
   | (with_reducible refine LeO.bind ?_ (fun _ => ?_))
   | exact field_Get.mono _ _
   | exact LeO.none _
   | refine LeO.ite ?_ ?_
   | refine LeO.bind ?_ (fun _ => ?_)
set_option maxHeartbeats 8000000 in
set_option maxRecDepth 100000 in
theorem wave_two.calls (k : Nat) (a0 : ByteArray) (a1 : Int) (r : Int) (w : World) (h : wave_two.f k a0 a1 = some r) :
  Calls Try.prog 41 #[.string a0, .int .i64 a1] w fun e w' => e = .returned (.int .i64 r) ∧ Drawn0 w w' := by
 have H : (if 0 ≤ a1 then (if a1 ≤ (wrap64 (a1 + 2)) then (if (wrap64 (a1 + 2)) ≤ (a0.size : Int) then ((field_Get.f k (a0.extract (a1 : Int).toNat ((wrap64 (a1 + 2)) : Int).toNat)).bind fun bt111 => (some bt111.1)) else (none)) else (none)) else (none)) = some r := h
 clear h
 by_cases c3 : 0 ≤ a1
 ·rw [if_pos c3] at H
  have c3b0 := eq_true c3
  have c3b1 : decide (0 ≤ a1) = true := decide_eq_true c3
  clear c3
  by_cases c4 : a1 ≤ (wrap64 (a1 + 2))
  ·rw [if_pos c4] at H
   have c4b0 := eq_true c4
   have c4b1 : decide (a1 ≤ (wrap64 (a1 + 2))) = true := decide_eq_true c4
   by_cases c5 : (wrap64 (a1 + 2)) ≤ (a0.size : Int)
   ·rw [if_pos c5] at H
    have c5b0 := eq_true c5
    have c5b1 : decide ((wrap64 (a1 + 2)) ≤ (a0.size : Int)) = true := decide_eq_true c5
    replace H := Option.bind_eq_some_iff.mp H
    obtain ⟨⟨t111, t112⟩, A60, H⟩ := H
    replace H : (some t111) = some r := H
    have A6 := Aside0.mk A60
    clear A60
    obtain rfl := Option.some.inj H
    go_enter Try.func41, Try.ntmps41
    go_wp2_with (first | ((with_reducible refine gate_callee (f := 36) rfl ?_); refine goesL_ (some 13) rfl rfl Try.func36 (by kernel_rfl) rfl #[.string (a0.extract (a1 : Int).toNat ((wrap64 (a1 + 2)) : Int).toNat)] rfl (by (try simp only [List.map_toArray, List.map_cons, List.map_nil]); first | done | rfl | (simp only [List.length_drop, List.length_take]; rfl)) ?_; (with_reducible refine (field_Get.calls k (a0.extract (a1 : Int).toNat ((wrap64 (a1 + 2)) : Int).toNat) t111 t112 _ A6.out).mono ?_); rintro e w' ⟨rfl, ⟨nd, rfl⟩⟩; refine ⟨_, rfl, ?_⟩))
    go_ret
    exact ⟨by first | rfl | (simp; done) | (simp [*]; done), by repeat (first | exact Drawn0.refl _ | apply Drawn0.step)⟩
   ·rw [if_neg c5] at H
    exact absurd H (by simp)
  ·rw [if_neg c4] at H
   exact absurd H (by simp)
 ·rw [if_neg c3] at H
  exact absurd H (by simp)

/-! ### pcm_May: function 42 -/
def pcm_May.f (a0_0 : Int) (a0_1 : Int) : Option (Bool) := if a0_0 = 1 then (if a0_1 = 8 then (some true) else (some (a0_1 == 16))) else (if a0_0 = 2 then (if a0_1 = 8 then (some true) else (some (a0_1 == 16))) else (some false))
set_option maxHeartbeats 8000000 in
set_option maxRecDepth 100000 in
theorem pcm_May.calls (a0_0 : Int) (a0_1 : Int) (r : Bool) (w : World) (h : pcm_May.f a0_0 a0_1 = some r) :
  Calls Try.prog 42 #[.agg #[.int .i64 a0_0, .int .i64 a0_1]] w fun e w' => e = .returned (.bool r) ∧ Below w.heap.size w w' := by
 have hu37 := Try.underlying37
 have HB := Aside0.mk (Below.refl w.heap.size w)
 have H : (if a0_0 = 1 then (if a0_1 = 8 then (some true) else (some (a0_1 == 16))) else (if a0_0 = 2 then (if a0_1 = 8 then (some true) else (some (a0_1 == 16))) else (some false))) = some r := h
 clear h
 by_cases c2 : a0_0 = 1
 ·rw [if_pos c2] at H
  have c2b0 : (a0_0 == 1) = true := beq_iff_eq.mpr c2
  have c2b1 : (a0_0 != 1) = false := bne_eq_false_iff_eq.mpr c2
  clear c2
  by_cases c3 : a0_1 = 8
  ·rw [if_pos c3] at H
   have c3b0 : (a0_1 == 8) = true := beq_iff_eq.mpr c3
   have c3b1 : (a0_1 != 8) = false := bne_eq_false_iff_eq.mpr c3
   clear c3
   obtain rfl := Option.some.inj H
   go_enter Try.func42, Try.ntmps42
   go_wp2_with (first | ((with_reducible refine gate_dst (N := 1) rfl ?_); refine box_event ?hg (N := 1) ?hd (cs := #[.int .i64 a0_0, .int .i64 a0_1]) (t := 37) ?hr ?_; (case hd => rfl); (case hg => rfl); (case hr => first | (go_simp; done) | (go_simp; rfl)); intro gb113 hg w4 hbox hb; have n0_ := Aside0.mk (below_step (by repeat (first | (with_reducible first | exact HB.out | apply below_alloc | apply pw_below_drewN | apply below_drew1) | exact HB.out)) hb); have n1_ := Aside0.mk (hbox); have n2_ := Aside0.mk ((by rw [hg]; exact (below_size (by repeat (first | (with_reducible first | exact HB.out | apply below_alloc | apply pw_below_drewN | apply below_drew1) | exact HB.out))) : w.heap.size ≤ gb113)); have n3_ := Aside0.mk ((by rw [hg]; exact (below_size (by repeat (first | (with_reducible first | exact HB.out | apply below_alloc | apply pw_below_drewN | apply below_drew1) | exact HB.out))) : w.heap.size ≤ gb113)); clear HB; have HB := n0_; have BK113 := n1_; have GW113 := n2_; have GE113 := n3_; clear n0_ n1_ n2_ n3_; clear hb hbox hg; have hcz5_0 : w4.cell? ⟨gb113, 0, none⟩ = some (.int .i64 a0_0) := (blk_cell BK113.out 0).trans rfl; have hcz5_1 : w4.cell? ⟨gb113, 1, none⟩ = some (.int .i64 a0_1) := (blk_cell BK113.out 1).trans rfl; have hfz5_0 := blk_frozen BK113.out 0; have hfz5_1 := blk_frozen BK113.out 1))
   go_ret
   exact ⟨by first | rfl | (simp [errW_none, errW_some] <;> rfl) | (simp [*, errW_none, errW_some] <;> rfl), by repeat (first | (with_reducible first | exact HB.out | apply below_alloc | apply pw_below_drewN | apply below_drew1 | refine below_set ?_ GE113.out) | exact HB.out)⟩
  ·rw [if_neg c3] at H
   have c3b0 : (a0_1 == 8) = false := beq_eq_false_iff_ne.mpr c3
   have c3b1 : (a0_1 != 8) = true := bne_iff_ne.mpr c3
   obtain rfl := Option.some.inj H
   go_enter Try.func42, Try.ntmps42
   go_wp2_with (first | ((with_reducible refine gate_dst (N := 1) rfl ?_); refine box_event ?hg (N := 1) ?hd (cs := #[.int .i64 a0_0, .int .i64 a0_1]) (t := 37) ?hr ?_; (case hd => rfl); (case hg => rfl); (case hr => first | (go_simp; done) | (go_simp; rfl)); intro gb113 hg w6 hbox hb; have n0_ := Aside0.mk (below_step (by repeat (first | (with_reducible first | exact HB.out | apply below_alloc | apply pw_below_drewN | apply below_drew1) | exact HB.out)) hb); have n1_ := Aside0.mk (hbox); have n2_ := Aside0.mk ((by rw [hg]; exact (below_size (by repeat (first | (with_reducible first | exact HB.out | apply below_alloc | apply pw_below_drewN | apply below_drew1) | exact HB.out))) : w.heap.size ≤ gb113)); have n3_ := Aside0.mk ((by rw [hg]; exact (below_size (by repeat (first | (with_reducible first | exact HB.out | apply below_alloc | apply pw_below_drewN | apply below_drew1) | exact HB.out))) : w.heap.size ≤ gb113)); clear HB; have HB := n0_; have BK113 := n1_; have GW113 := n2_; have GE113 := n3_; clear n0_ n1_ n2_ n3_; clear hb hbox hg; have hcz7_0 : w6.cell? ⟨gb113, 0, none⟩ = some (.int .i64 a0_0) := (blk_cell BK113.out 0).trans rfl; have hcz7_1 : w6.cell? ⟨gb113, 1, none⟩ = some (.int .i64 a0_1) := (blk_cell BK113.out 1).trans rfl; have hfz7_0 := blk_frozen BK113.out 0; have hfz7_1 := blk_frozen BK113.out 1))
   go_ret
   exact ⟨by first | rfl | (simp [errW_none, errW_some] <;> rfl) | (simp [*, errW_none, errW_some] <;> rfl), by repeat (first | (with_reducible first | exact HB.out | apply below_alloc | apply pw_below_drewN | apply below_drew1 | refine below_set ?_ GE113.out) | exact HB.out)⟩
 ·rw [if_neg c2] at H
  have c2b0 : (a0_0 == 1) = false := beq_eq_false_iff_ne.mpr c2
  have c2b1 : (a0_0 != 1) = true := bne_iff_ne.mpr c2
  by_cases c8 : a0_0 = 2
  ·rw [if_pos c8] at H
   have c8b0 : (a0_0 == 2) = true := beq_iff_eq.mpr c8
   have c8b1 : (a0_0 != 2) = false := bne_eq_false_iff_eq.mpr c8
   clear c8
   by_cases c9 : a0_1 = 8
   ·rw [if_pos c9] at H
    have c9b0 : (a0_1 == 8) = true := beq_iff_eq.mpr c9
    have c9b1 : (a0_1 != 8) = false := bne_eq_false_iff_eq.mpr c9
    clear c9
    obtain rfl := Option.some.inj H
    go_enter Try.func42, Try.ntmps42
    go_wp2_with (first | ((with_reducible refine gate_dst (N := 1) rfl ?_); refine box_event ?hg (N := 1) ?hd (cs := #[.int .i64 a0_0, .int .i64 a0_1]) (t := 37) ?hr ?_; (case hd => rfl); (case hg => rfl); (case hr => first | (go_simp; done) | (go_simp; rfl)); intro gb113 hg w10 hbox hb; have n0_ := Aside0.mk (below_step (by repeat (first | (with_reducible first | exact HB.out | apply below_alloc | apply pw_below_drewN | apply below_drew1) | exact HB.out)) hb); have n1_ := Aside0.mk (hbox); have n2_ := Aside0.mk ((by rw [hg]; exact (below_size (by repeat (first | (with_reducible first | exact HB.out | apply below_alloc | apply pw_below_drewN | apply below_drew1) | exact HB.out))) : w.heap.size ≤ gb113)); have n3_ := Aside0.mk ((by rw [hg]; exact (below_size (by repeat (first | (with_reducible first | exact HB.out | apply below_alloc | apply pw_below_drewN | apply below_drew1) | exact HB.out))) : w.heap.size ≤ gb113)); clear HB; have HB := n0_; have BK113 := n1_; have GW113 := n2_; have GE113 := n3_; clear n0_ n1_ n2_ n3_; clear hb hbox hg; have hcz11_0 : w10.cell? ⟨gb113, 0, none⟩ = some (.int .i64 a0_0) := (blk_cell BK113.out 0).trans rfl; have hcz11_1 : w10.cell? ⟨gb113, 1, none⟩ = some (.int .i64 a0_1) := (blk_cell BK113.out 1).trans rfl; have hfz11_0 := blk_frozen BK113.out 0; have hfz11_1 := blk_frozen BK113.out 1))
    go_ret
    exact ⟨by first | rfl | (simp [errW_none, errW_some] <;> rfl) | (simp [*, errW_none, errW_some] <;> rfl), by repeat (first | (with_reducible first | exact HB.out | apply below_alloc | apply pw_below_drewN | apply below_drew1 | refine below_set ?_ GE113.out) | exact HB.out)⟩
   ·rw [if_neg c9] at H
    have c9b0 : (a0_1 == 8) = false := beq_eq_false_iff_ne.mpr c9
    have c9b1 : (a0_1 != 8) = true := bne_iff_ne.mpr c9
    obtain rfl := Option.some.inj H
    go_enter Try.func42, Try.ntmps42
    go_wp2_with (first | ((with_reducible refine gate_dst (N := 1) rfl ?_); refine box_event ?hg (N := 1) ?hd (cs := #[.int .i64 a0_0, .int .i64 a0_1]) (t := 37) ?hr ?_; (case hd => rfl); (case hg => rfl); (case hr => first | (go_simp; done) | (go_simp; rfl)); intro gb113 hg w12 hbox hb; have n0_ := Aside0.mk (below_step (by repeat (first | (with_reducible first | exact HB.out | apply below_alloc | apply pw_below_drewN | apply below_drew1) | exact HB.out)) hb); have n1_ := Aside0.mk (hbox); have n2_ := Aside0.mk ((by rw [hg]; exact (below_size (by repeat (first | (with_reducible first | exact HB.out | apply below_alloc | apply pw_below_drewN | apply below_drew1) | exact HB.out))) : w.heap.size ≤ gb113)); have n3_ := Aside0.mk ((by rw [hg]; exact (below_size (by repeat (first | (with_reducible first | exact HB.out | apply below_alloc | apply pw_below_drewN | apply below_drew1) | exact HB.out))) : w.heap.size ≤ gb113)); clear HB; have HB := n0_; have BK113 := n1_; have GW113 := n2_; have GE113 := n3_; clear n0_ n1_ n2_ n3_; clear hb hbox hg; have hcz13_0 : w12.cell? ⟨gb113, 0, none⟩ = some (.int .i64 a0_0) := (blk_cell BK113.out 0).trans rfl; have hcz13_1 : w12.cell? ⟨gb113, 1, none⟩ = some (.int .i64 a0_1) := (blk_cell BK113.out 1).trans rfl; have hfz13_0 := blk_frozen BK113.out 0; have hfz13_1 := blk_frozen BK113.out 1))
    go_ret
    exact ⟨by first | rfl | (simp [errW_none, errW_some] <;> rfl) | (simp [*, errW_none, errW_some] <;> rfl), by repeat (first | (with_reducible first | exact HB.out | apply below_alloc | apply pw_below_drewN | apply below_drew1 | refine below_set ?_ GE113.out) | exact HB.out)⟩
  ·rw [if_neg c8] at H
   have c8b0 : (a0_0 == 2) = false := beq_eq_false_iff_ne.mpr c8
   have c8b1 : (a0_0 != 2) = true := bne_iff_ne.mpr c8
   obtain rfl := Option.some.inj H
   go_enter Try.func42, Try.ntmps42
   go_wp2_with (first | ((with_reducible refine gate_dst (N := 1) rfl ?_); refine box_event ?hg (N := 1) ?hd (cs := #[.int .i64 a0_0, .int .i64 a0_1]) (t := 37) ?hr ?_; (case hd => rfl); (case hg => rfl); (case hr => first | (go_simp; done) | (go_simp; rfl)); intro gb113 hg w14 hbox hb; have n0_ := Aside0.mk (below_step (by repeat (first | (with_reducible first | exact HB.out | apply below_alloc | apply pw_below_drewN | apply below_drew1) | exact HB.out)) hb); have n1_ := Aside0.mk (hbox); have n2_ := Aside0.mk ((by rw [hg]; exact (below_size (by repeat (first | (with_reducible first | exact HB.out | apply below_alloc | apply pw_below_drewN | apply below_drew1) | exact HB.out))) : w.heap.size ≤ gb113)); have n3_ := Aside0.mk ((by rw [hg]; exact (below_size (by repeat (first | (with_reducible first | exact HB.out | apply below_alloc | apply pw_below_drewN | apply below_drew1) | exact HB.out))) : w.heap.size ≤ gb113)); clear HB; have HB := n0_; have BK113 := n1_; have GW113 := n2_; have GE113 := n3_; clear n0_ n1_ n2_ n3_; clear hb hbox hg; have hcz15_0 : w14.cell? ⟨gb113, 0, none⟩ = some (.int .i64 a0_0) := (blk_cell BK113.out 0).trans rfl; have hcz15_1 : w14.cell? ⟨gb113, 1, none⟩ = some (.int .i64 a0_1) := (blk_cell BK113.out 1).trans rfl; have hfz15_0 := blk_frozen BK113.out 0; have hfz15_1 := blk_frozen BK113.out 1))
   go_ret
   exact ⟨by first | rfl | (simp [errW_none, errW_some] <;> rfl) | (simp [*, errW_none, errW_some] <;> rfl), by repeat (first | (with_reducible first | exact HB.out | apply below_alloc | apply pw_below_drewN | apply below_drew1 | refine below_set ?_ GE113.out) | exact HB.out)⟩

/-! ### pcm_Frame: function 43 -/
def pcm_Frame.f (a0_0 : Int) (a0_1 : Int) : Option (Int) := some (wrap64 (Int.tdiv (wrap64 (a0_0 * a0_1)) 8))
set_option maxHeartbeats 8000000 in
set_option maxRecDepth 100000 in
theorem pcm_Frame.calls (a0_0 : Int) (a0_1 : Int) (r : Int) (w : World) (h : pcm_Frame.f a0_0 a0_1 = some r) :
  Calls Try.prog 43 #[.agg #[.int .i64 a0_0, .int .i64 a0_1]] w fun e w' => e = .returned (.int .i64 r) ∧ Below w.heap.size w w' := by
 have hu37 := Try.underlying37
 have HB := Aside0.mk (Below.refl w.heap.size w)
 have H : (some (wrap64 (Int.tdiv (wrap64 (a0_0 * a0_1)) 8))) = some r := h
 clear h
 obtain rfl := Option.some.inj H
 go_enter Try.func43, Try.ntmps43
 go_wp2_with (first | ((with_reducible refine gate_dst (N := 1) rfl ?_); refine box_event ?hg (N := 1) ?hd (cs := #[.int .i64 a0_0, .int .i64 a0_1]) (t := 37) ?hr ?_; (case hd => rfl); (case hg => rfl); (case hr => first | (go_simp; done) | (go_simp; rfl)); intro gb114 hg w2 hbox hb; have n0_ := Aside0.mk (below_step (by repeat (first | (with_reducible first | exact HB.out | apply below_alloc | apply pw_below_drewN | apply below_drew1) | exact HB.out)) hb); have n1_ := Aside0.mk (hbox); have n2_ := Aside0.mk ((by rw [hg]; exact (below_size (by repeat (first | (with_reducible first | exact HB.out | apply below_alloc | apply pw_below_drewN | apply below_drew1) | exact HB.out))) : w.heap.size ≤ gb114)); have n3_ := Aside0.mk ((by rw [hg]; exact (below_size (by repeat (first | (with_reducible first | exact HB.out | apply below_alloc | apply pw_below_drewN | apply below_drew1) | exact HB.out))) : w.heap.size ≤ gb114)); clear HB; have HB := n0_; have BK114 := n1_; have GW114 := n2_; have GE114 := n3_; clear n0_ n1_ n2_ n3_; clear hb hbox hg; have hcz3_0 : w2.cell? ⟨gb114, 0, none⟩ = some (.int .i64 a0_0) := (blk_cell BK114.out 0).trans rfl; have hcz3_1 : w2.cell? ⟨gb114, 1, none⟩ = some (.int .i64 a0_1) := (blk_cell BK114.out 1).trans rfl; have hfz3_0 := blk_frozen BK114.out 0; have hfz3_1 := blk_frozen BK114.out 1))
 go_ret
 exact ⟨by first | rfl | (simp [errW_none, errW_some] <;> rfl) | (simp [*, errW_none, errW_some] <;> rfl), by repeat (first | (with_reducible first | exact HB.out | apply below_alloc | apply pw_below_drewN | apply below_drew1 | refine below_set ?_ GE114.out) | exact HB.out)⟩

end Go.Proofs.Ytkngkmemcokbfaa.PWv
