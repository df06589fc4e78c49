/- A part of the proof of a law of descanttop: this session's own texts and printed texts, shortened and joined. -/
import Derived.Test.YtnoibcdojfnicaaGreatDoorD3
import Derived.Test.YtnoibcdojfnicaaGreatDoorD4
import Derived.Test.YtnoibcdojfnicaaGreatDoorD5
set_option linter.unusedVariables false
set_option linter.unusedSimpArgs false
namespace Go.Proofs.YtnoibcdojfnicaaGreatDoor.PTp
open Go.Proofs.YtnoibcdojfnicaaGreatDoorW.Short
open Bool renaming true → Y, false → J
open Go Go.RowKit Go.Proofs.YtnoibcdojfnicaaGreatDoorW.PrintWords Go.Proofs.YtnoibcdojfnicaaGreatDoorW.PrintMore Go.Proofs.YtnoibcdojfnicaaGreatDoorW.PrintLast
attribute [-go_sem] Instr.loadAt Instr.storeAt Instr.build
theorem load_u32 (v : Value) : Instr.loadAt 145 v = (do loadVar 145 (← Instr.sureAddr v)) := rfl
theorem store_u32 (v u : Value) : Instr.storeAt 145 v u = (do storeVar 145 (← Instr.sureAddr v) u) := rfl
attribute [local go_sem] load_u32 store_u32
def crcBit (s : Int) : Int := Go.bits .xor .u32 (s / 2) (Go.bits .and .u32 3988292384 (IntKind.u32.wrap (-(Go.bits .and .u32 s 1))))
def crcBits : Nat → Int → Int
 | 0, s => s
 | k + 1, s => crcBit (crcBits k s)
def crcT (j : Nat) : Int := crcBits 4 (j : Int)
def U16 (t : Nat → Int) : Array Value := #[.int .u32 (t 0), .int .u32 (t 1), .int .u32 (t 2), .int .u32 (t 3), .int .u32 (t 4), .int .u32 (t 5), .int .u32 (t 6), .int .u32 (t 7), .int .u32 (t 8), .int .u32 (t 9), .int .u32 (t 10), .int .u32 (t 11), .int .u32 (t 12), .int .u32 (t 13), .int .u32 (t 14), .int .u32 (t 15)]
theorem u16_at (t : Nat → Int) (k : Nat) (h : k < 16) : (U16 t)[k]? = some (.int .u32 (t k)) := by
 rcases show k = 0 ∨ k = 1 ∨ k = 2 ∨ k = 3 ∨ k = 4 ∨ k = 5 ∨ k = 6 ∨ k = 7 ∨ k = 8 ∨ k = 9 ∨ k = 10 ∨ k = 11 ∨ k = 12 ∨ k = 13 ∨ k = 14 ∨ k = 15 by omega with rfl | rfl | rfl | rfl | rfl | rfl | rfl | rfl | rfl | rfl | rfl | rfl | rfl | rfl | rfl | rfl <;> rfl
theorem u16_set (t : Nat → Int) (k : Nat) (h : k < 16) (v : Int) : (U16 t).setIfInBounds k (.int .u32 v) = U16 (fun j => if j = k then v else t j) := by
 rcases show k = 0 ∨ k = 1 ∨ k = 2 ∨ k = 3 ∨ k = 4 ∨ k = 5 ∨ k = 6 ∨ k = 7 ∨ k = 8 ∨ k = 9 ∨ k = 10 ∨ k = 11 ∨ k = 12 ∨ k = 13 ∨ k = 14 ∨ k = 15 by omega with rfl | rfl | rfl | rfl | rfl | rfl | rfl | rfl | rfl | rfl | rfl | rfl | rfl | rfl | rfl | rfl <;> rfl
theorem u16_ext {t u : Nat → Int} (h : ∀ j, j < 16 → t j = u j) : U16 t = U16 u := by
 unfold U16
 rw [h 0 (by decide), h 1 (by decide), h 2 (by decide), h 3 (by decide), h 4 (by decide), h 5 (by decide), h 6 (by decide), h 7 (by decide), h 8 (by decide), h 9 (by decide), h 10 (by decide), h 11 (by decide), h 12 (by decide), h 13 (by decide), h 14 (by decide), h 15 (by decide)]
theorem u16_upto (k : Nat) (hlt : k < 16) : (U16 fun j => if j < k then crcT j else 0).setIfInBounds k (.int .u32 (crcBits 4 (k : Int))) = U16 fun j => if j < k + 1 then crcT j else 0 := by
 rw [u16_set _ k hlt]
 refine u16_ext (fun j _ => ?_)
 by_cases h : j = k
 ·subst h
  rw [if_pos rfl, if_pos (by omega)]
  rfl
 ·rw [if_neg h]
  by_cases h2 : j < k
  ·rw [if_pos h2, if_pos (by omega)]
  ·rw [if_neg h2, if_neg (by omega)]
theorem u16_one (t : Nat → Int) : (U16 t).all (·.oneCell') = true := by simp [U16, Value.oneCell']
set_option maxHeartbeats 4000000 in
theorem half_c (W : World) : Calls Tryz.prog 88 #[] W fun e w' => e = .returned (.agg (U16 crcT)) ∧ Below W.heap.size W w' := by
 go_enter Tryz.func88, Tryz.ntmps88
 go_wp2_with fail
 have B0 := Lib.hid (blk_alloc (blk_new W (.cells (U16 fun _ => 0) 146)) (.cells (U16 fun _ => 0) 146))
 have B1 := Lib.hid (blk_new (W.alloc (.cells (U16 fun _ => 0) 146)) (.cells (U16 fun _ => 0) 146))
 have HB := Lib.hid (below_alloc (below_alloc (Below.refl W.heap.size W) (.cells (U16 fun _ => 0) 146)) (.cells (U16 fun _ => 0) 146))
 rw [show (W.alloc (.cells (U16 fun _ => 0) 146)).heap.size = W.heap.size + 1 by simp] at B1
 go_loopw [4] (fun i wr => ∃ k : Nat, k ≤ 16 ∧ i = .int .i64 k ∧ Hid (wr.heap[W.heap.size]? = some (.cells (U16 fun _ => 0) 146 (0, 0))) ∧ Hid (wr.heap[W.heap.size + 1]? = some (.cells (U16 fun j => if j < k then crcT j else 0) 146 (0, 0))) ∧ Hid (Below W.heap.size W wr)) (fun i _ => 16 - (intOf i).toNat)
 case atStart => exact ⟨0, by omega, rfl, B0, B1, HB⟩
 case round =>
  obtain ⟨k, hk, rfl, b0, b1, hB⟩ := hrel
  by_cases hlt : k < 16
  ·have z1 : W.heap.size < wr.heap.size := blk_lt b0.out
   have z2 : W.heap.size + 1 < wr.heap.size := blk_lt b1.out
   have hw := IntKind.wrap_u32 (k : Int)
   have c1 := (blk_cell b1.out k).trans (u16_at _ k hlt)
   have f1 := blk_frozen b1.out k
   go_wp2_with fail
   rw [show (k : Int) % 4294967296 = k by omega]
   clear hw
   go_loop [3, 9] (fun s i => ∃ m : Nat, m ≤ 4 ∧ i = .int .i64 m ∧ s = .int .u32 (crcBits m (k : Int))) (fun _ i => 4 - (intOf i).toNat)
   case atStart => exact ⟨0, by omega, rfl, rfl⟩
   case round =>
    obtain ⟨m, hm, rfl, rfl⟩ := hrel
    by_cases hlm : m < 4
    ·obtain ⟨s, hs⟩ : ∃ s, s = crcBits m (k : Int) := ⟨_, rfl⟩
     rw [← hs]
     have Hs := Lib.hid hs
     clear hs
     go_wp2_with fail
     go_round
     case rel => exact ⟨m + 1, by omega, by go_num, by show _ = Value.int .u32 (crcBit (crcBits m _)); rw [← Hs.out]; rfl⟩
     case measure => simp [intOf]; omega
    ·obtain rfl : m = 4 := by omega
     go_wp2_with fail
     go_roundw
     case rel => exact ⟨k + 1, by omega, by go_num, Lib.hid (blk_far b0.out (by simp) _), Lib.hid ((blk_set b1.out k _).trans (by rw [u16_upto k hlt])), Lib.hid (hB.out.setCell (by simp) _)⟩
     case measure => simp [intOf]; omega
  ·obtain rfl : k = 16 := by omega
   have e1 : wr.heap[W.heap.size + 1]? = some (.cells (U16 crcT) 146 (0, 0)) := b1.out.trans (by rw [u16_ext (fun j hj => if_pos hj)])
   have l1 := Agg.load_all (P := Tryz.prog) e1 146 _ Tryz.underlying146 rfl kr
   have s1 := Agg.store_all (P := Tryz.prog) b0.out 146 (U16 crcT) kr rfl (u16_one _)
   go_wp2_with fail
   exact bodyPost_ret (v := .agg (U16 crcT)) (Agg.results_c rfl _ _ W.heap.size 146 (U16 crcT) (0, 0) _ rfl (Agg.blk_row b0.out _) Tryz.underlying146 rfl kr) rfl ⟨rfl, Agg.below_row hB.out (Nat.le_refl _) _⟩
def crcHalf (s : Int) : Int := Go.bits .xor .u32 (s / 16) (crcT (Go.bits .and .u32 s 15).toNat)
def crcRun : List UInt8 → Int → Int
 | [], s => s
 | b :: r, s => crcRun r (crcHalf (crcHalf (Go.bits .xor .u32 s (b.toNat : Int))))
def crcF (s : ByteArray) : Int := wrap64 (Go.bits .xor .u32 IntKind.u32.max (crcRun s.toList 4294967295))
theorem store16 (w : World) (u : Nat → Int) : (Instr.storeAt 146 (.pointer (some ⟨w.heap.size, 0, none⟩)) (.agg (U16 u))).run Tryz.prog (w.alloc (.cells #[.int .u32 0, .int .u32 0, .int .u32 0, .int .u32 0, .int .u32 0, .int .u32 0, .int .u32 0, .int .u32 0, .int .u32 0, .int .u32 0, .int .u32 0, .int .u32 0, .int .u32 0, .int .u32 0, .int .u32 0, .int .u32 0] 146 (0, 0))) = .ok () (w.alloc (.cells (U16 u) 146 (0, 0))) := run_storeAt_new w 146 (U16 fun _ => 0) (U16 u) kr rfl (u16_one u)
attribute [local go_sem high] store16
attribute [-go_sem] Instr.build
theorem and15 (x : Int) : 0 ≤ Go.bits .and .u32 x 15 ∧ Go.bits .and .u32 x 15 < 16 := by
 have h : Go.bits .and .u32 x 15 = ((BitVec.ofInt 32 x &&& BitVec.ofInt 32 15).toNat : Int) := by
  show IntKind.u32.wrap (((BitVec.ofInt 32 x &&& BitVec.ofInt 32 15).toNat : Nat) : Int) = _
  rw [IntKind.wrap_u32]
  have := (BitVec.ofInt 32 x &&& BitVec.ofInt 32 15).isLt
  omega
 rw [h, BitVec.toNat_and]
 have := Nat.and_le_right (n := (BitVec.ofInt 32 x).toNat) (m := (BitVec.ofInt 32 15).toNat)
 have e : (BitVec.ofInt 32 15).toNat = 15 := by decide
 rw [e] at this ⊢
 omega
theorem size_list (s : ByteArray) : s.toList.length = s.size := by rw [ByteArray.toList_eq, Array.length_toList]; rfl
theorem drop_byte (s : ByteArray) {k : Nat} (h : k < s.size) : s.toList.drop k = s[k] :: s.toList.drop (k + 1) := by
 rw [List.drop_eq_getElem_cons (by rw [size_list]; exact h)]
 congr 1
 simp only [ByteArray.toList_eq]
 rw [Array.getElem_toList]
 rfl
theorem sum_c (s : ByteArray) (hs : s.size ≤ 281474976710656) (W : World) : Calls Tryz.prog 33 #[.string s] W fun e w' => e = .returned (.int .i64 (crcF s)) ∧ Below W.heap.size W w' := by
 go_enter Tryz.func33, Tryz.ntmps33
 go_wp2_with (go_at_call 88; refine (half_c _).mono ?_; rintro e w1 ⟨rfl, hb⟩)
 have B1 := Lib.hid (blk_new w1 (.cells (U16 crcT) 146))
 have HB := Lib.hid (below_alloc hb (.cells (U16 crcT) 146))
 obtain ⟨n, hn⟩ : ∃ n, n = w1.heap.size := ⟨_, rfl⟩
 rw [← hn] at B1 ⊢
 generalize w1.alloc (.cells (U16 crcT) 146) = w2 at B1 HB ⊢
 clear hb hn
 go_loop [4, 9] (fun x i => ∃ (k : Nat) (y : Int), k ≤ s.size ∧ i = .int .i64 k ∧ x = .int .u32 y ∧ Hid (crcRun s.toList 4294967295 = crcRun (s.toList.drop k) y)) (fun _ i => s.size - (intOf i).toNat)
 case atStart => exact ⟨0, 4294967295, by omega, rfl, rfl, Lib.hid rfl⟩
 case round =>
  obtain ⟨k, y, hk, rfl, rfl, hT⟩ := hrel
  by_cases hlt : k < s.size
  ·have q1 := fun x => (and15 x).1
   have q2 := fun x => (and15 x).2
   have c1 : ∀ x, w2.cell? ⟨n, (Go.bits .and .u32 x 15).toNat, none⟩ = some (.int .u32 (crcT (Go.bits .and .u32 x 15).toNat)) := fun x => (blk_cell B1.out _).trans (u16_at _ _ (by have := and15 x; omega))
   obtain ⟨b, hb⟩ : ∃ b, b = s[k] := ⟨_, rfl⟩
   have hT2 := hT.out
   rw [drop_byte s hlt, ← hb] at hT2
   have HT := Lib.hid hT2
   clear hT hT2
   have hb2 : b.toNat < 256 := b.toNat_lt
   have hb3 : (b.toNat : Int) % 4294967296 = b.toNat := by omega
   go_wp2_with fail
   rw [← hb, hb3]
   go_round
   case rel => exact ⟨k + 1, _, by omega, by go_num, rfl, HT⟩
   case measure => simp [intOf]; omega
  ·obtain rfl : k = s.size := by omega
   go_wp2_with fail
   rw [List.drop_eq_nil_of_le (by rw [size_list]; exact Nat.le_refl _)] at hT
   go_ret
   exact ⟨by unfold crcF; rw [hT.out]; rfl, HB.out⟩
end Go.Proofs.YtnoibcdojfnicaaGreatDoor.PTp
namespace Go.Proofs.YtnoibcdojfnicaaGreatDoor.PG
open Go.Proofs.YtnoibcdojfnicaaGreatDoorW.Short
open Bool renaming true → Y, false → J
open Go.RowKit Go.Proofs.YtnoibcdojfnicaaGreatDoorW.PrintWords Go.Proofs.YtnoibcdojfnicaaGreatDoorW.PrintLast Go.Proofs.YtnoibcdojfnicaaGreatDoorW.PrintMore
attribute [local go_sem] max2_int min2_int max_two min_two max_three min_three max_four min_four
def segment_sound_frame.f (a0_0 : ByteArray) (a0_1 : Int) (a0_2 : Int) : Option (Int) := (pcm_Frame.f a0_1 a0_2).bind fun t118 => (some t118)
set_option maxHeartbeats 8000000 in
set_option maxRecDepth 100000 in
theorem segment_sound_frame.calls (a0_0 : ByteArray) (a0_1 : Int) (a0_2 : Int) (r : Int) (w : World) (h : segment_sound_frame.f a0_0 a0_1 a0_2 = some r) :
  Calls Tryz.prog 79 #[.agg #[.string a0_0, .int .i64 a0_1, .int .i64 a0_2]] w fun e w' => e = .returned (.int .i64 r) ∧ Below w.heap.size w w' := by
 have hu133 := Tryz.underlying133
 have hu69 := Tryz.underlying69
 have HB := Aside0.mk (Below.refl w.heap.size w)
 have H : ((pcm_Frame.f a0_1 a0_2).bind fun t118 => (some t118)) = some r := h
 clear h
 replace H := Option.bind_eq_some_iff.mp H
 obtain ⟨t118, A20, H⟩ := H
 replace H : (some t118) = some r := H
 have A2 := Aside0.mk A20
 clear A20
 obtain rfl := Option.some.inj H
 go_enter Tryz.func79, Tryz.ntmps79
 go_wp2_with (first | ((with_reducible refine gate_dst (N := 1) rfl ?_); refine box_event ?hg (N := 1) ?hd (cs := #[.string a0_0, .int .i64 a0_1, .int .i64 a0_2]) (t := 133) ?hr ?_; (case hd => rfl); (case hg => rfl); (case hr => first | (go_simp; done) | (go_simp; rfl)); intro gb117 hg w3 hbox hb; have n0_ := Aside0.mk (below_step b24_ hb); have n1_ := Aside0.mk (hbox); have n2_ := Aside0.mk ((by rw [hg]; exact (below_size b24_) : w.heap.size ≤ gb117)); have n3_ := Aside0.mk ((by rw [hg]; exact (below_size b24_) : w.heap.size ≤ gb117)); clear HB; have HB := n0_; have BK117 := n1_; have GW117 := n2_; have GE117 := n3_; clear n0_ n1_ n2_ n3_; clear hb hbox hg; have hcz4_0 : w3.cell? ⟨gb117, 0, none⟩ = some (.string a0_0) := (blk_cell BK117.out 0).trans rfl; have hcz4_1 : w3.cell? ⟨gb117, 1, none⟩ = some (.int .i64 a0_1) := (blk_cell BK117.out 1).trans rfl; have hcz4_2 : w3.cell? ⟨gb117, 2, none⟩ = some (.int .i64 a0_2) := (blk_cell BK117.out 2).trans rfl; have hfz4_0 := blk_frozen BK117.out 0; have hfz4_1 := blk_frozen BK117.out 1; have hfz4_2 := blk_frozen BK117.out 2) | ((with_reducible refine gate_callee (f := 75) rfl ?_); refine goesL_ (some 5) rfl rfl Tryz.func75 kr rfl #[.agg #[.int .i64 a0_1, .int .i64 a0_2]] rfl b22_ ?_; (with_reducible refine (pcm_Frame.calls a0_1 a0_2 t118 _ A2.out).mono ?_); rintro e w5 ⟨rfl, hb⟩; refine ⟨_, rfl, ?_⟩; have n0_ := Aside0.mk (blk_below (g := gb117) (o := .cells #[.string a0_0, .int .i64 a0_1, .int .i64 a0_2] 133 (0, 0)) (by (with_reducible repeat (first | refine blk_drewN ?_ _ | refine blk_drew ?_ | refine blk_alloc ?_ _)); exact BK117.out) hb); have n1_ := Aside0.mk (below_step (by repeat (first | (with_reducible first | exact HB.out | apply below_alloc | apply pw_below_drewN | apply below_drew1 | refine below_set ?_ GE117.out) | exact HB.out)) hb); clear BK117; clear HB; have BK117 := n0_; have HB := n1_; clear n0_ n1_; (try clear hb); (try clear hb2); (try clear hk); (try clear hi)))
 go_ret
 exact ⟨b48_, by repeat (first | (with_reducible first | exact HB.out | apply below_alloc | apply pw_below_drewN | apply below_drew1 | refine below_set ?_ GE117.out) | exact HB.out)⟩
def segment_sound_many.f (a0_0 : ByteArray) (a0_1 : Int) (a0_2 : Int) : Option (Int) := (segment_sound_frame.f a0_0 a0_1 a0_2).bind fun t120 => (if t120 = 0 then (none) else (some (wrap64 ((a0_0.size : Int) / t120))))
set_option maxHeartbeats 8000000 in
set_option maxRecDepth 100000 in
theorem segment_sound_many.calls (a0_0 : ByteArray) (a0_1 : Int) (a0_2 : Int) (r : Int) (w : World) (h : segment_sound_many.f a0_0 a0_1 a0_2 = some r) :
  Calls Tryz.prog 78 #[.agg #[.string a0_0, .int .i64 a0_1, .int .i64 a0_2]] w fun e w' => e = .returned (.int .i64 r) ∧ Below w.heap.size w w' := by
 have hu133 := Tryz.underlying133
 have HB := Aside0.mk (Below.refl w.heap.size w)
 have H : ((segment_sound_frame.f a0_0 a0_1 a0_2).bind fun t120 => (if t120 = 0 then (none) else (some (wrap64 ((a0_0.size : Int) / t120))))) = some r := h
 clear h
 replace H := Option.bind_eq_some_iff.mp H
 obtain ⟨t120, A20, H⟩ := H
 replace H : (if t120 = 0 then (none) else (some (wrap64 ((a0_0.size : Int) / t120)))) = some r := H
 have A2 := Aside0.mk A20
 clear A20
 by_cases c3 : t120 = 0
 ·rw [if_pos c3] at H
  exact absurd H (by simp)
 ·rw [if_neg c3] at H
  have c3b0 : (t120 == 0) = false := beq_eq_false_iff_ne.mpr c3
  have c3b1 : (t120 != 0) = true := bne_iff_ne.mpr c3
  obtain rfl := Option.some.inj H
  go_enter Tryz.func78, Tryz.ntmps78
  try go_wp2_with (first | ((with_reducible refine gate_dst (N := 1) rfl ?_); refine box_event ?hg (N := 1) ?hd (cs := #[.string a0_0, .int .i64 a0_1, .int .i64 a0_2]) (t := 133) ?hr ?_; (case hd => rfl); (case hg => rfl); (case hr => first | (go_simp; done) | (go_simp; rfl)); intro gb119 hg w4 hbox hb; have n0_ := Aside0.mk (below_step b24_ hb); have n1_ := Aside0.mk (hbox); have n2_ := Aside0.mk ((by rw [hg]; exact (below_size b24_) : w.heap.size ≤ gb119)); have n3_ := Aside0.mk ((by rw [hg]; exact (below_size b24_) : w.heap.size ≤ gb119)); clear HB; have HB := n0_; have BK119 := n1_; have GW119 := n2_; have GE119 := n3_; clear n0_ n1_ n2_ n3_; clear hb hbox hg))
  have n0_ := Aside0.mk (blk_drew BK119.out)
  have n1_ := Aside0.mk (below_drew1 HB.out)
  clear BK119
  clear HB
  have BK119 := n0_
  have HB := n1_
  clear n0_ n1_
  refine start_ (n := 7) (S := fun w' => w'.cell? ⟨gb119, 0, none⟩ = some (.string a0_0) ∧ w'.cell? ⟨gb119, 1, none⟩ = some (.int .i64 a0_1) ∧ w'.cell? ⟨gb119, 2, none⟩ = some (.int .i64 a0_2)) (ds := []) #[J,J,J,J,J,J,J] kr rfl rfl ⟨(blk_cell BK119.out 0).trans rfl, (blk_cell BK119.out 1).trans rfl, (blk_cell BK119.out 2).trans rfl⟩ (fun hHeld => ?_)
  generalize w4.drew = w5 at BK119 HB hHeld ⊢
  refine pure_ (i := 0) (N := some 3) (v := ?_) (a' := ?_) #[Y,J,J,J,J,J,J] rfl rfl kr (fun _ _ _ h => h) (Or.inl ⟨by rfl, ?_⟩) ?_ ?_
  rotate_left
  ·intro w'
   go_simp
   with_reducible rfl
  rotate_left
  ·exact pT
  refine take_ (i := 1) (N := some 4) (v := ?_) (a' := ?_) #[Y,Y,J,J,J,J,J] rfl rfl kr (fun _ _ _ h => h) (Or.inl ⟨by rfl, ?_⟩) hHeld ?_ ?_
  rotate_left
  ·rintro w' ⟨s0, s1, s2⟩
   go_simp
   with_reducible rfl
  rotate_left
  ·exact pT
  refine pure_ (i := 2) (N := some 5) (v := ?_) (a' := ?_) #[Y,Y,Y,J,J,J,J] rfl rfl kr (fun _ _ _ h => h) (Or.inl ⟨by rfl, ?_⟩) ?_ ?_
  rotate_left
  ·intro w'
   go_simp
   with_reducible rfl
  rotate_left
  ·exact pT
  refine take_ (i := 3) (N := some 6) (v := ?_) (a' := ?_) #[Y,Y,Y,Y,J,J,J] rfl rfl kr (fun _ _ _ h => h) (Or.inl ⟨by rfl, ?_⟩) hHeld ?_ ?_
  rotate_left
  ·rintro w' ⟨s0, s1, s2⟩
   go_simp
   with_reducible rfl
  rotate_left
  ·exact pT
  refine one_ (i := 4) (N := some 7) #[Y,Y,Y,Y,Y,J,J] rfl rfl kr (by decide) (fun K hK => ?_)
  refine goes_ Tryz.func79 kr rfl #[.agg #[.string a0_0, .int .i64 a0_1, .int .i64 a0_2]] (by rfl) rfl rfl b22_ ?_
  with_reducible refine (segment_sound_frame.calls a0_0 a0_1 a0_2 t120 _ A2.out).mono ?_
  rintro e w6 ⟨rfl, hb⟩
  refine ⟨_, rfl, ?_⟩
  have n0_ := Aside0.mk (blk_below (g := gb119) (o := .cells #[.string a0_0, .int .i64 a0_1, .int .i64 a0_2] 133 (0, 0)) (by (with_reducible repeat (first | refine blk_drewN ?_ _ | refine blk_drew ?_ | refine blk_alloc ?_ _)); exact BK119.out) hb)
  have n1_ := Aside0.mk (below_step (by repeat (first | (with_reducible first | exact HB.out | apply below_alloc | apply pw_below_drewN | apply below_drew1 | refine below_set ?_ GE119.out) | exact HB.out)) hb)
  clear BK119
  clear HB
  have BK119 := n0_
  have HB := n1_
  clear n0_ n1_
  (try clear hb)
  (try clear hb2)
  (try clear hk)
  (try clear hi)
  refine hK.out _ _ ⟨(blk_cell BK119.out 0).trans rfl, (blk_cell BK119.out 1).trans rfl, (blk_cell BK119.out 2).trans rfl⟩ (fun hHeld => ?_)
  clear hK K
  refine norm_ (a' := ?_) ?_ ?_
  rotate_left
  ·show Act.put _ (some 7) _ = _
   exact pT
  refine pure_ (i := 5) (N := some 8) (v := ?_) (a' := ?_) #[Y,Y,Y,Y,Y,Y,J] rfl rfl kr (fun _ _ _ h => h) (Or.inl ⟨by rfl, ?_⟩) ?_ ?_
  rotate_left
  ·intro w'
   go_simp
   with_reducible rfl
  rotate_left
  ·exact pT
  refine pure_ (i := 6) (N := some 2) (v := ?_) (a' := ?_) #[Y,Y,Y,Y,Y,Y,Y] rfl rfl kr (fun _ _ _ h => h) (Or.inl ⟨by rfl, ?_⟩) ?_ ?_
  rotate_left
  ·intro w'
   go_simp
   with_reducible rfl
  rotate_left
  ·exact pT
  refine done_ kr ?_
  try go_wp2
  go_ret
  exact ⟨b48_, by repeat (first | (with_reducible first | exact HB.out | apply below_alloc | apply pw_below_drewN | apply below_drew1 | refine below_set ?_ GE119.out) | exact HB.out)⟩
def stringslite_HasPrefix.f (a0 : ByteArray) (a1 : ByteArray) : Option (Bool) := if (a0.size : Int) ≥ (a1.size : Int) then (if 0 ≤ (a1.size : Int) then (if (a1.size : Int) ≤ (a0.size : Int) then (some ((a0.extract 0 ((a1.size : Int) : Int).toNat).toList == a1.toList)) else (none)) else (none)) else (some false)
set_option maxHeartbeats 8000000 in
set_option maxRecDepth 100000 in
theorem stringslite_HasPrefix.calls (a0 : ByteArray) (a1 : ByteArray) (r : Bool) (w : World) (h : stringslite_HasPrefix.f a0 a1 = some r) :
  Calls Tryz.prog 140 #[.string a0, .string a1] w fun e w' => e = .returned (.bool r) ∧ Drawn0 w w' := by
 have H : (if (a0.size : Int) ≥ (a1.size : Int) then (if 0 ≤ (a1.size : Int) then (if (a1.size : Int) ≤ (a0.size : Int) then (some ((a0.extract 0 ((a1.size : Int) : Int).toNat).toList == a1.toList)) else (none)) else (none)) else (some false)) = some r := h
 clear h
 by_cases c3 : (a0.size : Int) ≥ (a1.size : Int)
 ·rw [if_pos c3] at H
  have c3b0 : decide ((a1.size : Int) ≤ (a0.size : Int)) = true := decide_eq_true c3
  have c3b1 : decide (a1.size ≤ a0.size) = true := decide_eq_true (Int.ofNat_le.mp c3)
  clear c3
  by_cases c4 : 0 ≤ (a1.size : Int)
  ·rw [if_pos c4] at H
   have c4b0 := eq_true c4
   have c4b1 : decide (0 ≤ (a1.size : Int)) = true := decide_eq_true c4
   clear c4
   by_cases c5 : (a1.size : Int) ≤ (a0.size : Int)
   ·rw [if_pos c5] at H
    have c5b0 := eq_true c5
    have c5b1 : decide ((a1.size : Int) ≤ (a0.size : Int)) = true := decide_eq_true c5
    clear c5
    obtain rfl := Option.some.inj H
    go_enter Tryz.func140, Tryz.ntmps140
    go_wp2
    go_ret
    exact ⟨b57_, b52_⟩
   ·rw [if_neg c5] at H
    exact absurd H (by simp)
  ·rw [if_neg c4] at H
   exact absurd H (by simp)
 ·rw [if_neg c3] at H
  have c3b0 : decide ((a1.size : Int) ≤ (a0.size : Int)) = false := decide_eq_false c3
  have c3b1 : decide (a1.size ≤ a0.size) = false := decide_eq_false (fun h => c3 (Int.ofNat_le.mpr h))
  clear c3
  obtain rfl := Option.some.inj H
  go_enter Tryz.func140, Tryz.ntmps140
  go_wp2
  go_ret
  exact ⟨b57_, b52_⟩
def strings_HasPrefix.f (a0 : ByteArray) (a1 : ByteArray) : Option (Bool) := (stringslite_HasPrefix.f a0 a1).bind fun t121 => (some t121)
set_option maxHeartbeats 8000000 in
set_option maxRecDepth 100000 in
theorem strings_HasPrefix.calls (a0 : ByteArray) (a1 : ByteArray) (r : Bool) (w : World) (h : strings_HasPrefix.f a0 a1 = some r) :
  Calls Tryz.prog 98 #[.string a0, .string a1] w fun e w' => e = .returned (.bool r) ∧ Drawn0 w w' := by
 have H : ((stringslite_HasPrefix.f a0 a1).bind fun t121 => (some t121)) = some r := h
 clear h
 replace H := Option.bind_eq_some_iff.mp H
 obtain ⟨t121, A30, H⟩ := H
 replace H : (some t121) = some r := H
 have A3 := Aside0.mk A30
 clear A30
 obtain rfl := Option.some.inj H
 go_enter Tryz.func98, Tryz.ntmps98
 go_wp2_with (first | ((with_reducible refine gate_callee (f := 140) rfl ?_); refine goesL_ (some 7) rfl rfl Tryz.func140 kr rfl #[.string a0, .string a1] rfl b22_ ?_; (with_reducible refine (stringslite_HasPrefix.calls a0 a1 t121 _ A3.out).mono ?_); rintro e w' ⟨rfl, ⟨nd, rfl⟩⟩; refine ⟨_, rfl, ?_⟩))
 go_ret
 exact ⟨b57_, b52_⟩
def strings_Repeat.f (a0 : ByteArray) (a1 : Int) : Option ByteArray := if 0 ≤ a1 ∧ a1 ≤ 9223372036854775807 ∧ a0.size * a1.toNat ≤ 140737488355328 then some ⟨(Lib.repeatL a0.data.toList a1.toNat).toArray⟩ else none
theorem strings_Repeat.calls (a0 : ByteArray) (a1 : Int) (r : ByteArray) (w : World) (h : strings_Repeat.f a0 a1 = some r) :
  Calls Tryz.prog 125 #[.string a0, .int .i64 a1] w fun e w' => e = .returned (.string r) ∧ Below w.heap.size w w' := by
 unfold strings_Repeat.f at h
 split at h
 · rename_i hc
   obtain rfl := Option.some.inj h
   have h2 := Tryz.strings_Repeat a0 a1.toNat w (by omega) hc.2.2
   rw [Int.toNat_of_nonneg hc.1] at h2
   exact h2
 · cases h
def segment_sound_constant.f (a0_0 : ByteArray) (a0_1 : Int) (a0_2 : Int) : Option (Bool) := (segment_sound_frame.f a0_0 a0_1 a0_2).bind fun t125 => (if 0 ≤ t125 then (if t125 ≤ (a0_0.size : Int) then ((segment_sound_many.f a0_0 a0_1 a0_2).bind fun t126 => ((strings_Repeat.f (a0_0.extract 0 (t125 : Int).toNat) t126).bind fun t127 => (some (a0_0.toList == t127.toList)))) else (none)) else (none))
def segment_sound_constant.T1 : Bool × List (List Nat × List Nat) := (true, [([], []), ([0], [0]), ([], []), ([2], [2]), ([], []), ([4], [4]), ([3, 5], [3, 5]), ([], []), ([7, 5], [7]), ([6, 8, 8], [6, 8]), ([1, 9], [1, 9]), ([10, 9, 0, 1, 2, 3, 4, 5, 6, 7, 8, 9, 10], [10])])
def segment_sound_constant.B1 : List Nat := [0, 1, 0, 4, 0, 16, 60, 0, 176, 508, 1023, 2047]
theorem segment_sound_constant.tab1 : rtab .any (opsOf Tryz.f76 1) = segment_sound_constant.T1 := by kernel_rfl
theorem segment_sound_constant.bits1 : waitsOk segment_sound_constant.T1.2 segment_sound_constant.B1 = true := by kernel_rfl
set_option maxHeartbeats 8000000 in
set_option maxRecDepth 100000 in
theorem segment_sound_constant.calls (a0_0 : ByteArray) (a0_1 : Int) (a0_2 : Int) (r : Bool) (w : World) (h : segment_sound_constant.f a0_0 a0_1 a0_2 = some r) :
  Calls Tryz.prog 76 #[.agg #[.string a0_0, .int .i64 a0_1, .int .i64 a0_2]] w fun e w' => e = .returned (.bool r) ∧ Below w.heap.size w w' := by
 have hu133 := Tryz.underlying133
 have HB := Aside0.mk (Below.refl w.heap.size w)
 have H : ((segment_sound_frame.f a0_0 a0_1 a0_2).bind fun t125 => (if 0 ≤ t125 then (if t125 ≤ (a0_0.size : Int) then ((segment_sound_many.f a0_0 a0_1 a0_2).bind fun t126 => ((strings_Repeat.f (a0_0.extract 0 (t125 : Int).toNat) t126).bind fun t127 => (some (a0_0.toList == t127.toList)))) else (none)) else (none))) = some r := h
 clear h
 replace H := Option.bind_eq_some_iff.mp H
 obtain ⟨t125, A20, H⟩ := H
 replace H : (if 0 ≤ t125 then (if t125 ≤ (a0_0.size : Int) then ((segment_sound_many.f a0_0 a0_1 a0_2).bind fun t126 => ((strings_Repeat.f (a0_0.extract 0 (t125 : Int).toNat) t126).bind fun t127 => (some (a0_0.toList == t127.toList)))) else (none)) else (none)) = some r := H
 have A2 := Aside0.mk A20
 clear A20
 by_cases c3 : 0 ≤ t125
 ·rw [if_pos c3] at H
  have c3b0 := eq_true c3
  have c3b1 : decide (0 ≤ t125) = true := decide_eq_true c3
  clear c3
  by_cases c4 : t125 ≤ (a0_0.size : Int)
  ·rw [if_pos c4] at H
   have c4b0 := eq_true c4
   have c4b1 : decide (t125 ≤ (a0_0.size : Int)) = true := decide_eq_true c4
   clear c4
   replace H := Option.bind_eq_some_iff.mp H
   obtain ⟨t126, A50, H⟩ := H
   replace H : ((strings_Repeat.f (a0_0.extract 0 (t125 : Int).toNat) t126).bind fun t127 => (some (a0_0.toList == t127.toList))) = some r := H
   have A5 := Aside0.mk A50
   clear A50
   replace H := Option.bind_eq_some_iff.mp H
   obtain ⟨t127, A60, H⟩ := H
   replace H : (some (a0_0.toList == t127.toList)) = some r := H
   have A6 := Aside0.mk A60
   clear A60
   obtain rfl := Option.some.inj H
   go_enter Tryz.func76, Tryz.ntmps76
   try go_wp2_with (first | ((with_reducible refine gate_dst (N := 1) rfl ?_); refine box_event ?hg (N := 1) ?hd (cs := #[.string a0_0, .int .i64 a0_1, .int .i64 a0_2]) (t := 133) ?hr ?_; (case hd => rfl); (case hg => rfl); (case hr => first | (go_simp; done) | (go_simp; rfl)); intro gb124 hg w7 hbox hb; have n0_ := Aside0.mk (below_step b24_ hb); have n1_ := Aside0.mk (hbox); have n2_ := Aside0.mk ((by rw [hg]; exact (below_size b24_) : w.heap.size ≤ gb124)); have n3_ := Aside0.mk ((by rw [hg]; exact (below_size b24_) : w.heap.size ≤ gb124)); clear HB; have HB := n0_; have BK124 := n1_; have GW124 := n2_; have GE124 := n3_; clear n0_ n1_ n2_ n3_; clear hb hbox hg))
   have n0_ := Aside0.mk (blk_drew BK124.out)
   have n1_ := Aside0.mk (below_drew1 HB.out)
   clear BK124
   clear HB
   have BK124 := n0_
   have HB := n1_
   clear n0_ n1_
   refine start_ (n := 12) (S := fun w' => w'.cell? ⟨gb124, 0, none⟩ = some (.string a0_0) ∧ w'.cell? ⟨gb124, 1, none⟩ = some (.int .i64 a0_1) ∧ w'.cell? ⟨gb124, 2, none⟩ = some (.int .i64 a0_2)) (ds := []) #[J,J,J,J,J,J,J,J,J,J,J,J] kr rfl rfl ⟨(blk_cell BK124.out 0).trans rfl, (blk_cell BK124.out 1).trans rfl, (blk_cell BK124.out 2).trans rfl⟩ (fun hHeld => ?_); refine with_tabW segment_sound_constant.tab1 segment_sound_constant.bits1 (fun HT_ HW_ => ?_)
   generalize w7.drew = w8 at BK124 HB hHeld ⊢
   refine pu_ 0 3 #[Y,J,J,J,J,J,J,J,J,J,J,J] HT_ ?_
   refine pu_ 2 5 #[Y,J,Y,J,J,J,J,J,J,J,J,J] HT_ ?_
   refine take_ (i := 1) (N := some 4) (v := ?_) (a' := ?_) #[Y,Y,Y,J,J,J,J,J,J,J,J,J] rfl rfl (take_ofW HT_.out HW_.out kr) (fun _ _ _ h => h) (Or.inl ⟨by rfl, ?_⟩) hHeld ?_ ?_
   rotate_left
   ·rintro w' ⟨s0, s1, s2⟩
    go_simp
    with_reducible rfl
   rotate_left
   ·exact pT
   refine take_ (i := 3) (N := some 6) (v := ?_) (a' := ?_) #[Y,Y,Y,Y,J,J,J,J,J,J,J,J] rfl rfl (take_ofW HT_.out HW_.out kr) (fun _ _ _ h => h) (Or.inl ⟨by rfl, ?_⟩) hHeld ?_ ?_
   rotate_left
   ·rintro w' ⟨s0, s1, s2⟩
    go_simp
    with_reducible rfl
   rotate_left
   ·exact pT
   refine take_ (i := 4) (N := some 7) (v := ?_) (a' := ?_) #[Y,Y,Y,Y,Y,J,J,J,J,J,J,J] rfl rfl (take_ofW HT_.out HW_.out kr) (fun _ _ _ h => h) (Or.inl ⟨by rfl, ?_⟩) hHeld ?_ ?_
   rotate_left
   ·rintro w' ⟨s0, s1, s2⟩
    go_simp
    with_reducible rfl
   rotate_left
   ·exact pT
   refine take_ (i := 7) (N := some 10) (v := ?_) (a' := ?_) #[Y,Y,Y,Y,Y,J,J,Y,J,J,J,J] rfl rfl (take_ofW HT_.out HW_.out kr) (fun _ _ _ h => h) (Or.inl ⟨by rfl, ?_⟩) hHeld ?_ ?_
   rotate_left
   ·rintro w' ⟨s0, s1, s2⟩
    go_simp
    with_reducible rfl
   rotate_left
   ·exact pT
   refine one_ (i := 5) (N := some 8) #[Y,Y,Y,Y,Y,Y,J,Y,J,J,J,J] rfl rfl (one_of HT_.out kr) (by decide) (fun K hK => ?_)
   refine goes_ Tryz.func79 kr rfl #[.agg #[.string a0_0, .int .i64 a0_1, .int .i64 a0_2]] (by rfl) rfl rfl b22_ ?_
   with_reducible refine (segment_sound_frame.calls a0_0 a0_1 a0_2 t125 _ A2.out).mono ?_
   rintro e w9 ⟨rfl, hb⟩
   refine ⟨_, rfl, ?_⟩
   have n0_ := Aside0.mk (blk_below (g := gb124) (o := .cells #[.string a0_0, .int .i64 a0_1, .int .i64 a0_2] 133 (0, 0)) b31_ hb)
   have n1_ := Aside0.mk (below_step b7_ hb)
   clear BK124
   clear HB
   have BK124 := n0_
   have HB := n1_
   clear n0_ n1_
   (try clear hb)
   (try clear hb2)
   (try clear hk)
   (try clear hi)
   refine hK.out _ _ ⟨(blk_cell BK124.out 0).trans rfl, (blk_cell BK124.out 1).trans rfl, (blk_cell BK124.out 2).trans rfl⟩ (fun hHeld => ?_)
   clear hK K
   refine norm_ (a' := ?_) ?_ ?_
   rotate_left
   ·show Act.put _ (some 8) _ = _
    exact pT
   refine pu_ 6 9 #[Y,Y,Y,Y,Y,Y,Y,Y,J,J,J,J] HT_ ?_
   refine one_ (i := 8) (N := some 11) #[Y,Y,Y,Y,Y,Y,Y,Y,Y,J,J,J] rfl rfl (one_of HT_.out kr) (by decide) (fun K hK => ?_)
   refine goes_ Tryz.func78 kr rfl #[.agg #[.string a0_0, .int .i64 a0_1, .int .i64 a0_2]] (by rfl) rfl rfl b22_ ?_
   with_reducible refine (segment_sound_many.calls a0_0 a0_1 a0_2 t126 _ A5.out).mono ?_
   rintro e w10 ⟨rfl, hb⟩
   refine ⟨_, rfl, ?_⟩
   have n0_ := Aside0.mk (blk_below (g := gb124) (o := .cells #[.string a0_0, .int .i64 a0_1, .int .i64 a0_2] 133 (0, 0)) b31_ hb)
   have n1_ := Aside0.mk (below_step b7_ hb)
   clear BK124
   clear HB
   have BK124 := n0_
   have HB := n1_
   clear n0_ n1_
   (try clear hb)
   (try clear hb2)
   (try clear hk)
   (try clear hi)
   refine hK.out _ _ ⟨(blk_cell BK124.out 0).trans rfl, (blk_cell BK124.out 1).trans rfl, (blk_cell BK124.out 2).trans rfl⟩ (fun hHeld => ?_)
   clear hK K
   refine norm_ (a' := ?_) ?_ ?_
   rotate_left
   ·show Act.put _ (some 11) _ = _
    exact pT
   refine one_ (i := 9) (N := some 12) #[Y,Y,Y,Y,Y,Y,Y,Y,Y,Y,J,J] rfl rfl (one_of HT_.out kr) (by decide) (fun K hK => ?_)
   refine goes_ Tryz.func125 kr rfl #[.string (a0_0.extract 0 (t125 : Int).toNat), .int .i64 t126] (by rfl) rfl rfl b22_ ?_
   with_reducible refine (strings_Repeat.calls (a0_0.extract 0 (t125 : Int).toNat) t126 t127 _ A6.out).mono ?_
   rintro e w11 ⟨rfl, hb⟩
   refine ⟨_, rfl, ?_⟩
   have n0_ := Aside0.mk (blk_below (g := gb124) (o := .cells #[.string a0_0, .int .i64 a0_1, .int .i64 a0_2] 133 (0, 0)) b31_ hb)
   have n1_ := Aside0.mk (below_step b7_ hb)
   clear BK124
   clear HB
   have BK124 := n0_
   have HB := n1_
   clear n0_ n1_
   (try clear hb)
   (try clear hb2)
   (try clear hk)
   (try clear hi)
   refine hK.out _ _ ⟨(blk_cell BK124.out 0).trans rfl, (blk_cell BK124.out 1).trans rfl, (blk_cell BK124.out 2).trans rfl⟩ (fun hHeld => ?_)
   clear hK K
   refine norm_ (a' := ?_) ?_ ?_
   rotate_left
   ·show Act.put _ (some 12) _ = _
    exact pT
   refine pu_ 10 13 #[Y,Y,Y,Y,Y,Y,Y,Y,Y,Y,Y,J] HT_ ?_
   refine pu_ 11 2 #[Y,Y,Y,Y,Y,Y,Y,Y,Y,Y,Y,Y] HT_ ?_
   refine done_ (done_of HT_.out kr) ?_
   try go_wp2
   go_ret
   exact ⟨b48_, by repeat (first | (with_reducible first | exact HB.out | apply below_alloc | apply pw_below_drewN | apply below_drew1 | refine below_set ?_ GE124.out) | exact HB.out)⟩
  ·rw [if_neg c4] at H
   exact absurd H (by simp)
 ·rw [if_neg c3] at H
  exact absurd H (by simp)
def crc_Sum.f (a0 : ByteArray) : Option Int := if a0.size ≤ 281474976710656 then some (PTp.crcF a0) else none
theorem crc_Sum.calls (a0 : ByteArray) (r : Int) (w : World) (h : crc_Sum.f a0 = some r) :
  Calls Tryz.prog 33 #[.string a0] w fun e w' => e = .returned (.int .i64 r) ∧ Below w.heap.size w w' := by
 unfold crc_Sum.f at h
 split at h
 · rename_i hc
   obtain rfl := Option.some.inj h
   exact PTp.sum_c a0 hc w
 · cases h
end Go.Proofs.YtnoibcdojfnicaaGreatDoor.PG
