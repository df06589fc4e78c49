/- A part of the proof of a law of descanttop: this session's own texts and printed texts, shortened and joined. -/
import Derived.Test.YtnoibcdojfnicaaGreatDoorE31
import Derived.Test.YtnoibcdojfnicaaGreatDoorE34
import Derived.Test.YtnoibcdojfnicaaGreatDoorE37
set_option linter.unusedVariables false
set_option linter.unusedSimpArgs false
set_option maxRecDepth 100000
set_option maxHeartbeats 16000000
namespace Go.Proofs.YtnoibcdojfnicaaGreatDoor.PG
open Go.Proofs.YtnoibcdojfnicaaGreatDoorW.Short
open Bool renaming true → Y, false → J
open Go Go.RowKit Go.Proofs.YtnoibcdojfnicaaGreatDoorW.PrintWords Go.Proofs.YtnoibcdojfnicaaGreatDoorW.PrintMore Go.Proofs.YtnoibcdojfnicaaGreatDoorW.PrintLast
open Go.Proofs.YtnoibcdojfnicaaGreatDoor.Modn
attribute [-go_sem] Instr.loadAt Instr.storeAt Instr.build
def rE5T : Bool × List (List Nat × List Nat) := (true, [([], []), ([0], [0]), ([], []), ([], []), ([3], [3]), ([4], [4]), ([], []), ([5, 6], [5, 6]), ([], []), ([8], [8]), ([], []), ([10], [10]), ([1, 2, 7, 9, 11], [1, 2, 7, 9, 11]), ([], []), ([13, 12, 0, 1, 2, 3, 4, 5, 6, 7, 8, 9, 10, 11, 12, 13], [12, 13])])
def rE5B : List Nat := [0, 1, 0, 0, 8, 24, 0, 120, 0, 256, 0, 1024, 4095, 0, 16383]
theorem rE5_tab : rtab .any (opsOf Tryz.f35 5) = rE5T := by kernel_rfl
theorem rE5_bits : waitsOk rE5T.2 rE5B = true := by kernel_rfl
def rE9T : Bool × List (List Nat × List Nat) := (true, [([], []), ([0], [0]), ([], []), ([], []), ([], []), ([], []), ([4, 5], [4, 5]), ([3, 6], [3, 6]), ([], []), ([8], [8]), ([9], [9]), ([7, 10], [7, 10]), ([1, 2, 11], [1, 2, 11]), ([], []), ([13], [13]), ([12, 14], [12, 14]), ([15], [15]), ([16], [16]), ([16], [16]), ([17, 15, 0, 1, 2, 3, 4, 5, 6, 7, 8, 9, 10, 11, 12, 13, 14, 15, 16, 17], [17]), ([18, 19, 0, 1, 2, 3, 4, 5, 6, 7, 8, 9, 10, 11, 12, 13, 14, 15, 16, 17, 18, 19], [18])])
def rE9B : List Nat := [0, 1, 0, 0, 0, 0, 48, 120, 0, 256, 768, 2040, 4095, 0, 8192, 32767, 65535, 131071, 131071, 262143, 1048575]
theorem rE9_tab : rtab .any (opsOf Tryz.f35 9) = rE9T := by kernel_rfl
theorem rE9_bits : waitsOk rE9T.2 rE9B = true := by kernel_rfl
def wvC (c b : Int) (hd d tl : ByteArray) : Array Value := #[.int .i64 c, .int .i64 b, .string hd, .string d, .string tl]
theorem wv_cells {w : World} {g : Nat} {c b : Int} {hd d tl : ByteArray} {T : TypeId} {fr : Nat × Nat} (h : w.heap[g]? = some (.cells (wvC c b hd d tl) T fr)) : w.cell? ⟨g, 0, none⟩ = some (.int .i64 c) ∧ w.cell? ⟨g, 1, none⟩ = some (.int .i64 b) ∧ w.cell? ⟨g, 2, none⟩ = some (.string hd) ∧ w.cell? ⟨g, 3, none⟩ = some (.string d) ∧ w.cell? ⟨g, 4, none⟩ = some (.string tl) :=
 ⟨(cell_of_row _ g 0 _ _ _ h).trans rfl, (cell_of_row _ g 1 _ _ _ h).trans rfl, (cell_of_row _ g 2 _ _ _ h).trans rfl, (cell_of_row _ g 3 _ _ _ h).trans rfl, (cell_of_row _ g 4 _ _ _ h).trans rfl⟩
theorem bu_st5 (w : World) (c b z f : Int) (hd tl : ByteArray) : (Instr.build 86 #[(0, .agg #[.int .i64 c, .int .i64 b]), (1, .int .i64 z), (2, .int .i64 f), (3, .string hd), (4, .string tl)]).run Tryz.prog w = .ok (.agg (stC ⟨c, b, z, f, hd, tl, []⟩ none 0)) w := by kernel_rfl
theorem store_new_wv (w : World) (c b : Int) (hd d tl : ByteArray) : (Instr.storeAt 81 (.pointer (some { block := w.heap.size, off := 0 })) (.agg (wvC c b hd d tl))).run Tryz.prog (w.alloc (.cells (wvC 0 0 ⟨#[]⟩ ⟨#[]⟩ ⟨#[]⟩) 81 (0, 0))) = .ok () (w.alloc (.cells (wvC c b hd d tl) 81 (0, 0))) := by
 rw [Agg.store_all (P := Tryz.prog) (cs := wvC 0 0 ⟨#[]⟩ ⟨#[]⟩ ⟨#[]⟩) (blk_new w _) 81 (wvC c b hd d tl) kr rfl (by simp [wvC, Value.oneCell']), World.setRow_alloc_new]
theorem shut_wv (c b : Int) (hd d tl : ByteArray) : (#[.int .i64 c, .int .i64 b, .string hd, .string d, .string tl] : Array Value) = wvC c b hd d tl := rfl
attribute [local go_sem high] ld_int ld_bool ld_strs ld_str ld_fm so_bool so_str so_strs bu_st5 store_new_wv shut_wv shut_st
def encS (k : Nat) (c b step : Int) (d : ByteArray) : Nat → Int → List ByteArray → Option (List ByteArray)
 | 0, _, _ => none
 | m + 1, a, out => if a < (d.size : Int) then (if 0 ≤ a ∧ a < wrap64 (a + step) ∧ out.length ≤ 100000 then (segment_Put.f k (d.extract a.toNat (min (wrap64 (a + step)) (d.size : Int)).toNat) c b).bind fun r => encS k c b step d m (wrap64 (a + step)) (out ++ [r.1]) else none) else some out
def encF (k : Nat) (w : ByteArray) (z : Int) : Option (ByteArray × Int) := (wave_Parse.f k w).bind fun p => if p.2.2.2.2.2 = 0 ∧ 1 ≤ z ∧ z ≤ 64 then (pcm_Frame.f p.1 p.2.1).bind fun fr => if fr = 0 then none else (encS k p.1 p.2.1 (wrap64 (z * fr)) p.2.2.2.1 k 0 []).bind fun segs => (stPut k ⟨p.1, p.2.1, z, wrap64 ((p.2.2.2.1.size : Int) / fr), p.2.2.1, p.2.2.2.2.1, segs⟩).map fun q => if q.2 = 0 then (q.1, 0) else (⟨#[]⟩, 2400) else some (⟨#[]⟩, 2400)
theorem enc_c (k : Nat) (s : ByteArray) (z : Int) (R : ByteArray × Int) (W : World) (hL : Extra.Laid W) (h : encF k s z = some R) : Calls Tryz.prog 35 #[.string s, .int .i64 z] W fun e w' => e = .returned (.tuple #[.string R.1, .int .i64 R.2]) ∧ Below W.heap.size W w' := by
 have hu69 := Tryz.underlying69
 unfold encF at h
 obtain ⟨⟨c, b, hd, d, tl, e0⟩, hP, h⟩ := Option.bind_eq_some_iff.1 h
 have PC := Lib.hid (fun w => wave_Parse.calls k s c b hd d tl e0 w hP)
 have LW := Lib.hid hL
 clear hP hL
 dsimp only at h
 by_cases h0 : e0 = 0 ∧ 1 ≤ z ∧ z ≤ 64
 ·rw [if_pos h0] at h
  obtain ⟨rfl, z1, z2⟩ := h0
  obtain ⟨fr, hf, h⟩ := Option.bind_eq_some_iff.1 h
  have PF := Lib.hid (fun w => pcm_Frame.calls c b fr w hf)
  clear hf
  by_cases hfr : fr = 0
  ·rw [if_pos hfr] at h
   cases h
  ·rw [if_neg hfr] at h
   obtain ⟨segs, hS, h⟩ := Option.bind_eq_some_iff.1 h
   obtain ⟨q, hq, hR⟩ := Option.map_eq_some_iff.1 h
   have SS := Lib.hid hS
   have SQ := Lib.hid hq
   have HR := Lib.hid hR
   clear h hS hq hR
   have zc1 : decide (z < 1) = false := decide_eq_false (by omega)
   have zc2 : decide (z > 64) = false := decide_eq_false (by omega)
   go_enter Tryz.func35, Tryz.ntmps35
   go_wp2_with fail
   refine (PC.out _).mono ?_
   rintro e w1 ⟨rfl, hb⟩
   have H1 := Lib.hid hb
   clear hb PC
   obtain ⟨gw, hgw⟩ : ∃ gw, gw = w1.heap.size := ⟨_, rfl⟩
   have V2 := Lib.hid (blk_new w1 (.cells (wvC c b hd d tl) 81))
   have H2 := Lib.hid (below_alloc H1.out (.cells (wvC c b hd d tl) 81))
   rw [← hgw] at V2
   have hWw : W.heap.size ≤ gw := by rw [hgw]; exact H1.out.size
   have GW := Lib.hid hgw
   obtain ⟨w2, hw2⟩ : ∃ w2, w2 = w1.alloc (.cells (wvC c b hd d tl) 81) := ⟨_, rfl⟩
   rw [← hw2] at V2 H2
   have EW := Lib.hid hw2
   obtain ⟨k0, k1, k2, k3, k4⟩ := wv_cells V2.out
   simp only [hw2, hgw] at k0 k1
   clear hgw hw2
   go_wp2_with fail
   rw [← EW.out]
   simp only [← GW.out]
   refine (PF.out _).mono ?_
   rintro e w3 ⟨rfl, hb⟩
   have V3 := Lib.hid (blk_below V2.out hb)
   have H3 := Lib.hid (below_step H2.out hb)
   clear hb PF V2 H1 H2 k0 k1 k2 k3 k4 EW GW zc1 zc2
   go_wp2_with fail
   have V4 := Lib.hid (blk_drew V3.out)
   have H4 := Lib.hid (below_drew1 H3.out)
   refine start_ (n := 15) (S := fun w' => w'.heap[gw]? = some (.cells (wvC c b hd d tl) 81 (0, 0))) (ds := [14]) #[J,J,J,J,J,J,J,J,J,J,J,J,J,J,J] kr rfl rfl (blk_drew V3.out) (fun hHeld => ?_)
   refine with_tabW rE5_tab rE5_bits (fun HT_ HW_ => ?_)
   generalize w3.drew = w4 at V4 H4 hHeld ⊢
   clear V3 H3
   refine pu_ 0 32 #[Y,J,J,J,J,J,J,J,J,J,J,J,J,J,J] HT_ ?_
   refine ta_ 1 33 #[Y,Y,J,J,J,J,J,J,J,J,J,J,J,J,J] HT_ HW_ hHeld rfl b61_ ?_
   refine pu_ 2 34 #[Y,Y,Y,J,J,J,J,J,J,J,J,J,J,J,J] HT_ ?_
   refine pu_ 3 35 #[Y,Y,Y,Y,J,J,J,J,J,J,J,J,J,J,J] HT_ ?_
   refine ta_ 4 36 #[Y,Y,Y,Y,Y,J,J,J,J,J,J,J,J,J,J] HT_ HW_ hHeld rfl b61_ ?_
   refine pu_ 5 37 #[Y,Y,Y,Y,Y,Y,J,J,J,J,J,J,J,J,J] HT_ ?_
   refine pu_ 6 38 #[Y,Y,Y,Y,Y,Y,Y,J,J,J,J,J,J,J,J] HT_ ?_
   refine pu_ 7 39 #[Y,Y,Y,Y,Y,Y,Y,Y,J,J,J,J,J,J,J] HT_ ?_
   refine pu_ 8 40 #[Y,Y,Y,Y,Y,Y,Y,Y,Y,J,J,J,J,J,J] HT_ ?_
   refine ta_ 9 41 #[Y,Y,Y,Y,Y,Y,Y,Y,Y,Y,J,J,J,J,J] HT_ HW_ hHeld rfl b61_ ?_
   refine pu_ 10 42 #[Y,Y,Y,Y,Y,Y,Y,Y,Y,Y,Y,J,J,J,J] HT_ ?_
   refine ta_ 11 43 #[Y,Y,Y,Y,Y,Y,Y,Y,Y,Y,Y,Y,J,J,J] HT_ HW_ hHeld rfl b61_ ?_
   refine pu_ 12 44 #[Y,Y,Y,Y,Y,Y,Y,Y,Y,Y,Y,Y,Y,J,J] HT_ ?_
   refine one_ (i := 13) (N := some 9) #[Y,Y,Y,Y,Y,Y,Y,Y,Y,Y,Y,Y,Y,Y,J] rfl rfl (one_of HT_.out kr) (by decide) (fun K hK => ?_)
   refine box_step ?hg (N := 9) ?hd (cs := stC st0 none 0) (t := 86) ?hr ?_; (case hd => rfl); (case hg => rfl); (case hr => first | (go_simp; done) | (go_simp; rfl))
   intro gx hg w5 hbox hb
   have V5 := Lib.hid (blk_below V4.out hb)
   have H5 := Lib.hid (below_step H4.out hb)
   have X5 := Lib.hid hbox
   have hwx : gw < gx := by rw [hg]; exact blk_lt V4.out
   clear hb hbox hg V4 H4
   refine hK.out _ _ (V5.out) (fun hHeld => ?_)
   clear hK K
   refine norm_ (a' := ?_) ?_ ?_
   rotate_left
   ·show Act.put _ (some 9) _ = _
    exact pT
   have sq := store_st X5.out ⟨c, b, z, wrap64 ((d.size : Int) / fr), hd, tl, []⟩ none 0
   refine last_ (i := 14) (N := none) #[Y,Y,Y,Y,Y,Y,Y,Y,Y,Y,Y,Y,Y,Y,Y] rfl rfl kr (by decide) (fun K hK => ?_)
   refine skip_ (w1 := w5.setRow gx (stC ⟨c, b, z, wrap64 ((d.size : Int) / fr), hd, tl, []⟩ none 0)) (by rfl) rfl (by go_simp; try rfl) ?_
   refine hK.out _ _ ?_
   clear hK K sq
   have X6 := Lib.hid (Agg.blk_row X5.out (stC ⟨c, b, z, wrap64 ((d.size : Int) / fr), hd, tl, []⟩ none 0))
   have V6 := Lib.hid (Agg.blk_row_far V5.out (Nat.ne_of_lt hwx) (stC ⟨c, b, z, wrap64 ((d.size : Int) / fr), hd, tl, []⟩ none 0))
   have H6 := Lib.hid (Agg.below_row H5.out (show W.heap.size ≤ gx by omega) (stC ⟨c, b, z, wrap64 ((d.size : Int) / fr), hd, tl, []⟩ none 0))
   clear X5 V5 H5
   generalize w5.setRow gx (stC ⟨c, b, z, wrap64 ((d.size : Int) / fr), hd, tl, []⟩ none 0) = w6 at X6 V6 H6 ⊢
   refine done_ (done_of HT_.out kr) ?_
   clear hHeld
   obtain ⟨f, hfe⟩ : ∃ f, f = wrap64 ((d.size : Int) / fr) := ⟨_, rfl⟩
   rw [← hfe] at X6 SQ
   clear hfe
   obtain ⟨step, hst⟩ : ∃ step, step = wrap64 (z * fr) := ⟨_, rfl⟩
   rw [← hst] at SS
   have ST := Lib.hid hst
   clear hst
   have S6 : Hid (RS w6 W.heap.size (.slice none 0 0) []) := Lib.hid (Kd.R_nil _ _ _ _ _)
   go_wp2_with fail
   go_loopw [10] (fun i wr => ∃ (a : Int) (m : Nat) (out : List ByteArray) (A : Option Addr) (n : Nat), i = .int .i64 a ∧ Hid (encS k c b step d m a out = some segs) ∧ Hid (RS wr W.heap.size (.slice A out.length n) out) ∧ Hid (wr.heap[gx]? = some (.cells (stC ⟨c, b, z, f, hd, tl, out⟩ A n) 86 (0, 0))) ∧ Hid (wr.heap[gw]? = some (.cells (wvC c b hd d tl) 81 (0, 0))) ∧ Hid (Below W.heap.size W wr)) (fun i _ => ((d.size : Int) - intOf i).toNat)
   case atStart => exact ⟨0, k, [], none, 0, rfl, SS, S6, X6, V6, H6⟩
   case round =>
    clear SS S6 X6 V6 H6
    obtain ⟨a, m, out, A, n, rfl, hE, hS, hX, hV, hB⟩ := hrel
    cases m with
    | zero => exact absurd hE.out (by simp [encS])
    | succ m =>
    have hE2 := hE.out
    unfold encS at hE2
    obtain ⟨-, -, -, k3, -⟩ := wv_cells hV.out
    by_cases hlt : a < (d.size : Int)
    ·rw [if_pos hlt] at hE2
     by_cases hc : 0 ≤ a ∧ a < wrap64 (a + step) ∧ out.length ≤ 100000
     ·rw [if_pos hc] at hE2
      obtain ⟨a0, a1, ol⟩ := hc
      obtain ⟨⟨t, te⟩, hp, hE3⟩ := Option.bind_eq_some_iff.1 hE2
      have SP := Lib.hid (fun w hv => segment_Put.calls k (d.extract a.toNat (min (wrap64 (a + step)) (d.size : Int)).toNat) c b t te w hp hv)
      have E3 := Lib.hid hE3
      have L7 := Lib.hid (Extra.Laid.below_ LW.out hB.out)
      have jm : decide (a < (d.size : Int)) = true := decide_eq_true hlt
      have sl2 : a ≤ min (wrap64 (a + step)) (d.size : Int) := by omega
      have sl3 : min (wrap64 (a + step)) (d.size : Int) ≤ (d.size : Int) := by omega
      clear hp hE hE2 hE3
      go_wp2_with fail
      clear k3
      have V8 := Lib.hid (blk_drew hV.out)
      have X8 := Lib.hid (blk_drew hX.out)
      have S8 := Lib.hid (Kd.R_drew hS.out)
      have H8 := Lib.hid (below_drew1 hB.out)
      have L8 := Lib.hid (Extra.Laid.drew_ L7.out)
      refine start_ (n := 21) (S := fun w' => w'.heap[gw]? = some (.cells (wvC c b hd d tl) 81 (0, 0))) (ds := []) #[J,J,J,J,J,J,J,J,J,J,J,J,J,J,J,J,J,J,J,J,J] kr rfl rfl (blk_drew hV.out) (fun hHeld => ?_)
      refine with_tabW rE9_tab rE9_bits (fun HT_ HW_ => ?_)
      generalize wr.drew = w8 at V8 X8 S8 H8 L8 hHeld ⊢
      clear hV hX hS hB L7
      refine pu_ 0 56 #[Y,J,J,J,J,J,J,J,J,J,J,J,J,J,J,J,J,J,J,J,J] HT_ ?_
      refine ta_ 1 57 #[Y,Y,J,J,J,J,J,J,J,J,J,J,J,J,J,J,J,J,J,J,J] HT_ HW_ hHeld rfl b61_ ?_
      refine pu_ 2 58 #[Y,Y,Y,J,J,J,J,J,J,J,J,J,J,J,J,J,J,J,J,J,J] HT_ ?_
      refine pu_ 3 59 #[Y,Y,Y,Y,J,J,J,J,J,J,J,J,J,J,J,J,J,J,J,J,J] HT_ ?_
      refine pu_ 4 60 #[Y,Y,Y,Y,Y,J,J,J,J,J,J,J,J,J,J,J,J,J,J,J,J] HT_ ?_
      refine pu_ 5 61 #[Y,Y,Y,Y,Y,Y,J,J,J,J,J,J,J,J,J,J,J,J,J,J,J] HT_ ?_
      refine pure_ (i := 6) (N := some 62) (v := ?_) (a' := ?_) #[Y,Y,Y,Y,Y,Y,Y,J,J,J,J,J,J,J,J,J,J,J,J,J,J] rfl rfl (any_of HT_.out kr) (fun _ _ _ h => h) (Or.inl ⟨by rfl, ?_⟩) ?_ ?_
      rotate_left
      ·intro w'
       go_simp
       simp only [i64_w, ← ST.out]
       with_reducible rfl
      rotate_left
      ·exact pT
      refine pu_ 7 63 #[Y,Y,Y,Y,Y,Y,Y,Y,J,J,J,J,J,J,J,J,J,J,J,J,J] HT_ ?_
      refine pu_ 8 64 #[Y,Y,Y,Y,Y,Y,Y,Y,Y,J,J,J,J,J,J,J,J,J,J,J,J] HT_ ?_
      refine ta_ 9 65 #[Y,Y,Y,Y,Y,Y,Y,Y,Y,Y,J,J,J,J,J,J,J,J,J,J,J] HT_ HW_ hHeld rfl b61_ ?_
      refine pu_ 10 66 #[Y,Y,Y,Y,Y,Y,Y,Y,Y,Y,Y,J,J,J,J,J,J,J,J,J,J] HT_ ?_
      refine pu_ 11 67 #[Y,Y,Y,Y,Y,Y,Y,Y,Y,Y,Y,Y,J,J,J,J,J,J,J,J,J] HT_ ?_
      refine pu_ 12 68 #[Y,Y,Y,Y,Y,Y,Y,Y,Y,Y,Y,Y,Y,J,J,J,J,J,J,J,J] HT_ ?_
      refine pu_ 13 69 #[Y,Y,Y,Y,Y,Y,Y,Y,Y,Y,Y,Y,Y,Y,J,J,J,J,J,J,J] HT_ ?_
      refine ta_ 14 70 #[Y,Y,Y,Y,Y,Y,Y,Y,Y,Y,Y,Y,Y,Y,Y,J,J,J,J,J,J] HT_ HW_ hHeld rfl b61_ ?_
      refine one_ (i := 15) (N := some 71) #[Y,Y,Y,Y,Y,Y,Y,Y,Y,Y,Y,Y,Y,Y,Y,Y,J,J,J,J,J] rfl rfl (one_of HT_.out kr) (by decide) (fun K hK => ?_)
      refine goes_ Tryz.func28 kr rfl #[.string (d.extract a.toNat (min (wrap64 (a + step)) (d.size : Int)).toNat), .agg #[.int .i64 c, .int .i64 b]] (by rfl) rfl rfl b66_ ?_
      refine (SP.out _ L8.out).mono ?_
      rintro e w9 ⟨rfl, hb⟩
      refine ⟨_, rfl, ?_⟩
      have V9 := Lib.hid (blk_below V8.out hb)
      have X9 := Lib.hid (blk_below X8.out hb)
      have S9 := Lib.hid (Kd.R_below S8.out hb)
      have H9 := Lib.hid (below_step H8.out hb)
      clear hb V8 X8 S8 H8 L8 SP
      refine hK.out _ _ (V9.out) (fun hHeld => ?_)
      clear hK K
      refine norm_ (a' := ?_) ?_ ?_
      rotate_left
      ·show Act.put _ (some 71) _ = _
       exact pT
      refine pu_ 16 55 #[Y,Y,Y,Y,Y,Y,Y,Y,Y,Y,Y,Y,Y,Y,Y,Y,Y,J,J,J,J] HT_ ?_
      refine pu_ 17 72 #[Y,Y,Y,Y,Y,Y,Y,Y,Y,Y,Y,Y,Y,Y,Y,Y,Y,Y,J,J,J] HT_ ?_
      refine pu_ 18 73 #[Y,Y,Y,Y,Y,Y,Y,Y,Y,Y,Y,Y,Y,Y,Y,Y,Y,Y,Y,J,J] HT_ ?_
      refine pu_ 19 11 #[Y,Y,Y,Y,Y,Y,Y,Y,Y,Y,Y,Y,Y,Y,Y,Y,Y,Y,Y,Y,J] HT_ ?_
      refine pu_ 20 12 #[Y,Y,Y,Y,Y,Y,Y,Y,Y,Y,Y,Y,Y,Y,Y,Y,Y,Y,Y,Y,Y] HT_ ?_
      refine done_ (done_of HT_.out kr) ?_
      clear hHeld
      obtain ⟨-, -, -, -, -, -, k6⟩ := st_cells X9.out
      go_wp2_with (((with_reducible refine gate_builtin (b := .append) (xs := #[.tmp 75, .tmp 77]) rfl ?_); at_builtin; refine Kd.R_append Kd.string (w0 := W) (W := w9) W.heap.size rfl (.tmp 75) (.tmp 77) 84 9 (.string ⟨#[]⟩) 16 rfl Tryz.underlying84 infoS rfl (by decide) (by omega) (.slice A out.length n) out t [.string t] (fun _ => True) (fun _ => False) rfl rfl ?aP (fun _ hk => hk.elim) ?aF ?aO ?aB ?aS ?aL ?_; (case aP => exact rfl); (case aF => exact (fun _ _ => trivial)); (case aO => exact S9.out); (case aB => exact H9.out); (case aS => exact H9.out.size); (case aL => omega); intro v1 w10 ho hb hg hat; obtain ⟨A5, c5, rfl⟩ := Kd.R_slice ho; have V10 := Lib.hid (blk_grown V9.out hg (Kd.R_ne S9.out V9.out (by decide))); have X10 := Lib.hid (blk_grown X9.out hg (Kd.R_ne S9.out X9.out (by decide))); have H10 := Lib.hid hb; have S10 := Lib.hid ho; have f6 := blk_frozen X10.out 6; obtain ⟨-, -, -, -, -, -, j6⟩ := st_cells X10.out; have z10 := blk_lt X10.out; clear hb hg hat ho V9 X9 S9 H9 k6))
      have X12 := Lib.hid ((blk_set X10.out 6 (.slice A5 (out ++ [t]).length c5)).trans (show _ = some (Obj.cells (stC ⟨c, b, z, f, hd, tl, out ++ [t]⟩ A5 c5) 86 (0, 0)) from rfl))
      have V12 := Lib.hid (blk_far (p := ⟨gx, 6, none⟩) V10.out (Nat.ne_of_lt hwx) (.slice A5 (out ++ [t]).length c5))
      have H12 : Hid (Below W.heap.size W (w10.setCell ⟨gx, 6, none⟩ (.slice A5 (out ++ [t]).length c5))) := Lib.hid (below_set H10.out (show W.heap.size ≤ gx by omega))
      have S12 : Hid (RS (w10.setCell ⟨gx, 6, none⟩ (.slice A5 (out ++ [t]).length c5)) W.heap.size (.slice A5 (out ++ [t]).length c5) (out ++ [t])) := Lib.hid (ro_mod S10.out X10.out (tyS (by decide)) (fun k hk hn => Below.heap_setCell w10 ⟨gx, 6, none⟩ (.slice A5 (out ++ [t]).length c5) k hn))
      have el : out.length + 1 = (out ++ [t]).length := by simp
      rw [el, ← ST.out]
      exact ⟨⟨_, m, out ++ [t], A5, c5, rfl, E3, S12, X12, V12, H12⟩, by simp [intOf]; omega⟩
     ·rw [if_neg hc] at hE2
      cases hE2
    ·rw [if_neg hlt] at hE2
     obtain rfl := Option.some.inj hE2
     have jm : decide (a < (d.size : Int)) = false := decide_eq_false hlt
     have C9 := Lib.hid ((Kd.R_reads' hS.out).2.2)
     have PC := Lib.hid (stPut_c k ⟨c, b, z, f, hd, tl, out⟩ A n q wr C9.out (Kd.R_reads' hS.out).2.1 SQ.out)
     have ld := Agg.load_all (P := Tryz.prog) hX.out 86 _ Tryz.underlying86 rfl kr
     clear hE hE2 hlt
     go_wp2_with fail
     refine PC.out.mono ?_
     rintro e w9 ⟨rfl, hb⟩
     have H9 := Lib.hid (below_step hB.out hb)
     clear hb PC C9 hX hV hB hS k3 ld
     by_cases hq0 : q.2 = 0
     ·have hR := HR.out
      rw [if_pos hq0] at hR
      subst hR
      rw [hq0]
      go_wp2_with fail
      go_ret2
      exact ⟨rfl, H9.out⟩
     ·have hR := HR.out
      rw [if_neg hq0] at hR
      subst hR
      have e1 : decide (q.2 = 0) = false := decide_eq_false hq0
      have e2 : (q.2 == 0) = false := beq_eq_false_iff_ne.2 hq0
      have e3 : (q.2 != 0) = true := bne_iff_ne.2 hq0
      clear hq0
      go_wp2_with fail
      go_ret2
      exact ⟨rfl, H9.out⟩
 ·rw [if_neg h0] at h
  obtain rfl := Option.some.inj h
  by_cases e00 : e0 = 0
  ·subst e00
   have e1 : decide ((0 : Int) = 0) = true := rfl
   by_cases z1 : 1 ≤ z
   ·have zc1 : decide (z < 1) = false := decide_eq_false (by omega)
    have zc2 : decide (z > 64) = true := decide_eq_true (by omega)
    clear h0 h
    go_enter Tryz.func35, Tryz.ntmps35
    go_wp2_with fail
    refine (PC.out _).mono ?_
    rintro e w1 ⟨rfl, hb⟩
    have H2 := Lib.hid (below_alloc hb (.cells (wvC c b hd d tl) 81))
    clear hb
    go_wp2_with fail
    go_ret2
    exact ⟨rfl, H2.out⟩
   ·have zc1 : decide (z < 1) = true := decide_eq_true (by omega)
    clear h0 h
    go_enter Tryz.func35, Tryz.ntmps35
    go_wp2_with fail
    refine (PC.out _).mono ?_
    rintro e w1 ⟨rfl, hb⟩
    have H2 := Lib.hid (below_alloc hb (.cells (wvC c b hd d tl) 81))
    clear hb
    go_wp2_with fail
    go_ret2
    exact ⟨rfl, H2.out⟩
  ·have e1 : decide (e0 = 0) = false := decide_eq_false e00
   have e2 : (e0 == 0) = false := beq_eq_false_iff_ne.2 e00
   have e3 : (e0 != 0) = true := bne_iff_ne.2 e00
   clear h0 h
   go_enter Tryz.func35, Tryz.ntmps35
   go_wp2_with fail
   refine (PC.out _).mono ?_
   rintro e w1 ⟨rfl, hb⟩
   have H2 := Lib.hid (below_alloc hb (.cells (wvC c b hd d tl) 81))
   clear hb
   go_wp2_with fail
   go_ret2
   exact ⟨rfl, H2.out⟩
end Go.Proofs.YtnoibcdojfnicaaGreatDoor.PG
namespace Go.Proofs.YtnoibcdojfnicaaGreatDoor.PG
open Go.Proofs.YtnoibcdojfnicaaGreatDoorW.Short
open Bool renaming true → Y, false → J
open Go.RowKit Go.Proofs.YtnoibcdojfnicaaGreatDoorW.PrintWords Go.Proofs.YtnoibcdojfnicaaGreatDoorW.PrintLast Go.Proofs.YtnoibcdojfnicaaGreatDoorW.PrintMore
attribute [local go_sem] max2_int min2_int max_two min_two max_three min_three max_four min_four
theorem eqA69 (d : Nat) (w : World) (x0 y0 : Int) (x1 y1 : Int) :
    (Op.equalIn (d + 2) 69 (.agg #[.int .i64 x0, .int .i64 x1]) (.agg #[.int .i64 y0, .int .i64 y1])).run Tryz.prog w = .ok (x0 == y0 && (x1 == y1)) w := by
  refine eqA_of Tryz.underlying69 kr ?_
  refine eqf_cons (by rfl) (by go_simp; rfl) (by go_simp; rfl) (by go_simp) ?_
  exact eqf_last (by rfl) (by go_simp; rfl) (by go_simp; rfl) (by go_simp)
theorem eqA81 (d : Nat) (w : World) (x0 y0 : Int) (x1 y1 : Int) (x2 y2 : ByteArray) (x3 y3 : ByteArray) (x4 y4 : ByteArray) :
    (Op.equalIn (d + 3) 81 (.agg #[.int .i64 x0, .int .i64 x1, .string x2, .string x3, .string x4]) (.agg #[.int .i64 y0, .int .i64 y1, .string y2, .string y3, .string y4])).run Tryz.prog w = .ok ((x0 == y0 && (x1 == y1)) && (x2.toList == y2.toList && (x3.toList == y3.toList && (x4.toList == y4.toList)))) w := by
  refine eqA_of Tryz.underlying81 kr ?_
  refine eqf_cons (by rfl) (by go_simp) (by go_simp) (eqA69 (d + 0) w _ _ _ _) ?_
  refine eqf_cons (by rfl) (by go_simp; rfl) (by go_simp; rfl) (by go_simp) ?_
  refine eqf_cons (by rfl) (by go_simp; rfl) (by go_simp; rfl) (by go_simp) ?_
  exact eqf_last (by rfl) (by go_simp; rfl) (by go_simp; rfl) (by go_simp)
end Go.Proofs.YtnoibcdojfnicaaGreatDoor.PG
