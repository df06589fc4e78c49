/- A part of the proof of a law of descanttop: this session's own texts and printed texts, shortened and joined. -/
import Derived.Test.YtnoibcdojfnicaaGreatDoorC38
import Derived.Test.YtnoibcdojfnicaaGreatDoorC11
import Derived.Test.YtnoibcdojfnicaaGreatDoorC3
set_option linter.unusedVariables false
set_option linter.unusedSimpArgs false
namespace Go.Proofs.YtnoibcdojfnicaaGreatDoor.PG
open Go.Proofs.YtnoibcdojfnicaaGreatDoorW.Short
open Bool renaming true → Y, false → J
open Go Go.RowKit Go.Proofs.YtnoibcdojfnicaaGreatDoorW.PrintWords Go.Proofs.YtnoibcdojfnicaaGreatDoorW.PrintMore Go.Proofs.YtnoibcdojfnicaaGreatDoorW.PrintLast
open Go.Proofs.YtnoibcdojfnicaaGreatDoor.Modn
open Go.Proofs.YtnoibcdojfnicaaGreatDoor.PL (turnL lineOf putOne chLearn chGuess Chain chZero chMay RI inB drop_at line_some line_none line_long elem_at shut33 load_new_ch store_new_ch build_ch0 load_ch store_ch chGuess_c chLearn_c linePut_c)
attribute [-go_sem] Instr.loadAt Instr.storeAt Instr.build
attribute [local go_sem high] shut33 ld_int load_new_ch store_new_ch build_ch0
def rC9T : Bool × List (List Nat × List Nat) := (true, [([], []), ([], []), ([], []), ([1, 2], [1, 2]), ([3], [3]), ([0, 4], [0, 4]), ([5], [5]), ([6], [6]), ([6], [6]), ([], []), ([9, 7, 5, 0, 1, 2, 3, 4, 5, 6, 7, 9], [7, 9]), ([8, 10, 0, 1, 2, 3, 4, 5, 6, 7, 8, 9, 10], [8])])
def rC9B : List Nat := [0, 0, 0, 6, 14, 31, 63, 127, 127, 0, 767, 2047]
theorem rC9_tab : rtab .any (opsOf Tryz.f5 9) = rC9T := by kernel_rfl
theorem rC9_bits : waitsOk rC9T.2 rC9B = true := by kernel_rfl
def rC10T : Bool × List (List Nat × List Nat) := (true, [([], []), ([0], [0]), ([1], [1]), ([2, 1], [2]), ([3], [3]), ([4, 3, 3], [3, 4]), ([5, 3], [3, 5]), ([3, 6], [3, 6]), ([7, 5], [7]), ([8], [8]), ([8], [8]), ([10, 8], [8, 10]), ([9, 11, 8], [8, 9, 11]), ([8, 12], [8, 12]), ([13, 8], [13]), ([14], [14]), ([14], [14]), ([15, 16, 14], [14, 15, 16]), ([17, 14], [14, 17]), ([14], [14]), ([14], [14]), ([19, 20, 14], [14, 19, 20]), ([21, 14], [14, 21]), ([14], [14]), ([22, 23, 14], [14, 22, 23]), ([18, 24, 14], [14, 18, 24]), ([14, 25], [14, 25])])
def rC10B : List Nat := [0, 1, 3, 7, 15, 31, 63, 127, 255, 511, 511, 1535, 4095, 8191, 16383, 32767, 32767, 131071, 262143, 32767, 32767, 1605631, 3702783, 32767, 16285695, 33554431, 67108863]
theorem rC10_tab : rtab .any (opsOf Tryz.f5 10) = rC10T := by kernel_rfl
theorem rC10_bits : waitsOk rC10T.2 rC10B = true := by kernel_rfl
theorem cellN' {w : World} {base : Nat} {A : Option Addr} {n c : Nat} {xs : List Int} (h : RI w base (.slice A n c) xs) {k : Nat} (hk : k < xs.length) : ∃ ad, A = some ad ∧ w.cell? (ad.add k) = some (.int .i64 (rd xs (k : Int))) := by
 obtain ⟨ad, e, hx⟩ := Kd.at_int (Kd.R_reads' h).2.2 (k : Int) (by omega) (by omega)
 rw [Int.toNat_natCast] at hx
 exact ⟨ad, e, hx⟩
theorem turn_len {one : Int → Int → Int × Int} : ∀ (xs : List Int) (c : Chain) (out o : List Int), turnL one xs c out = some o → o.length = out.length + xs.length ∧ o.take out.length = out
 | [], c, out, o, h => by
  obtain rfl := Option.some.inj (show some out = some o from h)
  exact ⟨rfl, List.take_length⟩
 | x :: r, c, out, o, h => by
  simp only [turnL] at h
  split at h
  ·obtain ⟨a, b⟩ := turn_len r _ _ o h
   rw [List.length_append, List.length_singleton] at a b
   refine ⟨by rw [List.length_cons]; omega, ?_⟩
   have e := congrArg (List.take out.length) b
   rw [List.take_take, List.take_left, Nat.min_eq_left (by omega)] at e
   exact e
  ·cases h
theorem turn_step {xs o : List Int} {c : Chain} {j : Nat} (hj : j < xs.length) (hl : o.length = xs.length) (h : turnL putOne (xs.drop j) c (o.take j) = some o) : (chLearn c (rd xs (j : Int))).2 = 0 ∧ turnL putOne (xs.drop (j + 1)) (chLearn c (rd xs (j : Int))).1 (o.take (j + 1)) = some o ∧ rd o (j : Int) = wrap64 (rd xs (j : Int) - (chGuess c).1) := by
 rw [drop_at xs hj] at h
 simp only [turnL] at h
 split at h
 ·rename_i hc
  obtain ⟨a, b⟩ := turn_len _ _ _ _ h
  rw [List.length_append, List.length_singleton, List.length_take, Nat.min_eq_left (by omega)] at b
  refine ⟨hc.1, ?_, ?_⟩
  ·rw [b]; exact h
  ·have e : o[j]? = some (putOne (rd xs (j : Int)) (chGuess c).1).1 := by
    have e2 : (o.take (j + 1))[j]? = o[j]? := by rw [List.getElem?_take, if_pos (by omega)]
    rw [← e2, b, List.getElem?_append_right (by rw [List.length_take]; omega), List.length_take, Nat.min_eq_left (by omega), Nat.sub_self]
    rfl
   unfold rd
   rw [Int.toNat_natCast, List.getD_eq_getElem?_getD, e]
   rfl
 ·cases h
theorem guess_ok {c : Chain} {x : Int} (h : (chLearn c x).2 = 0) : (chGuess c).2 = 0 := by
 unfold chLearn at h
 split at h
 ·rename_i hc
  unfold chGuess
  rw [if_pos hc.1]
 ·cases h
theorem line_two (xs : List Int) : (∃ o, turnL putOne xs chZero [] = some o ∧ lineOf putOne xs = (o, 0) ∧ xs.length ≤ 256) ∨ (lineOf putOne xs = ([], 1600) ∧ 0 < xs.length) := by
 by_cases h : xs.length ≤ 256
 ·cases e : turnL putOne xs chZero [] with
  | some o => exact Or.inl ⟨o, rfl, line_some h e, h⟩
  | none =>
   refine Or.inr ⟨line_none h e, ?_⟩
   cases xs with
   | nil => cases e
   | cons x r => exact Nat.succ_pos _
 ·exact Or.inr ⟨line_long h, by omega⟩
set_option maxRecDepth 100000 in
set_option maxHeartbeats 8000000 in
theorem topChain_calls (A : Option Addr) (c0 : Nat) (xs : List Int) (W : World) (hr : (Kd.int .i64).C W A xs.length xs) (hc : xs.length ≤ c0) (hsz : xs.length * 8 ≤ 140737488351232) (hL : Extra.Laid W) : Calls Tryz.prog 5 #[.slice A xs.length c0] W fun e w' => e = .returned (.bool true) ∧ Below W.heap.size W w' := by
 have RX := Lib.hid hr
 have LW := Lib.hid hL
 have AC := Lib.hid (awake_c W hL)
 clear hr hL
 go_enter Tryz.func5, Tryz.ntmps5
 go_wp2_with fail
 refine AC.out.mono ?_
 rintro e w1 ⟨rfl, hb⟩
 have H1 := Lib.hid hb
 clear hb AC
 go_wp2_with fail
 refine (linePut_c A c0 xs w1 (Kd.C_below RX.out H1.out) hc).mono ?_
 rintro e w2 ⟨v, rfl, hv, hb⟩
 have H2 := Lib.hid (below_step H1.out hb)
 clear hb H1
 rcases line_two xs with ⟨o, ht, hl, h256⟩ | ⟨hl, h0⟩
 ·rw [hl] at hv ⊢
  dsimp only at hv ⊢
  have HT := Lib.hid ht
  have ol : o.length = xs.length := by have := (turn_len _ _ _ _ ht).1; simpa using this
  have R2 := Lib.hid (Kd.R_mono hv (fun _ _ => trivial) : RI w2 w1.heap.size v o)
  clear hv hl ht
  obtain ⟨Ar, cr, rfl⟩ := Kd.R_slice R2.out
  obtain ⟨gc, hgc⟩ : ∃ gc, gc = w2.heap.size := ⟨_, rfl⟩
  have B3 := Lib.hid (blk_new w2 (.cells chZero.c 63))
  have H3 := Lib.hid (below_alloc H2.out (.cells chZero.c 63))
  have R3 := Lib.hid (Kd.R_below R2.out (below_alloc (Below.refl w2.heap.size w2) (.cells chZero.c 63)))
  have hWc : W.heap.size ≤ gc := by rw [hgc]; exact H2.out.size
  rw [← hgc] at B3
  have GC := Lib.hid hgc
  clear hgc H2 R2
  go_wp2_with fail
  simp only [← GC.out]
  generalize w2.alloc (.cells chZero.c 63) = w3 at B3 H3 R3 ⊢
  clear GC
  have OL := Lib.hid ol
  clear ol
  go_loopw [6] (fun i wr => ∃ (j : Nat) (c : Chain), j ≤ xs.length ∧ i = .int .i64 j ∧ Hid (turnL putOne (xs.drop j) c (o.take j) = some o) ∧ Hid (wr.heap[gc]? = some (.cells c.c 63 (0, 0))) ∧ Hid (RI wr w1.heap.size (.slice Ar o.length cr) o) ∧ Hid (Below W.heap.size W wr)) (fun i _ => xs.length - (intOf i).toNat)
  case atStart => exact ⟨0, chZero, by omega, rfl, HT, B3, R3, H3⟩
  case round =>
   clear B3 H3 R3 HT
   obtain ⟨j, c, hj, rfl, hT, hB, hR, hH⟩ := hrel
   by_cases hlt : j < xs.length
   ·obtain ⟨l0, hT2, hrd⟩ := turn_step hlt OL.out hT.out
    have g0 := guess_ok l0
    obtain ⟨x, hx⟩ : ∃ x, x = rd xs (j : Int) := ⟨_, rfl⟩
    obtain ⟨y, hy⟩ : ∃ y, y = rd o (j : Int) := ⟨_, rfl⟩
    obtain ⟨ad, rfl, hxa⟩ := elem_at RX.out hH.out hlt
    have HX9 := Lib.hid hx
    rw [← hx] at l0 hT2 hrd hxa
    rw [← hy] at hrd
    have HRD := Lib.hid hrd
    have HX := Lib.hid hxa
    have HY := Lib.hid hy
    have T2 := Lib.hid hT2
    obtain ⟨g, hg⟩ : ∃ g, g = (chGuess c).1 := ⟨_, rfl⟩
    obtain ⟨c', hc'⟩ : ∃ c', c' = (chLearn c x).1 := ⟨_, rfl⟩
    have GU := Lib.hid (fun w => chGuess_c c w)
    have LE := Lib.hid (fun w => chLearn_c c x w)
    rw [← hg, g0] at GU
    rw [← hc', l0] at LE
    rw [← hc'] at T2
    rw [← hg] at HRD
    clear hrd hxa hy hT hT2 l0 g0 hg hc' hx
    have jg : decide ((j : Int) ≥ (xs.length : Int)) = false := decide_eq_false (by omega)
    have jg3 : decide (xs.length ≤ j) = false := decide_eq_false (by omega)
    have ld := load_ch hB.out
    go_wp2_with fail
    refine (descantlaw0_Num.calls 0 0 _ rfl).mono ?_
    rintro e w4 ⟨rfl, hd⟩
    have hb := hd.below
    have B4 := Lib.hid (blk_below hB.out hb)
    have R4 := Lib.hid (Kd.R_below hR.out hb)
    have H4 := Lib.hid (below_step hH.out hb)
    have X4 := Lib.hid (cb_ HX.out hb)
    clear hd hb hB hR hH HX ld
    have ld := load_ch B4.out
    go_wp2_with fail
    refine (GU.out _).mono ?_
    rintro e w5 ⟨rfl, hb⟩
    have B5 := Lib.hid (blk_below B4.out hb)
    have R5 := Lib.hid (Kd.R_below R4.out hb)
    have H5 := Lib.hid (below_step H4.out hb)
    have X5 := Lib.hid (cb_ X4.out hb)
    clear hb B4 R4 H4 X4 GU ld
    go_wp2_with fail
    have B6 := Lib.hid (blk_drew B5.out)
    have R6 := Lib.hid (Kd.R_drew R5.out)
    have H6 := Lib.hid (below_drew1 H5.out)
    have X6 := Lib.hid ((show w5.drew.cell? (ad.add j) = some (.int .i64 x) from X5.out))
    refine start_ (n := 12) (S := fun w' => w'.heap[gc]? = some (.cells c.c 63 (0, 0)) ∧ w'.cell? (ad.add j) = some (.int .i64 x)) (ds := [10]) #[J,J,J,J,J,J,J,J,J,J,J,J] kr rfl rfl (⟨blk_drew B5.out, X5.out⟩) (fun hHeld => ?_)
    refine with_tabW rC9_tab rC9_bits (fun HT_ HW_ => ?_)
    generalize w5.drew = w6 at B6 R6 H6 X6 hHeld ⊢
    clear B5 R5 H5 X5
    refine take_ (i := 0) (N := some 35) (v := ?_) (a' := ?_) #[Y,J,J,J,J,J,J,J,J,J,J,J] rfl rfl (take_ofW HT_.out HW_.out kr) (fun _ _ _ h => h) (Or.inl ⟨by rfl, ?_⟩) hHeld ?_ ?_
    rotate_left
    ·rintro w' ⟨s0, s1⟩
     have ld := load_ch s0
     go_simp
     with_reducible rfl
    rotate_left
    ·exact pT
    refine pu_ 1 36 #[Y,Y,J,J,J,J,J,J,J,J,J,J] HT_ ?_
    refine pu_ 2 37 #[Y,Y,Y,J,J,J,J,J,J,J,J,J] HT_ ?_
    refine pu_ 3 38 #[Y,Y,Y,Y,J,J,J,J,J,J,J,J] HT_ ?_
    refine take_ (i := 4) (N := some 39) (v := ?_) (a' := ?_) #[Y,Y,Y,Y,Y,J,J,J,J,J,J,J] rfl rfl (take_ofW HT_.out HW_.out kr) (fun _ _ _ h => h) (Or.inl ⟨by rfl, ?_⟩) hHeld ?_ ?_
    rotate_left
    ·rintro w' ⟨s0, s1⟩
     have ld := load_ch s0
     go_simp
     with_reducible rfl
    rotate_left
    ·exact pT
    refine join_ (σ := Nat) 2 #[Y,Y,Y,Y,Y,Y,Y,Y,Y,Y,J,J] (fun gn => [(40, .tuple #[.agg c'.c, .int .i64 0]), (34, .tuple #[.agg c'.c, .int .i64 0]), (41, .agg c'.c), (42, .int .i64 0), (9, .pointer (some ⟨gn, 0, none⟩))]) (fun gn w' => w'.heap[gc]? = some (.cells c.c 63 (0, 0)) ∧ w'.heap[gn]? = some (.cells chZero.c 63 (0, 0)) ∧ gc < gn ∧ RI w' w1.heap.size (.slice Ar o.length cr) o ∧ Below W.heap.size W w' ∧ w'.cell? (ad.add j) = some (.int .i64 x)) ?_ ?_
    rotate_left
    ·intro hCont
     refine two_ (i := 5) (j := 9) (Ni := some 40) (Nj := some 9) #[Y,Y,Y,Y,Y,Y,J,J,J,J,J,J] #[Y,Y,Y,Y,Y,J,J,J,J,Y,J,J] rfl rfl rfl rfl (Go.Proofs.YtnoibcdojfnicaaGreatDoorW.PrintLast.two_of HT_.out kr) (by decide) (by decide) (fun K hK => ?_) (fun K hK => ?_)
     ·skip
      refine goes_ Tryz.func27 kr rfl #[.agg c.c, .int .i64 x] (by rfl) rfl rfl b50_ ?_
      refine (LE.out _).mono ?_
      rintro e w7 ⟨rfl, hb⟩
      refine ⟨_, rfl, ?_⟩
      have B7 := Lib.hid (blk_below B6.out hb)
      have R7 := Lib.hid (Kd.R_below R6.out hb)
      have H7 := Lib.hid (below_step H6.out hb)
      have X7 := Lib.hid (cb_ X6.out hb)
      clear hb B6 R6 H6 X6 
      refine hK.out _ _ ⟨B7.out, X7.out⟩ (fun hHeld => ?_)
      clear hK K
      refine norm_ (a' := ?_) ?_ ?_
      rotate_left
      ·show Act.put _ (some 40) _ = _
       exact pT
      refine pu_ 6 34 #[Y,Y,Y,Y,Y,Y,Y,J,J,J,J,J] HT_ ?_
      refine pu_ 7 41 #[Y,Y,Y,Y,Y,Y,Y,Y,J,J,J,J] HT_ ?_
      refine pu_ 8 42 #[Y,Y,Y,Y,Y,Y,Y,Y,Y,J,J,J] HT_ ?_
      refine one_ (i := 9) (N := some 9) #[Y,Y,Y,Y,Y,Y,Y,Y,Y,Y,J,J] rfl rfl (one_of HT_.out kr) (by decide) (fun K hK => ?_)
      refine box_step ?hg (N := 9) ?hd (cs := chZero.c) (t := 63) ?hr ?_; (case hd => rfl); (case hg => rfl); (case hr => first | (go_simp; done) | (go_simp; rfl))
      intro gn hg w8 hbox hb
      have N8 := Lib.hid hbox
      have hcn : gc < gn := by rw [hg]; exact blk_lt B7.out
      clear hbox hg
      have B8 := Lib.hid (blk_below B7.out hb)
      have R8 := Lib.hid (Kd.R_below R7.out hb)
      have H8 := Lib.hid (below_step H7.out hb)
      have X8 := Lib.hid (cb_ X7.out hb)
      clear hb B7 R7 H7 X7 
      refine hK.out _ _ ⟨B8.out, X8.out⟩ (fun hHeld => ?_)
      clear hK K
      refine norm_ (a' := ?_) ?_ ?_
      rotate_left
      ·show Act.put _ (some 9) _ = _
       exact pT
      exact norm_ b47_ (hCont gn _ ⟨B8.out, N8.out, hcn, R8.out, H8.out, X8.out⟩)
     ·skip
      refine box_step ?hg (N := 9) ?hd (cs := chZero.c) (t := 63) ?hr ?_; (case hd => rfl); (case hg => rfl); (case hr => first | (go_simp; done) | (go_simp; rfl))
      intro gn hg w7 hbox hb
      have N7 := Lib.hid hbox
      have hcn : gc < gn := by rw [hg]; exact blk_lt B6.out
      clear hbox hg
      have B7 := Lib.hid (blk_below B6.out hb)
      have R7 := Lib.hid (Kd.R_below R6.out hb)
      have H7 := Lib.hid (below_step H6.out hb)
      have X7 := Lib.hid (cb_ X6.out hb)
      clear hb B6 R6 H6 X6 
      refine hK.out _ _ ⟨B7.out, X7.out⟩ (fun hHeld => ?_)
      clear hK K
      refine norm_ (a' := ?_) ?_ ?_
      rotate_left
      ·show Act.put _ (some 9) _ = _
       exact pT
      refine one_ (i := 5) (N := some 40) #[Y,Y,Y,Y,Y,Y,J,J,J,Y,J,J] rfl rfl (one_of HT_.out kr) (by decide) (fun K hK => ?_)
      refine goes_ Tryz.func27 kr rfl #[.agg c.c, .int .i64 x] (by rfl) rfl rfl b50_ ?_
      refine (LE.out _).mono ?_
      rintro e w8 ⟨rfl, hb⟩
      refine ⟨_, rfl, ?_⟩
      have B8 := Lib.hid (blk_below B7.out hb)
      have R8 := Lib.hid (Kd.R_below R7.out hb)
      have H8 := Lib.hid (below_step H7.out hb)
      have X8 := Lib.hid (cb_ X7.out hb)
      have N8 := Lib.hid (blk_below N7.out hb)
      clear hb B7 R7 H7 X7 N7 
      refine hK.out _ _ ⟨B8.out, X8.out⟩ (fun hHeld => ?_)
      clear hK K
      refine norm_ (a' := ?_) ?_ ?_
      rotate_left
      ·show Act.put _ (some 40) _ = _
       exact pT
      refine pu_ 6 34 #[Y,Y,Y,Y,Y,Y,Y,J,J,Y,J,J] HT_ ?_
      refine pu_ 7 41 #[Y,Y,Y,Y,Y,Y,Y,Y,J,Y,J,J] HT_ ?_
      refine pu_ 8 42 #[Y,Y,Y,Y,Y,Y,Y,Y,Y,Y,J,J] HT_ ?_
      exact norm_ b47_ (hCont gn _ ⟨B8.out, N8.out, hcn, R8.out, H8.out, X8.out⟩)
    rintro gn w8 ⟨b8, n8, hcn, r8, h8, x8⟩
    have B8 := Lib.hid b8
    have N8 := Lib.hid n8
    have R8 := Lib.hid r8
    have H8 := Lib.hid h8
    have X8 := Lib.hid x8
    clear b8 n8 r8 h8 x8 B6 R6 H6 X6 LE
    simp only [putAll, Act.put, List.setIfInBounds_toArray, List.set_cons_zero, List.set_cons_succ]
    have sq := store_ch N8.out c'
    refine last_ (i := 10) (N := none) #[Y,Y,Y,Y,Y,Y,Y,Y,Y,Y,Y,J] rfl rfl kr (by decide) (fun K hK => ?_)
    refine skip_ (w1 := w8.setRow gn c'.c) (by rfl) rfl (by go_simp; try rfl) ?_
    refine hK.out _ _ ?_
    clear hK K sq
    have N9 := Lib.hid (Agg.blk_row N8.out c'.c)
    have B9 := Lib.hid (Agg.blk_row_far B8.out (Nat.ne_of_lt hcn) c'.c)
    have R9 := Lib.hid (ro_mod (w' := w8.setRow gn c'.c) R8.out N8.out (tyN (by decide)) (fun k hk hn => setRow_other _ _ _ _ hn))
    have H9 := Lib.hid (Agg.below_row H8.out (show W.heap.size ≤ gn by omega) c'.c)
    have X9 : Hid ((w8.setRow gn c'.c).cell? (ad.add j) = some (.int .i64 x)) := Lib.hid ((elem_at RX.out H9.out hlt).elim fun a h => by obtain ⟨h1, h2⟩ := h; obtain rfl := Option.some.inj h1; rw [HX9.out]; exact h2)
    clear N8 B8 R8 H8 X8
    generalize w8.setRow gn c'.c = w9 at N9 B9 R9 H9 X9 ⊢
    refine pu_ 11 10 #[Y,Y,Y,Y,Y,Y,Y,Y,Y,Y,Y,Y] HT_ ?_
    refine done_ (done_of HT_.out kr) ?_
    clear hHeld
    obtain ⟨ar, rfl, hya⟩ := cellN' R9.out (show j < o.length by have := OL.out; omega)
    rw [← HY.out] at hya
    have Y9 := Lib.hid hya
    clear hya HY
    go_wp2_with fail
    have B10 := Lib.hid (blk_drew B9.out)
    have N10 := Lib.hid (blk_drew N9.out)
    have R10 := Lib.hid (Kd.R_drew R9.out)
    have H10 := Lib.hid (below_drew1 H9.out)
    have X10 := Lib.hid ((show w9.drew.cell? (ad.add j) = some (.int .i64 x) from X9.out))
    have Y10 := Lib.hid ((show w9.drew.cell? (ar.add j) = some (.int .i64 y) from Y9.out))
    refine start_ (n := 27) (S := fun w' => w'.cell? (ad.add j) = some (.int .i64 x) ∧ w'.cell? (ar.add j) = some (.int .i64 y)) (ds := []) #[J,J,J,J,J,J,J,J,J,J,J,J,J,J,J,J,J,J,J,J,J,J,J,J,J,J,J] kr rfl rfl (⟨X9.out, Y9.out⟩) (fun hHeld => ?_)
    refine with_tabW rC10_tab rC10_bits (fun HT_ HW_ => ?_)
    generalize w9.drew = w10 at B10 N10 R10 H10 X10 Y10 hHeld ⊢
    clear B9 N9 R9 H9 X9 Y9
    refine pu_ 0 43 #[Y,J,J,J,J,J,J,J,J,J,J,J,J,J,J,J,J,J,J,J,J,J,J,J,J,J,J] HT_ ?_
    refine one_ (i := 1) (N := some 44) #[Y,Y,J,J,J,J,J,J,J,J,J,J,J,J,J,J,J,J,J,J,J,J,J,J,J,J,J] rfl rfl (one_of HT_.out kr) (by decide) (fun K hK => ?_)
    refine goes_ Tryz.func16 kr rfl #[.int .i64 0] (by rfl) rfl rfl b50_ ?_
    refine (descantlaw0_Num.calls 0 0 _ rfl).mono ?_
    rintro e w11 ⟨rfl, hd⟩
    refine ⟨_, rfl, ?_⟩
    have hb := hd.below
    have B11 := Lib.hid (blk_below B10.out hb)
    have N11 := Lib.hid (blk_below N10.out hb)
    have R11 := Lib.hid (Kd.R_below R10.out hb)
    have H11 := Lib.hid (below_step H10.out hb)
    have X11 := Lib.hid (cb_ X10.out hb)
    have Y11 := Lib.hid (cb_ Y10.out hb)
    clear hd hb B10 N10 R10 H10 X10 Y10
    refine hK.out _ _ (⟨X11.out, Y11.out⟩) (fun hHeld => ?_)
    clear hK K
    refine norm_ (a' := ?_) ?_ ?_
    rotate_left
    ·show Act.put _ (some 44) _ = _
     exact pT
    refine pu_ 2 45 #[Y,Y,Y,J,J,J,J,J,J,J,J,J,J,J,J,J,J,J,J,J,J,J,J,J,J,J,J] HT_ ?_
    refine pu_ 3 46 #[Y,Y,Y,Y,J,J,J,J,J,J,J,J,J,J,J,J,J,J,J,J,J,J,J,J,J,J,J] HT_ ?_
    refine pu_ 4 47 #[Y,Y,Y,Y,Y,J,J,J,J,J,J,J,J,J,J,J,J,J,J,J,J,J,J,J,J,J,J] HT_ ?_
    refine one_ (i := 5) (N := some 48) #[Y,Y,Y,Y,Y,Y,J,J,J,J,J,J,J,J,J,J,J,J,J,J,J,J,J,J,J,J,J] rfl rfl (one_of HT_.out kr) (by decide) (fun K hK => ?_)
    refine goes_ Tryz.func16 kr rfl #[.int .i64 0] (by rfl) rfl rfl b50_ ?_
    refine (descantlaw0_Num.calls 0 0 _ rfl).mono ?_
    rintro e w12 ⟨rfl, hd⟩
    refine ⟨_, rfl, ?_⟩
    have hb := hd.below
    have B12 := Lib.hid (blk_below B11.out hb)
    have N12 := Lib.hid (blk_below N11.out hb)
    have R12 := Lib.hid (Kd.R_below R11.out hb)
    have H12 := Lib.hid (below_step H11.out hb)
    have X12 := Lib.hid (cb_ X11.out hb)
    have Y12 := Lib.hid (cb_ Y11.out hb)
    clear hd hb B11 N11 R11 H11 X11 Y11
    refine hK.out _ _ (⟨X12.out, Y12.out⟩) (fun hHeld => ?_)
    clear hK K
    refine norm_ (a' := ?_) ?_ ?_
    rotate_left
    ·show Act.put _ (some 48) _ = _
     exact pT
    refine pu_ 6 49 #[Y,Y,Y,Y,Y,Y,Y,J,J,J,J,J,J,J,J,J,J,J,J,J,J,J,J,J,J,J,J] HT_ ?_
    refine pu_ 7 50 #[Y,Y,Y,Y,Y,Y,Y,Y,J,J,J,J,J,J,J,J,J,J,J,J,J,J,J,J,J,J,J] HT_ ?_
    refine pu_ 8 51 #[Y,Y,Y,Y,Y,Y,Y,Y,Y,J,J,J,J,J,J,J,J,J,J,J,J,J,J,J,J,J,J] HT_ ?_
    refine pu_ 9 52 #[Y,Y,Y,Y,Y,Y,Y,Y,Y,Y,J,J,J,J,J,J,J,J,J,J,J,J,J,J,J,J,J] HT_ ?_
    refine pu_ 10 53 #[Y,Y,Y,Y,Y,Y,Y,Y,Y,Y,Y,J,J,J,J,J,J,J,J,J,J,J,J,J,J,J,J] HT_ ?_
    refine pu_ 11 54 #[Y,Y,Y,Y,Y,Y,Y,Y,Y,Y,Y,Y,J,J,J,J,J,J,J,J,J,J,J,J,J,J,J] HT_ ?_
    refine pu_ 12 55 #[Y,Y,Y,Y,Y,Y,Y,Y,Y,Y,Y,Y,Y,J,J,J,J,J,J,J,J,J,J,J,J,J,J] HT_ ?_
    refine pu_ 13 56 #[Y,Y,Y,Y,Y,Y,Y,Y,Y,Y,Y,Y,Y,Y,J,J,J,J,J,J,J,J,J,J,J,J,J] HT_ ?_
    refine pu_ 14 57 #[Y,Y,Y,Y,Y,Y,Y,Y,Y,Y,Y,Y,Y,Y,Y,J,J,J,J,J,J,J,J,J,J,J,J] HT_ ?_
    refine pu_ 15 58 #[Y,Y,Y,Y,Y,Y,Y,Y,Y,Y,Y,Y,Y,Y,Y,Y,J,J,J,J,J,J,J,J,J,J,J] HT_ ?_
    refine pu_ 16 59 #[Y,Y,Y,Y,Y,Y,Y,Y,Y,Y,Y,Y,Y,Y,Y,Y,Y,J,J,J,J,J,J,J,J,J,J] HT_ ?_
    refine pu_ 17 60 #[Y,Y,Y,Y,Y,Y,Y,Y,Y,Y,Y,Y,Y,Y,Y,Y,Y,Y,J,J,J,J,J,J,J,J,J] HT_ ?_
    refine take_ (i := 18) (N := some 61) (v := ?_) (a' := ?_) #[Y,Y,Y,Y,Y,Y,Y,Y,Y,Y,Y,Y,Y,Y,Y,Y,Y,Y,Y,J,J,J,J,J,J,J,J] rfl rfl (take_ofW HT_.out HW_.out kr) (fun _ _ _ h => h) (Or.inl ⟨by rfl, ?_⟩) hHeld ?_ ?_
    rotate_left
    ·rintro w' ⟨s0, s1⟩
     go_simp
     with_reducible rfl
    rotate_left
    ·exact pT
    refine pu_ 19 62 #[Y,Y,Y,Y,Y,Y,Y,Y,Y,Y,Y,Y,Y,Y,Y,Y,Y,Y,Y,Y,J,J,J,J,J,J,J] HT_ ?_
    refine pu_ 20 63 #[Y,Y,Y,Y,Y,Y,Y,Y,Y,Y,Y,Y,Y,Y,Y,Y,Y,Y,Y,Y,Y,J,J,J,J,J,J] HT_ ?_
    refine pu_ 21 64 #[Y,Y,Y,Y,Y,Y,Y,Y,Y,Y,Y,Y,Y,Y,Y,Y,Y,Y,Y,Y,Y,Y,J,J,J,J,J] HT_ ?_
    refine take_ (i := 22) (N := some 65) (v := ?_) (a' := ?_) #[Y,Y,Y,Y,Y,Y,Y,Y,Y,Y,Y,Y,Y,Y,Y,Y,Y,Y,Y,Y,Y,Y,Y,J,J,J,J] rfl rfl (take_ofW HT_.out HW_.out kr) (fun _ _ _ h => h) (Or.inl ⟨by rfl, ?_⟩) hHeld ?_ ?_
    rotate_left
    ·rintro w' ⟨s0, s1⟩
     go_simp
     with_reducible rfl
    rotate_left
    ·exact pT
    refine pu_ 23 66 #[Y,Y,Y,Y,Y,Y,Y,Y,Y,Y,Y,Y,Y,Y,Y,Y,Y,Y,Y,Y,Y,Y,Y,Y,J,J,J] HT_ ?_
    refine pure_ (i := 24) (N := some 67) (v := ?_) (a' := ?_) #[Y,Y,Y,Y,Y,Y,Y,Y,Y,Y,Y,Y,Y,Y,Y,Y,Y,Y,Y,Y,Y,Y,Y,Y,Y,J,J] rfl rfl (any_of HT_.out kr) (fun _ _ _ h => h) (Or.inl ⟨by rfl, ?_⟩) ?_ ?_
    rotate_left
    ·intro w'
     go_simp
     simp only [i64_w, ← HRD.out]
     with_reducible rfl
    rotate_left
    ·exact pT
    refine pu_ 25 68 #[Y,Y,Y,Y,Y,Y,Y,Y,Y,Y,Y,Y,Y,Y,Y,Y,Y,Y,Y,Y,Y,Y,Y,Y,Y,Y,J] HT_ ?_
    refine pu_ 26 69 #[Y,Y,Y,Y,Y,Y,Y,Y,Y,Y,Y,Y,Y,Y,Y,Y,Y,Y,Y,Y,Y,Y,Y,Y,Y,Y,Y] HT_ ?_
    refine done_ (done_of HT_.out kr) ?_
    clear hHeld
    have st := store_ch B12.out c'
    have ld := load_ch N12.out
    go_wp2_with fail
    exact ⟨⟨j + 1, c', by omega, by go_num, T2, Lib.hid (Agg.blk_row B12.out c'.c), Lib.hid (ro_mod R12.out B12.out (tyN (by decide)) (fun k hk hn => setRow_other _ _ _ _ hn)), Lib.hid (Agg.below_row H12.out hWc c'.c)⟩, by simp [intOf]; omega⟩
   ·obtain rfl : j = xs.length := by omega
    have ol := OL.out
    have jn : decide ((o.length : Int) = (xs.length : Int)) = true := decide_eq_true (by rw [ol])
    have jn2 : ((o.length : Int) == (xs.length : Int)) = true := beq_iff_eq.2 (by rw [ol])
    clear hT hlt
    go_wp2_with fail
    refine (descantlaw0_Num.calls 0 0 _ rfl).mono ?_
    rintro e w4 ⟨rfl, hd⟩
    have H4 := Lib.hid (below_step hH.out hd.below)
    clear hd
    go_wp2_with fail
    refine (descantlaw0_Num.calls 0 0 _ rfl).mono ?_
    rintro e w5 ⟨rfl, hd⟩
    have H5 := Lib.hid (below_step H4.out hd.below)
    clear hd
    go_wp2_with fail
    go_ret
    exact ⟨rfl, H5.out⟩
 ·rw [hl] at hv ⊢
  dsimp only at hv ⊢
  have R2 := Lib.hid (Kd.R_mono hv (fun _ _ => trivial) : RI w2 w1.heap.size v [])
  clear hv hl
  obtain ⟨Ar, cr, rfl⟩ := Kd.R_slice R2.out
  have H3 := Lib.hid (below_alloc H2.out (.cells chZero.c 63))
  have j0 : decide ((0 : Int) < (xs.length : Int)) = true := decide_eq_true (by omega)
  clear R2
  go_wp2_with fail
  generalize w2.alloc (.cells chZero.c 63) = w3 at H3 ⊢
  go_loopw [6] (fun i wr => i = .int .i64 0 ∧ Hid (Below W.heap.size W wr)) (fun _ _ => 0)
  case atStart => exact ⟨rfl, H3⟩
  case round =>
   clear H3
   obtain ⟨rfl, hH⟩ := hrel
   go_wp2_with fail
   refine (descantlaw0_Num.calls 1600 1600 _ rfl).mono ?_
   rintro e w4 ⟨rfl, hd⟩
   have H4 := Lib.hid (below_step hH.out hd.below)
   clear hd
   go_wp2_with fail
   refine (descantlaw0_Num.calls 1600 1600 _ rfl).mono ?_
   rintro e w5 ⟨rfl, hd⟩
   have H5 := Lib.hid (below_step H4.out hd.below)
   clear hd
   go_wp2_with fail
   go_ret
   exact ⟨rfl, H5.out⟩
theorem topChain_walk (a0 : Option Addr) (len0 cap0 : Nat) (z0 : List Int) (w : World) (w0 : (a0 = none ∧ len0 = 0 ∧ cap0 = 0 ∧ z0 = []) ∨ ∃ x, a0 = some x ∧ len0 ≤ cap0 ∧ cap0 ≤ maxLen ∧ z0.length = cap0 ∧ (∀ i, i < z0.length → w.cell? (x.add i) = some (.int .i64 (z0.getD i 0))) ∧ ∀ n ∈ z0, (Lit.int .i64 n).wf = true) (y0 : len0 * 8 ≤ 140737488351232) (hL : Extra.Laid w) :
  Calls Tryz.prog 5 #[.slice a0 len0 cap0] w fun e w' => e = .returned (.bool true) ∧ Below w.heap.size w w' := by
 obtain ⟨l0, rfl, hr0, hm0, hw0, hc0⟩ := ReadsInt.ofRowC w0
 exact topChain_calls _ _ l0 w (Kd.C_of_reads (d := (0 : Int)) (h1 := fun _ => rfl) hr0) hc0 y0 hL
end Go.Proofs.YtnoibcdojfnicaaGreatDoor.PG
