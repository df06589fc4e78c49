/- Layer 17, SideOne: the walk. -/
import Derived.Test.YthiknekmgjnkdaaSideTurn
import Derived.Test.YthiknekmgjnkdaaSide
namespace Go.Proofs.Ythiknekmgjnkdaa.PSide
open Go Go.RowKit Go.Proofs.YthiknekmgjnkdaaW.PrintWords Go.Proofs.YthiknekmgjnkdaaW.PrintMore Go.Proofs.YthiknekmgjnkdaaW.PrintLast
open Go.Proofs.Ythiknekmgjnkdaa.PAll (mayL allS inS)
set_option linter.unusedVariables false
set_option linter.unusedSimpArgs false
abbrev RI (w : World) (base : Nat) (v : Value) (xs : List Int) : Prop := (Kd.int .i64).R 3 w base (fun _ => True) v xs
abbrev RL (w : World) (base : Nat) (v : Value) (xs : List (List Int)) : Prop := (Kd.slice 3 (Kd.int .i64)).R 44 w base (fun _ => True) v xs
theorem infoS : (Try.prog.info? 3).map (fun i => (i.zero, i.size, i.bytes)) = some (some (.int .i64 0), 1, 8) := by kernel_rfl
theorem elemS {W w : World} {A : Option Addr} {xs : List Int} (h : (Kd.int .i64).C W A xs.length xs) (hb : Below W.heap.size W w) {k : Nat} (hk : k < xs.length) : ∃ ad, A = some ad ∧ w.cell? (ad.add k) = some (.int .i64 (rd xs (k : Int))) := by
  obtain ⟨ad, e, hx⟩ := Kd.at_int h (k : Int) (by omega) (by omega)
  rw [Int.toNat_natCast] at hx
  exact ⟨ad, e, (hb.cell (World.block_lt_of_cell? W _ hx)).trans hx⟩
theorem ri_lit {w : World} {base : Nat} {v : Value} {xs : List Int} (h : RI w base v xs) : (Kd.slice 3 (Kd.int .i64)).M w base (fun _ => True) xs [v] := ⟨v, rfl, h⟩
theorem lit_RL {w : World} {base : Nat} (hbase : base ≤ w.heap.size) {vs : List Value} {xss : List (List Int)} (h : Reps ((Kd.slice 3 (Kd.int .i64)).M w base (fun _ => True)) 1 xss vs) (hm : xss.length ≤ 9223372036854775807) : RL (w.alloc (.cells vs.toArray 44)) base (.slice (some ⟨w.heap.size, 0, none⟩) xss.length xss.length) xss := by
  refine ⟨fun k hk => trivial, vs, ?_, ?_⟩
  · have h2 := World.ownsRow_lit (base := base) (e := 44) (size := 1) w vs.toArray xss.length hbase (by simpa [maxLen] using hm) (by simpa using h.1)
    rw [List.toList_toArray] at h2
    exact h2
  · refine h.imp_ (fun p c hp => (Kd.slice 3 (Kd.int .i64)).M_mono (fun k hk => ⟨trivial, fun he => ?_⟩) (Kd.M_below ((Kd.slice 3 (Kd.int .i64)).M_bound hp) (below_alloc (Below.refl _ _) _)))
    have h3 : k = w.heap.size := by simpa [Value.ownBlock] using he
    have := hk.2.2.1
    omega
/-- A number as SideOne takes it. -/
def f1 (x : Int) : Int := wrap64 (Go.bits .and .i64 x 65535 - 30000)
theorem f1_in (x : Int) : -30000 ≤ f1 x ∧ f1 x ≤ 35535 := by
  have h : Go.bits .and .i64 x 65535 = x % 65536 := Num.and_mask x 65535 16 (by omega) (by rfl)
  unfold f1
  rw [h, Num.w64 (by omega) (by omega)]
  omega
theorem map_at (f : Int → Int) (xs : List Int) {k : Nat} (h : k < xs.length) : (xs.take (k + 1)).map f = (xs.take k).map f ++ [f (rd xs (k : Int))] := by
  have e1 : rd xs (k : Int) = xs[k] := by simp [rd, h]
  rw [e1, List.take_succ_eq_append_getElem h, List.map_append]; rfl
theorem allS_map (xs : List Int) : allS (xs.map f1) = true := by
  unfold allS
  rw [List.all_eq_true]
  intro y hy
  obtain ⟨x, _, rfl⟩ := List.mem_map.1 hy
  have := f1_in x
  exact decide_eq_true (by omega)
theorem zip_self : ∀ (x : List Int), allS x = true → List.zipWith (chg 1 (-1)) x x = List.replicate x.length 0
  | [], _ => rfl
  | r :: x, h => by
    have h2 : inS r = true ∧ allS x = true := by simpa [allS] using h
    have h3 := of_decide_eq_true h2.1
    have e : chg 1 (-1) r r = 0 := by
      unfold chg
      rw [Num.w64 (n := 1 * -1) (by omega) (by omega), Num.w64 (n := 1 * -1 * r) (by omega) (by omega), Num.w64 (by omega) (by omega)]
      omega
    rw [List.zipWith_cons_cons, e, zip_self x h2.2]; rfl
set_option maxHeartbeats 16000000 in
theorem sideOne_calls (A0 : Option Addr) (c0 : Nat) (xs : List Int) (W : World) (h0 : (Kd.int .i64).C W A0 xs.length xs) (hc0 : xs.length ≤ c0) (l0 : xs.length * 8 ≤ 140737488351232) :
    Calls Try.prog 9 #[.slice A0 xs.length c0] W fun e w' => e = .returned (.bool true) ∧ Below W.heap.size W w' := by
  have H0 := Lib.hid h0
  clear h0
  obtain ⟨ys, hys⟩ : ∃ ys, ys = xs.map f1 := ⟨_, rfl⟩
  have yl : ys.length = xs.length := by rw [hys, List.length_map]
  have ya : allS ys = true := by rw [hys]; exact allS_map xs
  have m1 : mayL [ys] = true := by simp [mayL, ya]
  have m2 : mayL [ys, ys] = true := by simp [mayL, ya]
  have m3 : mayL [ys, List.replicate ys.length 0] = true := by
    simp [mayL, ya]
    unfold allS
    rw [List.all_eq_true]
    intro z hz
    rw [(List.mem_replicate.1 hz).2]; decide
  have P1 := Lib.hid (put_is [ys] (by simp) (by intro z hz; simp at hz; subst hz; omega) ys.length (by intro z hz; simp at hz; subst hz; omega) 0)
  have P2 := Lib.hid (put_is [ys, ys] (by simp) (by intro z hz; simp at hz; subst hz; omega) ys.length (by intro z hz; simp at hz; subst hz; omega) 0)
  have t1 : turnO [ys] (-1) = ([ys], 0) := by unfold turnO; rw [if_pos m1]
  have t2 : turnO [ys, ys] (-1) = ([ys, List.replicate ys.length 0], 0) := by
    unfold turnO; rw [if_pos m2]
    show (if mayL [ys, List.zipWith (chg 1 (-1)) ys ys] = true then _ else _) = _
    rw [zip_self ys ya, if_pos m3]
  rw [t1] at P1
  rw [t2] at P2
  have S1 := Lib.hid (same_lists [ys] (by simp) ys.length (by intro z hz; simp at hz; subst hz; omega))
  have S2 := Lib.hid (same_lists [ys, List.replicate ys.length 0] (by simp) ys.length (by intro z hz; simp at hz; rcases hz with rfl | rfl <;> simp <;> omega))
  have YE := Lib.hid hys
  have YL := Lib.hid yl
  clear yl hys m1 m2 m3 t1 t2 ya
  go_enter Try.func9, Try.ntmps9
  go_wp2_with fail
  refine (descantlaw17_awake.calls 60 true _ awakeS).mono ?_
  rintro e w1 ⟨rfl, hb⟩
  have B1 := Lib.hid hb
  clear hb
  go_wp2_with fail
  have R1 : Hid (RI w1 W.heap.size (.slice none 0 0) []) := Lib.hid (Kd.R_nil _ _ _ _ _)
  go_loopw [3, 4] (fun u i wr => ∃ (k : Nat) (out : List Int), k ≤ xs.length ∧ i = .int .i64 k ∧ Hid (out = (xs.take k).map f1) ∧ out.length = k ∧ Hid (RI wr W.heap.size u out) ∧ Hid (Below W.heap.size W wr)) (fun _ i _ => xs.length - (intOf i).toNat)
  case atStart => exact ⟨0, [], by omega, rfl, Lib.hid (by simp), rfl, R1, B1⟩
  case round =>
    obtain ⟨k, out, hk, rfl, hT, hol, hR, hB⟩ := hrel
    by_cases hlt : k < xs.length
    · obtain ⟨ad, rfl, hx⟩ := elemS H0.out hB.out hlt
      obtain ⟨x, hxe⟩ : ∃ x, x = rd xs (k : Int) := ⟨_, rfl⟩
      rw [← hxe] at hx
      have XE := Lib.hid hxe
      clear hxe
      go_wp2_with (first | ((with_reducible refine gate_builtin (b := .append) (xs := #[.tmp 17, .tmp 24]) rfl ?_); at_builtin; refine Kd.R_append (Kd.int .i64) (w0 := W) (W := wr) W.heap.size rfl (.tmp 17) (.tmp 24) 44 3 (.int .i64 0) 8 rfl Try.underlying44 infoS rfl (by decide) (by omega) u3 out (wrap64 (Go.bits .and .i64 x 65535 - 30000)) [.int .i64 (wrap64 (Go.bits .and .i64 x 65535 - 30000))] (fun _ => True) (fun _ => False) rfl rfl ?aP (fun _ hk => hk.elim) ?aF ?aO ?aB ?aS ?aL ?_; (case aP => exact rfl); (case aF => exact (fun _ _ => trivial)); (case aO => exact hR.out); (case aB => exact hB.out); (case aS => exact hB.out.size); (case aL => have := hol; omega); intro v1 w6 ho hb hg hat; have R6 := Lib.hid ho; have B6 := Lib.hid hb; clear ho hb hg hat))
      go_roundw
      case rel => exact ⟨k + 1, out ++ [f1 x], by omega, by go_num, Lib.hid (by rw [hT.out, XE.out]; exact (map_at f1 xs hlt).symm), by rw [List.length_append, hol]; rfl, R6, B6⟩
      case measure => simp [intOf]; omega
    · have : k = xs.length := by omega
      subst this
      have HO := Lib.hid hol
      clear hol
      have hE : out = ys := by rw [hT.out, List.take_length, YE.out]
      subst hE
      have R2 := hR
      have B2 := hB
      clear hR hB hT YE
      obtain ⟨Ay, cy, rfl⟩ := Kd.R_slice R2.out
      go_wp2_with fail
      have L3 := Lib.hid (lit_RL B2.out.size (Reps.one (ri_lit R2.out) (Reps.none _ _)) (by simp))
      have R3 := Lib.hid (Kd.R_below R2.out (below_alloc (Below.refl _ _) (.cells #[.slice Ay out.length cy] 44)))
      have B3 := Lib.hid (below_step B2.out (below_alloc (Below.refl _ _) (.cells #[.slice Ay out.length cy] 44)))
      refine (side_Put.calls _ _ _ [out] _ _ _ (Kd.R_reads' L3.out).2.2 (Nat.le_refl _) P1.out).mono ?_
      rintro e w4 ⟨vp, rfl, hp, b4⟩
      have B4 := Lib.hid (below_step B3.out b4)
      have R4 := Lib.hid (Kd.R_below R3.out b4)
      have P4 := Lib.hid (Kd.S_R hp)
      clear hp b4 B3 R3 L3
      obtain ⟨Ap, cp, rfl⟩ := Kd.R_slice P4.out
      go_wp2_with fail
      have L4 := Lib.hid (lit_RL B4.out.size (Reps.one (ri_lit R4.out) (Reps.one (ri_lit R4.out) (Reps.none _ _))) (by simp))
      have R5 := Lib.hid (Kd.R_below R4.out (below_alloc (Below.refl _ _) (.cells #[.slice Ay out.length cy, .slice Ay out.length cy] 44)))
      have P5 := Lib.hid (Kd.R_below P4.out (below_alloc (Below.refl _ _) (.cells #[.slice Ay out.length cy, .slice Ay out.length cy] 44)))
      have B5 := Lib.hid (below_step B4.out (below_alloc (Below.refl _ _) (.cells #[.slice Ay out.length cy, .slice Ay out.length cy] 44)))
      refine (side_Put.calls _ _ _ [out, out] _ _ _ (Kd.R_reads' L4.out).2.2 (Nat.le_refl _) P2.out).mono ?_
      rintro e w6 ⟨vq, rfl, hq, b6⟩
      have B6 := Lib.hid (below_step B5.out b6)
      have R6 := Lib.hid (Kd.R_below R5.out b6)
      have P6 := Lib.hid (Kd.R_below P5.out b6)
      have Q6 := Lib.hid (Kd.S_R hq)
      clear hq b6 B5 R5 P5 L4 B4 R4 P4
      obtain ⟨Aq, cq, rfl⟩ := Kd.R_slice Q6.out
      go_wp2_with fail
      refine (descantlaw0_Num.calls _ _ _ rfl).mono ?_
      rintro e w7 ⟨rfl, hd⟩
      have B7 := Lib.hid (below_step B6.out hd.below)
      have R7 := Lib.hid (Kd.R_below R6.out hd.below)
      have P7 := Lib.hid (Kd.R_below P6.out hd.below)
      have Q7 := Lib.hid (Kd.R_below Q6.out hd.below)
      clear hd B6 R6 P6 Q6
      go_wp2_with fail
      have L7 := Lib.hid (lit_RL B7.out.size (Reps.one (ri_lit R7.out) (Reps.none _ _)) (by simp))
      have R8 := Lib.hid (Kd.R_below R7.out (below_alloc (Below.refl _ _) (.cells #[.slice Ay out.length cy] 44)))
      have P8 := Lib.hid (Kd.R_below P7.out (below_alloc (Below.refl _ _) (.cells #[.slice Ay out.length cy] 44)))
      have Q8 := Lib.hid (Kd.R_below Q7.out (below_alloc (Below.refl _ _) (.cells #[.slice Ay out.length cy] 44)))
      have B8 := Lib.hid (below_step B7.out (below_alloc (Below.refl _ _) (.cells #[.slice Ay out.length cy] 44)))
      refine (descantlaw0_SameLists.calls _ _ _ [out] _ _ [out] true _ (Kd.R_reads' P8.out).2.2 (Kd.R_reads' P8.out).2.1 (Kd.R_reads' L7.out).2.2 (Nat.le_refl _) S1.out).mono ?_
      rintro e w9 ⟨rfl, hd⟩
      have R9 := Lib.hid (Kd.R_below R8.out hd.below)
      have Q9 := Lib.hid (Kd.R_below Q8.out hd.below)
      have B9 := Lib.hid (below_step B8.out hd.below)
      clear hd R8 P8 Q8 B8 L7 R7 P7 Q7 B7
      go_wp2_with fail
      refine (descantlaw0_Num.calls _ _ _ rfl).mono ?_
      rintro e w10 ⟨rfl, hd⟩
      have R10 := Lib.hid (Kd.R_below R9.out hd.below)
      have Q10 := Lib.hid (Kd.R_below Q9.out hd.below)
      have B10 := Lib.hid (below_step B9.out hd.below)
      clear hd R9 Q9 B9
      go_wp2_with (first | ((with_reducible refine gate_dst (N := 58) rfl ?_); (try (refine gate_guard (by rfl) ?_; dsimp only)); refine Kd.R_make (Kd.int .i64) (w0 := W) (W := w10) W.heap.size 3 rfl (N := 58) rfl 44 _ _ rfl (out.length : Int) rfl rfl Try.underlying44 (.int .i64 0) 8 infoS rfl (by decide) (by omega) 0 (ok := fun _ => True) (okp := fun _ => True) rfl (fun _ hk => hk) trivial (by omega) ?mL B10.out B10.out.size ?_; (case mL => have := YL.out; rw [Int.toNat_natCast]; omega); intro vz w11 hz hb hg hn; rw [Int.toNat_natCast] at hz; have Z11 := Lib.hid hz; have B11 := Lib.hid hb; have R11 := Lib.hid (Kd.R_grown R10.out hg (fun k _ => by simp)); have Q11 := Lib.hid (Kd.R_grown Q10.out hg (fun k _ => by simp)); clear hz hb hg hn R10 Q10 B10; obtain ⟨Az, cz, ez⟩ := Kd.R_slice Z11.out; rw [List.length_replicate] at ez; subst ez))
      have L11 := Lib.hid (lit_RL B11.out.size (Reps.one (ri_lit R11.out) (Reps.one (ri_lit Z11.out) (Reps.none _ _))) (by simp))
      have Q12 := Lib.hid (Kd.R_below Q11.out (below_alloc (Below.refl _ _) (.cells #[.slice Ay out.length cy, .slice Az out.length cz] 44)))
      have B12 := Lib.hid (below_step B11.out (below_alloc (Below.refl _ _) (.cells #[.slice Ay out.length cy, .slice Az out.length cz] 44)))
      refine (descantlaw0_SameLists.calls _ _ _ [out, List.replicate out.length 0] _ _ [out, List.replicate out.length 0] true _ (Kd.R_reads' Q12.out).2.2 (Kd.R_reads' Q12.out).2.1 (Kd.R_reads' L11.out).2.2 (Nat.le_refl _) S2.out).mono ?_
      rintro e w13 ⟨rfl, hd⟩
      have B13 := Lib.hid (below_step B12.out hd.below)
      clear hd Q12 B12 L11 Z11 R11 Q11 B11
      go_wp2_with fail
      go_ret
      exact ⟨rfl, B13.out⟩
theorem sideOne_walk (a0 : Option Addr) (len0 cap0 : Nat) (z0 : List Int) (w : World) (w0 : (a0 = none ∧ len0 = 0 ∧ cap0 = 0 ∧ z0 = []) ∨ ∃ x, a0 = some x ∧ len0 ≤ cap0 ∧ cap0 ≤ maxLen ∧ z0.length = cap0 ∧ (∀ i, i < z0.length → w.cell? (x.add i) = some (.int .i64 (z0.getD i 0))) ∧ ∀ n ∈ z0, (Lit.int .i64 n).wf = true) (y0 : len0 * 8 ≤ 140737488351232) :
    Calls Try.prog 9 #[.slice a0 len0 cap0] w fun e w' => e = .returned (.bool true) ∧ Below w.heap.size w w' := by
  obtain ⟨l0, rfl, hr0, hm0, hw0, hc0⟩ := ReadsInt.ofRowC w0
  exact sideOne_calls _ _ l0 w (Kd.C_of_reads (d := (0 : Int)) (h1 := fun _ => rfl) hr0) hc0 y0
end Go.Proofs.Ythiknekmgjnkdaa.PSide
