/- Layer 17, SideSwap: the walk. -/
import Derived.Test.YthiknekmgjnkdaaSideOne
import Derived.Outline
namespace Go.Proofs.Ythiknekmgjnkdaa.PSide
open Go Go.RowKit Go.Proofs.YthiknekmgjnkdaaW.PrintWords Go.Proofs.YthiknekmgjnkdaaW.PrintMore Go.Proofs.YthiknekmgjnkdaaW.PrintLast
open Go.Proofs.Ythiknekmgjnkdaa.PAll (mayL allS inS row_c)
set_option linter.unusedVariables false
set_option linter.unusedSimpArgs false
/-- The lesser of two, as the walk tells it. -/
def minI (x y : Int) : Int := if y < x then y else x
theorem min2_I (k k' : IntKind) (x y : Int) : Builtin.min2 (.int k x) (.int k' y) = pure (.int k (minI x y)) := by simp only [Builtin.min2, minI]
attribute [local go_sem high] min2_I
attribute [local go_sem] min_two
/-- A number pa SideSwap takes it. -/
def f2 (x : Int) : Int := wrap64 (Go.bits .and .i64 x 65535 - 32768)
theorem f2_in (x : Int) : -32768 ≤ f2 x ∧ f2 x ≤ 32767 := by
  have h : Go.bits .and .i64 x 65535 = x % 65536 := Num.and_mask x 65535 16 (by omega) (by rfl)
  unfold f2
  rw [h, Num.w64 (by omega) (by omega)]
  omega
def in2 (xs : List Int) : Prop := ∀ x ∈ xs, -32768 ≤ x ∧ x ≤ 32767
theorem in2_map (xs : List Int) : in2 (xs.map f2) := by
  intro y hy
  obtain ⟨x, _, rfl⟩ := List.mem_map.1 hy
  exact f2_in x
theorem in2_all {xs : List Int} (h : in2 xs) : allS xs = true := by
  unfold allS
  rw [List.all_eq_true]
  intro y hy
  have := h y hy
  exact decide_eq_true (by omega)
theorem chg_is {r a : Int} (h1 : -32768 ≤ r ∧ r ≤ 32767) (h2 : -32768 ≤ a ∧ a ≤ 32767) : chg 1 (-1) r a = r - a := by
  unfold chg
  rw [Num.w64 (n := 1 * -1) (by omega) (by omega), Num.w64 (n := 1 * -1 * a) (by omega) (by omega), Num.w64 (by omega) (by omega)]
  omega
theorem zip_in : ∀ (y x : List Int), in2 y → in2 x → allS (List.zipWith (chg 1 (-1)) y x) = true
  | [], _, _, _ => rfl
  | _ :: _, [], _, _ => rfl
  | r :: y, a :: x, h1, h2 => by
    have i1 := h1 r (by simp)
    have i2 := h2 a (by simp)
    have ih := zip_in y x (fun z hz => h1 z (by simp [hz])) (fun z hz => h2 z (by simp [hz]))
    rw [List.zipWith_cons_cons, chg_is i1 i2]
    unfold allS at ih ⊢
    rw [List.all_cons, ih, Bool.and_true]
    exact decide_eq_true (by omega)
theorem zip_at (y x : List Int) (hl : y.length = x.length) (h1 : in2 y) (h2 : in2 x) {j : Nat} (hj : j < x.length) : rd (List.zipWith (chg 1 (-1)) y x) (j : Int) = rd y (j : Int) - rd x (j : Int) := by
  have e1 : rd y (j : Int) = y[j] := by simp [rd, hl, hj]
  have e2 : rd x (j : Int) = x[j] := by simp [rd, hj]
  have e3 : rd (List.zipWith (chg 1 (-1)) y x) (j : Int) = chg 1 (-1) y[j] x[j] := by simp [rd, hl, hj]
  rw [e1, e2, e3, chg_is (h1 _ (List.getElem_mem _)) (h2 _ (List.getElem_mem _))]
theorem rd_in {x : List Int} (h : in2 x) (j : Int) : -32768 ≤ rd x j ∧ rd x j ≤ 32767 := by
  unfold rd
  by_cases hj : j.toNat < x.length
  · rw [List.getD_eq_getElem?_getD, List.getElem?_eq_getElem hj]
    exact h _ (List.getElem_mem hj)
  · rw [List.getD_eq_getElem?_getD, List.getElem?_eq_none (by omega)]
    simp
/-- A row apart from another one, which has grown. -/
theorem sep_grown {w w6 : World} {base : Nat} {u u' v : Value} {xs : List Int} (h : (Kd.int .i64).R 3 w base (fun k => some k ≠ u.ownBlock) v xs) (hg : w.grownBy w6 u.ownBlock) (hat : u'.ownBlock = u.ownBlock ∨ ∃ b, u'.ownBlock = some b ∧ w.heap.size ≤ b) : (Kd.int .i64).R 3 w6 base (fun k => some k ≠ u'.ownBlock) v xs :=
  Kd.R_mono (Kd.R_grown (Kd.R_bound h) hg (fun k hk => hk.1)) (fun k hk => by
    rcases hat with e | ⟨b, e, hb⟩
    · rw [e]; exact hk.1
    · rw [e]; intro he; have := Option.some.inj he; have := hk.2.2.1; omega)
theorem row_c3 {w : World} {A : Option Addr} {chs : List (List Int)} (h : Kd.C (Kd.slice 3 (Kd.int .i64)) w A chs.length chs) {k : Nat} (hk : k < chs.length) : ∃ ad A0 c0, A = some ad ∧ w.cell? (ad.add k) = some (.slice A0 (chs.getD k []).length c0) ∧ (chs.getD k []).length ≤ c0 ∧ (Kd.int .i64).C w A0 (chs.getD k []).length (chs.getD k []) := by
  obtain ⟨ad, A0, c0, e, h1, h2, h3⟩ := at_L1 h (k : Int) (by omega) (by omega)
  have er : rd_L1 chs (k : Int) = chs.getD k [] := by simp [rd_L1]
  rw [er] at h1 h2 h3
  rw [Int.toNat_natCast] at h1
  exact ⟨ad, A0, c0, e, h1, h2, h3⟩
set_option maxHeartbeats 32000000 in
theorem sideSwap_calls (A0 : Option Addr) (c0 : Nat) (xs : List Int) (A1 : Option Addr) (c1 : Nat) (ys : List Int) (W : World) (h0 : (Kd.int .i64).C W A0 xs.length xs) (hc0 : xs.length ≤ c0) (h1 : (Kd.int .i64).C W A1 ys.length ys) (hc1 : ys.length ≤ c1) (l0 : xs.length * 8 ≤ 140737488351232) (l1 : ys.length * 8 ≤ 140737488351232) :
    Calls Try.prog 10 #[.slice A0 xs.length c0, .slice A1 ys.length c1] W fun e w' => e = .returned (.bool true) ∧ Below W.heap.size W w' := by
  have H0 := Lib.hid h0
  have H1 := Lib.hid h1
  clear h0 h1
  obtain ⟨n, hn⟩ : ∃ n, n = min xs.length ys.length := ⟨_, rfl⟩
  have hmin : minI (xs.length : Int) (ys.length : Int) = (n : Int) := by unfold minI; split <;> omega
  have nx : n ≤ xs.length := by omega
  have ny : n ≤ ys.length := by omega
  clear hn
  obtain ⟨pa, has⟩ : ∃ pa, pa = (xs.take n).map f2 := ⟨_, rfl⟩
  obtain ⟨pb, hbs⟩ : ∃ pb, pb = (ys.take n).map f2 := ⟨_, rfl⟩
  have la : pa.length = n := by rw [has, List.length_map, List.length_take]; omega
  have lb : pb.length = n := by rw [hbs, List.length_map, List.length_take]; omega
  have ia : in2 pa := by rw [has]; exact in2_map _
  have ib : in2 pb := by rw [hbs]; exact in2_map _
  obtain ⟨ds, hds⟩ : ∃ ds, ds = List.zipWith (chg 1 (-1)) pb pa := ⟨_, rfl⟩
  obtain ⟨es, hes⟩ : ∃ es, es = List.zipWith (chg 1 (-1)) pa pb := ⟨_, rfl⟩
  have ld : ds.length = n := by rw [hds, List.length_zipWith]; omega
  have le : es.length = n := by rw [hes, List.length_zipWith]; omega
  have ad : allS ds = true := by rw [hds]; exact zip_in pb pa ib ia
  have ae : allS es = true := by rw [hes]; exact zip_in pa pb ia ib
  have vd : ∀ j : Nat, j < n → rd ds (j : Int) = wrap64 (rd pb (j : Int) - rd pa (j : Int)) := fun j hj => by
    have i1 := rd_in ia (j : Int)
    have i2 := rd_in ib (j : Int)
    rw [hds, zip_at pb pa (by omega) ib ia (by omega), Num.w64 (by omega) (by omega)]
  have ve : ∀ j : Nat, j < n → wrap64 (-rd es (j : Int)) = wrap64 (rd pb (j : Int) - rd pa (j : Int)) := fun j hj => by
    have i1 := rd_in ia (j : Int)
    have i2 := rd_in ib (j : Int)
    rw [hes, zip_at pa pb (by omega) ia ib (by omega), Num.w64 (by omega) (by omega), Num.w64 (by omega) (by omega)]
    omega
  have t1 : turnO [pa, pb] (-1) = ([pa, ds], 0) := by
    unfold turnO
    rw [if_pos (by simp [mayL, in2_all ia, in2_all ib, la, lb])]
    show (if mayL [pa, List.zipWith (chg 1 (-1)) pb pa] = true then _ else _) = _
    rw [← hds, if_pos (by simp [mayL, in2_all ia, ad, la, ld])]
  have t2 : turnO [pb, pa] (-1) = ([pb, es], 0) := by
    unfold turnO
    rw [if_pos (by simp [mayL, in2_all ia, in2_all ib, la, lb])]
    show (if mayL [pb, List.zipWith (chg 1 (-1)) pa pb] = true then _ else _) = _
    rw [← hes, if_pos (by simp [mayL, in2_all ib, ae, lb, le])]
  have P1 := Lib.hid (put_is [pa, pb] (by simp) (by intro z hz; simp at hz; rcases hz with rfl | rfl <;> omega) n (by intro z hz; simp at hz; rcases hz with rfl | rfl <;> omega) 0)
  have P2 := Lib.hid (put_is [pb, pa] (by simp) (by intro z hz; simp at hz; rcases hz with rfl | rfl <;> omega) n (by intro z hz; simp at hz; rcases hz with rfl | rfl <;> omega) 0)
  rw [t1] at P1
  rw [t2] at P2
  have S1 := Lib.hid (same_selfS pa (by omega) (n + 1) (by omega))
  have S2 := Lib.hid (same_selfS pb (by omega) (n + 1) (by omega))
  have AE := Lib.hid has
  have BE := Lib.hid hbs
  have LA := Lib.hid la
  have LB := Lib.hid lb
  have LD := Lib.hid ld
  have LE := Lib.hid le
  have VD := Lib.hid vd
  have VE := Lib.hid ve
  clear has hbs la lb ld le vd ve hds hes ia ib ad ae t1 t2
  go_enter Try.func10, Try.ntmps10
  go_wp2_with fail
  refine (descantlaw17_awake.calls 60 true _ awakeS).mono ?_
  rintro e w1 ⟨rfl, hb⟩
  have B1 := Lib.hid hb
  clear hb
  go_wp2_with fail
  have R1 : Hid ((Kd.int .i64).R 3 w1 W.heap.size (fun k_ => some k_ ≠ (.slice none 0 0 : Value).ownBlock) (.slice none 0 0) []) := Lib.hid (Kd.R_nil _ _ _ _ _)
  go_loopw [6, 7, 8] (fun u v i wr => ∃ (k : Nat) (oa ob : List Int), k ≤ n ∧ i = .int .i64 k ∧ Hid (oa = (xs.take k).map f2) ∧ Hid (ob = (ys.take k).map f2) ∧ oa.length = k ∧ ob.length = k ∧ Hid ((Kd.int .i64).R 3 wr W.heap.size (fun k_ => some k_ ≠ v.ownBlock) u oa) ∧ Hid ((Kd.int .i64).R 3 wr W.heap.size (fun k_ => some k_ ≠ u.ownBlock) v ob) ∧ Hid (Below W.heap.size W wr)) (fun _ _ i _ => n - (intOf i).toNat)
  case atStart => exact ⟨0, [], [], by omega, rfl, Lib.hid (by simp), Lib.hid (by simp), rfl, rfl, R1, R1, B1⟩
  case round =>
    obtain ⟨k, oa, ob, hk, rfl, hTa, hTb, hla, hlb, hRa, hRb, hB⟩ := hrel
    by_cases hlt : k < n
    · obtain ⟨ad, rfl, hx⟩ := elemS H0.out hB.out (show k < xs.length by omega)
      obtain ⟨ae, rfl, hy⟩ := elemS H1.out hB.out (show k < ys.length by omega)
      obtain ⟨x, hxe⟩ : ∃ x, x = rd xs (k : Int) := ⟨_, rfl⟩
      obtain ⟨y, hye⟩ : ∃ y, y = rd ys (k : Int) := ⟨_, rfl⟩
      rw [← hxe] at hx
      rw [← hye] at hy
      have XE := Lib.hid hxe
      have YE := Lib.hid hye
      have klx : k < xs.length := by omega
      have kly : k < ys.length := by omega
      have HLA := Lib.hid hla
      have HLB := Lib.hid hlb
      clear hxe hye hla hlb
      go_wp2_with (first | ((with_reducible refine gate_builtin (b := .append) (xs := #[.tmp 26, .tmp 33]) rfl ?_); at_builtin; refine Kd.R_append (Kd.int .i64) (w0 := W) (W := wr) W.heap.size rfl (.tmp 26) (.tmp 33) 44 3 (.int .i64 0) 8 rfl Try.underlying44 infoS rfl (by decide) (by omega) u6 oa (wrap64 (Go.bits .and .i64 x 65535 - 32768)) [.int .i64 (wrap64 (Go.bits .and .i64 x 65535 - 32768))] (fun k_ => some k_ ≠ (u7 : Value).ownBlock) (fun _ => False) rfl rfl ?aP (fun _ hk => hk.elim) ?aF ?aO ?aB ?aS ?aL ?_; (case aP => exact rfl); (case aF => exact (fun k_ hk => Kd.fresh' (Kd.R_lt hRb.out) k_ hk)); (case aO => exact hRa.out); (case aB => exact hB.out); (case aS => exact hB.out.size); (case aL => have := HLA.out; omega); intro v6 w6 ho6 hb6 hg6 hat6; have RA6 := Lib.hid ho6; have RB6 := Lib.hid (sep_grown hRb.out hg6 hat6); have B6 := Lib.hid hb6; obtain ⟨ae6, hae6, hy6⟩ := elemS H1.out hb6 kly; cases hae6; rw [← YE.out] at hy6; clear ho6 hb6 hg6 hat6) | ((with_reducible refine gate_builtin (b := .append) (xs := #[.tmp 35, .tmp 42]) rfl ?_); at_builtin; refine Kd.R_append (Kd.int .i64) (w0 := W) (W := w6) W.heap.size rfl (.tmp 35) (.tmp 42) 44 3 (.int .i64 0) 8 rfl Try.underlying44 infoS rfl (by decide) (by omega) u7 ob (wrap64 (Go.bits .and .i64 y 65535 - 32768)) [.int .i64 (wrap64 (Go.bits .and .i64 y 65535 - 32768))] (fun k_ => some k_ ≠ (v6 : Value).ownBlock) (fun _ => False) rfl rfl ?aP (fun _ hk => hk.elim) ?aF ?aO ?aB ?aS ?aL ?_; (case aP => exact rfl); (case aF => exact (fun k_ hk => Kd.fresh' (Kd.R_lt RA6.out) k_ hk)); (case aO => exact RB6.out); (case aB => exact B6.out); (case aS => exact B6.out.size); (case aL => have := HLB.out; omega); intro v7 w7 ho7 hb7 hg7 hat7; have RB7 := Lib.hid ho7; have RA7 := Lib.hid (sep_grown RA6.out hg7 hat7); have B7 := Lib.hid hb7; clear ho7 hb7 hg7 hat7))
      go_roundw
      case rel => exact ⟨k + 1, oa ++ [f2 x], ob ++ [f2 y], by omega, by go_num, Lib.hid (by rw [hTa.out, XE.out]; exact (map_at f2 xs klx).symm), Lib.hid (by rw [hTb.out, YE.out]; exact (map_at f2 ys kly).symm), by rw [List.length_append, HLA.out]; rfl, by rw [List.length_append, HLB.out]; rfl, RA7, RB7, B7⟩
      case measure => simp [intOf]; omega
    · have en : n = k := by omega
      subst en
      have HLA := Lib.hid hla
      have HLB := Lib.hid hlb
      clear hla hlb
      have hE : oa = pa := by rw [hTa.out, AE.out]
      have hF : ob = pb := by rw [hTb.out, BE.out]
      subst hE
      subst hF
      have RA2 : Hid (RI wr W.heap.size u6 oa) := Lib.hid (Kd.R_mono hRa.out (fun _ _ => trivial))
      have RB2 : Hid (RI wr W.heap.size u7 ob) := Lib.hid (Kd.R_mono hRb.out (fun _ _ => trivial))
      have B2 := hB
      clear hRa hRb hB hTa hTb AE BE
      obtain ⟨Aa, ca, rfl⟩ := Kd.R_slice RA2.out
      obtain ⟨Ab, cb, rfl⟩ := Kd.R_slice RB2.out
      go_wp2_with fail
      have L2 := Lib.hid (lit_RL B2.out.size (Reps.one (ri_lit RA2.out) (Reps.one (ri_lit RB2.out) (Reps.none _ _))) (by simp))
      have RA3 := Lib.hid (Kd.R_below RA2.out (below_alloc (Below.refl _ _) (.cells #[.slice Aa oa.length ca, .slice Ab ob.length cb] 44)))
      have RB3 := Lib.hid (Kd.R_below RB2.out (below_alloc (Below.refl _ _) (.cells #[.slice Aa oa.length ca, .slice Ab ob.length cb] 44)))
      have B3 := Lib.hid (below_step B2.out (below_alloc (Below.refl _ _) (.cells #[.slice Aa oa.length ca, .slice Ab ob.length cb] 44)))
      refine (side_Put.calls _ _ _ [oa, ob] _ _ _ (Kd.R_reads' L2.out).2.2 (Nat.le_refl _) P1.out).mono ?_
      rintro e w4 ⟨vp, rfl, hp, b4⟩
      have RA4 := Lib.hid (Kd.R_below RA3.out b4)
      have RB4 := Lib.hid (Kd.R_below RB3.out b4)
      have B4 := Lib.hid (below_step B3.out b4)
      have P4 := Lib.hid (Kd.S_R hp)
      clear hp b4 L2 RA2 RB2 B2 RA3 RB3 B3
      obtain ⟨Ap, cp, rfl⟩ := Kd.R_slice P4.out
      go_wp2_with fail
      have L4 := Lib.hid (lit_RL B4.out.size (Reps.one (ri_lit RB4.out) (Reps.one (ri_lit RA4.out) (Reps.none _ _))) (by simp))
      have RA5 := Lib.hid (Kd.R_below RA4.out (below_alloc (Below.refl _ _) (.cells #[.slice Ab ob.length cb, .slice Aa oa.length ca] 44)))
      have RB5 := Lib.hid (Kd.R_below RB4.out (below_alloc (Below.refl _ _) (.cells #[.slice Ab ob.length cb, .slice Aa oa.length ca] 44)))
      have P5 := Lib.hid (Kd.R_below P4.out (below_alloc (Below.refl _ _) (.cells #[.slice Ab ob.length cb, .slice Aa oa.length ca] 44)))
      have B5 := Lib.hid (below_step B4.out (below_alloc (Below.refl _ _) (.cells #[.slice Ab ob.length cb, .slice Aa oa.length ca] 44)))
      refine (side_Put.calls _ _ _ [ob, oa] _ _ _ (Kd.R_reads' L4.out).2.2 (Nat.le_refl _) P2.out).mono ?_
      rintro e w6 ⟨vq, rfl, hq, b6⟩
      have RA6 := Lib.hid (Kd.R_below RA5.out b6)
      have RB6 := Lib.hid (Kd.R_below RB5.out b6)
      have P6 := Lib.hid (Kd.R_below P5.out b6)
      have B6 := Lib.hid (below_step B5.out b6)
      have Q6 := Lib.hid (Kd.S_R hq)
      clear hq b6 L4 RA4 RB4 P4 B4 RA5 RB5 P5 B5
      obtain ⟨Aq, cq, rfl⟩ := Kd.R_slice Q6.out
      go_wp2_with fail
      refine (descantlaw0_Num.calls _ _ _ rfl).mono ?_
      rintro e w7 ⟨rfl, hd⟩
      have RA7 := Lib.hid (Kd.R_below RA6.out hd.below)
      have RB7 := Lib.hid (Kd.R_below RB6.out hd.below)
      have P7 := Lib.hid (Kd.R_below P6.out hd.below)
      have Q7 := Lib.hid (Kd.R_below Q6.out hd.below)
      have B7 := Lib.hid (below_step B6.out hd.below)
      clear hd RA6 RB6 P6 Q6 B6
      go_wp2_with fail
      refine (descantlaw0_Num.calls _ _ _ rfl).mono ?_
      rintro e w8 ⟨rfl, hd⟩
      have RA8 := Lib.hid (Kd.R_below RA7.out hd.below)
      have RB8 := Lib.hid (Kd.R_below RB7.out hd.below)
      have P8 := Lib.hid (Kd.R_below P7.out hd.below)
      have Q8 := Lib.hid (Kd.R_below Q7.out hd.below)
      have B8 := Lib.hid (below_step B7.out hd.below)
      clear hd RA7 RB7 P7 Q7 B7
      obtain ⟨ap, Bp, dp, e1, hp1, hp2⟩ := row_c (Kd.R_reads' P8.out).2.2 (k := 1) (by simp)
      obtain rfl := e1
      obtain ⟨aq, Bq, dq, e2, hq1, hq2⟩ := row_c (Kd.R_reads' Q8.out).2.2 (k := 1) (by simp)
      obtain rfl := e2
      rw [show [oa, ds].getD 1 [] = ds from rfl, LD.out] at hp1
      rw [show [ob, es].getD 1 [] = es from rfl, LE.out] at hq1
      have HP2 : Hid ((Kd.int .i64).C w8 Bp ds.length ds) := Lib.hid hp2
      have HQ2 : Hid ((Kd.int .i64).C w8 Bq es.length es) := Lib.hid hq2
      clear hp2 hq2
      obtain ⟨ap2, Bp0, dp0, e1, hp0, hcp0, hp00⟩ := row_c3 (Kd.R_reads' P8.out).2.2 (k := 0) (by simp)
      obtain rfl := Option.some.inj e1
      obtain ⟨aq2, Bq0, dq0, e2, hq0, hcq0, hq00⟩ := row_c3 (Kd.R_reads' Q8.out).2.2 (k := 0) (by simp)
      obtain rfl := Option.some.inj e2
      rw [show [oa, ds].getD 0 [] = oa from rfl, Addr.add_zero'] at hp0
      rw [show [ob, es].getD 0 [] = ob from rfl, Addr.add_zero'] at hq0
      have hcp0 : oa.length ≤ dp0 := hcp0
      have hcq0 : ob.length ≤ dq0 := hcq0
      have HP0 : Hid ((Kd.int .i64).C w8 Bp0 oa.length oa) := Lib.hid hp00
      have HQ0 : Hid ((Kd.int .i64).C w8 Bq0 ob.length ob) := Lib.hid hq00
      clear hp00 hq00 e1 e2
      have hp3 : w8.cell? { block := ap.block, off := ap.off + 1 } = some (.slice Bp n dp) := by simpa [Addr.add] using hp1
      have hq3 : w8.cell? { block := aq.block, off := aq.off + 1 } = some (.slice Bq n dq) := by simpa [Addr.add] using hq1
      clear hp1 hq1
      go_wp2_with fail
      go_loopw [13] (fun i wr => ∃ (k m : Nat), k ≤ n ∧ i = .int .i64 k ∧ wr = w8.drewN m) (fun i _ => n - (intOf i).toNat)
      case atStart => exact ⟨0, 0, by omega, rfl, rfl⟩
      case round =>
        obtain ⟨k, m, hk, rfl, rfl⟩ := hrel
        by_cases hlt : k < n
        · obtain ⟨a1, rfl, x1⟩ := elemS HP2.out (Below.refl _ _) (show k < ds.length by have := LD.out; omega)
          obtain ⟨a2, rfl, x2⟩ := elemS HQ2.out (Below.refl _ _) (show k < es.length by have := LE.out; omega)
          obtain ⟨a3, rfl, x3⟩ := elemS (Kd.R_reads' RA8.out).2.2 (Below.refl _ _) (show k < oa.length by have := HLA.out; omega)
          obtain ⟨a4, rfl, x4⟩ := elemS (Kd.R_reads' RB8.out).2.2 (Below.refl _ _) (show k < ob.length by have := HLB.out; omega)
          rw [VD.out k hlt] at x1
          have v2 := VE.out k hlt
          obtain ⟨y, hy⟩ : ∃ y, y = rd ob (k : Int) := ⟨_, rfl⟩
          obtain ⟨x, hx⟩ : ∃ x, x = rd oa (k : Int) := ⟨_, rfl⟩
          obtain ⟨z, hz⟩ : ∃ z, z = rd es (k : Int) := ⟨_, rfl⟩
          rw [← hy, ← hx] at x1 v2
          rw [← hy] at x4
          rw [← hx] at x3
          rw [← hz] at x2 v2
          clear hy hx hz
          have v3 : (wrap64 (y - x) != wrap64 (y - x)) = false := by simp
          have v4 : (wrap64 (y - x) != wrap64 (-z)) = false := by rw [v2]; simp
          clear v2
          have k0 : (0 : Int) ≤ (k : Int) := by omega
          have k1 : (k : Int) < (n : Int) := by omega
          have la2 := HLA.out
          have lb2 := HLB.out
          go_wp2_with fail
          go_quiet (fail)
          go_wp2_with fail
          go_roundw
          case rel => exact ⟨k + 1, _, by omega, by go_num, rfl⟩
          case measure => simp [intOf]; omega
        · have bd := pw_below_drewN (Below.refl w8.heap.size w8) m
          go_wp2_with fail
          refine (descantlaw0_SameInts.calls (n + 1) _ _ oa _ _ oa true _ (Kd.C_below HP0.out bd) hcp0 (Kd.C_below (Kd.R_reads' RA8.out).2.2 bd) (Kd.R_reads' RA8.out).2.1 S1.out).mono ?_
          rintro e w9 ⟨rfl, hd⟩
          have HD := Lib.hid (below_step bd hd.below)
          have hq5 : w9.cell? aq = some (.slice Bq0 ob.length dq0) := (HD.out.cell (World.block_lt_of_cell? _ _ hq0)).trans hq0
          clear hd bd
          go_wp2_with fail
          refine (descantlaw0_SameInts.calls (n + 1) _ _ ob _ _ ob true _ (Kd.C_below HQ0.out HD.out) hcq0 (Kd.C_below (Kd.R_reads' RB8.out).2.2 HD.out) (Kd.R_reads' RB8.out).2.1 S2.out).mono ?_
          rintro e w10 ⟨rfl, hd⟩
          have HD2 := Lib.hid (below_step B8.out (below_step HD.out hd.below))
          clear hd
          go_wp2_with fail
          go_ret
          exact ⟨rfl, HD2.out⟩
theorem sideSwap_walk (a0 : Option Addr) (len0 cap0 : Nat) (z0 : List Int) (a1 : Option Addr) (len1 cap1 : Nat) (z1 : List Int) (w : World) (w0 : (a0 = none ∧ len0 = 0 ∧ cap0 = 0 ∧ z0 = []) ∨ ∃ x, a0 = some x ∧ len0 ≤ cap0 ∧ cap0 ≤ maxLen ∧ z0.length = cap0 ∧ (∀ i, i < z0.length → w.cell? (x.add i) = some (.int .i64 (z0.getD i 0))) ∧ ∀ n ∈ z0, (Lit.int .i64 n).wf = true) (y0 : len0 * 8 ≤ 140737488351232) (w1 : (a1 = none ∧ len1 = 0 ∧ cap1 = 0 ∧ z1 = []) ∨ ∃ x, a1 = some x ∧ len1 ≤ cap1 ∧ cap1 ≤ maxLen ∧ z1.length = cap1 ∧ (∀ i, i < z1.length → w.cell? (x.add i) = some (.int .i64 (z1.getD i 0))) ∧ ∀ n ∈ z1, (Lit.int .i64 n).wf = true) (y1 : len1 * 8 ≤ 140737488351232) :
    Calls Try.prog 10 #[.slice a0 len0 cap0, .slice a1 len1 cap1] w fun e w' => e = .returned (.bool true) ∧ Below w.heap.size w w' := by
  obtain ⟨l0, rfl, hr0, hm0, hw0, hc0⟩ := ReadsInt.ofRowC w0
  obtain ⟨l1, rfl, hr1, hm1, hw1, hc1⟩ := ReadsInt.ofRowC w1
  exact sideSwap_calls _ _ l0 _ _ l1 w (Kd.C_of_reads (d := (0 : Int)) (h1 := fun _ => rfl) hr0) hc0 (Kd.C_of_reads (d := (0 : Int)) (h1 := fun _ => rfl) hr1) hc1 y0 y1
end Go.Proofs.Ythiknekmgjnkdaa.PSide
