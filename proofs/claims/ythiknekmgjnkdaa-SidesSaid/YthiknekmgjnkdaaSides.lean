/- Layer 17, Sides: what Put and Get give is the document's, and comes back: the walk. -/
import Derived.Test.YthiknekmgjnkdaaSideRef
import Derived.Test.YthiknekmgjnkdaaSpoil
import Derived.Outline
namespace Go.Proofs.Ythiknekmgjnkdaa.PSide
open Go Go.RowKit Go.Proofs.YthiknekmgjnkdaaW.PrintWords Go.Proofs.YthiknekmgjnkdaaW.PrintMore Go.Proofs.YthiknekmgjnkdaaW.PrintLast
open Go.Proofs.Ythiknekmgjnkdaa.PAll (mayL allS inS SL spoilLists_c)
open Go.Proofs.Ythiknekmgjnkdaa.PRef (refPut_is refGet_is copy_is)
set_option linter.unusedVariables false
set_option linter.unusedSimpArgs false
theorem turn_len (chs : List (List Int)) (w : Int) (m : Nat) (hm : ∀ xs ∈ chs, xs.length ≤ m) : (turnO chs w).1.length ≤ 2 ∧ ∀ xs ∈ (turnO chs w).1, xs.length ≤ m := by
  unfold turnO
  split
  · rename_i hy
    rcases chs with _ | ⟨x, _ | ⟨y, _ | ⟨z, t⟩⟩⟩
    · exact ⟨by simp, by simp⟩
    · exact ⟨by simp, hm⟩
    · simp only []
      split
      · refine ⟨by simp, fun xs hx => ?_⟩
        simp at hx
        rcases hx with rfl | rfl
        · exact hm _ (by simp)
        · have := hm y (by simp)
          rw [List.length_zipWith]; omega
      · exact ⟨by simp, by simp⟩
    · exact absurd hy (by simp [mayL])
  · exact ⟨by simp, by simp⟩
theorem turn_code (chs : List (List Int)) (w : Int) : (turnO chs w).2 = 0 ∨ (turnO chs w).2 = 1700 := by
  unfold turnO
  split
  · split
    · split
      · exact .inl rfl
      · exact .inr rfl
    · exact .inl rfl
  · exact .inr rfl
theorem chg_back {r a : Int} (h1 : inS r = true) (h2 : inS a = true) : chg 1 1 (chg 1 (-1) r a) a = r := by
  have h1 := of_decide_eq_true h1
  have h2 := of_decide_eq_true h2
  have e : chg 1 (-1) r a = r - a := by
    unfold chg
    rw [Num.w64 (n := 1 * -1) (by omega) (by omega), Num.w64 (n := 1 * -1 * a) (by omega) (by omega), Num.w64 (by omega) (by omega)]
    omega
  rw [e]
  unfold chg
  rw [Num.w64 (n := 1 * 1) (by omega) (by omega), Num.w64 (n := 1 * 1 * a) (by omega) (by omega), Num.w64 (by omega) (by omega)]
  omega
theorem zip_back : ∀ (y x : List Int), allS y = true → allS x = true → y.length = x.length → List.zipWith (chg 1 1) (List.zipWith (chg 1 (-1)) y x) x = y
  | [], _, _, _, _ => rfl
  | _ :: _, [], _, _, h => by simp at h
  | r :: y, a :: x, h1, h2, hl => by
    have i1 : inS r = true ∧ allS y = true := by simpa [allS] using h1
    have i2 : inS a = true ∧ allS x = true := by simpa [allS] using h2
    rw [List.zipWith_cons_cons, List.zipWith_cons_cons, chg_back i1.1 i2.1, zip_back y x i1.2 i2.2 (by simpa using hl)]
theorem turn_back (chs : List (List Int)) (h : (turnO chs (-1)).2 = 0) : turnO (turnO chs (-1)).1 1 = (chs, 0) := by
  by_cases hy : mayL chs = true
  · rcases chs with _ | ⟨x, _ | ⟨y, _ | ⟨z, t⟩⟩⟩
    · exact absurd hy (by decide)
    · have e : turnO [x] (-1) = ([x], 0) := by unfold turnO; rw [if_pos hy]
      rw [e]
      unfold turnO; rw [if_pos hy]
    · have e : turnO [x, y] (-1) = if mayL [x, List.zipWith (chg 1 (-1)) y x] = true then ([x, List.zipWith (chg 1 (-1)) y x], 0) else ([], 1700) := by unfold turnO; rw [if_pos hy]
      rw [e] at h ⊢
      by_cases hz : mayL [x, List.zipWith (chg 1 (-1)) y x] = true
      · rw [if_pos hz]
        have ha : (allS x = true ∧ y.length = x.length) ∧ allS y = true := by
          simp [mayL] at hy
          exact ⟨⟨hy.1, hy.2.1⟩, hy.2.2⟩
        have e2 : turnO [x, List.zipWith (chg 1 (-1)) y x] 1 = if mayL [x, List.zipWith (chg 1 1) (List.zipWith (chg 1 (-1)) y x) x] = true then ([x, List.zipWith (chg 1 1) (List.zipWith (chg 1 (-1)) y x) x], 0) else ([], 1700) := by unfold turnO; rw [if_pos hz]
        show turnO [x, List.zipWith (chg 1 (-1)) y x] 1 = _
        rw [e2, zip_back y x ha.2 ha.1.1 ha.1.2, if_pos hy]
      · rw [if_neg hz] at h; exact absurd h (by decide)
    · exact absurd hy (by simp [mayL])
  · unfold turnO at h
    rw [if_neg hy] at h
    exact absurd h (by decide)
set_option maxHeartbeats 32000000 in
theorem sides_calls (A0 : Option Addr) (c0 : Nat) (chs : List (List Int)) (W : World) (h0 : Kd.C (Kd.slice 3 (Kd.int .i64)) W A0 chs.length chs) (hc0 : chs.length ≤ c0) (hl : chs.length < 5864062014805) (hls : ∀ xs ∈ chs, xs.length < 17592186044416) :
    Calls Try.prog 7 #[.slice A0 chs.length c0] W fun e w' => e = .returned (.bool true) ∧ Below W.heap.size W w' := by
  have hls2 : ∀ xs ∈ chs, xs.length ≤ 17592186044416 := fun xs hx => Nat.le_of_lt (hls xs hx)
  obtain ⟨m, hm⟩ : ∃ m, m = 17592186044416 := ⟨_, rfl⟩
  have hlm : ∀ xs ∈ chs, xs.length ≤ m := fun xs hx => by have := hls2 xs hx; omega
  have tp := turn_len chs (-1) m hlm
  have tg := turn_len chs 1 m hlm
  have cp := turn_code chs (-1)
  have cb := turn_back chs
  obtain ⟨P, hP⟩ : ∃ P, P = turnO chs (-1) := ⟨_, rfl⟩
  obtain ⟨G, hG⟩ : ∃ G, G = turnO chs 1 := ⟨_, rfl⟩
  have p1 := put_is chs (by omega) hls2 m hlm 0
  have p2 := refPut_is chs hls m hlm 0
  have g1 := get_is chs (by omega) hls2 m hlm 0
  have g2 := refGet_is chs hls m hlm 0
  rw [← hP] at tp cp cb p1 p2
  rw [← hG] at tg g1 g2
  clear hP hG
  obtain ⟨P1, P2⟩ := P
  obtain ⟨G1, G2⟩ := G
  have x1 := get_is P1 (by have := tp.1; simp only at this; omega) (fun xs hx => by have := tp.2 xs hx; omega) m tp.2 0
  obtain ⟨X, hX⟩ : ∃ X, X = turnO P1 1 := ⟨_, rfl⟩
  simp only at cb cp
  rw [← hX] at x1 cb
  obtain ⟨X1, X2⟩ := X
  clear hX
  simp only at tp tg
  have TP := Lib.hid tp
  have TG := Lib.hid tg
  have PP := Lib.hid p1
  have PQ := Lib.hid p2
  have GP := Lib.hid g1
  have GQ := Lib.hid g2
  have XP := Lib.hid x1
  have CB := Lib.hid cb
  have CP := Lib.hid cp
  have CI := Lib.hid (copy_is chs hl hls)
  have SP := Lib.hid (same_lists P1 (by have := tp.1; omega) m (fun r hr => ⟨by have := tp.2 r hr; omega, tp.2 r hr⟩))
  have SG := Lib.hid (same_lists G1 (by have := tg.1; omega) m (fun r hr => ⟨by have := tg.2 r hr; omega, tg.2 r hr⟩))
  have SC := Lib.hid (same_lists chs (by omega) m (fun r hr => ⟨hls2 r hr, hlm r hr⟩))
  have H0 := Lib.hid h0
  have HM := Lib.hid hm
  have HL := Lib.hid hl
  clear h0 tp tg p1 p2 g1 g2 x1 cb cp hls hls2 hlm hm hl
  go_enter Try.func7, Try.ntmps7
  go_wp2_with fail
  refine (PRef.descantlaw0_CopyLists.calls _ A0 c0 chs _ _ H0.out hc0 CI.out).mono ?_
  rintro e w1 ⟨v1, rfl, hp, hb⟩
  have HX1 := Lib.hid hp
  have B1 := Lib.hid hb
  have H1 := Lib.hid (Kd.C_below H0.out hb)
  have D1 : Hid (Below w1.heap.size w1 w1) := Lib.hid (Below.refl _ _)
  clear hp hb H0
  obtain ⟨Ax, cx, rfl⟩ := Kd.S_slice HX1.out
  go_wp2_with fail
  refine (side_Put.calls _ Ax cx chs _ _ _ (Kd.S_reads' (Kd.S_below HX1.out D1.out)).2.2 (Kd.S_reads' (Kd.S_below HX1.out D1.out)).2.1 PP.out).mono ?_
  rintro e w2 ⟨va, rfl, hp, hb⟩
  have D2 := Lib.hid (below_step D1.out hb)
  have A2 := Lib.hid hp
  clear hp hb D1
  have A2 := Lib.hid (Kd.S_mono (Kd.S_bound A2.out) (ok' := fun k => k < w2.heap.size) (fun _ hk => hk.2.2.1))
  have Z2 : Hid (Below w2.heap.size w2 w2) := Lib.hid (Below.refl _ _)
  go_wp2_with fail
  refine (PRef.descantref13_PutSide.calls _ A0 c0 chs _ _ _ (Kd.C_below H1.out D2.out) hc0 PQ.out).mono ?_
  rintro e w3 ⟨vb, rfl, hp, hb⟩
  have A3 := Lib.hid (Kd.S_below A2.out hb)
  have D3 := Lib.hid (below_step D2.out hb)
  have Z3 := Lib.hid (below_step Z2.out hb)
  have B3 := Lib.hid hp
  clear hp hb A2 D2 Z2
  have Z3X := Z3
  have D3X := D3
  go_wp2_with fail
  refine (side_Get.calls _ Ax cx chs _ _ _ (Kd.S_reads' (Kd.S_below HX1.out D3.out)).2.2 (Kd.S_reads' (Kd.S_below HX1.out D3.out)).2.1 GP.out).mono ?_
  rintro e w4 ⟨vc, rfl, hp, hb⟩
  have A4 := Lib.hid (Kd.S_below A3.out hb)
  have B4 := Lib.hid (Kd.S_below B3.out hb)
  have D4 := Lib.hid (below_step D3.out hb)
  have Z4 := Lib.hid (below_step Z3.out hb)
  have C4 := Lib.hid hp
  clear hp hb A3 B3 D3 Z3
  have C4 := Lib.hid (Kd.S_lower (Kd.S_mono (Kd.S_bound C4.out) (ok' := fun k => w2.heap.size ≤ k) (fun _ hk => Nat.le_trans Z3X.out.size hk.2.1)) D3X.out.size)
  clear Z4 Z3X D3X
  go_wp2_with fail
  refine (PRef.descantref13_GetSide.calls _ A0 c0 chs _ _ _ (Kd.C_below H1.out D4.out) hc0 GQ.out).mono ?_
  rintro e w5 ⟨vd, rfl, hp, hb⟩
  have A5 := Lib.hid (Kd.S_below A4.out hb)
  have B5 := Lib.hid (Kd.S_below B4.out hb)
  have C5 := Lib.hid (Kd.S_below C4.out hb)
  have D5 := Lib.hid (below_step D4.out hb)
  have E5 := Lib.hid hp
  clear hp hb A4 B4 C4 D4
  obtain ⟨Aa_, ca_, rfl⟩ := Kd.S_slice A5.out
  obtain ⟨Ab_, cb_, rfl⟩ := Kd.S_slice B5.out
  obtain ⟨Ac_, cc_, rfl⟩ := Kd.S_slice C5.out
  obtain ⟨Ae_, ce_, rfl⟩ := Kd.S_slice E5.out
  go_wp2_with fail
  refine (side_Get.calls _ Aa_ ca_ P1 _ _ _ (Kd.S_reads' A5.out).2.2 (Kd.S_reads' A5.out).2.1 XP.out).mono ?_
  rintro e w6 ⟨vx, rfl, hp, hb⟩
  have A6 := Lib.hid (Kd.S_below A5.out hb)
  have B6 := Lib.hid (Kd.S_below B5.out hb)
  have C6 := Lib.hid (Kd.S_below C5.out hb)
  have E6 := Lib.hid (Kd.S_below E5.out hb)
  have D6 := Lib.hid (below_step D5.out hb)
  have X6 := Lib.hid hp
  clear hp hb A5 B5 C5 E5 D5
  obtain ⟨Ax_, cx_, rfl⟩ := Kd.S_slice X6.out
  go_wp2_with fail
  refine (descantlaw0_SameLists.calls _ _ _ P1 _ _ P1 true _ (Kd.S_reads' A6.out).2.2 (Kd.S_reads' A6.out).2.1 (Kd.S_reads' B6.out).2.2 (Kd.S_reads' B6.out).2.1 SP.out).mono ?_
  rintro e w7 ⟨rfl, hd⟩
  have A7 := Lib.hid (Kd.S_below A6.out hd.below)
  have B7 := Lib.hid (Kd.S_below B6.out hd.below)
  have C7 := Lib.hid (Kd.S_below C6.out hd.below)
  have E7 := Lib.hid (Kd.S_below E6.out hd.below)
  have X7 := Lib.hid (Kd.S_below X6.out hd.below)
  have D7 := Lib.hid (below_step D6.out hd.below)
  clear hd A6 B6 C6 E6 X6 D6
  go_wp2_with fail
  refine (descantlaw0_Num.calls _ _ _ rfl).mono ?_
  rintro e w8 ⟨rfl, hd⟩
  have A8 := Lib.hid (Kd.S_below A7.out hd.below)
  have B8 := Lib.hid (Kd.S_below B7.out hd.below)
  have C8 := Lib.hid (Kd.S_below C7.out hd.below)
  have E8 := Lib.hid (Kd.S_below E7.out hd.below)
  have X8 := Lib.hid (Kd.S_below X7.out hd.below)
  have D8 := Lib.hid (below_step D7.out hd.below)
  clear hd A7 B7 C7 E7 X7 D7
  go_wp2_with fail
  refine (descantlaw0_SameLists.calls _ _ _ G1 _ _ G1 true _ (Kd.S_reads' C8.out).2.2 (Kd.S_reads' C8.out).2.1 (Kd.S_reads' E8.out).2.2 (Kd.S_reads' E8.out).2.1 SG.out).mono ?_
  rintro e w9 ⟨rfl, hd⟩
  have A9 := Lib.hid (Kd.S_below A8.out hd.below)
  have B9 := Lib.hid (Kd.S_below B8.out hd.below)
  have C9 := Lib.hid (Kd.S_below C8.out hd.below)
  have E9 := Lib.hid (Kd.S_below E8.out hd.below)
  have X9 := Lib.hid (Kd.S_below X8.out hd.below)
  have D9 := Lib.hid (below_step D8.out hd.below)
  clear hd A8 B8 C8 E8 X8 D8
  go_wp2_with fail
  refine (descantlaw0_Num.calls _ _ _ rfl).mono ?_
  rintro e w10 ⟨rfl, hd⟩
  have A10 := Lib.hid (Kd.S_below A9.out hd.below)
  have B10 := Lib.hid (Kd.S_below B9.out hd.below)
  have C10 := Lib.hid (Kd.S_below C9.out hd.below)
  have E10 := Lib.hid (Kd.S_below E9.out hd.below)
  have X10 := Lib.hid (Kd.S_below X9.out hd.below)
  have D10 := Lib.hid (below_step D9.out hd.below)
  clear hd A9 B9 C9 E9 X9 D9
  rcases CP.out with rfl | rfl
  · go_wp2_with fail
    refine (descantlaw0_Num.calls _ _ _ rfl).mono ?_
    rintro e w11 ⟨rfl, hd⟩
    have A11 := Lib.hid (Kd.S_below A10.out hd.below)
    have B11 := Lib.hid (Kd.S_below B10.out hd.below)
    have C11 := Lib.hid (Kd.S_below C10.out hd.below)
    have E11 := Lib.hid (Kd.S_below E10.out hd.below)
    have X11 := Lib.hid (Kd.S_below X10.out hd.below)
    have D11 := Lib.hid (below_step D10.out hd.below)
    clear hd A10 B10 C10 E10 X10 D10
    obtain ⟨rfl, rfl⟩ : X1 = chs ∧ X2 = 0 := by have := CB.out (by first | rfl | trivial); simpa using this
    go_wp2_with fail
    refine (descantlaw0_Num.calls _ _ _ rfl).mono ?_
    rintro e w12 ⟨rfl, hd⟩
    have A12 := Lib.hid (Kd.S_below A11.out hd.below)
    have B12 := Lib.hid (Kd.S_below B11.out hd.below)
    have C12 := Lib.hid (Kd.S_below C11.out hd.below)
    have E12 := Lib.hid (Kd.S_below E11.out hd.below)
    have X12 := Lib.hid (Kd.S_below X11.out hd.below)
    have D12 := Lib.hid (below_step D11.out hd.below)
    clear hd A11 B11 C11 E11 X11 D11
    go_wp2_with fail
    refine (descantlaw0_SameLists.calls _ _ _ X1 _ _ X1 true _ (Kd.S_reads' X12.out).2.2 (Kd.S_reads' X12.out).2.1 (Kd.C_below H1.out D12.out) hc0 SC.out).mono ?_
    rintro e w13 ⟨rfl, hd⟩
    have A13 := Lib.hid (Kd.S_below A12.out hd.below)
    have B13 := Lib.hid (Kd.S_below B12.out hd.below)
    have C13 := Lib.hid (Kd.S_below C12.out hd.below)
    have E13 := Lib.hid (Kd.S_below E12.out hd.below)
    have X13 := Lib.hid (Kd.S_below X12.out hd.below)
    have D13 := Lib.hid (below_step D12.out hd.below)
    clear hd A12 B12 C12 E12 X12 D12
    go_wp2_with fail
    refine (spoilLists_c Aa_ ca_ P1 w1 _ (fun k => k < w2.heap.size) D13.out A13.out (by have := TP.out.1; omega) (fun xs hx => by have := TP.out.2 xs hx; have := HM.out; omega)).mono ?_
    rintro e w14 ⟨rfl, hb, hk⟩
    have D14 := Lib.hid hb
    have C14 := Lib.hid (Kd.S_kept C13.out hk (fun k h h2 => by omega))
    clear hb hk A13 B13 C13 E13 X13 D13
    go_wp2_with fail
    refine (spoilLists_c Ac_ cc_ G1 w1 _ (fun k => w2.heap.size ≤ k) D14.out C14.out (by have := TG.out.1; omega) (fun xs hx => by have := TG.out.2 xs hx; have := HM.out; omega)).mono ?_
    rintro e w15 ⟨rfl, hb, hk⟩
    have D15 := Lib.hid hb
    clear hb hk C14 D14
    go_wp2_with fail
    refine (descantlaw0_SameLists.calls _ Ax cx X1 A0 c0 X1 true _ (Kd.S_reads' (Kd.S_below HX1.out D15.out)).2.2 (Kd.S_reads' (Kd.S_below HX1.out D15.out)).2.1 (Kd.C_below H1.out D15.out) hc0 SC.out).mono ?_
    rintro e w16 ⟨rfl, hd⟩
    have D16 := Lib.hid (below_step D15.out hd.below)
    clear hd D15
    go_wp2_with fail
    refine (descantlaw17_awake.calls 60 true _ awakeS).mono ?_
    rintro e w17 ⟨rfl, hb⟩
    have B17 := Lib.hid (below_step B1.out (below_step D16.out hb))
    clear hb D16
    go_wp2_with fail
    go_ret
    exact ⟨rfl, B17.out⟩
  · go_wp2_with fail
    refine (descantlaw0_Num.calls _ _ _ rfl).mono ?_
    rintro e w11 ⟨rfl, hd⟩
    have A11 := Lib.hid (Kd.S_below A10.out hd.below)
    have B11 := Lib.hid (Kd.S_below B10.out hd.below)
    have C11 := Lib.hid (Kd.S_below C10.out hd.below)
    have E11 := Lib.hid (Kd.S_below E10.out hd.below)
    have X11 := Lib.hid (Kd.S_below X10.out hd.below)
    have D11 := Lib.hid (below_step D10.out hd.below)
    clear hd A10 B10 C10 E10 X10 D10
    go_wp2_with fail
    refine (spoilLists_c Aa_ ca_ P1 w1 _ (fun k => k < w2.heap.size) D11.out A11.out (by have := TP.out.1; omega) (fun xs hx => by have := TP.out.2 xs hx; have := HM.out; omega)).mono ?_
    rintro e w12 ⟨rfl, hb, hk⟩
    have D12 := Lib.hid hb
    have C12 := Lib.hid (Kd.S_kept C11.out hk (fun k h h2 => by omega))
    clear hb hk A11 B11 C11 E11 X11 D11
    go_wp2_with fail
    refine (spoilLists_c Ac_ cc_ G1 w1 _ (fun k => w2.heap.size ≤ k) D12.out C12.out (by have := TG.out.1; omega) (fun xs hx => by have := TG.out.2 xs hx; have := HM.out; omega)).mono ?_
    rintro e w13 ⟨rfl, hb, hk⟩
    have D13 := Lib.hid hb
    clear hb hk C12 D12
    go_wp2_with fail
    refine (descantlaw0_SameLists.calls _ Ax cx chs A0 c0 chs true _ (Kd.S_reads' (Kd.S_below HX1.out D13.out)).2.2 (Kd.S_reads' (Kd.S_below HX1.out D13.out)).2.1 (Kd.C_below H1.out D13.out) hc0 SC.out).mono ?_
    rintro e w14 ⟨rfl, hd⟩
    have D14 := Lib.hid (below_step D13.out hd.below)
    clear hd D13
    go_wp2_with fail
    refine (descantlaw17_awake.calls 60 true _ awakeS).mono ?_
    rintro e w15 ⟨rfl, hb⟩
    have B15 := Lib.hid (below_step B1.out (below_step D14.out hb))
    clear hb D14
    go_wp2_with fail
    go_ret
    exact ⟨rfl, B15.out⟩
theorem sides_walk (a0 : Option Addr) (cap0 : Nat) (l0 : List (List Int)) (w : World) (w0 : Kd.C (Kd.slice 3 (Kd.int .i64)) w a0 l0.length l0) (y0 : l0.length ≤ cap0) (u0 : l0.length * 24 ≤ 140737488351232) (z0 : ∀ xs ∈ l0, xs.length * 8 ≤ 140737488351232 ∧ ∀ x ∈ xs, (Lit.int .i64 x).wf = true) :
    Calls Try.prog 7 #[.slice a0 l0.length cap0] w fun e w' => e = .returned (.bool true) ∧ Below w.heap.size w w' :=
  sides_calls a0 cap0 l0 w w0 y0 (by omega) (fun xs hx => by have := (z0 xs hx).1; omega)
end Go.Proofs.Ythiknekmgjnkdaa.PSide
