/- Layer 20, RiffCut: the walk (under way). -/
import Derived.Test.YtkngkmemcokbfaaRiffCut0
import Derived.Test.YtkngkmemcokbfaaBytesOwn
import Derived.Test.YtkngkmemcokbfaaPAllx8
import Derived.Test.YtkngkmemcokbfaaPAllx6
import Derived.Outline
import Derived.Lib.AtoiErrMem
namespace Go.Proofs.Ytkngkmemcokbfaa.PAll
open Go Go.RowKit Go.Proofs.YtkngkmemcokbfaaW.PrintWords Go.Proofs.YtkngkmemcokbfaaW.PrintMore Go.Proofs.YtkngkmemcokbfaaW.PrintLast
set_option linter.unusedVariables false
set_option linter.unusedSimpArgs false
theorem wav0 : ∃ r x, descantlaw20_wav.f 200 1 8 (⟨#[]⟩ : ByteArray) = some r ∧ descantref13_Chunks.f 200 r = some (x, 0) := by
  have h : ((descantlaw20_wav.f 200 1 8 (⟨#[]⟩ : ByteArray)).bind fun r => (descantref13_Chunks.f 200 r).map (·.2)) = some 0 := by decide +kernel
  obtain ⟨r, h1, h2⟩ := Option.bind_eq_some_iff.1 h
  obtain ⟨⟨x, y⟩, h3, h4⟩ := Option.map_eq_some_iff.1 h2
  have h5 : y = 0 := h4
  subst h5
  exact ⟨r, x, h1, h3⟩
set_option maxHeartbeats 16000000 in
theorem cut_calls (s : ByteArray) (at_ : Int) (w : World) (hs : s.size ≤ 140737488351232) (hat : (Lit.int .i64 at_).wf = true) :
    Calls Try.prog 7 #[.string s, .int .i64 at_] w fun e w' => e = .returned (.bool true) ∧ Below w.heap.size w w' := by
  have F := chunks_prog 0 s hs
  go_enter Try.func7, Try.ntmps7
  go_wp2_with fail
  refine (descantlaw20_awake.calls (0 + 200) true _ (awake20 0)).mono ?_
  rintro e w1 ⟨rfl, hb⟩
  have B1 := Lib.hid hb
  clear hb
  go_wp2_with fail
  cases hc : chunksOf s with
  | none =>
    rw [hc] at F
    refine (riff_Chunks.calls _ _ _ _ _ F).mono ?_
    rintro e w2 ⟨vc, rfl, hp, hb⟩
    have X2 := Lib.hid hp
    have B2 := Lib.hid (below_step B1.out hb)
    clear hp hb B1
    obtain ⟨Ac, cc, rfl⟩ := Kd.R_slice X2.out
    go_wp2_with fail
    refine (descantlaw0_Num.calls _ _ _ rfl).mono ?_
    rintro e w3 ⟨rfl, hd⟩
    have B3 := Lib.hid (below_step B2.out hd.below)
    clear hd B2 X2
    go_wp2_with fail
    go_ret
    exact ⟨rfl, B3.out⟩
  | some cs =>
    have hl : cs.length ≤ 64 := by have := chunks_length s; rw [hc] at this; simpa [told] using this
    rw [hc] at F
    have F2 : riff_Chunks.f (0 + 160) s = some (cs, 0) := by simpa [told] using F
    refine (riff_Chunks.calls _ _ _ _ _ F2).mono ?_
    rintro e w2 ⟨vc, rfl, hp, hb⟩
    have X2 := Lib.hid hp
    have B2 := Lib.hid (below_step B1.out hb)
    clear hp hb B1
    obtain ⟨Ac, cc, rfl⟩ := Kd.R_slice X2.out
    go_wp2_with fail
    refine (descantlaw0_Num.calls _ _ _ rfl).mono ?_
    rintro e w3 ⟨rfl, hd⟩
    have X3 := Lib.hid (Kd.R_below X2.out hd.below)
    have B3 := Lib.hid (below_step B2.out hd.below)
    clear hd B2 X2
    by_cases h0 : cs = []
    · subst h0
      go_wp2_with fail
      go_ret
      exact ⟨rfl, B3.out⟩
    · have h0l : 0 < cs.length := List.length_pos_iff.2 h0
      have hz : ((cs.length : Int) = 0) = False := eq_false (by omega)
      have hzb : ((cs.length : Int) == 0) = false := beq_eq_false_iff_ne.2 (by omega)
      have hr : 0 ≤ (IntKind.u64.wrap at_).tmod cs.length ∧ (IntKind.u64.wrap at_).tmod cs.length < cs.length := by
        have h1 : 0 ≤ IntKind.u64.wrap at_ := by rw [IntKind.wrap_u64]; omega
        rw [Int.tmod_eq_emod_of_nonneg h1]
        exact ⟨Int.emod_nonneg _ (by omega), Int.emod_lt_of_pos _ (by omega)⟩
      obtain ⟨k, hk⟩ : ∃ k : Nat, (IntKind.u64.wrap at_).tmod cs.length = k := ⟨((IntKind.u64.wrap at_).tmod cs.length).toNat, by omega⟩
      rw [hk] at hr
      have hk2 : wrap64 ((IntKind.u64.wrap at_).tmod cs.length) = k := by rw [hk]; exact Num.w64 (by omega) (by omega)
      have hkl : k < cs.length := by omega
      clear hk hr
      obtain ⟨ad, e1, x0, x1, x2⟩ := at_T34 (Kd.R_reads' X3.out).2.2 (k : Int) (by omega) (by omega)
      subst e1
      have hrd : rd_T34 cs (k : Int) = cs[k] := by unfold rd_T34; rw [Int.toNat_natCast, List.getD_eq_getElem?_getD, List.getElem?_eq_getElem hkl]; rfl
      obtain ⟨f, hf⟩ : ∃ f, f = (rd_T34 cs (k : Int)).f1 := ⟨_, rfl⟩
      have hpl : 12 + 8 ≤ f ∧ f ≤ s.size := by
        unfold chunksOf at hc
        split at hc
        · have := places s 64 12 cs (by omega) hc _ (List.getElem_mem hkl)
          rw [hf, hrd]; exact this
        · cases hc
      obtain ⟨e, he⟩ : ∃ e : Nat, f = e + 8 := ⟨(f - 8).toNat, by omega⟩
      have hcut := chunks_cut s cs hc k hkl e (by rw [← hrd, ← hf, he])
      have HC := Lib.hid hcut
      obtain ⟨g1, g2, g3, -⟩ := hcut
      rw [← hf, he] at x1
      have hw1 : wrap64 ((e : Int) + 8 - 8) = e := by rw [show (e : Int) + 8 - 8 = e by omega]; exact Num.w64 (by omega) (by omega)
      have hw2 : wrap64 ((e : Int) - 8) = (e : Int) - 8 := Num.w64 (by omega) (by omega)
      have hi0 : (0 : Int) ≤ k := by omega
      have hi1 : (k : Int) < cs.length := by omega
      have hb1 : ((e : Int) < 12) = False := eq_false (by omega)
      have hb2 : ((s.size : Int) < e) = False := eq_false (by omega)
      have hb3 : (e : Int) ≤ s.size := by omega
      have hb4 : (0 : Int) ≤ e := by omega
      have kb := fun W => print_bytes (P := Try.prog) 9 38 5 Try.underlying9 Try.underlying38 Try.underlying5 (s.extract 0 e) W
      have x1b : w3.cell? ⟨(ad.add (k * 3)).block, (ad.add (k * 3)).off + 1, none⟩ = some (.int .i64 ((e : Int) + 8)) := by rw [Int.toNat_natCast] at x1; exact x1
      have hxe : (s.extract 0 e).size = e := by rw [ByteArray.size_extract]; omega
      have bb := BB.conv w3 (s.extract 0 e)
      have hbl : (bytesOf (s.extract 0 e)).length = e := by rw [bytesOf_length, hxe]
      have hc4 := bb.cell (j := 4) (by omega)
      have hf4 := bb.frozen (j := 4) (by omega)
      have hc5 := bb.cell (j := 5) (by omega)
      have hf5 := bb.frozen (j := 5) (by omega)
      have BB1 := Lib.hid bb
      have BL := Lib.hid hbl
      have hq4 : ((4 : Int) < e) := by omega
      have hq5 : ((5 : Int) < e) := by omega
      have hq4n : (4 < e) := by omega
      have hq5n : (5 < e) := by omega
      have hset := (bb.set (j := 4) (by omega) (((e : Int) - 8) % 256)).set (j := 5) (by rw [List.length_set]; omega) (((e : Int) - 8) / 256)
      have hlen : (((bytesOf (s.extract 0 e)).set 4 (((e : Int) - 8) % 256)).set 5 (((e : Int) - 8) / 256)).length = e := by rw [List.length_set, List.length_set, hbl]
      have hrd2 := hset.reads (by omega)
      rw [hlen] at hrd2
      obtain ⟨ys, hys⟩ : ∃ ys, ys = ((bytesOf (s.extract 0 e)).set 4 (((e : Int) - 8) % 256)).set 5 (((e : Int) - 8) / 256) := ⟨_, rfl⟩
      rw [← hys] at hrd2
      have hcv := Kd.C_string (P := Try.prog) (c := grownCap w3 e 0 5) Try.underlying38 Try.underlying5 Try.underlying9 hrd2
      have hyr : ∀ x ∈ ys, 0 ≤ x ∧ x ≤ 255 := by
        intro x hx
        rw [hys] at hx
        rcases List.mem_or_eq_of_mem_set hx with hx | rfl
        · rcases List.mem_or_eq_of_mem_set hx with hx | rfl
          · exact Bytes.range hx
          · omega
        · omega
      have hk1 : chunksOf (strOfNums ys) = some (cs.take k) := HC.out.2.2.2 (strOfNums ys) (by rw [Bytes.of_nums_in hyr, hys, Bytes.of_extract, List.drop_zero, Nat.sub_zero])
      have hG := chunks_prog 0 (strOfNums ys) (by rw [nums_size]; have := congrArg List.length hys; rw [hlen] at this; omega)
      rw [hk1] at hG
      have GG : Hid (riff_Chunks.f (0 + 160) (strOfNums ys) = some (cs.take k, 0)) := Lib.hid (by simpa [told] using hG)
      have HBW : Hid (Below w3.heap.size w3 (((Lib.bytesWorld w3 5 (s.extract 0 e)).setCell ⟨w3.heap.size, 4, none⟩ (.int .u8 (((e : Int) - 8) % 256))).setCell ⟨w3.heap.size, 5, none⟩ (.int .u8 (((e : Int) - 8) / 256)))) := Lib.hid (below_set (below_set (Lib.bytesWorld_below w3 5 (s.extract 0 e)) (Nat.le_refl _)) (Nat.le_refl _))
      clear hset hlen hrd2 hyr hk1 hG hys
      clear bb hbl
      clear hf he hrd hpl F F2 hc
      go_wp2_with fail
      obtain ⟨L, hL⟩ : ∃ L, L = cs.take k := ⟨_, rfl⟩
      have hLL : L.length = k := by rw [hL, List.length_take]; omega
      rw [← hL] at GG
      have hcc := (Kd.R_reads' X3.out).2.1
      have hkc : (k : Int) ≤ cc := by omega
      have hkcn : k ≤ cc := by omega
      refine (riff_Chunks.calls _ _ _ _ _ GG.out).mono ?_
      rintro e5 w5 ⟨vd, rfl, hp, hb⟩
      have Y5 := Lib.hid hp
      have X5 := Lib.hid (Kd.R_below X3.out (below_step HBW.out hb))
      have B5 := Lib.hid (below_step B3.out (below_step HBW.out hb))
      have HL := Lib.hid hL
      clear hp hb x0 x1 x1b x2 hc4 hf4 hc5 hf5 hcv kb HBW X3 B3 hL
      obtain ⟨Ad, cd, rfl⟩ := Kd.R_slice Y5.out
      obtain ⟨r, x, wv, rf⟩ := wav0
      have WV := Lib.hid wv
      have RF := Lib.hid rf
      clear wv rf
      go_wp2_with fail
      refine (descantlaw20_wav.calls 200 1 8 _ r _ WV.out).mono ?_
      rintro e6 w6 ⟨rfl, hb⟩
      have Y6 := Lib.hid (Kd.R_below Y5.out hb)
      have X6 := Lib.hid (Kd.R_below X5.out hb)
      have B6 := Lib.hid (below_step B5.out hb)
      clear hb Y5 X5 B5
      go_wp2_with fail
      refine (descantref13_Chunks.calls 200 r x 0 _ RF.out).mono ?_
      rintro e7 w7 ⟨vz, rfl, hp, hb⟩
      have Y7 := Lib.hid (Kd.R_below Y6.out hb)
      have X7 := Lib.hid (Kd.R_below X6.out hb)
      have B7 := Lib.hid (below_step B6.out hb)
      clear hp hb Y6 X6 B6
      go_wp2_with fail
      refine (descantlaw0_Num.calls _ _ _ rfl).mono ?_
      rintro e8 w8 ⟨rfl, hd⟩
      have Y8 := Lib.hid (Kd.R_below Y7.out hd.below)
      have X8 := Lib.hid (Kd.R_below X7.out hd.below)
      have B8 := Lib.hid (below_step B7.out hd.below)
      clear hd Y7 X7 B7
      go_wp2_with fail
      have C := descantlaw0_SameChunks.calls _ Ad cd L (some ad) cc L true w8 (Kd.R_reads' Y8.out).2.2 (Kd.R_reads' Y8.out).2.1 (by rw [HL.out]; exact Kd.C_take (Kd.R_reads' X8.out).2.2 (m := k) (by omega)) (by omega) (same_chunks 0 L (by omega))
      rw [hLL] at C
      refine C.mono ?_
      rintro e9 w9 ⟨rfl, hd⟩
      have B9 := Lib.hid (below_step B8.out hd.below)
      clear hd
      go_wp2_with fail
      go_ret
      exact ⟨rfl, B9.out⟩
end Go.Proofs.Ytkngkmemcokbfaa.PAll
