/- Layer 12, ContextGrows: with each bit more the contexts are others: the walk. -/
import Derived.Test.YtjdffodhbejnjaaCtxRef
import Derived.Test.YtjdffodhbejnjaaPCtxx2
import Derived.Outline
namespace Go.Proofs.Ytjdffodhbejnjaa.PCt
open Go Go.RowKit Go.Proofs.YtjdffodhbejnjaaW.PrintWords Go.Proofs.YtjdffodhbejnjaaW.PrintMore Go.Proofs.YtjdffodhbejnjaaW.PrintLast
set_option linter.unusedVariables false
set_option linter.unusedSimpArgs false
attribute [local go_sem high] PCtx.eqA43
theorem awakeC4 : PCtx.descantlaw12_awake.f = some true := by decide +kernel
abbrev RI (w : World) (base : Nat) (v : Value) (xs : List Int) : Prop := (Kd.int .i64).R 3 w base (fun _ => True) v xs
theorem infoI : (Try.prog.info? 3).map (fun i => (i.zero, i.size, i.bytes)) = some (some (.int .i64 0), 1, 8) := by kernel_rfl
def m1 (x : Int) : Int := Go.bits .and .i64 x 1
theorem m1_bit (x : Int) : isBit (m1 x) = true := by
  have h : Go.bits .and .i64 x 1 = x % 2 := Num.and_mask x 1 1 (by omega) (by rfl)
  unfold m1 isBit
  rw [h]
  exact decide_eq_true (by omega)
theorem m1_all (xs : List Int) : allB (xs.map m1) = true := by
  unfold allB
  rw [List.all_eq_true]
  intro y hy
  obtain ⟨x, _, rfl⟩ := List.mem_map.1 hy
  exact m1_bit x
theorem map_atC (f : Int → Int) (xs : List Int) {k : Nat} (h : k < xs.length) : (xs.take (k + 1)).map f = (xs.take k).map f ++ [f (rd xs (k : Int))] := by
  have e1 : rd xs (k : Int) = xs[k] := by simp [rd, h]
  rw [e1, List.take_succ_eq_append_getElem h, List.map_append]; rfl
theorem set3_blk {w : World} {g t : Nat} {a0 a1 a2 : Value} (h : w.heap[g]? = some (.cells #[a0, a1, a2] t (0, 0))) (x y z : Value) : (((w.setCell ⟨g, 0, none⟩ x).setCell ⟨g, 1, none⟩ y).setCell ⟨g, 2, none⟩ z).heap[g]? = some (.cells #[x, y, z] t (0, 0)) := by
  have h1 := blk_set h 0 x
  have h2 := blk_set h1 1 y
  have h3 := blk_set h2 2 z
  simpa using h3
theorem set3_R {w : World} {g base : Nat} {ok : Nat → Prop} {v : Value} {xs : List Int} {cs : Array Value} (h : (Kd.int .i64).R 3 w base ok v xs) (hb : w.heap[g]? = some (.cells cs 43 (0, 0))) (x y z : Value) : (Kd.int .i64).R 3 (((w.setCell ⟨g, 0, none⟩ x).setCell ⟨g, 1, none⟩ y).setCell ⟨g, 2, none⟩ z) base ok v xs := by
  have ht : ∀ q, q ∈ 3 :: (Kd.int .i64).E → q ≠ 43 := by decide
  have h1 := blk_set hb 0 x
  have h2 := blk_set h1 1 y
  exact Kd.R_set (Kd.R_set (Kd.R_set h hb ht 0 x) h1 ht 1 y) h2 ht 2 z
/-- The context of k bits, k below 30. -/
theorem ctx_small (b : Int) (xs : List Int) (h0 : 0 ≤ b) (h1 : b ≤ 63) (hx : allB xs = true) (hk : xs.length < 30) : ∃ x y z : Int, ctxF b xs = (x, y, z, 0) ∧ 0 ≤ x ∧ x ≤ 63 ∧ 0 ≤ y ∧ y ≤ 63 ∧ 0 ≤ z ∧ z ≤ 63 ∧ z % 32 = xs.length := by
  have ol := ones_le xs
  have e : ctxF b xs = (min (ones xs : Int) 31 + (if ones xs < xs.length then 32 else 0), 2 * min b 31 + (if ones xs < xs.length then 1 else 0), min (xs.length : Int) 31 + (if lastOne xs = true then 32 else 0), 0) := by
    unfold ctxF ctxOk
    rw [if_pos (by rw [decide_eq_true (by omega), hx]; rfl)]
  refine ⟨_, _, _, e, ?_⟩
  by_cases c1 : ones xs < xs.length <;> by_cases c2 : lastOne xs = true <;> simp only [c1, c2, if_true, if_false] <;> (try simp only [Bool.false_eq_true, if_false]) <;> omega
set_option maxHeartbeats 16000000 in
set_option maxRecDepth 100000 in
theorem grows_calls (before : Int) (A0 : Option Addr) (c0 : Nat) (bs : List Int) (W : World) (h0 : (Kd.int .i64).C W A0 bs.length bs) (hc0 : bs.length ≤ c0) (l0 : bs.length * 8 ≤ 140737488351232) :
    Calls Try.prog 14 #[.int .i64 before, .slice A0 bs.length c0] W fun e w' => e = .returned (.bool true) ∧ Below W.heap.size W w' := by
  have hm : Go.bits .and .i64 before 63 = before % 64 := Num.and_mask before 63 6 (by omega) (by rfl)
  obtain ⟨b, hb⟩ : ∃ b, b = Go.bits .and .i64 before 63 := ⟨_, rfl⟩
  have b0 : 0 ≤ b := by omega
  have b1 : b ≤ 63 := by omega
  have hb2 : Go.bits .and .i64 before 63 = b := hb.symm
  have H0 := Lib.hid h0
  clear h0 hm hb
  go_enter Try.func14, Try.ntmps14
  go_wp2_with fail
  refine (PCtx.descantlaw12_awake.calls true _ awakeC4).mono ?_
  rintro e w1 ⟨rfl, hb⟩
  have B1 := Lib.hid hb
  clear hb
  go_wp2_with fail
  have R1 : Hid (RI (w1.alloc (.cells #[.int .i64 (-1), .int .i64 (-1), .int .i64 (-1)] 43)) W.heap.size (.slice none 0 0) []) := Lib.hid (Kd.R_nil _ _ _ _ _)
  have BK : Hid ((w1.alloc (.cells #[.int .i64 (-1), .int .i64 (-1), .int .i64 (-1)] 43)).heap[w1.heap.size]? = some (.cells #[.int .i64 (-1), .int .i64 (-1), .int .i64 (-1)] 43 (0, 0))) := Lib.hid (blk_new w1 _)
  have B2 := Lib.hid (below_alloc B1.out (.cells #[.int .i64 (-1), .int .i64 (-1), .int .i64 (-1)] 43))
  have GE : Hid (W.heap.size ≤ w1.heap.size) := Lib.hid B1.out.size
  go_loopw [5, 7] (fun v i wr => ∃ (k : Nat) (xs : List Int) (l1 l2 l3 : Int), k ≤ bs.length ∧ k ≤ 30 ∧ i = .int .i64 k ∧ Hid (xs = (bs.take k).map m1) ∧ Hid (xs.length = k) ∧ Hid (RI wr W.heap.size v xs) ∧ Hid (Below W.heap.size W wr) ∧ Hid (wr.heap[w1.heap.size]? = some (.cells #[.int .i64 l1, .int .i64 l2, .int .i64 l3] 43 (0, 0))) ∧ Hid (k = 0 ∧ l3 = -1 ∨ 0 < k ∧ l3 % 32 = (k : Int) - 1)) (fun _ i _ => 30 - (intOf i).toNat)
  case atStart => exact ⟨0, [], -1, -1, -1, by omega, by omega, rfl, Lib.hid (by simp), Lib.hid rfl, R1, B2, BK, Lib.hid (.inl ⟨rfl, rfl⟩)⟩
  case round =>
    obtain ⟨k, xs, l1, l2, l3, hk, hk3, rfl, hT, hl, hR, hB, hK, hL⟩ := hrel
    by_cases hlt : k < bs.length ∧ k < 30
    · obtain ⟨hlt, hlt3⟩ := hlt
      have ha : allB xs = true := by rw [hT.out]; exact m1_all _
      obtain ⟨x, y, z, hF, x0, x1, y0, y1, z0, z1, zm⟩ := ctx_small b xs b0 b1 ha (by rw [hl.out]; exact hlt3)
      have zl : (z == l3) = false := by
        have h1 := hL.out; have h2 := hl.out
        rw [beq_eq_false_iff_ne]; omega
      have zk : Go.bits .and .i64 z 31 = (k : Int) := by
        rw [Num.and_mask z 31 5 (by omega) (by rfl)]
        have h2 := hl.out
        rw [h2] at zm
        exact zm
      have dx0 : decide (x < 0) = false := decide_eq_false (by omega)
      have dx1 : decide (63 < x) = false := decide_eq_false (by omega)
      have dy0 : decide (y < 0) = false := decide_eq_false (by omega)
      have dy1 : decide (63 < y) = false := decide_eq_false (by omega)
      have dz0 : decide (z < 0) = false := decide_eq_false (by omega)
      have dz1 : decide (63 < z) = false := decide_eq_false (by omega)
      have F := Lib.hid (show PCtx.context_Of.f b xs = some (x, y, z, 0) by unfold PCtx.context_Of.f; rw [if_pos (by have := hl.out; omega), hF])
      have ZM := Lib.hid zm
      obtain ⟨Av, cv, rfl⟩ := Kd.R_slice hR.out
      clear ha hF zm hL
      go_wp2_with fail
      refine (PCtx.context_Of.calls b _ _ xs x y z 0 _ (Kd.R_reads' hR.out).2.2 (Kd.R_reads' hR.out).2.1 F.out).mono ?_
      rintro e w2 ⟨rfl, hb⟩
      have R2 := Lib.hid (Kd.R_below hR.out hb)
      have B3 := Lib.hid (below_step hB.out hb)
      have K2 := Lib.hid ((hb.block w1.heap.size (blk_lt hK.out)).trans hK.out)
      clear hb hR hB hK
      go_wp2_with fail
      refine (PCtx.descantlaw0_Num.calls _ _ _ rfl).mono ?_
      rintro e w3 ⟨rfl, n, rfl⟩
      obtain ⟨w4, hw4⟩ : ∃ w4, w4 = (w2.alloc (.cells #[.int .i64 x, .int .i64 y, .int .i64 z] 43)).drewN n := ⟨_, rfl⟩
      have K4 : Hid (w4.heap[w1.heap.size]? = some (.cells #[.int .i64 l1, .int .i64 l2, .int .i64 l3] 43 (0, 0))) := Lib.hid (by rw [hw4]; exact blk_drewN (blk_alloc K2.out _) n)
      have N4 : Hid (w4.heap[w2.heap.size]? = some (.cells #[.int .i64 x, .int .i64 y, .int .i64 z] 43 (0, 0))) := Lib.hid (by rw [hw4]; exact blk_drewN (blk_new w2 _) n)
      have R4 : Hid (RI w4 W.heap.size (.slice Av xs.length cv) xs) := Lib.hid (by rw [hw4]; exact Kd.R_drewN (Kd.R_alloc R2.out _) n)
      have B4 : Hid (Below W.heap.size W w4) := Lib.hid (by rw [hw4]; exact pw_below_drewN (below_alloc B3.out _) n)
      rw [← hw4]
      clear hw4 K2 R2 B3
      have q0 := blk_cell K4.out 0
      have q1 := blk_cell K4.out 1
      have q2 := blk_cell K4.out 2
      have f0 := blk_frozen K4.out 0
      have f1 := blk_frozen K4.out 1
      have f2 := blk_frozen K4.out 2
      have n0 := blk_cell N4.out 0
      have n1 := blk_cell N4.out 1
      have n2 := blk_cell N4.out 2
      simp only [List.getElem?_toArray, List.getElem?_cons_zero, List.getElem?_cons_succ] at q0 q1 q2 n0 n1 n2
      obtain ⟨ad, rfl, hx⟩ := elem_c H0.out hlt
      have rdk : bs.getD k 0 = rd bs (k : Int) := by simp [rd]
      rw [rdk] at hx
      obtain ⟨u, hu⟩ : ∃ u, u = rd bs (k : Int) := ⟨_, rfl⟩
      rw [← hu] at hx
      have HU := Lib.hid hu
      have adlt : ad.block < W.heap.size := by have := World.block_lt_of_cell? W _ hx; rwa [add_block] at this
      have adg : ad.block ≠ w1.heap.size := by have := GE.out; omega
      have hx4 : w4.cell? (ad.add k) = some (.int .i64 u) := (Below.cell B4.out (by rw [add_block]; exact adlt)).trans hx
      have hx5 : ((((w4.setCell { block := w1.heap.size, off := 0 } (.int .i64 x)).setCell { block := w1.heap.size, off := 1 } (.int .i64 y)).setCell { block := w1.heap.size, off := 2 } (.int .i64 z))).cell? (ad.add k) = some (.int .i64 u) := by
        have := Below.cell (((Below.refl W.heap.size w4).setCell (p := ⟨w1.heap.size, 0, none⟩) GE.out (.int .i64 x)).setCell (p := ⟨w1.heap.size, 1, none⟩) GE.out (.int .i64 y) |>.setCell (p := ⟨w1.heap.size, 2, none⟩) GE.out (.int .i64 z)) (p := ad.add k) (by rw [add_block]; exact adlt)
        exact this.trans hx4
      have R5 : Hid (RI (((w4.setCell { block := w1.heap.size, off := 0 } (.int .i64 x)).setCell { block := w1.heap.size, off := 1 } (.int .i64 y)).setCell { block := w1.heap.size, off := 2 } (.int .i64 z)) W.heap.size (.slice Av xs.length cv) xs) := Lib.hid (set3_R R4.out K4.out _ _ _)
      have K5 : Hid ((((w4.setCell { block := w1.heap.size, off := 0 } (.int .i64 x)).setCell { block := w1.heap.size, off := 1 } (.int .i64 y)).setCell { block := w1.heap.size, off := 2 } (.int .i64 z)).heap[w1.heap.size]? = some (.cells #[.int .i64 x, .int .i64 y, .int .i64 z] 43 (0, 0))) := Lib.hid (set3_blk K4.out _ _ _)
      have B5 : Hid (Below W.heap.size W (((w4.setCell { block := w1.heap.size, off := 0 } (.int .i64 x)).setCell { block := w1.heap.size, off := 1 } (.int .i64 y)).setCell { block := w1.heap.size, off := 2 } (.int .i64 z))) := Lib.hid (below_set (below_set (below_set B4.out GE.out) GE.out) GE.out)
      have R5N : Hid (some w1.heap.size ≠ (Value.slice Av xs.length cv).ownBlock) := Lib.hid (Kd.R_ne R5.out K5.out (by decide))
      clear hu rdk hx hx4
      go_wp2_with ((with_reducible refine gate_builtin (b := .append) (xs := #[.tmp 76, .tmp 82]) rfl ?_); at_builtin; ( refine Kd.R_append (Kd.int .i64) (w0 := W) (W := (((w4.setCell { block := w1.heap.size, off := 0 } (.int .i64 x)).setCell { block := w1.heap.size, off := 1 } (.int .i64 y)).setCell { block := w1.heap.size, off := 2 } (.int .i64 z))) W.heap.size rfl (.tmp 76) (.tmp 82) 38 3 (.int .i64 0) 8 rfl Try.underlying38 infoI rfl (by decide) (by omega) (.slice Av xs.length cv) xs (Go.bits .and .i64 u 1) [.int .i64 (Go.bits .and .i64 u 1)] (fun _ => True) (fun _ => False) rfl ?aX ?aP (fun _ hk => hk.elim) ?aF ?aO ?aB ?aS ?aL ?_; (case aX => first | rfl | (go_simp; done) | (go_simp; rfl) | (simp; rfl)); (case aP => exact rfl); (case aF => exact (fun _ _ => trivial)); (case aO => exact R5.out); (case aB => exact B5.out); (case aS => exact B5.out.size); (case aL => have := hl.out; omega); intro v5 w6 ho hb hg hat; have R6 := Lib.hid ho; have B6 := Lib.hid hb; have K6 := Lib.hid ((hg.block w1.heap.size (blk_lt K5.out) (fun he => by have := (R5.out).1 w1.heap.size he.symm; exact R5N.out he)).trans K5.out); clear ho hb hg hat))
      go_roundw
      case rel => exact ⟨k + 1, xs ++ [m1 u], x, y, z, by omega, by omega, by go_num, Lib.hid (by rw [hT.out, HU.out]; exact (map_atC m1 bs hlt).symm), Lib.hid (by rw [List.length_append, hl.out]; rfl), R6, B6, K6, Lib.hid (.inr ⟨by omega, by have h1 := ZM.out; have h2 := hl.out; omega⟩)⟩
      case measure => simp [intOf]; omega
    · have hd : decide ((k : Int) < (bs.length : Int)) = true → decide ((k : Int) < 30) = false := fun h => by
        have h := of_decide_eq_true h
        exact decide_eq_false (by omega)
      by_cases h1 : k < bs.length
      · have h2 : ¬ ((k : Int) < 30) := by omega
        clear hlt hd
        go_wp2_with fail
        go_ret
        exact ⟨rfl, hB.out⟩
      · clear hlt hd
        go_wp2_with fail
        go_ret
        exact ⟨rfl, hB.out⟩
theorem grows_walk (a0 : Int) (a1 : Option Addr) (len1 cap1 : Nat) (z1 : List Int) (w : World) (w0 : (Lit.int .i64 a0).wf = true) (w1 : (a1 = none ∧ len1 = 0 ∧ cap1 = 0 ∧ z1 = []) ∨ ∃ x, a1 = some x ∧ len1 ≤ cap1 ∧ cap1 ≤ maxLen ∧ z1.length = cap1 ∧ (∀ i, i < z1.length → w.cell? (x.add i) = some (.int .i64 (z1.getD i 0))) ∧ ∀ n ∈ z1, (Lit.int .i64 n).wf = true) (y1 : len1 * 8 ≤ 140737488351232) :
    Calls Try.prog 14 #[.int .i64 a0, .slice a1 len1 cap1] w fun e w' => e = .returned (.bool true) ∧ Below w.heap.size w w' := by
  obtain ⟨l1, rfl, hr1, hm1, hw1, hc1⟩ := ReadsInt.ofRowC w1
  exact grows_calls a0 _ _ l1 w (Kd.C_of_reads (d := (0 : Int)) (h1 := fun _ => rfl) hr1) hc1 y1
end Go.Proofs.Ytjdffodhbejnjaa.PCt
