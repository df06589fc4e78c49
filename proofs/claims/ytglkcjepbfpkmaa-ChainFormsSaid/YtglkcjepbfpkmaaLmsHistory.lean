/- Layer 14, LmsHistory and LmsMirror: what it learned stands in its history; opposite numbers, opposite histories: the walks. -/
import Derived.Test.YtglkcjepbfpkmaaLmsSteps
namespace Go.Proofs.Ytglkcjepbfpkmaa.PAll
open Go Go.RowKit Go.Proofs.YtglkcjepbfpkmaaW.PrintWords Go.Proofs.YtglkcjepbfpkmaaW.PrintMore Go.Proofs.YtglkcjepbfpkmaaW.PrintLast
set_option linter.unusedVariables false
set_option linter.unusedSimpArgs false
attribute [-go_sem] Instr.loadAt Instr.storeAt
attribute [local go_sem high] shut16 set16_0 set16_1 set16_2 set16_3 set16_4 set16_5 set16_6 set16_7 set16_8 set16_9 set16_10 set16_11 set16_12 set16_13 set16_14 set16_15 equal_lms2 load_new_lms store_new_lms load_word store_word

theorem learn_h {l : Lms} {x : Int} (hm : lmsMay l = true) (hx : -4194304 ≤ x ∧ x ≤ 4194304) (j : Nat) : (lmsLearn l x).1.h j = if j = 0 then x else l.h (j - 1) := by
  rw [learn_yes_eq hm (inB_iff.2 hx)]
theorem learn_0 {l : Lms} {x : Int} (hm : lmsMay l = true) (hx : -4194304 ≤ x ∧ x ≤ 4194304) : (lmsLearn l x).2 = 0 := by
  rw [learn_yes_eq hm (inB_iff.2 hx)]
theorem may_zero : lmsMay lmsZero = true := by decide +kernel
/-- What one of the numbers is. -/
def hv (zs : List Int) (i : Nat) : Int := zs.getD i 0 % 65536 - 30000
theorem hv_in (zs : List Int) (i : Nat) : -30000 ≤ hv zs i ∧ hv zs i ≤ 35535 := by unfold hv; omega
/-- After k numbers. -/
def His (zs : List Int) (c : Lms) (k : Nat) : Prop := lmsMay c = true ∧ ∀ j, j < 8 → c.h j = if j < k then hv zs (k - 1 - j) else 0
theorem his_zero (zs : List Int) : His zs lmsZero 0 := ⟨may_zero, fun j _ => by rw [if_neg (by omega)]; rfl⟩
theorem his_step {zs : List Int} {c : Lms} {k : Nat} (h : His zs c k) : His zs (lmsLearn c (hv zs k)).1 (k + 1) ∧ (lmsLearn c (hv zs k)).2 = 0 := by
  have b := hv_in zs k
  refine ⟨⟨learn_may h.1 (inB_iff.2 ⟨by omega, by omega⟩), fun j hj => ?_⟩, learn_0 h.1 ⟨by omega, by omega⟩⟩
  rw [learn_h h.1 ⟨by omega, by omega⟩]
  by_cases h0 : j = 0
  · rw [if_pos h0, if_pos (by omega), show k + 1 - 1 - j = k by omega]
  · rw [if_neg h0, h.2 (j - 1) (by omega)]
    by_cases hk : j - 1 < k
    · rw [if_pos hk, if_pos (by omega), show k - 1 - (j - 1) = k + 1 - 1 - j by omega]
    · rw [if_neg hk, if_neg (by omega)]

/-- A slice of ints as an argument brings it. -/
def Ints (w : World) (a : Option Addr) (len cap : Nat) (zs : List Int) : Prop :=
  (a = none ∧ len = 0 ∧ cap = 0 ∧ zs = []) ∨
  ∃ x, a = some x ∧ len ≤ cap ∧ cap ≤ maxLen ∧ zs.length = cap ∧ (∀ i, i < zs.length → w.cell? (x.add i) = some (.int .i64 (zs.getD i 0))) ∧ ∀ n ∈ zs, (Lit.int .i64 n).wf = true
theorem ints_at {w : World} {a : Option Addr} {len cap : Nat} {zs : List Int} (h : Ints w a len cap zs) {i : Nat} (hi : i < len) : ∃ x, a = some x ∧ x.block < w.heap.size ∧ w.cell? (x.add i) = some (.int .i64 (zs.getD i 0)) := by
  rcases h with ⟨_, h, _⟩ | ⟨x, rfl, h1, _, h3, h4, _⟩
  · omega
  · have c := h4 i (by omega)
    have hb := World.block_lt_of_cell? w _ c
    refine ⟨x, rfl, ?_, c⟩
    unfold Addr.add at hb
    split at hb <;> exact hb
theorem ints_below {w w' : World} {a : Option Addr} {len cap : Nat} {zs : List Int} (h : Ints w a len cap zs) (hb : Below w.heap.size w w') {i : Nat} (hi : i < len) : ∃ x, a = some x ∧ x.block < w.heap.size ∧ w'.cell? (x.add i) = some (.int .i64 (zs.getD i 0)) := by
  obtain ⟨x, h1, h2, h3⟩ := ints_at h hi
  refine ⟨x, h1, h2, ?_⟩
  rw [hb.cell (p := x.add i) (World.block_lt_of_cell? w _ h3)]
  exact h3
/-- After k numbers, and k opposite ones. -/
def Mir (a b : Lms) : Prop := lmsMay a = true ∧ lmsMay b = true ∧ ∀ j, j < 8 → a.h j = -b.h j
theorem mir_zero : Mir lmsZero lmsZero := ⟨may_zero, may_zero, fun j _ => rfl⟩
theorem mir_step {a b : Lms} {x : Int} (h : Mir a b) (h1 : -512 ≤ x) (h2 : x ≤ 511) : Mir (lmsLearn a x).1 (lmsLearn b (-x)).1 := by
  refine ⟨learn_may h.1 (inB_iff.2 ⟨by omega, by omega⟩), learn_may h.2.1 (inB_iff.2 ⟨by omega, by omega⟩), fun j hj => ?_⟩
  rw [learn_h h.1 ⟨by omega, by omega⟩, learn_h h.2.1 ⟨by omega, by omega⟩]
  split
  · omega
  · exact h.2.2 (j - 1) (by omega)

set_option maxHeartbeats 16000000 in
theorem mirror_calls (a : Option Addr) (len cap : Nat) (zs : List Int) (W : World) (hz : Ints W a len cap zs) (hlen : len * 8 ≤ 140737488351232) : Calls Try.prog 8 #[.slice a len cap] W fun e W' => e = .returned (.bool true) ∧ Below W.heap.size W W' := by
  have Hz := Lib.hid hz
  clear hz
  go_enter Try.func8, Try.ntmps8
  go_wp2_with fail
  refine (awake14_calls _).mono ?_
  rintro e w1 ⟨rfl, hb1⟩
  have H1 := Lib.hid (below_step (Below.refl W.heap.size W) hb1)
  clear hb1
  go_wp2_with fail
  have A2 := Lib.hid (blk_alloc (blk_new w1 (.cells lmsZero.c 24)) (.cells lmsZero.c 24))
  have B2 := Lib.hid (show ((w1.alloc (.cells lmsZero.c 24)).alloc (.cells lmsZero.c 24)).heap[w1.heap.size + 1]? = some (.cells lmsZero.c 24 (0, 0)) by simpa using blk_new (w1.alloc (.cells lmsZero.c 24)) (.cells lmsZero.c 24))
  have H2 := Lib.hid (below_alloc (below_alloc H1.out (.cells lmsZero.c 24)) (.cells lmsZero.c 24))
  obtain ⟨n, hn⟩ : ∃ n, n = w1.heap.size := ⟨_, rfl⟩
  have hWn : W.heap.size ≤ n := hn ▸ H1.out.size
  simp only [← hn] at A2 B2 ⊢
  clear hn H1
  go_loopw [5] (fun i wr => ∃ (k : Nat) (a b : Lms), k ≤ len ∧ i = .int .i64 k ∧ Hid (Mir a b) ∧ Hid (wr.heap[n]? = some (.cells a.c 24 (0, 0))) ∧ Hid (wr.heap[n + 1]? = some (.cells b.c 24 (0, 0))) ∧ Hid (Below W.heap.size W wr)) (fun i _ => len - (intOf i).toNat)
  case atStart => exact ⟨0, lmsZero, lmsZero, by omega, rfl, Lib.hid mir_zero, A2, B2, H2⟩
  case round =>
    obtain ⟨k, l, m, hk, rfl, hM, ak, bk, hB⟩ := hrel
    have z3 : n + 1 < wr.heap.size := blk_lt bk.out
    have k1 := load_lms ak.out
    have k2 := load_lms bk.out
    by_cases hlt : k < len ∧ k < 12
    · obtain ⟨l1, l2⟩ := hlt
      obtain ⟨x, rfl, hxb, hc⟩ := ints_below Hz.out hB.out l1
      obtain ⟨z, hz⟩ : ∃ z, z = zs.getD k 0 := ⟨_, rfl⟩
      rw [← hz] at hc
      have hm : bits .and .i64 z 1023 = z % 1024 := Num.and_mask _ 1023 10 (by omega) (by rfl)
      obtain ⟨r, hr⟩ : ∃ r, r = z % 1024 := ⟨_, rfl⟩
      have r1 : 0 ≤ r ∧ r < 1024 := by omega
      rw [← hr] at hm
      obtain ⟨r1, r2⟩ := r1
      clear hr hz
      go_wp2_with fail
      refine (learn_c l (r - 512) _).mono ?_
      rintro e w2 ⟨rfl, hb2⟩
      have hM2 := Lib.hid (mir_step hM.out (show -512 ≤ r - 512 by omega) (by omega))
      have e0 := learn_0 hM.out.1 (show -4194304 ≤ r - 512 ∧ r - 512 ≤ 4194304 by omega)
      have e1 := learn_0 hM.out.2.1 (show -4194304 ≤ -(r - 512) ∧ -(r - 512) ≤ 4194304 by omega)
      have f0 := learn_h hM.out.1 (show -4194304 ≤ r - 512 ∧ r - 512 ≤ 4194304 by omega) 0
      have f1 := learn_h hM.out.2.1 (show -4194304 ≤ -(r - 512) ∧ -(r - 512) ≤ 4194304 by omega) 0
      rw [if_pos rfl] at f0 f1
      rw [e0]
      obtain ⟨p, hp⟩ : ∃ p, p = (lmsLearn l (r - 512)).1 := ⟨_, rfl⟩
      rw [← hp] at hM2 f0 ⊢
      clear hp e0 k1 k2
      have A3 := Lib.hid (blk_below ak.out hb2)
      have B3 := Lib.hid (blk_below bk.out hb2)
      have H3 := Lib.hid (below_step hB.out hb2)
      clear hb2 ak bk hB
      have z4 : n + 1 < w2.heap.size := blk_lt B3.out
      have k3 := fun o => load_lms (blk_alloc B3.out o)
      go_wp2_with fail
      refine (learn_c m (-(r - 512)) _).mono ?_
      rintro e w3 ⟨rfl, hb3⟩
      rw [e1]
      obtain ⟨q, hq⟩ : ∃ q, q = (lmsLearn m (-(r - 512))).1 := ⟨_, rfl⟩
      rw [← hq] at hM2 f1 ⊢
      clear hq e1 k3
      have A4 := Lib.hid (blk_alloc (blk_below (blk_alloc A3.out _) hb3) (.cells q.c 24))
      have B4 := Lib.hid (blk_alloc (blk_below (blk_alloc B3.out _) hb3) (.cells q.c 24))
      have P4 := Lib.hid (blk_alloc (blk_below (blk_new w2 (.cells p.c 24)) hb3) (.cells q.c 24))
      have Q4 := Lib.hid (blk_new w3 (.cells q.c 24))
      have H4 := Lib.hid (below_alloc (below_step (below_alloc H3.out _) hb3) (.cells q.c 24))
      have z5 : w2.heap.size < w3.heap.size := blk_lt (blk_below (blk_new w2 (.cells p.c 24)) hb3)
      clear hb3 A3 B3 H3
      have c1 := (blk_cell P4.out 8).trans (c_h p (show 0 < 8 by omega))
      have c2 := (blk_cell Q4.out 8).trans (c_h q (show 0 < 8 by omega))
      rw [f0] at c1
      rw [f1] at c2
      have l1 := load_lms P4.out
      have s1 := store_lms A4.out p
      have l2 := load_lms (blk_row_far Q4.out (show w3.heap.size ≠ n by omega) p.c)
      have s2 := store_lms (blk_row_far B4.out (show n + 1 ≠ n by omega) p.c) q
      go_wp2_with (go_at_call 18; refine (num_calls _ _).mono ?_; rintro e w' ⟨rfl, rfl⟩)
      go_roundw
      case rel => exact ⟨k + 1, p, q, by omega, by go_num, hM2, Lib.hid (blk_row_far (blk_row A4.out p.c) (show n ≠ n + 1 by omega) _), Lib.hid (blk_row (blk_row_far B4.out (show n + 1 ≠ n by omega) p.c) _), Lib.hid (below_row (below_row H4.out hWn _) (by omega) _)⟩
      case measure => simp [intOf]; omega
    · go_wp2_with fail
      all_goals
        go_loopw [11] (fun i wx => ∃ (j : Nat), j ≤ 8 ∧ i = .int .i64 j ∧ Hid (wx.heap[n]? = some (.cells l.c 24 (0, 0))) ∧ Hid (wx.heap[n + 1]? = some (.cells m.c 24 (0, 0))) ∧ Hid (Below W.heap.size W wx)) (fun i _ => 8 - (intOf i).toNat)
        case atStart => exact ⟨0, by omega, rfl, ak, bk, hB⟩
        case round =>
          obtain ⟨j, hj, rfl, aj, bj, hC⟩ := hrel
          have z6 : n + 1 < wr.heap.size := blk_lt bj.out
          by_cases hlt : j < 8
          · have c1 := (blk_cell aj.out (8 + j)).trans (c_h l hlt)
            have c2 := (blk_cell bj.out (8 + j)).trans (c_h m hlt)
            have hh := hM.out.2.2 j hlt
            have o := okAt_in (may_at hM.out.2.1 hlt)
            obtain ⟨y, hy⟩ : ∃ y, y = m.h j := ⟨_, rfl⟩
            rw [hh] at c1
            rw [← hy] at c1 c2 o
            obtain ⟨_, o1, o2⟩ := o
            clear hh hy
            go_wp2_with fail
            go_quiet (fail)
            go_wp2_with fail
            go_roundw
            case rel => exact ⟨j + 1, by omega, by go_num, aj, bj, Lib.hid (below_drawn hC.out _)⟩
            case measure => simp [intOf]; omega
          · obtain rfl : j = 8 := by omega
            have k3 := load_lms aj.out
            have hm1 := hM.out.1
            have hm2 := hM.out.2.1
            go_wp2_with fail
            refine (may_c l _).mono ?_
            rintro e w4 ⟨rfl, hb4⟩
            rw [hm1]
            have B5 := blk_below bj.out hb4
            have k4 := load_lms B5
            have H5 := Lib.hid (below_step hC.out hb4)
            clear hb4
            go_wp2_with fail
            refine (may_c m _).mono ?_
            rintro e w5 ⟨rfl, hb5⟩
            rw [hm2]
            have H6 := Lib.hid (below_step H5.out hb5)
            clear hb5
            go_wp2
            go_ret
            exact ⟨rfl, H6.out⟩
end Go.Proofs.Ytglkcjepbfpkmaa.PAll
