/- Layer 16: what the program's and the document's lines answer: for all lists of numbers. -/
import Derived.Test.YtpojgfpfkfjegaaCh
import Derived.BigQuiet
import Derived.Deep.QuietTactic
namespace Go.Proofs.Ytpojgfpfkfjegaa.PAll
open Go Go.RowKit Go.Proofs.YtpojgfpfkfjegaaW.PrintWords Go.Proofs.YtpojgfpfkfjegaaW.PrintMore Go.Proofs.YtpojgfpfkfjegaaW.PrintLast
set_option linter.unusedVariables false
set_option linter.unusedSimpArgs false
attribute [-go_sem] Instr.loadAt Instr.storeAt Instr.build
attribute [local go_sem high] shut33 shut16 ch_set0 equal_lms2 equal_ch2 load_new_lms store_new_lms load_new_ch store_new_ch load_word store_word build_ch0 build_ch1 build_ch3

/-- One number after the other, by a chain that learns. -/
def turnL (one : Int → Int → Int × Int) : List Int → Chain → List Int → Option (List Int)
  | [], _, out => some out
  | x :: r, c, out => if (chLearn c (one x (chGuess c).1).2).2 = 0 ∧ inB x 16777216 = true then turnL one r (chLearn c (one x (chGuess c).1).2).1 (out ++ [(one x (chGuess c).1).1]) else none
def lineOf (one : Int → Int → Int × Int) (xs : List Int) : List Int × Int := if xs.length ≤ 256 then (match turnL one xs chZero [] with | some o => (o, 0) | none => ([], 1600)) else ([], 1600)
def putOne (x g : Int) : Int × Int := (wrap64 (x - g), x)
def getOne (r g : Int) : Int × Int := (wrap64 (r + g), wrap64 (r + g))
theorem line_long {one : Int → Int → Int × Int} {xs : List Int} (h : ¬ xs.length ≤ 256) : lineOf one xs = ([], 1600) := by unfold lineOf; rw [if_neg h]
theorem line_some {one : Int → Int → Int × Int} {xs o : List Int} (h : xs.length ≤ 256) (e : turnL one xs chZero [] = some o) : lineOf one xs = (o, 0) := by unfold lineOf; rw [if_pos h, e]
theorem line_none {one : Int → Int → Int × Int} {xs : List Int} (h : xs.length ≤ 256) (e : turnL one xs chZero [] = none) : lineOf one xs = ([], 1600) := by unfold lineOf; rw [if_pos h, e]
theorem drop_at (xs : List Int) {k : Nat} (h : k < xs.length) : xs.drop k = rd xs (k : Int) :: xs.drop (k + 1) := by
  rw [List.drop_eq_getElem_cons h]
  simp [rd, h]
theorem turn_yes {one : Int → Int → Int × Int} {x : Int} {r : List Int} {c : Chain} {out : List Int} (h : (chLearn c (one x (chGuess c).1).2).2 = 0) (h2 : inB x 16777216 = true) : turnL one (x :: r) c out = turnL one r (chLearn c (one x (chGuess c).1).2).1 (out ++ [(one x (chGuess c).1).1]) := by
  simp only [turnL]; rw [if_pos ⟨h, h2⟩]
theorem turn_no {one : Int → Int → Int × Int} {x : Int} {r : List Int} {c : Chain} {out : List Int} (h : ¬ ((chLearn c (one x (chGuess c).1).2).2 = 0 ∧ inB x 16777216 = true)) : turnL one (x :: r) c out = none := by
  simp only [turnL]; rw [if_neg h]
theorem learn_two (c : Chain) (x : Int) : (chLearn c x).2 = 0 ∨ (chLearn c x).2 = 1500 := by unfold chLearn; split <;> simp
theorem learn_ok_in {c : Chain} {x : Int} (h : (chLearn c x).2 = 0) : -131072 ≤ x ∧ x ≤ 131072 := by
  unfold chLearn at h
  split at h
  · rename_i h2; exact inB_iff.1 h2.2
  · exact absurd h (by decide)
abbrev RI (w : World) (base : Nat) (v : Value) (xs : List Int) : Prop := (Kd.int .i64).R 3 w base (fun _ => True) v xs
theorem ri_row {w : World} {base g : Nat} {v : Value} {xs : List Int} {cs : Array Value} (h : RI w base v xs) (hb : w.heap[g]? = some (.cells cs 43 (0, 0))) (c : Array Value) : RI (w.setRow g c) base v xs :=
  Kd.R_mono (Kd.R_step (Kd.R_types h hb (fun q hq => by
    have : q = 3 := by simpa [Kd.int, Kd.scalar] using hq
    rw [this]; decide)) (fun k hk _ => setRow_other w g k c hk.2)) (fun _ hk => hk.1)
theorem ri_ne {w : World} {base g : Nat} {v : Value} {xs : List Int} {cs : Array Value} (h : RI w base v xs) (hb : w.heap[g]? = some (.cells cs 43 (0, 0))) : some g ≠ v.ownBlock := Kd.R_ne h hb (by decide)
theorem infoI : (Try.prog.info? 3).map (fun i => (i.zero, i.size, i.bytes)) = some (some (.int .i64 0), 1, 8) := by kernel_rfl
theorem cell_alloc {w : World} {p : Addr} {v : Value} (h : w.cell? p = some v) (o : Obj) : (w.alloc o).cell? p = some v := by
  rw [World.cell?_alloc_lt _ _ _ (World.block_lt_of_cell? w _ h)]; exact h
theorem cell_below {w w' : World} {p : Addr} {v : Value} (h : w.cell? p = some v) (hb : Below w.heap.size w w') : w'.cell? p = some v :=
  (hb.cell (p := p) (World.block_lt_of_cell? w _ h)).trans h
theorem elem_at {W w : World} {A : Option Addr} {xs : List Int} (h : (Kd.int .i64).C W A xs.length xs) (hb : Below W.heap.size W w) {k : Nat} (hk : k < xs.length) : ∃ ad, A = some ad ∧ w.cell? (ad.add k) = some (.int .i64 (rd xs (k : Int))) := by
  obtain ⟨ad, e, hx⟩ := Kd.at_int h (k : Int) (by omega) (by omega)
  rw [Int.toNat_natCast] at hx
  exact ⟨ad, e, cell_below hx hb⟩
theorem number_c (x : Int) (w : World) : Calls Try.prog 27 #[.int .i64 x] w fun e w' => e = .returned (.bool (inB x 16777216)) ∧ w' = w := by
  by_cases c : -16777216 ≤ x
  · have c1 : decide (x ≥ -16777216) = true := decide_eq_true c
    go_enter Try.func27, Try.ntmps27
    go_wp2
    go_ret
    exact ⟨by simp [inB, c], rfl⟩
  · have c1 : decide (x ≥ -16777216) = false := decide_eq_false (by omega)
    go_enter Try.func27, Try.ntmps27
    go_wp2
    go_ret
    exact ⟨by simp [inB]; omega, rfl⟩
theorem putOne_c (x g : Int) (W : World) : Calls Try.prog 20 #[.int .i64 x, .int .i64 g] W fun e w' => e = .returned (.tuple #[.int .i64 (putOne x g).1, .int .i64 (putOne x g).2]) ∧ w' = W := by
  go_enter Try.func20, Try.ntmps20
  go_wp2_with fail
  go_ret2
  exact ⟨rfl, rfl⟩
theorem getOne_c (x g : Int) (W : World) : Calls Try.prog 23 #[.int .i64 x, .int .i64 g] W fun e w' => e = .returned (.tuple #[.int .i64 (getOne x g).1, .int .i64 (getOne x g).2]) ∧ w' = W := by
  go_enter Try.func23, Try.ntmps23
  go_wp2_with fail
  go_ret2
  exact ⟨rfl, rfl⟩

set_option maxHeartbeats 16000000 in
theorem turnPut_c (A : Option Addr) (c0 : Nat) (xs : List Int) (W : World) (hr : (Kd.int .i64).C W A xs.length xs) (hc : xs.length ≤ c0) : Calls Try.prog 19 #[.slice A xs.length c0, .func (Fn.func 20) #[] #[]] W fun e W' => ∃ v, e = .returned (.tuple #[v, .int .i64 (lineOf putOne xs).2]) ∧ RI W' W.heap.size v (lineOf putOne xs).1 ∧ Below W.heap.size W W' := by
  have Hr := Lib.hid hr
  clear hr
  by_cases hl : xs.length ≤ 256
  · have d1 : decide ((xs.length : Int) > 256) = false := decide_eq_false (by omega)
    go_enter Try.func19, Try.ntmps19
    go_wp2_with fail
    have B2 := Lib.hid (blk_new W (.cells chZero.c 43))
    have H2 := Lib.hid (below_alloc (Below.refl W.heap.size W) (.cells chZero.c 43))
    have R2 : Hid (RI (W.alloc (.cells chZero.c 43)) W.heap.size (.slice none 0 0) []) := Lib.hid (Kd.R_nil _ _ _ _ _)
    obtain ⟨n, hn⟩ : ∃ n, n = W.heap.size := ⟨_, rfl⟩
    have hWn : W.heap.size ≤ n := by omega
    simp only [← hn] at B2 ⊢
    clear hn
    go_loopw [7, 21] (fun u i wr => ∃ (k : Nat) (c : Chain) (out : List Int), k ≤ xs.length ∧ i = .int .i64 k ∧ Hid (turnL putOne xs chZero [] = turnL putOne (xs.drop k) c out) ∧ out.length = k ∧ Hid (RI wr W.heap.size u out) ∧ Hid (wr.heap[n]? = some (.cells c.c 43 (0, 0))) ∧ Hid (Below W.heap.size W wr)) (fun _ i _ => xs.length - (intOf i).toNat)
    case atStart => exact ⟨0, chZero, [], by omega, rfl, Lib.hid rfl, rfl, R2, B2, H2⟩
    case round =>
      obtain ⟨k, c, out, hk, rfl, hT, hol, hR, bk, hB⟩ := hrel
      have z3 : n < wr.heap.size := blk_lt bk.out
      by_cases hlt : k < xs.length
      · obtain ⟨ad, rfl, hx⟩ := elem_at Hr.out hB.out hlt
        have hT2 := hT.out
        rw [drop_at xs hlt] at hT2
        obtain ⟨x, hxe⟩ : ∃ x, x = rd xs (k : Int) := ⟨_, rfl⟩
        rw [← hxe] at hx hT2
        have HT := Lib.hid hT2
        clear hxe hT hT2
        have k1 := load_ch bk.out
        go_wp2_with fail
        refine (chGuess_c c _).mono ?_
        rintro e w3 ⟨rfl, hb⟩
        have B3 := Lib.hid (blk_below bk.out hb)
        have H3 := Lib.hid (below_step hB.out hb)
        have R3 := Lib.hid (Kd.R_below hR.out hb)
        clear hb bk hB hR k1
        obtain ⟨g, hg⟩ : ∃ g, g = (chGuess c).1 := ⟨_, rfl⟩
        have HT2 := HT.out
        have Ty := fun h h2 => HT2.trans (turn_yes (one := putOne) (x := x) (c := c) h h2)
        have Tn := fun h => HT2.trans (turn_no (one := putOne) (x := x) (c := c) h)
        rw [← hg] at Ty Tn ⊢
        obtain ⟨y, hy⟩ : ∃ y, y = (putOne x g).1 := ⟨_, rfl⟩
        obtain ⟨s, hs⟩ : ∃ s, s = (putOne x g).2 := ⟨_, rfl⟩
        rw [← hs] at Tn
        rw [← hs, ← hy] at Ty
        have Hy := Lib.hid hy
        have Hs := Lib.hid hs
        have HTy := Lib.hid Ty
        have HTn := Lib.hid Tn
        clear hy hs hg HT HT2 Ty Tn
        have k3 := load_ch B3.out
        go_wp2_with (go_at_call 20; refine (putOne_c x g _).mono ?_; rintro e w' ⟨rfl, hw⟩; have hw := hw.symm; subst hw; rw [← Hy.out, ← Hs.out])
        refine (chLearn_c c s _).mono ?_
        rintro e w4 ⟨rfl, hb⟩
        obtain ⟨m, hm⟩ : ∃ m, m = (chLearn c s).1 := ⟨_, rfl⟩
        have B4 := Lib.hid (blk_below B3.out hb)
        have H4 := Lib.hid (below_step H3.out hb)
        have R4 := Lib.hid (Kd.R_below R3.out hb)
        clear hb k3 B3 H3 R3
        by_cases hok : (chLearn c s).2 = 0
        · have HTy2 := HTy.out hok
          rw [← hm] at HTy2
          have HTy3 := Lib.hid HTy2
          rw [hok, ← hm]
          clear HTy HTy2 hm
          cases hN : inB x 16777216
          · have HN := line_none hl (HTn.out (fun h => by rw [hN] at h; exact absurd h.2 (by decide)))
            go_wp2_with (go_at_call 27; refine (number_c _ _).mono ?_; rintro e w' ⟨rfl, hw⟩; have hw := hw.symm; subst hw; rw [hN])
            go_ret2
            exact ⟨_, by rw [HN]; rfl, by rw [HN]; exact Kd.R_nil _ _ _ _ _, below_alloc H4.out _⟩
          · have HT4 := Lib.hid (HTy3.out hN)
            clear HTn HTy3
            have zz : n < w4.heap.size := blk_lt B4.out
            go_wp2_with (go_at_call 27; refine (number_c _ _).mono ?_; rintro e w' ⟨rfl, hw⟩; have hw := hw.symm; subst hw; rw [hN])
            have B5 := Lib.hid (blk_alloc B4.out (.cells m.c 43))
            have M5 := Lib.hid (blk_new w4 (.cells m.c 43))
            have H5 := Lib.hid (below_alloc H4.out (.cells m.c 43))
            have R5 := Lib.hid (Kd.R_below R4.out (below_alloc (Below.refl w4.heap.size w4) (.cells m.c 43)))
            clear B4 H4 R4 hN
            obtain ⟨n4, hn4⟩ : ∃ n4, n4 = w4.heap.size := ⟨_, rfl⟩
            generalize w4.alloc (.cells m.c 43) = w5 at B5 M5 H5 R5 ⊢
            simp only [← hn4] at M5 ⊢
            clear hn4
            refine start_ (n := 7) (S := fun w' => w'.heap[n4]? = some (.cells m.c 43 (0, 0))) (ds := [5]) #[false, false, false, false, false, false, false] (by kernel_rfl) rfl rfl (blk_drew M5.out) (fun hHeld => ?_)
            refine take_ (i := 0) (N := some 50) (v := ?_) (a' := ?_) #[true, false, false, false, false, false, false] rfl rfl (by kernel_rfl) (fun _ _ _ h => h) (Or.inl ⟨by rfl, ?_⟩) hHeld ?_ ?_
            rotate_left
            · rintro w' s0
              have ld := load_ch s0
              go_simp
              with_reducible rfl
            rotate_left
            · simp only [Act.put, List.setIfInBounds_toArray, List.set_cons_zero, List.set_cons_succ, i64_w, i32_w]
              rfl
            refine pure_ (i := 1) (N := some 51) (v := ?_) (a' := ?_) #[true, true, false, false, false, false, false] rfl rfl (by kernel_rfl) (fun _ _ _ h => h) (Or.inl ⟨by rfl, ?_⟩) ?_ ?_
            rotate_left
            · intro w'
              go_simp
              with_reducible rfl
            rotate_left
            · simp only [Act.put, List.setIfInBounds_toArray, List.set_cons_zero, List.set_cons_succ, i64_w, i32_w]
              rfl
            refine pure_ (i := 2) (N := some 52) (v := ?_) (a' := ?_) #[true, true, true, false, false, false, false] rfl rfl (by kernel_rfl) (fun _ _ _ h => h) (Or.inl ⟨by rfl, ?_⟩) ?_ ?_
            rotate_left
            · intro w'
              go_simp
              with_reducible rfl
            rotate_left
            · simp only [Act.put, List.setIfInBounds_toArray, List.set_cons_zero, List.set_cons_succ, i64_w, i32_w]
              rfl
            refine one_ (i := 3) (N := some 53) #[true, true, true, true, false, false, false] rfl rfl (by kernel_rfl) (by decide) (fun K hK => ?_)
            refine value_ (w1 := w5.drew.alloc (.cells #[.int .i64 y] 3)) (v := .slice (some ⟨w5.heap.size, 0, none⟩) 1 1) (by rfl) rfl (by go_simp; try (constructor <;> rfl)) ?_
            refine hK.out _ _ (blk_alloc hHeld _) (fun hHeld2 => ?_)
            clear hK K
            refine norm_ (a' := ?_) ?_ ?_
            rotate_left
            · show Act.put _ (some 53) _ = _
              simp only [Act.put, List.setIfInBounds_toArray, List.set_cons_zero, List.set_cons_succ, i64_w, i32_w]
              rfl
            refine one_ (i := 4) (N := some 54) #[true, true, true, true, true, false, false] rfl rfl (by kernel_rfl) (by decide) (fun K hK => ?_)
            refine Kd.R_append_step (Kd.int .i64) (w0 := W) (W := w5.drew) W.heap.size (by rfl) (.tmp 51) (.tmp 53) 22 3 (.int .i64 0) 8 rfl Try.underlying22 infoI rfl (by decide) (by omega) u7 out y [.int .i64 y] (fun _ => True) (fun _ => False) rfl rfl ?aP (fun _ hk => hk.elim) ?aF ?aO ?aB ?aS ?aL ?_
            (case aP => exact rfl)
            (case aF => exact (fun _ _ => trivial))
            (case aO => exact Kd.R_drew R5.out)
            (case aB => exact H5.out.drew)
            (case aS => exact H5.out.size)
            (case aL => have := hol; omega)
            intro v1 w6 ho hb hg hat
            refine hK.out _ _ (blk_grown (blk_drew M5.out) hg (ri_ne R5.out M5.out)) (fun hHeld3 => ?_)
            clear hK K
            refine norm_ (a' := ?_) ?_ ?_
            rotate_left
            · show Act.put _ (some 54) _ = _
              simp only [Act.put, List.setIfInBounds_toArray, List.set_cons_zero, List.set_cons_succ, i64_w, i32_w]
              rfl
            have B6 := blk_grown (blk_drew B5.out) hg (ri_ne R5.out B5.out)
            have s6 := store_ch B6 m
            have R6 := Lib.hid (ri_row ho B6 m.c)
            have H6 := Lib.hid (below_row hb hWn m.c)
            refine last_ (i := 5) (N := none) #[true, true, true, true, true, true, false] rfl rfl (by kernel_rfl) (by decide) (fun K hK => ?_)
            refine skip_ (w1 := w6.setRow n m.c) (by rfl) rfl (by go_simp; try rfl) ?_
            refine hK.out _ _ ?_
            clear hK K
            refine pure_ (i := 6) (N := some 7) (v := ?_) (a' := ?_) #[true, true, true, true, true, true, true] rfl rfl (by kernel_rfl) (fun _ _ _ h => h) (Or.inl ⟨by rfl, ?_⟩) ?_ ?_
            rotate_left
            · intro w'
              go_simp
              with_reducible rfl
            rotate_left
            · simp only [Act.put, List.setIfInBounds_toArray, List.set_cons_zero, List.set_cons_succ, i64_w, i32_w]
              rfl
            refine done_ (by kernel_rfl) ?_
            go_wp2_with fail
            go_roundw
            case rel => exact ⟨k + 1, m, out ++ [y], by omega, by go_num, HT4, by rw [List.length_append, hol]; rfl, R6, Lib.hid (blk_row B6 _), H6⟩
            case measure => simp [intOf]; omega
        · have h15 := (learn_two c s).resolve_left hok
          have HN := line_none hl (HTn.out (fun h => hok h.1))
          rw [h15]
          clear HTy HTn hm
          go_wp2_with fail
          go_ret2
          exact ⟨_, by rw [HN]; rfl, by rw [HN]; exact Kd.R_nil _ _ _ _ _, below_alloc H4.out _⟩
      · obtain rfl : k = xs.length := by omega
        have HT2 := hT.out
        rw [List.drop_length] at HT2
        have HN := line_some hl (HT2.trans rfl)
        go_wp2_with fail
        go_ret2
        exact ⟨_, by rw [HN]; rfl, by rw [HN]; exact hR.out, hB.out⟩
  · have d1 : decide ((xs.length : Int) > 256) = true := decide_eq_true (by omega)
    have HN := line_long (one := putOne) hl
    go_enter Try.func19, Try.ntmps19
    go_wp2_with fail
    go_ret2
    exact ⟨_, by rw [HN]; rfl, by rw [HN]; exact Kd.R_nil _ _ _ _ _, Below.refl _ _⟩

set_option maxHeartbeats 16000000 in
theorem turnGet_c (A : Option Addr) (c0 : Nat) (xs : List Int) (W : World) (hr : (Kd.int .i64).C W A xs.length xs) (hc : xs.length ≤ c0) : Calls Try.prog 19 #[.slice A xs.length c0, .func (Fn.func 23) #[] #[]] W fun e W' => ∃ v, e = .returned (.tuple #[v, .int .i64 (lineOf getOne xs).2]) ∧ RI W' W.heap.size v (lineOf getOne xs).1 ∧ Below W.heap.size W W' := by
  have Hr := Lib.hid hr
  clear hr
  by_cases hl : xs.length ≤ 256
  · have d1 : decide ((xs.length : Int) > 256) = false := decide_eq_false (by omega)
    go_enter Try.func19, Try.ntmps19
    go_wp2_with fail
    have B2 := Lib.hid (blk_new W (.cells chZero.c 43))
    have H2 := Lib.hid (below_alloc (Below.refl W.heap.size W) (.cells chZero.c 43))
    have R2 : Hid (RI (W.alloc (.cells chZero.c 43)) W.heap.size (.slice none 0 0) []) := Lib.hid (Kd.R_nil _ _ _ _ _)
    obtain ⟨n, hn⟩ : ∃ n, n = W.heap.size := ⟨_, rfl⟩
    have hWn : W.heap.size ≤ n := by omega
    simp only [← hn] at B2 ⊢
    clear hn
    go_loopw [7, 21] (fun u i wr => ∃ (k : Nat) (c : Chain) (out : List Int), k ≤ xs.length ∧ i = .int .i64 k ∧ Hid (turnL getOne xs chZero [] = turnL getOne (xs.drop k) c out) ∧ out.length = k ∧ Hid (RI wr W.heap.size u out) ∧ Hid (wr.heap[n]? = some (.cells c.c 43 (0, 0))) ∧ Hid (Below W.heap.size W wr)) (fun _ i _ => xs.length - (intOf i).toNat)
    case atStart => exact ⟨0, chZero, [], by omega, rfl, Lib.hid rfl, rfl, R2, B2, H2⟩
    case round =>
      obtain ⟨k, c, out, hk, rfl, hT, hol, hR, bk, hB⟩ := hrel
      have z3 : n < wr.heap.size := blk_lt bk.out
      by_cases hlt : k < xs.length
      · obtain ⟨ad, rfl, hx⟩ := elem_at Hr.out hB.out hlt
        have hT2 := hT.out
        rw [drop_at xs hlt] at hT2
        obtain ⟨x, hxe⟩ : ∃ x, x = rd xs (k : Int) := ⟨_, rfl⟩
        rw [← hxe] at hx hT2
        have HT := Lib.hid hT2
        clear hxe hT hT2
        have k1 := load_ch bk.out
        go_wp2_with fail
        refine (chGuess_c c _).mono ?_
        rintro e w3 ⟨rfl, hb⟩
        have B3 := Lib.hid (blk_below bk.out hb)
        have H3 := Lib.hid (below_step hB.out hb)
        have R3 := Lib.hid (Kd.R_below hR.out hb)
        clear hb bk hB hR k1
        obtain ⟨g, hg⟩ : ∃ g, g = (chGuess c).1 := ⟨_, rfl⟩
        have HT2 := HT.out
        have Ty := fun h h2 => HT2.trans (turn_yes (one := getOne) (x := x) (c := c) h h2)
        have Tn := fun h => HT2.trans (turn_no (one := getOne) (x := x) (c := c) h)
        rw [← hg] at Ty Tn ⊢
        obtain ⟨y, hy⟩ : ∃ y, y = (getOne x g).1 := ⟨_, rfl⟩
        obtain ⟨s, hs⟩ : ∃ s, s = (getOne x g).2 := ⟨_, rfl⟩
        rw [← hs] at Tn
        rw [← hs, ← hy] at Ty
        have Hy := Lib.hid hy
        have Hs := Lib.hid hs
        have HTy := Lib.hid Ty
        have HTn := Lib.hid Tn
        clear hy hs hg HT HT2 Ty Tn
        have k3 := load_ch B3.out
        go_wp2_with (go_at_call 23; refine (getOne_c x g _).mono ?_; rintro e w' ⟨rfl, hw⟩; have hw := hw.symm; subst hw; rw [← Hy.out, ← Hs.out])
        refine (chLearn_c c s _).mono ?_
        rintro e w4 ⟨rfl, hb⟩
        obtain ⟨m, hm⟩ : ∃ m, m = (chLearn c s).1 := ⟨_, rfl⟩
        have B4 := Lib.hid (blk_below B3.out hb)
        have H4 := Lib.hid (below_step H3.out hb)
        have R4 := Lib.hid (Kd.R_below R3.out hb)
        clear hb k3 B3 H3 R3
        by_cases hok : (chLearn c s).2 = 0
        · have HTy2 := HTy.out hok
          rw [← hm] at HTy2
          have HTy3 := Lib.hid HTy2
          rw [hok, ← hm]
          clear HTy HTy2 hm
          cases hN : inB x 16777216
          · have HN := line_none hl (HTn.out (fun h => by rw [hN] at h; exact absurd h.2 (by decide)))
            go_wp2_with (go_at_call 27; refine (number_c _ _).mono ?_; rintro e w' ⟨rfl, hw⟩; have hw := hw.symm; subst hw; rw [hN])
            go_ret2
            exact ⟨_, by rw [HN]; rfl, by rw [HN]; exact Kd.R_nil _ _ _ _ _, below_alloc H4.out _⟩
          · have HT4 := Lib.hid (HTy3.out hN)
            clear HTn HTy3
            have zz : n < w4.heap.size := blk_lt B4.out
            go_wp2_with (go_at_call 27; refine (number_c _ _).mono ?_; rintro e w' ⟨rfl, hw⟩; have hw := hw.symm; subst hw; rw [hN])
            have B5 := Lib.hid (blk_alloc B4.out (.cells m.c 43))
            have M5 := Lib.hid (blk_new w4 (.cells m.c 43))
            have H5 := Lib.hid (below_alloc H4.out (.cells m.c 43))
            have R5 := Lib.hid (Kd.R_below R4.out (below_alloc (Below.refl w4.heap.size w4) (.cells m.c 43)))
            clear B4 H4 R4 hN
            obtain ⟨n4, hn4⟩ : ∃ n4, n4 = w4.heap.size := ⟨_, rfl⟩
            generalize w4.alloc (.cells m.c 43) = w5 at B5 M5 H5 R5 ⊢
            simp only [← hn4] at M5 ⊢
            clear hn4
            refine start_ (n := 7) (S := fun w' => w'.heap[n4]? = some (.cells m.c 43 (0, 0))) (ds := [5]) #[false, false, false, false, false, false, false] (by kernel_rfl) rfl rfl (blk_drew M5.out) (fun hHeld => ?_)
            refine take_ (i := 0) (N := some 50) (v := ?_) (a' := ?_) #[true, false, false, false, false, false, false] rfl rfl (by kernel_rfl) (fun _ _ _ h => h) (Or.inl ⟨by rfl, ?_⟩) hHeld ?_ ?_
            rotate_left
            · rintro w' s0
              have ld := load_ch s0
              go_simp
              with_reducible rfl
            rotate_left
            · simp only [Act.put, List.setIfInBounds_toArray, List.set_cons_zero, List.set_cons_succ, i64_w, i32_w]
              rfl
            refine pure_ (i := 1) (N := some 51) (v := ?_) (a' := ?_) #[true, true, false, false, false, false, false] rfl rfl (by kernel_rfl) (fun _ _ _ h => h) (Or.inl ⟨by rfl, ?_⟩) ?_ ?_
            rotate_left
            · intro w'
              go_simp
              with_reducible rfl
            rotate_left
            · simp only [Act.put, List.setIfInBounds_toArray, List.set_cons_zero, List.set_cons_succ, i64_w, i32_w]
              rfl
            refine pure_ (i := 2) (N := some 52) (v := ?_) (a' := ?_) #[true, true, true, false, false, false, false] rfl rfl (by kernel_rfl) (fun _ _ _ h => h) (Or.inl ⟨by rfl, ?_⟩) ?_ ?_
            rotate_left
            · intro w'
              go_simp
              with_reducible rfl
            rotate_left
            · simp only [Act.put, List.setIfInBounds_toArray, List.set_cons_zero, List.set_cons_succ, i64_w, i32_w]
              rfl
            refine one_ (i := 3) (N := some 53) #[true, true, true, true, false, false, false] rfl rfl (by kernel_rfl) (by decide) (fun K hK => ?_)
            refine value_ (w1 := w5.drew.alloc (.cells #[.int .i64 y] 3)) (v := .slice (some ⟨w5.heap.size, 0, none⟩) 1 1) (by rfl) rfl (by go_simp; try (constructor <;> rfl)) ?_
            refine hK.out _ _ (blk_alloc hHeld _) (fun hHeld2 => ?_)
            clear hK K
            refine norm_ (a' := ?_) ?_ ?_
            rotate_left
            · show Act.put _ (some 53) _ = _
              simp only [Act.put, List.setIfInBounds_toArray, List.set_cons_zero, List.set_cons_succ, i64_w, i32_w]
              rfl
            refine one_ (i := 4) (N := some 54) #[true, true, true, true, true, false, false] rfl rfl (by kernel_rfl) (by decide) (fun K hK => ?_)
            refine Kd.R_append_step (Kd.int .i64) (w0 := W) (W := w5.drew) W.heap.size (by rfl) (.tmp 51) (.tmp 53) 22 3 (.int .i64 0) 8 rfl Try.underlying22 infoI rfl (by decide) (by omega) u7 out y [.int .i64 y] (fun _ => True) (fun _ => False) rfl rfl ?aP (fun _ hk => hk.elim) ?aF ?aO ?aB ?aS ?aL ?_
            (case aP => exact rfl)
            (case aF => exact (fun _ _ => trivial))
            (case aO => exact Kd.R_drew R5.out)
            (case aB => exact H5.out.drew)
            (case aS => exact H5.out.size)
            (case aL => have := hol; omega)
            intro v1 w6 ho hb hg hat
            refine hK.out _ _ (blk_grown (blk_drew M5.out) hg (ri_ne R5.out M5.out)) (fun hHeld3 => ?_)
            clear hK K
            refine norm_ (a' := ?_) ?_ ?_
            rotate_left
            · show Act.put _ (some 54) _ = _
              simp only [Act.put, List.setIfInBounds_toArray, List.set_cons_zero, List.set_cons_succ, i64_w, i32_w]
              rfl
            have B6 := blk_grown (blk_drew B5.out) hg (ri_ne R5.out B5.out)
            have s6 := store_ch B6 m
            have R6 := Lib.hid (ri_row ho B6 m.c)
            have H6 := Lib.hid (below_row hb hWn m.c)
            refine last_ (i := 5) (N := none) #[true, true, true, true, true, true, false] rfl rfl (by kernel_rfl) (by decide) (fun K hK => ?_)
            refine skip_ (w1 := w6.setRow n m.c) (by rfl) rfl (by go_simp; try rfl) ?_
            refine hK.out _ _ ?_
            clear hK K
            refine pure_ (i := 6) (N := some 7) (v := ?_) (a' := ?_) #[true, true, true, true, true, true, true] rfl rfl (by kernel_rfl) (fun _ _ _ h => h) (Or.inl ⟨by rfl, ?_⟩) ?_ ?_
            rotate_left
            · intro w'
              go_simp
              with_reducible rfl
            rotate_left
            · simp only [Act.put, List.setIfInBounds_toArray, List.set_cons_zero, List.set_cons_succ, i64_w, i32_w]
              rfl
            refine done_ (by kernel_rfl) ?_
            go_wp2_with fail
            go_roundw
            case rel => exact ⟨k + 1, m, out ++ [y], by omega, by go_num, HT4, by rw [List.length_append, hol]; rfl, R6, Lib.hid (blk_row B6 _), H6⟩
            case measure => simp [intOf]; omega
        · have h15 := (learn_two c s).resolve_left hok
          have HN := line_none hl (HTn.out (fun h => hok h.1))
          rw [h15]
          clear HTy HTn hm
          go_wp2_with fail
          go_ret2
          exact ⟨_, by rw [HN]; rfl, by rw [HN]; exact Kd.R_nil _ _ _ _ _, below_alloc H4.out _⟩
      · obtain rfl : k = xs.length := by omega
        have HT2 := hT.out
        rw [List.drop_length] at HT2
        have HN := line_some hl (HT2.trans rfl)
        go_wp2_with fail
        go_ret2
        exact ⟨_, by rw [HN]; rfl, by rw [HN]; exact hR.out, hB.out⟩
  · have d1 : decide ((xs.length : Int) > 256) = true := decide_eq_true (by omega)
    have HN := line_long (one := getOne) hl
    go_enter Try.func19, Try.ntmps19
    go_wp2_with fail
    go_ret2
    exact ⟨_, by rw [HN]; rfl, by rw [HN]; exact Kd.R_nil _ _ _ _ _, Below.refl _ _⟩

theorem linePut_c (A : Option Addr) (c0 : Nat) (xs : List Int) (W : World) (hr : (Kd.int .i64).C W A xs.length xs) (hc : xs.length ≤ c0) : Calls Try.prog 9 #[.slice A xs.length c0] W fun e W' => ∃ v, e = .returned (.tuple #[v, .int .i64 (lineOf putOne xs).2]) ∧ RI W' W.heap.size v (lineOf putOne xs).1 ∧ Below W.heap.size W W' := by
  go_enter Try.func9, Try.ntmps9
  go_wp2_with fail
  refine (turnPut_c A c0 xs _ hr hc).mono ?_
  rintro e w1 ⟨v, rfl, hR, hB⟩
  go_wp2_with fail
  go_ret2
  exact ⟨v, rfl, hR, hB⟩

theorem lineGet_c (A : Option Addr) (c0 : Nat) (xs : List Int) (W : World) (hr : (Kd.int .i64).C W A xs.length xs) (hc : xs.length ≤ c0) : Calls Try.prog 11 #[.slice A xs.length c0] W fun e W' => ∃ v, e = .returned (.tuple #[v, .int .i64 (lineOf getOne xs).2]) ∧ RI W' W.heap.size v (lineOf getOne xs).1 ∧ Below W.heap.size W W' := by
  go_enter Try.func11, Try.ntmps11
  go_wp2_with fail
  refine (turnGet_c A c0 xs _ hr hc).mono ?_
  rintro e w1 ⟨v, rfl, hR, hB⟩
  go_wp2_with fail
  go_ret2
  exact ⟨v, rfl, hR, hB⟩
end Go.Proofs.Ytpojgfpfkfjegaa.PAll
