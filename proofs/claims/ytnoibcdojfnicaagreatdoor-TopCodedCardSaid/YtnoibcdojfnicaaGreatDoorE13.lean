/- A part of the proof of a law of descanttop: this session's own texts and printed texts, shortened and joined. -/
import Derived.Test.YtnoibcdojfnicaaGreatDoorE12
import Derived.Laws.Bits64b
import Derived.Shelf.Spec.TrailingZeros
set_option linter.unusedVariables false
set_option linter.unusedSimpArgs false
set_option maxRecDepth 100000
set_option maxHeartbeats 16000000
namespace Go.Proofs.YtnoibcdojfnicaaGreatDoor.PL
open Go.Proofs.YtnoibcdojfnicaaGreatDoorW.Short
open Bool renaming true → Y, false → J
set_option maxRecDepth 100000
open Go Go.RowKit Go.Proofs.YtnoibcdojfnicaaGreatDoorW.PrintWords Go.Proofs.YtnoibcdojfnicaaGreatDoorW.PrintMore Go.Proofs.YtnoibcdojfnicaaGreatDoorW.PrintLast
attribute [-go_sem] Instr.loadAt Instr.storeAt Instr.build
attribute [local go_sem high] shut33 shut16 ch_set0 equal_lms2 equal_ch2 load_new_lms store_new_lms load_new_ch store_new_ch load_word store_word build_ch0 build_ch1 build_ch3
def turnL (one : Int → Int → Int × Int) : List Int → Chain → List Int → Option (List Int)
 | [], _, out => some out
 | x :: r, c, out => if (chLearn c (one x (chGuess c).1).2).2 = 0 ∧ inB x 16777216 = true then turnL one r (chLearn c (one x (chGuess c).1).2).1 (out ++ [(one x (chGuess c).1).1]) else none
def lineOf (one : Int → Int → Int × Int) (xs : List Int) : List Int × Int := if xs.length ≤ 256 then (match turnL one xs chZero [] with | some o => (o, 0) | none => ([], 1600)) else ([], 1600)
def putOne (x g : Int) : Int × Int := (wrap64 (x - g), x)
theorem line_long {one : Int → Int → Int × Int} {xs : List Int} (h : ¬ xs.length ≤ 256) : lineOf one xs = ([], 1600) := by unfold lineOf; rw [if_neg h]
theorem line_some {one : Int → Int → Int × Int} {xs o : List Int} (h : xs.length ≤ 256) (e : turnL one xs chZero [] = some o) : lineOf one xs = (o, 0) := by unfold lineOf; rw [if_pos h, e]
theorem line_none {one : Int → Int → Int × Int} {xs : List Int} (h : xs.length ≤ 256) (e : turnL one xs chZero [] = none) : lineOf one xs = ([], 1600) := by unfold lineOf; rw [if_pos h, e]
theorem drop_at (xs : List Int) {k : Nat} (h : k < xs.length) : xs.drop k = rd xs (k : Int) :: xs.drop (k + 1) := by
 rw [List.drop_eq_getElem_cons h]
 simp [rd, h]
theorem turn_yes {one : Int → Int → Int × Int} {x : Int} {r : List Int} {c : Chain} {out : List Int} (h : (chLearn c (one x (chGuess c).1).2).2 = 0) (h2 : inB x 16777216 = true) : turnL one (x :: r) c out = turnL one r (chLearn c (one x (chGuess c).1).2).1 (out ++ [(one x (chGuess c).1).1]) := by
 simp only [turnL]; rw [if_pos ⟨h, h2⟩]
theorem turn_no {one : Int → Int → Int × Int} {x : Int} {r : List Int} {c : Chain} {out : List Int} (h : ¬ ((chLearn c (one x (chGuess c).1).2).2 = 0 ∧ inB x 16777216 = true)) : turnL one (x :: r) c out = none := by
 simp only [turnL]; rw [if_neg h]
theorem learn_two (c : Chain) (x : Int) : (chLearn c x).2 = 0 ∨ (chLearn c x).2 = 1500 := by unfold chLearn; split <;> simp
abbrev RI (w : World) (base : Nat) (v : Value) (xs : List Int) : Prop := (Kd.int .i64).R 3 w base (fun _ => True) v xs
theorem ri_row {w : World} {base g : Nat} {v : Value} {xs : List Int} {cs : Array Value} (h : RI w base v xs) (hb : w.heap[g]? = some (.cells cs 63 (0, 0))) (c : Array Value) : RI (w.setRow g c) base v xs :=
 Kd.R_mono (Kd.R_step (Kd.R_types h hb (fun q hq => by
  have : q = 3 := by simpa [Kd.int, Kd.scalar] using hq
  rw [this]; decide)) (fun k hk _ => setRow_other w g k c hk.2)) (fun _ hk => hk.1)
theorem ri_ne {w : World} {base g : Nat} {v : Value} {xs : List Int} {cs : Array Value} (h : RI w base v xs) (hb : w.heap[g]? = some (.cells cs 63 (0, 0))) : some g ≠ v.ownBlock := Kd.R_ne h hb (by decide)
theorem infoI : (Tryz.prog.info? 3).map (fun i => (i.zero, i.size, i.bytes)) = some (some (.int .i64 0), 1, 8) := by kernel_rfl
theorem cell_below {w w' : World} {p : Addr} {v : Value} (h : w.cell? p = some v) (hb : Below w.heap.size w w') : w'.cell? p = some v :=
 (hb.cell (p := p) (World.block_lt_of_cell? w _ h)).trans h
theorem elem_at {W w : World} {A : Option Addr} {xs : List Int} (h : (Kd.int .i64).C W A xs.length xs) (hb : Below W.heap.size W w) {k : Nat} (hk : k < xs.length) : ∃ ad, A = some ad ∧ w.cell? (ad.add k) = some (.int .i64 (rd xs (k : Int))) := by
 obtain ⟨ad, e, hx⟩ := Kd.at_int h (k : Int) (by omega) (by omega)
 rw [Int.toNat_natCast] at hx
 exact ⟨ad, e, cell_below hx hb⟩
theorem number_c (x : Int) (w : World) : Calls Tryz.prog 60 #[.int .i64 x] w fun e w' => e = .returned (.bool (inB x 16777216)) ∧ w' = w := by
 by_cases c : -16777216 ≤ x
 ·have c1 : decide (x ≥ -16777216) = true := decide_eq_true c
  go_enter Tryz.func60, Tryz.ntmps60
  go_wp2
  go_ret
  exact ⟨by simp [inB, c], rfl⟩
 ·have c1 : decide (x ≥ -16777216) = false := decide_eq_false (by omega)
  go_enter Tryz.func60, Tryz.ntmps60
  go_wp2
  go_ret
  exact ⟨by simp [inB]; omega, rfl⟩
theorem putOne_c (x g : Int) (W : World) : Calls Tryz.prog 70 #[.int .i64 x, .int .i64 g] W fun e w' => e = .returned (.tuple #[.int .i64 (putOne x g).1, .int .i64 (putOne x g).2]) ∧ w' = W := by
 go_enter Tryz.func70, Tryz.ntmps70
 go_wp2_with fail
 go_ret2
 exact ⟨rfl, rfl⟩
theorem turnPut_c (A : Option Addr) (c0 : Nat) (xs : List Int) (W : World) (hr : (Kd.int .i64).C W A xs.length xs) (hc : xs.length ≤ c0) : Calls Tryz.prog 69 #[.slice A xs.length c0, .func (Fn.func 70) #[] #[]] W fun e W' => ∃ v, e = .returned (.tuple #[v, .int .i64 (lineOf putOne xs).2]) ∧ RI W' W.heap.size v (lineOf putOne xs).1 ∧ Below W.heap.size W W' := by
 have Hr := Lib.hid hr
 clear hr
 by_cases hl : xs.length ≤ 256
 ·have d1 : decide ((xs.length : Int) > 256) = false := decide_eq_false (by omega)
  go_enter Tryz.func69, Tryz.ntmps69
  go_wp2_with fail
  have B2 := Lib.hid (blk_new W (.cells chZero.c 63))
  have H2 := Lib.hid (below_alloc (Below.refl W.heap.size W) (.cells chZero.c 63))
  have R2 : Hid (RI (W.alloc (.cells chZero.c 63)) W.heap.size (.slice none 0 0) []) := Lib.hid (Kd.R_nil _ _ _ _ _)
  obtain ⟨n, hn⟩ : ∃ n, n = W.heap.size := ⟨_, rfl⟩
  have hWn : W.heap.size ≤ n := by omega
  simp only [← hn] at B2 ⊢
  clear hn
  go_loopw [7, 21] (fun u i wr => ∃ (k : Nat) (c : Chain) (out : List Int), k ≤ xs.length ∧ i = .int .i64 k ∧ Hid (turnL putOne xs chZero [] = turnL putOne (xs.drop k) c out) ∧ out.length = k ∧ Hid (RI wr W.heap.size u out) ∧ Hid (wr.heap[n]? = some (.cells c.c 63 (0, 0))) ∧ Hid (Below W.heap.size W wr)) (fun _ i _ => xs.length - (intOf i).toNat)
  case atStart => exact ⟨0, chZero, [], by omega, rfl, Lib.hid rfl, rfl, R2, B2, H2⟩
  case round =>
   obtain ⟨k, c, out, hk, rfl, hT, hol, hR, bk, hB⟩ := hrel
   have z3 : n < wr.heap.size := blk_lt bk.out
   by_cases hlt : k < xs.length
   ·obtain ⟨ad, rfl, hx⟩ := elem_at Hr.out hB.out hlt
    have hT2 := hT.out
    rw [drop_at xs hlt] at hT2
    obtain ⟨x, hxe⟩ : ∃ x, x = rd xs (k : Int) := ⟨_, rfl⟩
    rw [← hxe] at hx hT2
    have HT := Lib.hid hT2
    clear hxe hT hT2
    have k1 := load_ch bk.out
    go_wp2_with fail
    refine (chGuess_c c _).mono ?_
    rintro e w3 ⟨rfl, hb⟩
    have B3 := Lib.hid (blk_below bk.out hb)
    have H3 := Lib.hid (below_step hB.out hb)
    have R3 := Lib.hid (Kd.R_below hR.out hb)
    clear hb bk hB hR k1
    obtain ⟨g, hg⟩ : ∃ g, g = (chGuess c).1 := ⟨_, rfl⟩
    have HT2 := HT.out
    have Ty := fun h h2 => HT2.trans (turn_yes (one := putOne) (x := x) (c := c) h h2)
    have Tn := fun h => HT2.trans (turn_no (one := putOne) (x := x) (c := c) h)
    rw [← hg] at Ty Tn ⊢
    obtain ⟨y, hy⟩ : ∃ y, y = (putOne x g).1 := ⟨_, rfl⟩
    obtain ⟨s, hs⟩ : ∃ s, s = (putOne x g).2 := ⟨_, rfl⟩
    rw [← hs] at Tn
    rw [← hs, ← hy] at Ty
    have Hy := Lib.hid hy
    have Hs := Lib.hid hs
    have HTy := Lib.hid Ty
    have HTn := Lib.hid Tn
    clear hy hs hg HT HT2 Ty Tn
    have k3 := load_ch B3.out
    go_wp2_with (go_at_call 70; refine (putOne_c x g _).mono ?_; rintro e w' ⟨rfl, hw⟩; have hw := hw.symm; subst hw; rw [← Hy.out, ← Hs.out])
    refine (chLearn_c c s _).mono ?_
    rintro e w4 ⟨rfl, hb⟩
    obtain ⟨m, hm⟩ : ∃ m, m = (chLearn c s).1 := ⟨_, rfl⟩
    have B4 := Lib.hid (blk_below B3.out hb)
    have H4 := Lib.hid (below_step H3.out hb)
    have R4 := Lib.hid (Kd.R_below R3.out hb)
    clear hb k3 B3 H3 R3
    by_cases hok : (chLearn c s).2 = 0
    ·have HTy2 := HTy.out hok
     rw [← hm] at HTy2
     have HTy3 := Lib.hid HTy2
     rw [hok, ← hm]
     clear HTy HTy2 hm
     cases hN : inB x 16777216
     ·have HN := line_none hl (HTn.out (fun h => by rw [hN] at h; exact absurd h.2 (by decide)))
      go_wp2_with (go_at_call 60; refine (number_c _ _).mono ?_; rintro e w' ⟨rfl, hw⟩; have hw := hw.symm; subst hw; rw [hN])
      go_ret2
      exact ⟨_, by rw [HN]; rfl, by rw [HN]; exact Kd.R_nil _ _ _ _ _, below_alloc H4.out _⟩
     ·have HT4 := Lib.hid (HTy3.out hN)
      clear HTn HTy3
      have zz : n < w4.heap.size := blk_lt B4.out
      go_wp2_with (go_at_call 60; refine (number_c _ _).mono ?_; rintro e w' ⟨rfl, hw⟩; have hw := hw.symm; subst hw; rw [hN])
      have B5 := Lib.hid (blk_alloc B4.out (.cells m.c 63))
      have M5 := Lib.hid (blk_new w4 (.cells m.c 63))
      have H5 := Lib.hid (below_alloc H4.out (.cells m.c 63))
      have R5 := Lib.hid (Kd.R_below R4.out (below_alloc (Below.refl w4.heap.size w4) (.cells m.c 63)))
      clear B4 H4 R4 hN
      obtain ⟨n4, hn4⟩ : ∃ n4, n4 = w4.heap.size := ⟨_, rfl⟩
      generalize w4.alloc (.cells m.c 63) = w5 at B5 M5 H5 R5 ⊢
      simp only [← hn4] at M5 ⊢
      clear hn4
      refine start_ (n := 7) (S := fun w' => w'.heap[n4]? = some (.cells m.c 63 (0, 0))) (ds := [5]) #[J,J,J,J,J,J,J] kr rfl rfl (blk_drew M5.out) (fun hHeld => ?_)
      refine take_ (i := 0) (N := some 50) (v := ?_) (a' := ?_) #[Y,J,J,J,J,J,J] rfl rfl kr (fun _ _ _ h => h) (Or.inl ⟨by rfl, ?_⟩) hHeld ?_ ?_
      rotate_left
      ·rintro w' s0
       have ld := load_ch s0
       go_simp
       with_reducible rfl
      rotate_left
      ·exact pT
      refine pure_ (i := 1) (N := some 51) (v := ?_) (a' := ?_) #[Y,Y,J,J,J,J,J] rfl rfl kr (fun _ _ _ h => h) (Or.inl ⟨by rfl, ?_⟩) ?_ ?_
      rotate_left
      ·intro w'
       go_simp
       with_reducible rfl
      rotate_left
      ·exact pT
      refine pure_ (i := 2) (N := some 52) (v := ?_) (a' := ?_) #[Y,Y,Y,J,J,J,J] rfl rfl kr (fun _ _ _ h => h) (Or.inl ⟨by rfl, ?_⟩) ?_ ?_
      rotate_left
      ·intro w'
       go_simp
       with_reducible rfl
      rotate_left
      ·exact pT
      refine one_ (i := 3) (N := some 53) #[Y,Y,Y,Y,J,J,J] rfl rfl kr (by decide) (fun K hK => ?_)
      refine value_ (w1 := w5.drew.alloc (.cells #[.int .i64 y] 3)) (v := .slice (some ⟨w5.heap.size, 0, none⟩) 1 1) (by rfl) rfl (by go_simp; try (constructor <;> rfl)) ?_
      refine hK.out _ _ (blk_alloc hHeld _) (fun hHeld2 => ?_)
      clear hK K
      refine norm_ (a' := ?_) ?_ ?_
      rotate_left
      ·show Act.put _ (some 53) _ = _
       exact pT
      refine one_ (i := 4) (N := some 54) #[Y,Y,Y,Y,Y,J,J] rfl rfl kr (by decide) (fun K hK => ?_)
      refine Kd.R_append_step (Kd.int .i64) (w0 := W) (W := w5.drew) W.heap.size (by rfl) (.tmp 51) (.tmp 53) 22 3 (.int .i64 0) 8 rfl Tryz.underlying22 infoI rfl (by decide) (by omega) u7 out y [.int .i64 y] (fun _ => True) (fun _ => False) rfl rfl ?aP (fun _ hk => hk.elim) ?aF ?aO ?aB ?aS ?aL ?_
      (case aP => exact rfl)
      (case aF => exact (fun _ _ => trivial))
      (case aO => exact Kd.R_drew R5.out)
      (case aB => exact H5.out.drew)
      (case aS => exact H5.out.size)
      (case aL => have := hol; omega)
      intro v1 w6 ho hb hg hat
      refine hK.out _ _ (blk_grown (blk_drew M5.out) hg (ri_ne R5.out M5.out)) (fun hHeld3 => ?_)
      clear hK K
      refine norm_ (a' := ?_) ?_ ?_
      rotate_left
      ·show Act.put _ (some 54) _ = _
       exact pT
      have B6 := blk_grown (blk_drew B5.out) hg (ri_ne R5.out B5.out)
      have s6 := store_ch B6 m
      have R6 := Lib.hid (ri_row ho B6 m.c)
      have H6 := Lib.hid (below_row hb hWn m.c)
      refine last_ (i := 5) (N := none) #[Y,Y,Y,Y,Y,Y,J] rfl rfl kr (by decide) (fun K hK => ?_)
      refine skip_ (w1 := w6.setRow n m.c) (by rfl) rfl (by go_simp; try rfl) ?_
      refine hK.out _ _ ?_
      clear hK K
      refine pure_ (i := 6) (N := some 7) (v := ?_) (a' := ?_) #[Y,Y,Y,Y,Y,Y,Y] rfl rfl kr (fun _ _ _ h => h) (Or.inl ⟨by rfl, ?_⟩) ?_ ?_
      rotate_left
      ·intro w'
       go_simp
       with_reducible rfl
      rotate_left
      ·exact pT
      refine done_ kr ?_
      go_wp2_with fail
      go_roundw
      case rel => exact ⟨k + 1, m, out ++ [y], by omega, by go_num, HT4, by rw [List.length_append, hol]; rfl, R6, Lib.hid (blk_row B6 _), H6⟩
      case measure => simp [intOf]; omega
    ·have h15 := (learn_two c s).resolve_left hok
     have HN := line_none hl (HTn.out (fun h => hok h.1))
     rw [h15]
     clear HTy HTn hm
     go_wp2_with fail
     go_ret2
     exact ⟨_, by rw [HN]; rfl, by rw [HN]; exact Kd.R_nil _ _ _ _ _, below_alloc H4.out _⟩
   ·obtain rfl : k = xs.length := by omega
    have HT2 := hT.out
    rw [List.drop_length] at HT2
    have HN := line_some hl (HT2.trans rfl)
    go_wp2_with fail
    go_ret2
    exact ⟨_, by rw [HN]; rfl, by rw [HN]; exact hR.out, hB.out⟩
 ·have d1 : decide ((xs.length : Int) > 256) = true := decide_eq_true (by omega)
  have HN := line_long (one := putOne) hl
  go_enter Tryz.func69, Tryz.ntmps69
  go_wp2_with fail
  go_ret2
  exact ⟨_, by rw [HN]; rfl, by rw [HN]; exact Kd.R_nil _ _ _ _ _, Below.refl _ _⟩
theorem linePut_c (A : Option Addr) (c0 : Nat) (xs : List Int) (W : World) (hr : (Kd.int .i64).C W A xs.length xs) (hc : xs.length ≤ c0) : Calls Tryz.prog 25 #[.slice A xs.length c0] W fun e W' => ∃ v, e = .returned (.tuple #[v, .int .i64 (lineOf putOne xs).2]) ∧ RI W' W.heap.size v (lineOf putOne xs).1 ∧ Below W.heap.size W W' := by
 go_enter Tryz.func25, Tryz.ntmps25
 go_wp2_with fail
 refine (turnPut_c A c0 xs _ hr hc).mono ?_
 rintro e w1 ⟨v, rfl, hR, hB⟩
 go_wp2_with fail
 go_ret2
 exact ⟨v, rfl, hR, hB⟩
end Go.Proofs.YtnoibcdojfnicaaGreatDoor.PL
namespace Go.Proofs.YtnoibcdojfnicaaGreatDoor.PSh
open Go.Proofs.YtnoibcdojfnicaaGreatDoorW.Short
open Bool renaming true → Y, false → J
open Go Go.RowKit Go.Proofs.YtnoibcdojfnicaaGreatDoorW.PrintWords Go.Proofs.YtnoibcdojfnicaaGreatDoorW.PrintMore Go.Proofs.YtnoibcdojfnicaaGreatDoorW.PrintLast
def inS (x : Int) : Bool := decide (-131072 ≤ x ∧ x ≤ 131072)
def allS (xs : List Int) : Bool := xs.all inS
theorem tz64_c (x : Nat) (hx : x < 18446744073709551616) (w : World) (hT : Extra.Laid w) : Calls Tryz.prog 175 #[.int .u64 x] w fun e w' => e = .returned (.int .i64 (Lib.ctz 64 x)) ∧ w' = w := by
 by_cases hx0 : x = 0
 ·subst hx0
  go_enter Tryz.func175, Tryz.ntmps175
  go_wp2
  go_ret
  exact ⟨rfl, rfl⟩
 ·obtain ⟨hlow, hk⟩ := Lib.lowest_bit 64 x hx0 hx
  obtain ⟨hi, htab⟩ := Lib.deBruijn64_at _ hk
  have hcell := hT.out _ hi
  rw [htab] at hcell
  have key := tz64_key x _ hx hx0 hlow
  obtain ⟨k, hk2⟩ : ∃ k, k = Lib.ctz 64 x := ⟨_, rfl⟩
  rw [← hk2] at hk hcell key hi ⊢
  obtain ⟨idx, hix⟩ : ∃ idx, idx = 2 ^ k * 285870213051353865 % 18446744073709551616 / 288230376151711744 := ⟨_, rfl⟩
  rw [← hix] at hcell key hi
  have hx1 : ((x : Int) == 0) = false := by simp; omega
  clear hk2 hix hlow htab hx0
  go_enter Tryz.func175, Tryz.ntmps175
  go_wp2_with (simp only [key])
  go_ret
  exact ⟨rfl, rfl⟩
theorem tz_c (x : Nat) (hx : x < 18446744073709551616) (w : World) (hT : Extra.Laid w) : Calls Tryz.prog 168 #[.int .u64 x] w fun e w' => e = .returned (.int .i64 (Lib.ctz 64 x)) ∧ w' = w := by
 go_enter Tryz.func168, Tryz.ntmps168
 go_wp2_with (go_at_call 175; refine (tz64_c x hx _ hT).mono ?_; rintro e w' ⟨rfl, hw⟩; have hw := hw.symm; subst hw)
 go_ret
 exact ⟨rfl, rfl⟩
theorem odd_c (x : Int) (w : World) : Calls Tryz.prog 128 #[.int .i64 x] w fun e w' => e = .returned (.bool (!inS x)) ∧ w' = w := by
 by_cases c : -131072 ≤ x
 ·have c1 : decide (x ≥ -131072) = true := decide_eq_true c
  go_enter Tryz.func128, Tryz.ntmps128
  go_wp2
  go_ret
  exact ⟨by simp [inS, c], rfl⟩
 ·have c1 : decide (x ≥ -131072) = false := decide_eq_false (by omega)
  go_enter Tryz.func128, Tryz.ntmps128
  go_wp2
  go_ret
  exact ⟨by simp [inS]; omega, rfl⟩
theorem elem_c {w : World} {A : Option Addr} {xs : List Int} (h : (Kd.int .i64).C w A xs.length xs) {k : Nat} (hk : k < xs.length) : ∃ ad, A = some ad ∧ w.cell? (ad.add k) = some (.int .i64 (xs.getD k 0)) := by
 obtain ⟨ad, e, hx⟩ := Kd.at_int h (k : Int) (by omega) (by omega)
 rw [Int.toNat_natCast] at hx
 refine ⟨ad, e, ?_⟩
 rw [hx]
 simp [rd]
theorem all_no {xs : List Int} {k : Nat} (hk : k < xs.length) (h : inS (xs.getD k 0) = false) : allS xs = false := by
 unfold allS
 rw [List.all_eq_false]
 exact ⟨xs[k], List.getElem_mem hk, b62_⟩
theorem all_yes {xs : List Int} (h : ∀ j, j < xs.length → inS (xs.getD j 0) = true) : allS xs = true := by
 unfold allS
 rw [List.all_eq_true]
 intro x hx
 obtain ⟨j, hj, rfl⟩ := List.getElem_of_mem hx
 have := h j hj
 rw [List.getD_eq_getElem?_getD, List.getElem?_eq_getElem hj] at this
 exact this
theorem index_c (A : Option Addr) (c0 : Nat) (xs : List Int) (W : World) (hb : xs.length ≤ 17592186044416) (hr : (Kd.int .i64).C W A xs.length xs) : Calls Tryz.prog 120 #[.slice A xs.length c0, .func (Fn.func 128) #[] #[]] W fun e w' => ∃ i : Int, e = .returned (.int .i64 i) ∧ w' = W ∧ decide (i ≥ 0) = !allS xs := by
 have Hr := Lib.hid hr
 clear hr
 go_enter Tryz.func120, Tryz.ntmps120
 go_wp2_with fail
 go_loop [8] (fun i => ∃ k : Nat, k ≤ xs.length ∧ i = .int .i64 k ∧ ∀ j, j < k → inS (xs.getD j 0) = true) (fun i => xs.length - (intOf i).toNat)
 case atStart => exact ⟨0, by omega, rfl, fun j hj => by omega⟩
 case round =>
  obtain ⟨k, hk, rfl, hok⟩ := hrel
  have Hok := Lib.hid hok; clear hok
  by_cases hlt : k < xs.length
  ·obtain ⟨ad, rfl, hx⟩ := elem_c Hr.out hlt
   obtain ⟨x, hxe⟩ : ∃ x, x = xs.getD k 0 := ⟨_, rfl⟩
   rw [← hxe] at hx
   have Hx := Lib.hid hxe
   clear hxe
   cases hin : inS x
   ·have hno := Lib.hid (all_no hlt b80_)
    go_wp2_with (go_at_call 128; refine (odd_c _ _).mono ?_; rintro e w' ⟨rfl, rfl⟩; rw [hin])
    go_ret
    exact ⟨(k : Int), rfl, rfl, b77_⟩
   ·go_wp2_with (go_at_call 128; refine (odd_c _ _).mono ?_; rintro e w' ⟨rfl, rfl⟩; rw [hin])
    go_round
    case rel =>
     refine ⟨k + 1, by omega, by go_num, fun j hj => ?_⟩
     by_cases hjk : j = k
     ·rw [hjk, ← Hx.out]; exact hin
     ·exact Hok.out j (by omega)
    case measure => simp [intOf]; omega
  ·have hyes := Lib.hid (all_yes (fun j hj => Hok.out j (by omega)))
   go_wp2_with fail
   go_ret
   exact ⟨-1, rfl, rfl, by rw [hyes.out]; rfl⟩
theorem contains_c (A : Option Addr) (c0 : Nat) (xs : List Int) (W : World) (hb : xs.length ≤ 17592186044416) (hr : (Kd.int .i64).C W A xs.length xs) : Calls Tryz.prog 64 #[.slice A xs.length c0, .func (Fn.func 128) #[] #[]] W fun e w' => e = .returned (.bool (!allS xs)) ∧ w' = W := by
 go_enter Tryz.func64, Tryz.ntmps64
 go_wp2_with fail
 refine (index_c A c0 xs W hb hr).mono ?_
 rintro e w' ⟨i, rfl, hw, hi⟩
 have hw := hw.symm
 subst hw
 go_wp2_with fail
 go_ret
 exact ⟨rfl, rfl⟩
theorem infoS : (Tryz.prog.info? 3).map (fun i => (i.zero, i.size, i.bytes)) = some (some (.int .i64 0), 1, 8) := by kernel_rfl
theorem clone_c (A : Option Addr) (c0 : Nat) (xs : List Int) (W : World) (hb : xs.length ≤ 17592186044416) (hr : (Kd.int .i64).C W A xs.length xs) : Calls Tryz.prog 85 #[.slice A xs.length c0] W fun e w' => ∃ v, e = .returned v ∧ (Kd.int .i64).R 3 w' W.heap.size (fun _ => True) v xs ∧ Below W.heap.size W w' := by
 cases A with
 | none =>
  have h0 : xs.length = 0 := by
   rcases Nat.eq_zero_or_pos xs.length with h | h
   ·exact h
   ·obtain ⟨ad, e, _⟩ := elem_c hr h
    cases e
  have hx : xs = [] := List.length_eq_zero_iff.1 h0
  subst hx
  have eq1 := fun w : World => Lib.run_eql_slice_nil (P := Tryz.prog) w 22 3 none 0 c0 0 0 Tryz.underlying22
  go_enter Tryz.func85, Tryz.ntmps85
  go_wp2_with fail
  go_ret
  exact ⟨_, rfl, Kd.R_nil _ _ _ _ _, Below.refl _ _⟩
 | some ad =>
  have Hr := Lib.hid hr
  clear hr
  have eq1 := fun w : World => Lib.run_eql_slice_nil (P := Tryz.prog) w 22 3 (some ad) xs.length c0 0 0 Tryz.underlying22
  go_enter Tryz.func85, Tryz.ntmps85
  go_wp2_with (first | ((with_reducible refine gate_dst (N := 5) rfl ?_); refine Kd.R_lit (Kd.int .i64) _ 3 ?hg (N := 5) ?hd (xs := ([] : List Int)) (inner := []) (ok := fun _ => True) (okp := fun _ => True) ?hr ?hp (fun _ hk => hk) trivial (Below.refl _ _) (Nat.le_refl _) (by simp) ?_; (case hd => rfl); (case hg => rfl); (case hr => first | (go_simp; done) | (go_simp; rfl)); (case hp => exact (Reps.none _ _)); intro v1 w3 ho4 hb2 hg_ hnew_; clear hg_ hnew_; have HO := Lib.hid ho4; have HB := Lib.hid hb2; clear hb2 ho4) | ((with_reducible refine gate_builtin (b := .append) (xs := #[.tmp 5, .tmp 6]) rfl ?_); at_builtin; refine Kd.R_append_rows (Kd.int .i64) (w0 := W) W.heap.size rfl (.tmp 5) (.tmp 6) 22 3 (.int .i64 0) 8 rfl Tryz.underlying22 infoS rfl (by decide) (by omega) _ [] xs _ _ _ (fun _ => True) (fun _ => False) rfl rfl ?aO ?aR (fun _ _ h => h) (fun _ h => h.elim) ?aF ?aB ?aS ?aL ?_; (case aR => exact Kd.C_below Hr.out HB.out); (case aB => exact HB.out); (case aF => exact (fun _ _ => trivial)); (case aO => exact HO.out); (case aS => exact HB.out.size); (case aL => simp; omega); intro v2 w5 ho hb3 hg hat; have HO2 := Lib.hid ho; have HB2 := Lib.hid hb3; clear ho hb3 hg hat))
  go_ret
  exact ⟨_, rfl, HO2.out, HB2.out⟩
def mayS (xs : List Int) (by_ : Int) : Bool := decide (0 ≤ by_ ∧ by_ ≤ 15) && allS xs
theorem may_c (A : Option Addr) (c0 : Nat) (xs : List Int) (by_ : Int) (W : World) (hb : xs.length ≤ 17592186044416) (hr : (Kd.int .i64).C W A xs.length xs) : Calls Tryz.prog 84 #[.slice A xs.length c0, .int .i64 by_] W fun e w' => e = .returned (.bool (mayS xs by_)) ∧ w' = W := by
 have Hr := Lib.hid hr
 clear hr
 by_cases h1 : 0 ≤ by_
 ·by_cases h2 : by_ ≤ 15
  ·have e : mayS xs by_ = allS xs := by unfold mayS; rw [decide_eq_true ⟨h1, h2⟩, Bool.true_and]
   rw [e]
   clear e
   go_enter Tryz.func84, Tryz.ntmps84
   go_wp2_with (go_at_call 64; refine (contains_c _ _ xs _ hb Hr.out).mono ?_; rintro e w' ⟨rfl, hw⟩; have hw := hw.symm; subst hw)
   go_ret
   exact ⟨by simp, rfl⟩
  ·have e : mayS xs by_ = false := by unfold mayS; rw [decide_eq_false (by omega), Bool.false_and]
   rw [e]
   clear e
   go_enter Tryz.func84, Tryz.ntmps84
   go_wp2_with fail
   go_ret
   exact ⟨rfl, rfl⟩
 ·have e : mayS xs by_ = false := by unfold mayS; rw [decide_eq_false (by omega), Bool.false_and]
  rw [e]
  clear e
  go_enter Tryz.func84, Tryz.ntmps84
  go_wp2_with fail
  go_ret
  exact ⟨rfl, rfl⟩
end Go.Proofs.YtnoibcdojfnicaaGreatDoor.PSh
namespace Go.Proofs.YtnoibcdojfnicaaGreatDoor.PSh
open Go.Proofs.YtnoibcdojfnicaaGreatDoorW.Short
open Bool renaming true → Y, false → J
open Go Go.RowKit Go.Proofs.YtnoibcdojfnicaaGreatDoorW.PrintWords Go.Proofs.YtnoibcdojfnicaaGreatDoorW.PrintMore Go.Proofs.YtnoibcdojfnicaaGreatDoorW.PrintLast
def dn (by_ x : Int) : Int := x / 2 ^ by_.toNat
def upS (by_ y : Int) : Int := wrap64 (y * 2 ^ by_.toNat)
def downOk (by_ : Int) (xs : List Int) : Bool := xs.all fun x => upS by_ (dn by_ x) == x
def downF (xs : List Int) (by_ : Int) : List Int × Int := if (mayS xs by_ && downOk by_ xs) = true then (xs.map (dn by_), 0) else ([], 1800)
abbrev RI (w : World) (base : Nat) (v : Value) (xs : List Int) : Prop := (Kd.int .i64).R 3 w base (fun _ => True) v xs
theorem mix_set (f : Int → Int) (xs : List Int) {k : Nat} (h : k < xs.length) : (((xs.take k).map f ++ xs.drop k).set k (f (rd xs (k : Int)))) = (xs.take (k + 1)).map f ++ xs.drop (k + 1) := by
 have e1 : rd xs (k : Int) = xs[k] := by simp [rd, h]
 have hl : ((xs.take k).map f).length = k := by simp; omega
 rw [e1, List.set_append_right _ _ (by omega), hl, Nat.sub_self, List.drop_eq_getElem_cons h, List.set_cons_zero, List.take_succ_eq_append_getElem h, List.map_append, List.append_assoc]
 rfl
theorem mix_at (f : Int → Int) (xs : List Int) {k : Nat} (h : k < xs.length) : rd ((xs.take k).map f ++ xs.drop k) (k : Int) = rd xs (k : Int) := by
 have hl : ((xs.take k).map f).length = k := by simp; omega
 unfold rd
 rw [Int.toNat_natCast, List.getD_eq_getElem?_getD, List.getD_eq_getElem?_getD, List.getElem?_append_right (by omega), hl, Nat.sub_self, List.getElem?_drop, Nat.add_zero]
theorem down_no {by_ : Int} {xs : List Int} {k : Nat} (hk : k < xs.length) (h : (upS by_ (dn by_ (rd xs (k : Int))) == rd xs (k : Int)) = false) : downOk by_ xs = false := by
 have e1 : rd xs (k : Int) = xs[k] := by simp [rd, hk]
 rw [e1] at h
 unfold downOk
 rw [List.all_eq_false]
 exact ⟨xs[k], List.getElem_mem hk, by simpa using h⟩
theorem down_yes {by_ : Int} {xs : List Int} (h : ∀ j, j < xs.length → (upS by_ (dn by_ (rd xs (j : Int))) == rd xs (j : Int)) = true) : downOk by_ xs = true := by
 unfold downOk
 rw [List.all_eq_true]
 intro x hx
 obtain ⟨j, hj, rfl⟩ := List.getElem_of_mem hx
 have := h j hj
 have e1 : rd xs (j : Int) = xs[j] := by simp [rd, hj]
 rwa [e1] at this
theorem down_c (A : Option Addr) (c0 : Nat) (xs : List Int) (by_ : Int) (W : World) (hb : xs.length ≤ 17592186044416) (hr : (Kd.int .i64).C W A xs.length xs) :
  Calls Tryz.prog 30 #[.slice A xs.length c0, .int .i64 by_] W fun e w' => ∃ v : Value, e = .returned (.tuple #[v, .int .i64 (downF xs by_).2]) ∧ (Kd.int .i64).R 3 w' W.heap.size (fun _ => True) v (downF xs by_).1 ∧ Below W.heap.size W w' := by
 have Hr := Lib.hid hr
 clear hr
 cases hm : mayS xs by_
 ·have E : Hid (downF xs by_ = ([], 1800)) := Lib.hid (by unfold downF; rw [hm, Bool.false_and]; rfl)
  have HM := Lib.hid hm
  clear hm
  go_enter Tryz.func30, Tryz.ntmps30
  go_wp2_with (go_at_call 84; refine (may_c _ _ xs _ _ hb Hr.out).mono ?_; rintro e w' ⟨rfl, hw⟩; have hw := hw.symm; subst hw; rw [HM.out])
  go_ret2
  exact ⟨.slice none 0 0, by rw [E.out]; rfl, by rw [E.out]; exact Kd.R_nil _ _ _ _ _, Below.refl _ _⟩
 ·have HM := Lib.hid hm
  have hm2 := hm
  unfold mayS at hm2
  rw [Bool.and_eq_true, decide_eq_true_iff] at hm2
  obtain ⟨⟨b0, b1⟩, -⟩ := hm2
  clear hm
  go_enter Tryz.func30, Tryz.ntmps30
  go_wp2_with (go_at_call 84; refine (may_c _ _ xs _ _ hb Hr.out).mono ?_; rintro e w' ⟨rfl, hw⟩; have hw := hw.symm; subst hw; rw [HM.out])
  refine (clone_c A c0 xs _ hb Hr.out).mono ?_
  rintro e w1 ⟨v, rfl, hR, hB⟩
  obtain ⟨n, hn⟩ : ∃ n, n = xs.length := ⟨_, rfl⟩
  obtain ⟨Av, cv, rfl⟩ := Kd.R_slice hR
  rw [← hn] at hR ⊢
  have R1 : Hid (RI w1 W.heap.size (.slice Av n cv) ((xs.take 0).map (dn by_) ++ xs.drop 0)) := Lib.hid (by simpa using hR)
  have B1 := Lib.hid hB
  clear hR hB
  go_wp2_with fail
  go_loopw [17] (fun i wr => ∃ k : Nat, k ≤ n ∧ i = .int .i64 k ∧ Hid (RI wr W.heap.size (.slice Av n cv) ((xs.take k).map (dn by_) ++ xs.drop k)) ∧ Hid (Below W.heap.size W wr) ∧ Hid (∀ j, j < k → (upS by_ (dn by_ (rd xs (j : Int))) == rd xs (j : Int)) = true)) (fun i _ => n - (intOf i).toNat)
  case atStart => exact ⟨0, by omega, rfl, R1, B1, Lib.hid (fun j hj => by omega)⟩
  case round =>
   obtain ⟨k, hk, rfl, hR, hB, hok⟩ := hrel
   by_cases hlt : k < n
   ·have hlx : k < xs.length := by omega
    obtain ⟨g, cap, hv, hg, -⟩ := Kd.R_form hR.out (by simp; omega)
    obtain ⟨rfl, -, rfl⟩ : Av = some ⟨g, 0, none⟩ ∧ n = ((xs.take k).map (dn by_) ++ xs.drop k).length ∧ cv = cap := by simpa using hv
    clear hv
    obtain ⟨hc, hf⟩ := Kd.R_celln (d := (0 : Int)) (h1 := fun _ => rfl) hR.out (k : Int) (by omega) (by omega)
    have hrd : rdOf (0 : Int) ((xs.take k).map (dn by_) ++ xs.drop k) (k : Int) = rd xs (k : Int) := mix_at (dn by_) xs hlx
    rw [hrd, Int.toNat_natCast] at hc
    rw [Int.toNat_natCast] at hf
    have R2 : Hid (RI (wr.setCell ⟨g, k, none⟩ (.int .i64 (dn by_ (rd xs (k : Int))))) W.heap.size (.slice (some ⟨g, 0, none⟩) n cv) ((xs.take (k + 1)).map (dn by_) ++ xs.drop (k + 1))) := Lib.hid (by
     have := Kd.R_putn (h1 := fun _ => rfl) hR.out (k : Int) (dn by_ (rd xs (k : Int)))
     rw [Int.toNat_natCast, mix_set (dn by_) xs hlx] at this
     exact this)
    have B2 : Hid (Below W.heap.size W (wr.setCell ⟨g, k, none⟩ (.int .i64 (dn by_ (rd xs (k : Int)))))) := Lib.hid (below_set hB.out hg)
    obtain ⟨x, hx⟩ : ∃ x, x = rd xs (k : Int) := ⟨_, rfl⟩
    rw [← hx] at hc R2 B2
    have HX := Lib.hid hx
    clear hrd hx
    cases hq : (upS by_ (dn by_ x) == x)
    ·have ht : (wrap64 (x / 2 ^ by_.toNat * 2 ^ by_.toNat) != x) = true := by
      rw [bne, show wrap64 (x / 2 ^ by_.toNat * 2 ^ by_.toNat) = upS by_ (dn by_ x) from rfl, hq]; rfl
     have E : Hid (downF xs by_ = ([], 1800)) := Lib.hid (by unfold downF; rw [down_no hlx (by rw [← HX.out]; exact hq), Bool.and_false]; rfl)
     clear hq
     go_wp2_with fail
     go_ret2
     exact ⟨.slice none 0 0, by rw [E.out]; rfl, by rw [E.out]; exact Kd.R_nil _ _ _ _ _, B2.out⟩
    ·have ht : (wrap64 (x / 2 ^ by_.toNat * 2 ^ by_.toNat) != x) = false := by
      rw [bne, show wrap64 (x / 2 ^ by_.toNat * 2 ^ by_.toNat) = upS by_ (dn by_ x) from rfl, hq]; rfl
     have HQ := Lib.hid hq
     clear hq
     go_wp2_with fail
     go_roundw
     case rel => exact ⟨k + 1, by omega, by go_num, R2, B2, Lib.hid (fun j hj => by
      by_cases hjk : j = k
      ·subst hjk; rw [← HX.out]; exact HQ.out
      ·exact hok.out j (by omega))⟩
     case measure => simp [intOf]; omega
   ·subst hn
    have hkn : k = xs.length := by omega
    have E : Hid (downF xs by_ = (xs.map (dn by_), 0)) := Lib.hid (by unfold downF; rw [HM.out, down_yes (fun j hj => hok.out j (by omega))]; rfl)
    have R2 : Hid (RI wr W.heap.size (.slice Av xs.length cv) (xs.map (dn by_))) := Lib.hid (by
     have := hR.out
     rw [List.take_of_length_le (by omega), List.drop_eq_nil_of_le (by omega), List.append_nil] at this
     exact this)
    have HK := Lib.hid hkn
    clear hkn
    go_wp2_with fail
    go_ret2
    exact ⟨.slice Av xs.length cv, by rw [E.out]; rfl, by rw [E.out]; exact R2.out, hB.out⟩
end Go.Proofs.YtnoibcdojfnicaaGreatDoor.PSh
namespace Go.Proofs.YtnoibcdojfnicaaGreatDoor.PS
open Go.Proofs.YtnoibcdojfnicaaGreatDoorW.Short
open Bool renaming true → Y, false → J
open Go.RowKit Go.Proofs.YtnoibcdojfnicaaGreatDoorW.PrintWords Go.Proofs.YtnoibcdojfnicaaGreatDoorW.PrintLast Go.Proofs.YtnoibcdojfnicaaGreatDoorW.PrintMore
attribute [local go_sem] max2_int min2_int max_two min_two max_three min_three max_four min_four
def errW : Option Int → Value
  | none => .nilIface
  | some c => .iface 0 (.int .i64 c)
theorem errW_none : errW none = .nilIface := rfl
theorem errW_some (c : Int) : errW (some c) = .iface 0 (.int .i64 c) := rfl
theorem info3 : (Tryz.prog.info? 3).map (fun i => (i.zero, i.size, i.bytes)) = some (some (.int .i64 0), 1, 8) := by kernel_rfl
theorem info5 : (Tryz.prog.info? 5).map (fun i => (i.zero, i.size, i.bytes)) = some (some (.int .u8 0), 1, 1) := by kernel_rfl
theorem info22 : (Tryz.prog.info? 22).map (fun i => (i.zero, i.size, i.bytes)) = some (some (.slice none 0 0), 1, 24) := by kernel_rfl
theorem info151 : (Tryz.prog.info? 151).map (fun i => (i.zero, i.size, i.bytes)) = some (some (.agg #[(.string ⟨#[]⟩), (.int .i64 0), (.int .i64 0)]), 3, 32) := by kernel_rfl
def rd_L1 (xs : List (List Int)) (i : Int) : (List Int) := xs.getD i.toNat ([] : List Int)
theorem at_L1 {w : World} {A : Option Addr} {n : Nat} {xs : List (List Int)} (h : Kd.C (Kd.slice 3 (Kd.int .i64)) w A n xs) (i : Int) (h0 : 0 ≤ i) (h1 : i < n) : ∃ ad A0 c0, A = some ad ∧ w.cell? (ad.add i.toNat) = some (.slice A0 (rd_L1 xs i).length c0) ∧ (rd_L1 xs i).length ≤ c0 ∧ (Kd.int .i64).C w A0 (rd_L1 xs i).length (rd_L1 xs i) := by
  obtain ⟨ad, c, e, _, hK, hc0⟩ := Kd.C_get h ([] : List Int) i h0 h1
  have hc : ∀ j u, c[j]? = some u → w.cell? (ad.add (i.toNat * 1 + j)) = some u := hc0
  obtain ⟨A0, c0, rfl, l0, g0⟩ := hK
  exact ⟨ad, A0, c0, e, b68_, l0, g0⟩
structure S151 where
  f0 : ByteArray
  f1 : Int
  f2 : Int
def z151 : S151 := ⟨(⟨#[]⟩ : ByteArray), (0 : Int), (0 : Int)⟩
def k151 : Kd S151 := Kd.iso (Kd.pair Kd.string (Kd.pair (Kd.int .i64) (Kd.int .i64))) (fun x : S151 => (x.f0, x.f1, x.f2))
theorem k151_open {w : World} {x : S151} {cs : List Value} (h : k151.K w x cs) : cs = [.string x.f0, .int .i64 x.f1, .int .i64 x.f2] := by
  obtain ⟨_, _, rfl, rfl, ⟨_, _, rfl, rfl, rfl⟩⟩ := h
  exact rfl
theorem k151_mkM (w : World) (base : Nat) (ok : Nat → Prop) (x : S151)  : k151.M w base ok x [.string x.f0, .int .i64 x.f1, .int .i64 x.f2] := ⟨[.string x.f0], [.int .i64 x.f1, .int .i64 x.f2], rfl, rfl, ⟨[.int .i64 x.f1], [.int .i64 x.f2], rfl, rfl, rfl⟩⟩
def rd_T151 (xs : List S151) (i : Int) : S151 := xs.getD i.toNat z151
theorem at_T151 {w : World} {A : Option Addr} {n : Nat} {xs : List S151} (h : Kd.C k151 w A n xs) (i : Int) (h0 : 0 ≤ i) (h1 : i < n) : ∃ ad , A = some ad ∧ w.cell? (ad.add (i.toNat * 3)) = some (.string (rd_T151 xs i).f0) ∧ w.cell? ⟨(ad.add (i.toNat * 3)).block, (ad.add (i.toNat * 3)).off + 1, none⟩ = some (.int .i64 (rd_T151 xs i).f1) ∧ w.cell? ⟨(ad.add (i.toNat * 3)).block, (ad.add (i.toNat * 3)).off + 2, none⟩ = some (.int .i64 (rd_T151 xs i).f2) := by
  obtain ⟨ad, c, e, _, hK, hc0⟩ := Kd.C_get h z151 i h0 h1
  have hc : ∀ j u, c[j]? = some u → w.cell? (ad.add (i.toNat * 3 + j)) = some u := hc0
  obtain rfl := k151_open hK
  exact ⟨ad, e, hc 0 _ rfl, b71_, b72_⟩
end Go.Proofs.YtnoibcdojfnicaaGreatDoor.PS
