/- A part of the proof of a law of descanttop: this session's own texts and printed texts, shortened and joined. -/
import Derived.Test.YtnoibcdojfnicaaGreatDoorE28
import Derived.Test.YtnoibcdojfnicaaGreatDoorE29
set_option linter.unusedVariables false
set_option linter.unusedSimpArgs false
set_option maxRecDepth 100000
set_option maxHeartbeats 16000000
namespace Go.Proofs.YtnoibcdojfnicaaGreatDoor.PG
open Go.Proofs.YtnoibcdojfnicaaGreatDoorW.Short
open Bool renaming true → Y, false → J
open Go Go.RowKit Go.Proofs.YtnoibcdojfnicaaGreatDoorW.PrintWords Go.Proofs.YtnoibcdojfnicaaGreatDoorW.PrintMore Go.Proofs.YtnoibcdojfnicaaGreatDoorW.PrintLast
open Go.Proofs.YtnoibcdojfnicaaGreatDoor.Modn
def rM2T : Bool × List (List Nat × List Nat) := (true, [([], []), ([0], [0]), ([1, 1], [1]), ([2], [2]), ([3, 2], [2, 3]), ([4, 2], [2, 4]), ([5, 2], [2, 5]), ([6, 2], [2, 6]), ([2], [2]), ([8, 2], [2, 8]), ([9, 2], [2, 9]), ([10, 2], [2, 10]), ([2], [2]), ([12, 2], [2, 12]), ([13, 2], [2, 13]), ([14, 2], [2, 14]), ([11, 15, 2, 2], [2, 11, 15]), ([7, 16, 2], [2, 7, 16]), ([2, 17], [2, 17]), ([18, 16], [18]), ([19], [19]), ([20, 19], [19, 20]), ([21, 19], [19, 21]), ([22, 19], [19, 22]), ([19], [19]), ([23, 24, 19, 19], [19, 23, 24]), ([25, 19], [19, 25]), ([19, 26], [19, 26]), ([27, 25, 0, 1, 2, 3, 4, 5, 6, 7, 8, 9, 10, 11, 12, 13, 14, 15, 16, 17, 18, 19, 20, 21, 22, 23, 24, 25, 26, 27], [27])])
def rM2B : List Nat := [0, 1, 3, 7, 15, 31, 63, 127, 7, 263, 775, 1799, 7, 4103, 12295, 28679, 65287, 131071, 262143, 524287, 1048575, 2097151, 4194303, 8388607, 1048575, 33554431, 67108863, 134217727, 268435455]
theorem rM2_tab : rtab .any (opsOf Tryz.f132 2) = rM2T := by kernel_rfl
theorem rM2_bits : waitsOk rM2T.2 rM2B = true := by kernel_rfl
structure St where
 c : Int
 b : Int
 size : Int
 frames : Int
 head : ByteArray
 tail : ByteArray
 segs : List ByteArray
def stC (x : St) (A : Option Addr) (n : Nat) : Array Value := #[.int .i64 x.c, .int .i64 x.b, .int .i64 x.size, .int .i64 x.frames, .string x.head, .string x.tail, .slice A x.segs.length n]
theorem st_cells {w : World} {g : Nat} {x : St} {A : Option Addr} {n : Nat} {T : TypeId} {fr : Nat × Nat} (h : w.heap[g]? = some (.cells (stC x A n) T fr)) : w.cell? ⟨g, 0, none⟩ = some (.int .i64 x.c) ∧ w.cell? ⟨g, 1, none⟩ = some (.int .i64 x.b) ∧ w.cell? ⟨g, 2, none⟩ = some (.int .i64 x.size) ∧ w.cell? ⟨g, 3, none⟩ = some (.int .i64 x.frames) ∧ w.cell? ⟨g, 4, none⟩ = some (.string x.head) ∧ w.cell? ⟨g, 5, none⟩ = some (.string x.tail) ∧ w.cell? ⟨g, 6, none⟩ = some (.slice A x.segs.length n) :=
 ⟨(cell_of_row w g 0 _ T fr h).trans rfl, (cell_of_row w g 1 _ T fr h).trans rfl, (cell_of_row w g 2 _ T fr h).trans rfl, (cell_of_row w g 3 _ T fr h).trans rfl, (cell_of_row w g 4 _ T fr h).trans rfl, (cell_of_row w g 5 _ T fr h).trans rfl, (cell_of_row w g 6 _ T fr h).trans rfl⟩
theorem cb_ {w w' : World} {p : Addr} {v : Value} (h : w.cell? p = some v) (hb : Below w.heap.size w w') : w'.cell? p = some v := (hb.cell (p := p) (World.block_lt_of_cell? w _ h)).trans h
def fmB (c b : Int) : Bool := (pcm_May.f c b).getD false
theorem fmB_f (c b : Int) : pcm_May.f c b = some (fmB c b) := by
 have h : ∃ r, pcm_May.f c b = some r := by unfold pcm_May.f; (repeat' split) <;> exact ⟨_, rfl⟩
 obtain ⟨r, hr⟩ := h
 unfold fmB; rw [hr]; rfl
def headB (x : St) : Bool := fmB x.c x.b && decide (x.size ≥ 1) && decide (x.size ≤ 64) && decide (x.frames ≥ 0) && decide (x.frames ≤ 4096) && decide ((x.head.size : Int) ≤ 4096) && decide ((x.tail.size : Int) ≤ 4096)
theorem head_true {x : St} (h : headB x = true) : 1 ≤ x.size ∧ x.size ≤ 64 ∧ 0 ≤ x.frames ∧ x.frames ≤ 4096 ∧ (x.head.size : Int) ≤ 4096 ∧ (x.tail.size : Int) ≤ 4096 := by
 unfold headB at h
 simp only [Bool.and_eq_true, decide_eq_true_eq] at h
 omega
theorem head_c (g : Nat) (x : St) (A : Option Addr) (n : Nat) (W : World) (hg : W.heap[g]? = some (.cells (stC x A n) 86 (0, 0))) : Calls Tryz.prog 95 #[.pointer (some ⟨g, 0, none⟩)] W fun e w' => e = .returned (.bool (headB x)) ∧ Below W.heap.size W w' := by
 have hu69 := Tryz.underlying69
 have MC := Lib.hid (fun w => pcm_May.calls x.c x.b (fmB x.c x.b) w (fmB_f x.c x.b))
 obtain ⟨R, hR⟩ : ∃ R, R = headB x := ⟨_, rfl⟩
 rw [← hR]
 have HR := Lib.hid hR
 clear hR
 obtain ⟨k0, k1, k2, k3, k4, k5, k6⟩ := st_cells hg
 clear hg
 cases hf : fmB x.c x.b
 ·have HT := Lib.hid (show R = false by rw [HR.out]; unfold headB; rw [hf]; rfl)
  rw [hf] at MC
  go_enter Tryz.func95, Tryz.ntmps95
  go_wp2_with fail
  refine (MC.out _).mono ?_
  rintro e w3 ⟨rfl, hb⟩
  have H3 := Lib.hid hb
  obtain ⟨j0, j1, j2, j3, j4, j5, j6⟩ : w3.cell? ⟨g, 0, none⟩ = some (.int .i64 x.c) ∧ w3.cell? ⟨g, 1, none⟩ = some (.int .i64 x.b) ∧ w3.cell? ⟨g, 2, none⟩ = some (.int .i64 x.size) ∧ w3.cell? ⟨g, 3, none⟩ = some (.int .i64 x.frames) ∧ w3.cell? ⟨g, 4, none⟩ = some (.string x.head) ∧ w3.cell? ⟨g, 5, none⟩ = some (.string x.tail) ∧ w3.cell? ⟨g, 6, none⟩ = some (.slice A x.segs.length n) := ⟨cb_ k0 hb, cb_ k1 hb, cb_ k2 hb, cb_ k3 hb, cb_ k4 hb, cb_ k5 hb, cb_ k6 hb⟩
  clear hb k0 k1 k2 k3 k4 k5 k6
  go_wp2_with fail
  go_ret
  exact ⟨by rw [HT.out]; rfl, H3.out⟩
 ·rw [hf] at MC
  by_cases c0 : x.size ≥ 1
  ·have e0 : decide (x.size ≥ 1) = true := decide_eq_true c0
   by_cases c1 : x.size ≤ 64
   ·have e1 : decide (x.size ≤ 64) = true := decide_eq_true c1
    by_cases c2 : x.frames ≥ 0
    ·have e2 : decide (x.frames ≥ 0) = true := decide_eq_true c2
     by_cases c3 : x.frames ≤ 4096
     ·have e3 : decide (x.frames ≤ 4096) = true := decide_eq_true c3
      by_cases c4 : (x.head.size : Int) ≤ 4096
      ·have e4 : decide ((x.head.size : Int) ≤ 4096) = true := decide_eq_true c4
       by_cases c5 : (x.tail.size : Int) ≤ 4096
       ·have e5 : decide ((x.tail.size : Int) ≤ 4096) = true := decide_eq_true c5
        have HT := Lib.hid (show R = true by rw [HR.out]; unfold headB; rw [hf, decide_eq_true c0, decide_eq_true c1, decide_eq_true c2, decide_eq_true c3, decide_eq_true c4, decide_eq_true c5]; rfl)
        go_enter Tryz.func95, Tryz.ntmps95
        go_wp2_with fail
        refine (MC.out _).mono ?_
        rintro e w3 ⟨rfl, hb⟩
        have H3 := Lib.hid hb
        obtain ⟨j0, j1, j2, j3, j4, j5, j6⟩ : w3.cell? ⟨g, 0, none⟩ = some (.int .i64 x.c) ∧ w3.cell? ⟨g, 1, none⟩ = some (.int .i64 x.b) ∧ w3.cell? ⟨g, 2, none⟩ = some (.int .i64 x.size) ∧ w3.cell? ⟨g, 3, none⟩ = some (.int .i64 x.frames) ∧ w3.cell? ⟨g, 4, none⟩ = some (.string x.head) ∧ w3.cell? ⟨g, 5, none⟩ = some (.string x.tail) ∧ w3.cell? ⟨g, 6, none⟩ = some (.slice A x.segs.length n) := ⟨cb_ k0 hb, cb_ k1 hb, cb_ k2 hb, cb_ k3 hb, cb_ k4 hb, cb_ k5 hb, cb_ k6 hb⟩
        clear hb k0 k1 k2 k3 k4 k5 k6
        go_wp2_with fail
        go_ret
        exact ⟨by rw [HT.out]; rfl, H3.out⟩
       ·have e5 : decide ((x.tail.size : Int) ≤ 4096) = false := decide_eq_false c5
        have HT := Lib.hid (show R = false by rw [HR.out]; unfold headB; rw [hf, decide_eq_true c0, decide_eq_true c1, decide_eq_true c2, decide_eq_true c3, decide_eq_true c4, decide_eq_false c5]; rfl)
        go_enter Tryz.func95, Tryz.ntmps95
        go_wp2_with fail
        refine (MC.out _).mono ?_
        rintro e w3 ⟨rfl, hb⟩
        have H3 := Lib.hid hb
        obtain ⟨j0, j1, j2, j3, j4, j5, j6⟩ : w3.cell? ⟨g, 0, none⟩ = some (.int .i64 x.c) ∧ w3.cell? ⟨g, 1, none⟩ = some (.int .i64 x.b) ∧ w3.cell? ⟨g, 2, none⟩ = some (.int .i64 x.size) ∧ w3.cell? ⟨g, 3, none⟩ = some (.int .i64 x.frames) ∧ w3.cell? ⟨g, 4, none⟩ = some (.string x.head) ∧ w3.cell? ⟨g, 5, none⟩ = some (.string x.tail) ∧ w3.cell? ⟨g, 6, none⟩ = some (.slice A x.segs.length n) := ⟨cb_ k0 hb, cb_ k1 hb, cb_ k2 hb, cb_ k3 hb, cb_ k4 hb, cb_ k5 hb, cb_ k6 hb⟩
        clear hb k0 k1 k2 k3 k4 k5 k6
        go_wp2_with fail
        go_ret
        exact ⟨by rw [HT.out]; rfl, H3.out⟩
      ·have e4 : decide ((x.head.size : Int) ≤ 4096) = false := decide_eq_false c4
       have HT := Lib.hid (show R = false by rw [HR.out]; unfold headB; rw [hf, decide_eq_true c0, decide_eq_true c1, decide_eq_true c2, decide_eq_true c3, decide_eq_false c4]; rfl)
       go_enter Tryz.func95, Tryz.ntmps95
       go_wp2_with fail
       refine (MC.out _).mono ?_
       rintro e w3 ⟨rfl, hb⟩
       have H3 := Lib.hid hb
       obtain ⟨j0, j1, j2, j3, j4, j5, j6⟩ : w3.cell? ⟨g, 0, none⟩ = some (.int .i64 x.c) ∧ w3.cell? ⟨g, 1, none⟩ = some (.int .i64 x.b) ∧ w3.cell? ⟨g, 2, none⟩ = some (.int .i64 x.size) ∧ w3.cell? ⟨g, 3, none⟩ = some (.int .i64 x.frames) ∧ w3.cell? ⟨g, 4, none⟩ = some (.string x.head) ∧ w3.cell? ⟨g, 5, none⟩ = some (.string x.tail) ∧ w3.cell? ⟨g, 6, none⟩ = some (.slice A x.segs.length n) := ⟨cb_ k0 hb, cb_ k1 hb, cb_ k2 hb, cb_ k3 hb, cb_ k4 hb, cb_ k5 hb, cb_ k6 hb⟩
       clear hb k0 k1 k2 k3 k4 k5 k6
       go_wp2_with fail
       go_ret
       exact ⟨by rw [HT.out]; rfl, H3.out⟩
     ·have e3 : decide (x.frames ≤ 4096) = false := decide_eq_false c3
      have HT := Lib.hid (show R = false by rw [HR.out]; unfold headB; rw [hf, decide_eq_true c0, decide_eq_true c1, decide_eq_true c2, decide_eq_false c3]; rfl)
      go_enter Tryz.func95, Tryz.ntmps95
      go_wp2_with fail
      refine (MC.out _).mono ?_
      rintro e w3 ⟨rfl, hb⟩
      have H3 := Lib.hid hb
      obtain ⟨j0, j1, j2, j3, j4, j5, j6⟩ : w3.cell? ⟨g, 0, none⟩ = some (.int .i64 x.c) ∧ w3.cell? ⟨g, 1, none⟩ = some (.int .i64 x.b) ∧ w3.cell? ⟨g, 2, none⟩ = some (.int .i64 x.size) ∧ w3.cell? ⟨g, 3, none⟩ = some (.int .i64 x.frames) ∧ w3.cell? ⟨g, 4, none⟩ = some (.string x.head) ∧ w3.cell? ⟨g, 5, none⟩ = some (.string x.tail) ∧ w3.cell? ⟨g, 6, none⟩ = some (.slice A x.segs.length n) := ⟨cb_ k0 hb, cb_ k1 hb, cb_ k2 hb, cb_ k3 hb, cb_ k4 hb, cb_ k5 hb, cb_ k6 hb⟩
      clear hb k0 k1 k2 k3 k4 k5 k6
      go_wp2_with fail
      go_ret
      exact ⟨by rw [HT.out]; rfl, H3.out⟩
    ·have e2 : decide (x.frames ≥ 0) = false := decide_eq_false c2
     have HT := Lib.hid (show R = false by rw [HR.out]; unfold headB; rw [hf, decide_eq_true c0, decide_eq_true c1, decide_eq_false c2]; rfl)
     go_enter Tryz.func95, Tryz.ntmps95
     go_wp2_with fail
     refine (MC.out _).mono ?_
     rintro e w3 ⟨rfl, hb⟩
     have H3 := Lib.hid hb
     obtain ⟨j0, j1, j2, j3, j4, j5, j6⟩ : w3.cell? ⟨g, 0, none⟩ = some (.int .i64 x.c) ∧ w3.cell? ⟨g, 1, none⟩ = some (.int .i64 x.b) ∧ w3.cell? ⟨g, 2, none⟩ = some (.int .i64 x.size) ∧ w3.cell? ⟨g, 3, none⟩ = some (.int .i64 x.frames) ∧ w3.cell? ⟨g, 4, none⟩ = some (.string x.head) ∧ w3.cell? ⟨g, 5, none⟩ = some (.string x.tail) ∧ w3.cell? ⟨g, 6, none⟩ = some (.slice A x.segs.length n) := ⟨cb_ k0 hb, cb_ k1 hb, cb_ k2 hb, cb_ k3 hb, cb_ k4 hb, cb_ k5 hb, cb_ k6 hb⟩
     clear hb k0 k1 k2 k3 k4 k5 k6
     go_wp2_with fail
     go_ret
     exact ⟨by rw [HT.out]; rfl, H3.out⟩
   ·have e1 : decide (x.size ≤ 64) = false := decide_eq_false c1
    have HT := Lib.hid (show R = false by rw [HR.out]; unfold headB; rw [hf, decide_eq_true c0, decide_eq_false c1]; rfl)
    go_enter Tryz.func95, Tryz.ntmps95
    go_wp2_with fail
    refine (MC.out _).mono ?_
    rintro e w3 ⟨rfl, hb⟩
    have H3 := Lib.hid hb
    obtain ⟨j0, j1, j2, j3, j4, j5, j6⟩ : w3.cell? ⟨g, 0, none⟩ = some (.int .i64 x.c) ∧ w3.cell? ⟨g, 1, none⟩ = some (.int .i64 x.b) ∧ w3.cell? ⟨g, 2, none⟩ = some (.int .i64 x.size) ∧ w3.cell? ⟨g, 3, none⟩ = some (.int .i64 x.frames) ∧ w3.cell? ⟨g, 4, none⟩ = some (.string x.head) ∧ w3.cell? ⟨g, 5, none⟩ = some (.string x.tail) ∧ w3.cell? ⟨g, 6, none⟩ = some (.slice A x.segs.length n) := ⟨cb_ k0 hb, cb_ k1 hb, cb_ k2 hb, cb_ k3 hb, cb_ k4 hb, cb_ k5 hb, cb_ k6 hb⟩
    clear hb k0 k1 k2 k3 k4 k5 k6
    go_wp2_with fail
    go_ret
    exact ⟨by rw [HT.out]; rfl, H3.out⟩
  ·have e0 : decide (x.size ≥ 1) = false := decide_eq_false c0
   have HT := Lib.hid (show R = false by rw [HR.out]; unfold headB; rw [hf, decide_eq_false c0]; rfl)
   go_enter Tryz.func95, Tryz.ntmps95
   go_wp2_with fail
   refine (MC.out _).mono ?_
   rintro e w3 ⟨rfl, hb⟩
   have H3 := Lib.hid hb
   obtain ⟨j0, j1, j2, j3, j4, j5, j6⟩ : w3.cell? ⟨g, 0, none⟩ = some (.int .i64 x.c) ∧ w3.cell? ⟨g, 1, none⟩ = some (.int .i64 x.b) ∧ w3.cell? ⟨g, 2, none⟩ = some (.int .i64 x.size) ∧ w3.cell? ⟨g, 3, none⟩ = some (.int .i64 x.frames) ∧ w3.cell? ⟨g, 4, none⟩ = some (.string x.head) ∧ w3.cell? ⟨g, 5, none⟩ = some (.string x.tail) ∧ w3.cell? ⟨g, 6, none⟩ = some (.slice A x.segs.length n) := ⟨cb_ k0 hb, cb_ k1 hb, cb_ k2 hb, cb_ k3 hb, cb_ k4 hb, cb_ k5 hb, cb_ k6 hb⟩
   clear hb k0 k1 k2 k3 k4 k5 k6
   go_wp2_with fail
   go_ret
   exact ⟨by rw [HT.out]; rfl, H3.out⟩
theorem size_c (n : Int) (w : World) : Calls Tryz.prog 97 #[.int .i64 n] w fun e w' => e = .returned (.bool (decide (9 ≤ n) && decide (n ≤ 65535))) ∧ w' = w := by
 by_cases h1 : 9 ≤ n
 ·have c1 : decide (n ≥ 9) = true := decide_eq_true h1
  go_enter Tryz.func97, Tryz.ntmps97
  go_wp2_with fail
  go_ret
  exact ⟨by simp [h1], rfl⟩
 ·have c1 : decide (n ≥ 9) = false := decide_eq_false h1
  go_enter Tryz.func97, Tryz.ntmps97
  go_wp2_with fail
  go_ret
  exact ⟨by simp [h1], rfl⟩
def szB (s : ByteArray) : Bool := decide (9 ≤ (s.size : Int)) && decide ((s.size : Int) ≤ 65535)
def szAll (xs : List ByteArray) : Bool := xs.all szB
theorem oddS_c (s : ByteArray) (w : World) : Calls Tryz.prog 157 #[.string s] w fun e w' => e = .returned (.bool (!szB s)) ∧ w' = w := by
 have SC := Lib.hid (fun w => size_c (s.size : Int) w)
 obtain ⟨R, hR⟩ : ∃ R, R = szB s := ⟨_, rfl⟩
 rw [← hR]
 rw [show (decide (9 ≤ (s.size : Int)) && decide ((s.size : Int) ≤ 65535)) = R from hR.symm] at SC
 clear hR
 go_enter Tryz.func157, Tryz.ntmps157
 go_wp2_with fail
 refine (SC.out _).mono ?_
 rintro e w' ⟨rfl, hw⟩
 have hw := hw.symm
 subst hw
 go_wp2_with fail
 go_ret
 exact ⟨rfl, rfl⟩
theorem elemS_c {w : World} {A : Option Addr} {xs : List ByteArray} (h : Kd.string.C w A xs.length xs) {k : Nat} (hk : k < xs.length) : ∃ ad, A = some ad ∧ w.cell? (ad.add k) = some (.string (xs.getD k ByteArray.empty)) := by
 obtain ⟨ad, e, hx⟩ := Kd.at_string h (k : Int) (by omega) (by omega)
 rw [Int.toNat_natCast] at hx
 refine ⟨ad, e, ?_⟩
 rw [hx]
 simp [rdOf]
theorem szAll_no {xs : List ByteArray} {k : Nat} (hk : k < xs.length) (h : szB (xs.getD k ByteArray.empty) = false) : szAll xs = false := by
 unfold szAll
 rw [List.all_eq_false]
 exact ⟨xs[k], List.getElem_mem hk, b62_⟩
theorem szAll_yes {xs : List ByteArray} (h : ∀ j, j < xs.length → szB (xs.getD j ByteArray.empty) = true) : szAll xs = true := by
 unfold szAll
 rw [List.all_eq_true]
 intro x hx
 obtain ⟨j, hj, rfl⟩ := List.getElem_of_mem hx
 have := h j hj
 rw [List.getD_eq_getElem?_getD, List.getElem?_eq_getElem hj] at this
 exact this
theorem indexS_c (A : Option Addr) (c0 : Nat) (xs : List ByteArray) (W : World) (hb : xs.length ≤ 17592186044416) (hr : Kd.string.C W A xs.length xs) : Calls Tryz.prog 169 #[.slice A xs.length c0, .func (Fn.func 157) #[] #[]] W fun e w' => ∃ i : Int, e = .returned (.int .i64 i) ∧ w' = W ∧ decide (i ≥ 0) = !szAll xs := by
 have Hr := Lib.hid hr
 clear hr
 go_enter Tryz.func169, Tryz.ntmps169
 go_wp2_with fail
 go_loop [8] (fun i => ∃ k : Nat, k ≤ xs.length ∧ i = .int .i64 k ∧ ∀ j, j < k → szB (xs.getD j ByteArray.empty) = true) (fun i => xs.length - (intOf i).toNat)
 case atStart => exact ⟨0, by omega, rfl, fun j hj => by omega⟩
 case round =>
  obtain ⟨k, hk, rfl, hok⟩ := hrel
  have Hok := Lib.hid hok; clear hok
  by_cases hlt : k < xs.length
  ·obtain ⟨ad, rfl, hx⟩ := elemS_c Hr.out hlt
   obtain ⟨x, hxe⟩ : ∃ x, x = xs.getD k ByteArray.empty := ⟨_, rfl⟩
   rw [← hxe] at hx
   have Hx := Lib.hid hxe
   clear hxe
   cases hin : szB x
   ·have hno := Lib.hid (szAll_no hlt b80_)
    go_wp2_with (go_at_call 157; refine (oddS_c _ _).mono ?_; rintro e w' ⟨rfl, rfl⟩; rw [hin])
    go_ret
    exact ⟨(k : Int), rfl, rfl, b77_⟩
   ·go_wp2_with (go_at_call 157; refine (oddS_c _ _).mono ?_; rintro e w' ⟨rfl, rfl⟩; rw [hin])
    go_round
    case rel =>
     refine ⟨k + 1, by omega, by go_num, fun j hj => ?_⟩
     by_cases hjk : j = k
     ·rw [hjk, ← Hx.out]; exact hin
     ·exact Hok.out j (by omega)
    case measure => simp [intOf]; omega
  ·have hyes := Lib.hid (szAll_yes (fun j hj => Hok.out j (by omega)))
   go_wp2_with fail
   go_ret
   exact ⟨-1, rfl, rfl, by rw [hyes.out]; rfl⟩
theorem containsS_c (A : Option Addr) (c0 : Nat) (xs : List ByteArray) (W : World) (hb : xs.length ≤ 17592186044416) (hr : Kd.string.C W A xs.length xs) : Calls Tryz.prog 158 #[.slice A xs.length c0, .func (Fn.func 157) #[] #[]] W fun e w' => e = .returned (.bool (!szAll xs)) ∧ w' = W := by
 go_enter Tryz.func158, Tryz.ntmps158
 go_wp2_with fail
 refine (indexS_c A c0 xs W hb hr).mono ?_
 rintro e w' ⟨i, rfl, hw, hi⟩
 have hw := hw.symm
 subst hw
 go_wp2_with fail
 go_ret
 exact ⟨rfl, rfl⟩
def manyV (frames size : Int) : Int := wrap64 (Int.tdiv (wrap64 ((wrap64 (frames + size)) - 1)) size)
theorem manyV_f {frames size : Int} (h : 1 ≤ size) : stream_Many.f frames size = some (manyV frames size) := by unfold stream_Many.f; rw [if_neg (by omega)]; rfl
def mayB (x : St) : Bool := headB x && decide ((x.segs.length : Int) = manyV x.frames x.size) && szAll x.segs
theorem may_c (g : Nat) (x : St) (A : Option Addr) (n : Nat) (W : World) (hb : x.segs.length ≤ 17592186044416) (hg : W.heap[g]? = some (.cells (stC x A n) 86 (0, 0))) (hr : Kd.string.C W A x.segs.length x.segs) : Calls Tryz.prog 132 #[.pointer (some ⟨g, 0, none⟩)] W fun e w' => e = .returned (.bool (mayB x)) ∧ Below W.heap.size W w' := by
 have G1 := Lib.hid hg
 have HC := Lib.hid (head_c g x A n)
 have RC := Lib.hid hr
 clear hg hr
 obtain ⟨R, hR⟩ : ∃ R, R = mayB x := ⟨_, rfl⟩
 rw [← hR]
 unfold mayB at hR
 cases hh : headB x
 ·have HT := Lib.hid (show R = false by rw [hR, hh]; rfl)
  rw [hh] at HC
  clear hR
  go_enter Tryz.func132, Tryz.ntmps132
  go_wp2_with fail
  have G2 := Lib.hid (blk_drew G1.out)
  have H2 := Lib.hid (below_drew1 (Below.refl W.heap.size W))
  have R2 := Lib.hid (Kd.C_below RC.out (below_drew1 (Below.refl W.heap.size W)))
  refine start_ (n := 29) (S := fun w' => w'.heap[g]? = some (.cells (stC x A n) 86 (0, 0))) (ds := []) #[J,J,J,J,J,J,J,J,J,J,J,J,J,J,J,J,J,J,J,J,J,J,J,J,J,J,J,J,J] kr rfl rfl (blk_drew G1.out) (fun hHeld => ?_)
  refine with_tabW rM2_tab rM2_bits (fun HT_ HW_ => ?_)
  generalize W.drew = w2 at G2 H2 R2 hHeld ⊢
  refine pu_ 0 4 (z 29 1) HT_ ?_
  refine one_ (i := 1) (N := some 5) #[Y,Y,J,J,J,J,J,J,J,J,J,J,J,J,J,J,J,J,J,J,J,J,J,J,J,J,J,J,J] rfl rfl (one_of HT_.out kr) (by decide) (fun K hK => ?_)
  refine goes_ Tryz.func95 kr rfl #[.pointer (some ⟨g, 0, none⟩)] (by rfl) rfl rfl b66_ ?_
  refine (HC.out _ G2.out).mono ?_
  rintro e w3 ⟨rfl, hb1⟩
  refine ⟨_, rfl, ?_⟩
  have G3 := Lib.hid (blk_below G2.out hb1)
  have H3 := Lib.hid (below_step H2.out hb1)
  have R3 := Lib.hid (Kd.C_below R2.out hb1)
  clear hb1 G2 H2 R2
  refine hK.out _ _ (G3.out) (fun hHeld => ?_)
  clear hK K
  refine norm_ (a' := ?_) ?_ ?_
  rotate_left
  ·show Act.put _ (some 5) _ = _
   exact pT
  refine pu_ 2 6 (z 29 7) HT_ ?_
  refine ps_ 3 7 (z 29 15) HT_ ?_
  refine ps_ 4 8 (z 29 31) HT_ ?_
  refine ps_ 5 9 (z 29 63) HT_ ?_
  refine ps_ 6 10 (z 29 127) HT_ ?_
  refine ps_ 7 11 (z 29 255) HT_ ?_
  refine ps_ 8 12 (z 29 511) HT_ ?_
  refine ps_ 9 13 (z 29 1023) HT_ ?_
  refine ps_ 10 14 (z 29 2047) HT_ ?_
  refine ps_ 11 15 (z 29 4095) HT_ ?_
  refine ps_ 12 16 (z 29 8191) HT_ ?_
  refine ps_ 13 17 (z 29 16383) HT_ ?_
  refine ps_ 14 18 (z 29 32767) HT_ ?_
  refine ps_ 15 19 (z 29 65535) HT_ ?_
  refine ps_ 16 20 (z 29 131071) HT_ ?_
  refine ps_ 17 21 (z 29 262143) HT_ ?_
  refine pu_ 18 22 (z 29 524287) HT_ ?_
  refine pu_ 19 23 (z 29 1048575) HT_ ?_
  refine ps_ 20 24 (z 29 2097151) HT_ ?_
  refine ps_ 21 25 (z 29 4194303) HT_ ?_
  refine ps_ 22 26 (z 29 8388607) HT_ ?_
  refine ps_ 23 27 (z 29 16777215) HT_ ?_
  refine ps_ 24 28 (z 29 33554431) HT_ ?_
  refine ps_ 25 29 (z 29 67108863) HT_ ?_
  refine ps_ 26 30 (z 29 134217727) HT_ ?_
  refine pu_ 27 31 (z 29 268435455) HT_ ?_
  refine pu_ 28 2 (z 29 536870911) HT_ ?_
  refine done_ (done_of HT_.out kr) ?_
  clear hHeld
  go_wp2_with fail
  go_ret
  exact ⟨by rw [HT.out]; rfl, H3.out⟩
 ·rw [hh] at HC hR
  obtain ⟨h1, -, -, -⟩ := head_true hh
  have NC := Lib.hid (fun w => stream_Many.calls x.frames x.size (manyV x.frames x.size) w (manyV_f h1))
  obtain ⟨m, hm⟩ : ∃ m, m = manyV x.frames x.size := ⟨_, rfl⟩
  rw [← hm] at NC hR
  clear hm h1 hh
  by_cases hq : (x.segs.length : Int) = m
  ·have HT := Lib.hid (show R = szAll x.segs by rw [hR, decide_eq_true hq]; rfl)
   have c1 : ((x.segs.length : Int) == m) = true := beq_iff_eq.2 hq
   clear hR hq
   go_enter Tryz.func132, Tryz.ntmps132
   go_wp2_with fail
   have G2 := Lib.hid (blk_drew G1.out)
   have H2 := Lib.hid (below_drew1 (Below.refl W.heap.size W))
   have R2 := Lib.hid (Kd.C_below RC.out (below_drew1 (Below.refl W.heap.size W)))
   refine start_ (n := 29) (S := fun w' => w'.heap[g]? = some (.cells (stC x A n) 86 (0, 0))) (ds := []) #[J,J,J,J,J,J,J,J,J,J,J,J,J,J,J,J,J,J,J,J,J,J,J,J,J,J,J,J,J] kr rfl rfl (blk_drew G1.out) (fun hHeld => ?_)
   refine with_tabW rM2_tab rM2_bits (fun HT_ HW_ => ?_)
   generalize W.drew = w2 at G2 H2 R2 hHeld ⊢
   refine pu_ 0 4 (z 29 1) HT_ ?_
   refine one_ (i := 1) (N := some 5) #[Y,Y,J,J,J,J,J,J,J,J,J,J,J,J,J,J,J,J,J,J,J,J,J,J,J,J,J,J,J] rfl rfl (one_of HT_.out kr) (by decide) (fun K hK => ?_)
   refine goes_ Tryz.func95 kr rfl #[.pointer (some ⟨g, 0, none⟩)] (by rfl) rfl rfl b66_ ?_
   refine (HC.out _ G2.out).mono ?_
   rintro e w3 ⟨rfl, hb1⟩
   refine ⟨_, rfl, ?_⟩
   have G3 := Lib.hid (blk_below G2.out hb1)
   have H3 := Lib.hid (below_step H2.out hb1)
   have R3 := Lib.hid (Kd.C_below R2.out hb1)
   clear hb1 G2 H2 R2
   refine hK.out _ _ (G3.out) (fun hHeld => ?_)
   clear hK K
   refine norm_ (a' := ?_) ?_ ?_
   rotate_left
   ·show Act.put _ (some 5) _ = _
    exact pT
   refine pu_ 2 6 (z 29 7) HT_ ?_
   refine pu_ 3 7 (z 29 15) HT_ ?_
   refine pu_ 4 8 (z 29 31) HT_ ?_
   refine pu_ 5 9 (z 29 63) HT_ ?_
   refine ta_ 6 10 (z 29 127) HT_ HW_ hHeld rfl b59_ ?_
   refine pu_ 7 11 (z 29 255) HT_ ?_
   refine pu_ 8 12 (z 29 511) HT_ ?_
   refine pu_ 9 13 (z 29 1023) HT_ ?_
   refine pu_ 10 14 (z 29 2047) HT_ ?_
   refine ta_ 11 15 (z 29 4095) HT_ HW_ hHeld rfl b59_ ?_
   refine pu_ 12 16 (z 29 8191) HT_ ?_
   refine pu_ 13 17 (z 29 16383) HT_ ?_
   refine pu_ 14 18 (z 29 32767) HT_ ?_
   refine ta_ 15 19 (z 29 65535) HT_ HW_ hHeld rfl b59_ ?_
   refine one_ (i := 16) (N := some 20) #[Y,Y,Y,Y,Y,Y,Y,Y,Y,Y,Y,Y,Y,Y,Y,Y,Y,J,J,J,J,J,J,J,J,J,J,J,J] rfl rfl (one_of HT_.out kr) (by decide) (fun K hK => ?_)
   refine goes_ Tryz.func96 kr rfl #[.int .i64 x.frames, .int .i64 x.size] (by rfl) rfl rfl b66_ ?_
   refine (NC.out _).mono ?_
   rintro e w4 ⟨rfl, hb1⟩
   refine ⟨_, rfl, ?_⟩
   have G4 := Lib.hid (blk_below G3.out hb1.below)
   have H4 := Lib.hid (below_step H3.out hb1.below)
   have R4 := Lib.hid (Kd.C_below R3.out hb1.below)
   clear hb1 G3 H3 R3
   refine hK.out _ _ (G4.out) (fun hHeld => ?_)
   clear hK K
   refine norm_ (a' := ?_) ?_ ?_
   rotate_left
   ·show Act.put _ (some 20) _ = _
    exact pT
   refine pu_ 17 21 (z 29 262143) HT_ ?_
   refine pu_ 18 22 (z 29 524287) HT_ ?_
   refine pu_ 19 23 (z 29 1048575) HT_ ?_
   refine pu_ 20 24 (z 29 2097151) HT_ ?_
   refine pu_ 21 25 (z 29 4194303) HT_ ?_
   refine pu_ 22 26 (z 29 8388607) HT_ ?_
   refine ta_ 23 27 (z 29 16777215) HT_ HW_ hHeld rfl b59_ ?_
   refine pu_ 24 28 (z 29 33554431) HT_ ?_
   refine one_ (i := 25) (N := some 29) #[Y,Y,Y,Y,Y,Y,Y,Y,Y,Y,Y,Y,Y,Y,Y,Y,Y,Y,Y,Y,Y,Y,Y,Y,Y,Y,J,J,J] rfl rfl (one_of HT_.out kr) (by decide) (fun K hK => ?_)
   refine goes_ Tryz.func158 kr rfl #[.slice A x.segs.length n, .func (Fn.func 157) #[] #[]] (by rfl) rfl rfl b66_ ?_
   refine (containsS_c A n x.segs _ hb R4.out).mono ?_
   rintro e w5 ⟨rfl, hw⟩
   refine ⟨_, rfl, ?_⟩
   have hw := hw.symm
   subst hw
   refine hK.out _ _ (G4.out) (fun hHeld => ?_)
   clear hK K
   refine norm_ (a' := ?_) ?_ ?_
   rotate_left
   ·show Act.put _ (some 29) _ = _
    exact pT
   refine pu_ 26 30 (z 29 134217727) HT_ ?_
   refine pu_ 27 31 (z 29 268435455) HT_ ?_
   refine pu_ 28 2 (z 29 536870911) HT_ ?_
   refine done_ (done_of HT_.out kr) ?_
   clear hHeld
   go_wp2_with fail
   go_ret
   exact ⟨by rw [HT.out]; cases szAll x.segs <;> rfl, H4.out⟩
  ·have HT := Lib.hid (show R = false by rw [hR, decide_eq_false hq]; rfl)
   have c1 : ((x.segs.length : Int) == m) = false := beq_eq_false_iff_ne.2 hq
   clear hR hq
   go_enter Tryz.func132, Tryz.ntmps132
   go_wp2_with fail
   have G2 := Lib.hid (blk_drew G1.out)
   have H2 := Lib.hid (below_drew1 (Below.refl W.heap.size W))
   have R2 := Lib.hid (Kd.C_below RC.out (below_drew1 (Below.refl W.heap.size W)))
   refine start_ (n := 29) (S := fun w' => w'.heap[g]? = some (.cells (stC x A n) 86 (0, 0))) (ds := []) #[J,J,J,J,J,J,J,J,J,J,J,J,J,J,J,J,J,J,J,J,J,J,J,J,J,J,J,J,J] kr rfl rfl (blk_drew G1.out) (fun hHeld => ?_)
   refine with_tabW rM2_tab rM2_bits (fun HT_ HW_ => ?_)
   generalize W.drew = w2 at G2 H2 R2 hHeld ⊢
   refine pu_ 0 4 (z 29 1) HT_ ?_
   refine one_ (i := 1) (N := some 5) #[Y,Y,J,J,J,J,J,J,J,J,J,J,J,J,J,J,J,J,J,J,J,J,J,J,J,J,J,J,J] rfl rfl (one_of HT_.out kr) (by decide) (fun K hK => ?_)
   refine goes_ Tryz.func95 kr rfl #[.pointer (some ⟨g, 0, none⟩)] (by rfl) rfl rfl b66_ ?_
   refine (HC.out _ G2.out).mono ?_
   rintro e w3 ⟨rfl, hb1⟩
   refine ⟨_, rfl, ?_⟩
   have G3 := Lib.hid (blk_below G2.out hb1)
   have H3 := Lib.hid (below_step H2.out hb1)
   have R3 := Lib.hid (Kd.C_below R2.out hb1)
   clear hb1 G2 H2 R2
   refine hK.out _ _ (G3.out) (fun hHeld => ?_)
   clear hK K
   refine norm_ (a' := ?_) ?_ ?_
   rotate_left
   ·show Act.put _ (some 5) _ = _
    exact pT
   refine pu_ 2 6 (z 29 7) HT_ ?_
   refine pu_ 3 7 (z 29 15) HT_ ?_
   refine pu_ 4 8 (z 29 31) HT_ ?_
   refine pu_ 5 9 (z 29 63) HT_ ?_
   refine ta_ 6 10 (z 29 127) HT_ HW_ hHeld rfl b59_ ?_
   refine pu_ 7 11 (z 29 255) HT_ ?_
   refine pu_ 8 12 (z 29 511) HT_ ?_
   refine pu_ 9 13 (z 29 1023) HT_ ?_
   refine pu_ 10 14 (z 29 2047) HT_ ?_
   refine ta_ 11 15 (z 29 4095) HT_ HW_ hHeld rfl b59_ ?_
   refine pu_ 12 16 (z 29 8191) HT_ ?_
   refine pu_ 13 17 (z 29 16383) HT_ ?_
   refine pu_ 14 18 (z 29 32767) HT_ ?_
   refine ta_ 15 19 (z 29 65535) HT_ HW_ hHeld rfl b59_ ?_
   refine one_ (i := 16) (N := some 20) #[Y,Y,Y,Y,Y,Y,Y,Y,Y,Y,Y,Y,Y,Y,Y,Y,Y,J,J,J,J,J,J,J,J,J,J,J,J] rfl rfl (one_of HT_.out kr) (by decide) (fun K hK => ?_)
   refine goes_ Tryz.func96 kr rfl #[.int .i64 x.frames, .int .i64 x.size] (by rfl) rfl rfl b66_ ?_
   refine (NC.out _).mono ?_
   rintro e w4 ⟨rfl, hb1⟩
   refine ⟨_, rfl, ?_⟩
   have G4 := Lib.hid (blk_below G3.out hb1.below)
   have H4 := Lib.hid (below_step H3.out hb1.below)
   have R4 := Lib.hid (Kd.C_below R3.out hb1.below)
   clear hb1 G3 H3 R3
   refine hK.out _ _ (G4.out) (fun hHeld => ?_)
   clear hK K
   refine norm_ (a' := ?_) ?_ ?_
   rotate_left
   ·show Act.put _ (some 20) _ = _
    exact pT
   refine pu_ 17 21 (z 29 262143) HT_ ?_
   refine pu_ 18 22 (z 29 524287) HT_ ?_
   refine pu_ 19 23 (z 29 1048575) HT_ ?_
   refine ps_ 20 24 (z 29 2097151) HT_ ?_
   refine ps_ 21 25 (z 29 4194303) HT_ ?_
   refine ps_ 22 26 (z 29 8388607) HT_ ?_
   refine ps_ 23 27 (z 29 16777215) HT_ ?_
   refine ps_ 24 28 (z 29 33554431) HT_ ?_
   refine ps_ 25 29 (z 29 67108863) HT_ ?_
   refine ps_ 26 30 (z 29 134217727) HT_ ?_
   refine pu_ 27 31 (z 29 268435455) HT_ ?_
   refine pu_ 28 2 (z 29 536870911) HT_ ?_
   refine done_ (done_of HT_.out kr) ?_
   clear hHeld
   go_wp2_with fail
   go_ret
   exact ⟨by rw [HT.out]; rfl, H4.out⟩
end Go.Proofs.YtnoibcdojfnicaaGreatDoor.PG
namespace Go.Proofs.YtnoibcdojfnicaaGreatDoor.PG
open Go.Proofs.YtnoibcdojfnicaaGreatDoorW.Short
open Bool renaming true → Y, false → J
open Go Go.RowKit Go.Proofs.YtnoibcdojfnicaaGreatDoorW.PrintWords Go.Proofs.YtnoibcdojfnicaaGreatDoorW.PrintMore Go.Proofs.YtnoibcdojfnicaaGreatDoorW.PrintLast
abbrev Bd (B b : Nat) (l : List UInt8) (w : World) : Prop := Lib.IsBuilder 164 5 B b (Lib.byteCells l) w
theorem cells_app (l : List UInt8) (s : ByteArray) : Lib.byteCells l ++ Lib.strCells s = Lib.byteCells (l ++ s.data.toList) := by
 unfold Lib.byteCells Lib.strCells
 rw [List.map_append]
theorem bd_move {B b : Nat} {l : List UInt8} {w w' : World} (h : Bd B b l w) (hb : Below w.heap.size w w') : Bd B b l w' := by
 have key : ∀ p, Lib.BuilderAt 164 5 B b p (Lib.byteCells l) w → Lib.BuilderAt 164 5 B b p (Lib.byteCells l) w' := by
  rintro p ⟨hB, v, hv, ho, hn⟩
  refine ⟨hB, v, blk_below hv hb, own_move ho (fun k hk => ?_), hn⟩
  obtain ⟨cs, hc⟩ := own_typed ho k hk
  exact hb.block k (blk_lt hc)
 exact h.elim (fun x => Or.inl (key _ x)) (fun x => Or.inr (key _ x))
theorem bd_new (w : World) : Bd w.heap.size w.heap.size [] (w.alloc (.cells #[.pointer none, .slice none 0 0] 164)) := Lib.fresh_isBuilder _ _ w
theorem bd_write (B b : Nat) (l : List UInt8) (s : ByteArray) (w : World) (h : Bd B b l w) (hlen : l.length + s.size ≤ 140737488355328) (hBw : B ≤ w.heap.size) : Calls Tryz.prog 102 #[.pointer (some ⟨b, 0, none⟩), .string s] w fun e w' => ∃ z : Int, e = .returned (.tuple #[.int .i64 z, .nilIface]) ∧ Bd B b (l ++ s.data.toList) w' ∧ Below B w w' := by
 refine (Tryz.Builder_WriteString B b (Lib.byteCells l) s w h (by rw [Lib.byteCells_length]; exact hlen) hBw).mono ?_
 rintro e w' ⟨rfl, hb, hw⟩
 rw [cells_app] at hb
 exact ⟨_, rfl, Or.inr hb, hw⟩
theorem bd_string (B b : Nat) (l : List UInt8) (w : World) (h : Bd B b l w) (hBw : B ≤ w.heap.size) : Calls Tryz.prog 103 #[.pointer (some ⟨b, 0, none⟩)] w fun e w' => e = .returned (.string ⟨l.toArray⟩) ∧ Below B w w' := Tryz.Builder_String_any B b l w h hBw
abbrev BdF (B b : Nat) (l : List UInt8) (w : World) : Prop := Lib.IsBuilderF 164 5 B b (Lib.byteCells l) w
theorem bdF_move {B b : Nat} {l : List UInt8} {w w' : World} (h : BdF B b l w) (hb : Below w.heap.size w w') : BdF B b l w' := by
 have key : ∀ p, Lib.BuilderAtF 164 5 B b p (Lib.byteCells l) w → Lib.BuilderAtF 164 5 B b p (Lib.byteCells l) w' := by
  rintro p ⟨hB, v, hv, ho, hn⟩
  exact ⟨hB, v, blk_below hv hb, ho.kept (row := none) ⟨hb.os, hb.tape, hb.output, hb.size, fun k hk _ => hb.block k hk⟩ (Classical.em _), hn⟩
 exact h.elim (fun x => Or.inl (key _ x)) (fun x => Or.inr (key _ x))
theorem bdF_string (B b : Nat) (l : List UInt8) (w : World) (h : BdF B b l w) (hBw : B ≤ w.heap.size) : Calls Tryz.prog 103 #[.pointer (some ⟨b, 0, none⟩)] w fun e w' => e = .returned (.string ⟨l.toArray⟩) ∧ BdF B b l w' ∧ Below B w w' := Any.Builder_String_any_f Tryz.lays169 Tryz.Builder_Extra_169 B b l w h hBw
theorem bel_of {W w w' : World} {B : Nat} (h : Below W.heap.size W w) (hb : Below B w w') (hB : W.heap.size ≤ B) : Below W.heap.size W w' :=
 ⟨hb.os.trans h.os, hb.tape.trans h.tape, hb.output.trans h.output, Nat.le_trans h.size hb.size, fun k hk => (hb.block k (by omega)).trans (h.block k hk)⟩
theorem spot_none {w : World} {a : Addr} {v : Value} (h : w.cell? a = some v) : a.spot = none := by
 unfold World.cell? at h
 split at h
 ·split at h
  ·cases h
  ·rename_i hs; cases hp : a.spot with
   | none => rfl
   | some q => rw [hp] at hs; exact absurd rfl hs
 ·cases h
def joinS (xs : List ByteArray) : List UInt8 := Lib.join (xs.map (·.data.toList)) (ByteArray.mk #[]).data.toList
theorem join_c {A : Option Addr} {c : Nat} (xs : List ByteArray) (w : World) (hr : Kd.string.C w A xs.length xs) (hN : xs.length ≤ 140737488355328) (hc : xs.length ≤ c) (hlen : (joinS xs).length ≤ 140737488355328) : Calls Tryz.prog 134 #[.slice A xs.length c, .string (ByteArray.mk #[])] w fun e w' => e = .returned (.string ⟨(joinS xs).toArray⟩) ∧ Below w.heap.size w w' := by
 cases xs with
 | nil =>
  refine (Tryz.strings_Join_none A c _ w).mono ?_
  rintro e w' ⟨rfl, rfl⟩
  exact ⟨rfl, Below.refl _ _⟩
 | cons s r =>
  obtain ⟨ad, rfl, h0⟩ := elemS_c hr (k := 0) (by simp)
  obtain ⟨bk, o, sp⟩ := ad
  obtain rfl : sp = none := spot_none h0
  refine Tryz.strings_Join bk o c (s :: r) _ w (fun j x hj => ?_) (World.block_lt_of_cell? w _ h0) hN hc hlen
  obtain ⟨hlt, hx⟩ := List.getElem?_eq_some_iff.1 hj
  obtain ⟨ad2, e2, h2⟩ := elemS_c hr hlt
  obtain rfl := Option.some.inj e2
  rw [List.getD_eq_getElem?_getD, List.getElem?_eq_getElem hlt, hx] at h2
  rw [show (⟨bk, o, none⟩ : Addr).add j = ⟨bk, o + j, none⟩ by unfold Addr.add; split <;> simp_all] at h2
  exact h2
end Go.Proofs.YtnoibcdojfnicaaGreatDoor.PG
