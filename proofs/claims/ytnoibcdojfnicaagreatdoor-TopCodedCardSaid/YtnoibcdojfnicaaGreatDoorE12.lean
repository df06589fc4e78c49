/- A part of the proof of a law of descanttop: this session's own texts and printed texts, shortened and joined. -/
import Derived.Test.YtnoibcdojfnicaaGreatDoorE11
set_option linter.unusedVariables false
set_option linter.unusedSimpArgs false
set_option maxRecDepth 100000
set_option maxHeartbeats 16000000
namespace Go.Proofs.YtnoibcdojfnicaaGreatDoor.PL
open Go.Proofs.YtnoibcdojfnicaaGreatDoorW.Short
open Bool renaming true → Y, false → J
set_option maxRecDepth 100000
open Go Go.RowKit Go.Proofs.YtnoibcdojfnicaaGreatDoorW.PrintWords Go.Proofs.YtnoibcdojfnicaaGreatDoorW.PrintMore Go.Proofs.YtnoibcdojfnicaaGreatDoorW.PrintLast
def Lms.c (l : Lms) : Array Value := C16 l.w l.h
def mk16 (a0 a1 a2 a3 a4 a5 a6 a7 b0 b1 b2 b3 b4 b5 b6 b7 : Int) : Lms := ⟨fun j => [a0, a1, a2, a3, a4, a5, a6, a7].getD j 0, fun j => [b0, b1, b2, b3, b4, b5, b6, b7].getD j 0⟩
theorem shut16 (a0 a1 a2 a3 a4 a5 a6 a7 b0 b1 b2 b3 b4 b5 b6 b7 : Int) : (#[.int .i64 a0, .int .i64 a1, .int .i64 a2, .int .i64 a3, .int .i64 a4, .int .i64 a5, .int .i64 a6, .int .i64 a7, .int .i64 b0, .int .i64 b1, .int .i64 b2, .int .i64 b3, .int .i64 b4, .int .i64 b5, .int .i64 b6, .int .i64 b7] : Array Value) = (mk16 a0 a1 a2 a3 a4 a5 a6 a7 b0 b1 b2 b3 b4 b5 b6 b7).c := rfl
theorem c_size (l : Lms) : l.c.size = 16 := rfl
theorem c_one (l : Lms) : l.c.all (·.oneCell') = true := by simp [Lms.c, Value.oneCell']
theorem c_w (l : Lms) {k : Nat} (hk : k < 8) : l.c[k]? = some (.int .i64 (l.w k)) := c16_w l.w l.h k hk
theorem info24 : (Tryz.prog.info? 61).map (·.size) = some 16 := by kernel_rfl
theorem load_lms {w : World} {b : Nat} {l : Lms} {fr : Nat × Nat} (h : w.heap[b]? = some (.cells l.c 61 fr)) : (Instr.loadAt 61 (.pointer (some { block := b, off := 0 }))).run Tryz.prog w = .ok (.agg l.c) w := by
 have h1 := World.rangeAt_of_block h 0 16
 rw [show l.c.extract 0 (0 + 16) = l.c by simp [c_size]] at h1
 have h2 := run_loadAt_mid (P := Tryz.prog) w b 0 61 _ _ h1 Tryz.underlying61 rfl (by rw [info24]; rfl)
 simpa using h2
theorem load_new_lms (w : World) (l : Lms) : (Instr.loadAt 61 (.pointer (some { block := w.heap.size, off := 0 }))).run Tryz.prog (w.alloc (.cells l.c 61 (0, 0))) = .ok (.agg l.c) (w.alloc (.cells l.c 61 (0, 0))) := load_lms (blk_new w _)
theorem store_lms {w : World} {b : Nat} {l : Lms} (h : w.heap[b]? = some (.cells l.c 61 (0, 0))) (m : Lms) : (Instr.storeAt 61 (.pointer (some { block := b, off := 0 })) (.agg m.c)).run Tryz.prog w = .ok () (w.setRow b m.c) := by
 simp only [Instr.storeAt, Instr.sureAddr, Sem.run_bind, Sem.run_pure, Result.andThen_ok]
 exact run_storeVar_row w b 61 61 l.c m.c h info24 rfl (c_one m)
theorem store_new_lms (w : World) (l m : Lms) : (Instr.storeAt 61 (.pointer (some { block := w.heap.size, off := 0 })) (.agg m.c)).run Tryz.prog (w.alloc (.cells l.c 61 (0, 0))) = .ok () (w.alloc (.cells m.c 61 (0, 0))) := by
 rw [store_lms (blk_new w _) m, World.setRow_alloc_new]
def eq8 (a b : Nat → Int) : Bool := (List.range 8).all fun j => decide (a j = b j)
theorem eq8_and (a b : Nat → Int) : eq8 a b = (decide (a 0 = b 0) && (decide (a 1 = b 1) && (decide (a 2 = b 2) && (decide (a 3 = b 3) && (decide (a 4 = b 4) && (decide (a 5 = b 5) && (decide (a 6 = b 6) && (decide (a 7 = b 7) && true)))))))) := rfl
theorem load_word (v : Value) : Instr.loadAt 3 v = (do loadVar 3 (← Instr.sureAddr v)) := rfl
theorem store_word (v u : Value) : Instr.storeAt 3 v u = (do storeVar 3 (← Instr.sureAddr v) u) := rfl
def lmsEq (l m : Lms) : Bool := eq8 l.w m.w && eq8 l.h m.h
section
variable {P : Program} {w : World}
theorem eqi_step {d : Nat} {e : TypeId} {n i : Nat} {is : List Nat} {xs ys : Array Value} {a b : Value} {r s : Bool} (ha : (part e xs (i * n)).run P w = .ok a w) (hb : (part e ys (i * n)).run P w = .ok b w) (he : (Op.equalIn d e a b).run P w = .ok r w) (hr : (Op.eqItems d e n xs ys is).run P w = .ok s w) :
  (Op.eqItems d e n xs ys (i :: is)).run P w = .ok (r && s) w := by
 rw [Op.eqItems]
 simp only [Sem.run_bind, ha, hb, he, Result.andThen_ok]
 cases r
 ·simp
 ·simpa using hr
end
abbrev A8 (w : Nat → Int) : Array Value := #[.int .i64 (w 0), .int .i64 (w 1), .int .i64 (w 2), .int .i64 (w 3), .int .i64 (w 4), .int .i64 (w 5), .int .i64 (w 6), .int .i64 (w 7)]
theorem equal_eight (d : Nat) (w : World) (a b : Nat → Int) : (Op.equalIn (d + 2) 59 (.agg (A8 a)) (.agg (A8 b))).run Tryz.prog w = .ok (eq8 a b) w := by
 obtain ⟨i, hi⟩ := info_of_underlying Tryz.underlying3
 have e3 : ∀ x y : Int, (Op.equalIn (d + 1) 3 (.int .i64 x) (.int .i64 y)).run Tryz.prog w = .ok (decide (x = y)) w := fun x y => by
  rw [run_equalIn_int w d 3 .i64 .i64 x y Tryz.underlying3]
  by_cases hxy : x = y <;> simp [hxy]
 rw [run_equalIn_array w (d + 1) (n := 8) (e := 3) _ _ Tryz.underlying59 hi]
 rw [show List.range 8 = [0, 1, 2, 3, 4, 5, 6, 7] from rfl, eq8_and]
 iterate 8 refine eqi_step (by rfl) (by rfl) (e3 _ _) ?_
 simp [Op.eqItems]
theorem equal_lms (d : Nat) (w : World) (l m : Lms) : (Op.equalIn (d + 3) 61 (.agg l.c) (.agg m.c)).run Tryz.prog w = .ok (lmsEq l m) w := by
 unfold Lms.c
 refine eqA_of (r := lmsEq l m) Tryz.underlying61 kr ?_
 exact eqf_cons (r := eq8 l.w m.w) (s := eq8 l.h m.h) (by rfl) (by rfl) (by rfl) (equal_eight d w l.w m.w) (eqf_last (r := eq8 l.h m.h) (by rfl) (by rfl) (by rfl) (equal_eight d w l.h m.h))
theorem equal_lms2 (w : World) (l m : Lms) : (Op.equalIn 10000 61 (.agg l.c) (.agg m.c)).run Tryz.prog w = .ok (lmsEq l m) w := equal_lms 9997 w l m
theorem blk_row_far {w : World} {g b : Nat} {o : Obj} (h : w.heap[g]? = some o) (hne : g ≠ b) (c : Array Value) : (w.setRow b c).heap[g]? = some o := (setRow_other w b g c hne).trans h
theorem blk_row {w : World} {g : Nat} {old : Array Value} {t : TypeId} {fr : Nat × Nat} (h : w.heap[g]? = some (.cells old t fr)) (c : Array Value) : (w.setRow g c).heap[g]? = some (.cells c t fr) := setRow_heap w g old c t fr h
theorem below_row {B g : Nat} {w0 w : World} (hb : Below B w0 w) (hBg : B ≤ g) (cs : Array Value) : Below B w0 (w.setRow g cs) := hb.trans ⟨rfl, rfl, rfl, by simp [World.setRow], fun k hk => setRow_other w g k cs (by omega)⟩
theorem may_c (l : Lms) (W : World) : Calls Tryz.prog 121 #[.agg l.c] W fun e W' => e = .returned (.bool (lmsMay l)) ∧ Below W.heap.size W W' := may_calls l W
theorem guess_c (l : Lms) (W : World) : Calls Tryz.prog 72 #[.agg l.c] W fun e W' => e = .returned (.tuple #[.int .i64 (lmsGuess l).1, .int .i64 (lmsGuess l).2]) ∧ Below W.heap.size W W' := guess_calls l W
theorem learn_c (l : Lms) (x : Int) (W : World) : Calls Tryz.prog 74 #[.agg l.c, .int .i64 x] W fun e W' => e = .returned (.tuple #[.agg (lmsLearn l x).1.c, .int .i64 (lmsLearn l x).2]) ∧ Below W.heap.size W W' := learn_calls l x W
end Go.Proofs.YtnoibcdojfnicaaGreatDoor.PL
namespace Go.Proofs.YtnoibcdojfnicaaGreatDoor.PL
open Go.Proofs.YtnoibcdojfnicaaGreatDoorW.Short
open Bool renaming true → Y, false → J
open Go Go.RowKit Go.Proofs.YtnoibcdojfnicaaGreatDoorW.PrintWords Go.Proofs.YtnoibcdojfnicaaGreatDoorW.PrintMore Go.Proofs.YtnoibcdojfnicaaGreatDoorW.PrintLast
theorem clamp_in (x : Int) {m : Int} (h : 0 ≤ m) : -m ≤ clamp x m ∧ clamp x m ≤ m := by
 unfold clamp mn mx; (repeat' split) <;> omega
theorem learn_yes_eq {l : Lms} {x : Int} (hm : lmsMay l = true) (hx : inB x 4194304 = true) : lmsLearn l x = (⟨newW l x, fun j => if j = 0 then x else l.h (j - 1)⟩, 0) := by unfold lmsLearn; rw [hm, hx]; rfl
theorem inB_iff {x m : Int} : inB x m = true ↔ -m ≤ x ∧ x ≤ m := by unfold inB; exact decide_eq_true_iff
theorem learn_may {l : Lms} {x : Int} (hm : lmsMay l = true) (hx : inB x 4194304 = true) : lmsMay (lmsLearn l x).1 = true := by
 rw [learn_yes_eq hm hx]
 refine may_yes (fun j hj => ?_)
 unfold okAt
 rw [Bool.and_eq_true, inB_iff, inB_iff]
 refine ⟨clamp_in _ (by omega), ?_⟩
 show -4194304 ≤ (if j = 0 then x else l.h (j - 1)) ∧ (if j = 0 then x else l.h (j - 1)) ≤ 4194304
 split
 ·exact inB_iff.1 hx
 ·exact (okAt_in (may_at hm (show j - 1 < 8 by omega))).2
end Go.Proofs.YtnoibcdojfnicaaGreatDoor.PL
namespace Go.Proofs.YtnoibcdojfnicaaGreatDoor.PL
open Go.Proofs.YtnoibcdojfnicaaGreatDoorW.Short
open Bool renaming true → Y, false → J
set_option maxRecDepth 100000
open Go Go.RowKit Go.Proofs.YtnoibcdojfnicaaGreatDoorW.PrintWords Go.Proofs.YtnoibcdojfnicaaGreatDoorW.PrintMore Go.Proofs.YtnoibcdojfnicaaGreatDoorW.PrintLast
structure Chain where
 last : Int
 a : Lms
 b : Lms
abbrev C33 (x : Int) (w h u g : Nat → Int) : Array Value := #[.int .i64 x, .int .i64 (w 0), .int .i64 (w 1), .int .i64 (w 2), .int .i64 (w 3), .int .i64 (w 4), .int .i64 (w 5), .int .i64 (w 6), .int .i64 (w 7), .int .i64 (h 0), .int .i64 (h 1), .int .i64 (h 2), .int .i64 (h 3), .int .i64 (h 4), .int .i64 (h 5), .int .i64 (h 6), .int .i64 (h 7), .int .i64 (u 0), .int .i64 (u 1), .int .i64 (u 2), .int .i64 (u 3), .int .i64 (u 4), .int .i64 (u 5), .int .i64 (u 6), .int .i64 (u 7), .int .i64 (g 0), .int .i64 (g 1), .int .i64 (g 2), .int .i64 (g 3), .int .i64 (g 4), .int .i64 (g 5), .int .i64 (g 6), .int .i64 (g 7)]
def Chain.c (x : Chain) : Array Value := C33 x.last x.a.w x.a.h x.b.w x.b.h
def chZero : Chain := ⟨0, lmsZero, lmsZero⟩
theorem shut33 : (#[.int .i64 0, .int .i64 0, .int .i64 0, .int .i64 0, .int .i64 0, .int .i64 0, .int .i64 0, .int .i64 0, .int .i64 0, .int .i64 0, .int .i64 0, .int .i64 0, .int .i64 0, .int .i64 0, .int .i64 0, .int .i64 0, .int .i64 0, .int .i64 0, .int .i64 0, .int .i64 0, .int .i64 0, .int .i64 0, .int .i64 0, .int .i64 0, .int .i64 0, .int .i64 0, .int .i64 0, .int .i64 0, .int .i64 0, .int .i64 0, .int .i64 0, .int .i64 0, .int .i64 0] : Array Value) = chZero.c := rfl
theorem ch_size (x : Chain) : x.c.size = 33 := rfl
theorem ch_one (x : Chain) : x.c.all (·.oneCell') = true := by simp [Chain.c, Value.oneCell']
theorem ch_last (x : Chain) : x.c[0]? = some (.int .i64 x.last) := rfl
theorem ch_set0 (x : Chain) (v : Int) : x.c.setIfInBounds 0 (.int .i64 v) = (⟨v, x.a, x.b⟩ : Chain).c := rfl
theorem info44 : (Tryz.prog.info? 63).map (·.size) = some 33 := by kernel_rfl
section
variable {w : World} {b : Nat} {x : Chain} {fr : Nat × Nat}
theorem loadVar_ch (h : w.heap[b]? = some (.cells x.c 63 fr)) : (loadVar 63 ⟨b, 0, none⟩).run Tryz.prog w = .ok (.agg x.c) w := by
 have h1 := World.rangeAt_of_block h 0 33
 rw [show x.c.extract 0 (0 + 33) = x.c by simp [ch_size]] at h1
 have h2 := run_loadVar_mid (P := Tryz.prog) w b 0 63 _ _ h1 Tryz.underlying63 rfl (by rw [info44]; rfl)
 simpa using h2
theorem load_ch (h : w.heap[b]? = some (.cells x.c 63 fr)) : (Instr.loadAt 63 (.pointer (some { block := b, off := 0 }))).run Tryz.prog w = .ok (.agg x.c) w := by
 simp only [Instr.loadAt, Instr.sureAddr, Sem.run_bind, Sem.run_pure, Result.andThen_ok, loadVar_ch h]
theorem load_chA (h : w.heap[b]? = some (.cells x.c 63 fr)) : (Instr.loadAt 61 (.pointer (some { block := b, off := 1 }))).run Tryz.prog w = .ok (.agg x.a.c) w :=
 run_loadAt_mid (P := Tryz.prog) w b 1 61 _ _ (World.rangeAt_of_block h 1 16) Tryz.underlying61 rfl (by rw [info24]; rfl)
theorem load_chB (h : w.heap[b]? = some (.cells x.c 63 fr)) : (Instr.loadAt 61 (.pointer (some { block := b, off := 17 }))).run Tryz.prog w = .ok (.agg x.b.c) w :=
 run_loadAt_mid (P := Tryz.prog) w b 17 61 _ _ (World.rangeAt_of_block h 17 16) Tryz.underlying61 rfl (by rw [info24]; rfl)
theorem store_ch (h : w.heap[b]? = some (.cells x.c 63 (0, 0))) (y : Chain) : (Instr.storeAt 63 (.pointer (some { block := b, off := 0 })) (.agg y.c)).run Tryz.prog w = .ok () (w.setRow b y.c) := by
 simp only [Instr.storeAt, Instr.sureAddr, Sem.run_bind, Sem.run_pure, Result.andThen_ok]
 exact run_storeVar_row w b 63 63 x.c y.c h info44 rfl (ch_one y)
end
theorem load_new_ch (w : World) (x : Chain) : (Instr.loadAt 63 (.pointer (some { block := w.heap.size, off := 0 }))).run Tryz.prog (w.alloc (.cells x.c 63 (0, 0))) = .ok (.agg x.c) (w.alloc (.cells x.c 63 (0, 0))) := load_ch (blk_new w _)
theorem store_new_ch (w : World) (x y : Chain) : (Instr.storeAt 63 (.pointer (some { block := w.heap.size, off := 0 })) (.agg y.c)).run Tryz.prog (w.alloc (.cells x.c 63 (0, 0))) = .ok () (w.alloc (.cells y.c 63 (0, 0))) := by
 rw [store_ch (blk_new w _) y, World.setRow_alloc_new]
def splice (c : Array Value) (o : Nat) : List Value → Array Value
 | [] => c
 | v :: r => splice (c.setIfInBounds o v) (o + 1) r
theorem blk_splice {g : Nat} {t : TypeId} : ∀ (vs : List Value) {w : World} {c : Array Value} (o : Nat), w.heap[g]? = some (.cells c t (0, 0)) → (w.setCells g o vs).heap[g]? = some (.cells (splice c o vs) t (0, 0))
 | [], _, _, _, h => h
 | v :: r, _, _, o, h => blk_splice r (o + 1) (blk_put h o v rfl)
theorem blk_spliced {w : World} {g g' o : Nat} {ob : Obj} (vs : List Value) (h : w.heap[g']? = some ob) (hne : g' ≠ g) : (w.setCells g o vs).heap[g']? = some ob := (setCells_far (g := g) vs o (w := w) g' hne).trans h
theorem below_spliced {B : Nat} {w0 w : World} (g o : Nat) (vs : List Value) (h : Below B w0 w) (hg : B ≤ g) : Below B w0 (w.setCells g o vs) := by
 induction vs generalizing o w with
 | nil => exact h
 | cons v r ih => rw [World.setCells]; exact ih (o + 1) (h.setCell hg _)
theorem spl_a (x : Chain) (m : Lms) : splice x.c 1 m.c.toList = (⟨x.last, m, x.b⟩ : Chain).c := by kernel_rfl
theorem spl_b (x : Chain) (m : Lms) : splice x.c 17 m.c.toList = (⟨x.last, x.a, m⟩ : Chain).c := by kernel_rfl
section
variable {w : World} {b : Nat} {x : Chain}
theorem there_of {C : Array Value} {t : TypeId} (h : w.heap[b]? = some (.cells C t (0, 0))) (o n : Nat) (hn : o + n ≤ C.size) : w.there b o n := fun j hj =>
 ⟨by rw [blk_cell h]; simp; omega, blk_frozen h _⟩
theorem store_chA (h : w.heap[b]? = some (.cells x.c 63 (0, 0))) (m : Lms) : (Instr.storeAt 61 (.pointer (some { block := b, off := 1 })) (.agg m.c)).run Tryz.prog w = .ok () (w.setCells b 1 m.c.toList) :=
 run_storeAt_mid (P := Tryz.prog) w b 1 61 m.c (there_of h 1 16 (by rw [ch_size]; omega)) info24 (c_one m)
theorem store_chB (h : w.heap[b]? = some (.cells x.c 63 (0, 0))) (m : Lms) : (Instr.storeAt 61 (.pointer (some { block := b, off := 17 })) (.agg m.c)).run Tryz.prog w = .ok () (w.setCells b 17 m.c.toList) :=
 run_storeAt_mid (P := Tryz.prog) w b 17 61 m.c (there_of h 17 16 (by rw [ch_size]; omega)) info24 (c_one m)
end
def chEq (x y : Chain) : Bool := decide (x.last = y.last) && (lmsEq x.a y.a && lmsEq x.b y.b)
theorem equal_ch (d : Nat) (w : World) (x y : Chain) : (Op.equalIn (d + 4) 63 (.agg x.c) (.agg y.c)).run Tryz.prog w = .ok (chEq x y) w := by
 have e3 : ∀ a b : Int, (Op.equalIn (d + 3) 3 (.int .i64 a) (.int .i64 b)).run Tryz.prog w = .ok (decide (a = b)) w := fun a b => by
  rw [run_equalIn_int w (d + 2) 3 .i64 .i64 a b Tryz.underlying3]
  by_cases hab : a = b <;> simp [hab]
 refine eqA_of (r := chEq x y) Tryz.underlying63 kr ?_
 exact eqf_cons (r := decide (x.last = y.last)) (s := lmsEq x.a y.a && lmsEq x.b y.b) (by rfl) (by rfl) (by rfl) (e3 _ _) (eqf_cons (r := lmsEq x.a y.a) (s := lmsEq x.b y.b) (by rfl) (by rfl) (by rfl) (equal_lms d w x.a y.a) (eqf_last (r := lmsEq x.b y.b) (by rfl) (by rfl) (by rfl) (equal_lms d w x.b y.b)))
theorem equal_ch2 (w : World) (x y : Chain) : (Op.equalIn 10000 63 (.agg x.c) (.agg y.c)).run Tryz.prog w = .ok (chEq x y) w := equal_ch 9996 w x y
theorem build_ch0 (w : World) : (Instr.build 63 #[]).run Tryz.prog w = .ok (.agg chZero.c) w := by kernel_rfl
theorem build_ch1 (w : World) (v : Int) : (Instr.build 63 #[(0, .int .i64 v)]).run Tryz.prog w = .ok (.agg (⟨v, lmsZero, lmsZero⟩ : Chain).c) w := by kernel_rfl
theorem build_ch3 (w : World) (v : Int) (l m : Lms) : (Instr.build 63 #[(0, .int .i64 v), (1, .agg l.c), (2, .agg m.c)]).run Tryz.prog w = .ok (.agg (⟨v, l, m⟩ : Chain).c) w := by kernel_rfl
def chMay (x : Chain) : Bool := (inB x.last 131072 && lmsMay x.a) && lmsMay x.b
def chGuess (x : Chain) : Int × Int := if chMay x = true then (x.last + (lmsGuess x.a).1 + (lmsGuess x.b).1, 0) else (0, 1500)
def chLearn (x : Chain) (v : Int) : Chain × Int := if chMay x = true ∧ inB v 131072 = true then (⟨v, (lmsLearn x.a (v - x.last)).1, (lmsLearn x.b (v - x.last - (lmsGuess x.a).1)).1⟩, 0) else (chZero, 1500)
theorem chMay_iff {x : Chain} : chMay x = true ↔ inB x.last 131072 = true ∧ lmsMay x.a = true ∧ lmsMay x.b = true := by
 unfold chMay; rw [Bool.and_eq_true, Bool.and_eq_true, and_assoc]
theorem guess_in (l : Lms) : -1048576 ≤ (lmsGuess l).1 ∧ (lmsGuess l).1 ≤ 1048576 := by
 unfold lmsGuess
 split
 ·exact clamp_in _ (by omega)
 ·exact ⟨by show (-1048576 : Int) ≤ 0; omega, by show (0 : Int) ≤ 1048576; omega⟩
end Go.Proofs.YtnoibcdojfnicaaGreatDoor.PL
namespace Go.Proofs.YtnoibcdojfnicaaGreatDoor.PL
open Go.Proofs.YtnoibcdojfnicaaGreatDoorW.Short
open Bool renaming true → Y, false → J
set_option maxRecDepth 100000
open Go Go.RowKit Go.Proofs.YtnoibcdojfnicaaGreatDoorW.PrintWords Go.Proofs.YtnoibcdojfnicaaGreatDoorW.PrintMore Go.Proofs.YtnoibcdojfnicaaGreatDoorW.PrintLast
attribute [-go_sem] Instr.loadAt Instr.storeAt Instr.build
attribute [local go_sem high] shut33 shut16 ch_set0 equal_lms2 equal_ch2 load_new_lms store_new_lms load_new_ch store_new_ch load_word store_word build_ch0 build_ch1 build_ch3
theorem sample_c (x : Int) (w : World) : Calls Tryz.prog 73 #[.int .i64 x] w fun e w' => e = .returned (.bool (inB x 131072)) ∧ w' = w := by
 by_cases c : -131072 ≤ x
 ·have c1 : decide (x ≥ -131072) = true := decide_eq_true c
  go_enter Tryz.func73, Tryz.ntmps73
  go_wp2
  go_ret
  exact ⟨by simp [inB, c], rfl⟩
 ·have c1 : decide (x ≥ -131072) = false := decide_eq_false (by omega)
  go_enter Tryz.func73, Tryz.ntmps73
  go_wp2
  go_ret
  exact ⟨by simp [inB]; omega, rfl⟩
theorem chMay_c (x : Chain) (W : World) : Calls Tryz.prog 71 #[.agg x.c] W fun e W' => e = .returned (.bool (chMay x)) ∧ Below W.heap.size W W' := by
 go_enter Tryz.func71, Tryz.ntmps71
 have B := Lib.hid (blk_new W (.cells x.c 63))
 have H := Lib.hid (below_alloc (Below.refl W.heap.size W) (.cells x.c 63))
 have hc := (blk_cell B.out 0).trans (ch_last x)
 have kA := load_chA B.out
 have hm : chMay x = ((inB x.last 131072 && lmsMay x.a) && lmsMay x.b) := rfl
 rw [hm]
 cases h0 : inB x.last 131072
 ·go_wp2_with (go_at_call 73; refine (sample_c _ _).mono ?_; rintro e w' ⟨rfl, rfl⟩; rw [h0])
  go_ret
  exact ⟨rb (by simp [h0]), H.out⟩
 ·go_wp2_with (go_at_call 73; refine (sample_c _ _).mono ?_; rintro e w' ⟨rfl, rfl⟩; rw [h0])
  refine (may_c x.a _).mono ?_
  rintro e w1 ⟨rfl, hb1⟩
  have B1 := Lib.hid (blk_below B.out hb1)
  have H1 := Lib.hid (below_step H.out hb1)
  have kB := load_chB B1.out
  clear hb1 kA hc
  cases h1 : lmsMay x.a
  ·go_wp2_with fail
   go_ret
   exact ⟨rb (by simp [h0, h1]), H1.out⟩
  ·go_wp2_with fail
   refine (may_c x.b _).mono ?_
   rintro e w2 ⟨rfl, hb2⟩
   have H2 := Lib.hid (below_step H1.out hb2)
   cases h2 : lmsMay x.b
   ·go_wp2_with fail
    go_ret
    exact ⟨rb (by simp [h0, h1, h2]), H2.out⟩
   ·go_wp2_with fail
    go_ret
    exact ⟨rb (by simp [h0, h1, h2]), H2.out⟩
theorem chGuess_c (x : Chain) (W : World) : Calls Tryz.prog 26 #[.agg x.c] W fun e W' => e = .returned (.tuple #[.int .i64 (chGuess x).1, .int .i64 (chGuess x).2]) ∧ Below W.heap.size W W' := by
 cases hm : chMay x
 ·have hg := Lib.hid (show chGuess x = (0, 1500) by unfold chGuess; rw [hm]; rfl)
  go_enter Tryz.func26, Tryz.ntmps26
  go_wp2_with fail
  refine (chMay_c x _).mono ?_
  rintro e w1 ⟨rfl, hb⟩
  rw [hm]
  go_wp2
  go_ret2
  exact ⟨by rw [hg.out]; rfl, below_step (below_alloc (Below.refl W.heap.size W) _) hb⟩
 ·have hg := Lib.hid (show chGuess x = (x.last + (lmsGuess x.a).1 + (lmsGuess x.b).1, 0) by unfold chGuess; rw [hm]; rfl)
  obtain ⟨l1, l2⟩ := inB_iff.1 (chMay_iff.1 hm).1
  have ga := guess_in x.a
  have gb := guess_in x.b
  go_enter Tryz.func26, Tryz.ntmps26
  go_wp2_with fail
  refine (chMay_c x _).mono ?_
  rintro e w1 ⟨rfl, hb⟩
  rw [hm]
  have B1 := Lib.hid (blk_below (blk_new W (.cells x.c 63)) hb)
  have H1 := Lib.hid (below_step (below_alloc (Below.refl W.heap.size W) (.cells x.c 63)) hb)
  have kA := load_chA B1.out
  clear hb
  go_wp2_with fail
  refine (guess_c x.a _).mono ?_
  rintro e w2 ⟨rfl, hb⟩
  have B2 := Lib.hid (blk_below B1.out hb)
  have H2 := Lib.hid (below_step H1.out hb)
  have kB := load_chB B2.out
  clear hb kA B1 H1
  go_wp2_with fail
  refine (guess_c x.b _).mono ?_
  rintro e w3 ⟨rfl, hb⟩
  have B3 := Lib.hid (blk_below B2.out hb)
  have H3 := Lib.hid (below_step H2.out hb)
  have hc := (blk_cell B3.out 0).trans (ch_last x)
  clear hb kB B2 H2
  obtain ⟨p, hp⟩ : ∃ p, p = (lmsGuess x.a).1 := ⟨_, rfl⟩
  obtain ⟨q, hq⟩ : ∃ q, q = (lmsGuess x.b).1 := ⟨_, rfl⟩
  obtain ⟨c, hcc⟩ : ∃ c, c = x.last := ⟨_, rfl⟩
  rw [← hp] at ga hg ⊢
  rw [← hq] at gb hg ⊢
  rw [← hcc] at l1 l2 hc hg
  obtain ⟨ga1, ga2⟩ := ga
  obtain ⟨gb1, gb2⟩ := gb
  clear hp hq hcc hm
  go_wp2_with fail
  go_ret2
  exact ⟨by rw [hg.out]; rfl, H3.out⟩
theorem res_chLearn_c {tmps : Array Value} {w : World} {b : Nat} {x : Chain} {e : Int} (h4 : tmps.getD 4 undef = .pointer (some ⟨b, 0, none⟩)) (h5 : tmps.getD 5 undef = .int .i64 e) (h : w.heap[b]? = some (.cells x.c 63 (0, 0))) :
  (results Tryz.f27 tmps).run Tryz.prog w = .ok (.tuple #[.agg x.c, .int .i64 e]) w := by
 have hl := loadVar_ch h
 rw [Array.getD_eq_getD_getElem?] at h4 h5
 simp [results, Tryz.results27, h4, h5, asAddr, hl]
theorem chLearn_c_no (x : Chain) (v : Int) (W : World) (hn : ¬ (chMay x = true ∧ inB v 131072 = true)) : Calls Tryz.prog 27 #[.agg x.c, .int .i64 v] W fun e W' => e = .returned (.tuple #[.agg (chLearn x v).1.c, .int .i64 (chLearn x v).2]) ∧ Below W.heap.size W W' := by
 have hl := Lib.hid (show chLearn x v = (chZero, 1500) by unfold chLearn; rw [if_neg hn])
 go_enter Tryz.func27, Tryz.ntmps27
 have k1 := fun o => load_ch (blk_alloc (blk_new W (.cells x.c 63)) o)
 go_wp2_with fail
 refine (chMay_c x _).mono ?_
 rintro e W1 ⟨rfl, hb⟩
 have B := Lib.hid (blk_below (blk_new (W.alloc (.cells x.c 63)) (.cells chZero.c 63)) hb)
 have HB := Lib.hid (below_step (below_alloc (below_alloc (Below.refl W.heap.size W) (.cells x.c 63)) (.cells chZero.c 63)) hb)
 have B2 : Hid (W1.heap[W.heap.size + 1]? = some (.cells chZero.c 63 (0, 0))) := by simpa using B
 clear hb k1 B
 have s1 := store_ch B2.out
 have hWn : W.heap.size ≤ W.heap.size + 1 := by omega
 have key : ∀ (tmps : Array Value) (w : World), tmps.getD 4 undef = .pointer (some ⟨W.heap.size + 1, 0, none⟩) → tmps.getD 5 undef = .int .i64 1500 → w = W1.setRow (W.heap.size + 1) chZero.c → bodyPost Tryz.prog Tryz.f27 (fun e W' => e = .returned (.tuple #[.agg (chLearn x v).1.c, .int .i64 (chLearn x v).2]) ∧ Below W.heap.size W W') .ret { tmps := tmps, defers := [] } w := fun tmps w h4 h5 hw => by
  subst hw
  refine bodyPost_ret (v := .tuple #[.agg chZero.c, .int .i64 1500]) (res_chLearn_c (x := chZero) h4 h5 (blk_row B2.out _)) rfl ⟨by rw [hl.out], below_row HB.out hWn _⟩
 cases hm : chMay x
 ·go_wp2_with fail
  exact key _ _ rfl rfl rfl
 ·have hx : inB v 131072 = false := by cases h : inB v 131072 with
   | false => rfl
   | true => exact absurd ⟨hm, h⟩ hn
  go_wp2_with (go_at_call 73; refine (sample_c _ _).mono ?_; rintro e w' ⟨rfl, hw⟩; have hw := hw.symm; subst hw; rw [hx])
  exact key _ _ rfl rfl rfl
theorem chLearn_c_yes (x : Chain) (v : Int) (W : World) (hm : chMay x = true) (hx : inB v 131072 = true) : Calls Tryz.prog 27 #[.agg x.c, .int .i64 v] W fun e W' => e = .returned (.tuple #[.agg (chLearn x v).1.c, .int .i64 (chLearn x v).2]) ∧ Below W.heap.size W W' := by
 have hl := Lib.hid (show chLearn x v = (⟨v, (lmsLearn x.a (v - x.last)).1, (lmsLearn x.b (v - x.last - (lmsGuess x.a).1)).1⟩, 0) by unfold chLearn; rw [hm, hx]; rfl)
 obtain ⟨c1, c2⟩ := inB_iff.1 (chMay_iff.1 hm).1
 obtain ⟨v1, v2⟩ := inB_iff.1 hx
 obtain ⟨g1, g2⟩ := guess_in x.a
 obtain ⟨c, hcc⟩ : ∃ c, c = x.last := ⟨_, rfl⟩
 obtain ⟨g, hgg⟩ : ∃ g, g = (lmsGuess x.a).1 := ⟨_, rfl⟩
 rw [← hgg] at g1 g2 hl
 rw [← hcc] at c1 c2 hl
 have Hg := Lib.hid hgg
 have Hc := Lib.hid hcc
 clear hgg hcc
 have w1 := Lib.hid (Num.w64 (n := v - c) (by omega) (by omega))
 have w2 := Lib.hid (Num.w64 (n := v - c - g) (by omega) (by omega))
 go_enter Tryz.func27, Tryz.ntmps27
 have k1 := fun o => load_ch (blk_alloc (blk_new W (.cells x.c 63)) o)
 go_wp2_with fail
 refine (chMay_c x _).mono ?_
 rintro e W1 ⟨rfl, hb⟩
 rw [hm]
 have L1 := Lib.hid (blk_below (blk_alloc (blk_new W (.cells x.c 63)) (.cells chZero.c 63)) hb)
 have B := Lib.hid (blk_below (blk_new (W.alloc (.cells x.c 63)) (.cells chZero.c 63)) hb)
 have H1 := Lib.hid (below_step (below_alloc (below_alloc (Below.refl W.heap.size W) (.cells x.c 63)) (.cells chZero.c 63)) hb)
 have R1 : Hid (W1.heap[W.heap.size + 1]? = some (.cells chZero.c 63 (0, 0))) := by simpa using B
 clear hb k1 B
 obtain ⟨n, hn⟩ : ∃ n, n = W.heap.size := ⟨_, rfl⟩
 have hWn : W.heap.size ≤ n := by omega
 simp only [← hn] at L1 R1 ⊢
 clear hn
 have z1 : n + 1 < W1.heap.size := blk_lt R1.out
 have kA := load_chA L1.out
 have kc := (blk_cell L1.out 0).trans (ch_last x)
 rw [← Hc.out] at kc
 go_wp2_with (go_at_call 73; refine (sample_c _ _).mono ?_; rintro e w' ⟨rfl, hw⟩; have hw := hw.symm; subst hw; rw [hx])
 refine (guess_c x.a _).mono ?_
 rintro e W2 ⟨rfl, hb⟩
 rw [← Hg.out]
 have L2 := Lib.hid (blk_below L1.out hb)
 have R2 := Lib.hid (blk_below R1.out hb)
 have H2 := Lib.hid (below_step H1.out hb)
 clear hb kA kc L1 R1 H1 z1
 have z2 : n + 1 < W2.heap.size := blk_lt R2.out
 have kB := load_chB L2.out
 go_wp2_with fail
 refine (learn_c x.b (v - c - g) _).mono ?_
 rintro e W3 ⟨rfl, hb⟩
 obtain ⟨q, hq⟩ : ∃ q, q = (lmsLearn x.b (v - c - g)).1 := ⟨_, rfl⟩
 rw [← hq] at hl ⊢
 have L3 := Lib.hid (blk_below L2.out hb)
 have R3 := Lib.hid (blk_below R2.out hb)
 have H3 := Lib.hid (below_step H2.out hb)
 clear hb kB L2 R2 H2 z2 hq
 have z3 : n + 1 < W3.heap.size := blk_lt R3.out
 have sB := store_chB L3.out q
 have L4 := blk_splice (g := n) q.c.toList 17 L3.out
 rw [spl_b] at L4
 have L4 := Lib.hid L4
 have R4 := Lib.hid (blk_spliced (g := n) (o := 17) q.c.toList R3.out (by omega))
 have H4 := Lib.hid (below_spliced n 17 q.c.toList H3.out hWn)
 have kA := load_chA L4.out
 go_wp2_with fail
 refine (learn_c x.a (v - c) _).mono ?_
 rintro e W5 ⟨rfl, hb⟩
 obtain ⟨p, hp⟩ : ∃ p, p = (lmsLearn x.a (v - c)).1 := ⟨_, rfl⟩
 rw [← hp] at hl ⊢
 have L5 := Lib.hid (blk_below L4.out hb)
 have R5 := Lib.hid (blk_below R4.out hb)
 have H5 := Lib.hid (below_step H4.out hb)
 clear hb kA sB L3 R3 H3 L4 R4 H4 z3 hp
 have z5 : n + 1 < W5.heap.size := blk_lt R5.out
 have sA := store_chA L5.out p
 have L6 := blk_splice (g := n) p.c.toList 1 L5.out
 rw [spl_a] at L6
 have L6 := Lib.hid L6
 have R6 := Lib.hid (blk_spliced (g := n) (o := 1) p.c.toList R5.out (by omega))
 have H6 := Lib.hid (below_spliced n 1 p.c.toList H5.out hWn)
 have c6 := (blk_cell L6.out 0).trans (ch_last _)
 have f6 := blk_frozen L6.out 0
 have L7 := Lib.hid (blk_put L6.out 0 (.int .i64 v) (ch_set0 _ v))
 have R7 := Lib.hid (blk_far R6.out (show n + 1 ≠ n by omega) (p := ⟨n, 0, none⟩) (.int .i64 v))
 have H7 := Lib.hid (H6.out.setCell (p := ⟨n, 0, none⟩) hWn (.int .i64 v))
 have k7 := load_ch L7.out
 have s7 := store_ch R7.out ⟨v, p, q⟩
 have key : ∀ (tmps : Array Value) (w : World), tmps.getD 4 undef = .pointer (some ⟨n + 1, 0, none⟩) → tmps.getD 5 undef = .int .i64 0 → w = ((W5.setCells n 1 p.c.toList).setCell ⟨n, 0, none⟩ (.int .i64 v)).setRow (n + 1) (⟨v, p, q⟩ : Chain).c → bodyPost Tryz.prog Tryz.f27 (fun e W' => e = .returned (.tuple #[.agg (chLearn x v).1.c, .int .i64 (chLearn x v).2]) ∧ Below W.heap.size W W') .ret { tmps := tmps, defers := [] } w := fun tmps w h4 h5 hw => by
  subst hw
  exact bodyPost_ret (v := .tuple #[.agg (⟨v, p, q⟩ : Chain).c, .int .i64 0]) (res_chLearn_c h4 h5 (blk_row R7.out _)) rfl ⟨by rw [hl.out], below_row H7.out (by omega) _⟩
 go_wp2_with fail
 exact key _ _ rfl rfl rfl
theorem chLearn_c (x : Chain) (v : Int) (W : World) : Calls Tryz.prog 27 #[.agg x.c, .int .i64 v] W fun e W' => e = .returned (.tuple #[.agg (chLearn x v).1.c, .int .i64 (chLearn x v).2]) ∧ Below W.heap.size W W' := by
 by_cases h : chMay x = true ∧ inB v 131072 = true
 ·exact chLearn_c_yes x v W h.1 h.2
 ·exact chLearn_c_no x v W h
end Go.Proofs.YtnoibcdojfnicaaGreatDoor.PL
