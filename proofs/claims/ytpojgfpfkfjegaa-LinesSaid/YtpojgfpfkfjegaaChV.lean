/- Layer 15: a Chain as a value that stays shut: its load, its store, '==', its parts. -/
import Derived.Test.YtpojgfpfkfjegaaLmsRef2
namespace Go.Proofs.Ytpojgfpfkfjegaa.PAll
open Go Go.RowKit Go.Proofs.YtpojgfpfkfjegaaW.PrintWords Go.Proofs.YtpojgfpfkfjegaaW.PrintMore Go.Proofs.YtpojgfpfkfjegaaW.PrintLast
set_option linter.unusedVariables false
set_option linter.unusedSimpArgs false

/-- The last sample, and two lines that learn. -/
structure Chain where
  last : Int
  a : Lms
  b : Lms
abbrev C33 (x : Int) (w h u g : Nat → Int) : Array Value := #[.int .i64 x, .int .i64 (w 0), .int .i64 (w 1), .int .i64 (w 2), .int .i64 (w 3), .int .i64 (w 4), .int .i64 (w 5), .int .i64 (w 6), .int .i64 (w 7), .int .i64 (h 0), .int .i64 (h 1), .int .i64 (h 2), .int .i64 (h 3), .int .i64 (h 4), .int .i64 (h 5), .int .i64 (h 6), .int .i64 (h 7), .int .i64 (u 0), .int .i64 (u 1), .int .i64 (u 2), .int .i64 (u 3), .int .i64 (u 4), .int .i64 (u 5), .int .i64 (u 6), .int .i64 (u 7), .int .i64 (g 0), .int .i64 (g 1), .int .i64 (g 2), .int .i64 (g 3), .int .i64 (g 4), .int .i64 (g 5), .int .i64 (g 6), .int .i64 (g 7)]
def Chain.c (x : Chain) : Array Value := C33 x.last x.a.w x.a.h x.b.w x.b.h
theorem ch_parts (x : Chain) : x.c = (Value.int .i64 x.last :: (x.a.c.toList ++ x.b.c.toList)).toArray := rfl
theorem ch_same {x y : Chain} (h : x.last = y.last) (ha : x.a.c = y.a.c) (hb : x.b.c = y.b.c) : x.c = y.c := by rw [ch_parts, ch_parts, h, ha, hb]
def chZero : Chain := ⟨0, lmsZero, lmsZero⟩
theorem shut33 : (#[.int .i64 0, .int .i64 0, .int .i64 0, .int .i64 0, .int .i64 0, .int .i64 0, .int .i64 0, .int .i64 0, .int .i64 0, .int .i64 0, .int .i64 0, .int .i64 0, .int .i64 0, .int .i64 0, .int .i64 0, .int .i64 0, .int .i64 0, .int .i64 0, .int .i64 0, .int .i64 0, .int .i64 0, .int .i64 0, .int .i64 0, .int .i64 0, .int .i64 0, .int .i64 0, .int .i64 0, .int .i64 0, .int .i64 0, .int .i64 0, .int .i64 0, .int .i64 0, .int .i64 0] : Array Value) = chZero.c := rfl
theorem ch_size (x : Chain) : x.c.size = 33 := rfl
theorem ch_one (x : Chain) : x.c.all (·.oneCell') = true := by simp [Chain.c, Value.oneCell']
theorem ch_last (x : Chain) : x.c[0]? = some (.int .i64 x.last) := rfl
theorem ch_aw (x : Chain) {k : Nat} (hk : k < 8) : x.c[1 + k]? = some (.int .i64 (x.a.w k)) := by
  rcases show k = 0 ∨ k = 1 ∨ k = 2 ∨ k = 3 ∨ k = 4 ∨ k = 5 ∨ k = 6 ∨ k = 7 by omega with rfl | rfl | rfl | rfl | rfl | rfl | rfl | rfl <;> rfl
theorem ch_ah (x : Chain) {k : Nat} (hk : k < 8) : x.c[9 + k]? = some (.int .i64 (x.a.h k)) := by
  rcases show k = 0 ∨ k = 1 ∨ k = 2 ∨ k = 3 ∨ k = 4 ∨ k = 5 ∨ k = 6 ∨ k = 7 by omega with rfl | rfl | rfl | rfl | rfl | rfl | rfl | rfl <;> rfl
theorem ch_bw (x : Chain) {k : Nat} (hk : k < 8) : x.c[17 + k]? = some (.int .i64 (x.b.w k)) := by
  rcases show k = 0 ∨ k = 1 ∨ k = 2 ∨ k = 3 ∨ k = 4 ∨ k = 5 ∨ k = 6 ∨ k = 7 by omega with rfl | rfl | rfl | rfl | rfl | rfl | rfl | rfl <;> rfl
theorem ch_bh (x : Chain) {k : Nat} (hk : k < 8) : x.c[25 + k]? = some (.int .i64 (x.b.h k)) := by
  rcases show k = 0 ∨ k = 1 ∨ k = 2 ∨ k = 3 ∨ k = 4 ∨ k = 5 ∨ k = 6 ∨ k = 7 by omega with rfl | rfl | rfl | rfl | rfl | rfl | rfl | rfl <;> rfl
theorem ch_set0 (x : Chain) (v : Int) : x.c.setIfInBounds 0 (.int .i64 v) = (⟨v, x.a, x.b⟩ : Chain).c := rfl
theorem info44 : (Try.prog.info? 43).map (·.size) = some 33 := by kernel_rfl
theorem infoL22 : (Try.prog.info? 39).map (·.size) = some 8 := by kernel_rfl
section
variable {w : World} {b : Nat} {x : Chain} {fr : Nat × Nat}
theorem loadVar_ch (h : w.heap[b]? = some (.cells x.c 43 fr)) : (loadVar 43 ⟨b, 0, none⟩).run Try.prog w = .ok (.agg x.c) w := by
  have h1 := World.rangeAt_of_block h 0 33
  rw [show x.c.extract 0 (0 + 33) = x.c by simp [ch_size]] at h1
  have h2 := run_loadVar_mid (P := Try.prog) w b 0 43 _ _ h1 Try.underlying43 rfl (by rw [info44]; rfl)
  simpa using h2
theorem load_ch (h : w.heap[b]? = some (.cells x.c 43 fr)) : (Instr.loadAt 43 (.pointer (some { block := b, off := 0 }))).run Try.prog w = .ok (.agg x.c) w := by
  simp only [Instr.loadAt, Instr.sureAddr, Sem.run_bind, Sem.run_pure, Result.andThen_ok, loadVar_ch h]
theorem load_chA (h : w.heap[b]? = some (.cells x.c 43 fr)) : (Instr.loadAt 41 (.pointer (some { block := b, off := 1 }))).run Try.prog w = .ok (.agg x.a.c) w :=
  run_loadAt_mid (P := Try.prog) w b 1 41 _ _ (World.rangeAt_of_block h 1 16) Try.underlying41 rfl (by rw [info24]; rfl)
theorem load_chB (h : w.heap[b]? = some (.cells x.c 43 fr)) : (Instr.loadAt 41 (.pointer (some { block := b, off := 17 }))).run Try.prog w = .ok (.agg x.b.c) w :=
  run_loadAt_mid (P := Try.prog) w b 17 41 _ _ (World.rangeAt_of_block h 17 16) Try.underlying41 rfl (by rw [info24]; rfl)
theorem load_chAh (h : w.heap[b]? = some (.cells x.c 43 fr)) : (Instr.loadAt 39 (.pointer (some { block := b, off := 9 }))).run Try.prog w = .ok (.agg (A8 x.a.h)) w :=
  run_loadAt_mid (P := Try.prog) w b 9 39 _ _ (World.rangeAt_of_block h 9 8) Try.underlying39 rfl (by rw [infoL22]; rfl)
theorem store_ch (h : w.heap[b]? = some (.cells x.c 43 (0, 0))) (y : Chain) : (Instr.storeAt 43 (.pointer (some { block := b, off := 0 })) (.agg y.c)).run Try.prog w = .ok () (w.setRow b y.c) := by
  simp only [Instr.storeAt, Instr.sureAddr, Sem.run_bind, Sem.run_pure, Result.andThen_ok]
  exact run_storeVar_row w b 43 43 x.c y.c h info44 rfl (ch_one y)
end
theorem load_new_ch (w : World) (x : Chain) : (Instr.loadAt 43 (.pointer (some { block := w.heap.size, off := 0 }))).run Try.prog (w.alloc (.cells x.c 43 (0, 0))) = .ok (.agg x.c) (w.alloc (.cells x.c 43 (0, 0))) := load_ch (blk_new w _)
theorem store_new_ch (w : World) (x y : Chain) : (Instr.storeAt 43 (.pointer (some { block := w.heap.size, off := 0 })) (.agg y.c)).run Try.prog (w.alloc (.cells x.c 43 (0, 0))) = .ok () (w.alloc (.cells y.c 43 (0, 0))) := by
  rw [store_ch (blk_new w _) y, World.setRow_alloc_new]
/-! A part stored. -/
def splice (c : Array Value) (o : Nat) : List Value → Array Value
  | [] => c
  | v :: r => splice (c.setIfInBounds o v) (o + 1) r
theorem blk_splice {g : Nat} {t : TypeId} : ∀ (vs : List Value) {w : World} {c : Array Value} (o : Nat), w.heap[g]? = some (.cells c t (0, 0)) → (w.setCells g o vs).heap[g]? = some (.cells (splice c o vs) t (0, 0))
  | [], _, _, _, h => h
  | v :: r, _, _, o, h => blk_splice r (o + 1) (blk_put h o v rfl)
theorem blk_spliced {w : World} {g g' o : Nat} {ob : Obj} (vs : List Value) (h : w.heap[g']? = some ob) (hne : g' ≠ g) : (w.setCells g o vs).heap[g']? = some ob := (setCells_far (g := g) vs o (w := w) g' hne).trans h
theorem below_spliced {B : Nat} {w0 w : World} (g o : Nat) (vs : List Value) (h : Below B w0 w) (hg : B ≤ g) : Below B w0 (w.setCells g o vs) := by
  induction vs generalizing o w with
  | nil => exact h
  | cons v r ih => rw [World.setCells]; exact ih (o + 1) (h.setCell hg _)
theorem spl_a (x : Chain) (m : Lms) : splice x.c 1 m.c.toList = (⟨x.last, m, x.b⟩ : Chain).c := by kernel_rfl
theorem spl_b (x : Chain) (m : Lms) : splice x.c 17 m.c.toList = (⟨x.last, x.a, m⟩ : Chain).c := by kernel_rfl
section
variable {w : World} {b : Nat} {x : Chain}
theorem there_of {C : Array Value} {t : TypeId} (h : w.heap[b]? = some (.cells C t (0, 0))) (o n : Nat) (hn : o + n ≤ C.size) : w.there b o n := fun j hj =>
  ⟨by rw [blk_cell h]; simp; omega, blk_frozen h _⟩
theorem store_chA (h : w.heap[b]? = some (.cells x.c 43 (0, 0))) (m : Lms) : (Instr.storeAt 41 (.pointer (some { block := b, off := 1 })) (.agg m.c)).run Try.prog w = .ok () (w.setCells b 1 m.c.toList) :=
  run_storeAt_mid (P := Try.prog) w b 1 41 m.c (there_of h 1 16 (by rw [ch_size]; omega)) info24 (c_one m)
theorem store_chB (h : w.heap[b]? = some (.cells x.c 43 (0, 0))) (m : Lms) : (Instr.storeAt 41 (.pointer (some { block := b, off := 17 })) (.agg m.c)).run Try.prog w = .ok () (w.setCells b 17 m.c.toList) :=
  run_storeAt_mid (P := Try.prog) w b 17 41 m.c (there_of h 17 16 (by rw [ch_size]; omega)) info24 (c_one m)
end
def chEq (x y : Chain) : Bool := decide (x.last = y.last) && (lmsEq x.a y.a && lmsEq x.b y.b)
theorem chEq_c {x y : Chain} (h : x.last = y.last) (ha : x.a.c = y.a.c) (hb : x.b.c = y.b.c) : chEq x y = true := by
  unfold chEq; rw [lmsEq_c ha, lmsEq_c hb, h]; simp
theorem chEq_self (x : Chain) : chEq x x = true := chEq_c rfl rfl rfl
theorem equal_ch (d : Nat) (w : World) (x y : Chain) : (Op.equalIn (d + 4) 43 (.agg x.c) (.agg y.c)).run Try.prog w = .ok (chEq x y) w := by
  have e3 : ∀ a b : Int, (Op.equalIn (d + 3) 3 (.int .i64 a) (.int .i64 b)).run Try.prog w = .ok (decide (a = b)) w := fun a b => by
    rw [run_equalIn_int w (d + 2) 3 .i64 .i64 a b Try.underlying3]
    by_cases hab : a = b <;> simp [hab]
  refine eqA_of (r := chEq x y) Try.underlying43 (by kernel_rfl) ?_
  exact eqf_cons (r := decide (x.last = y.last)) (s := lmsEq x.a y.a && lmsEq x.b y.b) (by rfl) (by rfl) (by rfl) (e3 _ _) (eqf_cons (r := lmsEq x.a y.a) (s := lmsEq x.b y.b) (by rfl) (by rfl) (by rfl) (equal_lms d w x.a y.a) (eqf_last (r := lmsEq x.b y.b) (by rfl) (by rfl) (by rfl) (equal_lms d w x.b y.b)))
theorem equal_ch2 (w : World) (x y : Chain) : (Op.equalIn 10000 43 (.agg x.c) (.agg y.c)).run Try.prog w = .ok (chEq x y) w := equal_ch 9996 w x y
theorem build_ch0 (w : World) : (Instr.build 43 #[]).run Try.prog w = .ok (.agg chZero.c) w := by kernel_rfl
theorem build_ch1 (w : World) (v : Int) : (Instr.build 43 #[(0, .int .i64 v)]).run Try.prog w = .ok (.agg (⟨v, lmsZero, lmsZero⟩ : Chain).c) w := by kernel_rfl
theorem build_ch3 (w : World) (v : Int) (l m : Lms) : (Instr.build 43 #[(0, .int .i64 v), (1, .agg l.c), (2, .agg m.c)]).run Try.prog w = .ok (.agg (⟨v, l, m⟩ : Chain).c) w := by kernel_rfl

/-! What the functions answer. -/
def chMay (x : Chain) : Bool := (inB x.last 131072 && lmsMay x.a) && lmsMay x.b
def chGuess (x : Chain) : Int × Int := if chMay x = true then (x.last + (lmsGuess x.a).1 + (lmsGuess x.b).1, 0) else (0, 1500)
def chLearn (x : Chain) (v : Int) : Chain × Int := if chMay x = true ∧ inB v 131072 = true then (⟨v, (lmsLearn x.a (v - x.last)).1, (lmsLearn x.b (v - x.last - (lmsGuess x.a).1)).1⟩, 0) else (chZero, 1500)
theorem chMay_iff {x : Chain} : chMay x = true ↔ inB x.last 131072 = true ∧ lmsMay x.a = true ∧ lmsMay x.b = true := by
  unfold chMay; rw [Bool.and_eq_true, Bool.and_eq_true, and_assoc]
theorem guess_in (l : Lms) : -1048576 ≤ (lmsGuess l).1 ∧ (lmsGuess l).1 ≤ 1048576 := by
  unfold lmsGuess
  split
  · exact clamp_in _ (by omega)
  · exact ⟨by show (-1048576 : Int) ≤ 0; omega, by show (0 : Int) ≤ 1048576; omega⟩
/-- One out of the cells of an argument. -/
def chOf (xs : List Int) : Chain := ⟨xs.getD 0 0, ⟨fun j => xs.getD (1 + j) 0, fun j => xs.getD (9 + j) 0⟩, ⟨fun j => xs.getD (17 + j) 0, fun j => xs.getD (25 + j) 0⟩⟩
theorem chOf_c {xs : List Int} (h : xs.length = 33) : (xs.map (Value.int .i64)).toArray = (chOf xs).c := by
  match xs, h with
  | _ :: _ :: _ :: _ :: _ :: _ :: _ :: _ :: _ :: _ :: _ :: _ :: _ :: _ :: _ :: _ :: _ :: _ :: _ :: _ :: _ :: _ :: _ :: _ :: _ :: _ :: _ :: _ :: _ :: _ :: _ :: _ :: _ :: [], _ => rfl
end Go.Proofs.Ytpojgfpfkfjegaa.PAll
