/- An Lms as a value that stays shut: its load, its store, '==', its cells; the three contracts in that spelling. -/
import Derived.Test.YtpojgfpfkfjegaaLms2
import Derived.DeepKeys
import Derived.Deep.MidRow
import Derived.Deep.WholeRow
namespace Go.Proofs.Ytpojgfpfkfjegaa.PAll
open Go Go.RowKit Go.Proofs.YtpojgfpfkfjegaaW.PrintWords Go.Proofs.YtpojgfpfkfjegaaW.PrintMore Go.Proofs.YtpojgfpfkfjegaaW.PrintLast
set_option linter.unusedVariables false
set_option linter.unusedSimpArgs false

/-- The cells of one. -/
def Lms.c (l : Lms) : Array Value := C16 l.w l.h
/-- One out of its numbers. -/
def mk16 (a0 a1 a2 a3 a4 a5 a6 a7 b0 b1 b2 b3 b4 b5 b6 b7 : Int) : Lms := ⟨fun j => [a0, a1, a2, a3, a4, a5, a6, a7].getD j 0, fun j => [b0, b1, b2, b3, b4, b5, b6, b7].getD j 0⟩
theorem shut16 (a0 a1 a2 a3 a4 a5 a6 a7 b0 b1 b2 b3 b4 b5 b6 b7 : Int) : (#[.int .i64 a0, .int .i64 a1, .int .i64 a2, .int .i64 a3, .int .i64 a4, .int .i64 a5, .int .i64 a6, .int .i64 a7, .int .i64 b0, .int .i64 b1, .int .i64 b2, .int .i64 b3, .int .i64 b4, .int .i64 b5, .int .i64 b6, .int .i64 b7] : Array Value) = (mk16 a0 a1 a2 a3 a4 a5 a6 a7 b0 b1 b2 b3 b4 b5 b6 b7).c := rfl
theorem set16_0 (a0 a1 a2 a3 a4 a5 a6 a7 b0 b1 b2 b3 b4 b5 b6 b7 v : Int) : (mk16 a0 a1 a2 a3 a4 a5 a6 a7 b0 b1 b2 b3 b4 b5 b6 b7).c.setIfInBounds 0 (.int .i64 v) = (mk16 v a1 a2 a3 a4 a5 a6 a7 b0 b1 b2 b3 b4 b5 b6 b7).c := rfl
theorem set16_1 (a0 a1 a2 a3 a4 a5 a6 a7 b0 b1 b2 b3 b4 b5 b6 b7 v : Int) : (mk16 a0 a1 a2 a3 a4 a5 a6 a7 b0 b1 b2 b3 b4 b5 b6 b7).c.setIfInBounds 1 (.int .i64 v) = (mk16 a0 v a2 a3 a4 a5 a6 a7 b0 b1 b2 b3 b4 b5 b6 b7).c := rfl
theorem set16_2 (a0 a1 a2 a3 a4 a5 a6 a7 b0 b1 b2 b3 b4 b5 b6 b7 v : Int) : (mk16 a0 a1 a2 a3 a4 a5 a6 a7 b0 b1 b2 b3 b4 b5 b6 b7).c.setIfInBounds 2 (.int .i64 v) = (mk16 a0 a1 v a3 a4 a5 a6 a7 b0 b1 b2 b3 b4 b5 b6 b7).c := rfl
theorem set16_3 (a0 a1 a2 a3 a4 a5 a6 a7 b0 b1 b2 b3 b4 b5 b6 b7 v : Int) : (mk16 a0 a1 a2 a3 a4 a5 a6 a7 b0 b1 b2 b3 b4 b5 b6 b7).c.setIfInBounds 3 (.int .i64 v) = (mk16 a0 a1 a2 v a4 a5 a6 a7 b0 b1 b2 b3 b4 b5 b6 b7).c := rfl
theorem set16_4 (a0 a1 a2 a3 a4 a5 a6 a7 b0 b1 b2 b3 b4 b5 b6 b7 v : Int) : (mk16 a0 a1 a2 a3 a4 a5 a6 a7 b0 b1 b2 b3 b4 b5 b6 b7).c.setIfInBounds 4 (.int .i64 v) = (mk16 a0 a1 a2 a3 v a5 a6 a7 b0 b1 b2 b3 b4 b5 b6 b7).c := rfl
theorem set16_5 (a0 a1 a2 a3 a4 a5 a6 a7 b0 b1 b2 b3 b4 b5 b6 b7 v : Int) : (mk16 a0 a1 a2 a3 a4 a5 a6 a7 b0 b1 b2 b3 b4 b5 b6 b7).c.setIfInBounds 5 (.int .i64 v) = (mk16 a0 a1 a2 a3 a4 v a6 a7 b0 b1 b2 b3 b4 b5 b6 b7).c := rfl
theorem set16_6 (a0 a1 a2 a3 a4 a5 a6 a7 b0 b1 b2 b3 b4 b5 b6 b7 v : Int) : (mk16 a0 a1 a2 a3 a4 a5 a6 a7 b0 b1 b2 b3 b4 b5 b6 b7).c.setIfInBounds 6 (.int .i64 v) = (mk16 a0 a1 a2 a3 a4 a5 v a7 b0 b1 b2 b3 b4 b5 b6 b7).c := rfl
theorem set16_7 (a0 a1 a2 a3 a4 a5 a6 a7 b0 b1 b2 b3 b4 b5 b6 b7 v : Int) : (mk16 a0 a1 a2 a3 a4 a5 a6 a7 b0 b1 b2 b3 b4 b5 b6 b7).c.setIfInBounds 7 (.int .i64 v) = (mk16 a0 a1 a2 a3 a4 a5 a6 v b0 b1 b2 b3 b4 b5 b6 b7).c := rfl
theorem set16_8 (a0 a1 a2 a3 a4 a5 a6 a7 b0 b1 b2 b3 b4 b5 b6 b7 v : Int) : (mk16 a0 a1 a2 a3 a4 a5 a6 a7 b0 b1 b2 b3 b4 b5 b6 b7).c.setIfInBounds 8 (.int .i64 v) = (mk16 a0 a1 a2 a3 a4 a5 a6 a7 v b1 b2 b3 b4 b5 b6 b7).c := rfl
theorem set16_9 (a0 a1 a2 a3 a4 a5 a6 a7 b0 b1 b2 b3 b4 b5 b6 b7 v : Int) : (mk16 a0 a1 a2 a3 a4 a5 a6 a7 b0 b1 b2 b3 b4 b5 b6 b7).c.setIfInBounds 9 (.int .i64 v) = (mk16 a0 a1 a2 a3 a4 a5 a6 a7 b0 v b2 b3 b4 b5 b6 b7).c := rfl
theorem set16_10 (a0 a1 a2 a3 a4 a5 a6 a7 b0 b1 b2 b3 b4 b5 b6 b7 v : Int) : (mk16 a0 a1 a2 a3 a4 a5 a6 a7 b0 b1 b2 b3 b4 b5 b6 b7).c.setIfInBounds 10 (.int .i64 v) = (mk16 a0 a1 a2 a3 a4 a5 a6 a7 b0 b1 v b3 b4 b5 b6 b7).c := rfl
theorem set16_11 (a0 a1 a2 a3 a4 a5 a6 a7 b0 b1 b2 b3 b4 b5 b6 b7 v : Int) : (mk16 a0 a1 a2 a3 a4 a5 a6 a7 b0 b1 b2 b3 b4 b5 b6 b7).c.setIfInBounds 11 (.int .i64 v) = (mk16 a0 a1 a2 a3 a4 a5 a6 a7 b0 b1 b2 v b4 b5 b6 b7).c := rfl
theorem set16_12 (a0 a1 a2 a3 a4 a5 a6 a7 b0 b1 b2 b3 b4 b5 b6 b7 v : Int) : (mk16 a0 a1 a2 a3 a4 a5 a6 a7 b0 b1 b2 b3 b4 b5 b6 b7).c.setIfInBounds 12 (.int .i64 v) = (mk16 a0 a1 a2 a3 a4 a5 a6 a7 b0 b1 b2 b3 v b5 b6 b7).c := rfl
theorem set16_13 (a0 a1 a2 a3 a4 a5 a6 a7 b0 b1 b2 b3 b4 b5 b6 b7 v : Int) : (mk16 a0 a1 a2 a3 a4 a5 a6 a7 b0 b1 b2 b3 b4 b5 b6 b7).c.setIfInBounds 13 (.int .i64 v) = (mk16 a0 a1 a2 a3 a4 a5 a6 a7 b0 b1 b2 b3 b4 v b6 b7).c := rfl
theorem set16_14 (a0 a1 a2 a3 a4 a5 a6 a7 b0 b1 b2 b3 b4 b5 b6 b7 v : Int) : (mk16 a0 a1 a2 a3 a4 a5 a6 a7 b0 b1 b2 b3 b4 b5 b6 b7).c.setIfInBounds 14 (.int .i64 v) = (mk16 a0 a1 a2 a3 a4 a5 a6 a7 b0 b1 b2 b3 b4 b5 v b7).c := rfl
theorem set16_15 (a0 a1 a2 a3 a4 a5 a6 a7 b0 b1 b2 b3 b4 b5 b6 b7 v : Int) : (mk16 a0 a1 a2 a3 a4 a5 a6 a7 b0 b1 b2 b3 b4 b5 b6 b7).c.setIfInBounds 15 (.int .i64 v) = (mk16 a0 a1 a2 a3 a4 a5 a6 a7 b0 b1 b2 b3 b4 b5 b6 v).c := rfl
theorem c_zero : mk16 0 0 0 0 0 0 0 0 0 0 0 0 0 0 0 0 = lmsZero := by
  unfold mk16 lmsZero
  congr 1 <;> (funext j; rcases j with _ | _ | _ | _ | _ | _ | _ | _ | j <;> rfl)
theorem zero16 : (#[.int .i64 0, .int .i64 0, .int .i64 0, .int .i64 0, .int .i64 0, .int .i64 0, .int .i64 0, .int .i64 0, .int .i64 0, .int .i64 0, .int .i64 0, .int .i64 0, .int .i64 0, .int .i64 0, .int .i64 0, .int .i64 0] : Array Value) = lmsZero.c := rfl
theorem c_size (l : Lms) : l.c.size = 16 := rfl
theorem c_one (l : Lms) : l.c.all (·.oneCell') = true := by simp [Lms.c, Value.oneCell']
theorem c_w (l : Lms) {k : Nat} (hk : k < 8) : l.c[k]? = some (.int .i64 (l.w k)) := c16_w l.w l.h k hk
theorem c_h (l : Lms) {k : Nat} (hk : k < 8) : l.c[8 + k]? = some (.int .i64 (l.h k)) := c16_h l.w l.h k hk
theorem c_same {l m : Lms} (e : ∀ j, j < 8 → l.w j = m.w j) (e2 : ∀ j, j < 8 → l.h j = m.h j) : l.c = m.c := c16_congr e e2
theorem info24 : (Try.prog.info? 41).map (·.size) = some 16 := by kernel_rfl
theorem load_lms {w : World} {b : Nat} {l : Lms} {fr : Nat × Nat} (h : w.heap[b]? = some (.cells l.c 41 fr)) : (Instr.loadAt 41 (.pointer (some { block := b, off := 0 }))).run Try.prog w = .ok (.agg l.c) w := by
  have h1 := World.rangeAt_of_block h 0 16
  rw [show l.c.extract 0 (0 + 16) = l.c by simp [c_size]] at h1
  have h2 := run_loadAt_mid (P := Try.prog) w b 0 41 _ _ h1 Try.underlying41 rfl (by rw [info24]; rfl)
  simpa using h2
theorem load_new_lms (w : World) (l : Lms) : (Instr.loadAt 41 (.pointer (some { block := w.heap.size, off := 0 }))).run Try.prog (w.alloc (.cells l.c 41 (0, 0))) = .ok (.agg l.c) (w.alloc (.cells l.c 41 (0, 0))) := load_lms (blk_new w _)
theorem store_lms {w : World} {b : Nat} {l : Lms} (h : w.heap[b]? = some (.cells l.c 41 (0, 0))) (m : Lms) : (Instr.storeAt 41 (.pointer (some { block := b, off := 0 })) (.agg m.c)).run Try.prog w = .ok () (w.setRow b m.c) := by
  simp only [Instr.storeAt, Instr.sureAddr, Sem.run_bind, Sem.run_pure, Result.andThen_ok]
  exact run_storeVar_row w b 41 41 l.c m.c h info24 rfl (c_one m)
theorem store_new_lms (w : World) (l m : Lms) : (Instr.storeAt 41 (.pointer (some { block := w.heap.size, off := 0 })) (.agg m.c)).run Try.prog (w.alloc (.cells l.c 41 (0, 0))) = .ok () (w.alloc (.cells m.c 41 (0, 0))) := by
  rw [store_lms (blk_new w _) m, World.setRow_alloc_new]
def eq8 (a b : Nat → Int) : Bool := (List.range 8).all fun j => decide (a j = b j)
theorem eq8_iff (a b : Nat → Int) : eq8 a b = true ↔ ∀ j, j < 8 → a j = b j := by
  unfold eq8
  rw [List.all_eq_true]
  exact ⟨fun h j hj => of_decide_eq_true (h j (List.mem_range.2 hj)), fun h j hj => decide_eq_true (h j (List.mem_range.1 hj))⟩
theorem eq8_and (a b : Nat → Int) : eq8 a b = (decide (a 0 = b 0) && (decide (a 1 = b 1) && (decide (a 2 = b 2) && (decide (a 3 = b 3) && (decide (a 4 = b 4) && (decide (a 5 = b 5) && (decide (a 6 = b 6) && (decide (a 7 = b 7) && true)))))))) := rfl
theorem load_word (v : Value) : Instr.loadAt 3 v = (do loadVar 3 (← Instr.sureAddr v)) := rfl
theorem store_word (v u : Value) : Instr.storeAt 3 v u = (do storeVar 3 (← Instr.sureAddr v) u) := rfl
/-- Are they alike? -/
def lmsEq (l m : Lms) : Bool := eq8 l.w m.w && eq8 l.h m.h
theorem lmsEq_c {l m : Lms} (h : l.c = m.c) : lmsEq l m = true := by
  unfold lmsEq
  rw [Bool.and_eq_true, eq8_iff, eq8_iff]
  refine ⟨fun j hj => ?_, fun j hj => ?_⟩
  · have := (c_w l hj).symm.trans ((congrArg (·[j]?) h).trans (c_w m hj))
    injection this with this; injection this
  · have := (c_h l hj).symm.trans ((congrArg (·[8 + j]?) h).trans (c_h m hj))
    injection this with this; injection this
section
variable {P : Program} {w : World}
theorem eqi_step {d : Nat} {e : TypeId} {n i : Nat} {is : List Nat} {xs ys : Array Value} {a b : Value} {r s : Bool} (ha : (part e xs (i * n)).run P w = .ok a w) (hb : (part e ys (i * n)).run P w = .ok b w) (he : (Op.equalIn d e a b).run P w = .ok r w) (hr : (Op.eqItems d e n xs ys is).run P w = .ok s w) :
    (Op.eqItems d e n xs ys (i :: is)).run P w = .ok (r && s) w := by
  rw [Op.eqItems]
  simp only [Sem.run_bind, ha, hb, he, Result.andThen_ok]
  cases r
  · simp
  · simpa using hr
end
abbrev A8 (w : Nat → Int) : Array Value := #[.int .i64 (w 0), .int .i64 (w 1), .int .i64 (w 2), .int .i64 (w 3), .int .i64 (w 4), .int .i64 (w 5), .int .i64 (w 6), .int .i64 (w 7)]
theorem equal_eight (d : Nat) (w : World) (a b : Nat → Int) : (Op.equalIn (d + 2) 39 (.agg (A8 a)) (.agg (A8 b))).run Try.prog w = .ok (eq8 a b) w := by
  obtain ⟨i, hi⟩ := info_of_underlying Try.underlying3
  have e3 : ∀ x y : Int, (Op.equalIn (d + 1) 3 (.int .i64 x) (.int .i64 y)).run Try.prog w = .ok (decide (x = y)) w := fun x y => by
    rw [run_equalIn_int w d 3 .i64 .i64 x y Try.underlying3]
    by_cases hxy : x = y <;> simp [hxy]
  rw [run_equalIn_array w (d + 1) (n := 8) (e := 3) _ _ Try.underlying39 hi]
  rw [show List.range 8 = [0, 1, 2, 3, 4, 5, 6, 7] from rfl, eq8_and]
  iterate 8 refine eqi_step (by rfl) (by rfl) (e3 _ _) ?_
  simp [Op.eqItems]
theorem equal_lms (d : Nat) (w : World) (l m : Lms) : (Op.equalIn (d + 3) 41 (.agg l.c) (.agg m.c)).run Try.prog w = .ok (lmsEq l m) w := by
  unfold Lms.c
  refine eqA_of (r := lmsEq l m) Try.underlying41 (by kernel_rfl) ?_
  exact eqf_cons (r := eq8 l.w m.w) (s := eq8 l.h m.h) (by rfl) (by rfl) (by rfl) (equal_eight d w l.w m.w) (eqf_last (r := eq8 l.h m.h) (by rfl) (by rfl) (by rfl) (equal_eight d w l.h m.h))
theorem equal_lms2 (w : World) (l m : Lms) : (Op.equalIn 10000 41 (.agg l.c) (.agg m.c)).run Try.prog w = .ok (lmsEq l m) w := equal_lms 9997 w l m
theorem lmsEq_true {l m : Lms} : lmsEq l m = true ↔ l.c = m.c := ⟨fun h => by
  unfold lmsEq at h
  rw [Bool.and_eq_true, eq8_iff, eq8_iff] at h
  exact c_same h.1 h.2, lmsEq_c⟩

theorem blk_row_far {w : World} {g b : Nat} {o : Obj} (h : w.heap[g]? = some o) (hne : g ≠ b) (c : Array Value) : (w.setRow b c).heap[g]? = some o := (setRow_other w b g c hne).trans h
theorem blk_row {w : World} {g : Nat} {old : Array Value} {t : TypeId} {fr : Nat × Nat} (h : w.heap[g]? = some (.cells old t fr)) (c : Array Value) : (w.setRow g c).heap[g]? = some (.cells c t fr) := setRow_heap w g old c t fr h
theorem below_row {B g : Nat} {w0 w : World} (hb : Below B w0 w) (hBg : B ≤ g) (cs : Array Value) : Below B w0 (w.setRow g cs) := hb.trans ⟨rfl, rfl, rfl, by simp [World.setRow], fun k hk => setRow_other w g k cs (by omega)⟩
theorem below_drawn {B : Nat} {a w : World} (h : Below B a w) (n : Nat) : Below B a (w.drewN n) := h.trans ⟨rfl, rfl, rfl, Nat.le_refl _, fun _ _ => rfl⟩
/-- One out of the cells of an argument. -/
def lmsOf (xs : List Int) : Lms := ⟨fun j => xs.getD j 0, fun j => xs.getD (8 + j) 0⟩
theorem lmsOf_c {xs : List Int} (h : xs.length = 16) : (xs.map (Value.int .i64)).toArray = (lmsOf xs).c := by
  match xs, h with
  | [_, _, _, _, _, _, _, _, _, _, _, _, _, _, _, _], _ => rfl
theorem may_c (l : Lms) (W : World) : Calls Try.prog 39 #[.agg l.c] W fun e W' => e = .returned (.bool (lmsMay l)) ∧ Below W.heap.size W W' := may_calls l W
theorem guess_c (l : Lms) (W : World) : Calls Try.prog 33 #[.agg l.c] W fun e W' => e = .returned (.tuple #[.int .i64 (lmsGuess l).1, .int .i64 (lmsGuess l).2]) ∧ Below W.heap.size W W' := guess_calls l W
theorem learn_c (l : Lms) (x : Int) (W : World) : Calls Try.prog 35 #[.agg l.c, .int .i64 x] W fun e W' => e = .returned (.tuple #[.agg (lmsLearn l x).1.c, .int .i64 (lmsLearn l x).2]) ∧ Below W.heap.size W W' := learn_calls l x W
theorem num_calls (e : Int) (w : World) : Calls Try.prog 14 #[.int .i64 e] w fun e' w' => e' = .returned (.int .i64 e) ∧ w' = w := by
  go_enter Try.func14, Try.ntmps14
  go_wp2
  go_ret
  exact ⟨rfl, rfl⟩
end Go.Proofs.Ytpojgfpfkfjegaa.PAll
