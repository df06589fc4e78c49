-- Printed by a program of this session over the kit's printer (wip/gen/pr.py). Not trusted: Lean checks it.
import Derived.Test.YtjdffodhbejnjaaPCtxx0
import Derived.Test.YtjdffodhbejnjaaArrEq
namespace Go.Proofs.Ytjdffodhbejnjaa.PCtx
open Go.RowKit Go.Proofs.YtjdffodhbejnjaaW.PrintWords Go.Proofs.YtjdffodhbejnjaaW.PrintLast Go.Proofs.YtjdffodhbejnjaaW.PrintMore
attribute [local go_sem] max2_int min2_int max_two min_two max_three min_three max_four min_four   -- for this text's walks alone
set_option linter.unusedVariables false
set_option linter.unusedSimpArgs false

--import Derived.Test.YtjdffodhbejnjaaArrEq
theorem eqA43 (d : Nat) (w : World) (x0 y0 : Int) (x1 y1 : Int) (x2 y2 : Int) :
    (Op.equalIn (d + 2) 43 (.agg #[.int .i64 x0, .int .i64 x1, .int .i64 x2]) (.agg #[.int .i64 y0, .int .i64 y1, .int .i64 y2])).run Try.prog w = .ok (x0 == y0 && (x1 == y1 && (x2 == y2))) w := by
  obtain ⟨i, hi⟩ := info_of_underlying Try.underlying3
  have e3 : ∀ x y : Int, (Op.equalIn (d + 1) 3 (.int .i64 x) (.int .i64 y)).run Try.prog w = .ok (x == y) w := fun x y => by
    rw [run_equalIn_int w d 3 .i64 .i64 x y Try.underlying3]
  rw [run_equalIn_array w (d + 1) (n := 3) (e := 3) _ _ Try.underlying43 hi, show List.range 3 = [0, 1, 2] from rfl]
  refine Extra.eqi_cons (by rfl) (by rfl) (e3 _ _) ?_
  refine Extra.eqi_cons (by rfl) (by rfl) (e3 _ _) ?_
  exact Extra.eqi_last (by rfl) (by rfl) (e3 _ _)
end Go.Proofs.Ytjdffodhbejnjaa.PCtx
