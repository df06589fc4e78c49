/- Two looks at a goal: does the code that is left begin with a loop? -/
import Derived.Test.YtkngkmemcokbfaaProg
import Derived.Below
import Derived.WalkKit
namespace Go.Proofs.Ytkngkmemcokbfaa.Extra
open Go
set_option linter.unusedVariables false
set_option linter.unusedSimpArgs false
theorem ahead_loop {P : Program} {c : Code} {Q : Exit → Act → World → Prop} {a : Act} {w : World} (h : Code.wp P (.loop c) Q a w) : Code.wp P (.loop c) Q a w := h
theorem ahead_loop_seq {P : Program} {c r : Code} {Q : Exit → Act → World → Prop} {a : Act} {w : World} (h : Code.wp P (.seq (.loop c) r) Q a w) : Code.wp P (.seq (.loop c) r) Q a w := h
end Go.Proofs.Ytkngkmemcokbfaa.Extra
