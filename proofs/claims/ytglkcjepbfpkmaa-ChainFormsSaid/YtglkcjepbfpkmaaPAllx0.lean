-- Printed by a program of this session over the kit's printer (wip/gen/pr.py). Not trusted: Lean checks it.
import Derived.Test.YtglkcjepbfpkmaaProg
import Derived.Test.YtglkcjepbfpkmaaExtra
import Derived.Below
import Derived.Deep.Draws
import Derived.Deep.AppendLies
import Derived.Maps.AppendAt
import Derived.OwnWalk
import Derived.Laws.BytesArg
import Derived.Laws.MakeOwn
import Derived.Laws.OwnMore
import Derived.Deep.OwnRows
import Derived.Tactics
import Derived.Lib.ConvBytes
import Derived.Laws.Slices
import Derived.WalkKit
import Derived.KernelRfl
import Derived.RowKit3
import Derived.Deep.LoopGhost
import Derived.Deep.QuietTactic
import Derived.BigQuiet
import Derived.WideLaws
import Derived.Deep.DeepCutAuto
import Derived.Deep.CutBlock
import Derived.Deep.RegionHeld3
import Derived.Laws.Rows
import Derived.Lib.AppendStr
import Derived.ArgAppend
import Derived.Laws.IdiomCopy
import Derived.OrdersHeld
import Derived.Laws.BitsLemmas
import Derived.RowKit
import Derived.Test.YtglkcjepbfpkmaaWWords
import Derived.Test.YtglkcjepbfpkmaaWLast
import Derived.Test.YtglkcjepbfpkmaaWTab
import Derived.Test.YtglkcjepbfpkmaaWFour
import Derived.Test.YtglkcjepbfpkmaaWQPut
import Derived.Test.YtglkcjepbfpkmaaWApart
import Derived.Test.YtglkcjepbfpkmaaWArr
import Derived.Test.YtglkcjepbfpkmaaWZeros
import Derived.Test.YtglkcjepbfpkmaaWFoot
import Derived.Test.YtglkcjepbfpkmaaWKept
import Derived.Test.YtglkcjepbfpkmaaWShare
import Derived.Test.YtglkcjepbfpkmaaWN
import Derived.Test.YtglkcjepbfpkmaaWFootNe
import Derived.Test.YtglkcjepbfpkmaaWAt
import Derived.Test.YtglkcjepbfpkmaaWEqStruct
import Derived.Test.YtglkcjepbfpkmaaWRepsOne
import Derived.Test.YtglkcjepbfpkmaaWInv
import Derived.Test.YtglkcjepbfpkmaaWInvWords
import Derived.Test.YtglkcjepbfpkmaaWGuard
import Derived.Test.YtglkcjepbfpkmaaWNEv
import Derived.Test.YtglkcjepbfpkmaaWMore
namespace Go.Proofs.Ytglkcjepbfpkmaa.PAll
open Go.RowKit Go.Proofs.YtglkcjepbfpkmaaW.PrintWords Go.Proofs.YtglkcjepbfpkmaaW.PrintLast Go.Proofs.YtglkcjepbfpkmaaW.PrintMore
attribute [local go_sem] max2_int min2_int max_two min_two max_three min_three max_four min_four   -- for this text's walks alone
set_option linter.unusedVariables false
set_option linter.unusedSimpArgs false



def errW : Option Int → Value
  | none => .nilIface
  | some c => .iface 0 (.int .i64 c)
theorem errW_none : errW none = .nilIface := rfl
theorem errW_some (c : Int) : errW (some c) = .iface 0 (.int .i64 c) := rfl

-- the values' own types

end Go.Proofs.Ytglkcjepbfpkmaa.PAll
