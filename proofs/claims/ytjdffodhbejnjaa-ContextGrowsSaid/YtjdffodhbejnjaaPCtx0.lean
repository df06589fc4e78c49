-- Printed by a program of this session over the kit's printer (wip/gen/pr.py). Not trusted: Lean checks it.
import Derived.Test.YtjdffodhbejnjaaProg
import Derived.Test.YtjdffodhbejnjaaExtra
import Derived.Below
import Derived.Deep.Draws
import Derived.Deep.AppendLies
import Derived.Maps.AppendAt
import Derived.OwnWalk
import Derived.Laws.BytesArg
import Derived.Laws.MakeOwn
import Derived.Laws.OwnMore
import Derived.Deep.OwnRows
import Derived.Tactics
import Derived.Lib.ConvBytes
import Derived.Laws.Slices
import Derived.WalkKit
import Derived.KernelRfl
import Derived.RowKit3
import Derived.Deep.LoopGhost
import Derived.Deep.QuietTactic
import Derived.BigQuiet
import Derived.WideLaws
import Derived.Deep.DeepCutAuto
import Derived.Deep.CutBlock
import Derived.Deep.RegionHeld3
import Derived.Laws.Rows
import Derived.Lib.AppendStr
import Derived.ArgAppend
import Derived.Laws.IdiomCopy
import Derived.OrdersHeld
import Derived.Laws.BitsLemmas
import Derived.RowKit
import Derived.Test.YtjdffodhbejnjaaWWords
import Derived.Test.YtjdffodhbejnjaaWLast
import Derived.Test.YtjdffodhbejnjaaWTab
import Derived.Test.YtjdffodhbejnjaaWFour
import Derived.Test.YtjdffodhbejnjaaWQPut
import Derived.Test.YtjdffodhbejnjaaWApart
import Derived.Test.YtjdffodhbejnjaaWArr
import Derived.Test.YtjdffodhbejnjaaWZeros
import Derived.Test.YtjdffodhbejnjaaWFoot
import Derived.Test.YtjdffodhbejnjaaWKept
import Derived.Test.YtjdffodhbejnjaaWShare
import Derived.Test.YtjdffodhbejnjaaWN
import Derived.Test.YtjdffodhbejnjaaWFootNe
import Derived.Test.YtjdffodhbejnjaaWAt
import Derived.Test.YtjdffodhbejnjaaWEqStruct
import Derived.Test.YtjdffodhbejnjaaWRepsOne
import Derived.Test.YtjdffodhbejnjaaWInv
import Derived.Test.YtjdffodhbejnjaaWInvWords
import Derived.Test.YtjdffodhbejnjaaWGuard
import Derived.Test.YtjdffodhbejnjaaWNEv
import Derived.Test.YtjdffodhbejnjaaWMore
namespace Go.Proofs.Ytjdffodhbejnjaa.PCt
open Go.RowKit Go.Proofs.YtjdffodhbejnjaaW.PrintWords Go.Proofs.YtjdffodhbejnjaaW.PrintLast Go.Proofs.YtjdffodhbejnjaaW.PrintMore
attribute [local go_sem] max2_int min2_int max_two min_two max_three min_three max_four min_four   -- for this text's walks alone
set_option linter.unusedVariables false
set_option linter.unusedSimpArgs false



def errW : Option Int → Value
  | none => .nilIface
  | some c => .iface 0 (.int .i64 c)
theorem errW_none : errW none = .nilIface := rfl
theorem errW_some (c : Int) : errW (some c) = .iface 0 (.int .i64 c) := rfl

-- the values' own types

end Go.Proofs.Ytjdffodhbejnjaa.PCt
