-- Printed for this claim by a changed copy of the kit's print (the session's own; own contracts in place of some functions).
import Derived.Test.YtcjliekgkilkoaaProg
import Derived.Below
import Derived.Deep.Draws
import Derived.Deep.AppendLies
import Derived.Maps.AppendAt
import Derived.OwnWalk
import Derived.Laws.BytesArg
import Derived.Laws.MakeOwn
import Derived.Laws.OwnMore
import Derived.Deep.OwnRows
import Derived.Tactics
import Derived.Lib.ConvBytes
import Derived.Laws.Slices
import Derived.WalkKit
import Derived.KernelRfl
import Derived.RowKit3
import Derived.Deep.LoopGhost
import Derived.Deep.QuietTactic
import Derived.BigQuiet
import Derived.WideLaws
import Derived.Deep.DeepCutAuto
import Derived.Deep.CutBlock
import Derived.Deep.RegionHeld3
import Derived.Laws.Rows
import Derived.Lib.AppendStr
import Derived.ArgAppend
import Derived.Laws.IdiomCopy
import Derived.OrdersHeld
import Derived.Laws.BitsLemmas
import Derived.RowKit
import Derived.Test.YtcjliekgkilkoaaWWords
import Derived.Test.YtcjliekgkilkoaaWLast
import Derived.Test.YtcjliekgkilkoaaWTab
import Derived.Test.YtcjliekgkilkoaaWFour
import Derived.Test.YtcjliekgkilkoaaWQPut
import Derived.Test.YtcjliekgkilkoaaWApart
import Derived.Test.YtcjliekgkilkoaaWArr
import Derived.Test.YtcjliekgkilkoaaWZeros
import Derived.Test.YtcjliekgkilkoaaWFoot
import Derived.Test.YtcjliekgkilkoaaWKept
import Derived.Test.YtcjliekgkilkoaaWShare
import Derived.Test.YtcjliekgkilkoaaWN
import Derived.Test.YtcjliekgkilkoaaWFootNe
import Derived.Test.YtcjliekgkilkoaaWAt
import Derived.Test.YtcjliekgkilkoaaWEqStruct
import Derived.Test.YtcjliekgkilkoaaWRepsOne
import Derived.Test.YtcjliekgkilkoaaWInv
import Derived.Test.YtcjliekgkilkoaaWInvWords
import Derived.Test.YtcjliekgkilkoaaWGuard
import Derived.Test.YtcjliekgkilkoaaWNEv
import Derived.Test.YtcjliekgkilkoaaWMore
namespace Go.Proofs.Ytcjliekgkilkoaa.QFnExactValueAfter
open Go.RowKit Go.Proofs.YtcjliekgkilkoaaW.PrintWords Go.Proofs.YtcjliekgkilkoaaW.PrintLast Go.Proofs.YtcjliekgkilkoaaW.PrintMore
attribute [local go_sem] max2_int min2_int max_two min_two max_three min_three max_four min_four   -- for this text's walks alone
set_option linter.unusedVariables false
set_option linter.unusedSimpArgs false



def errW : Option Int → Value
  | none => .nilIface
  | some c => .iface 0 (.int .i64 c)
theorem errW_none : errW none = .nilIface := rfl
theorem errW_some (c : Int) : errW (some c) = .iface 0 (.int .i64 c) := rfl

-- the values' own types

end Go.Proofs.Ytcjliekgkilkoaa.QFnExactValueAfter
