-- Printed for this claim by a changed copy of the kit's print (the session's own; own contracts in place of some functions).
import Derived.Test.YtnblohjdhbadcaaDoorProg
import Derived.Below
import Derived.Deep.Draws
import Derived.Deep.AppendLies
import Derived.Maps.AppendAt
import Derived.OwnWalk
import Derived.Laws.BytesArg
import Derived.Laws.MakeOwn
import Derived.Laws.OwnMore
import Derived.Deep.OwnRows
import Derived.Tactics
import Derived.Lib.ConvBytes
import Derived.Laws.Slices
import Derived.WalkKit
import Derived.KernelRfl
import Derived.RowKit3
import Derived.Deep.LoopGhost
import Derived.Deep.QuietTactic
import Derived.BigQuiet
import Derived.WideLaws
import Derived.Deep.DeepCutAuto
import Derived.Deep.CutBlock
import Derived.Deep.RegionHeld3
import Derived.Laws.Rows
import Derived.Lib.AppendStr
import Derived.ArgAppend
import Derived.Laws.IdiomCopy
import Derived.OrdersHeld
import Derived.Laws.BitsLemmas
import Derived.RowKit
import Derived.Shelf.Strings.SlTrimAscii
import Derived.Test.YtnblohjdhbadcaaDoorWWords
import Derived.Test.YtnblohjdhbadcaaDoorWLast
import Derived.Test.YtnblohjdhbadcaaDoorWTab
import Derived.Test.YtnblohjdhbadcaaDoorWFour
import Derived.Test.YtnblohjdhbadcaaDoorWQPut
import Derived.Test.YtnblohjdhbadcaaDoorWApart
import Derived.Test.YtnblohjdhbadcaaDoorWArr
import Derived.Test.YtnblohjdhbadcaaDoorWZeros
import Derived.Test.YtnblohjdhbadcaaDoorWFoot
import Derived.Test.YtnblohjdhbadcaaDoorWKept
import Derived.Test.YtnblohjdhbadcaaDoorWShare
import Derived.Test.YtnblohjdhbadcaaDoorWN
import Derived.Test.YtnblohjdhbadcaaDoorWFootNe
import Derived.Test.YtnblohjdhbadcaaDoorWAt
import Derived.Test.YtnblohjdhbadcaaDoorWEqStruct
import Derived.Test.YtnblohjdhbadcaaDoorWRepsOne
import Derived.Test.YtnblohjdhbadcaaDoorWInv
import Derived.Test.YtnblohjdhbadcaaDoorWInvWords
import Derived.Test.YtnblohjdhbadcaaDoorWGuard
import Derived.Test.YtnblohjdhbadcaaDoorWNEv
import Derived.Test.YtnblohjdhbadcaaDoorWMore
namespace Go.Proofs.YtnblohjdhbadcaaDoor.QFnExactPiecesAfter
open Go.RowKit Go.Proofs.YtnblohjdhbadcaaDoorW.PrintWords Go.Proofs.YtnblohjdhbadcaaDoorW.PrintLast Go.Proofs.YtnblohjdhbadcaaDoorW.PrintMore
attribute [local go_sem] max2_int min2_int max_two min_two max_three min_three max_four min_four   -- for this text's walks alone
set_option linter.unusedVariables false
set_option linter.unusedSimpArgs false



def errW : Option Int → Value
  | none => .nilIface
  | some c => .iface 0 (.int .i64 c)
theorem errW_none : errW none = .nilIface := rfl
theorem errW_some (c : Int) : errW (some c) = .iface 0 (.int .i64 c) := rfl

-- the values' own types

end Go.Proofs.YtnblohjdhbadcaaDoor.QFnExactPiecesAfter
