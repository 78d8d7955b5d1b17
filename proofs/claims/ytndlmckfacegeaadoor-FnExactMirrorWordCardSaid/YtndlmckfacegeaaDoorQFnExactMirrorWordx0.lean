-- Printed for this claim by a changed copy of the kit's print (the session's own; own contracts in place of some functions).
import Derived.Test.YtndlmckfacegeaaDoorProg
import Derived.Below
import Derived.Deep.Draws
import Derived.Deep.AppendLies
import Derived.Maps.AppendAt
import Derived.OwnWalk
import Derived.Laws.BytesArg
import Derived.Laws.MakeOwn
import Derived.Laws.OwnMore
import Derived.Deep.OwnRows
import Derived.Tactics
import Derived.Lib.ConvBytes
import Derived.Laws.Slices
import Derived.WalkKit
import Derived.KernelRfl
import Derived.RowKit3
import Derived.Deep.LoopGhost
import Derived.Deep.QuietTactic
import Derived.BigQuiet
import Derived.WideLaws
import Derived.Deep.DeepCutAuto
import Derived.Deep.CutBlock
import Derived.Deep.RegionHeld3
import Derived.Laws.Rows
import Derived.Lib.AppendStr
import Derived.ArgAppend
import Derived.Laws.IdiomCopy
import Derived.OrdersHeld
import Derived.Laws.BitsLemmas
import Derived.RowKit
import Derived.ChangeAlike
import Derived.Deep.WholeRow
import Derived.Defers
import Derived.Laws.LoneSync
import Derived.Laws.NewBlocks
import Derived.Laws.Pointers
import Derived.Lib.AtoiErrMem
import Derived.Lib.SliceRun
import Derived.RegionCalls
import Derived.Shelf.Strings.SlTrimAscii
import Derived.Tactics2
import Derived.Test.YtndlmckfacegeaaDoorWWords
import Derived.Test.YtndlmckfacegeaaDoorWLast
import Derived.Test.YtndlmckfacegeaaDoorWTab
import Derived.Test.YtndlmckfacegeaaDoorWFour
import Derived.Test.YtndlmckfacegeaaDoorWQPut
import Derived.Test.YtndlmckfacegeaaDoorWApart
import Derived.Test.YtndlmckfacegeaaDoorWArr
import Derived.Test.YtndlmckfacegeaaDoorWZeros
import Derived.Test.YtndlmckfacegeaaDoorWFoot
import Derived.Test.YtndlmckfacegeaaDoorWKept
import Derived.Test.YtndlmckfacegeaaDoorWShare
import Derived.Test.YtndlmckfacegeaaDoorWN
import Derived.Test.YtndlmckfacegeaaDoorWFootNe
import Derived.Test.YtndlmckfacegeaaDoorWAt
import Derived.Test.YtndlmckfacegeaaDoorWEqStruct
import Derived.Test.YtndlmckfacegeaaDoorWRepsOne
import Derived.Test.YtndlmckfacegeaaDoorWInv
import Derived.Test.YtndlmckfacegeaaDoorWInvWords
import Derived.Test.YtndlmckfacegeaaDoorWGuard
import Derived.Test.YtndlmckfacegeaaDoorWNEv
import Derived.Test.YtndlmckfacegeaaDoorWMore
namespace Go.Proofs.YtndlmckfacegeaaDoor.QFnExactMirrorWord
open Go.RowKit Go.Proofs.YtndlmckfacegeaaDoorW.PrintWords Go.Proofs.YtndlmckfacegeaaDoorW.PrintLast Go.Proofs.YtndlmckfacegeaaDoorW.PrintMore
attribute [local go_sem] max2_int min2_int max_two min_two max_three min_three max_four min_four   -- for this text's walks alone
set_option linter.unusedVariables false
set_option linter.unusedSimpArgs false



def errW : Option Int → Value
  | none => .nilIface
  | some c => .iface 0 (.int .i64 c)
theorem errW_none : errW none = .nilIface := rfl
theorem errW_some (c : Int) : errW (some c) = .iface 0 (.int .i64 c) := rfl

-- the values' own types

end Go.Proofs.YtndlmckfacegeaaDoor.QFnExactMirrorWord
