-- Out of the words that the kit's print laid for this claim; what the claim does not use is left out.
import Derived.Test.YtpmpcaahbhdiiaaVInv
import Derived.Test.YtpmpcaahbhdiiaaVFootNe
namespace Go.Proofs.YtpmpcaahbhdiiaaW.PrintWords
open Go.RowKit
end Go.Proofs.YtpmpcaahbhdiiaaW.PrintWords
namespace Go.Proofs.YtpmpcaahbhdiiaaW.PrintLast
section
variable {ops : Array Oper} {a : Act} {o og : Oper} {g : Nat} {t : Tmp} {u : Bool}
end
end Go.Proofs.YtpmpcaahbhdiiaaW.PrintLast
