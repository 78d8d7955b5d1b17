-- Out of the words that the kit's print laid for this claim; what the claim does not use is left out.
import Derived.Test.YtdiphnkkomfmdaaVInv
import Derived.Test.YtdiphnkkomfmdaaVFootNe
namespace Go.Proofs.YtdiphnkkomfmdaaW.PrintWords
open Go.RowKit
end Go.Proofs.YtdiphnkkomfmdaaW.PrintWords
namespace Go.Proofs.YtdiphnkkomfmdaaW.PrintLast
section
variable {ops : Array Oper} {a : Act} {o og : Oper} {g : Nat} {t : Tmp} {u : Bool}
end
end Go.Proofs.YtdiphnkkomfmdaaW.PrintLast
