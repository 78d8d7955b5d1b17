-- Out of the words that the kit's print laid for this claim; what the claim does not use is left out.
import Derived.Test.YteelfcmlghjknaaVInv
import Derived.Test.YteelfcmlghjknaaVFootNe
namespace Go.Proofs.YteelfcmlghjknaaW.PrintWords
open Go.RowKit
end Go.Proofs.YteelfcmlghjknaaW.PrintWords
namespace Go.Proofs.YteelfcmlghjknaaW.PrintLast
section
variable {ops : Array Oper} {a : Act} {o og : Oper} {g : Nat} {t : Tmp} {u : Bool}
end
end Go.Proofs.YteelfcmlghjknaaW.PrintLast
