-- Out of the words that the kit's print laid for this claim; what the claim does not use is left out.
import Derived.Test.YtelhjgkjnlcomaaDoorVInv
import Derived.Test.YtelhjgkjnlcomaaDoorVFootNe
namespace Go.Proofs.YtelhjgkjnlcomaaDoorW.PrintWords
open Go.RowKit
end Go.Proofs.YtelhjgkjnlcomaaDoorW.PrintWords
namespace Go.Proofs.YtelhjgkjnlcomaaDoorW.PrintLast
section
variable {ops : Array Oper} {a : Act} {o og : Oper} {g : Nat} {t : Tmp} {u : Bool}
end
end Go.Proofs.YtelhjgkjnlcomaaDoorW.PrintLast
