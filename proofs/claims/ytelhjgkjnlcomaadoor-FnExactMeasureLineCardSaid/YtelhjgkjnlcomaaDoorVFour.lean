-- Out of the words that the kit's print laid for this claim; what the claim does not use is left out.
import Derived.Test.YtelhjgkjnlcomaaDoorVTab
namespace Go.Proofs.YtelhjgkjnlcomaaDoorW.PrintLast
section
variable {P : Program} {ops : Array Oper} {Q : Exit → Act → World → Prop} {md : Region.Mode} {S : World → Prop} {ds : List Nat} {T : Bool × List (List Nat × List Nat)}
end
end Go.Proofs.YtelhjgkjnlcomaaDoorW.PrintLast
