-- Out of the words that the kit's print laid for this claim; what the claim does not use is left out.
import Derived.Test.YtpmpcaahbhdiiaaVWords
import Derived.Laws.StructEq
namespace Go.Proofs.YtpmpcaahbhdiiaaW.PrintWords
open Go.RowKit
section
variable {P : Program} {d : Nat} {xs ys : Array Value} {f : Field} {fs : List Field} {a b : Value} {r s : Bool} {w : World}
end
end Go.Proofs.YtpmpcaahbhdiiaaW.PrintWords
