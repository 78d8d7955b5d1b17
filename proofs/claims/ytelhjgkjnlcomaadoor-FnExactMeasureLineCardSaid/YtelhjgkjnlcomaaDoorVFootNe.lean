-- Out of the words that the kit's print laid for this claim; what the claim does not use is left out.
import Derived.Test.YtelhjgkjnlcomaaDoorVN
namespace Go.Proofs.YtelhjgkjnlcomaaDoorW.PrintWords
open Go.RowKit
namespace Kd
section
variable {α : Type} {d : Kd α} {W : World} {g n : Nat} {S ok : Nat → Prop} {A : Option Addr} {ad : Addr} {xs : List α}
end
end Kd
end Go.Proofs.YtelhjgkjnlcomaaDoorW.PrintWords
