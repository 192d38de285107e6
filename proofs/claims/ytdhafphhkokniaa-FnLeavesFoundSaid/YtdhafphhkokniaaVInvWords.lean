/- Words of the walk, those of them that this claim uses. -/
import Derived.Test.YtdhafphhkokniaaVInv
import Derived.Test.YtdhafphhkokniaaVFootNe
namespace Go.Proofs.YtdhafphhkokniaaW.PrintWords
open Go.RowKit
end Go.Proofs.YtdhafphhkokniaaW.PrintWords
namespace Go.Proofs.YtdhafphhkokniaaW.PrintLast
section
variable {ops : Array Oper} {a : Act} {o og : Oper} {g : Nat} {t : Tmp} {u : Bool}
end
end Go.Proofs.YtdhafphhkokniaaW.PrintLast
