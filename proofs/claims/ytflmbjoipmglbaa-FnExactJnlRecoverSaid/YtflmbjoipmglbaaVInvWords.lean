/- Words of the walk, those of them that this claim uses. -/
import Derived.Test.YtflmbjoipmglbaaVInv
import Derived.Test.YtflmbjoipmglbaaVFootNe
namespace Go.Proofs.YtflmbjoipmglbaaW.PrintWords
open Go.RowKit
end Go.Proofs.YtflmbjoipmglbaaW.PrintWords
namespace Go.Proofs.YtflmbjoipmglbaaW.PrintLast
section
variable {ops : Array Oper} {a : Act} {o og : Oper} {g : Nat} {t : Tmp} {u : Bool}
end
end Go.Proofs.YtflmbjoipmglbaaW.PrintLast
