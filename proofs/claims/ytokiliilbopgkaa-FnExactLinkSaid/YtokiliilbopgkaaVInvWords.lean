/- Words of the walk, those of them that this claim uses. -/
import Derived.Test.YtokiliilbopgkaaVInv
import Derived.Test.YtokiliilbopgkaaVFootNe
namespace Go.Proofs.YtokiliilbopgkaaW.PrintWords
open Go.RowKit
end Go.Proofs.YtokiliilbopgkaaW.PrintWords
namespace Go.Proofs.YtokiliilbopgkaaW.PrintLast
section
variable {ops : Array Oper} {a : Act} {o og : Oper} {g : Nat} {t : Tmp} {u : Bool}
end
end Go.Proofs.YtokiliilbopgkaaW.PrintLast
