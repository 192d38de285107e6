/- Words of the walk, those of them that this claim uses. -/
import Derived.Test.YtdlgalaemnjfjaaVInv
import Derived.Test.YtdlgalaemnjfjaaVFootNe
namespace Go.Proofs.YtdlgalaemnjfjaaW.PrintWords
open Go.RowKit
end Go.Proofs.YtdlgalaemnjfjaaW.PrintWords
namespace Go.Proofs.YtdlgalaemnjfjaaW.PrintLast
section
variable {ops : Array Oper} {a : Act} {o og : Oper} {g : Nat} {t : Tmp} {u : Bool}
end
end Go.Proofs.YtdlgalaemnjfjaaW.PrintLast
