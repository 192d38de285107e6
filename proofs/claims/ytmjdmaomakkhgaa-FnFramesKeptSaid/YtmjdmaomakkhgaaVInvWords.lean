/- Words of the walk, those of them that this claim uses. -/
import Derived.Test.YtmjdmaomakkhgaaVInv
import Derived.Test.YtmjdmaomakkhgaaVFootNe
namespace Go.Proofs.YtmjdmaomakkhgaaW.PrintWords
open Go.RowKit
end Go.Proofs.YtmjdmaomakkhgaaW.PrintWords
namespace Go.Proofs.YtmjdmaomakkhgaaW.PrintLast
section
variable {ops : Array Oper} {a : Act} {o og : Oper} {g : Nat} {t : Tmp} {u : Bool}
end
end Go.Proofs.YtmjdmaomakkhgaaW.PrintLast
