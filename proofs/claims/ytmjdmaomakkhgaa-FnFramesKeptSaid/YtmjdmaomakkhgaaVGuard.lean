/- Words of the walk, those of them that this claim uses. -/
import Derived.Test.YtmjdmaomakkhgaaVWords
namespace Go.Proofs.YtmjdmaomakkhgaaW.PrintWords
open Go.RowKit
section
variable {P : Program} {ops : Array Oper} {rest : List Oper} {o : Oper} {a : Act} {Q : Exit → Act → World → Prop} {W : World}
end
end Go.Proofs.YtmjdmaomakkhgaaW.PrintWords
