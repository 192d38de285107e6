/- Words of the walk, those of them that this claim uses. -/
import Derived.Test.YtdlgalaemnjfjaaVWords
import Derived.Laws.StructEq
namespace Go.Proofs.YtdlgalaemnjfjaaW.PrintWords
open Go.RowKit
section
variable {P : Program} {d : Nat} {xs ys : Array Value} {f : Field} {fs : List Field} {a b : Value} {r s : Bool} {w : World}
end
end Go.Proofs.YtdlgalaemnjfjaaW.PrintWords
