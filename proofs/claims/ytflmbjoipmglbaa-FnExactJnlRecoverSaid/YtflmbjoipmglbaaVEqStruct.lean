/- Words of the walk, those of them that this claim uses. -/
import Derived.Test.YtflmbjoipmglbaaVWords
import Derived.Laws.StructEq
namespace Go.Proofs.YtflmbjoipmglbaaW.PrintWords
open Go.RowKit
section
variable {P : Program} {d : Nat} {xs ys : Array Value} {f : Field} {fs : List Field} {a b : Value} {r s : Bool} {w : World}
end
end Go.Proofs.YtflmbjoipmglbaaW.PrintWords
