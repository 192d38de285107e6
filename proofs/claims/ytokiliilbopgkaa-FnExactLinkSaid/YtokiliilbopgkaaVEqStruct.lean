/- Words of the walk, those of them that this claim uses. -/
import Derived.Test.YtokiliilbopgkaaVWords
import Derived.Laws.StructEq
namespace Go.Proofs.YtokiliilbopgkaaW.PrintWords
open Go.RowKit
section
variable {P : Program} {d : Nat} {xs ys : Array Value} {f : Field} {fs : List Field} {a b : Value} {r s : Bool} {w : World}
end
end Go.Proofs.YtokiliilbopgkaaW.PrintWords
