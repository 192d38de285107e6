/- Words of the walk, those of them that this claim uses. -/
import Derived.SizedLaws
import Derived.ChangeSlices
namespace Go.Proofs.YtdlgalaemnjfjaaW.PrintWords
open Go.ChangeShapes Go.WideShapes
end Go.Proofs.YtdlgalaemnjfjaaW.PrintWords
