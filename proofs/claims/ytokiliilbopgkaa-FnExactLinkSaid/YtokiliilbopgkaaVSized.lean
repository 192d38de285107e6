/- Words of the walk, those of them that this claim uses. -/
import Derived.SizedLaws
import Derived.ChangeSlices
namespace Go.Proofs.YtokiliilbopgkaaW.PrintWords
open Go.ChangeShapes Go.WideShapes
end Go.Proofs.YtokiliilbopgkaaW.PrintWords
