/- Words of the walk, those of them that this claim uses. -/
import Derived.Test.YtdlgalaemnjfjaaVTab
namespace Go.Proofs.YtdlgalaemnjfjaaW.PrintLast
section
variable {P : Program} {ops : Array Oper} {Q : Exit → Act → World → Prop} {md : Region.Mode} {S : World → Prop} {ds : List Nat} {T : Bool × List (List Nat × List Nat)}
end
end Go.Proofs.YtdlgalaemnjfjaaW.PrintLast
