/- For every input that the row lets in, FnExactConstants answers true; this text proves the plain law that is left when the machine's side is done. -/
import Derived.Test.YtnncefankndkaaaPFnExactConstantsx1
import Derived.Test.YtnncefankndkaaaBase
set_option linter.unusedVariables false
set_option linter.unusedSimpArgs false
namespace Go.Proofs.Ytnncefankndkaaa.Pure
open Go.RowKit Go.Proofs.Ytnncefankndkaaa.PFnExactConstants Go.Proofs.YtnncefankndkaaaW.PrintWords Go.Proofs.YtnncefankndkaaaW.PrintLast Go.Proofs.YtnncefankndkaaaW.PrintMore Go.Proofs.Ytnncefankndkaaa.Base

theorem FnExactConstants : laws_FnExactConstants.Pure := by
  unfold laws_FnExactConstants.Pure laws_FnExactConstants.f
  rfl
end Go.Proofs.Ytnncefankndkaaa.Pure
