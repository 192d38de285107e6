/- For every input that the row lets in, FnExactNewProcs answers true; this text proves the plain law that is left when the machine's side is done. -/
import Derived.Test.YtdlgalaemnjfjaaPFnExactNewProcsx2
import Derived.Test.YtdlgalaemnjfjaaBase
set_option linter.unusedVariables false
set_option linter.unusedSimpArgs false
namespace Go.Proofs.Ytdlgalaemnjfjaa.Pure
open Go.RowKit Go.Proofs.Ytdlgalaemnjfjaa.PFnExactNewProcs Go.Proofs.YtdlgalaemnjfjaaW.PrintWords Go.Proofs.YtdlgalaemnjfjaaW.PrintLast Go.Proofs.YtdlgalaemnjfjaaW.PrintMore Go.Proofs.Ytdlgalaemnjfjaa.Base

theorem FnExactNewProcs : laws_FnExactNewProcs.Pure := ⟨12, by decide +kernel⟩
end Go.Proofs.Ytdlgalaemnjfjaa.Pure
