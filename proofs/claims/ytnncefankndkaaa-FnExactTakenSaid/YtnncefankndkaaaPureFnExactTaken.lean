/- For every input that the row lets in, FnExactTaken answers true; this text proves the plain law that is left when the machine's side is done. -/
import Derived.Test.YtnncefankndkaaaPFnExactTakenx1
import Derived.Test.YtnncefankndkaaaBase
set_option linter.unusedVariables false
set_option linter.unusedSimpArgs false
namespace Go.Proofs.Ytnncefankndkaaa.Pure
open Go.RowKit Go.Proofs.Ytnncefankndkaaa.PFnExactTaken Go.Proofs.YtnncefankndkaaaW.PrintWords Go.Proofs.YtnncefankndkaaaW.PrintLast Go.Proofs.YtnncefankndkaaaW.PrintMore Go.Proofs.Ytnncefankndkaaa.Base

theorem taken_same (a b c : Int) : impl_Taken.f a b c = spec_Taken.f a b c := rfl
theorem FnExactTaken : laws_FnExactTaken.Pure := by
  intro a0 a1 a2 h0 h1 h2
  unfold laws_FnExactTaken.f
  rw [taken_same]
  have : ∃ r, spec_Taken.f a0 a1 a2 = some r := by
    unfold spec_Taken.f
    repeat' (first | exact ⟨_, rfl⟩ | split)
  obtain ⟨r, hr⟩ := this
  rw [hr]
  simp
end Go.Proofs.Ytnncefankndkaaa.Pure
