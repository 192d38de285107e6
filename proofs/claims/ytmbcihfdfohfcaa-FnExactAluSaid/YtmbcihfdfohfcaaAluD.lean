/- The walk of impl.Alu, for all of its operations. -/
import Derived.Test.YtmbcihfdfohfcaaAluA
import Derived.Test.YtmbcihfdfohfcaaAluB
import Derived.Test.YtmbcihfdfohfcaaAluC
namespace Go.Proofs.Ytmbcihfdfohfcaa.PFnExactAlu
open Go.RowKit Go.Proofs.YtmbcihfdfohfcaaW.PrintWords Go.Proofs.YtmbcihfdfohfcaaW.PrintLast Go.Proofs.YtmbcihfdfohfcaaW.PrintMore
attribute [local go_sem] max2_int min2_int max_two min_two max_three min_three max_four min_four   -- for this text's walks alone
set_option linter.unusedVariables false
set_option linter.unusedSimpArgs false

theorem impl_Alu.calls (k : Nat) (a0 : Int) (a1 : Int) (a2 : Int) (r1 : Int) (r2 : Bool) (w : World) (h : impl_Alu.f k a0 a1 a2 = some (r1, r2)) :
    Calls Try.prog 8 #[.int .i64 a0, .int .u64 a1, .int .u64 a2] w fun e w' => e = .returned (.tuple #[.int .u64 r1, .bool r2]) ∧ Below w.heap.size w w' := by
  by_cases h1 : 1 ≤ impl_Alu.op0 a0 ∧ impl_Alu.op0 a0 ≤ 13
  · exact impl_Alu.callsA k a0 a1 a2 r1 r2 w h1 h
  · by_cases h2 : 14 ≤ impl_Alu.op0 a0 ∧ impl_Alu.op0 a0 ≤ 17
    · exact impl_Alu.callsB k a0 a1 a2 r1 r2 w h2 h
    · exact impl_Alu.callsC k a0 a1 a2 r1 r2 w (by omega) h
end Go.Proofs.Ytmbcihfdfohfcaa.PFnExactAlu
