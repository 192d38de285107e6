-- Written by a program of this session out of the translation. Not trusted: Lean checks it.
import Derived.Test.YtmbcihfdfohfcaaDoorProg
import Derived.Below
import Derived.Deep.Draws
import Derived.Deep.AppendLies
import Derived.Maps.AppendAt
import Derived.OwnWalk
import Derived.Laws.BytesArg
import Derived.Laws.MakeOwn
import Derived.Laws.OwnMore
import Derived.Deep.OwnRows
import Derived.Tactics
import Derived.Lib.ConvBytes
import Derived.Laws.Slices
import Derived.WalkKit
import Derived.KernelRfl
import Derived.RowKit3
import Derived.Deep.LoopGhost
import Derived.Deep.QuietTactic
import Derived.BigQuiet
import Derived.WideLaws
import Derived.Deep.DeepCutAuto
import Derived.Deep.CutBlock
import Derived.Deep.RegionHeld3
import Derived.Laws.Rows
import Derived.Lib.AppendStr
import Derived.ArgAppend
import Derived.Laws.IdiomCopy
import Derived.OrdersHeld
import Derived.Laws.BitsLemmas
import Derived.RowKit
import Derived.StillTailTactics
import Derived.Laws.Externs
import Derived.Test.YtmbcihfdfohfcaaDoorWWords
import Derived.Test.YtmbcihfdfohfcaaDoorWLast
import Derived.Test.YtmbcihfdfohfcaaDoorWTab
import Derived.Test.YtmbcihfdfohfcaaDoorWFour
import Derived.Test.YtmbcihfdfohfcaaDoorWQPut
import Derived.Test.YtmbcihfdfohfcaaDoorWApart
import Derived.Test.YtmbcihfdfohfcaaDoorWArr
import Derived.Test.YtmbcihfdfohfcaaDoorWZeros
import Derived.Test.YtmbcihfdfohfcaaDoorWFoot
import Derived.Test.YtmbcihfdfohfcaaDoorWKept
import Derived.Test.YtmbcihfdfohfcaaDoorWShare
import Derived.Test.YtmbcihfdfohfcaaDoorWN
import Derived.Test.YtmbcihfdfohfcaaDoorWFootNe
import Derived.Test.YtmbcihfdfohfcaaDoorWAt
import Derived.Test.YtmbcihfdfohfcaaDoorWEqStruct
import Derived.Test.YtmbcihfdfohfcaaDoorWRepsOne
import Derived.Test.YtmbcihfdfohfcaaDoorWInv
import Derived.Test.YtmbcihfdfohfcaaDoorWInvWords
import Derived.Test.YtmbcihfdfohfcaaDoorWGuard
import Derived.Test.YtmbcihfdfohfcaaDoorWNEv
import Derived.Test.YtmbcihfdfohfcaaDoorWMore
namespace Go.Proofs.YtmbcihfdfohfcaaDoor.PDecimal
open Go.RowKit Go.Proofs.YtmbcihfdfohfcaaDoorW.PrintWords Go.Proofs.YtmbcihfdfohfcaaDoorW.PrintLast Go.Proofs.YtmbcihfdfohfcaaDoorW.PrintMore
attribute [local go_sem] max2_int min2_int max_two min_two max_three min_three max_four min_four   -- for this text's walks alone
set_option linter.unusedVariables false
set_option linter.unusedSimpArgs false



def errW : Option Int → Value
  | none => .nilIface
  | some c => .iface 0 (.int .i64 c)
theorem errW_none : errW none = .nilIface := rfl
theorem errW_some (c : Int) : errW (some c) = .iface 0 (.int .i64 c) := rfl

theorem info5 : (Tryd.prog.info? 5).map (fun i => (i.zero, i.size, i.bytes)) = some (some (.int .u8 0), 1, 1) := by kernel_rfl
-- the values' own types

end Go.Proofs.YtmbcihfdfohfcaaDoor.PDecimal
