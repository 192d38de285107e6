-- Written by a program of this session out of the translation. Not trusted: Lean checks it.
import Derived.Test.YtnncefankndkaabProg
import Derived.Below
import Derived.Deep.Draws
import Derived.Deep.AppendLies
import Derived.Maps.AppendAt
import Derived.OwnWalk
import Derived.Laws.BytesArg
import Derived.Laws.MakeOwn
import Derived.Laws.OwnMore
import Derived.Deep.OwnRows
import Derived.Tactics
import Derived.Lib.ConvBytes
import Derived.Laws.Slices
import Derived.WalkKit
import Derived.KernelRfl
import Derived.RowKit3
import Derived.Deep.LoopGhost
import Derived.Deep.QuietTactic
import Derived.BigQuiet
import Derived.WideLaws
import Derived.Deep.DeepCutAuto
import Derived.Deep.CutBlock
import Derived.Deep.RegionHeld3
import Derived.Laws.Rows
import Derived.Lib.AppendStr
import Derived.ArgAppend
import Derived.Laws.IdiomCopy
import Derived.OrdersHeld
import Derived.Laws.BitsLemmas
import Derived.RowKit
import Derived.Test.YtnncefankndkaabWWords
import Derived.Test.YtnncefankndkaabWLast
import Derived.Test.YtnncefankndkaabWTab
import Derived.Test.YtnncefankndkaabWFour
import Derived.Test.YtnncefankndkaabWQPut
import Derived.Test.YtnncefankndkaabWApart
import Derived.Test.YtnncefankndkaabWArr
import Derived.Test.YtnncefankndkaabWZeros
import Derived.Test.YtnncefankndkaabWFoot
import Derived.Test.YtnncefankndkaabWKept
import Derived.Test.YtnncefankndkaabWShare
import Derived.Test.YtnncefankndkaabWN
import Derived.Test.YtnncefankndkaabWFootNe
import Derived.Test.YtnncefankndkaabWAt
import Derived.Test.YtnncefankndkaabWEqStruct
import Derived.Test.YtnncefankndkaabWRepsOne
import Derived.Test.YtnncefankndkaabWInv
import Derived.Test.YtnncefankndkaabWInvWords
import Derived.Test.YtnncefankndkaabWGuard
import Derived.Test.YtnncefankndkaabWNEv
import Derived.Test.YtnncefankndkaabWMore
namespace Go.Proofs.Ytnncefankndkaab.PFnExactStoreWord
open Go.RowKit Go.Proofs.YtnncefankndkaabW.PrintWords Go.Proofs.YtnncefankndkaabW.PrintLast Go.Proofs.YtnncefankndkaabW.PrintMore
attribute [local go_sem] max2_int min2_int max_two min_two max_three min_three max_four min_four   -- for this text's walks alone
set_option linter.unusedVariables false
set_option linter.unusedSimpArgs false



def errW : Option Int → Value
  | none => .nilIface
  | some c => .iface 0 (.int .i64 c)
theorem errW_none : errW none = .nilIface := rfl
theorem errW_some (c : Int) : errW (some c) = .iface 0 (.int .i64 c) := rfl

theorem info5 : (Try.prog.info? 5).map (fun i => (i.zero, i.size, i.bytes)) = some (some (.int .u8 0), 1, 1) := by kernel_rfl
-- the values' own types

end Go.Proofs.Ytnncefankndkaab.PFnExactStoreWord
