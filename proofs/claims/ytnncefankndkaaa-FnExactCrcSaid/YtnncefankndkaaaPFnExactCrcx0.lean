-- PRINTED BY print.sh 35421559b90ae4d0a3588c463048766b98c2df88dd9212a6774a882060cdf62d: not written by this session
import Derived.Test.YtnncefankndkaaaProg
import Derived.Below
import Derived.Deep.Draws
import Derived.Deep.AppendLies
import Derived.Maps.AppendAt
import Derived.OwnWalk
import Derived.Laws.BytesArg
import Derived.Laws.MakeOwn
import Derived.Laws.OwnMore
import Derived.Deep.OwnRows
import Derived.Tactics
import Derived.Lib.ConvBytes
import Derived.Laws.Slices
import Derived.WalkKit
import Derived.KernelRfl
import Derived.RowKit3
import Derived.Deep.LoopGhost
import Derived.Deep.QuietTactic
import Derived.BigQuiet
import Derived.WideLaws
import Derived.Deep.DeepCutAuto
import Derived.Deep.CutBlock
import Derived.Deep.RegionHeld3
import Derived.Laws.Rows
import Derived.Lib.AppendStr
import Derived.ArgAppend
import Derived.Laws.IdiomCopy
import Derived.OrdersHeld
import Derived.Laws.BitsLemmas
import Derived.RowKit
import Derived.Test.YtnncefankndkaaaWWords
import Derived.Test.YtnncefankndkaaaWLast
import Derived.Test.YtnncefankndkaaaWTab
import Derived.Test.YtnncefankndkaaaWFour
import Derived.Test.YtnncefankndkaaaWQPut
import Derived.Test.YtnncefankndkaaaWApart
import Derived.Test.YtnncefankndkaaaWArr
import Derived.Test.YtnncefankndkaaaWZeros
import Derived.Test.YtnncefankndkaaaWFoot
import Derived.Test.YtnncefankndkaaaWKept
import Derived.Test.YtnncefankndkaaaWShare
import Derived.Test.YtnncefankndkaaaWN
import Derived.Test.YtnncefankndkaaaWFootNe
import Derived.Test.YtnncefankndkaaaWAt
import Derived.Test.YtnncefankndkaaaWEqStruct
import Derived.Test.YtnncefankndkaaaWRepsOne
import Derived.Test.YtnncefankndkaaaWInv
import Derived.Test.YtnncefankndkaaaWInvWords
import Derived.Test.YtnncefankndkaaaWGuard
import Derived.Test.YtnncefankndkaaaWNEv
import Derived.Test.YtnncefankndkaaaWMore
namespace Go.Proofs.Ytnncefankndkaaa.PFnExactCrc
open Go.RowKit Go.Proofs.YtnncefankndkaaaW.PrintWords Go.Proofs.YtnncefankndkaaaW.PrintLast Go.Proofs.YtnncefankndkaaaW.PrintMore
attribute [local go_sem] max2_int min2_int max_two min_two max_three min_three max_four min_four   -- for this text's walks alone
set_option linter.unusedVariables false
set_option linter.unusedSimpArgs false



def errW : Option Int → Value
  | none => .nilIface
  | some c => .iface 0 (.int .i64 c)
theorem errW_none : errW none = .nilIface := rfl
theorem errW_some (c : Int) : errW (some c) = .iface 0 (.int .i64 c) := rfl

theorem info5 : (Try.prog.info? 5).map (fun i => (i.zero, i.size, i.bytes)) = some (some (.int .u8 0), 1, 1) := by kernel_rfl
-- the values' own types

end Go.Proofs.Ytnncefankndkaaa.PFnExactCrc
