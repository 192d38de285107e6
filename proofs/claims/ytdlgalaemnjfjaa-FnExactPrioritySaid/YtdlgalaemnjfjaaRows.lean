/-
  No cell of these rows narrows 'for every input' (looked for: loops, veiled, ifaces, maps, wideKeys, modest, calm, conditions, laid).
  DERIVED. THE GIVEN ROWS OF THIS SEAT. 6 by the template 'for every input the law returns true; each argument reads behind the call as it read before'; 0 by the template 'total and deterministic' (their statements: YtdlgalaemnjfjaaTotals.lean).
  GIVEN WITH THE SEED: the statements are not yours to turn. If you find one false, say at which input.
  Laid BY PROGRAM, IN A SANDBOX (cutbox-rows.mjs): the forced cells as the released guide's own fill.sh prints them over the translation 2f1c5c6885c75ea5… (all of the seat's roots in one cut). By AI agents, Wed Nov 11 2026. No macro, syntax, notation, axiom, sorry.
-/
import Derived.Test.YtdlgalaemnjfjaaChecked
import GoSem.Claim
import GoSem.ClaimJoined
import GoSem.ClaimMapViews
import Derived.JoinedTies
import Derived.KernelRfl
namespace Go.Proofs.Ytdlgalaemnjfjaa
/- THE CELL 'sum', in the pinned program and in every row, IS THE sha256 OF THE DUMP (.gsa) THAT YtdlgalaemnjfjaaProg.lean LOADS. Nothing in Lean hashes anything: it is a label: what it is worth is what the hold of that sum in a sandbox is worth. -/
noncomputable def Try.pinned : Pinned := { name := "ytdlgalaemnjfjaa", sum := "2f1c5c6885c75ea5c10c379341c5f93c92bf5daa8acd28f84ce1d5b49eb4ec6e", checked := Try.checked }
namespace Rows
def none {H : Type} : Left H := { results := [], args := [] }

/-- 'laws.FnExactSchedOk': WHATEVER THE INPUT: true; the input reads as it did. -/
def fnExactSchedOkSpec : ChangeSpec := { name := "fnExactSchedOk", fn := fun _ => fun
  | [d] => { results := [.lit (.bool true)], args := [d] }
  | _ => none }
def fnExactSchedOkRow : OpenClaim := { program := "ytdlgalaemnjfjaa", sum := "2f1c5c6885c75ea5c10c379341c5f93c92bf5daa8acd28f84ce1d5b49eb4ec6e", func := "loop.example/g00008/laws.FnExactSchedOk", spec := "fnExactSchedOk", apart := false }
def FnExactSchedOkSaid : Prop := fnExactSchedOkRow.holds Try.pinned (OpenSpec.ofChange fnExactSchedOkSpec)

/-- ITS FALSE NEIGHBOUR: 'it returns false'. Refute it at one input. -/
def fnExactSchedOkWrong : ChangeSpec := { name := "fnExactSchedOk", fn := fun _ => fun
  | [d] => { results := [.lit (.bool false)], args := [d] }
  | _ => none }
def FnExactSchedOkWrongFalsely : Prop := fnExactSchedOkRow.holds Try.pinned (OpenSpec.ofChange fnExactSchedOkWrong)

/-- 'laws.FnExactPriority': WHATEVER THE INPUT: true; the input reads as it did. -/
def fnExactPrioritySpec : ChangeSpec := { name := "fnExactPriority", fn := fun _ => fun
  | [d1, d2] => { results := [.lit (.bool true)], args := [d1, d2] }
  | _ => none }
def fnExactPriorityRow : OpenClaim := { program := "ytdlgalaemnjfjaa", sum := "2f1c5c6885c75ea5c10c379341c5f93c92bf5daa8acd28f84ce1d5b49eb4ec6e", func := "loop.example/g00008/laws.FnExactPriority", spec := "fnExactPriority", recurses := true, apart := false }
def FnExactPrioritySaid : Prop := fnExactPriorityRow.holds Try.pinned (OpenSpec.ofChange fnExactPrioritySpec)

/-- ITS FALSE NEIGHBOUR: 'it returns false'. Refute it at one input. -/
def fnExactPriorityWrong : ChangeSpec := { name := "fnExactPriority", fn := fun _ => fun
  | [d1, d2] => { results := [.lit (.bool false)], args := [d1, d2] }
  | _ => none }
def FnExactPriorityWrongFalsely : Prop := fnExactPriorityRow.holds Try.pinned (OpenSpec.ofChange fnExactPriorityWrong)

/-- 'laws.FnSchedFair': WHATEVER THE INPUT: true; the input reads as it did. -/
def fnSchedFairSpec : ChangeSpec := { name := "fnSchedFair", fn := fun _ => fun
  | [d] => { results := [.lit (.bool true)], args := [d] }
  | _ => none }
def fnSchedFairRow : OpenClaim := { program := "ytdlgalaemnjfjaa", sum := "2f1c5c6885c75ea5c10c379341c5f93c92bf5daa8acd28f84ce1d5b49eb4ec6e", func := "loop.example/g00008/laws.FnSchedFair", spec := "fnSchedFair", unfollowed := true, recurses := true, apart := false }
def FnSchedFairSaid : Prop := fnSchedFairRow.holds Try.pinned (OpenSpec.ofChange fnSchedFairSpec)

/-- ITS FALSE NEIGHBOUR: 'it returns false'. Refute it at one input. -/
def fnSchedFairWrong : ChangeSpec := { name := "fnSchedFair", fn := fun _ => fun
  | [d] => { results := [.lit (.bool false)], args := [d] }
  | _ => none }
def FnSchedFairWrongFalsely : Prop := fnSchedFairRow.holds Try.pinned (OpenSpec.ofChange fnSchedFairWrong)

/-- 'laws.FnExactNewProcs': WHATEVER THE INPUT: true; the input reads as it did. -/
def fnExactNewProcsSpec : ChangeSpec := { name := "fnExactNewProcs", fn := fun _ => fun
  | [] => { results := [.lit (.bool true)], args := [] }
  | _ => none }
def fnExactNewProcsRow : OpenClaim := { program := "ytdlgalaemnjfjaa", sum := "2f1c5c6885c75ea5c10c379341c5f93c92bf5daa8acd28f84ce1d5b49eb4ec6e", func := "loop.example/g00008/laws.FnExactNewProcs", spec := "fnExactNewProcs", apart := false }
def FnExactNewProcsSaid : Prop := fnExactNewProcsRow.holds Try.pinned (OpenSpec.ofChange fnExactNewProcsSpec)

/-- ITS FALSE NEIGHBOUR: 'it returns false'. Refute it at one input. -/
def fnExactNewProcsWrong : ChangeSpec := { name := "fnExactNewProcs", fn := fun _ => fun
  | [] => { results := [.lit (.bool false)], args := [] }
  | _ => none }
def FnExactNewProcsWrongFalsely : Prop := fnExactNewProcsRow.holds Try.pinned (OpenSpec.ofChange fnExactNewProcsWrong)

/-- 'laws.FnExactProcsOk': WHATEVER THE INPUT: true; the input reads as it did. -/
def fnExactProcsOkSpec : ChangeSpec := { name := "fnExactProcsOk", fn := fun _ => fun
  | [d] => { results := [.lit (.bool true)], args := [d] }
  | _ => none }
def fnExactProcsOkRow : OpenClaim := { program := "ytdlgalaemnjfjaa", sum := "2f1c5c6885c75ea5c10c379341c5f93c92bf5daa8acd28f84ce1d5b49eb4ec6e", func := "loop.example/g00008/laws.FnExactProcsOk", spec := "fnExactProcsOk", apart := false }
def FnExactProcsOkSaid : Prop := fnExactProcsOkRow.holds Try.pinned (OpenSpec.ofChange fnExactProcsOkSpec)

/-- ITS FALSE NEIGHBOUR: 'it returns false'. Refute it at one input. -/
def fnExactProcsOkWrong : ChangeSpec := { name := "fnExactProcsOk", fn := fun _ => fun
  | [d] => { results := [.lit (.bool false)], args := [d] }
  | _ => none }
def FnExactProcsOkWrongFalsely : Prop := fnExactProcsOkRow.holds Try.pinned (OpenSpec.ofChange fnExactProcsOkWrong)

/-- 'laws.FnExactProcTree': WHATEVER THE INPUT: true; the input reads as it did. -/
def fnExactProcTreeSpec : ChangeSpec := { name := "fnExactProcTree", fn := fun _ => fun
  | [d1, d2] => { results := [.lit (.bool true)], args := [d1, d2] }
  | _ => none }
def fnExactProcTreeRow : OpenClaim := { program := "ytdlgalaemnjfjaa", sum := "2f1c5c6885c75ea5c10c379341c5f93c92bf5daa8acd28f84ce1d5b49eb4ec6e", func := "loop.example/g00008/laws.FnExactProcTree", spec := "fnExactProcTree", apart := false }
def FnExactProcTreeSaid : Prop := fnExactProcTreeRow.holds Try.pinned (OpenSpec.ofChange fnExactProcTreeSpec)

/-- ITS FALSE NEIGHBOUR: 'it returns false'. Refute it at one input. -/
def fnExactProcTreeWrong : ChangeSpec := { name := "fnExactProcTree", fn := fun _ => fun
  | [d1, d2] => { results := [.lit (.bool false)], args := [d1, d2] }
  | _ => none }
def FnExactProcTreeWrongFalsely : Prop := fnExactProcTreeRow.holds Try.pinned (OpenSpec.ofChange fnExactProcTreeWrong)

/- THE SECOND FORM. 'bulk': how many values and letters a reading holds, each counted each time it is reached (what is shared counts as often as it is met; a slice's spare places count too). A statement '..UptoSaid' is the law's where the arguments, and the package variables that the reading takes, are together of bulk at most 1048576: NARROWER than '..Said'. Prove '..Said' where nothing that the law and all that it calls make is longer than what came in: it says more and counts as full. Else prove '..UptoSaid'. A law counts once. -/
mutual
def uptoBulk {H : Type} : DataW H → Nat
  | .lit (.string bytes) => bytes.length + 1
  | .lit _ => 1
  | .nil => 1
  | .ptr d => uptoBulk d + 1
  | .slice elems spare => uptoBulkAll elems + uptoBulkAll spare + 1
  | .agg parts => uptoBulkAll parts + 1
  | .iface _ d => uptoBulk d + 1
  | .map entries => uptoBulkEntries entries + 1
  | .held _ => 1
def uptoBulkAll {H : Type} : List (DataW H) → Nat
  | [] => 0
  | d :: r => uptoBulk d + uptoBulkAll r
def uptoBulkEntries {H : Type} : List (Lit × DataW H) → Nat
  | [] => 0
  | x :: r => uptoBulkEntry x + uptoBulkEntries r
def uptoBulkEntry {H : Type} : Lit × DataW H → Nat
  | (.string bytes, d) => bytes.length + uptoBulk d + 1
  | (_, d) => uptoBulk d + 1
 end
def uptoSmall : (H : Type) → List (DataW H) → Bool := fun _ ds => decide (uptoBulkAll ds ≤ 1048576)
def OpenSpec.upto (s : _root_.Go.ChangeSpec) : _root_.Go.OpenSpec := { _root_.Go.OpenSpec.ofChange s with cond := some uptoSmall }

/-- 'laws.FnExactSchedOk', WHERE WHAT IT READS IS OF BULK AT MOST 1048576: true; the input reads as it did. -/
def fnExactSchedOkUptoRow : OpenClaim := { program := "ytdlgalaemnjfjaa", sum := "2f1c5c6885c75ea5c10c379341c5f93c92bf5daa8acd28f84ce1d5b49eb4ec6e", func := "loop.example/g00008/laws.FnExactSchedOk", spec := "fnExactSchedOk", apart := false, narrowed := true }
def FnExactSchedOkUptoSaid : Prop := fnExactSchedOkUptoRow.holds Try.pinned (OpenSpec.upto fnExactSchedOkSpec)

/-- 'laws.FnExactPriority', WHERE WHAT IT READS IS OF BULK AT MOST 1048576: true; the input reads as it did. -/
def fnExactPriorityUptoRow : OpenClaim := { program := "ytdlgalaemnjfjaa", sum := "2f1c5c6885c75ea5c10c379341c5f93c92bf5daa8acd28f84ce1d5b49eb4ec6e", func := "loop.example/g00008/laws.FnExactPriority", spec := "fnExactPriority", recurses := true, apart := false, narrowed := true }
def FnExactPriorityUptoSaid : Prop := fnExactPriorityUptoRow.holds Try.pinned (OpenSpec.upto fnExactPrioritySpec)

/-- 'laws.FnSchedFair', WHERE WHAT IT READS IS OF BULK AT MOST 1048576: true; the input reads as it did. -/
def fnSchedFairUptoRow : OpenClaim := { program := "ytdlgalaemnjfjaa", sum := "2f1c5c6885c75ea5c10c379341c5f93c92bf5daa8acd28f84ce1d5b49eb4ec6e", func := "loop.example/g00008/laws.FnSchedFair", spec := "fnSchedFair", unfollowed := true, recurses := true, apart := false, narrowed := true }
def FnSchedFairUptoSaid : Prop := fnSchedFairUptoRow.holds Try.pinned (OpenSpec.upto fnSchedFairSpec)

/-- 'laws.FnExactNewProcs', WHERE WHAT IT READS IS OF BULK AT MOST 1048576: true; the input reads as it did. -/
def fnExactNewProcsUptoRow : OpenClaim := { program := "ytdlgalaemnjfjaa", sum := "2f1c5c6885c75ea5c10c379341c5f93c92bf5daa8acd28f84ce1d5b49eb4ec6e", func := "loop.example/g00008/laws.FnExactNewProcs", spec := "fnExactNewProcs", apart := false, narrowed := true }
def FnExactNewProcsUptoSaid : Prop := fnExactNewProcsUptoRow.holds Try.pinned (OpenSpec.upto fnExactNewProcsSpec)

/-- 'laws.FnExactProcsOk', WHERE WHAT IT READS IS OF BULK AT MOST 1048576: true; the input reads as it did. -/
def fnExactProcsOkUptoRow : OpenClaim := { program := "ytdlgalaemnjfjaa", sum := "2f1c5c6885c75ea5c10c379341c5f93c92bf5daa8acd28f84ce1d5b49eb4ec6e", func := "loop.example/g00008/laws.FnExactProcsOk", spec := "fnExactProcsOk", apart := false, narrowed := true }
def FnExactProcsOkUptoSaid : Prop := fnExactProcsOkUptoRow.holds Try.pinned (OpenSpec.upto fnExactProcsOkSpec)

/-- 'laws.FnExactProcTree', WHERE WHAT IT READS IS OF BULK AT MOST 1048576: true; the input reads as it did. -/
def fnExactProcTreeUptoRow : OpenClaim := { program := "ytdlgalaemnjfjaa", sum := "2f1c5c6885c75ea5c10c379341c5f93c92bf5daa8acd28f84ce1d5b49eb4ec6e", func := "loop.example/g00008/laws.FnExactProcTree", spec := "fnExactProcTree", apart := false, narrowed := true }
def FnExactProcTreeUptoSaid : Prop := fnExactProcTreeUptoRow.holds Try.pinned (OpenSpec.upto fnExactProcTreeSpec)

end Rows
end Go.Proofs.Ytdlgalaemnjfjaa
