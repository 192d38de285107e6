/-
  No cell of these rows narrows 'for every input' (looked for: loops, veiled, ifaces, maps, wideKeys, modest, calm, conditions, laid).
  DERIVED. THE GIVEN ROWS OF THIS SEAT. 6 by the template 'for every input the law returns true; each argument reads behind the call as it read before'; 0 by the template 'total and deterministic' (their statements: YtnncefankndkaaaTotals.lean).
  GIVEN WITH THE SEED: the statements are not yours to turn. If you find one false, say at which input.
  Laid BY PROGRAM, IN A SANDBOX (cutbox-rows.mjs): the forced cells as the released guide's own fill.sh prints them over the translation 6a50c3521d012c84… (all of the seat's roots in one cut). By AI agents, Wed Nov 11 2026. No macro, syntax, notation, axiom, sorry.
-/
import Derived.Test.YtnncefankndkaaaChecked
import GoSem.Claim
import GoSem.ClaimJoined
import GoSem.ClaimMapViews
import Derived.JoinedTies
import Derived.KernelRfl
namespace Go.Proofs.Ytnncefankndkaaa
/- THE CELL 'sum', in the pinned program and in every row, IS THE sha256 OF THE DUMP (.gsa) THAT YtnncefankndkaaaProg.lean LOADS. Nothing in Lean hashes anything: it is a label: what it is worth is what the hold of that sum in a sandbox is worth. -/
noncomputable def Try.pinned : Pinned := { name := "ytnncefankndkaaa", sum := "6a50c3521d012c84387fc3c04eade11c01307d4b6757bd088bb6006889a7cdc3", checked := Try.checked }
namespace Rows
def none {H : Type} : Left H := { results := [], args := [] }

/-- 'laws.FnExactConstants': WHATEVER THE INPUT: true; the input reads as it did. -/
def fnExactConstantsSpec : ChangeSpec := { name := "fnExactConstants", fn := fun _ => fun
  | [] => { results := [.lit (.bool true)], args := [] }
  | _ => none }
def fnExactConstantsRow : OpenClaim := { program := "ytnncefankndkaaa", sum := "6a50c3521d012c84387fc3c04eade11c01307d4b6757bd088bb6006889a7cdc3", func := "loop.example/g00008/laws.FnExactConstants", spec := "fnExactConstants", apart := false }
def FnExactConstantsSaid : Prop := fnExactConstantsRow.holds Try.pinned (OpenSpec.ofChange fnExactConstantsSpec)

/-- ITS FALSE NEIGHBOUR: 'it returns false'. Refute it at one input. -/
def fnExactConstantsWrong : ChangeSpec := { name := "fnExactConstants", fn := fun _ => fun
  | [] => { results := [.lit (.bool false)], args := [] }
  | _ => none }
def FnExactConstantsWrongFalsely : Prop := fnExactConstantsRow.holds Try.pinned (OpenSpec.ofChange fnExactConstantsWrong)

/-- 'laws.FnExactBits': WHATEVER THE INPUT: true; the input reads as it did. -/
def fnExactBitsSpec : ChangeSpec := { name := "fnExactBits", fn := fun _ => fun
  | [d1, d2, d3] => { results := [.lit (.bool true)], args := [d1, d2, d3] }
  | _ => none }
def fnExactBitsRow : OpenClaim := { program := "ytnncefankndkaaa", sum := "6a50c3521d012c84387fc3c04eade11c01307d4b6757bd088bb6006889a7cdc3", func := "loop.example/g00008/laws.FnExactBits", spec := "fnExactBits", apart := false }
def FnExactBitsSaid : Prop := fnExactBitsRow.holds Try.pinned (OpenSpec.ofChange fnExactBitsSpec)

/-- ITS FALSE NEIGHBOUR: 'it returns false'. Refute it at one input. -/
def fnExactBitsWrong : ChangeSpec := { name := "fnExactBits", fn := fun _ => fun
  | [d1, d2, d3] => { results := [.lit (.bool false)], args := [d1, d2, d3] }
  | _ => none }
def FnExactBitsWrongFalsely : Prop := fnExactBitsRow.holds Try.pinned (OpenSpec.ofChange fnExactBitsWrong)

/-- 'laws.FnExactExtend': WHATEVER THE INPUT: true; the input reads as it did. -/
def fnExactExtendSpec : ChangeSpec := { name := "fnExactExtend", fn := fun _ => fun
  | [d1, d2] => { results := [.lit (.bool true)], args := [d1, d2] }
  | _ => none }
def fnExactExtendRow : OpenClaim := { program := "ytnncefankndkaaa", sum := "6a50c3521d012c84387fc3c04eade11c01307d4b6757bd088bb6006889a7cdc3", func := "loop.example/g00008/laws.FnExactExtend", spec := "fnExactExtend", apart := false }
def FnExactExtendSaid : Prop := fnExactExtendRow.holds Try.pinned (OpenSpec.ofChange fnExactExtendSpec)

/-- ITS FALSE NEIGHBOUR: 'it returns false'. Refute it at one input. -/
def fnExactExtendWrong : ChangeSpec := { name := "fnExactExtend", fn := fun _ => fun
  | [d1, d2] => { results := [.lit (.bool false)], args := [d1, d2] }
  | _ => none }
def FnExactExtendWrongFalsely : Prop := fnExactExtendRow.holds Try.pinned (OpenSpec.ofChange fnExactExtendWrong)

/-- 'laws.FnExactSetBits': WHATEVER THE INPUT: true; the input reads as it did. -/
def fnExactSetBitsSpec : ChangeSpec := { name := "fnExactSetBits", fn := fun _ => fun
  | [d1, d2, d3, d4] => { results := [.lit (.bool true)], args := [d1, d2, d3, d4] }
  | _ => none }
def fnExactSetBitsRow : OpenClaim := { program := "ytnncefankndkaaa", sum := "6a50c3521d012c84387fc3c04eade11c01307d4b6757bd088bb6006889a7cdc3", func := "loop.example/g00008/laws.FnExactSetBits", spec := "fnExactSetBits", apart := false }
def FnExactSetBitsSaid : Prop := fnExactSetBitsRow.holds Try.pinned (OpenSpec.ofChange fnExactSetBitsSpec)

/-- ITS FALSE NEIGHBOUR: 'it returns false'. Refute it at one input. -/
def fnExactSetBitsWrong : ChangeSpec := { name := "fnExactSetBits", fn := fun _ => fun
  | [d1, d2, d3, d4] => { results := [.lit (.bool false)], args := [d1, d2, d3, d4] }
  | _ => none }
def FnExactSetBitsWrongFalsely : Prop := fnExactSetBitsRow.holds Try.pinned (OpenSpec.ofChange fnExactSetBitsWrong)

/-- 'laws.FnExactTaken': WHATEVER THE INPUT: true; the input reads as it did. -/
def fnExactTakenSpec : ChangeSpec := { name := "fnExactTaken", fn := fun _ => fun
  | [d1, d2, d3] => { results := [.lit (.bool true)], args := [d1, d2, d3] }
  | _ => none }
def fnExactTakenRow : OpenClaim := { program := "ytnncefankndkaaa", sum := "6a50c3521d012c84387fc3c04eade11c01307d4b6757bd088bb6006889a7cdc3", func := "loop.example/g00008/laws.FnExactTaken", spec := "fnExactTaken", apart := false }
def FnExactTakenSaid : Prop := fnExactTakenRow.holds Try.pinned (OpenSpec.ofChange fnExactTakenSpec)

/-- ITS FALSE NEIGHBOUR: 'it returns false'. Refute it at one input. -/
def fnExactTakenWrong : ChangeSpec := { name := "fnExactTaken", fn := fun _ => fun
  | [d1, d2, d3] => { results := [.lit (.bool false)], args := [d1, d2, d3] }
  | _ => none }
def FnExactTakenWrongFalsely : Prop := fnExactTakenRow.holds Try.pinned (OpenSpec.ofChange fnExactTakenWrong)

/-- 'laws.FnExactCrc': WHATEVER THE INPUT: true; the input reads as it did. -/
def fnExactCrcSpec : ChangeSpec := { name := "fnExactCrc", fn := fun _ => fun
  | [d] => { results := [.lit (.bool true)], args := [d] }
  | _ => none }
def fnExactCrcRow : OpenClaim := { program := "ytnncefankndkaaa", sum := "6a50c3521d012c84387fc3c04eade11c01307d4b6757bd088bb6006889a7cdc3", func := "loop.example/g00008/laws.FnExactCrc", spec := "fnExactCrc", apart := false }
def FnExactCrcSaid : Prop := fnExactCrcRow.holds Try.pinned (OpenSpec.ofChange fnExactCrcSpec)

/-- ITS FALSE NEIGHBOUR: 'it returns false'. Refute it at one input. -/
def fnExactCrcWrong : ChangeSpec := { name := "fnExactCrc", fn := fun _ => fun
  | [d] => { results := [.lit (.bool false)], args := [d] }
  | _ => none }
def FnExactCrcWrongFalsely : Prop := fnExactCrcRow.holds Try.pinned (OpenSpec.ofChange fnExactCrcWrong)

/- THE SECOND FORM. 'bulk': how many values and letters a reading holds, each counted each time it is reached (what is shared counts as often as it is met; a slice's spare places count too). A statement '..UptoSaid' is the law's where the arguments, and the package variables that the reading takes, are together of bulk at most 1048576: NARROWER than '..Said'. Prove '..Said' where nothing that the law and all that it calls make is longer than what came in: it says more and counts as full. Else prove '..UptoSaid'. A law counts once. -/
mutual
def uptoBulk {H : Type} : DataW H → Nat
  | .lit (.string bytes) => bytes.length + 1
  | .lit _ => 1
  | .nil => 1
  | .ptr d => uptoBulk d + 1
  | .slice elems spare => uptoBulkAll elems + uptoBulkAll spare + 1
  | .agg parts => uptoBulkAll parts + 1
  | .iface _ d => uptoBulk d + 1
  | .map entries => uptoBulkEntries entries + 1
  | .held _ => 1
def uptoBulkAll {H : Type} : List (DataW H) → Nat
  | [] => 0
  | d :: r => uptoBulk d + uptoBulkAll r
def uptoBulkEntries {H : Type} : List (Lit × DataW H) → Nat
  | [] => 0
  | x :: r => uptoBulkEntry x + uptoBulkEntries r
def uptoBulkEntry {H : Type} : Lit × DataW H → Nat
  | (.string bytes, d) => bytes.length + uptoBulk d + 1
  | (_, d) => uptoBulk d + 1
 end
def uptoSmall : (H : Type) → List (DataW H) → Bool := fun _ ds => decide (uptoBulkAll ds ≤ 1048576)
def OpenSpec.upto (s : _root_.Go.ChangeSpec) : _root_.Go.OpenSpec := { _root_.Go.OpenSpec.ofChange s with cond := some uptoSmall }

/-- 'laws.FnExactConstants', WHERE WHAT IT READS IS OF BULK AT MOST 1048576: true; the input reads as it did. -/
def fnExactConstantsUptoRow : OpenClaim := { program := "ytnncefankndkaaa", sum := "6a50c3521d012c84387fc3c04eade11c01307d4b6757bd088bb6006889a7cdc3", func := "loop.example/g00008/laws.FnExactConstants", spec := "fnExactConstants", apart := false, narrowed := true }
def FnExactConstantsUptoSaid : Prop := fnExactConstantsUptoRow.holds Try.pinned (OpenSpec.upto fnExactConstantsSpec)

/-- 'laws.FnExactBits', WHERE WHAT IT READS IS OF BULK AT MOST 1048576: true; the input reads as it did. -/
def fnExactBitsUptoRow : OpenClaim := { program := "ytnncefankndkaaa", sum := "6a50c3521d012c84387fc3c04eade11c01307d4b6757bd088bb6006889a7cdc3", func := "loop.example/g00008/laws.FnExactBits", spec := "fnExactBits", apart := false, narrowed := true }
def FnExactBitsUptoSaid : Prop := fnExactBitsUptoRow.holds Try.pinned (OpenSpec.upto fnExactBitsSpec)

/-- 'laws.FnExactExtend', WHERE WHAT IT READS IS OF BULK AT MOST 1048576: true; the input reads as it did. -/
def fnExactExtendUptoRow : OpenClaim := { program := "ytnncefankndkaaa", sum := "6a50c3521d012c84387fc3c04eade11c01307d4b6757bd088bb6006889a7cdc3", func := "loop.example/g00008/laws.FnExactExtend", spec := "fnExactExtend", apart := false, narrowed := true }
def FnExactExtendUptoSaid : Prop := fnExactExtendUptoRow.holds Try.pinned (OpenSpec.upto fnExactExtendSpec)

/-- 'laws.FnExactSetBits', WHERE WHAT IT READS IS OF BULK AT MOST 1048576: true; the input reads as it did. -/
def fnExactSetBitsUptoRow : OpenClaim := { program := "ytnncefankndkaaa", sum := "6a50c3521d012c84387fc3c04eade11c01307d4b6757bd088bb6006889a7cdc3", func := "loop.example/g00008/laws.FnExactSetBits", spec := "fnExactSetBits", apart := false, narrowed := true }
def FnExactSetBitsUptoSaid : Prop := fnExactSetBitsUptoRow.holds Try.pinned (OpenSpec.upto fnExactSetBitsSpec)

/-- 'laws.FnExactTaken', WHERE WHAT IT READS IS OF BULK AT MOST 1048576: true; the input reads as it did. -/
def fnExactTakenUptoRow : OpenClaim := { program := "ytnncefankndkaaa", sum := "6a50c3521d012c84387fc3c04eade11c01307d4b6757bd088bb6006889a7cdc3", func := "loop.example/g00008/laws.FnExactTaken", spec := "fnExactTaken", apart := false, narrowed := true }
def FnExactTakenUptoSaid : Prop := fnExactTakenUptoRow.holds Try.pinned (OpenSpec.upto fnExactTakenSpec)

/-- 'laws.FnExactCrc', WHERE WHAT IT READS IS OF BULK AT MOST 1048576: true; the input reads as it did. -/
def fnExactCrcUptoRow : OpenClaim := { program := "ytnncefankndkaaa", sum := "6a50c3521d012c84387fc3c04eade11c01307d4b6757bd088bb6006889a7cdc3", func := "loop.example/g00008/laws.FnExactCrc", spec := "fnExactCrc", apart := false, narrowed := true }
def FnExactCrcUptoSaid : Prop := fnExactCrcUptoRow.holds Try.pinned (OpenSpec.upto fnExactCrcSpec)

end Rows
end Go.Proofs.Ytnncefankndkaaa
