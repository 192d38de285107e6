/-
  No cell of these rows narrows 'for every input' (looked for: loops, veiled, ifaces, maps, wideKeys, modest, calm, conditions, laid).
  DERIVED. THE GIVEN ROWS OF THIS SEAT. 12 by the template 'for every input the law returns true; each argument reads behind the call as it read before'; 0 by the template 'total and deterministic' (their statements: YtmjdmaomakkhgaaTotals.lean).
  GIVEN WITH THE SEED: the statements are not yours to turn. If you find one false, say at which input.
  Laid BY PROGRAM, IN A SANDBOX (cutbox-rows.mjs): the forced cells as the released guide's own fill.sh prints them over the translation ff5e076b5d8ca088… (all of the seat's roots in one cut). By AI agents, Wed Nov 11 2026. No macro, syntax, notation, axiom, sorry.
-/
import Derived.Test.YtmjdmaomakkhgaaChecked
import GoSem.Claim
import GoSem.ClaimJoined
import GoSem.ClaimMapViews
import Derived.JoinedTies
import Derived.KernelRfl
namespace Go.Proofs.Ytmjdmaomakkhgaa
/- THE CELL 'sum', in the pinned program and in every row, IS THE sha256 OF THE DUMP (.gsa) THAT YtmjdmaomakkhgaaProg.lean LOADS. Nothing in Lean hashes anything: it is a label: what it is worth is what the hold of that sum in a sandbox is worth. -/
noncomputable def Try.pinned : Pinned := { name := "ytmjdmaomakkhgaa", sum := "ff5e076b5d8ca088f109c791e6198c51be9efb4adeab05641db97ed32a796ed5", checked := Try.checked }
namespace Rows
def none {H : Type} : Left H := { results := [], args := [] }

/-- 'laws.FnExactHeapOk': WHATEVER THE INPUT: true; the input reads as it did. -/
def fnExactHeapOkSpec : ChangeSpec := { name := "fnExactHeapOk", fn := fun _ => fun
  | [d] => { results := [.lit (.bool true)], args := [d] }
  | _ => none }
def fnExactHeapOkRow : OpenClaim := { program := "ytmjdmaomakkhgaa", sum := "ff5e076b5d8ca088f109c791e6198c51be9efb4adeab05641db97ed32a796ed5", func := "loop.example/g00008/laws.FnExactHeapOk", spec := "fnExactHeapOk", apart := false }
def FnExactHeapOkSaid : Prop := fnExactHeapOkRow.holds Try.pinned (OpenSpec.ofChange fnExactHeapOkSpec)

/-- ITS FALSE NEIGHBOUR: 'it returns false'. Refute it at one input. -/
def fnExactHeapOkWrong : ChangeSpec := { name := "fnExactHeapOk", fn := fun _ => fun
  | [d] => { results := [.lit (.bool false)], args := [d] }
  | _ => none }
def FnExactHeapOkWrongFalsely : Prop := fnExactHeapOkRow.holds Try.pinned (OpenSpec.ofChange fnExactHeapOkWrong)

/-- 'laws.FnExactHeapStat': WHATEVER THE INPUT: true; the input reads as it did. -/
def fnExactHeapStatSpec : ChangeSpec := { name := "fnExactHeapStat", fn := fun _ => fun
  | [d] => { results := [.lit (.bool true)], args := [d] }
  | _ => none }
def fnExactHeapStatRow : OpenClaim := { program := "ytmjdmaomakkhgaa", sum := "ff5e076b5d8ca088f109c791e6198c51be9efb4adeab05641db97ed32a796ed5", func := "loop.example/g00008/laws.FnExactHeapStat", spec := "fnExactHeapStat", apart := false }
def FnExactHeapStatSaid : Prop := fnExactHeapStatRow.holds Try.pinned (OpenSpec.ofChange fnExactHeapStatSpec)

/-- ITS FALSE NEIGHBOUR: 'it returns false'. Refute it at one input. -/
def fnExactHeapStatWrong : ChangeSpec := { name := "fnExactHeapStat", fn := fun _ => fun
  | [d] => { results := [.lit (.bool false)], args := [d] }
  | _ => none }
def FnExactHeapStatWrongFalsely : Prop := fnExactHeapStatRow.holds Try.pinned (OpenSpec.ofChange fnExactHeapStatWrong)

/-- 'laws.FnExactHeapGive': WHATEVER THE INPUT: true; the input reads as it did. -/
def fnExactHeapGiveSpec : ChangeSpec := { name := "fnExactHeapGive", fn := fun _ => fun
  | [d1, d2] => { results := [.lit (.bool true)], args := [d1, d2] }
  | _ => none }
def fnExactHeapGiveRow : OpenClaim := { program := "ytmjdmaomakkhgaa", sum := "ff5e076b5d8ca088f109c791e6198c51be9efb4adeab05641db97ed32a796ed5", func := "loop.example/g00008/laws.FnExactHeapGive", spec := "fnExactHeapGive", unfollowed := true, recurses := true, apart := false }
def FnExactHeapGiveSaid : Prop := fnExactHeapGiveRow.holds Try.pinned (OpenSpec.ofChange fnExactHeapGiveSpec)

/-- ITS FALSE NEIGHBOUR: 'it returns false'. Refute it at one input. -/
def fnExactHeapGiveWrong : ChangeSpec := { name := "fnExactHeapGive", fn := fun _ => fun
  | [d1, d2] => { results := [.lit (.bool false)], args := [d1, d2] }
  | _ => none }
def FnExactHeapGiveWrongFalsely : Prop := fnExactHeapGiveRow.holds Try.pinned (OpenSpec.ofChange fnExactHeapGiveWrong)

/-- 'laws.FnExactHeapTake': WHATEVER THE INPUT: true; the input reads as it did. -/
def fnExactHeapTakeSpec : ChangeSpec := { name := "fnExactHeapTake", fn := fun _ => fun
  | [d1, d2] => { results := [.lit (.bool true)], args := [d1, d2] }
  | _ => none }
def fnExactHeapTakeRow : OpenClaim := { program := "ytmjdmaomakkhgaa", sum := "ff5e076b5d8ca088f109c791e6198c51be9efb4adeab05641db97ed32a796ed5", func := "loop.example/g00008/laws.FnExactHeapTake", spec := "fnExactHeapTake", inPlace := ["slices.overlaps[loop.example/g00008/impl.Span]"], apart := false }
def FnExactHeapTakeSaid : Prop := fnExactHeapTakeRow.holds Try.pinned (OpenSpec.ofChange fnExactHeapTakeSpec)

/-- ITS FALSE NEIGHBOUR: 'it returns false'. Refute it at one input. -/
def fnExactHeapTakeWrong : ChangeSpec := { name := "fnExactHeapTake", fn := fun _ => fun
  | [d1, d2] => { results := [.lit (.bool false)], args := [d1, d2] }
  | _ => none }
def FnExactHeapTakeWrongFalsely : Prop := fnExactHeapTakeRow.holds Try.pinned (OpenSpec.ofChange fnExactHeapTakeWrong)

/-- 'laws.FnExactFramesOk': WHATEVER THE INPUT: true; the input reads as it did. -/
def fnExactFramesOkSpec : ChangeSpec := { name := "fnExactFramesOk", fn := fun _ => fun
  | [d] => { results := [.lit (.bool true)], args := [d] }
  | _ => none }
def fnExactFramesOkRow : OpenClaim := { program := "ytmjdmaomakkhgaa", sum := "ff5e076b5d8ca088f109c791e6198c51be9efb4adeab05641db97ed32a796ed5", func := "loop.example/g00008/laws.FnExactFramesOk", spec := "fnExactFramesOk", apart := false }
def FnExactFramesOkSaid : Prop := fnExactFramesOkRow.holds Try.pinned (OpenSpec.ofChange fnExactFramesOkSpec)

/-- ITS FALSE NEIGHBOUR: 'it returns false'. Refute it at one input. -/
def fnExactFramesOkWrong : ChangeSpec := { name := "fnExactFramesOk", fn := fun _ => fun
  | [d] => { results := [.lit (.bool false)], args := [d] }
  | _ => none }
def FnExactFramesOkWrongFalsely : Prop := fnExactFramesOkRow.holds Try.pinned (OpenSpec.ofChange fnExactFramesOkWrong)

/-- 'laws.FnExactFramesLeft': WHATEVER THE INPUT: true; the input reads as it did. -/
def fnExactFramesLeftSpec : ChangeSpec := { name := "fnExactFramesLeft", fn := fun _ => fun
  | [d] => { results := [.lit (.bool true)], args := [d] }
  | _ => none }
def fnExactFramesLeftRow : OpenClaim := { program := "ytmjdmaomakkhgaa", sum := "ff5e076b5d8ca088f109c791e6198c51be9efb4adeab05641db97ed32a796ed5", func := "loop.example/g00008/laws.FnExactFramesLeft", spec := "fnExactFramesLeft", apart := false }
def FnExactFramesLeftSaid : Prop := fnExactFramesLeftRow.holds Try.pinned (OpenSpec.ofChange fnExactFramesLeftSpec)

/-- ITS FALSE NEIGHBOUR: 'it returns false'. Refute it at one input. -/
def fnExactFramesLeftWrong : ChangeSpec := { name := "fnExactFramesLeft", fn := fun _ => fun
  | [d] => { results := [.lit (.bool false)], args := [d] }
  | _ => none }
def FnExactFramesLeftWrongFalsely : Prop := fnExactFramesLeftRow.holds Try.pinned (OpenSpec.ofChange fnExactFramesLeftWrong)

/-- 'laws.FnExactNewFrames': WHATEVER THE INPUT: true; the input reads as it did. -/
def fnExactNewFramesSpec : ChangeSpec := { name := "fnExactNewFrames", fn := fun _ => fun
  | [d] => { results := [.lit (.bool true)], args := [d] }
  | _ => none }
def fnExactNewFramesRow : OpenClaim := { program := "ytmjdmaomakkhgaa", sum := "ff5e076b5d8ca088f109c791e6198c51be9efb4adeab05641db97ed32a796ed5", func := "loop.example/g00008/laws.FnExactNewFrames", spec := "fnExactNewFrames", unfollowed := true, recurses := true, apart := false }
def FnExactNewFramesSaid : Prop := fnExactNewFramesRow.holds Try.pinned (OpenSpec.ofChange fnExactNewFramesSpec)

/-- ITS FALSE NEIGHBOUR: 'it returns false'. Refute it at one input. -/
def fnExactNewFramesWrong : ChangeSpec := { name := "fnExactNewFrames", fn := fun _ => fun
  | [d] => { results := [.lit (.bool false)], args := [d] }
  | _ => none }
def FnExactNewFramesWrongFalsely : Prop := fnExactNewFramesRow.holds Try.pinned (OpenSpec.ofChange fnExactNewFramesWrong)

/-- 'laws.FnExactFramesHold': WHATEVER THE INPUT: true; the input reads as it did. -/
def fnExactFramesHoldSpec : ChangeSpec := { name := "fnExactFramesHold", fn := fun _ => fun
  | [d1, d2, d3] => { results := [.lit (.bool true)], args := [d1, d2, d3] }
  | _ => none }
def fnExactFramesHoldRow : OpenClaim := { program := "ytmjdmaomakkhgaa", sum := "ff5e076b5d8ca088f109c791e6198c51be9efb4adeab05641db97ed32a796ed5", func := "loop.example/g00008/laws.FnExactFramesHold", spec := "fnExactFramesHold", unfollowed := true, recurses := true, apart := false }
def FnExactFramesHoldSaid : Prop := fnExactFramesHoldRow.holds Try.pinned (OpenSpec.ofChange fnExactFramesHoldSpec)

/-- ITS FALSE NEIGHBOUR: 'it returns false'. Refute it at one input. -/
def fnExactFramesHoldWrong : ChangeSpec := { name := "fnExactFramesHold", fn := fun _ => fun
  | [d1, d2, d3] => { results := [.lit (.bool false)], args := [d1, d2, d3] }
  | _ => none }
def FnExactFramesHoldWrongFalsely : Prop := fnExactFramesHoldRow.holds Try.pinned (OpenSpec.ofChange fnExactFramesHoldWrong)

/-- 'laws.FnExactFramesGive': WHATEVER THE INPUT: true; the input reads as it did. -/
def fnExactFramesGiveSpec : ChangeSpec := { name := "fnExactFramesGive", fn := fun _ => fun
  | [d1, d2, d3] => { results := [.lit (.bool true)], args := [d1, d2, d3] }
  | _ => none }
def fnExactFramesGiveRow : OpenClaim := { program := "ytmjdmaomakkhgaa", sum := "ff5e076b5d8ca088f109c791e6198c51be9efb4adeab05641db97ed32a796ed5", func := "loop.example/g00008/laws.FnExactFramesGive", spec := "fnExactFramesGive", unfollowed := true, recurses := true, apart := false }
def FnExactFramesGiveSaid : Prop := fnExactFramesGiveRow.holds Try.pinned (OpenSpec.ofChange fnExactFramesGiveSpec)

/-- ITS FALSE NEIGHBOUR: 'it returns false'. Refute it at one input. -/
def fnExactFramesGiveWrong : ChangeSpec := { name := "fnExactFramesGive", fn := fun _ => fun
  | [d1, d2, d3] => { results := [.lit (.bool false)], args := [d1, d2, d3] }
  | _ => none }
def FnExactFramesGiveWrongFalsely : Prop := fnExactFramesGiveRow.holds Try.pinned (OpenSpec.ofChange fnExactFramesGiveWrong)

/-- 'laws.FnExactFramesTake': WHATEVER THE INPUT: true; the input reads as it did. -/
def fnExactFramesTakeSpec : ChangeSpec := { name := "fnExactFramesTake", fn := fun _ => fun
  | [d1, d2] => { results := [.lit (.bool true)], args := [d1, d2] }
  | _ => none }
def fnExactFramesTakeRow : OpenClaim := { program := "ytmjdmaomakkhgaa", sum := "ff5e076b5d8ca088f109c791e6198c51be9efb4adeab05641db97ed32a796ed5", func := "loop.example/g00008/laws.FnExactFramesTake", spec := "fnExactFramesTake", unfollowed := true, recurses := true, apart := false }
def FnExactFramesTakeSaid : Prop := fnExactFramesTakeRow.holds Try.pinned (OpenSpec.ofChange fnExactFramesTakeSpec)

/-- ITS FALSE NEIGHBOUR: 'it returns false'. Refute it at one input. -/
def fnExactFramesTakeWrong : ChangeSpec := { name := "fnExactFramesTake", fn := fun _ => fun
  | [d1, d2] => { results := [.lit (.bool false)], args := [d1, d2] }
  | _ => none }
def FnExactFramesTakeWrongFalsely : Prop := fnExactFramesTakeRow.holds Try.pinned (OpenSpec.ofChange fnExactFramesTakeWrong)

/-- 'laws.FnFramesKept': WHATEVER THE INPUT: true; the input reads as it did. -/
def fnFramesKeptSpec : ChangeSpec := { name := "fnFramesKept", fn := fun _ => fun
  | [d] => { results := [.lit (.bool true)], args := [d] }
  | _ => none }
def fnFramesKeptRow : OpenClaim := { program := "ytmjdmaomakkhgaa", sum := "ff5e076b5d8ca088f109c791e6198c51be9efb4adeab05641db97ed32a796ed5", func := "loop.example/g00008/laws.FnFramesKept", spec := "fnFramesKept", unfollowed := true, recurses := true, apart := false }
def FnFramesKeptSaid : Prop := fnFramesKeptRow.holds Try.pinned (OpenSpec.ofChange fnFramesKeptSpec)

/-- ITS FALSE NEIGHBOUR: 'it returns false'. Refute it at one input. -/
def fnFramesKeptWrong : ChangeSpec := { name := "fnFramesKept", fn := fun _ => fun
  | [d] => { results := [.lit (.bool false)], args := [d] }
  | _ => none }
def FnFramesKeptWrongFalsely : Prop := fnFramesKeptRow.holds Try.pinned (OpenSpec.ofChange fnFramesKeptWrong)

/-- 'laws.FnExactPoolOk': WHATEVER THE INPUT: true; the input reads as it did. -/
def fnExactPoolOkSpec : ChangeSpec := { name := "fnExactPoolOk", fn := fun _ => fun
  | [d] => { results := [.lit (.bool true)], args := [d] }
  | _ => none }
def fnExactPoolOkRow : OpenClaim := { program := "ytmjdmaomakkhgaa", sum := "ff5e076b5d8ca088f109c791e6198c51be9efb4adeab05641db97ed32a796ed5", func := "loop.example/g00008/laws.FnExactPoolOk", spec := "fnExactPoolOk", apart := false }
def FnExactPoolOkSaid : Prop := fnExactPoolOkRow.holds Try.pinned (OpenSpec.ofChange fnExactPoolOkSpec)

/-- ITS FALSE NEIGHBOUR: 'it returns false'. Refute it at one input. -/
def fnExactPoolOkWrong : ChangeSpec := { name := "fnExactPoolOk", fn := fun _ => fun
  | [d] => { results := [.lit (.bool false)], args := [d] }
  | _ => none }
def FnExactPoolOkWrongFalsely : Prop := fnExactPoolOkRow.holds Try.pinned (OpenSpec.ofChange fnExactPoolOkWrong)

/- THE SECOND FORM. 'bulk': how many values and letters a reading holds, each counted each time it is reached (what is shared counts as often as it is met; a slice's spare places count too). A statement '..UptoSaid' is the law's where the arguments, and the package variables that the reading takes, are together of bulk at most 1048576: NARROWER than '..Said'. Prove '..Said' where nothing that the law and all that it calls make is longer than what came in: it says more and counts as full. Else prove '..UptoSaid'. A law counts once. -/
mutual
def uptoBulk {H : Type} : DataW H → Nat
  | .lit (.string bytes) => bytes.length + 1
  | .lit _ => 1
  | .nil => 1
  | .ptr d => uptoBulk d + 1
  | .slice elems spare => uptoBulkAll elems + uptoBulkAll spare + 1
  | .agg parts => uptoBulkAll parts + 1
  | .iface _ d => uptoBulk d + 1
  | .map entries => uptoBulkEntries entries + 1
  | .held _ => 1
def uptoBulkAll {H : Type} : List (DataW H) → Nat
  | [] => 0
  | d :: r => uptoBulk d + uptoBulkAll r
def uptoBulkEntries {H : Type} : List (Lit × DataW H) → Nat
  | [] => 0
  | x :: r => uptoBulkEntry x + uptoBulkEntries r
def uptoBulkEntry {H : Type} : Lit × DataW H → Nat
  | (.string bytes, d) => bytes.length + uptoBulk d + 1
  | (_, d) => uptoBulk d + 1
 end
def uptoSmall : (H : Type) → List (DataW H) → Bool := fun _ ds => decide (uptoBulkAll ds ≤ 1048576)
def OpenSpec.upto (s : _root_.Go.ChangeSpec) : _root_.Go.OpenSpec := { _root_.Go.OpenSpec.ofChange s with cond := some uptoSmall }

/-- 'laws.FnExactHeapOk', WHERE WHAT IT READS IS OF BULK AT MOST 1048576: true; the input reads as it did. -/
def fnExactHeapOkUptoRow : OpenClaim := { program := "ytmjdmaomakkhgaa", sum := "ff5e076b5d8ca088f109c791e6198c51be9efb4adeab05641db97ed32a796ed5", func := "loop.example/g00008/laws.FnExactHeapOk", spec := "fnExactHeapOk", apart := false, narrowed := true }
def FnExactHeapOkUptoSaid : Prop := fnExactHeapOkUptoRow.holds Try.pinned (OpenSpec.upto fnExactHeapOkSpec)

/-- 'laws.FnExactHeapStat', WHERE WHAT IT READS IS OF BULK AT MOST 1048576: true; the input reads as it did. -/
def fnExactHeapStatUptoRow : OpenClaim := { program := "ytmjdmaomakkhgaa", sum := "ff5e076b5d8ca088f109c791e6198c51be9efb4adeab05641db97ed32a796ed5", func := "loop.example/g00008/laws.FnExactHeapStat", spec := "fnExactHeapStat", apart := false, narrowed := true }
def FnExactHeapStatUptoSaid : Prop := fnExactHeapStatUptoRow.holds Try.pinned (OpenSpec.upto fnExactHeapStatSpec)

/-- 'laws.FnExactHeapGive', WHERE WHAT IT READS IS OF BULK AT MOST 1048576: true; the input reads as it did. -/
def fnExactHeapGiveUptoRow : OpenClaim := { program := "ytmjdmaomakkhgaa", sum := "ff5e076b5d8ca088f109c791e6198c51be9efb4adeab05641db97ed32a796ed5", func := "loop.example/g00008/laws.FnExactHeapGive", spec := "fnExactHeapGive", unfollowed := true, recurses := true, apart := false, narrowed := true }
def FnExactHeapGiveUptoSaid : Prop := fnExactHeapGiveUptoRow.holds Try.pinned (OpenSpec.upto fnExactHeapGiveSpec)

/-- 'laws.FnExactHeapTake', WHERE WHAT IT READS IS OF BULK AT MOST 1048576: true; the input reads as it did. -/
def fnExactHeapTakeUptoRow : OpenClaim := { program := "ytmjdmaomakkhgaa", sum := "ff5e076b5d8ca088f109c791e6198c51be9efb4adeab05641db97ed32a796ed5", func := "loop.example/g00008/laws.FnExactHeapTake", spec := "fnExactHeapTake", inPlace := ["slices.overlaps[loop.example/g00008/impl.Span]"], apart := false, narrowed := true }
def FnExactHeapTakeUptoSaid : Prop := fnExactHeapTakeUptoRow.holds Try.pinned (OpenSpec.upto fnExactHeapTakeSpec)

/-- 'laws.FnExactFramesOk', WHERE WHAT IT READS IS OF BULK AT MOST 1048576: true; the input reads as it did. -/
def fnExactFramesOkUptoRow : OpenClaim := { program := "ytmjdmaomakkhgaa", sum := "ff5e076b5d8ca088f109c791e6198c51be9efb4adeab05641db97ed32a796ed5", func := "loop.example/g00008/laws.FnExactFramesOk", spec := "fnExactFramesOk", apart := false, narrowed := true }
def FnExactFramesOkUptoSaid : Prop := fnExactFramesOkUptoRow.holds Try.pinned (OpenSpec.upto fnExactFramesOkSpec)

/-- 'laws.FnExactFramesLeft', WHERE WHAT IT READS IS OF BULK AT MOST 1048576: true; the input reads as it did. -/
def fnExactFramesLeftUptoRow : OpenClaim := { program := "ytmjdmaomakkhgaa", sum := "ff5e076b5d8ca088f109c791e6198c51be9efb4adeab05641db97ed32a796ed5", func := "loop.example/g00008/laws.FnExactFramesLeft", spec := "fnExactFramesLeft", apart := false, narrowed := true }
def FnExactFramesLeftUptoSaid : Prop := fnExactFramesLeftUptoRow.holds Try.pinned (OpenSpec.upto fnExactFramesLeftSpec)

/-- 'laws.FnExactNewFrames', WHERE WHAT IT READS IS OF BULK AT MOST 1048576: true; the input reads as it did. -/
def fnExactNewFramesUptoRow : OpenClaim := { program := "ytmjdmaomakkhgaa", sum := "ff5e076b5d8ca088f109c791e6198c51be9efb4adeab05641db97ed32a796ed5", func := "loop.example/g00008/laws.FnExactNewFrames", spec := "fnExactNewFrames", unfollowed := true, recurses := true, apart := false, narrowed := true }
def FnExactNewFramesUptoSaid : Prop := fnExactNewFramesUptoRow.holds Try.pinned (OpenSpec.upto fnExactNewFramesSpec)

/-- 'laws.FnExactFramesHold', WHERE WHAT IT READS IS OF BULK AT MOST 1048576: true; the input reads as it did. -/
def fnExactFramesHoldUptoRow : OpenClaim := { program := "ytmjdmaomakkhgaa", sum := "ff5e076b5d8ca088f109c791e6198c51be9efb4adeab05641db97ed32a796ed5", func := "loop.example/g00008/laws.FnExactFramesHold", spec := "fnExactFramesHold", unfollowed := true, recurses := true, apart := false, narrowed := true }
def FnExactFramesHoldUptoSaid : Prop := fnExactFramesHoldUptoRow.holds Try.pinned (OpenSpec.upto fnExactFramesHoldSpec)

/-- 'laws.FnExactFramesGive', WHERE WHAT IT READS IS OF BULK AT MOST 1048576: true; the input reads as it did. -/
def fnExactFramesGiveUptoRow : OpenClaim := { program := "ytmjdmaomakkhgaa", sum := "ff5e076b5d8ca088f109c791e6198c51be9efb4adeab05641db97ed32a796ed5", func := "loop.example/g00008/laws.FnExactFramesGive", spec := "fnExactFramesGive", unfollowed := true, recurses := true, apart := false, narrowed := true }
def FnExactFramesGiveUptoSaid : Prop := fnExactFramesGiveUptoRow.holds Try.pinned (OpenSpec.upto fnExactFramesGiveSpec)

/-- 'laws.FnExactFramesTake', WHERE WHAT IT READS IS OF BULK AT MOST 1048576: true; the input reads as it did. -/
def fnExactFramesTakeUptoRow : OpenClaim := { program := "ytmjdmaomakkhgaa", sum := "ff5e076b5d8ca088f109c791e6198c51be9efb4adeab05641db97ed32a796ed5", func := "loop.example/g00008/laws.FnExactFramesTake", spec := "fnExactFramesTake", unfollowed := true, recurses := true, apart := false, narrowed := true }
def FnExactFramesTakeUptoSaid : Prop := fnExactFramesTakeUptoRow.holds Try.pinned (OpenSpec.upto fnExactFramesTakeSpec)

/-- 'laws.FnFramesKept', WHERE WHAT IT READS IS OF BULK AT MOST 1048576: true; the input reads as it did. -/
def fnFramesKeptUptoRow : OpenClaim := { program := "ytmjdmaomakkhgaa", sum := "ff5e076b5d8ca088f109c791e6198c51be9efb4adeab05641db97ed32a796ed5", func := "loop.example/g00008/laws.FnFramesKept", spec := "fnFramesKept", unfollowed := true, recurses := true, apart := false, narrowed := true }
def FnFramesKeptUptoSaid : Prop := fnFramesKeptUptoRow.holds Try.pinned (OpenSpec.upto fnFramesKeptSpec)

/-- 'laws.FnExactPoolOk', WHERE WHAT IT READS IS OF BULK AT MOST 1048576: true; the input reads as it did. -/
def fnExactPoolOkUptoRow : OpenClaim := { program := "ytmjdmaomakkhgaa", sum := "ff5e076b5d8ca088f109c791e6198c51be9efb4adeab05641db97ed32a796ed5", func := "loop.example/g00008/laws.FnExactPoolOk", spec := "fnExactPoolOk", apart := false, narrowed := true }
def FnExactPoolOkUptoSaid : Prop := fnExactPoolOkUptoRow.holds Try.pinned (OpenSpec.upto fnExactPoolOkSpec)

end Rows
end Go.Proofs.Ytmjdmaomakkhgaa
