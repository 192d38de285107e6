/-
  No cell of these rows narrows 'for every input' (looked for: loops, veiled, ifaces, maps, wideKeys, modest, calm, conditions, laid).
  DERIVED. THE GIVEN ROWS OF THIS SEAT. 10 by the template 'for every input the law returns true; each argument reads behind the call as it read before'; 0 by the template 'total and deterministic' (their statements: YtflmbjoipmglbaaTotals.lean).
  GIVEN WITH THE SEED: the statements are not yours to turn. If you find one false, say at which input.
  Laid BY PROGRAM, IN A SANDBOX (cutbox-rows.mjs): the forced cells as the released guide's own fill.sh prints them over the translation 91742af8c7f8ef7b… (all of the seat's roots in one cut). By AI agents, Wed Nov 11 2026. No macro, syntax, notation, axiom, sorry.
-/
import Derived.Test.YtflmbjoipmglbaaChecked
import GoSem.Claim
import GoSem.ClaimJoined
import GoSem.ClaimMapViews
import Derived.JoinedTies
import Derived.KernelRfl
namespace Go.Proofs.Ytflmbjoipmglbaa
/- THE CELL 'sum', in the pinned program and in every row, IS THE sha256 OF THE DUMP (.gsa) THAT YtflmbjoipmglbaaProg.lean LOADS. Nothing in Lean hashes anything: it is a label: what it is worth is what the hold of that sum in a sandbox is worth. -/
noncomputable def Try.pinned : Pinned := { name := "ytflmbjoipmglbaa", sum := "91742af8c7f8ef7bf3a91a26b8d4dd7342d1b4c23dbd55ac91609f385211ae9a", checked := Try.checked }
namespace Rows
def none {H : Type} : Left H := { results := [], args := [] }

/-- 'laws.FnExactDiskAfter': WHATEVER THE INPUT: true; the input reads as it did. -/
def fnExactDiskAfterSpec : ChangeSpec := { name := "fnExactDiskAfter", fn := fun _ => fun
  | [d1, d2] => { results := [.lit (.bool true)], args := [d1, d2] }
  | _ => none }
def fnExactDiskAfterRow : OpenClaim := { program := "ytflmbjoipmglbaa", sum := "91742af8c7f8ef7bf3a91a26b8d4dd7342d1b4c23dbd55ac91609f385211ae9a", func := "loop.example/g00008/laws.FnExactDiskAfter", spec := "fnExactDiskAfter", apart := false }
def FnExactDiskAfterSaid : Prop := fnExactDiskAfterRow.holds Try.pinned (OpenSpec.ofChange fnExactDiskAfterSpec)

/-- ITS FALSE NEIGHBOUR: 'it returns false'. Refute it at one input. -/
def fnExactDiskAfterWrong : ChangeSpec := { name := "fnExactDiskAfter", fn := fun _ => fun
  | [d1, d2] => { results := [.lit (.bool false)], args := [d1, d2] }
  | _ => none }
def FnExactDiskAfterWrongFalsely : Prop := fnExactDiskAfterRow.holds Try.pinned (OpenSpec.ofChange fnExactDiskAfterWrong)

/-- 'laws.FnExactCrash': WHATEVER THE INPUT: true; the input reads as it did. -/
def fnExactCrashSpec : ChangeSpec := { name := "fnExactCrash", fn := fun _ => fun
  | [d1, d2, d3, d4] => { results := [.lit (.bool true)], args := [d1, d2, d3, d4] }
  | _ => none }
def fnExactCrashRow : OpenClaim := { program := "ytflmbjoipmglbaa", sum := "91742af8c7f8ef7bf3a91a26b8d4dd7342d1b4c23dbd55ac91609f385211ae9a", func := "loop.example/g00008/laws.FnExactCrash", spec := "fnExactCrash", apart := false }
def FnExactCrashSaid : Prop := fnExactCrashRow.holds Try.pinned (OpenSpec.ofChange fnExactCrashSpec)

/-- ITS FALSE NEIGHBOUR: 'it returns false'. Refute it at one input. -/
def fnExactCrashWrong : ChangeSpec := { name := "fnExactCrash", fn := fun _ => fun
  | [d1, d2, d3, d4] => { results := [.lit (.bool false)], args := [d1, d2, d3, d4] }
  | _ => none }
def FnExactCrashWrongFalsely : Prop := fnExactCrashRow.holds Try.pinned (OpenSpec.ofChange fnExactCrashWrong)

/-- 'laws.FnExactCacheOk': WHATEVER THE INPUT: true; the input reads as it did. -/
def fnExactCacheOkSpec : ChangeSpec := { name := "fnExactCacheOk", fn := fun _ => fun
  | [d] => { results := [.lit (.bool true)], args := [d] }
  | _ => none }
def fnExactCacheOkRow : OpenClaim := { program := "ytflmbjoipmglbaa", sum := "91742af8c7f8ef7bf3a91a26b8d4dd7342d1b4c23dbd55ac91609f385211ae9a", func := "loop.example/g00008/laws.FnExactCacheOk", spec := "fnExactCacheOk", apart := false }
def FnExactCacheOkSaid : Prop := fnExactCacheOkRow.holds Try.pinned (OpenSpec.ofChange fnExactCacheOkSpec)

/-- ITS FALSE NEIGHBOUR: 'it returns false'. Refute it at one input. -/
def fnExactCacheOkWrong : ChangeSpec := { name := "fnExactCacheOk", fn := fun _ => fun
  | [d] => { results := [.lit (.bool false)], args := [d] }
  | _ => none }
def FnExactCacheOkWrongFalsely : Prop := fnExactCacheOkRow.holds Try.pinned (OpenSpec.ofChange fnExactCacheOkWrong)

/-- 'laws.FnExactNewCache': WHATEVER THE INPUT: true; the input reads as it did. -/
def fnExactNewCacheSpec : ChangeSpec := { name := "fnExactNewCache", fn := fun _ => fun
  | [d1, d2] => { results := [.lit (.bool true)], args := [d1, d2] }
  | _ => none }
def fnExactNewCacheRow : OpenClaim := { program := "ytflmbjoipmglbaa", sum := "91742af8c7f8ef7bf3a91a26b8d4dd7342d1b4c23dbd55ac91609f385211ae9a", func := "loop.example/g00008/laws.FnExactNewCache", spec := "fnExactNewCache", apart := false }
def FnExactNewCacheSaid : Prop := fnExactNewCacheRow.holds Try.pinned (OpenSpec.ofChange fnExactNewCacheSpec)

/-- ITS FALSE NEIGHBOUR: 'it returns false'. Refute it at one input. -/
def fnExactNewCacheWrong : ChangeSpec := { name := "fnExactNewCache", fn := fun _ => fun
  | [d1, d2] => { results := [.lit (.bool false)], args := [d1, d2] }
  | _ => none }
def FnExactNewCacheWrongFalsely : Prop := fnExactNewCacheRow.holds Try.pinned (OpenSpec.ofChange fnExactNewCacheWrong)

/-- 'laws.FnExactCacheSees': WHATEVER THE INPUT: true; the input reads as it did. -/
def fnExactCacheSeesSpec : ChangeSpec := { name := "fnExactCacheSees", fn := fun _ => fun
  | [d1, d2] => { results := [.lit (.bool true)], args := [d1, d2] }
  | _ => none }
def fnExactCacheSeesRow : OpenClaim := { program := "ytflmbjoipmglbaa", sum := "91742af8c7f8ef7bf3a91a26b8d4dd7342d1b4c23dbd55ac91609f385211ae9a", func := "loop.example/g00008/laws.FnExactCacheSees", spec := "fnExactCacheSees", apart := false }
def FnExactCacheSeesSaid : Prop := fnExactCacheSeesRow.holds Try.pinned (OpenSpec.ofChange fnExactCacheSeesSpec)

/-- ITS FALSE NEIGHBOUR: 'it returns false'. Refute it at one input. -/
def fnExactCacheSeesWrong : ChangeSpec := { name := "fnExactCacheSees", fn := fun _ => fun
  | [d1, d2] => { results := [.lit (.bool false)], args := [d1, d2] }
  | _ => none }
def FnExactCacheSeesWrongFalsely : Prop := fnExactCacheSeesRow.holds Try.pinned (OpenSpec.ofChange fnExactCacheSeesWrong)

/-- 'laws.FnExactJnlFormat': WHATEVER THE INPUT: true; the input reads as it did. -/
def fnExactJnlFormatSpec : ChangeSpec := { name := "fnExactJnlFormat", fn := fun _ => fun
  | [d] => { results := [.lit (.bool true)], args := [d] }
  | _ => none }
def fnExactJnlFormatRow : OpenClaim := { program := "ytflmbjoipmglbaa", sum := "91742af8c7f8ef7bf3a91a26b8d4dd7342d1b4c23dbd55ac91609f385211ae9a", func := "loop.example/g00008/laws.FnExactJnlFormat", spec := "fnExactJnlFormat", apart := false }
def FnExactJnlFormatSaid : Prop := fnExactJnlFormatRow.holds Try.pinned (OpenSpec.ofChange fnExactJnlFormatSpec)

/-- ITS FALSE NEIGHBOUR: 'it returns false'. Refute it at one input. -/
def fnExactJnlFormatWrong : ChangeSpec := { name := "fnExactJnlFormat", fn := fun _ => fun
  | [d] => { results := [.lit (.bool false)], args := [d] }
  | _ => none }
def FnExactJnlFormatWrongFalsely : Prop := fnExactJnlFormatRow.holds Try.pinned (OpenSpec.ofChange fnExactJnlFormatWrong)

/-- 'laws.FnExactJnlRead': WHATEVER THE INPUT: true; the input reads as it did. -/
def fnExactJnlReadSpec : ChangeSpec := { name := "fnExactJnlRead", fn := fun _ => fun
  | [d] => { results := [.lit (.bool true)], args := [d] }
  | _ => none }
def fnExactJnlReadRow : OpenClaim := { program := "ytflmbjoipmglbaa", sum := "91742af8c7f8ef7bf3a91a26b8d4dd7342d1b4c23dbd55ac91609f385211ae9a", func := "loop.example/g00008/laws.FnExactJnlRead", spec := "fnExactJnlRead", apart := false }
def FnExactJnlReadSaid : Prop := fnExactJnlReadRow.holds Try.pinned (OpenSpec.ofChange fnExactJnlReadSpec)

/-- ITS FALSE NEIGHBOUR: 'it returns false'. Refute it at one input. -/
def fnExactJnlReadWrong : ChangeSpec := { name := "fnExactJnlRead", fn := fun _ => fun
  | [d] => { results := [.lit (.bool false)], args := [d] }
  | _ => none }
def FnExactJnlReadWrongFalsely : Prop := fnExactJnlReadRow.holds Try.pinned (OpenSpec.ofChange fnExactJnlReadWrong)

/-- 'laws.FnExactJnlMend': WHATEVER THE INPUT: true; the input reads as it did. -/
def fnExactJnlMendSpec : ChangeSpec := { name := "fnExactJnlMend", fn := fun _ => fun
  | [d] => { results := [.lit (.bool true)], args := [d] }
  | _ => none }
def fnExactJnlMendRow : OpenClaim := { program := "ytflmbjoipmglbaa", sum := "91742af8c7f8ef7bf3a91a26b8d4dd7342d1b4c23dbd55ac91609f385211ae9a", func := "loop.example/g00008/laws.FnExactJnlMend", spec := "fnExactJnlMend", apart := false }
def FnExactJnlMendSaid : Prop := fnExactJnlMendRow.holds Try.pinned (OpenSpec.ofChange fnExactJnlMendSpec)

/-- ITS FALSE NEIGHBOUR: 'it returns false'. Refute it at one input. -/
def fnExactJnlMendWrong : ChangeSpec := { name := "fnExactJnlMend", fn := fun _ => fun
  | [d] => { results := [.lit (.bool false)], args := [d] }
  | _ => none }
def FnExactJnlMendWrongFalsely : Prop := fnExactJnlMendRow.holds Try.pinned (OpenSpec.ofChange fnExactJnlMendWrong)

/-- 'laws.FnExactJnlRecover': WHATEVER THE INPUT: true; the input reads as it did. -/
def fnExactJnlRecoverSpec : ChangeSpec := { name := "fnExactJnlRecover", fn := fun _ => fun
  | [d] => { results := [.lit (.bool true)], args := [d] }
  | _ => none }
def fnExactJnlRecoverRow : OpenClaim := { program := "ytflmbjoipmglbaa", sum := "91742af8c7f8ef7bf3a91a26b8d4dd7342d1b4c23dbd55ac91609f385211ae9a", func := "loop.example/g00008/laws.FnExactJnlRecover", spec := "fnExactJnlRecover", apart := false }
def FnExactJnlRecoverSaid : Prop := fnExactJnlRecoverRow.holds Try.pinned (OpenSpec.ofChange fnExactJnlRecoverSpec)

/-- ITS FALSE NEIGHBOUR: 'it returns false'. Refute it at one input. -/
def fnExactJnlRecoverWrong : ChangeSpec := { name := "fnExactJnlRecover", fn := fun _ => fun
  | [d] => { results := [.lit (.bool false)], args := [d] }
  | _ => none }
def FnExactJnlRecoverWrongFalsely : Prop := fnExactJnlRecoverRow.holds Try.pinned (OpenSpec.ofChange fnExactJnlRecoverWrong)

/-- 'laws.FnExactFsFormat': WHATEVER THE INPUT: true; the input reads as it did. -/
def fnExactFsFormatSpec : ChangeSpec := { name := "fnExactFsFormat", fn := fun _ => fun
  | [d] => { results := [.lit (.bool true)], args := [d] }
  | _ => none }
def fnExactFsFormatRow : OpenClaim := { program := "ytflmbjoipmglbaa", sum := "91742af8c7f8ef7bf3a91a26b8d4dd7342d1b4c23dbd55ac91609f385211ae9a", func := "loop.example/g00008/laws.FnExactFsFormat", spec := "fnExactFsFormat", apart := false }
def FnExactFsFormatSaid : Prop := fnExactFsFormatRow.holds Try.pinned (OpenSpec.ofChange fnExactFsFormatSpec)

/-- ITS FALSE NEIGHBOUR: 'it returns false'. Refute it at one input. -/
def fnExactFsFormatWrong : ChangeSpec := { name := "fnExactFsFormat", fn := fun _ => fun
  | [d] => { results := [.lit (.bool false)], args := [d] }
  | _ => none }
def FnExactFsFormatWrongFalsely : Prop := fnExactFsFormatRow.holds Try.pinned (OpenSpec.ofChange fnExactFsFormatWrong)

/- THE SECOND FORM. 'bulk': how many values and letters a reading holds, each counted each time it is reached (what is shared counts as often as it is met; a slice's spare places count too). A statement '..UptoSaid' is the law's where the arguments, and the package variables that the reading takes, are together of bulk at most 1048576: NARROWER than '..Said'. Prove '..Said' where nothing that the law and all that it calls make is longer than what came in: it says more and counts as full. Else prove '..UptoSaid'. A law counts once. -/
mutual
def uptoBulk {H : Type} : DataW H → Nat
  | .lit (.string bytes) => bytes.length + 1
  | .lit _ => 1
  | .nil => 1
  | .ptr d => uptoBulk d + 1
  | .slice elems spare => uptoBulkAll elems + uptoBulkAll spare + 1
  | .agg parts => uptoBulkAll parts + 1
  | .iface _ d => uptoBulk d + 1
  | .map entries => uptoBulkEntries entries + 1
  | .held _ => 1
def uptoBulkAll {H : Type} : List (DataW H) → Nat
  | [] => 0
  | d :: r => uptoBulk d + uptoBulkAll r
def uptoBulkEntries {H : Type} : List (Lit × DataW H) → Nat
  | [] => 0
  | x :: r => uptoBulkEntry x + uptoBulkEntries r
def uptoBulkEntry {H : Type} : Lit × DataW H → Nat
  | (.string bytes, d) => bytes.length + uptoBulk d + 1
  | (_, d) => uptoBulk d + 1
 end
def uptoSmall : (H : Type) → List (DataW H) → Bool := fun _ ds => decide (uptoBulkAll ds ≤ 1048576)
def OpenSpec.upto (s : _root_.Go.ChangeSpec) : _root_.Go.OpenSpec := { _root_.Go.OpenSpec.ofChange s with cond := some uptoSmall }

/-- 'laws.FnExactDiskAfter', WHERE WHAT IT READS IS OF BULK AT MOST 1048576: true; the input reads as it did. -/
def fnExactDiskAfterUptoRow : OpenClaim := { program := "ytflmbjoipmglbaa", sum := "91742af8c7f8ef7bf3a91a26b8d4dd7342d1b4c23dbd55ac91609f385211ae9a", func := "loop.example/g00008/laws.FnExactDiskAfter", spec := "fnExactDiskAfter", apart := false, narrowed := true }
def FnExactDiskAfterUptoSaid : Prop := fnExactDiskAfterUptoRow.holds Try.pinned (OpenSpec.upto fnExactDiskAfterSpec)

/-- 'laws.FnExactCrash', WHERE WHAT IT READS IS OF BULK AT MOST 1048576: true; the input reads as it did. -/
def fnExactCrashUptoRow : OpenClaim := { program := "ytflmbjoipmglbaa", sum := "91742af8c7f8ef7bf3a91a26b8d4dd7342d1b4c23dbd55ac91609f385211ae9a", func := "loop.example/g00008/laws.FnExactCrash", spec := "fnExactCrash", apart := false, narrowed := true }
def FnExactCrashUptoSaid : Prop := fnExactCrashUptoRow.holds Try.pinned (OpenSpec.upto fnExactCrashSpec)

/-- 'laws.FnExactCacheOk', WHERE WHAT IT READS IS OF BULK AT MOST 1048576: true; the input reads as it did. -/
def fnExactCacheOkUptoRow : OpenClaim := { program := "ytflmbjoipmglbaa", sum := "91742af8c7f8ef7bf3a91a26b8d4dd7342d1b4c23dbd55ac91609f385211ae9a", func := "loop.example/g00008/laws.FnExactCacheOk", spec := "fnExactCacheOk", apart := false, narrowed := true }
def FnExactCacheOkUptoSaid : Prop := fnExactCacheOkUptoRow.holds Try.pinned (OpenSpec.upto fnExactCacheOkSpec)

/-- 'laws.FnExactNewCache', WHERE WHAT IT READS IS OF BULK AT MOST 1048576: true; the input reads as it did. -/
def fnExactNewCacheUptoRow : OpenClaim := { program := "ytflmbjoipmglbaa", sum := "91742af8c7f8ef7bf3a91a26b8d4dd7342d1b4c23dbd55ac91609f385211ae9a", func := "loop.example/g00008/laws.FnExactNewCache", spec := "fnExactNewCache", apart := false, narrowed := true }
def FnExactNewCacheUptoSaid : Prop := fnExactNewCacheUptoRow.holds Try.pinned (OpenSpec.upto fnExactNewCacheSpec)

/-- 'laws.FnExactCacheSees', WHERE WHAT IT READS IS OF BULK AT MOST 1048576: true; the input reads as it did. -/
def fnExactCacheSeesUptoRow : OpenClaim := { program := "ytflmbjoipmglbaa", sum := "91742af8c7f8ef7bf3a91a26b8d4dd7342d1b4c23dbd55ac91609f385211ae9a", func := "loop.example/g00008/laws.FnExactCacheSees", spec := "fnExactCacheSees", apart := false, narrowed := true }
def FnExactCacheSeesUptoSaid : Prop := fnExactCacheSeesUptoRow.holds Try.pinned (OpenSpec.upto fnExactCacheSeesSpec)

/-- 'laws.FnExactJnlFormat', WHERE WHAT IT READS IS OF BULK AT MOST 1048576: true; the input reads as it did. -/
def fnExactJnlFormatUptoRow : OpenClaim := { program := "ytflmbjoipmglbaa", sum := "91742af8c7f8ef7bf3a91a26b8d4dd7342d1b4c23dbd55ac91609f385211ae9a", func := "loop.example/g00008/laws.FnExactJnlFormat", spec := "fnExactJnlFormat", apart := false, narrowed := true }
def FnExactJnlFormatUptoSaid : Prop := fnExactJnlFormatUptoRow.holds Try.pinned (OpenSpec.upto fnExactJnlFormatSpec)

/-- 'laws.FnExactJnlRead', WHERE WHAT IT READS IS OF BULK AT MOST 1048576: true; the input reads as it did. -/
def fnExactJnlReadUptoRow : OpenClaim := { program := "ytflmbjoipmglbaa", sum := "91742af8c7f8ef7bf3a91a26b8d4dd7342d1b4c23dbd55ac91609f385211ae9a", func := "loop.example/g00008/laws.FnExactJnlRead", spec := "fnExactJnlRead", apart := false, narrowed := true }
def FnExactJnlReadUptoSaid : Prop := fnExactJnlReadUptoRow.holds Try.pinned (OpenSpec.upto fnExactJnlReadSpec)

/-- 'laws.FnExactJnlMend', WHERE WHAT IT READS IS OF BULK AT MOST 1048576: true; the input reads as it did. -/
def fnExactJnlMendUptoRow : OpenClaim := { program := "ytflmbjoipmglbaa", sum := "91742af8c7f8ef7bf3a91a26b8d4dd7342d1b4c23dbd55ac91609f385211ae9a", func := "loop.example/g00008/laws.FnExactJnlMend", spec := "fnExactJnlMend", apart := false, narrowed := true }
def FnExactJnlMendUptoSaid : Prop := fnExactJnlMendUptoRow.holds Try.pinned (OpenSpec.upto fnExactJnlMendSpec)

/-- 'laws.FnExactJnlRecover', WHERE WHAT IT READS IS OF BULK AT MOST 1048576: true; the input reads as it did. -/
def fnExactJnlRecoverUptoRow : OpenClaim := { program := "ytflmbjoipmglbaa", sum := "91742af8c7f8ef7bf3a91a26b8d4dd7342d1b4c23dbd55ac91609f385211ae9a", func := "loop.example/g00008/laws.FnExactJnlRecover", spec := "fnExactJnlRecover", apart := false, narrowed := true }
def FnExactJnlRecoverUptoSaid : Prop := fnExactJnlRecoverUptoRow.holds Try.pinned (OpenSpec.upto fnExactJnlRecoverSpec)

/-- 'laws.FnExactFsFormat', WHERE WHAT IT READS IS OF BULK AT MOST 1048576: true; the input reads as it did. -/
def fnExactFsFormatUptoRow : OpenClaim := { program := "ytflmbjoipmglbaa", sum := "91742af8c7f8ef7bf3a91a26b8d4dd7342d1b4c23dbd55ac91609f385211ae9a", func := "loop.example/g00008/laws.FnExactFsFormat", spec := "fnExactFsFormat", apart := false, narrowed := true }
def FnExactFsFormatUptoSaid : Prop := fnExactFsFormatUptoRow.holds Try.pinned (OpenSpec.upto fnExactFsFormatSpec)

end Rows
end Go.Proofs.Ytflmbjoipmglbaa
