/-
  No cell of these rows narrows 'for every input' (looked for: loops, veiled, ifaces, maps, wideKeys, modest, calm, conditions, laid).
  DERIVED. THE GIVEN ROWS OF THIS SEAT. 6 by the template 'for every input the law returns true; each argument reads behind the call as it read before'; 0 by the template 'total and deterministic' (their statements: YtnncefankndkaabTotals.lean).
  GIVEN WITH THE SEED: the statements are not yours to turn. If you find one false, say at which input.
  Laid BY PROGRAM, IN A SANDBOX (cutbox-rows.mjs): the forced cells as the released guide's own fill.sh prints them over the translation 9fb868579a63c060… (all of the seat's roots in one cut). By AI agents, Wed Nov 11 2026. No macro, syntax, notation, axiom, sorry.
-/
import Derived.Test.YtnncefankndkaabChecked
import GoSem.Claim
import GoSem.ClaimJoined
import GoSem.ClaimMapViews
import Derived.JoinedTies
import Derived.KernelRfl
namespace Go.Proofs.Ytnncefankndkaab
/- THE CELL 'sum', in the pinned program and in every row, IS THE sha256 OF THE DUMP (.gsa) THAT YtnncefankndkaabProg.lean LOADS. Nothing in Lean hashes anything: it is a label: what it is worth is what the hold of that sum in a sandbox is worth. -/
noncomputable def Try.pinned : Pinned := { name := "ytnncefankndkaab", sum := "9fb868579a63c060b55c175aac76fbc939ad1d6051bd437ccc3a10bacee7a4ae", checked := Try.checked }
namespace Rows
def none {H : Type} : Left H := { results := [], args := [] }

/-- 'laws.FnExactReadImage': WHATEVER THE INPUT: true; the input reads as it did. -/
def fnExactReadImageSpec : ChangeSpec := { name := "fnExactReadImage", fn := fun _ => fun
  | [d] => { results := [.lit (.bool true)], args := [d] }
  | _ => none }
def fnExactReadImageRow : OpenClaim := { program := "ytnncefankndkaab", sum := "9fb868579a63c060b55c175aac76fbc939ad1d6051bd437ccc3a10bacee7a4ae", func := "loop.example/g00008/laws.FnExactReadImage", spec := "fnExactReadImage", unfollowed := true, recurses := true, apart := false }
def FnExactReadImageSaid : Prop := fnExactReadImageRow.holds Try.pinned (OpenSpec.ofChange fnExactReadImageSpec)

/-- ITS FALSE NEIGHBOUR: 'it returns false'. Refute it at one input. -/
def fnExactReadImageWrong : ChangeSpec := { name := "fnExactReadImage", fn := fun _ => fun
  | [d] => { results := [.lit (.bool false)], args := [d] }
  | _ => none }
def FnExactReadImageWrongFalsely : Prop := fnExactReadImageRow.holds Try.pinned (OpenSpec.ofChange fnExactReadImageWrong)

/-- 'laws.FnExactWide': WHATEVER THE INPUT: true; the input reads as it did. -/
def fnExactWideSpec : ChangeSpec := { name := "fnExactWide", fn := fun _ => fun
  | [d1, d2] => { results := [.lit (.bool true)], args := [d1, d2] }
  | _ => none }
def fnExactWideRow : OpenClaim := { program := "ytnncefankndkaab", sum := "9fb868579a63c060b55c175aac76fbc939ad1d6051bd437ccc3a10bacee7a4ae", func := "loop.example/g00008/laws.FnExactWide", spec := "fnExactWide", apart := false }
def FnExactWideSaid : Prop := fnExactWideRow.holds Try.pinned (OpenSpec.ofChange fnExactWideSpec)

/-- ITS FALSE NEIGHBOUR: 'it returns false'. Refute it at one input. -/
def fnExactWideWrong : ChangeSpec := { name := "fnExactWide", fn := fun _ => fun
  | [d1, d2] => { results := [.lit (.bool false)], args := [d1, d2] }
  | _ => none }
def FnExactWideWrongFalsely : Prop := fnExactWideRow.holds Try.pinned (OpenSpec.ofChange fnExactWideWrong)

/-- 'laws.FnExactPutEntry': WHATEVER THE INPUT: true; the input reads as it did. -/
def fnExactPutEntrySpec : ChangeSpec := { name := "fnExactPutEntry", fn := fun _ => fun
  | [d] => { results := [.lit (.bool true)], args := [d] }
  | _ => none }
def fnExactPutEntryRow : OpenClaim := { program := "ytnncefankndkaab", sum := "9fb868579a63c060b55c175aac76fbc939ad1d6051bd437ccc3a10bacee7a4ae", func := "loop.example/g00008/laws.FnExactPutEntry", spec := "fnExactPutEntry", apart := false }
def FnExactPutEntrySaid : Prop := fnExactPutEntryRow.holds Try.pinned (OpenSpec.ofChange fnExactPutEntrySpec)

/-- ITS FALSE NEIGHBOUR: 'it returns false'. Refute it at one input. -/
def fnExactPutEntryWrong : ChangeSpec := { name := "fnExactPutEntry", fn := fun _ => fun
  | [d] => { results := [.lit (.bool false)], args := [d] }
  | _ => none }
def FnExactPutEntryWrongFalsely : Prop := fnExactPutEntryRow.holds Try.pinned (OpenSpec.ofChange fnExactPutEntryWrong)

/-- 'laws.FnExactGetEntry': WHATEVER THE INPUT: true; the input reads as it did. -/
def fnExactGetEntrySpec : ChangeSpec := { name := "fnExactGetEntry", fn := fun _ => fun
  | [d] => { results := [.lit (.bool true)], args := [d] }
  | _ => none }
def fnExactGetEntryRow : OpenClaim := { program := "ytnncefankndkaab", sum := "9fb868579a63c060b55c175aac76fbc939ad1d6051bd437ccc3a10bacee7a4ae", func := "loop.example/g00008/laws.FnExactGetEntry", spec := "fnExactGetEntry", unfollowed := true, recurses := true, apart := false }
def FnExactGetEntrySaid : Prop := fnExactGetEntryRow.holds Try.pinned (OpenSpec.ofChange fnExactGetEntrySpec)

/-- ITS FALSE NEIGHBOUR: 'it returns false'. Refute it at one input. -/
def fnExactGetEntryWrong : ChangeSpec := { name := "fnExactGetEntry", fn := fun _ => fun
  | [d] => { results := [.lit (.bool false)], args := [d] }
  | _ => none }
def FnExactGetEntryWrongFalsely : Prop := fnExactGetEntryRow.holds Try.pinned (OpenSpec.ofChange fnExactGetEntryWrong)

/-- 'laws.FnExactStoreWord': WHATEVER THE INPUT: true; the input reads as it did. -/
def fnExactStoreWordSpec : ChangeSpec := { name := "fnExactStoreWord", fn := fun _ => fun
  | [d1, d2, d3, d4] => { results := [.lit (.bool true)], args := [d1, d2, d3, d4] }
  | _ => none }
def fnExactStoreWordRow : OpenClaim := { program := "ytnncefankndkaab", sum := "9fb868579a63c060b55c175aac76fbc939ad1d6051bd437ccc3a10bacee7a4ae", func := "loop.example/g00008/laws.FnExactStoreWord", spec := "fnExactStoreWord", apart := false }
def FnExactStoreWordSaid : Prop := fnExactStoreWordRow.holds Try.pinned (OpenSpec.ofChange fnExactStoreWordSpec)

/-- ITS FALSE NEIGHBOUR: 'it returns false'. Refute it at one input. -/
def fnExactStoreWordWrong : ChangeSpec := { name := "fnExactStoreWord", fn := fun _ => fun
  | [d1, d2, d3, d4] => { results := [.lit (.bool false)], args := [d1, d2, d3, d4] }
  | _ => none }
def FnExactStoreWordWrongFalsely : Prop := fnExactStoreWordRow.holds Try.pinned (OpenSpec.ofChange fnExactStoreWordWrong)

/-- 'laws.FnExactLoadWord': WHATEVER THE INPUT: true; the input reads as it did. -/
def fnExactLoadWordSpec : ChangeSpec := { name := "fnExactLoadWord", fn := fun _ => fun
  | [d1, d2, d3, d4] => { results := [.lit (.bool true)], args := [d1, d2, d3, d4] }
  | _ => none }
def fnExactLoadWordRow : OpenClaim := { program := "ytnncefankndkaab", sum := "9fb868579a63c060b55c175aac76fbc939ad1d6051bd437ccc3a10bacee7a4ae", func := "loop.example/g00008/laws.FnExactLoadWord", spec := "fnExactLoadWord", apart := false }
def FnExactLoadWordSaid : Prop := fnExactLoadWordRow.holds Try.pinned (OpenSpec.ofChange fnExactLoadWordSpec)

/-- ITS FALSE NEIGHBOUR: 'it returns false'. Refute it at one input. -/
def fnExactLoadWordWrong : ChangeSpec := { name := "fnExactLoadWord", fn := fun _ => fun
  | [d1, d2, d3, d4] => { results := [.lit (.bool false)], args := [d1, d2, d3, d4] }
  | _ => none }
def FnExactLoadWordWrongFalsely : Prop := fnExactLoadWordRow.holds Try.pinned (OpenSpec.ofChange fnExactLoadWordWrong)

/- THE SECOND FORM. 'bulk': how many values and letters a reading holds, each counted each time it is reached (what is shared counts as often as it is met; a slice's spare places count too). A statement '..UptoSaid' is the law's where the arguments, and the package variables that the reading takes, are together of bulk at most 1048576: NARROWER than '..Said'. Prove '..Said' where nothing that the law and all that it calls make is longer than what came in: it says more and counts as full. Else prove '..UptoSaid'. A law counts once. -/
mutual
def uptoBulk {H : Type} : DataW H → Nat
  | .lit (.string bytes) => bytes.length + 1
  | .lit _ => 1
  | .nil => 1
  | .ptr d => uptoBulk d + 1
  | .slice elems spare => uptoBulkAll elems + uptoBulkAll spare + 1
  | .agg parts => uptoBulkAll parts + 1
  | .iface _ d => uptoBulk d + 1
  | .map entries => uptoBulkEntries entries + 1
  | .held _ => 1
def uptoBulkAll {H : Type} : List (DataW H) → Nat
  | [] => 0
  | d :: r => uptoBulk d + uptoBulkAll r
def uptoBulkEntries {H : Type} : List (Lit × DataW H) → Nat
  | [] => 0
  | x :: r => uptoBulkEntry x + uptoBulkEntries r
def uptoBulkEntry {H : Type} : Lit × DataW H → Nat
  | (.string bytes, d) => bytes.length + uptoBulk d + 1
  | (_, d) => uptoBulk d + 1
 end
def uptoSmall : (H : Type) → List (DataW H) → Bool := fun _ ds => decide (uptoBulkAll ds ≤ 1048576)
def OpenSpec.upto (s : _root_.Go.ChangeSpec) : _root_.Go.OpenSpec := { _root_.Go.OpenSpec.ofChange s with cond := some uptoSmall }

/-- 'laws.FnExactReadImage', WHERE WHAT IT READS IS OF BULK AT MOST 1048576: true; the input reads as it did. -/
def fnExactReadImageUptoRow : OpenClaim := { program := "ytnncefankndkaab", sum := "9fb868579a63c060b55c175aac76fbc939ad1d6051bd437ccc3a10bacee7a4ae", func := "loop.example/g00008/laws.FnExactReadImage", spec := "fnExactReadImage", unfollowed := true, recurses := true, apart := false, narrowed := true }
def FnExactReadImageUptoSaid : Prop := fnExactReadImageUptoRow.holds Try.pinned (OpenSpec.upto fnExactReadImageSpec)

/-- 'laws.FnExactWide', WHERE WHAT IT READS IS OF BULK AT MOST 1048576: true; the input reads as it did. -/
def fnExactWideUptoRow : OpenClaim := { program := "ytnncefankndkaab", sum := "9fb868579a63c060b55c175aac76fbc939ad1d6051bd437ccc3a10bacee7a4ae", func := "loop.example/g00008/laws.FnExactWide", spec := "fnExactWide", apart := false, narrowed := true }
def FnExactWideUptoSaid : Prop := fnExactWideUptoRow.holds Try.pinned (OpenSpec.upto fnExactWideSpec)

/-- 'laws.FnExactPutEntry', WHERE WHAT IT READS IS OF BULK AT MOST 1048576: true; the input reads as it did. -/
def fnExactPutEntryUptoRow : OpenClaim := { program := "ytnncefankndkaab", sum := "9fb868579a63c060b55c175aac76fbc939ad1d6051bd437ccc3a10bacee7a4ae", func := "loop.example/g00008/laws.FnExactPutEntry", spec := "fnExactPutEntry", apart := false, narrowed := true }
def FnExactPutEntryUptoSaid : Prop := fnExactPutEntryUptoRow.holds Try.pinned (OpenSpec.upto fnExactPutEntrySpec)

/-- 'laws.FnExactGetEntry', WHERE WHAT IT READS IS OF BULK AT MOST 1048576: true; the input reads as it did. -/
def fnExactGetEntryUptoRow : OpenClaim := { program := "ytnncefankndkaab", sum := "9fb868579a63c060b55c175aac76fbc939ad1d6051bd437ccc3a10bacee7a4ae", func := "loop.example/g00008/laws.FnExactGetEntry", spec := "fnExactGetEntry", unfollowed := true, recurses := true, apart := false, narrowed := true }
def FnExactGetEntryUptoSaid : Prop := fnExactGetEntryUptoRow.holds Try.pinned (OpenSpec.upto fnExactGetEntrySpec)

/-- 'laws.FnExactStoreWord', WHERE WHAT IT READS IS OF BULK AT MOST 1048576: true; the input reads as it did. -/
def fnExactStoreWordUptoRow : OpenClaim := { program := "ytnncefankndkaab", sum := "9fb868579a63c060b55c175aac76fbc939ad1d6051bd437ccc3a10bacee7a4ae", func := "loop.example/g00008/laws.FnExactStoreWord", spec := "fnExactStoreWord", apart := false, narrowed := true }
def FnExactStoreWordUptoSaid : Prop := fnExactStoreWordUptoRow.holds Try.pinned (OpenSpec.upto fnExactStoreWordSpec)

/-- 'laws.FnExactLoadWord', WHERE WHAT IT READS IS OF BULK AT MOST 1048576: true; the input reads as it did. -/
def fnExactLoadWordUptoRow : OpenClaim := { program := "ytnncefankndkaab", sum := "9fb868579a63c060b55c175aac76fbc939ad1d6051bd437ccc3a10bacee7a4ae", func := "loop.example/g00008/laws.FnExactLoadWord", spec := "fnExactLoadWord", apart := false, narrowed := true }
def FnExactLoadWordUptoSaid : Prop := fnExactLoadWordUptoRow.holds Try.pinned (OpenSpec.upto fnExactLoadWordSpec)

end Rows
end Go.Proofs.Ytnncefankndkaab
