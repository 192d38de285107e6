/-
  No cell of these rows narrows 'for every input' (looked for: loops, veiled, ifaces, maps, wideKeys, modest, calm, conditions, laid).
  DERIVED. THE GIVEN ROWS OF THIS SEAT. 4 by the template 'for every input the law returns true; each argument reads behind the call as it read before'; 0 by the template 'total and deterministic' (their statements: YtokiliilbopgkaaTotals.lean).
  GIVEN WITH THE SEED: the statements are not yours to turn. If you find one false, say at which input.
  Laid BY PROGRAM, IN A SANDBOX (cutbox-rows.mjs): the forced cells as the released guide's own fill.sh prints them over the translation 445bddc5d4911eba… (all of the seat's roots in one cut). By AI agents, Wed Nov 11 2026. No macro, syntax, notation, axiom, sorry.
-/
import Derived.Test.YtokiliilbopgkaaChecked
import GoSem.Claim
import GoSem.ClaimJoined
import GoSem.ClaimMapViews
import Derived.JoinedTies
import Derived.KernelRfl
namespace Go.Proofs.Ytokiliilbopgkaa
/- THE CELL 'sum', in the pinned program and in every row, IS THE sha256 OF THE DUMP (.gsa) THAT YtokiliilbopgkaaProg.lean LOADS. Nothing in Lean hashes anything: it is a label: what it is worth is what the hold of that sum in a sandbox is worth. -/
noncomputable def Try.pinned : Pinned := { name := "ytokiliilbopgkaa", sum := "445bddc5d4911ebaa990da8501f70c7b4793c57f26e6b906949d570632c13f18", checked := Try.checked }
namespace Rows
def none {H : Type} : Left H := { results := [], args := [] }

/-- 'laws.FnExactImageOk': WHATEVER THE INPUT: true; the input reads as it did. -/
def fnExactImageOkSpec : ChangeSpec := { name := "fnExactImageOk", fn := fun _ => fun
  | [d] => { results := [.lit (.bool true)], args := [d] }
  | _ => none }
def fnExactImageOkRow : OpenClaim := { program := "ytokiliilbopgkaa", sum := "445bddc5d4911ebaa990da8501f70c7b4793c57f26e6b906949d570632c13f18", func := "loop.example/g00008/laws.FnExactImageOk", spec := "fnExactImageOk", apart := false }
def FnExactImageOkSaid : Prop := fnExactImageOkRow.holds Try.pinned (OpenSpec.ofChange fnExactImageOkSpec)

/-- ITS FALSE NEIGHBOUR: 'it returns false'. Refute it at one input. -/
def fnExactImageOkWrong : ChangeSpec := { name := "fnExactImageOk", fn := fun _ => fun
  | [d] => { results := [.lit (.bool false)], args := [d] }
  | _ => none }
def FnExactImageOkWrongFalsely : Prop := fnExactImageOkRow.holds Try.pinned (OpenSpec.ofChange fnExactImageOkWrong)

/-- 'laws.FnExactPackImage': WHATEVER THE INPUT: true; the input reads as it did. -/
def fnExactPackImageSpec : ChangeSpec := { name := "fnExactPackImage", fn := fun _ => fun
  | [d] => { results := [.lit (.bool true)], args := [d] }
  | _ => none }
def fnExactPackImageRow : OpenClaim := { program := "ytokiliilbopgkaa", sum := "445bddc5d4911ebaa990da8501f70c7b4793c57f26e6b906949d570632c13f18", func := "loop.example/g00008/laws.FnExactPackImage", spec := "fnExactPackImage", apart := false }
def FnExactPackImageSaid : Prop := fnExactPackImageRow.holds Try.pinned (OpenSpec.ofChange fnExactPackImageSpec)

/-- ITS FALSE NEIGHBOUR: 'it returns false'. Refute it at one input. -/
def fnExactPackImageWrong : ChangeSpec := { name := "fnExactPackImage", fn := fun _ => fun
  | [d] => { results := [.lit (.bool false)], args := [d] }
  | _ => none }
def FnExactPackImageWrongFalsely : Prop := fnExactPackImageRow.holds Try.pinned (OpenSpec.ofChange fnExactPackImageWrong)

/-- 'laws.FnExactReadImage': WHATEVER THE INPUT: true; the input reads as it did. -/
def fnExactReadImageSpec : ChangeSpec := { name := "fnExactReadImage", fn := fun _ => fun
  | [d] => { results := [.lit (.bool true)], args := [d] }
  | _ => none }
def fnExactReadImageRow : OpenClaim := { program := "ytokiliilbopgkaa", sum := "445bddc5d4911ebaa990da8501f70c7b4793c57f26e6b906949d570632c13f18", func := "loop.example/g00008/laws.FnExactReadImage", spec := "fnExactReadImage", unfollowed := true, recurses := true, apart := false }
def FnExactReadImageSaid : Prop := fnExactReadImageRow.holds Try.pinned (OpenSpec.ofChange fnExactReadImageSpec)

/-- ITS FALSE NEIGHBOUR: 'it returns false'. Refute it at one input. -/
def fnExactReadImageWrong : ChangeSpec := { name := "fnExactReadImage", fn := fun _ => fun
  | [d] => { results := [.lit (.bool false)], args := [d] }
  | _ => none }
def FnExactReadImageWrongFalsely : Prop := fnExactReadImageRow.holds Try.pinned (OpenSpec.ofChange fnExactReadImageWrong)

/-- 'laws.FnExactLink': WHATEVER THE INPUT: true; the input reads as it did. -/
def fnExactLinkSpec : ChangeSpec := { name := "fnExactLink", fn := fun _ => fun
  | [d] => { results := [.lit (.bool true)], args := [d] }
  | _ => none }
def fnExactLinkRow : OpenClaim := { program := "ytokiliilbopgkaa", sum := "445bddc5d4911ebaa990da8501f70c7b4793c57f26e6b906949d570632c13f18", func := "loop.example/g00008/laws.FnExactLink", spec := "fnExactLink", apart := false }
def FnExactLinkSaid : Prop := fnExactLinkRow.holds Try.pinned (OpenSpec.ofChange fnExactLinkSpec)

/-- ITS FALSE NEIGHBOUR: 'it returns false'. Refute it at one input. -/
def fnExactLinkWrong : ChangeSpec := { name := "fnExactLink", fn := fun _ => fun
  | [d] => { results := [.lit (.bool false)], args := [d] }
  | _ => none }
def FnExactLinkWrongFalsely : Prop := fnExactLinkRow.holds Try.pinned (OpenSpec.ofChange fnExactLinkWrong)

/- THE SECOND FORM. 'bulk': how many values and letters a reading holds, each counted each time it is reached (what is shared counts as often as it is met; a slice's spare places count too). A statement '..UptoSaid' is the law's where the arguments, and the package variables that the reading takes, are together of bulk at most 1048576: NARROWER than '..Said'. Prove '..Said' where nothing that the law and all that it calls make is longer than what came in: it says more and counts as full. Else prove '..UptoSaid'. A law counts once. -/
mutual
def uptoBulk {H : Type} : DataW H → Nat
  | .lit (.string bytes) => bytes.length + 1
  | .lit _ => 1
  | .nil => 1
  | .ptr d => uptoBulk d + 1
  | .slice elems spare => uptoBulkAll elems + uptoBulkAll spare + 1
  | .agg parts => uptoBulkAll parts + 1
  | .iface _ d => uptoBulk d + 1
  | .map entries => uptoBulkEntries entries + 1
  | .held _ => 1
def uptoBulkAll {H : Type} : List (DataW H) → Nat
  | [] => 0
  | d :: r => uptoBulk d + uptoBulkAll r
def uptoBulkEntries {H : Type} : List (Lit × DataW H) → Nat
  | [] => 0
  | x :: r => uptoBulkEntry x + uptoBulkEntries r
def uptoBulkEntry {H : Type} : Lit × DataW H → Nat
  | (.string bytes, d) => bytes.length + uptoBulk d + 1
  | (_, d) => uptoBulk d + 1
 end
def uptoSmall : (H : Type) → List (DataW H) → Bool := fun _ ds => decide (uptoBulkAll ds ≤ 1048576)
def OpenSpec.upto (s : _root_.Go.ChangeSpec) : _root_.Go.OpenSpec := { _root_.Go.OpenSpec.ofChange s with cond := some uptoSmall }

/-- 'laws.FnExactImageOk', WHERE WHAT IT READS IS OF BULK AT MOST 1048576: true; the input reads as it did. -/
def fnExactImageOkUptoRow : OpenClaim := { program := "ytokiliilbopgkaa", sum := "445bddc5d4911ebaa990da8501f70c7b4793c57f26e6b906949d570632c13f18", func := "loop.example/g00008/laws.FnExactImageOk", spec := "fnExactImageOk", apart := false, narrowed := true }
def FnExactImageOkUptoSaid : Prop := fnExactImageOkUptoRow.holds Try.pinned (OpenSpec.upto fnExactImageOkSpec)

/-- 'laws.FnExactPackImage', WHERE WHAT IT READS IS OF BULK AT MOST 1048576: true; the input reads as it did. -/
def fnExactPackImageUptoRow : OpenClaim := { program := "ytokiliilbopgkaa", sum := "445bddc5d4911ebaa990da8501f70c7b4793c57f26e6b906949d570632c13f18", func := "loop.example/g00008/laws.FnExactPackImage", spec := "fnExactPackImage", apart := false, narrowed := true }
def FnExactPackImageUptoSaid : Prop := fnExactPackImageUptoRow.holds Try.pinned (OpenSpec.upto fnExactPackImageSpec)

/-- 'laws.FnExactReadImage', WHERE WHAT IT READS IS OF BULK AT MOST 1048576: true; the input reads as it did. -/
def fnExactReadImageUptoRow : OpenClaim := { program := "ytokiliilbopgkaa", sum := "445bddc5d4911ebaa990da8501f70c7b4793c57f26e6b906949d570632c13f18", func := "loop.example/g00008/laws.FnExactReadImage", spec := "fnExactReadImage", unfollowed := true, recurses := true, apart := false, narrowed := true }
def FnExactReadImageUptoSaid : Prop := fnExactReadImageUptoRow.holds Try.pinned (OpenSpec.upto fnExactReadImageSpec)

/-- 'laws.FnExactLink', WHERE WHAT IT READS IS OF BULK AT MOST 1048576: true; the input reads as it did. -/
def fnExactLinkUptoRow : OpenClaim := { program := "ytokiliilbopgkaa", sum := "445bddc5d4911ebaa990da8501f70c7b4793c57f26e6b906949d570632c13f18", func := "loop.example/g00008/laws.FnExactLink", spec := "fnExactLink", apart := false, narrowed := true }
def FnExactLinkUptoSaid : Prop := fnExactLinkUptoRow.holds Try.pinned (OpenSpec.upto fnExactLinkSpec)

end Rows
end Go.Proofs.Ytokiliilbopgkaa
