-- Written by a program of this session: the row of the law laws_FnExactHeapTake, out of its Pure (the session's) and the printed walk. Not trusted: Lean checks it.
import Derived.Test.YtmjdmaomakkhgaaRows
import Derived.Test.YtmjdmaomakkhgaaPFnExactHeapTakex7
import Derived.Test.YtmjdmaomakkhgaaPureFnExactHeapTake
import Derived.WalkKit
import Derived.ProofKit
import Derived.OpenShut
import Derived.ShutString
import Derived.ChangeOld
import Derived.Below
import Derived.SizedLaws
import Derived.Test.YtmjdmaomakkhgaaWSized
import Derived.Test.YtmjdmaomakkhgaaOpens
namespace Go.Proofs.Ytmjdmaomakkhgaa.fnExactHeapTake
open Go.ChangeShapes Go.WideShapes Go.ChangeAt Go.RowKit
open Go.ChangeMaps (open_string shut_string)
set_option linter.unusedVariables false
set_option linter.unusedSimpArgs false
open Go.Proofs.Ytmjdmaomakkhgaa.PFnExactHeapTake Go.Proofs.YtmjdmaomakkhgaaW.PrintWords Go.Proofs.Ytmjdmaomakkhgaa.Opens
theorem o122 {H : Type} {enc : TypeId × Value → H} {w : World} {base : Nat} {spare : Nat → Bool} {held : Bool} {fuel : Nat} {cs : List Value} {x : DataW H × List MemPlace} (h : DataW.trod enc Try.prog w base spare held fuel 122 cs = some x) : ∃ v : S122, k122.K w v cs ∧ laws_FnExactHeapTake.wf122 v := by
  obtain ⟨xs, n, rfl, _, hl, hn, hf⟩ := DataW.trod_struct Try.underlying122 h
  replace hl : cs.length = 2 := hl.trans (by kernel_rfl)
  replace hn : xs.length = 2 := hn
  have f0 : DataW.trod enc Try.prog w base spare held n 2 ((cs.drop 0).take 1) = some (xs[0]'(by omega)) := by
    have h_ : DataW.trod enc Try.prog w base spare held n 2 ((cs.drop 0).take (Try.prog.cellsOf 2)) = xs[0]? := hf 0 _ rfl
    rw [List.getElem?_eq_getElem (by omega)] at h_
    have hs_ : Try.prog.cellsOf 2 = 1 := by kernel_rfl
    rw [hs_] at h_
    exact h_
  obtain ⟨v0, g0, q0⟩ := open_k_int Try.underlying2 (f0)
  have f1 : DataW.trod enc Try.prog w base spare held n 2 ((cs.drop 1).take 1) = some (xs[1]'(by omega)) := by
    have h_ : DataW.trod enc Try.prog w base spare held n 2 ((cs.drop 1).take (Try.prog.cellsOf 2)) = xs[1]? := hf 1 _ rfl
    rw [List.getElem?_eq_getElem (by omega)] at h_
    have hs_ : Try.prog.cellsOf 2 = 1 := by kernel_rfl
    rw [hs_] at h_
    exact h_
  obtain ⟨v1, g1, q1⟩ := open_k_int Try.underlying2 (f1)
  exact ⟨⟨v0, v1⟩, pair_K (o := 0) (s := 1) (o' := 1) rfl g0 (last_K (o := 1) (s := 1) hl g1), q0, q1⟩
theorem o24 {H : Type} {enc : TypeId × Value → H} {w : World} {base : Nat} {spare : Nat → Bool} {held : Bool} {fuel : Nat} {cs : List Value} {x : DataW H × List MemPlace} (h : DataW.trod enc Try.prog w base spare held fuel 24 cs = some x) : ∃ v : S24, k24.K w v cs ∧ laws_FnExactHeapTake.wf24 v := by
  obtain ⟨xs, n, rfl, _, hl, hn, hf⟩ := DataW.trod_struct Try.underlying24 h
  replace hl : cs.length = 2 := hl.trans (by kernel_rfl)
  replace hn : xs.length = 2 := hn
  have f0 : DataW.trod enc Try.prog w base spare held n 2 ((cs.drop 0).take 1) = some (xs[0]'(by omega)) := by
    have h_ : DataW.trod enc Try.prog w base spare held n 2 ((cs.drop 0).take (Try.prog.cellsOf 2)) = xs[0]? := hf 0 _ rfl
    rw [List.getElem?_eq_getElem (by omega)] at h_
    have hs_ : Try.prog.cellsOf 2 = 1 := by kernel_rfl
    rw [hs_] at h_
    exact h_
  obtain ⟨v0, g0, q0⟩ := open_k_int Try.underlying2 (f0)
  have f1 : DataW.trod enc Try.prog w base spare held n 22 ((cs.drop 1).take 1) = some (xs[1]'(by omega)) := by
    have h_ : DataW.trod enc Try.prog w base spare held n 22 ((cs.drop 1).take (Try.prog.cellsOf 22)) = xs[1]? := hf 1 _ rfl
    rw [List.getElem?_eq_getElem (by omega)] at h_
    have hs_ : Try.prog.cellsOf 22 = 1 := by kernel_rfl
    rw [hs_] at h_
    exact h_
  obtain ⟨v1, g1, q1⟩ := open_k_slice Try.underlying22 (by kernel_rfl) (fun n_ cs_ x_ h_ => o122 (h_)) (f1) 122
  exact ⟨⟨v0, v1⟩, pair_K (o := 0) (s := 1) (o' := 1) rfl g0 (last_K (o := 1) (s := 1) hl g1), q0, q1⟩
theorem own : ownKnob Try.prog.godebug = none := by kernel_rfl
theorem laidOut : laidOutB Try.prog = true := by kernel_rfl
def IsRow (k : IntKind) (w : World) (a : Option Addr) (len cap : Nat) (zs : List Int) : Prop :=
  (a = none ∧ len = 0 ∧ cap = 0 ∧ zs = []) ∨
  ∃ x, a = some x ∧ len ≤ cap ∧ cap ≤ maxLen ∧ zs.length = cap ∧ (∀ i, i < zs.length → w.cell? (x.add i) = some (.int k (zs.getD i 0))) ∧ ∀ n ∈ zs, (Lit.int k n).wf = true
set_option maxRecDepth 100000 in
theorem lifted (os : Os) (started : os.Started) (H : Type) (enc : TypeId × Value → H) :
    ReturnsInHanded {} Try.checked os 6 .any (Rows.fnExactHeapTakeSpec.pre6 enc Try.prog Try.f6 Rows.fnExactHeapTakeRow.domain false) (Rows.fnExactHeapTakeSpec.post enc Try.prog Try.f6 false true false false) := by
  refine returnsInHanded_of_change_sized (C := Try.checked) own started (by kernel_rfl) Try.func6
    (ChangeSpec.witness6 (enc := enc) (C := Try.checked) false ⟨#[], #[.agg #[(.int .i64 0), (.slice none 0 0)], .int .i64 0], []⟩ 8 (by kernel_rfl) (by kernel_rfl) (by kernel_rfl) (by kernel_rfl)) ?_
  intro W base args ds gs before hval0 hW hcnd hsz0 _
  have hsz : (DataW.weightsEach Try.prog (Try.f6.params.toList ++ Rows.fnExactHeapTakeSpec.plain.varTypes Try.prog) (ds ++ gs)).all (· ≤ reachBytes) = true := hsz0
  have hval : ∀ (j : Nat) t v, Try.f6.params[j]? = some t → args[j]? = some v → Value.okWide Try.prog W .any base t v := hval0
  have hW' := hW
  obtain ⟨p, q, hA0, hV, rfl, hfz, hnd⟩ := hW
  have hA : DataW.TrodAll enc Try.prog W 0 (fun _ => true) true Try.f6.params.toList args.toList ds p := hA0
  rw [Try.params6] at hA hval hsz
  obtain ⟨v0, vs0, d0, ds0, p0, q0, hargs, rfl, rfl, h0, r0⟩ := trodAll_cons hA
  obtain ⟨v1, vs1, d1, ds1, p1, q1, rfl, rfl, rfl, h1, r1⟩ := trodAll_cons r0
  obtain ⟨rfl, rfl, rfl⟩ := trodAll_nil r1
  obtain rfl : args = #[v0, v1] := by cases args; simp_all
  obtain ⟨rfl, rfl⟩ := trodVars_none hV
  obtain ⟨b0, rfl⟩ := ok_struct_cells Try.underlying24 (hval 0 24 v0 rfl rfl)
  have k0 := h0
  have lt0 : ∀ x ∈ p0, x.block < W.heap.size := by obtain ⟨m, hm⟩ := k0; exact DataW.trod_lt m _ _ _ hm
  obtain ⟨fuel0, hf0⟩ := h0
  obtain ⟨x0, hk0, hq0⟩ := o24 hf0
  obtain ⟨A0_1, c0_1, he0, hc0_1, hr0_1⟩ := k24_open hk0
  have hz0 := array_of_list he0
  clear he0
  subst hz0
  obtain ⟨a1, rfl, rfl, rfl, w1⟩ := open_int Try.underlying2 (hval 1 2 v1 rfl rfl) h1
  clear hA0 hval0 hsz0 hsz
  refine (PFnExactHeapTake.laws_FnExactHeapTake.walk Pure.FnExactHeapTake x0.f0 A0_1 c0_1 x0.f1 a1 W hr0_1 hc0_1 hq0 w1).mono fun e W' ⟨he, bel⟩ => ?_
  subst he
  exact ⟨_, rfl, _, _, _, [], _, [], hW', trodAll_mk1 (shut_bool Try.underlying4 _), (trodAll_cons_mk (Below.trod laidOut (by kernel_rfl) (of_decide_eq_true (by kernel_rfl)) k0 bel lt0) (trodAll_cons_mk (shut_int Try.underlying2 w1) trodAll_mk0)), rfl, bel.frame _, fun h => by cases h⟩
theorem over : Rows.fnExactHeapTakeRow.holds Try.pinned (OpenSpec.ofChange Rows.fnExactHeapTakeSpec) :=
  OpenClaim.holds_of_wide 6 Try.f6 rfl rfl rfl rfl rfl rfl rfl ⟨rfl, rfl, rfl, rfl, rfl⟩ rfl rfl rfl rfl rfl (by kernel_rfl) Try.func6 (by kernel_rfl)
    (of_decide_eq_true (by kernel_rfl)) (by unfold Func.isWrapper; first | (rw [if_pos (by decide +kernel)]; kernel_rfl) | (rw [if_neg (by decide +kernel)]; exact ⟨rfl, rfl⟩))
    (fun os started H enc _ => lifted os started H enc)
theorem proved : Rows.FnExactHeapTakeSaid := over
#print axioms proved
end Go.Proofs.Ytmjdmaomakkhgaa.fnExactHeapTake
namespace Go.Proofs.Ytmjdmaomakkhgaa
/-- The row, under a short name, for the claim. -/
theorem fnExactHeapTake_holds : Rows.FnExactHeapTakeSaid := fnExactHeapTake.proved
end Go.Proofs.Ytmjdmaomakkhgaa
