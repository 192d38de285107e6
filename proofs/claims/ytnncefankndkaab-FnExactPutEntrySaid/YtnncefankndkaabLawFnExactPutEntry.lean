-- Written by a program of this session: the row of the law laws_FnExactPutEntry, out of its Pure (the session's) and the printed walk. Not trusted: Lean checks it.
import Derived.Test.YtnncefankndkaabRows
import Derived.Test.YtnncefankndkaabPFnExactPutEntryx1
import Derived.Test.YtnncefankndkaabPureFnExactPutEntry
import Derived.WalkKit
import Derived.ProofKit
import Derived.OpenShut
import Derived.ShutString
import Derived.ChangeOld
import Derived.Below
import Derived.SizedLaws
import Derived.Test.YtnncefankndkaabWSized
import Derived.Test.YtnncefankndkaabOpens
namespace Go.Proofs.Ytnncefankndkaab.fnExactPutEntry
open Go.ChangeShapes Go.WideShapes Go.ChangeAt Go.RowKit
open Go.ChangeMaps (open_string shut_string)
set_option linter.unusedVariables false
set_option linter.unusedSimpArgs false
open Go.Proofs.Ytnncefankndkaab.PFnExactPutEntry Go.Proofs.YtnncefankndkaabW.PrintWords Go.Proofs.Ytnncefankndkaab.Opens
theorem o39 {H : Type} {enc : TypeId × Value → H} {w : World} {base : Nat} {spare : Nat → Bool} {held : Bool} {fuel : Nat} {cs : List Value} {x : DataW H × List MemPlace} (h : DataW.trod enc Try.prog w base spare held fuel 39 cs = some x) : ∃ v : S39, k39.K w v cs ∧ laws_FnExactPutEntry.wf39 v := by
  obtain ⟨xs, n, rfl, _, hl, hn, hf⟩ := DataW.trod_struct Try.underlying39 h
  replace hl : cs.length = 9 := hl.trans (by kernel_rfl)
  replace hn : xs.length = 9 := hn
  have f0 : DataW.trod enc Try.prog w base spare held n 4 ((cs.drop 0).take 1) = some (xs[0]'(by omega)) := by
    have h_ : DataW.trod enc Try.prog w base spare held n 4 ((cs.drop 0).take (Try.prog.cellsOf 4)) = xs[0]? := hf 0 _ rfl
    rw [List.getElem?_eq_getElem (by omega)] at h_
    have hs_ : Try.prog.cellsOf 4 = 1 := by kernel_rfl
    rw [hs_] at h_
    exact h_
  obtain ⟨v0, g0, q0⟩ := open_k_bool Try.underlying4 (f0)
  have f1 : DataW.trod enc Try.prog w base spare held n 4 ((cs.drop 1).take 1) = some (xs[1]'(by omega)) := by
    have h_ : DataW.trod enc Try.prog w base spare held n 4 ((cs.drop 1).take (Try.prog.cellsOf 4)) = xs[1]? := hf 1 _ rfl
    rw [List.getElem?_eq_getElem (by omega)] at h_
    have hs_ : Try.prog.cellsOf 4 = 1 := by kernel_rfl
    rw [hs_] at h_
    exact h_
  obtain ⟨v1, g1, q1⟩ := open_k_bool Try.underlying4 (f1)
  have f2 : DataW.trod enc Try.prog w base spare held n 4 ((cs.drop 2).take 1) = some (xs[2]'(by omega)) := by
    have h_ : DataW.trod enc Try.prog w base spare held n 4 ((cs.drop 2).take (Try.prog.cellsOf 4)) = xs[2]? := hf 2 _ rfl
    rw [List.getElem?_eq_getElem (by omega)] at h_
    have hs_ : Try.prog.cellsOf 4 = 1 := by kernel_rfl
    rw [hs_] at h_
    exact h_
  obtain ⟨v2, g2, q2⟩ := open_k_bool Try.underlying4 (f2)
  have f3 : DataW.trod enc Try.prog w base spare held n 4 ((cs.drop 3).take 1) = some (xs[3]'(by omega)) := by
    have h_ : DataW.trod enc Try.prog w base spare held n 4 ((cs.drop 3).take (Try.prog.cellsOf 4)) = xs[3]? := hf 3 _ rfl
    rw [List.getElem?_eq_getElem (by omega)] at h_
    have hs_ : Try.prog.cellsOf 4 = 1 := by kernel_rfl
    rw [hs_] at h_
    exact h_
  obtain ⟨v3, g3, q3⟩ := open_k_bool Try.underlying4 (f3)
  have f4 : DataW.trod enc Try.prog w base spare held n 4 ((cs.drop 4).take 1) = some (xs[4]'(by omega)) := by
    have h_ : DataW.trod enc Try.prog w base spare held n 4 ((cs.drop 4).take (Try.prog.cellsOf 4)) = xs[4]? := hf 4 _ rfl
    rw [List.getElem?_eq_getElem (by omega)] at h_
    have hs_ : Try.prog.cellsOf 4 = 1 := by kernel_rfl
    rw [hs_] at h_
    exact h_
  obtain ⟨v4, g4, q4⟩ := open_k_bool Try.underlying4 (f4)
  have f5 : DataW.trod enc Try.prog w base spare held n 4 ((cs.drop 5).take 1) = some (xs[5]'(by omega)) := by
    have h_ : DataW.trod enc Try.prog w base spare held n 4 ((cs.drop 5).take (Try.prog.cellsOf 4)) = xs[5]? := hf 5 _ rfl
    rw [List.getElem?_eq_getElem (by omega)] at h_
    have hs_ : Try.prog.cellsOf 4 = 1 := by kernel_rfl
    rw [hs_] at h_
    exact h_
  obtain ⟨v5, g5, q5⟩ := open_k_bool Try.underlying4 (f5)
  have f6 : DataW.trod enc Try.prog w base spare held n 4 ((cs.drop 6).take 1) = some (xs[6]'(by omega)) := by
    have h_ : DataW.trod enc Try.prog w base spare held n 4 ((cs.drop 6).take (Try.prog.cellsOf 4)) = xs[6]? := hf 6 _ rfl
    rw [List.getElem?_eq_getElem (by omega)] at h_
    have hs_ : Try.prog.cellsOf 4 = 1 := by kernel_rfl
    rw [hs_] at h_
    exact h_
  obtain ⟨v6, g6, q6⟩ := open_k_bool Try.underlying4 (f6)
  have f7 : DataW.trod enc Try.prog w base spare held n 4 ((cs.drop 7).take 1) = some (xs[7]'(by omega)) := by
    have h_ : DataW.trod enc Try.prog w base spare held n 4 ((cs.drop 7).take (Try.prog.cellsOf 4)) = xs[7]? := hf 7 _ rfl
    rw [List.getElem?_eq_getElem (by omega)] at h_
    have hs_ : Try.prog.cellsOf 4 = 1 := by kernel_rfl
    rw [hs_] at h_
    exact h_
  obtain ⟨v7, g7, q7⟩ := open_k_bool Try.underlying4 (f7)
  have f8 : DataW.trod enc Try.prog w base spare held n 2 ((cs.drop 8).take 1) = some (xs[8]'(by omega)) := by
    have h_ : DataW.trod enc Try.prog w base spare held n 2 ((cs.drop 8).take (Try.prog.cellsOf 2)) = xs[8]? := hf 8 _ rfl
    rw [List.getElem?_eq_getElem (by omega)] at h_
    have hs_ : Try.prog.cellsOf 2 = 1 := by kernel_rfl
    rw [hs_] at h_
    exact h_
  obtain ⟨v8, g8, q8⟩ := open_k_int Try.underlying2 (f8)
  exact ⟨⟨v0, v1, v2, v3, v4, v5, v6, v7, v8⟩, pair_K (o := 0) (s := 1) (o' := 1) rfl g0 (pair_K (o := 1) (s := 1) (o' := 2) rfl g1 (pair_K (o := 2) (s := 1) (o' := 3) rfl g2 (pair_K (o := 3) (s := 1) (o' := 4) rfl g3 (pair_K (o := 4) (s := 1) (o' := 5) rfl g4 (pair_K (o := 5) (s := 1) (o' := 6) rfl g5 (pair_K (o := 6) (s := 1) (o' := 7) rfl g6 (pair_K (o := 7) (s := 1) (o' := 8) rfl g7 (last_K (o := 8) (s := 1) hl g8)))))))), q0, q1, q2, q3, q4, q5, q6, q7, q8⟩
theorem own : ownKnob Try.prog.godebug = none := by kernel_rfl
theorem laidOut : laidOutB Try.prog = true := by kernel_rfl
def IsRow (k : IntKind) (w : World) (a : Option Addr) (len cap : Nat) (zs : List Int) : Prop :=
  (a = none ∧ len = 0 ∧ cap = 0 ∧ zs = []) ∨
  ∃ x, a = some x ∧ len ≤ cap ∧ cap ≤ maxLen ∧ zs.length = cap ∧ (∀ i, i < zs.length → w.cell? (x.add i) = some (.int k (zs.getD i 0))) ∧ ∀ n ∈ zs, (Lit.int k n).wf = true
set_option maxRecDepth 100000 in
theorem lifted (os : Os) (started : os.Started) (H : Type) (enc : TypeId × Value → H) :
    ReturnsInHanded {} Try.checked os 5 .any (Rows.fnExactPutEntrySpec.pre6 enc Try.prog Try.f5 Rows.fnExactPutEntryRow.domain false) (Rows.fnExactPutEntrySpec.post enc Try.prog Try.f5 false true false false) := by
  refine returnsInHanded_of_change_sized (C := Try.checked) own started (by kernel_rfl) Try.func5
    (ChangeSpec.witness6 (enc := enc) (C := Try.checked) false ⟨#[], #[.agg #[(.bool false), (.bool false), (.bool false), (.bool false), (.bool false), (.bool false), (.bool false), (.bool false), (.int .i64 0)]], []⟩ 8 (by kernel_rfl) (by kernel_rfl) (by kernel_rfl) (by kernel_rfl)) ?_
  intro W base args ds gs before hval0 hW hcnd hsz0 _
  have hsz : (DataW.weightsEach Try.prog (Try.f5.params.toList ++ Rows.fnExactPutEntrySpec.plain.varTypes Try.prog) (ds ++ gs)).all (· ≤ reachBytes) = true := hsz0
  have hval : ∀ (j : Nat) t v, Try.f5.params[j]? = some t → args[j]? = some v → Value.okWide Try.prog W .any base t v := hval0
  have hW' := hW
  obtain ⟨p, q, hA0, hV, rfl, hfz, hnd⟩ := hW
  have hA : DataW.TrodAll enc Try.prog W 0 (fun _ => true) true Try.f5.params.toList args.toList ds p := hA0
  rw [Try.params5] at hA hval hsz
  obtain ⟨v0, vs0, d0, ds0, p0, q0, hargs, rfl, rfl, h0, r0⟩ := trodAll_cons hA
  obtain ⟨rfl, rfl, rfl⟩ := trodAll_nil r0
  obtain rfl : args = #[v0] := by cases args; simp_all
  obtain ⟨rfl, rfl⟩ := trodVars_none hV
  obtain ⟨b0, rfl⟩ := ok_struct_cells Try.underlying39 (hval 0 39 v0 rfl rfl)
  have k0 := h0
  have lt0 : ∀ x ∈ p0, x.block < W.heap.size := by obtain ⟨m, hm⟩ := k0; exact DataW.trod_lt m _ _ _ hm
  obtain ⟨fuel0, hf0⟩ := h0
  obtain ⟨x0, hk0, hq0⟩ := o39 hf0
  obtain he0 := k39_open hk0
  have hz0 := array_of_list he0
  clear he0
  subst hz0
  clear hA0 hval0 hsz0 hsz
  refine (PFnExactPutEntry.laws_FnExactPutEntry.walk Pure.FnExactPutEntry x0.f0 x0.f1 x0.f2 x0.f3 x0.f4 x0.f5 x0.f6 x0.f7 x0.f8 W  hq0).mono fun e W' ⟨he, bel⟩ => ?_
  subst he
  exact ⟨_, rfl, _, _, _, [], _, [], hW', trodAll_mk1 (shut_bool Try.underlying4 _), (trodAll_cons_mk (Below.trod laidOut (by kernel_rfl) (of_decide_eq_true (by kernel_rfl)) k0 bel lt0) trodAll_mk0), rfl, bel.frame _, fun h => by cases h⟩
theorem over : Rows.fnExactPutEntryRow.holds Try.pinned (OpenSpec.ofChange Rows.fnExactPutEntrySpec) :=
  OpenClaim.holds_of_wide 5 Try.f5 rfl rfl rfl rfl rfl rfl rfl ⟨rfl, rfl, rfl, rfl, rfl⟩ rfl rfl rfl rfl rfl (by kernel_rfl) Try.func5 (by kernel_rfl)
    (of_decide_eq_true (by kernel_rfl)) (by unfold Func.isWrapper; first | (rw [if_pos (by decide +kernel)]; kernel_rfl) | (rw [if_neg (by decide +kernel)]; exact ⟨rfl, rfl⟩))
    (fun os started H enc _ => lifted os started H enc)
theorem proved : Rows.FnExactPutEntrySaid := over
#print axioms proved
end Go.Proofs.Ytnncefankndkaab.fnExactPutEntry
namespace Go.Proofs.Ytnncefankndkaab
/-- The row, under a short name, for the claim. -/
theorem fnExactPutEntry_holds : Rows.FnExactPutEntrySaid := fnExactPutEntry.proved
end Go.Proofs.Ytnncefankndkaab
