-- Written by a program of this session: the row of the law laws_FnExactPriority, out of its Pure (the session's) and the printed walk. Not trusted: Lean checks it.
import Derived.Test.YtdlgalaemnjfjaaRows
import Derived.Test.YtdlgalaemnjfjaaPFnExactPriorityx10
import Derived.Test.YtdlgalaemnjfjaaPureFnExactPriority
import Derived.WalkKit
import Derived.ProofKit
import Derived.OpenShut
import Derived.ShutString
import Derived.ChangeOld
import Derived.Below
import Derived.SizedLaws
import Derived.Test.YtdlgalaemnjfjaaVSized
import Derived.Test.YtdlgalaemnjfjaaVOpens
namespace Go.Proofs.Ytdlgalaemnjfjaa.fnExactPriority
open Go.ChangeShapes Go.WideShapes Go.ChangeAt Go.RowKit
open Go.ChangeMaps (open_string shut_string)
set_option linter.unusedVariables false
set_option linter.unusedSimpArgs false
open Go.Proofs.Ytdlgalaemnjfjaa.PFnExactPriority Go.Proofs.YtdlgalaemnjfjaaW.PrintWords Go.Proofs.Ytdlgalaemnjfjaa.Opens
theorem o98 {H : Type} {enc : TypeId × Value → H} {w : World} {base : Nat} {spare : Nat → Bool} {held : Bool} {fuel : Nat} {cs : List Value} {x : DataW H × List MemPlace} (h : DataW.trod enc Try.prog w base spare held fuel 98 cs = some x) : ∃ v : S98, k98.K w v cs ∧ laws_FnExactPriority.wf98 v := by
  obtain ⟨xs, n, rfl, _, hl, hn, hf⟩ := DataW.trod_struct Try.underlying98 h
  replace hl : cs.length = 8 := hl.trans (by kernel_rfl)
  replace hn : xs.length = 8 := hn
  have f0 : DataW.trod enc Try.prog w base spare held n 2 ((cs.drop 0).take 1) = some (xs[0]'(by omega)) := by
    have h_ : DataW.trod enc Try.prog w base spare held n 2 ((cs.drop 0).take (Try.prog.cellsOf 2)) = xs[0]? := hf 0 _ rfl
    rw [List.getElem?_eq_getElem (by omega)] at h_
    have hs_ : Try.prog.cellsOf 2 = 1 := by kernel_rfl
    rw [hs_] at h_
    exact h_
  obtain ⟨v0, g0, q0⟩ := open_k_int Try.underlying2 (f0)
  have f1 : DataW.trod enc Try.prog w base spare held n 2 ((cs.drop 1).take 1) = some (xs[1]'(by omega)) := by
    have h_ : DataW.trod enc Try.prog w base spare held n 2 ((cs.drop 1).take (Try.prog.cellsOf 2)) = xs[1]? := hf 1 _ rfl
    rw [List.getElem?_eq_getElem (by omega)] at h_
    have hs_ : Try.prog.cellsOf 2 = 1 := by kernel_rfl
    rw [hs_] at h_
    exact h_
  obtain ⟨v1, g1, q1⟩ := open_k_int Try.underlying2 (f1)
  have f2 : DataW.trod enc Try.prog w base spare held n 2 ((cs.drop 2).take 1) = some (xs[2]'(by omega)) := by
    have h_ : DataW.trod enc Try.prog w base spare held n 2 ((cs.drop 2).take (Try.prog.cellsOf 2)) = xs[2]? := hf 2 _ rfl
    rw [List.getElem?_eq_getElem (by omega)] at h_
    have hs_ : Try.prog.cellsOf 2 = 1 := by kernel_rfl
    rw [hs_] at h_
    exact h_
  obtain ⟨v2, g2, q2⟩ := open_k_int Try.underlying2 (f2)
  have f3 : DataW.trod enc Try.prog w base spare held n 2 ((cs.drop 3).take 1) = some (xs[3]'(by omega)) := by
    have h_ : DataW.trod enc Try.prog w base spare held n 2 ((cs.drop 3).take (Try.prog.cellsOf 2)) = xs[3]? := hf 3 _ rfl
    rw [List.getElem?_eq_getElem (by omega)] at h_
    have hs_ : Try.prog.cellsOf 2 = 1 := by kernel_rfl
    rw [hs_] at h_
    exact h_
  obtain ⟨v3, g3, q3⟩ := open_k_int Try.underlying2 (f3)
  have f4 : DataW.trod enc Try.prog w base spare held n 2 ((cs.drop 4).take 1) = some (xs[4]'(by omega)) := by
    have h_ : DataW.trod enc Try.prog w base spare held n 2 ((cs.drop 4).take (Try.prog.cellsOf 2)) = xs[4]? := hf 4 _ rfl
    rw [List.getElem?_eq_getElem (by omega)] at h_
    have hs_ : Try.prog.cellsOf 2 = 1 := by kernel_rfl
    rw [hs_] at h_
    exact h_
  obtain ⟨v4, g4, q4⟩ := open_k_int Try.underlying2 (f4)
  have f5 : DataW.trod enc Try.prog w base spare held n 2 ((cs.drop 5).take 1) = some (xs[5]'(by omega)) := by
    have h_ : DataW.trod enc Try.prog w base spare held n 2 ((cs.drop 5).take (Try.prog.cellsOf 2)) = xs[5]? := hf 5 _ rfl
    rw [List.getElem?_eq_getElem (by omega)] at h_
    have hs_ : Try.prog.cellsOf 2 = 1 := by kernel_rfl
    rw [hs_] at h_
    exact h_
  obtain ⟨v5, g5, q5⟩ := open_k_int Try.underlying2 (f5)
  have f6 : DataW.trod enc Try.prog w base spare held n 2 ((cs.drop 6).take 1) = some (xs[6]'(by omega)) := by
    have h_ : DataW.trod enc Try.prog w base spare held n 2 ((cs.drop 6).take (Try.prog.cellsOf 2)) = xs[6]? := hf 6 _ rfl
    rw [List.getElem?_eq_getElem (by omega)] at h_
    have hs_ : Try.prog.cellsOf 2 = 1 := by kernel_rfl
    rw [hs_] at h_
    exact h_
  obtain ⟨v6, g6, q6⟩ := open_k_int Try.underlying2 (f6)
  have f7 : DataW.trod enc Try.prog w base spare held n 2 ((cs.drop 7).take 1) = some (xs[7]'(by omega)) := by
    have h_ : DataW.trod enc Try.prog w base spare held n 2 ((cs.drop 7).take (Try.prog.cellsOf 2)) = xs[7]? := hf 7 _ rfl
    rw [List.getElem?_eq_getElem (by omega)] at h_
    have hs_ : Try.prog.cellsOf 2 = 1 := by kernel_rfl
    rw [hs_] at h_
    exact h_
  obtain ⟨v7, g7, q7⟩ := open_k_int Try.underlying2 (f7)
  exact ⟨⟨v0, v1, v2, v3, v4, v5, v6, v7⟩, pair_K (o := 0) (s := 1) (o' := 1) rfl g0 (pair_K (o := 1) (s := 1) (o' := 2) rfl g1 (pair_K (o := 2) (s := 1) (o' := 3) rfl g2 (pair_K (o := 3) (s := 1) (o' := 4) rfl g3 (pair_K (o := 4) (s := 1) (o' := 5) rfl g4 (pair_K (o := 5) (s := 1) (o' := 6) rfl g5 (pair_K (o := 6) (s := 1) (o' := 7) rfl g6 (last_K (o := 7) (s := 1) hl g7))))))), q0, q1, q2, q3, q4, q5, q6, q7⟩
theorem o100 {H : Type} {enc : TypeId × Value → H} {w : World} {base : Nat} {spare : Nat → Bool} {held : Bool} {fuel : Nat} {cs : List Value} {x : DataW H × List MemPlace} (h : DataW.trod enc Try.prog w base spare held fuel 100 cs = some x) : ∃ v : S100, k100.K w v cs ∧ laws_FnExactPriority.wf100 v := by
  obtain ⟨xs, n, rfl, _, hl, hn, hf⟩ := DataW.trod_struct Try.underlying100 h
  replace hl : cs.length = 2 := hl.trans (by kernel_rfl)
  replace hn : xs.length = 2 := hn
  have f0 : DataW.trod enc Try.prog w base spare held n 2 ((cs.drop 0).take 1) = some (xs[0]'(by omega)) := by
    have h_ : DataW.trod enc Try.prog w base spare held n 2 ((cs.drop 0).take (Try.prog.cellsOf 2)) = xs[0]? := hf 0 _ rfl
    rw [List.getElem?_eq_getElem (by omega)] at h_
    have hs_ : Try.prog.cellsOf 2 = 1 := by kernel_rfl
    rw [hs_] at h_
    exact h_
  obtain ⟨v0, g0, q0⟩ := open_k_int Try.underlying2 (f0)
  have f1 : DataW.trod enc Try.prog w base spare held n 2 ((cs.drop 1).take 1) = some (xs[1]'(by omega)) := by
    have h_ : DataW.trod enc Try.prog w base spare held n 2 ((cs.drop 1).take (Try.prog.cellsOf 2)) = xs[1]? := hf 1 _ rfl
    rw [List.getElem?_eq_getElem (by omega)] at h_
    have hs_ : Try.prog.cellsOf 2 = 1 := by kernel_rfl
    rw [hs_] at h_
    exact h_
  obtain ⟨v1, g1, q1⟩ := open_k_int Try.underlying2 (f1)
  exact ⟨⟨v0, v1⟩, pair_K (o := 0) (s := 1) (o' := 1) rfl g0 (last_K (o := 1) (s := 1) hl g1), q0, q1⟩
theorem o25 {H : Type} {enc : TypeId × Value → H} {w : World} {base : Nat} {spare : Nat → Bool} {held : Bool} {fuel : Nat} {cs : List Value} {x : DataW H × List MemPlace} (h : DataW.trod enc Try.prog w base spare held fuel 25 cs = some x) : ∃ v : S25, k25.K w v cs ∧ laws_FnExactPriority.wf25 v := by
  obtain ⟨xs, n, rfl, _, hl, hn, hf⟩ := DataW.trod_struct Try.underlying25 h
  replace hl : cs.length = 4 := hl.trans (by kernel_rfl)
  replace hn : xs.length = 4 := hn
  have f0 : DataW.trod enc Try.prog w base spare held n 2 ((cs.drop 0).take 1) = some (xs[0]'(by omega)) := by
    have h_ : DataW.trod enc Try.prog w base spare held n 2 ((cs.drop 0).take (Try.prog.cellsOf 2)) = xs[0]? := hf 0 _ rfl
    rw [List.getElem?_eq_getElem (by omega)] at h_
    have hs_ : Try.prog.cellsOf 2 = 1 := by kernel_rfl
    rw [hs_] at h_
    exact h_
  obtain ⟨v0, g0, q0⟩ := open_k_int Try.underlying2 (f0)
  have f1 : DataW.trod enc Try.prog w base spare held n 2 ((cs.drop 1).take 1) = some (xs[1]'(by omega)) := by
    have h_ : DataW.trod enc Try.prog w base spare held n 2 ((cs.drop 1).take (Try.prog.cellsOf 2)) = xs[1]? := hf 1 _ rfl
    rw [List.getElem?_eq_getElem (by omega)] at h_
    have hs_ : Try.prog.cellsOf 2 = 1 := by kernel_rfl
    rw [hs_] at h_
    exact h_
  obtain ⟨v1, g1, q1⟩ := open_k_int Try.underlying2 (f1)
  have f2 : DataW.trod enc Try.prog w base spare held n 22 ((cs.drop 2).take 1) = some (xs[2]'(by omega)) := by
    have h_ : DataW.trod enc Try.prog w base spare held n 22 ((cs.drop 2).take (Try.prog.cellsOf 22)) = xs[2]? := hf 2 _ rfl
    rw [List.getElem?_eq_getElem (by omega)] at h_
    have hs_ : Try.prog.cellsOf 22 = 1 := by kernel_rfl
    rw [hs_] at h_
    exact h_
  obtain ⟨v2, g2, q2⟩ := open_k_slice Try.underlying22 (by kernel_rfl) (fun n_ cs_ x_ h_ => o98 (h_)) (f2) 98
  have f3 : DataW.trod enc Try.prog w base spare held n 23 ((cs.drop 3).take 1) = some (xs[3]'(by omega)) := by
    have h_ : DataW.trod enc Try.prog w base spare held n 23 ((cs.drop 3).take (Try.prog.cellsOf 23)) = xs[3]? := hf 3 _ rfl
    rw [List.getElem?_eq_getElem (by omega)] at h_
    have hs_ : Try.prog.cellsOf 23 = 1 := by kernel_rfl
    rw [hs_] at h_
    exact h_
  obtain ⟨v3, g3, q3⟩ := open_k_slice Try.underlying23 (by kernel_rfl) (fun n_ cs_ x_ h_ => o100 (h_)) (f3) 100
  exact ⟨⟨v0, v1, v2, v3⟩, pair_K (o := 0) (s := 1) (o' := 1) rfl g0 (pair_K (o := 1) (s := 1) (o' := 2) rfl g1 (pair_K (o := 2) (s := 1) (o' := 3) rfl g2 (last_K (o := 3) (s := 1) hl g3))), q0, q1, q2, q3⟩
theorem own : ownKnob Try.prog.godebug = none := by kernel_rfl
theorem laidOut : laidOutB Try.prog = true := by kernel_rfl
def IsRow (k : IntKind) (w : World) (a : Option Addr) (len cap : Nat) (zs : List Int) : Prop :=
  (a = none ∧ len = 0 ∧ cap = 0 ∧ zs = []) ∨
  ∃ x, a = some x ∧ len ≤ cap ∧ cap ≤ maxLen ∧ zs.length = cap ∧ (∀ i, i < zs.length → w.cell? (x.add i) = some (.int k (zs.getD i 0))) ∧ ∀ n ∈ zs, (Lit.int k n).wf = true
set_option maxRecDepth 100000 in
theorem lifted (os : Os) (started : os.Started) (H : Type) (enc : TypeId × Value → H) :
    ReturnsInHanded {} Try.checked os 4 .any (Rows.fnExactPrioritySpec.pre6 enc Try.prog Try.f4 Rows.fnExactPriorityRow.domain false) (Rows.fnExactPrioritySpec.post enc Try.prog Try.f4 false true false false) := by
  refine returnsInHanded_of_change_sized (C := Try.checked) own started (by kernel_rfl) Try.func4
    (ChangeSpec.witness6 (enc := enc) (C := Try.checked) false ⟨#[], #[.agg #[(.int .i64 0), (.int .i64 0), (.slice none 0 0), (.slice none 0 0)], .int .i64 0], []⟩ 8 (by kernel_rfl) (by kernel_rfl) (by kernel_rfl) (by kernel_rfl)) ?_
  intro W base args ds gs before hval0 hW hcnd hsz0 _
  have hsz : (DataW.weightsEach Try.prog (Try.f4.params.toList ++ Rows.fnExactPrioritySpec.plain.varTypes Try.prog) (ds ++ gs)).all (· ≤ reachBytes) = true := hsz0
  have hval : ∀ (j : Nat) t v, Try.f4.params[j]? = some t → args[j]? = some v → Value.okWide Try.prog W .any base t v := hval0
  have hW' := hW
  obtain ⟨p, q, hA0, hV, rfl, hfz, hnd⟩ := hW
  have hA : DataW.TrodAll enc Try.prog W 0 (fun _ => true) true Try.f4.params.toList args.toList ds p := hA0
  rw [Try.params4] at hA hval hsz
  obtain ⟨v0, vs0, d0, ds0, p0, q0, hargs, rfl, rfl, h0, r0⟩ := trodAll_cons hA
  obtain ⟨v1, vs1, d1, ds1, p1, q1, rfl, rfl, rfl, h1, r1⟩ := trodAll_cons r0
  obtain ⟨rfl, rfl, rfl⟩ := trodAll_nil r1
  obtain rfl : args = #[v0, v1] := by cases args; simp_all
  obtain ⟨rfl, rfl⟩ := trodVars_none hV
  obtain ⟨b0, rfl⟩ := ok_struct_cells Try.underlying25 (hval 0 25 v0 rfl rfl)
  have k0 := h0
  have lt0 : ∀ x ∈ p0, x.block < W.heap.size := by obtain ⟨m, hm⟩ := k0; exact DataW.trod_lt m _ _ _ hm
  obtain ⟨fuel0, hf0⟩ := h0
  obtain ⟨x0, hk0, hq0⟩ := o25 hf0
  obtain ⟨A0_2, c0_2, A0_3, c0_3, he0, hc0_2, hr0_2, hc0_3, hr0_3⟩ := k25_open hk0
  have hz0 := array_of_list he0
  clear he0
  subst hz0
  obtain ⟨a1, rfl, rfl, rfl, w1⟩ := open_int Try.underlying2 (hval 1 2 v1 rfl rfl) h1
  clear hA0 hval0 hsz0 hsz
  refine (PFnExactPriority.laws_FnExactPriority.walk Pure.FnExactPriority x0.f0 x0.f1 A0_2 c0_2 x0.f2 A0_3 c0_3 x0.f3 a1 W hr0_2 hc0_2 hr0_3 hc0_3 hq0 w1).mono fun e W' ⟨he, bel⟩ => ?_
  subst he
  exact ⟨_, rfl, _, _, _, [], _, [], hW', trodAll_mk1 (shut_bool Try.underlying4 _), (trodAll_cons_mk (Below.trod laidOut (by kernel_rfl) (of_decide_eq_true (by kernel_rfl)) k0 bel lt0) (trodAll_cons_mk (shut_int Try.underlying2 w1) trodAll_mk0)), rfl, bel.frame _, fun h => by cases h⟩
theorem over : Rows.fnExactPriorityRow.holds Try.pinned (OpenSpec.ofChange Rows.fnExactPrioritySpec) :=
  OpenClaim.holds_of_wide 4 Try.f4 rfl rfl rfl rfl rfl rfl rfl ⟨rfl, rfl, rfl, rfl, rfl⟩ rfl rfl rfl rfl rfl (by kernel_rfl) Try.func4 (by kernel_rfl)
    (of_decide_eq_true (by kernel_rfl)) (by unfold Func.isWrapper; first | (rw [if_pos (by decide +kernel)]; kernel_rfl) | (rw [if_neg (by decide +kernel)]; exact ⟨rfl, rfl⟩))
    (fun os started H enc _ => lifted os started H enc)
theorem proved : Rows.FnExactPrioritySaid := over
#print axioms proved
end Go.Proofs.Ytdlgalaemnjfjaa.fnExactPriority
namespace Go.Proofs.Ytdlgalaemnjfjaa
/-- The row, under a short name, for the claim. -/
theorem fnExactPriority_holds : Rows.FnExactPrioritySaid := fnExactPriority.proved
end Go.Proofs.Ytdlgalaemnjfjaa
