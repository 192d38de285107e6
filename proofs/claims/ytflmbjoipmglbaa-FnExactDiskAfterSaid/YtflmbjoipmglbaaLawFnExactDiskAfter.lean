-- Written by a program of this session: the row of the law laws_FnExactDiskAfter, out of its Pure (the session's) and the printed walk. Not trusted: Lean checks it.
import Derived.Test.YtflmbjoipmglbaaRows
import Derived.Test.YtflmbjoipmglbaaPFnExactDiskAfterx4
import Derived.Test.YtflmbjoipmglbaaPureFnExactDiskAfter
import Derived.WalkKit
import Derived.ProofKit
import Derived.OpenShut
import Derived.ShutString
import Derived.ChangeOld
import Derived.Below
import Derived.SizedLaws
import Derived.Test.YtflmbjoipmglbaaWSized
import Derived.Test.YtflmbjoipmglbaaOpens
namespace Go.Proofs.Ytflmbjoipmglbaa.fnExactDiskAfter
open Go.ChangeShapes Go.WideShapes Go.ChangeAt Go.RowKit
open Go.ChangeMaps (open_string shut_string)
set_option linter.unusedVariables false
set_option linter.unusedSimpArgs false
open Go.Proofs.Ytflmbjoipmglbaa.PFnExactDiskAfter Go.Proofs.YtflmbjoipmglbaaW.PrintWords Go.Proofs.Ytflmbjoipmglbaa.Opens
theorem o69 {H : Type} {enc : TypeId × Value → H} {w : World} {base : Nat} {spare : Nat → Bool} {held : Bool} {fuel : Nat} {cs : List Value} {x : DataW H × List MemPlace} (h : DataW.trod enc Try.prog w base spare held fuel 69 cs = some x) : ∃ v : S69, k69.K w v cs ∧ laws_FnExactDiskAfter.wf69 v := by
  obtain ⟨xs, n, rfl, _, hl, hn, hf⟩ := DataW.trod_struct Try.underlying69 h
  replace hl : cs.length = 2 := hl.trans (by kernel_rfl)
  replace hn : xs.length = 2 := hn
  have f0 : DataW.trod enc Try.prog w base spare held n 2 ((cs.drop 0).take 1) = some (xs[0]'(by omega)) := by
    have h_ : DataW.trod enc Try.prog w base spare held n 2 ((cs.drop 0).take (Try.prog.cellsOf 2)) = xs[0]? := hf 0 _ rfl
    rw [List.getElem?_eq_getElem (by omega)] at h_
    have hs_ : Try.prog.cellsOf 2 = 1 := by kernel_rfl
    rw [hs_] at h_
    exact h_
  obtain ⟨v0, g0, q0⟩ := open_k_int Try.underlying2 (f0)
  have f1 : DataW.trod enc Try.prog w base spare held n 22 ((cs.drop 1).take 1) = some (xs[1]'(by omega)) := by
    have h_ : DataW.trod enc Try.prog w base spare held n 22 ((cs.drop 1).take (Try.prog.cellsOf 22)) = xs[1]? := hf 1 _ rfl
    rw [List.getElem?_eq_getElem (by omega)] at h_
    have hs_ : Try.prog.cellsOf 22 = 1 := by kernel_rfl
    rw [hs_] at h_
    exact h_
  obtain ⟨v1, g1, q1⟩ := open_k_slice Try.underlying22 (by kernel_rfl) (fun n_ cs_ x_ h_ => open_k_int Try.underlying5 (h_)) (f1) 5
  exact ⟨⟨v0, v1⟩, pair_K (o := 0) (s := 1) (o' := 1) rfl g0 (last_K (o := 1) (s := 1) hl g1), q0, q1⟩
theorem own : ownKnob Try.prog.godebug = none := by kernel_rfl
theorem laidOut : laidOutB Try.prog = true := by kernel_rfl
def IsRow (k : IntKind) (w : World) (a : Option Addr) (len cap : Nat) (zs : List Int) : Prop :=
  (a = none ∧ len = 0 ∧ cap = 0 ∧ zs = []) ∨
  ∃ x, a = some x ∧ len ≤ cap ∧ cap ≤ maxLen ∧ zs.length = cap ∧ (∀ i, i < zs.length → w.cell? (x.add i) = some (.int k (zs.getD i 0))) ∧ ∀ n ∈ zs, (Lit.int k n).wf = true
set_option maxRecDepth 100000 in
theorem lifted (os : Os) (started : os.Started) (H : Type) (enc : TypeId × Value → H) :
    ReturnsInHanded {} Try.checked os 3 .any (Rows.fnExactDiskAfterSpec.pre6 enc Try.prog Try.f3 Rows.fnExactDiskAfterRow.domain false) (Rows.fnExactDiskAfterSpec.post enc Try.prog Try.f3 false true false false) := by
  refine returnsInHanded_of_change_sized (C := Try.checked) own started (by kernel_rfl) Try.func3
    (ChangeSpec.witness6 (enc := enc) (C := Try.checked) false ⟨#[], #[.slice none 0 0, .slice none 0 0], []⟩ 8 (by kernel_rfl) (by kernel_rfl) (by kernel_rfl) (by kernel_rfl)) ?_
  intro W base args ds gs before hval0 hW hcnd hsz0 _
  have hsz : (DataW.weightsEach Try.prog (Try.f3.params.toList ++ Rows.fnExactDiskAfterSpec.plain.varTypes Try.prog) (ds ++ gs)).all (· ≤ reachBytes) = true := hsz0
  have hval : ∀ (j : Nat) t v, Try.f3.params[j]? = some t → args[j]? = some v → Value.okWide Try.prog W .any base t v := hval0
  have hW' := hW
  obtain ⟨p, q, hA0, hV, rfl, hfz, hnd⟩ := hW
  have hA : DataW.TrodAll enc Try.prog W 0 (fun _ => true) true Try.f3.params.toList args.toList ds p := hA0
  rw [Try.params3] at hA hval hsz
  obtain ⟨v0, vs0, d0, ds0, p0, q0, hargs, rfl, rfl, h0, r0⟩ := trodAll_cons hA
  obtain ⟨v1, vs1, d1, ds1, p1, q1, rfl, rfl, rfl, h1, r1⟩ := trodAll_cons r0
  obtain ⟨rfl, rfl, rfl⟩ := trodAll_nil r1
  obtain rfl : args = #[v0, v1] := by cases args; simp_all
  obtain ⟨rfl, rfl⟩ := trodVars_none hV
  obtain ⟨a0, len0, cap0, rfl⟩ := okWide_slice Try.underlying22 (hval 0 22 v0 rfl rfl)
  have k0 := h0
  have lt0 : ∀ x ∈ p0, x.block < W.heap.size := by obtain ⟨m, hm⟩ := k0; exact DataW.trod_lt m _ _ _ hm
  obtain ⟨z0, w0⟩ : ∃ zs, IsRow .u8 W a0 len0 cap0 zs := by
    obtain ⟨fuel, hf⟩ := h0
    rcases open_ints Try.underlying22 Try.underlying5 (by kernel_rfl) hf with ⟨hcs, _⟩ | ⟨x, l, c, zs, hcs, _, hl, hm, hz, _, hcell, hwz⟩
    · simp [Value.cells] at hcs
      obtain ⟨rfl, rfl, rfl⟩ := hcs
      exact ⟨[], .inl ⟨rfl, rfl, rfl, rfl⟩⟩
    · simp [Value.cells] at hcs
      obtain ⟨rfl, rfl, rfl⟩ := hcs
      exact ⟨zs, .inr ⟨_, rfl, hl, hm, by simpa using hz, hcell, hwz⟩⟩
  have y0 : len0 * 1 ≤ 140737488351232 := sized_ints hsz (j := 0) (t := 22) rfl rfl Try.underlying22 Try.underlying5 (by kernel_rfl) (by kernel_rfl) h0
  obtain ⟨a1, len1, cap1, rfl⟩ := okWide_slice Try.underlying23 (hval 1 23 v1 rfl rfl)
  have k1 := h1
  have lt1 : ∀ x ∈ p1, x.block < W.heap.size := by obtain ⟨m, hm⟩ := k1; exact DataW.trod_lt m _ _ _ hm
  obtain ⟨fuel1, hf1⟩ := h1
  obtain ⟨l1, ⟨A1, c1, he1, hc1, hr1⟩, hq1⟩ := open_k_slice Try.underlying23 (by kernel_rfl) (fun n_ cs_ x_ h_ => o69 (h_)) (hf1) 69
  obtain ⟨rfl, rfl, rfl⟩ := slice_of_list he1
  clear hA0 hval0 hsz0 hsz
  refine (PFnExactDiskAfter.laws_FnExactDiskAfter.walk Pure.FnExactDiskAfter a0 len0 cap0 z0 _ _ l1 W w0 y0 hr1 hc1 hq1).mono fun e W' ⟨he, bel⟩ => ?_
  subst he
  exact ⟨_, rfl, _, _, _, [], _, [], hW', trodAll_mk1 (shut_bool Try.underlying4 _), (trodAll_cons_mk (Below.trod laidOut (by kernel_rfl) (of_decide_eq_true (by kernel_rfl)) k0 bel lt0) (trodAll_cons_mk (Below.trod laidOut (by kernel_rfl) (of_decide_eq_true (by kernel_rfl)) k1 bel lt1) trodAll_mk0)), rfl, bel.frame _, fun h => by cases h⟩
theorem over : Rows.fnExactDiskAfterRow.holds Try.pinned (OpenSpec.ofChange Rows.fnExactDiskAfterSpec) :=
  OpenClaim.holds_of_wide 3 Try.f3 rfl rfl rfl rfl rfl rfl rfl ⟨rfl, rfl, rfl, rfl, rfl⟩ rfl rfl rfl rfl rfl (by kernel_rfl) Try.func3 (by kernel_rfl)
    (of_decide_eq_true (by kernel_rfl)) (by unfold Func.isWrapper; first | (rw [if_pos (by decide +kernel)]; kernel_rfl) | (rw [if_neg (by decide +kernel)]; exact ⟨rfl, rfl⟩))
    (fun os started H enc _ => lifted os started H enc)
theorem proved : Rows.FnExactDiskAfterSaid := over
#print axioms proved
end Go.Proofs.Ytflmbjoipmglbaa.fnExactDiskAfter
namespace Go.Proofs.Ytflmbjoipmglbaa
/-- The row, under a short name, for the claim. -/
theorem fnExactDiskAfter_holds : Rows.FnExactDiskAfterSaid := fnExactDiskAfter.proved
end Go.Proofs.Ytflmbjoipmglbaa
