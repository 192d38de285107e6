-- Written by a program of this session: the row of the law laws_FnExactMachineOk, out of its Pure (the session's) and the printed walk. Not trusted: Lean checks it.
import Derived.Test.YtdhafphhkokniaaRows
import Derived.Test.YtdhafphhkokniaaPFnExactMachineOkx3
import Derived.Test.YtdhafphhkokniaaPureFnExactMachineOk
import Derived.WalkKit
import Derived.ProofKit
import Derived.OpenShut
import Derived.ShutString
import Derived.ChangeOld
import Derived.Below
import Derived.SizedLaws
import Derived.Test.YtdhafphhkokniaaWSized
import Derived.Test.YtdhafphhkokniaaOpens
namespace Go.Proofs.Ytdhafphhkokniaa.fnExactMachineOk
open Go.ChangeShapes Go.WideShapes Go.ChangeAt Go.RowKit
open Go.ChangeMaps (open_string shut_string)
set_option linter.unusedVariables false
set_option linter.unusedSimpArgs false
open Go.Proofs.Ytdhafphhkokniaa.PFnExactMachineOk Go.Proofs.YtdhafphhkokniaaW.PrintWords Go.Proofs.Ytdhafphhkokniaa.Opens
theorem o55 {H : Type} {enc : TypeId × Value → H} {w : World} {base : Nat} {spare : Nat → Bool} {held : Bool} {fuel : Nat} {cs : List Value} {x : DataW H × List MemPlace} (h : DataW.trod enc Try.prog w base spare held fuel 55 cs = some x) : ∃ v : S55, k55.K w v cs ∧ laws_FnExactMachineOk.wf55 v := by
  obtain ⟨xs, n, rfl, _, hl, hn, hf⟩ := DataW.trod_struct Try.underlying55 h
  replace hl : cs.length = 22 := hl.trans (by kernel_rfl)
  replace hn : xs.length = 22 := hn
  have f0 : DataW.trod enc Try.prog w base spare held n 53 ((cs.drop 0).take 1) = some (xs[0]'(by omega)) := by
    have h_ : DataW.trod enc Try.prog w base spare held n 53 ((cs.drop 0).take (Try.prog.cellsOf 53)) = xs[0]? := hf 0 _ rfl
    rw [List.getElem?_eq_getElem (by omega)] at h_
    have hs_ : Try.prog.cellsOf 53 = 1 := by kernel_rfl
    rw [hs_] at h_
    exact h_
  obtain ⟨v0, g0, q0⟩ := open_k_slice Try.underlying53 (by kernel_rfl) (fun n_ cs_ x_ h_ => open_k_int Try.underlying24 (h_)) (f0) 24
  have f1 : DataW.trod enc Try.prog w base spare held n 24 ((cs.drop 1).take 1) = some (xs[1]'(by omega)) := by
    have h_ : DataW.trod enc Try.prog w base spare held n 24 ((cs.drop 1).take (Try.prog.cellsOf 24)) = xs[1]? := hf 1 _ rfl
    rw [List.getElem?_eq_getElem (by omega)] at h_
    have hs_ : Try.prog.cellsOf 24 = 1 := by kernel_rfl
    rw [hs_] at h_
    exact h_
  obtain ⟨v1, g1, q1⟩ := open_k_int Try.underlying24 (f1)
  have f2 : DataW.trod enc Try.prog w base spare held n 4 ((cs.drop 2).take 1) = some (xs[2]'(by omega)) := by
    have h_ : DataW.trod enc Try.prog w base spare held n 4 ((cs.drop 2).take (Try.prog.cellsOf 4)) = xs[2]? := hf 2 _ rfl
    rw [List.getElem?_eq_getElem (by omega)] at h_
    have hs_ : Try.prog.cellsOf 4 = 1 := by kernel_rfl
    rw [hs_] at h_
    exact h_
  obtain ⟨v2, g2, q2⟩ := open_k_bool Try.underlying4 (f2)
  have f3 : DataW.trod enc Try.prog w base spare held n 4 ((cs.drop 3).take 1) = some (xs[3]'(by omega)) := by
    have h_ : DataW.trod enc Try.prog w base spare held n 4 ((cs.drop 3).take (Try.prog.cellsOf 4)) = xs[3]? := hf 3 _ rfl
    rw [List.getElem?_eq_getElem (by omega)] at h_
    have hs_ : Try.prog.cellsOf 4 = 1 := by kernel_rfl
    rw [hs_] at h_
    exact h_
  obtain ⟨v3, g3, q3⟩ := open_k_bool Try.underlying4 (f3)
  have f4 : DataW.trod enc Try.prog w base spare held n 4 ((cs.drop 4).take 1) = some (xs[4]'(by omega)) := by
    have h_ : DataW.trod enc Try.prog w base spare held n 4 ((cs.drop 4).take (Try.prog.cellsOf 4)) = xs[4]? := hf 4 _ rfl
    rw [List.getElem?_eq_getElem (by omega)] at h_
    have hs_ : Try.prog.cellsOf 4 = 1 := by kernel_rfl
    rw [hs_] at h_
    exact h_
  obtain ⟨v4, g4, q4⟩ := open_k_bool Try.underlying4 (f4)
  have f5 : DataW.trod enc Try.prog w base spare held n 4 ((cs.drop 5).take 1) = some (xs[5]'(by omega)) := by
    have h_ : DataW.trod enc Try.prog w base spare held n 4 ((cs.drop 5).take (Try.prog.cellsOf 4)) = xs[5]? := hf 5 _ rfl
    rw [List.getElem?_eq_getElem (by omega)] at h_
    have hs_ : Try.prog.cellsOf 4 = 1 := by kernel_rfl
    rw [hs_] at h_
    exact h_
  obtain ⟨v5, g5, q5⟩ := open_k_bool Try.underlying4 (f5)
  have f6 : DataW.trod enc Try.prog w base spare held n 24 ((cs.drop 6).take 1) = some (xs[6]'(by omega)) := by
    have h_ : DataW.trod enc Try.prog w base spare held n 24 ((cs.drop 6).take (Try.prog.cellsOf 24)) = xs[6]? := hf 6 _ rfl
    rw [List.getElem?_eq_getElem (by omega)] at h_
    have hs_ : Try.prog.cellsOf 24 = 1 := by kernel_rfl
    rw [hs_] at h_
    exact h_
  obtain ⟨v6, g6, q6⟩ := open_k_int Try.underlying24 (f6)
  have f7 : DataW.trod enc Try.prog w base spare held n 24 ((cs.drop 7).take 1) = some (xs[7]'(by omega)) := by
    have h_ : DataW.trod enc Try.prog w base spare held n 24 ((cs.drop 7).take (Try.prog.cellsOf 24)) = xs[7]? := hf 7 _ rfl
    rw [List.getElem?_eq_getElem (by omega)] at h_
    have hs_ : Try.prog.cellsOf 24 = 1 := by kernel_rfl
    rw [hs_] at h_
    exact h_
  obtain ⟨v7, g7, q7⟩ := open_k_int Try.underlying24 (f7)
  have f8 : DataW.trod enc Try.prog w base spare held n 24 ((cs.drop 8).take 1) = some (xs[8]'(by omega)) := by
    have h_ : DataW.trod enc Try.prog w base spare held n 24 ((cs.drop 8).take (Try.prog.cellsOf 24)) = xs[8]? := hf 8 _ rfl
    rw [List.getElem?_eq_getElem (by omega)] at h_
    have hs_ : Try.prog.cellsOf 24 = 1 := by kernel_rfl
    rw [hs_] at h_
    exact h_
  obtain ⟨v8, g8, q8⟩ := open_k_int Try.underlying24 (f8)
  have f9 : DataW.trod enc Try.prog w base spare held n 24 ((cs.drop 9).take 1) = some (xs[9]'(by omega)) := by
    have h_ : DataW.trod enc Try.prog w base spare held n 24 ((cs.drop 9).take (Try.prog.cellsOf 24)) = xs[9]? := hf 9 _ rfl
    rw [List.getElem?_eq_getElem (by omega)] at h_
    have hs_ : Try.prog.cellsOf 24 = 1 := by kernel_rfl
    rw [hs_] at h_
    exact h_
  obtain ⟨v9, g9, q9⟩ := open_k_int Try.underlying24 (f9)
  have f10 : DataW.trod enc Try.prog w base spare held n 24 ((cs.drop 10).take 1) = some (xs[10]'(by omega)) := by
    have h_ : DataW.trod enc Try.prog w base spare held n 24 ((cs.drop 10).take (Try.prog.cellsOf 24)) = xs[10]? := hf 10 _ rfl
    rw [List.getElem?_eq_getElem (by omega)] at h_
    have hs_ : Try.prog.cellsOf 24 = 1 := by kernel_rfl
    rw [hs_] at h_
    exact h_
  obtain ⟨v10, g10, q10⟩ := open_k_int Try.underlying24 (f10)
  have f11 : DataW.trod enc Try.prog w base spare held n 24 ((cs.drop 11).take 1) = some (xs[11]'(by omega)) := by
    have h_ : DataW.trod enc Try.prog w base spare held n 24 ((cs.drop 11).take (Try.prog.cellsOf 24)) = xs[11]? := hf 11 _ rfl
    rw [List.getElem?_eq_getElem (by omega)] at h_
    have hs_ : Try.prog.cellsOf 24 = 1 := by kernel_rfl
    rw [hs_] at h_
    exact h_
  obtain ⟨v11, g11, q11⟩ := open_k_int Try.underlying24 (f11)
  have f12 : DataW.trod enc Try.prog w base spare held n 24 ((cs.drop 12).take 1) = some (xs[12]'(by omega)) := by
    have h_ : DataW.trod enc Try.prog w base spare held n 24 ((cs.drop 12).take (Try.prog.cellsOf 24)) = xs[12]? := hf 12 _ rfl
    rw [List.getElem?_eq_getElem (by omega)] at h_
    have hs_ : Try.prog.cellsOf 24 = 1 := by kernel_rfl
    rw [hs_] at h_
    exact h_
  obtain ⟨v12, g12, q12⟩ := open_k_int Try.underlying24 (f12)
  have f13 : DataW.trod enc Try.prog w base spare held n 24 ((cs.drop 13).take 1) = some (xs[13]'(by omega)) := by
    have h_ : DataW.trod enc Try.prog w base spare held n 24 ((cs.drop 13).take (Try.prog.cellsOf 24)) = xs[13]? := hf 13 _ rfl
    rw [List.getElem?_eq_getElem (by omega)] at h_
    have hs_ : Try.prog.cellsOf 24 = 1 := by kernel_rfl
    rw [hs_] at h_
    exact h_
  obtain ⟨v13, g13, q13⟩ := open_k_int Try.underlying24 (f13)
  have f14 : DataW.trod enc Try.prog w base spare held n 34 ((cs.drop 14).take 1) = some (xs[14]'(by omega)) := by
    have h_ : DataW.trod enc Try.prog w base spare held n 34 ((cs.drop 14).take (Try.prog.cellsOf 34)) = xs[14]? := hf 14 _ rfl
    rw [List.getElem?_eq_getElem (by omega)] at h_
    have hs_ : Try.prog.cellsOf 34 = 1 := by kernel_rfl
    rw [hs_] at h_
    exact h_
  obtain ⟨v14, g14, q14⟩ := open_k_slice Try.underlying34 (by kernel_rfl) (fun n_ cs_ x_ h_ => open_k_int Try.underlying5 (h_)) (f14) 5
  have f15 : DataW.trod enc Try.prog w base spare held n 34 ((cs.drop 15).take 1) = some (xs[15]'(by omega)) := by
    have h_ : DataW.trod enc Try.prog w base spare held n 34 ((cs.drop 15).take (Try.prog.cellsOf 34)) = xs[15]? := hf 15 _ rfl
    rw [List.getElem?_eq_getElem (by omega)] at h_
    have hs_ : Try.prog.cellsOf 34 = 1 := by kernel_rfl
    rw [hs_] at h_
    exact h_
  obtain ⟨v15, g15, q15⟩ := open_k_slice Try.underlying34 (by kernel_rfl) (fun n_ cs_ x_ h_ => open_k_int Try.underlying5 (h_)) (f15) 5
  have f16 : DataW.trod enc Try.prog w base spare held n 34 ((cs.drop 16).take 1) = some (xs[16]'(by omega)) := by
    have h_ : DataW.trod enc Try.prog w base spare held n 34 ((cs.drop 16).take (Try.prog.cellsOf 34)) = xs[16]? := hf 16 _ rfl
    rw [List.getElem?_eq_getElem (by omega)] at h_
    have hs_ : Try.prog.cellsOf 34 = 1 := by kernel_rfl
    rw [hs_] at h_
    exact h_
  obtain ⟨v16, g16, q16⟩ := open_k_slice Try.underlying34 (by kernel_rfl) (fun n_ cs_ x_ h_ => open_k_int Try.underlying5 (h_)) (f16) 5
  have f17 : DataW.trod enc Try.prog w base spare held n 34 ((cs.drop 17).take 1) = some (xs[17]'(by omega)) := by
    have h_ : DataW.trod enc Try.prog w base spare held n 34 ((cs.drop 17).take (Try.prog.cellsOf 34)) = xs[17]? := hf 17 _ rfl
    rw [List.getElem?_eq_getElem (by omega)] at h_
    have hs_ : Try.prog.cellsOf 34 = 1 := by kernel_rfl
    rw [hs_] at h_
    exact h_
  obtain ⟨v17, g17, q17⟩ := open_k_slice Try.underlying34 (by kernel_rfl) (fun n_ cs_ x_ h_ => open_k_int Try.underlying5 (h_)) (f17) 5
  have f18 : DataW.trod enc Try.prog w base spare held n 24 ((cs.drop 18).take 1) = some (xs[18]'(by omega)) := by
    have h_ : DataW.trod enc Try.prog w base spare held n 24 ((cs.drop 18).take (Try.prog.cellsOf 24)) = xs[18]? := hf 18 _ rfl
    rw [List.getElem?_eq_getElem (by omega)] at h_
    have hs_ : Try.prog.cellsOf 24 = 1 := by kernel_rfl
    rw [hs_] at h_
    exact h_
  obtain ⟨v18, g18, q18⟩ := open_k_int Try.underlying24 (f18)
  have f19 : DataW.trod enc Try.prog w base spare held n 24 ((cs.drop 19).take 1) = some (xs[19]'(by omega)) := by
    have h_ : DataW.trod enc Try.prog w base spare held n 24 ((cs.drop 19).take (Try.prog.cellsOf 24)) = xs[19]? := hf 19 _ rfl
    rw [List.getElem?_eq_getElem (by omega)] at h_
    have hs_ : Try.prog.cellsOf 24 = 1 := by kernel_rfl
    rw [hs_] at h_
    exact h_
  obtain ⟨v19, g19, q19⟩ := open_k_int Try.underlying24 (f19)
  have f20 : DataW.trod enc Try.prog w base spare held n 24 ((cs.drop 20).take 1) = some (xs[20]'(by omega)) := by
    have h_ : DataW.trod enc Try.prog w base spare held n 24 ((cs.drop 20).take (Try.prog.cellsOf 24)) = xs[20]? := hf 20 _ rfl
    rw [List.getElem?_eq_getElem (by omega)] at h_
    have hs_ : Try.prog.cellsOf 24 = 1 := by kernel_rfl
    rw [hs_] at h_
    exact h_
  obtain ⟨v20, g20, q20⟩ := open_k_int Try.underlying24 (f20)
  have f21 : DataW.trod enc Try.prog w base spare held n 4 ((cs.drop 21).take 1) = some (xs[21]'(by omega)) := by
    have h_ : DataW.trod enc Try.prog w base spare held n 4 ((cs.drop 21).take (Try.prog.cellsOf 4)) = xs[21]? := hf 21 _ rfl
    rw [List.getElem?_eq_getElem (by omega)] at h_
    have hs_ : Try.prog.cellsOf 4 = 1 := by kernel_rfl
    rw [hs_] at h_
    exact h_
  obtain ⟨v21, g21, q21⟩ := open_k_bool Try.underlying4 (f21)
  exact ⟨⟨v0, v1, v2, v3, v4, v5, v6, v7, v8, v9, v10, v11, v12, v13, v14, v15, v16, v17, v18, v19, v20, v21⟩, pair_K (o := 0) (s := 1) (o' := 1) rfl g0 (pair_K (o := 1) (s := 1) (o' := 2) rfl g1 (pair_K (o := 2) (s := 1) (o' := 3) rfl g2 (pair_K (o := 3) (s := 1) (o' := 4) rfl g3 (pair_K (o := 4) (s := 1) (o' := 5) rfl g4 (pair_K (o := 5) (s := 1) (o' := 6) rfl g5 (pair_K (o := 6) (s := 1) (o' := 7) rfl g6 (pair_K (o := 7) (s := 1) (o' := 8) rfl g7 (pair_K (o := 8) (s := 1) (o' := 9) rfl g8 (pair_K (o := 9) (s := 1) (o' := 10) rfl g9 (pair_K (o := 10) (s := 1) (o' := 11) rfl g10 (pair_K (o := 11) (s := 1) (o' := 12) rfl g11 (pair_K (o := 12) (s := 1) (o' := 13) rfl g12 (pair_K (o := 13) (s := 1) (o' := 14) rfl g13 (pair_K (o := 14) (s := 1) (o' := 15) rfl g14 (pair_K (o := 15) (s := 1) (o' := 16) rfl g15 (pair_K (o := 16) (s := 1) (o' := 17) rfl g16 (pair_K (o := 17) (s := 1) (o' := 18) rfl g17 (pair_K (o := 18) (s := 1) (o' := 19) rfl g18 (pair_K (o := 19) (s := 1) (o' := 20) rfl g19 (pair_K (o := 20) (s := 1) (o' := 21) rfl g20 (last_K (o := 21) (s := 1) hl g21))))))))))))))))))))), q0, q1, q2, q3, q4, q5, q6, q7, q8, q9, q10, q11, q12, q13, q14, q15, q16, q17, q18, q19, q20, q21⟩
theorem own : ownKnob Try.prog.godebug = none := by kernel_rfl
theorem laidOut : laidOutB Try.prog = true := by kernel_rfl
def IsRow (k : IntKind) (w : World) (a : Option Addr) (len cap : Nat) (zs : List Int) : Prop :=
  (a = none ∧ len = 0 ∧ cap = 0 ∧ zs = []) ∨
  ∃ x, a = some x ∧ len ≤ cap ∧ cap ≤ maxLen ∧ zs.length = cap ∧ (∀ i, i < zs.length → w.cell? (x.add i) = some (.int k (zs.getD i 0))) ∧ ∀ n ∈ zs, (Lit.int k n).wf = true
set_option maxRecDepth 100000 in
theorem lifted (os : Os) (started : os.Started) (H : Type) (enc : TypeId × Value → H) :
    ReturnsInHanded {} Try.checked os 8 .any (Rows.fnExactMachineOkSpec.pre6 enc Try.prog Try.f8 Rows.fnExactMachineOkRow.domain false) (Rows.fnExactMachineOkSpec.post enc Try.prog Try.f8 false true false false) := by
  refine returnsInHanded_of_change_sized (C := Try.checked) own started (by kernel_rfl) Try.func8
    (ChangeSpec.witness6 (enc := enc) (C := Try.checked) false ⟨#[], #[.agg #[(.slice none 0 0), (.int .u64 0), (.bool false), (.bool false), (.bool false), (.bool false), (.int .u64 0), (.int .u64 0), (.int .u64 0), (.int .u64 0), (.int .u64 0), (.int .u64 0), (.int .u64 0), (.int .u64 0), (.slice none 0 0), (.slice none 0 0), (.slice none 0 0), (.slice none 0 0), (.int .u64 0), (.int .u64 0), (.int .u64 0), (.bool false)]], []⟩ 8 (by kernel_rfl) (by kernel_rfl) (by kernel_rfl) (by kernel_rfl)) ?_
  intro W base args ds gs before hval0 hW hcnd hsz0 _
  have hsz : (DataW.weightsEach Try.prog (Try.f8.params.toList ++ Rows.fnExactMachineOkSpec.plain.varTypes Try.prog) (ds ++ gs)).all (· ≤ reachBytes) = true := hsz0
  have hval : ∀ (j : Nat) t v, Try.f8.params[j]? = some t → args[j]? = some v → Value.okWide Try.prog W .any base t v := hval0
  have hW' := hW
  obtain ⟨p, q, hA0, hV, rfl, hfz, hnd⟩ := hW
  have hA : DataW.TrodAll enc Try.prog W 0 (fun _ => true) true Try.f8.params.toList args.toList ds p := hA0
  rw [Try.params8] at hA hval hsz
  obtain ⟨v0, vs0, d0, ds0, p0, q0, hargs, rfl, rfl, h0, r0⟩ := trodAll_cons hA
  obtain ⟨rfl, rfl, rfl⟩ := trodAll_nil r0
  obtain rfl : args = #[v0] := by cases args; simp_all
  obtain ⟨rfl, rfl⟩ := trodVars_none hV
  obtain ⟨b0, rfl⟩ := ok_struct_cells Try.underlying55 (hval 0 55 v0 rfl rfl)
  have k0 := h0
  have lt0 : ∀ x ∈ p0, x.block < W.heap.size := by obtain ⟨m, hm⟩ := k0; exact DataW.trod_lt m _ _ _ hm
  obtain ⟨fuel0, hf0⟩ := h0
  obtain ⟨x0, hk0, hq0⟩ := o55 hf0
  obtain ⟨A0_0, c0_0, A0_14, c0_14, A0_15, c0_15, A0_16, c0_16, A0_17, c0_17, he0, hc0_0, hr0_0, hc0_14, hr0_14, hc0_15, hr0_15, hc0_16, hr0_16, hc0_17, hr0_17⟩ := k55_open hk0
  have hz0 := array_of_list he0
  clear he0
  subst hz0
  clear hA0 hval0 hsz0 hsz
  refine (PFnExactMachineOk.laws_FnExactMachineOk.walk Pure.FnExactMachineOk A0_0 c0_0 x0.f0 x0.f1 x0.f2 x0.f3 x0.f4 x0.f5 x0.f6 x0.f7 x0.f8 x0.f9 x0.f10 x0.f11 x0.f12 x0.f13 A0_14 c0_14 x0.f14 A0_15 c0_15 x0.f15 A0_16 c0_16 x0.f16 A0_17 c0_17 x0.f17 x0.f18 x0.f19 x0.f20 x0.f21 W hr0_0 hc0_0 hr0_14 hc0_14 hr0_15 hc0_15 hr0_16 hc0_16 hr0_17 hc0_17 hq0).mono fun e W' ⟨he, bel⟩ => ?_
  subst he
  exact ⟨_, rfl, _, _, _, [], _, [], hW', trodAll_mk1 (shut_bool Try.underlying4 _), (trodAll_cons_mk (Below.trod laidOut (by kernel_rfl) (of_decide_eq_true (by kernel_rfl)) k0 bel lt0) trodAll_mk0), rfl, bel.frame _, fun h => by cases h⟩
theorem over : Rows.fnExactMachineOkRow.holds Try.pinned (OpenSpec.ofChange Rows.fnExactMachineOkSpec) :=
  OpenClaim.holds_of_wide 8 Try.f8 rfl rfl rfl rfl rfl rfl rfl ⟨rfl, rfl, rfl, rfl, rfl⟩ rfl rfl rfl rfl rfl (by kernel_rfl) Try.func8 (by kernel_rfl)
    (of_decide_eq_true (by kernel_rfl)) (by unfold Func.isWrapper; first | (rw [if_pos (by decide +kernel)]; kernel_rfl) | (rw [if_neg (by decide +kernel)]; exact ⟨rfl, rfl⟩))
    (fun os started H enc _ => lifted os started H enc)
theorem proved : Rows.FnExactMachineOkSaid := over
#print axioms proved
end Go.Proofs.Ytdhafphhkokniaa.fnExactMachineOk
namespace Go.Proofs.Ytdhafphhkokniaa
/-- The row, under a short name, for the claim. -/
theorem fnExactMachineOk_holds : Rows.FnExactMachineOkSaid := fnExactMachineOk.proved
end Go.Proofs.Ytdhafphhkokniaa
