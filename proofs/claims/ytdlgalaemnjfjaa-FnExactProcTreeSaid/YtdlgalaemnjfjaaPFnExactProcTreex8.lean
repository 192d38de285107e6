-- Written by a program of this session out of the translation. Not trusted: Lean checks it.
import Derived.Test.YtdlgalaemnjfjaaPFnExactProcTreex0
import Derived.Test.YtdlgalaemnjfjaaPFnExactProcTreex7
import Derived.Laws.CopyOwn
namespace Go.Proofs.Ytdlgalaemnjfjaa.PFnExactProcTree
open Go.RowKit Go.Proofs.YtdlgalaemnjfjaaW.PrintWords Go.Proofs.YtdlgalaemnjfjaaW.PrintLast Go.Proofs.YtdlgalaemnjfjaaW.PrintMore
attribute [local go_sem] max2_int min2_int max_two min_two max_three min_three max_four min_four   -- for this text's walks alone
set_option linter.unusedVariables false
set_option linter.unusedSimpArgs false

/-! ### impl_ProcTree: function 28 -/
/-- Is that process on the way up? -/
def impl_ProcTree.way (l : List S87) (id : Int) : Nat → S87 → Option Bool
  | 0, _ => none
  | k + 1, q => if q.f0 = id then some true else
    match impl_Procs_at.idx q.f1 l 0 with
    | none => some false
    | some j => impl_ProcTree.way l id k (rd_T87 l (j : Int))
def impl_ProcTree.go (l : List S87) (id : Int) (k : Nat) : List S87 → List Int → Option (List Int)
  | [], acc => some acc
  | x :: xs, acc => (impl_ProcTree.way l id k x).bind fun b => if b = true then impl_ProcTree.go l id k xs (acc ++ [x.f0]) else impl_ProcTree.go l id k xs acc
def impl_ProcTree.f (k : Nat) (l : List S87) (id : Int) : Option (List Int) :=
  if impl_ProcsOk.ok l = false then some [] else if impl_Procs_at.idx id l 0 = none then some [] else impl_ProcTree.go l id k l []
theorem impl_ProcTree.mono_way (l : List S87) (id : Int) : ∀ k q, LeO (impl_ProcTree.way l id k q) (impl_ProcTree.way l id (k + 1) q)
  | 0, q => fun r h => by simp [impl_ProcTree.way] at h
  | k + 1, q => by
    rw [impl_ProcTree.way, impl_ProcTree.way]
    refine LeO.ite (LeO.refl _) ?_
    cases impl_Procs_at.idx q.f1 l 0 with
    | none => exact LeO.refl _
    | some j => exact impl_ProcTree.mono_way l id k _
theorem impl_ProcTree.mono_go (l : List S87) (id : Int) (k : Nat) : ∀ xs acc, LeO (impl_ProcTree.go l id k xs acc) (impl_ProcTree.go l id (k + 1) xs acc)
  | [], acc => LeO.refl _
  | x :: xs, acc => by
    rw [impl_ProcTree.go, impl_ProcTree.go]
    exact LeO.bind (impl_ProcTree.mono_way l id k x) (fun b => LeO.ite (impl_ProcTree.mono_go l id k xs _) (impl_ProcTree.mono_go l id k xs _))
theorem impl_ProcTree.mono : ∀ a0 a1 k, LeO (impl_ProcTree.f k a0 a1) (impl_ProcTree.f (k + 1) a0 a1) := by
  intro l id k
  unfold impl_ProcTree.f
  exact LeO.ite (LeO.refl _) (LeO.ite (LeO.refl _) (impl_ProcTree.mono_go l id k l []))
theorem impl_ProcTree.go_at {l : List S87} {id : Int} {k i : Nat} {x : S87} {acc r : List Int} (h : l[i]? = some x) (hg : impl_ProcTree.go l id k (l.drop i) acc = some r) : ∃ b, impl_ProcTree.way l id k x = some b ∧ impl_ProcTree.go l id k (l.drop (i + 1)) (if b = true then acc ++ [x.f0] else acc) = some r := by
  obtain ⟨hi, rfl⟩ := List.getElem?_eq_some_iff.1 h
  rw [List.drop_eq_getElem_cons hi, impl_ProcTree.go] at hg
  obtain ⟨b, hb, hg⟩ := Option.bind_eq_some_iff.mp hg
  refine ⟨b, hb, ?_⟩
  cases b with
  | true => rw [if_pos rfl] at hg ⊢; exact hg
  | false => rw [if_neg (by simp)] at hg ⊢; exact hg
set_option maxHeartbeats 8000000 in
set_option maxRecDepth 100000 in
theorem impl_ProcTree.calls (k : Nat) (A : Option Addr) (c : Nat) (l : List S87) (id : Int) (r : List Int) (w : World) (hC0 : Kd.C k87 w A l.length l) (hc0 : l.length ≤ c) (h : impl_ProcTree.f k l id = some r) :
    Calls Try.prog 28 #[.agg #[.slice A l.length c], .int .i64 id] w fun e w' => ∃ v0_ : Value, e = .returned (v0_) ∧ Kd.R (Kd.int .i64) 2 w' w.heap.size (fun _ => True) v0_ r ∧ Below w.heap.size w w' := by
  have hC := Aside0.mk hC0
  have hcl := Aside0.mk hc0
  clear hC0 hc0
  have hu48 := Try.underlying48
  unfold impl_ProcTree.f at h
  by_cases c1 : impl_ProcsOk.ok l = false
  · rw [if_pos c1] at h
    obtain rfl := Option.some.inj h
    have hOk := Aside0.mk c1
    clear c1 h
    go_enter Try.func28, Try.ntmps28
    go_wp2_with (first | ((with_reducible refine gate_dst (N := 2) rfl ?_); refine box_event ?hg (N := 2) ?hd (cs := #[.slice A l.length c]) (t := 48) ?hr ?_; (case hd => rfl); (case hg => rfl); (case hr => first | (go_simp; done) | (go_simp; rfl)); intro gp hgq w3 hbq hB_; have GP := Aside0.mk (show w.heap.size ≤ gp from Nat.le_of_eq hgq.symm); have BP := Aside0.mk hbq; have HB := Aside0.mk hB_; clear hbq hgq hB_; have hp0 : w3.cell? ⟨gp, 0, none⟩ = some (.slice A l.length c) := (blk_cell BP.out 0).trans rfl) | (go_at_call 26; refine (impl_ProcsOk.calls A c l false _ (Kd.C_below hC.out HB.out) hcl.out (by unfold impl_ProcsOk.f; rw [hOk.out])).mono ?_; rintro e w4 ⟨rfl, hB_⟩; have n_ := Aside0.mk (blk_below BP.out hB_); clear BP hp0; have BP := n_; clear n_; have hp0 : w4.cell? ⟨gp, 0, none⟩ = some (.slice A l.length c) := (blk_cell BP.out 0).trans rfl; have n_ := Aside0.mk (below_step HB.out hB_); clear HB hB_; have HB := n_; clear n_))
    go_ret
    exact ⟨_, rfl, Kd.R_nil _ _ _ _ _, HB.out⟩
  rw [if_neg c1] at h
  have hOk : Aside0 (impl_ProcsOk.ok l = true) := ⟨by simpa using c1⟩
  clear c1
  have hl : Aside0 (l.length ≤ 32) := ⟨by
    have := hOk.out
    unfold impl_ProcsOk.ok at this
    simp only [Bool.and_eq_true, decide_eq_true_eq] at this
    exact this.1.1.2⟩
  have hlast2 : Aside0 (l.length ≤ 9223372036854775807) := ⟨by have := hl.out; omega⟩
  obtain ⟨oj, hj⟩ : ∃ oj, Aside0 (impl_Procs_at.idx id l 0 = oj) := ⟨_, ⟨rfl⟩⟩
  cases oj with
  | none =>
    rw [if_pos hj.out] at h
    obtain rfl := Option.some.inj h
    clear h
    go_enter Try.func28, Try.ntmps28
    go_wp2_with (first | ((with_reducible refine gate_dst (N := 2) rfl ?_); refine box_event ?hg (N := 2) ?hd (cs := #[.slice A l.length c]) (t := 48) ?hr ?_; (case hd => rfl); (case hg => rfl); (case hr => first | (go_simp; done) | (go_simp; rfl)); intro gp hgq w3 hbq hB_; have GP := Aside0.mk (show w.heap.size ≤ gp from Nat.le_of_eq hgq.symm); have BP := Aside0.mk hbq; have HB := Aside0.mk hB_; clear hbq hgq hB_; have hp0 : w3.cell? ⟨gp, 0, none⟩ = some (.slice A l.length c) := (blk_cell BP.out 0).trans rfl) | (go_at_call 26; refine (impl_ProcsOk.calls A c l true _ (Kd.C_below hC.out HB.out) hcl.out (by unfold impl_ProcsOk.f; rw [hOk.out])).mono ?_; rintro e w4 ⟨rfl, hB_⟩; have n_ := Aside0.mk (blk_below BP.out hB_); clear BP hp0; have BP := n_; clear n_; have hp0 : w4.cell? ⟨gp, 0, none⟩ = some (.slice A l.length c) := (blk_cell BP.out 0).trans rfl; have n_ := Aside0.mk (below_step HB.out hB_); clear HB hB_; have HB := n_; clear n_) | (go_at_call 56; refine (impl_Procs_at.calls gp _ c l id _ BP.out ?sC hlast2.out).mono ?_; (case sC => exact Kd.C_below hC.out HB.out); rintro e w6 ⟨rfl, rfl⟩; rw [hj.out]; simp only [impl_Procs_at.ptr, Option.map_some]))
    go_ret
    exact ⟨_, rfl, Kd.R_nil _ _ _ _ _, HB.out⟩
  | some j0 =>
    rw [if_neg (by rw [hj.out]; simp)] at h
    have H := Aside0.mk h
    clear h
    go_enter Try.func28, Try.ntmps28
    have hjl := Aside0.mk (impl_Procs_at.idx_lt _ _ _ _ hj.out)
    obtain ⟨ad0, rfl, -⟩ := at_T87 hC.out (j0 : Int) (by omega) (by have := hjl.out; omega)
    clear hjl
    go_wp2_with (first | ((with_reducible refine gate_dst (N := 2) rfl ?_); refine box_event ?hg (N := 2) ?hd (cs := #[.slice (some ad0) l.length c]) (t := 48) ?hr ?_; (case hd => rfl); (case hg => rfl); (case hr => first | (go_simp; done) | (go_simp; rfl)); intro gp hgq w3 hbq hB_; have GP := Aside0.mk (show w.heap.size ≤ gp from Nat.le_of_eq hgq.symm); have BP := Aside0.mk hbq; have HB := Aside0.mk hB_; clear hbq hgq hB_; have hp0 : w3.cell? ⟨gp, 0, none⟩ = some (.slice (some ad0) l.length c) := (blk_cell BP.out 0).trans rfl) | (go_at_call 26; refine (impl_ProcsOk.calls _ c l true _ (Kd.C_below hC.out HB.out) hcl.out (by unfold impl_ProcsOk.f; rw [hOk.out])).mono ?_; rintro e w4 ⟨rfl, hB_⟩; have n_ := Aside0.mk (blk_below BP.out hB_); clear BP hp0; have BP := n_; clear n_; have hp0 : w4.cell? ⟨gp, 0, none⟩ = some (.slice (some ad0) l.length c) := (blk_cell BP.out 0).trans rfl; have n_ := Aside0.mk (below_step HB.out hB_); clear HB hB_; have HB := n_; clear n_) | (go_at_call 56; refine (impl_Procs_at.calls gp _ c l id _ BP.out ?sC hlast2.out).mono ?_; (case sC => exact Kd.C_below hC.out HB.out); rintro e w6 ⟨rfl, rfl⟩; rw [hj.out]; simp only [impl_Procs_at.ptr, Option.map_some]))
    go_loopg [4, 19] l.length (fun kq v4 v19 wr => ∃ (i : Nat) (acc : List Int), v19 = .int .i64 (i : Int) ∧ Aside0 (i + kq = l.length) ∧ Aside0 (acc.length ≤ i) ∧ Aside0 (impl_ProcTree.go l id k (l.drop i) acc = some r) ∧ Aside0 (Kd.R (Kd.int .i64) 2 wr w.heap.size (fun _ => True) v4 acc) ∧ Aside0 (wr.heap[gp]? = some (.cells #[.slice (some ad0) l.length c] 48 (0, 0))) ∧ Aside0 (Below w.heap.size w wr))
    case atStart => exact ⟨0, [], rfl, ⟨by omega⟩, ⟨Nat.le_refl _⟩, ⟨by rw [List.drop_zero]; exact H.out⟩, ⟨Kd.R_nil _ _ _ _ _⟩, BP, HB⟩
    case round =>
      clear BP HB hp0 H
      obtain ⟨i, acc, rfl, hk, hacc, HA, HO, BP, HB⟩ := hrel
      have hp0 : wr.cell? ⟨gp, 0, none⟩ = some (.slice (some ad0) l.length c) := (blk_cell BP.out 0).trans rfl
      have hlast := hl.out
      by_cases hi : i < l.length
      · obtain ⟨x, hx⟩ : ∃ x, l[i]? = some x := ⟨_, List.getElem?_eq_getElem hi⟩
        obtain ⟨ad, ead, h0, h1, h2, h3, h4, h5, h6, h7, h8, h9⟩ := at_T87 hC.out (i : Int) (by omega) (by omega)
        obtain rfl : ad = ad0 := (Option.some.inj ead).symm
        simp only [Int.toNat_natCast, impl_Procs_at.rd hx] at h0 h1 h2 h3 h4 h5 h6 h7 h8 h9
        have b0 : (0 ≤ (i : Int)) = True := eq_true (by omega)
        have b1 : ((i : Int) < (l.length : Int)) = True := eq_true (by omega)
        have b2 : (i < l.length) = True := eq_true hi
        have hw : IntKind.i64.wrap ((i : Int) + 1) = ((i + 1 : Nat) : Int) := by rw [IntKind.wrap_i64]; omega
        obtain ⟨b, hb_, hg_⟩ := impl_ProcTree.go_at hx HA.out
        have hb := Aside0.mk hb_
        have hg := Aside0.mk hg_
        clear hb_ hg_ HA ead
        replace h0 := pw_cell_below HB.out h0
        replace h1 := pw_cell_below HB.out h1
        replace h2 := pw_cell_below HB.out h2
        replace h3 := pw_cell_below HB.out h3
        replace h4 := pw_cell_below HB.out h4
        replace h5 := pw_cell_below HB.out h5
        replace h6 := pw_cell_below HB.out h6
        replace h7 := pw_cell_below HB.out h7
        replace h8 := pw_cell_below HB.out h8
        replace h9 := pw_cell_below HB.out h9
        have hi_ := Aside0.mk hi
        clear hx hlast hi
        have hi := hi_
        clear hi_
        go_wp2_with (first | ((with_reducible refine gate_dst (N := 6) rfl ?_); refine box_event ?hg (N := 6) ?hd (cs := #[.int .i64 0, .int .i64 0, .int .i64 0, .int .i64 0, .int .i64 0, .int .i64 0, .int .i64 0, .int .i64 0, .int .i64 0, .int .i64 0]) (t := 87) ?hr ?_; (case hd => rfl); (case hg => rfl); (case hr => first | (go_simp; done) | (go_simp; rfl)); intro gx hgq w5 hbq hB_; have GX := Aside0.mk (show w.heap.size ≤ gx by rw [hgq]; exact HB.out.size); have NX := Aside0.mk (show gp ≠ gx by rw [hgq]; exact Nat.ne_of_lt (blk_lt BP.out)); have n_ := Aside0.mk (blk_below BP.out hB_); clear BP hp0; have BP := n_; clear n_; have hp0 : w5.cell? ⟨gp, 0, none⟩ = some (.slice (some ad) l.length c) := (blk_cell BP.out 0).trans rfl; have n_ := Aside0.mk (below_step HB.out hB_); clear HB; have HB := n_; clear n_; have n_ := Aside0.mk (Kd.R_below HO.out hB_); clear HO hB_; have HO := n_; clear n_; have BX := Aside0.mk hbq; clear hbq hgq) | ((with_reducible refine gate_store (t := 87) (p := 6) rfl ?_); refine wpList_store_row rfl 87 (.tmp 6) (.tmp 22) rfl gx #[.int .i64 x.f0, .int .i64 x.f1, .int .i64 x.f2, .int .i64 x.f3, .int .i64 x.f4, .int .i64 x.f5, .int .i64 x.f6, .int .i64 x.f7, .int .i64 x.f8, .int .i64 x.f9] rfl rfl 87 _ BX.out (by kernel_rfl) rfl (by simp [Value.oneCell']) ?_; have BX_ := BX; generalize hw : World.setRow _ _ _ = w7; have n_ : Aside0 (w7.heap[gx]? = some (.cells #[.int .i64 x.f0, .int .i64 x.f1, .int .i64 x.f2, .int .i64 x.f3, .int .i64 x.f4, .int .i64 x.f5, .int .i64 x.f6, .int .i64 x.f7, .int .i64 x.f8, .int .i64 x.f9] 87 (0, 0))) := ⟨by rw [← hw]; exact setRow_heap _ _ _ _ _ _ BX.out⟩; clear BX; have BX := n_; clear n_; have n_ : Aside0 (w7.heap[gp]? = some (.cells #[.slice (some ad) l.length c] 48 (0, 0))) := ⟨by rw [← hw]; exact (setRow_other _ _ _ _ NX.out).trans BP.out⟩; clear BP hp0; have BP := n_; clear n_; have hp0 : w7.cell? ⟨gp, 0, none⟩ = some (.slice (some ad) l.length c) := (blk_cell BP.out 0).trans rfl; have n_ : Aside0 (Below w.heap.size w w7) := ⟨by rw [← hw]; exact below_setRow HB.out GX.out _⟩; clear HB; have HB := n_; clear n_; have n_ : Aside0 (Kd.R (Kd.int .i64) 2 w7 w.heap.size (fun _ => True) u4 acc) := ⟨by rw [← hw]; exact Kd.R_mono (Kd.R_step (Kd.R_types HO.out BX_.out (by decide)) (fun k ho _ => setRow_other _ _ k _ ho.2)) (fun _ _ => trivial)⟩; clear HO hw BX_; have HO := n_; clear n_; clear h0 h1 h2 h3 h4 h5 h6 h7 h8 h9))
        clear b2
        have HX0 : Aside0 (w7.cell? ⟨gx, 0, none⟩ = some (.int .i64 x.f0)) := ⟨(blk_cell BX.out 0).trans rfl⟩
        have HX1 : Aside0 (w7.cell? ⟨gx, 1, none⟩ = some (.int .i64 x.f1)) := ⟨(blk_cell BX.out 1).trans rfl⟩
        go_loopg [4, 7] k (fun kq v4 v7 wq => v4 = u4 ∧ ((∃ (p : Addr) (q : S87), v7 = .pointer (some p) ∧ Aside0 (impl_ProcTree.way l id kq q = some b) ∧ Aside0 (wq.cell? p = some (.int .i64 q.f0)) ∧ Aside0 (wq.cell? ⟨p.block, p.off + 1, none⟩ = some (.int .i64 q.f1))) ∨ (v7 = .pointer none ∧ Aside0 (b = false))) ∧ wq = w7)
        case atStart => exact ⟨rfl, .inl ⟨⟨gx, 0, none⟩, x, rfl, hb, HX0, HX1⟩, rfl⟩
        case round =>
          clear hb HX1
          obtain ⟨rfl, hrel, rfl⟩ := hrel
          rcases hrel with ⟨p, q, rfl, HW, HQ0, HQ1⟩ | ⟨rfl, hbf⟩
          · have q0 := HQ0.out
            have q1 := HQ1.out
            cases gk with
            | zero => exact absurd HW.out (by simp [impl_ProcTree.way])
            | succ kk =>
              by_cases e1 : q.f0 = id
              · have f0 : (q.f0 == id) = true := by simpa using e1
                have hbt : Aside0 (b = true) := ⟨by have := HW.out; rw [impl_ProcTree.way, if_pos e1] at this; exact (Option.some.inj this).symm⟩
                have HA : Aside0 (impl_ProcTree.go l id k (l.drop (i + 1)) (acc ++ [x.f0]) = some r) := ⟨by have := hg.out; rw [if_pos hbt.out] at this; exact this⟩
                clear HW e1 hg hbt
                have hz0 := HX0.out
                go_wp2_with (first | ((with_reducible refine gate_builtin (b := .append) (xs := #[.tmp 36, .tmp 39]) rfl ?_); at_builtin; refine Kd.R_append (Kd.int .i64) (w0 := w) w.heap.size rfl (.tmp 36) (.tmp 39) 45 2 (.int .i64 0) 8 rfl Try.underlying45 info2 rfl (by decide) (by omega) u4 acc (x.f0) [.int .i64 x.f0] (fun _ => True) (fun _ => False) rfl rfl ?aP (fun _ hk => hk.elim) ?aF ?aO ?aB ?aS ?aL ?_; (case aP => exact rfl); (case aB => repeat (first | exact HB.out | apply below_alloc)); (case aF => exact (fun _ _ => trivial)); (case aO => (with_reducible repeat (first | apply Kd.R_alloc)); exact HO.out); (case aS => exact below_size (by repeat (first | exact HB.out | apply below_alloc))); (case aL => have := hacc.out; have := hi.out; have := hl.out; omega); intro v2 w8 ho hb_ hg_ hat; have n_ := Aside0.mk (blk_grown (by (with_reducible repeat (first | refine blk_alloc ?_ _)); exact BP.out) hg_ (Kd.R_ne HO.out BP.out (by decide))); clear BP hp0; have BP := n_; clear n_; have n_ := Aside0.mk hb_; clear HB; have HB := n_; clear n_; have n_ := Aside0.mk ho; clear HO; have HO := n_; clear n_; clear ho hb_ hg_ hat))
                go_roundg (l.length - (i + 1))
                case measure => have := hk.out; have := hi.out; omega
                case rel => exact ⟨i + 1, acc ++ [x.f0], by first | rfl | (simp; done) | (simp [*]; done), ⟨by have := hi.out; omega⟩, ⟨by have := hacc.out; rw [List.length_append, List.length_singleton]; omega⟩, HA, HO, BP, HB⟩
              · have f0 : (q.f0 == id) = false := by simpa using e1
                have E1 := Aside0.mk e1
                clear e1
                obtain ⟨oj, hj2⟩ : ∃ oj, Aside0 (impl_Procs_at.idx q.f1 l 0 = oj) := ⟨_, ⟨rfl⟩⟩
                cases oj with
                | none =>
                  have hbf : Aside0 (b = false) := ⟨by have := HW.out; rw [impl_ProcTree.way, if_neg E1.out, hj2.out] at this; exact (Option.some.inj this).symm⟩
                  clear HW
                  go_wp2_with (first | (go_at_call 56; refine (impl_Procs_at.calls gp _ c l q.f1 _ BP.out ?sC hlast2.out).mono ?_; (case sC => exact Kd.C_below hC.out HB.out); rintro e w6 ⟨rfl, rfl⟩; rw [hj2.out]; simp only [impl_Procs_at.ptr, Option.map_some]))
                  go_roundg kk
                  case measure => omega
                  case rel => exact ⟨rfl, .inr ⟨rfl, hbf⟩, rfl⟩
                | some j =>
                  have hjl := impl_Procs_at.idx_lt _ _ _ _ hj2.out
                  obtain ⟨ad2, ead, r0, r1, -⟩ := at_T87 hC.out (j : Int) (by omega) (by omega)
                  obtain rfl : ad2 = ad := (Option.some.inj ead).symm
                  obtain ⟨y, hy⟩ : ∃ y, Aside0 (rd_T87 l (j : Int) = y) := ⟨_, ⟨rfl⟩⟩
                  rw [Int.toNat_natCast, hy.out] at r0
                  simp only [Int.toNat_natCast, hy.out] at r1
                  have R0 := Aside0.mk (pw_cell_below HB.out r0)
                  have R1 := Aside0.mk (pw_cell_below HB.out r1)
                  have HW2 : Aside0 (impl_ProcTree.way l id kk y = some b) := ⟨by have := HW.out; rw [impl_ProcTree.way, if_neg E1.out, hj2.out] at this; simp only [hy.out] at this; exact this⟩
                  clear HW r0 r1 ead hjl
                  go_wp2_with (first | (go_at_call 56; refine (impl_Procs_at.calls gp _ c l q.f1 _ BP.out ?sC hlast2.out).mono ?_; (case sC => exact Kd.C_below hC.out HB.out); rintro e w6 ⟨rfl, rfl⟩; rw [hj2.out]; simp only [impl_Procs_at.ptr, Option.map_some]))
                  go_roundg kk
                  case measure => omega
                  case rel => exact ⟨rfl, .inl ⟨_, y, rfl, HW2, R0, R1⟩, rfl⟩
          · have HA : Aside0 (impl_ProcTree.go l id k (l.drop (i + 1)) acc = some r) := ⟨by have := hg.out; rw [hbf.out, if_neg (by simp)] at this; exact this⟩
            clear hg
            go_wp2
            go_roundg (l.length - (i + 1))
            case measure => have := hk.out; have := hi.out; omega
            case rel => exact ⟨i + 1, acc, by first | rfl | (simp; done) | (simp [*]; done), ⟨by have := hi.out; omega⟩, ⟨by have := hacc.out; omega⟩, HA, HO, BP, HB⟩
      · have b2 : (i < l.length) = False := eq_false hi
        have b3 : decide (i < l.length) = false := decide_eq_false hi
        have hr : acc = r := by
          have := HA.out
          rw [List.drop_eq_nil_of_le (by omega), impl_ProcTree.go] at this
          exact Option.some.inj this
        subst hr
        clear HA hk hi
        go_wp2
        go_ret
        exact ⟨_, rfl, HO.out, HB.out⟩

/-! ### laws_eqInt64S: function 29 -/
def laws_eqInt64S.l0 : Nat → List Int → List Int → Int → Option (Bool)
  | 0, _, _, _ => none
  | k + 1, x0, x1, x5 => if x5 < (x0.length : Int) then (if 0 ≤ x5 then (if x5 < (x1.length : Int) then (if (rd x0 x5) = (rd x1 x5) then (laws_eqInt64S.l0 k x0 x1 (wrap64 (x5 + 1))) else (none)) else (none)) else (none)) else (some true)
def laws_eqInt64S.f (k : Nat) (l0 : List Int) (l1 : List Int) : Option (Bool) := if (l0.length : Int) = (l1.length : Int) then (laws_eqInt64S.l0 k l0 l1 0) else (none)
theorem laws_eqInt64S.mono_l : ∀ k, (∀ y0 y1 y2, LeO (laws_eqInt64S.l0 k y0 y1 y2) (laws_eqInt64S.l0 (k + 1) y0 y1 y2))
  | 0 => fun _ _ _ r h => by simp [laws_eqInt64S.l0] at h
  | k + 1 => by
    have ih0 := laws_eqInt64S.mono_l k
    · intro y0 y1 y2
      unfold laws_eqInt64S.l0
      repeat' first
      | (with_reducible exact ih0 _ _ _)
      | (with_reducible exact LeO.refl _)
      | (with_reducible exact LeO.none _)
      | (with_reducible refine LeO.ite ?_ ?_)
      | (with_reducible refine LeO.bind ?_ (fun _ => ?_))
      | exact ih0 _ _ _
      | exact LeO.none _
      | refine LeO.ite ?_ ?_
      | refine LeO.bind ?_ (fun _ => ?_)
theorem laws_eqInt64S.mono : ∀ a0 a1 k, LeO (laws_eqInt64S.f k a0 a1) (laws_eqInt64S.f (k + 1) a0 a1) := by
  intro a0 a1 k
  have ih0 := laws_eqInt64S.mono_l k
  unfold laws_eqInt64S.f
  repeat' first
      | (with_reducible exact ih0 _ _ _)
      | (with_reducible exact LeO.refl _)
      | (with_reducible exact LeO.none _)
      | (with_reducible refine LeO.ite ?_ ?_)
      | (with_reducible refine LeO.bind ?_ (fun _ => ?_))
      | exact ih0 _ _ _
      | exact LeO.none _
      | refine LeO.ite ?_ ?_
      | refine LeO.bind ?_ (fun _ => ?_)
set_option maxHeartbeats 8000000 in
set_option maxRecDepth 100000 in
theorem laws_eqInt64S.calls (k : Nat) (A0 : Option Addr) (c0 : Nat) (l0 : List Int) (A1 : Option Addr) (c1 : Nat) (l1 : List Int) (r : Bool) (w : World) (hr0 : Kd.C (Kd.int .i64) w A0 l0.length l0) (hc0 : l0.length ≤ c0) (hr1 : Kd.C (Kd.int .i64) w A1 l1.length l1) (hc1 : l1.length ≤ c1) (h : laws_eqInt64S.f k l0 l1 = some r) :
    Calls Try.prog 29 #[.slice A0 l0.length c0, .slice A1 l1.length c1] w fun e w' => e = .returned (.bool r) ∧ Drawn0 w w' := by
  have HR0 := Aside0.mk hr0
  have HC0 := Aside0.mk hc0
  clear hr0 hc0
  have HR1 := Aside0.mk hr1
  have HC1 := Aside0.mk hc1
  clear hr1 hc1
  have H : (if (l0.length : Int) = (l1.length : Int) then (laws_eqInt64S.l0 k l0 l1 0) else (none)) = some r := h
  clear h
  by_cases c3 : (l0.length : Int) = (l1.length : Int)
  · rw [if_pos c3] at H
    have c3b0 : ((l0.length : Int) == (l1.length : Int)) = true := beq_iff_eq.mpr c3
    have c3b1 : ((l0.length : Int) != (l1.length : Int)) = false := bne_eq_false_iff_eq.mpr c3
    have c3b2 : (l0.length == l1.length) = true := by first | simpa using c3 | (simp at c3 ⊢; omega)
    clear c3
    have H' := Aside0.mk H
    clear H
    go_enter Try.func29, Try.ntmps29
    go_wp2
    repeat (go_quiet (fail); try go_wp2)
    go_loopg [5] k (fun kq v5 w' => ∃ (x5_1 : Int), v5 = .int .i64 x5_1 ∧ Aside0 (laws_eqInt64S.l0 kq l0 l1 x5_1 = some r) ∧ Aside0 (kq ≤ k) ∧ Drawn0 w w')
    case atStart => exact ⟨(0), (by first | rfl | exact congrArg (Value.int .i64) (i64_w _) | (simp; done) | (simp [*]; done)), H', ⟨Nat.le_refl _⟩, by repeat (first | exact Drawn0.refl _ | apply Drawn0.step)⟩
    case round =>
      clear H'
      try clear c1
      try clear c2
      try clear p2
      try clear c3
      try clear c3b0
      try clear c3b1
      try clear c3b2
      obtain ⟨x5_1, rfl, HA, HK1, ⟨m1, rfl⟩⟩ := hrel
      cases gk with
      | zero => exact absurd HA.out (by simp [laws_eqInt64S.l0])
      | succ k1 =>
        have H := HA.out
        clear HA
        simp only [laws_eqInt64S.l0] at H
        by_cases c4 : x5_1 < (l0.length : Int)
        · rw [if_pos c4] at H
          have c4b0 : decide (x5_1 < (l0.length : Int)) = true := decide_eq_true c4
          clear c4
          by_cases c5 : 0 ≤ x5_1
          · rw [if_pos c5] at H
            have c5b0 : decide (0 ≤ x5_1) = true := decide_eq_true c5
            clear c5
            by_cases c6 : x5_1 < (l1.length : Int)
            · rw [if_pos c6] at H
              have c6b0 : decide (x5_1 < (l1.length : Int)) = true := decide_eq_true c6
              clear c6
              by_cases c7 : (rd l0 x5_1) = (rd l1 x5_1)
              · rw [if_pos c7] at H
                have c7b0 : ((rd l0 x5_1) == (rd l1 x5_1)) = true := beq_iff_eq.mpr c7
                have c7b1 : ((rd l0 x5_1) != (rd l1 x5_1)) = false := bne_eq_false_iff_eq.mpr c7
                clear c7
                have H' := Aside0.mk H
                clear H
                have p191 : 0 ≤ (x5_1 : Int) := of_decide_eq_true (by first | (with_reducible assumption) | assumption)
                have q191 : x5_1 < (l0.length : Int) := of_decide_eq_true (by first | (with_reducible assumption) | assumption)
                obtain ⟨ad191, e191, hx191_0⟩ := Kd.at_int HR0.out x5_1 p191 q191
                cases e191
                replace p191 := eq_true p191
                replace q191 := eq_true q191
                have p192 : 0 ≤ (x5_1 : Int) := of_decide_eq_true (by first | (with_reducible assumption) | assumption)
                have q192 : x5_1 < (l1.length : Int) := of_decide_eq_true (by first | (with_reducible assumption) | assumption)
                obtain ⟨ad192, e192, hx192_0⟩ := Kd.at_int HR1.out x5_1 p192 q192
                cases e192
                replace p192 := eq_true p192
                replace q192 := eq_true q192
                go_wp2
                repeat (go_quiet (fail); try go_wp2)
                go_roundg k1
                case measure => have := HK1.out; omega
                case rel => exact ⟨(wrap64 (x5_1 + 1)), (by first | rfl | exact congrArg (Value.int .i64) (i64_w _) | (simp; done) | (simp [*]; done)), H', ⟨by have := HK1.out; omega⟩, by repeat (first | exact Drawn0.refl _ | apply Drawn0.step)⟩
              · rw [if_neg c7] at H
                exact absurd H (by simp)
            · rw [if_neg c6] at H
              exact absurd H (by simp)
          · rw [if_neg c5] at H
            exact absurd H (by simp)
        · rw [if_neg c4] at H
          have c4b0 : decide (x5_1 < (l0.length : Int)) = false := decide_eq_false c4
          clear c4
          obtain rfl := Option.some.inj H
          go_wp2
          repeat (go_quiet (fail); try go_wp2)
          go_ret
          exact ⟨by first | rfl | exact congrArg (Value.int .i64) (i64_w _) | (simp; done) | (simp [*]; done), by repeat (first | exact Drawn0.refl _ | apply Drawn0.step)⟩
  · rw [if_neg c3] at H
    exact absurd H (by simp)

/-! ### laws_markInt64S: function 30 -/
def laws_markInt64S.l0 : Nat → List Int → Int → Int → Option (Int × List Int)
  | 0, _, _, _ => none
  | k + 1, x0, x1, x5 => if x5 < (x0.length : Int) then (if 0 ≤ x5 then (laws_markInt64S.l0 k (x0.set (x5 : Int).toNat x1) (wrap64 (x1 + 1)) (wrap64 (x5 + 1))) else (none)) else (some (x1, x0))
def laws_markInt64S.f (k : Nat) (l0 : List Int) (a1 : Int) : Option (Int × List Int) := laws_markInt64S.l0 k l0 a1 0
theorem laws_markInt64S.mono_l : ∀ k, (∀ y0 y1 y2, LeO (laws_markInt64S.l0 k y0 y1 y2) (laws_markInt64S.l0 (k + 1) y0 y1 y2))
  | 0 => fun _ _ _ r h => by simp [laws_markInt64S.l0] at h
  | k + 1 => by
    have ih0 := laws_markInt64S.mono_l k
    · intro y0 y1 y2
      unfold laws_markInt64S.l0
      repeat' first
      | (with_reducible exact ih0 _ _ _)
      | (with_reducible exact LeO.refl _)
      | (with_reducible exact LeO.none _)
      | (with_reducible refine LeO.ite ?_ ?_)
      | (with_reducible refine LeO.bind ?_ (fun _ => ?_))
      | exact ih0 _ _ _
      | exact LeO.none _
      | refine LeO.ite ?_ ?_
      | refine LeO.bind ?_ (fun _ => ?_)
theorem laws_markInt64S.mono : ∀ a0 a1 k, LeO (laws_markInt64S.f k a0 a1) (laws_markInt64S.f (k + 1) a0 a1) := by
  intro a0 a1 k
  have ih0 := laws_markInt64S.mono_l k
  unfold laws_markInt64S.f
  repeat' first
      | (with_reducible exact ih0 _ _ _)
      | (with_reducible exact LeO.refl _)
      | (with_reducible exact LeO.none _)
      | (with_reducible refine LeO.ite ?_ ?_)
      | (with_reducible refine LeO.bind ?_ (fun _ => ?_))
      | exact ih0 _ _ _
      | exact LeO.none _
      | refine LeO.ite ?_ ?_
      | refine LeO.bind ?_ (fun _ => ?_)
set_option maxHeartbeats 8000000 in
set_option maxRecDepth 100000 in
theorem laws_markInt64S.calls (k : Nat) (P0_ : Nat → Prop) (u9000_ : Value) (l0 : List Int) (a1 : Int) (r1 : Int) (r2 : List Int) (w0 w : World) (hB : Below w0.heap.size w0 w) (ho0 : Kd.R (Kd.int .i64) 2 w w0.heap.size P0_ u9000_ l0) (h : laws_markInt64S.f k l0 a1 = some (r1, r2)) :
    Calls Try.prog 30 #[u9000_, .int .i64 a1] w fun e w' => e = .returned (.int .i64 r1) ∧ Kd.R (Kd.int .i64) 2 w' w0.heap.size (fun k_ => (P0_ k_ ∨ w.heap.size ≤ k_)) u9000_ r2 ∧ Below w0.heap.size w0 w' ∧ Kept w w' (fun k_ => P0_ k_) := by
  have HO0 := Aside0.mk (show Kd.R (Kd.int .i64) 2 w w0.heap.size (fun k_ => (P0_ k_ ∨ w.heap.size ≤ k_)) u9000_ l0 from Kd.R_mono ho0 (fun k_ hk => (.inl hk)))
  have HK := Aside0.mk (Kept.refl w (fun k_ => P0_ k_))
  have HW0 := Aside0.mk hB.size
  have HB := Aside0.mk hB
  clear hB
  have H : (laws_markInt64S.l0 k l0 a1 0) = some (r1, r2) := h
  clear h
  have H' := Aside0.mk H
  clear H
  go_enter Try.func30, Try.ntmps30
  go_wp2
  go_loopg [1, 5] k (fun kq v1 v5 w' => ∃ (x0_1 : List Int) (x1_1 : Int) (x5_1 : Int), v1 = .int .i64 x1_1 ∧ v5 = .int .i64 x5_1 ∧ Aside0 (laws_markInt64S.l0 kq x0_1 x1_1 x5_1 = some (r1, r2)) ∧ Aside0 (kq ≤ k) ∧ Aside0 (Kd.R (Kd.int .i64) 2 w' w0.heap.size (fun k_ => (P0_ k_ ∨ w.heap.size ≤ k_)) u9000_ x0_1) ∧ Aside0 (Kept w w' (fun k_ => P0_ k_)) ∧ Aside0 (Below w0.heap.size w0 w'))
  case atStart => exact ⟨(l0), (a1), (0), (by first | rfl | exact congrArg (Value.int .i64) (i64_w _) | (simp; done) | (simp [*]; done)), (by first | rfl | exact congrArg (Value.int .i64) (i64_w _) | (simp; done) | (simp [*]; done)), H', ⟨Nat.le_refl _⟩, ⟨by (with_reducible repeat (first | apply Kd.R_alloc | apply Kd.R_drewN | apply Kd.R_drew)); exact HO0.out⟩, ⟨by repeat (first | (with_reducible first | exact HK.out | apply Kept.alloc | apply Kept.drewN | apply Kept.drew) | exact HK.out)⟩, ⟨by repeat (first | (with_reducible first | exact HB.out | apply below_alloc | apply pw_below_drewN | apply below_drew1) | exact HB.out)⟩⟩
  case round =>
    clear H'
    try clear p2
    obtain ⟨x0_1, x1_1, x5_1, rfl, rfl, HA, HK1, HO_0, HK, HB⟩ := hrel
    cases gk with
    | zero => exact absurd HA.out (by simp [laws_markInt64S.l0])
    | succ k1 =>
      have H := HA.out
      clear HA
      simp only [laws_markInt64S.l0] at H
      by_cases c3 : x5_1 < (x0_1.length : Int)
      · rw [if_pos c3] at H
        have c3b0 : decide (x5_1 < (x0_1.length : Int)) = true := decide_eq_true c3
        clear c3
        by_cases c4 : 0 ≤ x5_1
        · rw [if_pos c4] at H
          have c4b0 : decide (0 ≤ x5_1) = true := decide_eq_true c4
          clear c4
          obtain ⟨y193, hy193⟩ : ∃ y_ : List Int, y_ = (x0_1.set (x5_1 : Int).toNat x1_1) := ⟨_, rfl⟩
          replace H : (laws_markInt64S.l0 k1 y193 (wrap64 (x1_1 + 1)) (wrap64 (x5_1 + 1))) = some (r1, r2) := by first | (rw [hy193]; with_reducible exact H) | (have H2_ := (Option.bind_some _ _).symm.trans H; rw [hy193]; with_reducible exact H2_) | (have H2_ := (Option.bind_some _ _).symm.trans H; with_reducible exact H2_) | with_reducible exact H | (rw [hy193]; exact H) | exact H
          have Ny193 := Aside0.mk hy193
          clear hy193
          have H' := Aside0.mk H
          clear H
          obtain ⟨Ao6, co6, eo6⟩ := Kd.R_slice HO_0.out
          subst eo6
          have p5 : 0 ≤ (x5_1 : Int) := of_decide_eq_true (by first | (with_reducible assumption) | assumption)
          have q5 : (x5_1 : Int) < ((x0_1.length : Int) : Int) := of_decide_eq_true (by first | (with_reducible assumption) | assumption)
          obtain ⟨go5, co5, eo5, gb5, gl5, cl5, HG5⟩ := Kd.R_form HO_0.out (by omega)
          (first | cases eo5 | (injection eo5 with ea_ en_ ec_; (first | subst ea_ | (injection ea_ with ea_; subst ea_)); subst ec_; clear en_))
          have GB5 := Aside0.mk gb5
          have GG5 := Aside0.mk HG5
          clear gb5 gl5 HG5
          have HMgo5 := Aside0.mk (show (P0_ go5 ∨ w.heap.size ≤ go5) from (HO_0.out.1 _ rfl))
          obtain ⟨hx5_0, hf5_0⟩ := Kd.R_celln 0 HO_0.out (x5_1 : Int) p5 q5
          replace p5 := eq_true p5
          replace q5 := eq_true q5
          have HP7 := Kd.R_putg HO_0.out (x5_1 : Int) x1_1
          go_wp2_with (first | ((with_reducible refine gate_store (t := 2) (p := 15) rfl ?_); refine store_event (t := 2) (p := 15) (v := ?vo_w8) (w1 := (wr.setCell ⟨go5, (x5_1 : Int).toNat, none⟩ (.int .i64 x1_1))) ?hg ?ho ?hn ?hr ?_; (case ho => rfl); (case hg => rfl); (case hn => rfl); (case hr => first | (go_simp; done) | (go_simp; rfl)); intro w8 hw; have hg : wr.grownBy w8 (some go5) := (by rw [hw]; exact HP7.2); have hp_ : Kd.R (Kd.int .i64) 2 w8 w0.heap.size (fun k_ => (P0_ k_ ∨ w.heap.size ≤ k_)) (.slice (some ⟨go5, 0, none⟩) x0_1.length co6) y193 := (by rw [hw, Ny193.out]; exact HP7.1); clear HP7; have n0_ := Aside0.mk (hp_); have n1_ := Aside0.mk ((by rw [hw]; exact below_set (HB.out) GB5.out : Below w0.heap.size w0 w8)); have n2_ := Aside0.mk (Kept.of_grown (S := (fun k_ => P0_ k_)) hg (by repeat (first | (with_reducible first | exact HK.out | apply Kept.alloc | apply Kept.drewN | apply Kept.drew) | exact HK.out)) (fun k_ e_ => (HO_0.out.1 k_ e_))); clear HO_0; clear HB; clear HK; have HO_0 := n0_; have HB := n1_; have HK := n2_; clear n0_ n1_ n2_; clear hg hw hp_))
          go_roundg k1
          case measure => have := HK1.out; omega
          case rel => exact ⟨(y193), (wrap64 (x1_1 + 1)), (wrap64 (x5_1 + 1)), (by first | rfl | exact congrArg (Value.int .i64) (i64_w _) | (simp; done) | (simp [*]; done)), (by first | rfl | exact congrArg (Value.int .i64) (i64_w _) | (simp; done) | (simp [*]; done)), H', ⟨by have := HK1.out; omega⟩, ⟨by (with_reducible repeat (first | apply Kd.R_alloc | apply Kd.R_drewN | apply Kd.R_drew)); exact HO_0.out⟩, ⟨by repeat (first | (with_reducible first | exact HK.out | apply Kept.alloc | apply Kept.drewN | apply Kept.drew) | exact HK.out)⟩, ⟨by repeat (first | (with_reducible first | exact HB.out | apply below_alloc | apply pw_below_drewN | apply below_drew1) | exact HB.out)⟩⟩
        · rw [if_neg c4] at H
          exact absurd H (by simp)
      · rw [if_neg c3] at H
        have c3b0 : decide (x5_1 < (x0_1.length : Int)) = false := decide_eq_false c3
        clear c3
        simp only [Option.some.injEq, Prod.mk.injEq] at H
        obtain ⟨rfl, rfl⟩ := H
        obtain ⟨Ao9, co9, eo9⟩ := Kd.R_slice HO_0.out
        subst eo9
        go_wp2
        go_ret
        exact ⟨by first | rfl | (simp [errW_none, errW_some] <;> rfl) | (simp [*, errW_none, errW_some] <;> rfl), by (with_reducible repeat (first | apply Kd.R_alloc | apply Kd.R_drewN | apply Kd.R_drew)); exact HO_0.out, by repeat (first | (with_reducible first | exact HB.out | apply below_alloc | apply pw_below_drewN | apply below_drew1) | exact HB.out), by repeat (first | (with_reducible first | exact HK.out | apply Kept.alloc | apply Kept.drewN | apply Kept.drew) | exact HK.out)⟩

/-! ### laws_heldInt64S: function 31 -/
def laws_heldInt64S.l0 : Nat → List Int → Int → Int → Option (Int)
  | 0, _, _, _ => none
  | k + 1, x0, x1, x5 => if x5 < (x0.length : Int) then (if 0 ≤ x5 then (if (rd x0 x5) = x1 then (laws_heldInt64S.l0 k x0 (wrap64 (x1 + 1)) (wrap64 (x5 + 1))) else (none)) else (none)) else (some x1)
def laws_heldInt64S.f (k : Nat) (l0 : List Int) (a1 : Int) : Option (Int) := laws_heldInt64S.l0 k l0 a1 0
theorem laws_heldInt64S.mono_l : ∀ k, (∀ y0 y1 y2, LeO (laws_heldInt64S.l0 k y0 y1 y2) (laws_heldInt64S.l0 (k + 1) y0 y1 y2))
  | 0 => fun _ _ _ r h => by simp [laws_heldInt64S.l0] at h
  | k + 1 => by
    have ih0 := laws_heldInt64S.mono_l k
    · intro y0 y1 y2
      unfold laws_heldInt64S.l0
      repeat' first
      | (with_reducible exact ih0 _ _ _)
      | (with_reducible exact LeO.refl _)
      | (with_reducible exact LeO.none _)
      | (with_reducible refine LeO.ite ?_ ?_)
      | (with_reducible refine LeO.bind ?_ (fun _ => ?_))
      | exact ih0 _ _ _
      | exact LeO.none _
      | refine LeO.ite ?_ ?_
      | refine LeO.bind ?_ (fun _ => ?_)
theorem laws_heldInt64S.mono : ∀ a0 a1 k, LeO (laws_heldInt64S.f k a0 a1) (laws_heldInt64S.f (k + 1) a0 a1) := by
  intro a0 a1 k
  have ih0 := laws_heldInt64S.mono_l k
  unfold laws_heldInt64S.f
  repeat' first
      | (with_reducible exact ih0 _ _ _)
      | (with_reducible exact LeO.refl _)
      | (with_reducible exact LeO.none _)
      | (with_reducible refine LeO.ite ?_ ?_)
      | (with_reducible refine LeO.bind ?_ (fun _ => ?_))
      | exact ih0 _ _ _
      | exact LeO.none _
      | refine LeO.ite ?_ ?_
      | refine LeO.bind ?_ (fun _ => ?_)
set_option maxHeartbeats 8000000 in
set_option maxRecDepth 100000 in
theorem laws_heldInt64S.calls (k : Nat) (A0 : Option Addr) (c0 : Nat) (l0 : List Int) (a1 : Int) (r : Int) (w : World) (hr0 : Kd.C (Kd.int .i64) w A0 l0.length l0) (hc0 : l0.length ≤ c0) (h : laws_heldInt64S.f k l0 a1 = some r) :
    Calls Try.prog 31 #[.slice A0 l0.length c0, .int .i64 a1] w fun e w' => e = .returned (.int .i64 r) ∧ Drawn0 w w' := by
  have HR0 := Aside0.mk hr0
  have HC0 := Aside0.mk hc0
  clear hr0 hc0
  have H : (laws_heldInt64S.l0 k l0 a1 0) = some r := h
  clear h
  have H' := Aside0.mk H
  clear H
  go_enter Try.func31, Try.ntmps31
  go_wp2
  go_loopg [1, 5] k (fun kq v1 v5 w' => ∃ (x1_1 : Int) (x5_1 : Int), v1 = .int .i64 x1_1 ∧ v5 = .int .i64 x5_1 ∧ Aside0 (laws_heldInt64S.l0 kq l0 x1_1 x5_1 = some r) ∧ Aside0 (kq ≤ k) ∧ Drawn0 w w')
  case atStart => exact ⟨(a1), (0), (by first | rfl | exact congrArg (Value.int .i64) (i64_w _) | (simp; done) | (simp [*]; done)), (by first | rfl | exact congrArg (Value.int .i64) (i64_w _) | (simp; done) | (simp [*]; done)), H', ⟨Nat.le_refl _⟩, by repeat (first | exact Drawn0.refl _ | apply Drawn0.step)⟩
  case round =>
    clear H'
    try clear p2
    obtain ⟨x1_1, x5_1, rfl, rfl, HA, HK1, ⟨m1, rfl⟩⟩ := hrel
    cases gk with
    | zero => exact absurd HA.out (by simp [laws_heldInt64S.l0])
    | succ k1 =>
      have H := HA.out
      clear HA
      simp only [laws_heldInt64S.l0] at H
      by_cases c3 : x5_1 < (l0.length : Int)
      · rw [if_pos c3] at H
        have c3b0 : decide (x5_1 < (l0.length : Int)) = true := decide_eq_true c3
        clear c3
        by_cases c4 : 0 ≤ x5_1
        · rw [if_pos c4] at H
          have c4b0 : decide (0 ≤ x5_1) = true := decide_eq_true c4
          clear c4
          by_cases c5 : (rd l0 x5_1) = x1_1
          · rw [if_pos c5] at H
            have c5b0 : ((rd l0 x5_1) == x1_1) = true := beq_iff_eq.mpr c5
            have c5b1 : ((rd l0 x5_1) != x1_1) = false := bne_eq_false_iff_eq.mpr c5
            clear c5
            have H' := Aside0.mk H
            clear H
            have p194 : 0 ≤ (x5_1 : Int) := of_decide_eq_true (by first | (with_reducible assumption) | assumption)
            have q194 : x5_1 < (l0.length : Int) := of_decide_eq_true (by first | (with_reducible assumption) | assumption)
            obtain ⟨ad194, e194, hx194_0⟩ := Kd.at_int HR0.out x5_1 p194 q194
            cases e194
            replace p194 := eq_true p194
            replace q194 := eq_true q194
            go_wp2
            go_roundg k1
            case measure => have := HK1.out; omega
            case rel => exact ⟨(wrap64 (x1_1 + 1)), (wrap64 (x5_1 + 1)), (by first | rfl | exact congrArg (Value.int .i64) (i64_w _) | (simp; done) | (simp [*]; done)), (by first | rfl | exact congrArg (Value.int .i64) (i64_w _) | (simp; done) | (simp [*]; done)), H', ⟨by have := HK1.out; omega⟩, by repeat (first | exact Drawn0.refl _ | apply Drawn0.step)⟩
          · rw [if_neg c5] at H
            exact absurd H (by simp)
        · rw [if_neg c4] at H
          exact absurd H (by simp)
      · rw [if_neg c3] at H
        have c3b0 : decide (x5_1 < (l0.length : Int)) = false := decide_eq_false c3
        clear c3
        obtain rfl := Option.some.inj H
        go_wp2
        go_ret
        exact ⟨by first | rfl | exact congrArg (Value.int .i64) (i64_w _) | (simp; done) | (simp [*]; done), by repeat (first | exact Drawn0.refl _ | apply Drawn0.step)⟩

end Go.Proofs.Ytdlgalaemnjfjaa.PFnExactProcTree
