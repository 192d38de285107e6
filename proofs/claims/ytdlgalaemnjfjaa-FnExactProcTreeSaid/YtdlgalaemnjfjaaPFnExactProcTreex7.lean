-- Written by a program of this session out of the translation. Not trusted: Lean checks it.
import Derived.Test.YtdlgalaemnjfjaaPFnExactProcTreex0
import Derived.Laws.CopyOwn
namespace Go.Proofs.Ytdlgalaemnjfjaa.PFnExactProcTree
open Go.RowKit Go.Proofs.YtdlgalaemnjfjaaW.PrintWords Go.Proofs.YtdlgalaemnjfjaaW.PrintLast Go.Proofs.YtdlgalaemnjfjaaW.PrintMore
attribute [local go_sem] max2_int min2_int max_two min_two max_three min_three max_four min_four   -- for this text's walks alone
set_option linter.unusedVariables false
set_option linter.unusedSimpArgs false

/-! ### impl_ProcsOk: function 26 -/
/-- Where the first process of that number lies. -/
def impl_Procs_at.idx (id : Int) : List S87 → Nat → Option Nat
  | [], _ => none
  | x :: xs, i => if x.f0 = id then some i else impl_Procs_at.idx id xs (i + 1)
theorem impl_Procs_at.idx_at {l : List S87} {i : Nat} {y : S87} (id : Int) (h : l[i]? = some y) : impl_Procs_at.idx id (l.drop i) i = if y.f0 = id then some i else impl_Procs_at.idx id (l.drop (i + 1)) (i + 1) := by
  obtain ⟨hi, rfl⟩ := List.getElem?_eq_some_iff.1 h
  rw [List.drop_eq_getElem_cons hi, impl_Procs_at.idx]
theorem impl_Procs_at.rd {l : List S87} {i : Nat} {y : S87} (h : l[i]? = some y) : rd_T87 l (i : Int) = y := by
  simp [rd_T87, List.getD_eq_getElem?_getD, h]
/-- The pointer to it, or nil. -/
def impl_Procs_at.ptr (A : Option Addr) : Option Nat → Value
  | none => .pointer none
  | some j => .pointer (A.map (fun a => a.add (j * 10)))
set_option maxHeartbeats 4000000 in
set_option maxRecDepth 100000 in
theorem impl_Procs_at.calls (g : Nat) (A : Option Addr) (c : Nat) (l : List S87) (id : Int) (w : World) (hg : w.heap[g]? = some (.cells #[.slice A l.length c] 48 (0, 0))) (hC : Kd.C k87 w A l.length l) (hcm : l.length ≤ 9223372036854775807) :
    Calls Try.prog 56 #[.pointer (some ⟨g, 0, none⟩), .int .i64 id] w fun e w' => e = .returned (impl_Procs_at.ptr A (impl_Procs_at.idx id l 0)) ∧ w' = w := by
  have hg0 : w.cell? ⟨g, 0, none⟩ = some (.slice A l.length c) := (blk_cell hg 0).trans rfl
  have hC := Aside0.mk hC
  have hcm := Aside0.mk hcm
  clear hg
  go_enter Try.func56, Try.ntmps56
  go_wp2
  go_loopg [5, 11] l.length (fun kq v5 v11 wr => ∃ i : Nat, v11 = .int .i64 (i : Int) ∧ Aside0 (i + kq = l.length) ∧ Aside0 (impl_Procs_at.idx id l 0 = impl_Procs_at.idx id (l.drop i) i) ∧ wr = w)
  case atStart => exact ⟨0, rfl, ⟨by omega⟩, ⟨by rw [List.drop_zero]⟩, rfl⟩
  case round =>
    obtain ⟨i, rfl, hk, HA, rfl⟩ := hrel
    have hlen := hcm.out
    by_cases hi : i < l.length
    · have d0 : decide ((i : Int) < (l.length : Int)) = true := decide_eq_true (by omega)
      obtain ⟨ad, rfl, h0, -⟩ := at_T87 hC.out (i : Int) (by omega) (by omega)
      obtain ⟨y, hy⟩ : ∃ y, l[i]? = some y := ⟨_, List.getElem?_eq_getElem hi⟩
      rw [Int.toNat_natCast, impl_Procs_at.rd hy] at h0
      have HA := HA.out
      rw [impl_Procs_at.idx_at id hy] at HA
      have b0 : (0 ≤ (i : Int)) = True := eq_true (by omega)
      have b1 : ((i : Int) < (l.length : Int)) = True := eq_true (by omega)
      have hw : IntKind.i64.wrap ((i : Int) + 1) = ((i + 1 : Nat) : Int) := by rw [IntKind.wrap_i64]; omega
      by_cases hx : y.f0 = id
      · rw [if_pos hx] at HA
        rw [hx] at h0
        have HA := Aside0.mk HA
        clear hk hi hy hcm
        go_wp2
        go_ret
        exact ⟨by rw [HA.out]; rfl, rfl⟩
      · rw [if_neg hx] at HA
        have HA := Aside0.mk HA
        have d1 : (y.f0 == id) = false := by simpa using hx
        have hk := Aside0.mk hk.out
        have hi := Aside0.mk hi
        clear hy hcm hx
        go_wp2
        go_roundg (l.length - (i + 1))
        case measure => have := hk.out; have := hi.out; omega
        case rel => exact ⟨i + 1, by first | rfl | (simp; done) | (simp [*]; done) | trace_state, ⟨by have := hi.out; omega⟩, HA, rfl⟩
    · have d0 : (i < l.length) = False := eq_false hi
      have d1 : decide (i < l.length) = false := decide_eq_false hi
      have HA := HA.out
      rw [List.drop_eq_nil_of_le (by omega), impl_Procs_at.idx] at HA
      have HA := Aside0.mk HA
      clear hk hi hcm
      go_wp2
      go_ret
      exact ⟨by rw [HA.out]; rfl, rfl⟩
/-- The program's test of one process, by what came last and by its place. -/
def impl_ProcsOk.one (l : List S87) (last : Int) (i : Nat) (x : S87) : Bool :=
  if x.f0 ≤ last then false else
  if 32 < x.f0 then false else
  if x.f2 < 1 then false else
  if 32 < x.f2 then false else
  if x.f3 < 0 then false else
  if 255 < x.f3 then false else
  if x.f4 < 1 then false else
  if 3 < x.f4 then false else
  if x.f5 < 0 then false else
  if 255 < x.f5 then false else
  if x.f4 ≠ 3 ∧ x.f5 ≠ 0 then false else
  if Go.bits .andNot .i64 x.f6 65534 ≠ 0 then false else
  if Go.bits .andNot .i64 (Go.bits .or .i64 (Go.bits .or .i64 x.f7 x.f8) x.f9) 60926 ≠ 0 then false else
  if Go.bits .and .i64 x.f8 x.f9 ≠ 0 then false else
  if x.f4 = 3 ∧ Go.bits .or .i64 (Go.bits .or .i64 (Go.bits .or .i64 x.f6 x.f7) x.f8) x.f9 ≠ 0 then false else
  if i = 0 then (if x.f0 ≠ 1 then false else if x.f4 = 3 then false else if x.f1 ≠ 0 then false else true) else
  match impl_Procs_at.idx x.f1 l 0 with
  | none => false
  | some j => if (rd_T87 l (j : Int)).f0 = x.f0 then false else if (rd_T87 l (j : Int)).f4 = 3 then false else true
def impl_ProcsOk.ok1 (l : List S87) : Int → Nat → List S87 → Bool
  | _, _, [] => true
  | last, i, x :: xs => impl_ProcsOk.one l last i x && impl_ProcsOk.ok1 l x.f0 (i + 1) xs
/-- The way up from a process: does it end at the first one, in so many steps? -/
def impl_ProcsOk.way (l : List S87) : Nat → S87 → Bool
  | 0, q => decide (q.f0 = 1)
  | m + 1, q => if q.f0 = 1 then true else
    match impl_Procs_at.idx q.f1 l 0 with
    | none => false
    | some j => if m = 0 then false else impl_ProcsOk.way l m (rd_T87 l (j : Int))
def impl_ProcsOk.ok2 (l : List S87) (xs : List S87) : Bool := xs.all (impl_ProcsOk.way l 34)
def impl_ProcsOk.ok (l : List S87) : Bool := decide (1 ≤ l.length) && decide (l.length ≤ 32) && impl_ProcsOk.ok1 l 0 0 l && impl_ProcsOk.ok2 l l
def impl_ProcsOk.f (l : List S87) : Option Bool := some (impl_ProcsOk.ok l)
theorem impl_ProcsOk.ok1_at {l : List S87} {i : Nat} {x : S87} (last : Int) (h : l[i]? = some x) : impl_ProcsOk.ok1 l last i (l.drop i) = (impl_ProcsOk.one l last i x && impl_ProcsOk.ok1 l x.f0 (i + 1) (l.drop (i + 1))) := by
  obtain ⟨hi, rfl⟩ := List.getElem?_eq_some_iff.1 h
  rw [List.drop_eq_getElem_cons hi, impl_ProcsOk.ok1]
theorem impl_Procs_at.idx_lt (id : Int) : ∀ (xs : List S87) (i j : Nat), impl_Procs_at.idx id xs i = some j → i ≤ j ∧ j < i + xs.length
  | [], _, _, h => by cases h
  | x :: xs, i, j, h => by
    rw [impl_Procs_at.idx] at h
    split at h
    · obtain rfl := Option.some.inj h
      simp
    · have := impl_Procs_at.idx_lt id xs (i + 1) j h
      simp only [List.length_cons]
      omega
theorem impl_ProcsOk.ok2_at {l : List S87} {i : Nat} {x : S87} (h : l[i]? = some x) : impl_ProcsOk.ok2 l (l.drop i) = (impl_ProcsOk.way l 34 x && impl_ProcsOk.ok2 l (l.drop (i + 1))) := by
  obtain ⟨hi, rfl⟩ := List.getElem?_eq_some_iff.1 h
  rw [List.drop_eq_getElem_cons hi, impl_ProcsOk.ok2, List.all_cons]
  rfl
set_option maxHeartbeats 8000000 in
set_option maxRecDepth 100000 in
theorem impl_ProcsOk.calls (A : Option Addr) (c : Nat) (l : List S87) (r : Bool) (w : World) (hC0 : Kd.C k87 w A l.length l) (hc0 : l.length ≤ c) (h : impl_ProcsOk.f l = some r) :
    Calls Try.prog 26 #[.agg #[.slice A l.length c]] w fun e w' => e = .returned (.bool r) ∧ Below w.heap.size w w' := by
  obtain rfl := Option.some.inj h
  clear h
  have hC := Aside0.mk hC0
  clear hC0 hc0
  by_cases c1 : l.length < 1
  · have HA : Aside0 (impl_ProcsOk.ok l = false) := ⟨by unfold impl_ProcsOk.ok; rw [decide_eq_false (show ¬ 1 ≤ l.length by omega)]; rfl⟩
    have d1 : decide ((l.length : Int) < 1) = true := decide_eq_true (by omega)
    clear c1
    go_enter Try.func26, Try.ntmps26
    go_wp2_with (first | ((with_reducible refine gate_dst (N := 1) rfl ?_); refine box_event ?hg (N := 1) ?hd (cs := #[.slice A l.length c]) (t := 48) ?hr ?_; (case hd => rfl); (case hg => rfl); (case hr => first | (go_simp; done) | (go_simp; rfl)); intro gp hgq w3 hbq hB_; have GP := Aside0.mk (show w.heap.size ≤ gp from Nat.le_of_eq hgq.symm); have BP := Aside0.mk hbq; have HB := Aside0.mk hB_; clear hbq hgq hB_; have hp0 : w3.cell? ⟨gp, 0, none⟩ = some (.slice A l.length c) := (blk_cell BP.out 0).trans rfl))
    go_ret
    exact ⟨by rw [HA.out]; rfl, HB.out⟩
  by_cases c2 : 32 < l.length
  · have HA : Aside0 (impl_ProcsOk.ok l = false) := ⟨by unfold impl_ProcsOk.ok; rw [decide_eq_false (show ¬ l.length ≤ 32 by omega), Bool.and_false]; rfl⟩
    have d1 : decide ((l.length : Int) < 1) = false := decide_eq_false (by omega)
    have d2 : decide (32 < (l.length : Int)) = true := decide_eq_true (by omega)
    clear c1 c2
    go_enter Try.func26, Try.ntmps26
    go_wp2_with (first | ((with_reducible refine gate_dst (N := 1) rfl ?_); refine box_event ?hg (N := 1) ?hd (cs := #[.slice A l.length c]) (t := 48) ?hr ?_; (case hd => rfl); (case hg => rfl); (case hr => first | (go_simp; done) | (go_simp; rfl)); intro gp hgq w3 hbq hB_; have GP := Aside0.mk (show w.heap.size ≤ gp from Nat.le_of_eq hgq.symm); have BP := Aside0.mk hbq; have HB := Aside0.mk hB_; clear hbq hgq hB_; have hp0 : w3.cell? ⟨gp, 0, none⟩ = some (.slice A l.length c) := (blk_cell BP.out 0).trans rfl))
    go_ret
    exact ⟨by rw [HA.out]; rfl, HB.out⟩
  have d1 : decide ((l.length : Int) < 1) = false := decide_eq_false (by omega)
  have d2 : decide (32 < (l.length : Int)) = false := decide_eq_false (by omega)
  have hl : Aside0 (l.length ≤ 32) := ⟨by omega⟩
  have HA0 : Aside0 (impl_ProcsOk.ok l = (impl_ProcsOk.ok1 l 0 0 l && impl_ProcsOk.ok2 l l)) := ⟨by unfold impl_ProcsOk.ok; rw [decide_eq_true (show 1 ≤ l.length by omega), decide_eq_true (show l.length ≤ 32 by omega)]; rfl⟩
  clear c1 c2
  go_enter Try.func26, Try.ntmps26
  go_wp2_with (first | ((with_reducible refine gate_dst (N := 1) rfl ?_); refine box_event ?hg (N := 1) ?hd (cs := #[.slice A l.length c]) (t := 48) ?hr ?_; (case hd => rfl); (case hg => rfl); (case hr => first | (go_simp; done) | (go_simp; rfl)); intro gp hgq w3 hbq hB_; have GP := Aside0.mk (show w.heap.size ≤ gp from Nat.le_of_eq hgq.symm); have BP := Aside0.mk hbq; have HB := Aside0.mk hB_; clear hbq hgq hB_; have hp0 : w3.cell? ⟨gp, 0, none⟩ = some (.slice A l.length c) := (blk_cell BP.out 0).trans rfl))
  go_loopg [3, 24] l.length (fun kq v3 v24 wr => ∃ (last : Int) (i : Nat), v3 = .int .i64 last ∧ v24 = .int .i64 (i : Int) ∧ Aside0 (i + kq = l.length) ∧ Aside0 (impl_ProcsOk.ok l = (impl_ProcsOk.ok1 l last i (l.drop i) && impl_ProcsOk.ok2 l l)) ∧ Aside0 (wr.heap[gp]? = some (.cells #[.slice A l.length c] 48 (0, 0))) ∧ Aside0 (Below w.heap.size w wr))
  case atStart => exact ⟨0, 0, rfl, rfl, ⟨by omega⟩, ⟨by rw [List.drop_zero]; exact HA0.out⟩, BP, HB⟩
  case round =>
    clear BP HB hp0 HA0
    obtain ⟨last, i, rfl, rfl, hk, HA, BP, HB⟩ := hrel
    have hp0 : wr.cell? ⟨gp, 0, none⟩ = some (.slice A l.length c) := (blk_cell BP.out 0).trans rfl
    clear d1 d2
    by_cases hi : i < l.length
    · obtain ⟨x, hx⟩ : ∃ x, l[i]? = some x := ⟨_, List.getElem?_eq_getElem hi⟩
      obtain ⟨ad, rfl, h0, h1, h2, h3, h4, h5, h6, h7, h8, h9⟩ := at_T87 hC.out (i : Int) (by omega) (by omega)
      simp only [Int.toNat_natCast, impl_Procs_at.rd hx] at h0 h1 h2 h3 h4 h5 h6 h7 h8 h9
      have b0 : (0 ≤ (i : Int)) = True := eq_true (by omega)
      have b1 : ((i : Int) < (l.length : Int)) = True := eq_true (by omega)
      have b2 : (i < l.length) = True := eq_true hi
      have hlast := hl.out
      have hw : IntKind.i64.wrap ((i : Int) + 1) = ((i + 1 : Nat) : Int) := by rw [IntKind.wrap_i64]; omega
      have hlast2 : Aside0 (l.length ≤ 9223372036854775807) := ⟨by omega⟩
      have HA1_ := HA.out
      rw [impl_ProcsOk.ok1_at last hx] at HA1_
      have HA1 := Aside0.mk HA1_
      clear HA1_
      replace h0 := pw_cell_below HB.out h0
      replace h1 := pw_cell_below HB.out h1
      replace h2 := pw_cell_below HB.out h2
      replace h3 := pw_cell_below HB.out h3
      replace h4 := pw_cell_below HB.out h4
      replace h5 := pw_cell_below HB.out h5
      replace h6 := pw_cell_below HB.out h6
      replace h7 := pw_cell_below HB.out h7
      replace h8 := pw_cell_below HB.out h8
      replace h9 := pw_cell_below HB.out h9
      have hi := Aside0.mk hi
      have hx_ := Aside0.mk hx
      clear hx
      have hx := hx_
      clear HA hlast hx_
      go_upto_region 7 with (first | ((with_reducible refine gate_dst (N := 5) rfl ?_); refine box_event ?hg (N := 5) ?hd (cs := #[.int .i64 0, .int .i64 0, .int .i64 0, .int .i64 0, .int .i64 0, .int .i64 0, .int .i64 0, .int .i64 0, .int .i64 0, .int .i64 0]) (t := 87) ?hr ?_; (case hd => rfl); (case hg => rfl); (case hr => first | (go_simp; done) | (go_simp; rfl)); intro gx hgq w4 hbq hB_; have GX := Aside0.mk (show w.heap.size ≤ gx by rw [hgq]; exact HB.out.size); have NX := Aside0.mk (show gp ≠ gx by rw [hgq]; exact Nat.ne_of_lt (blk_lt BP.out)); have n_ := Aside0.mk (blk_below BP.out hB_); clear BP hp0; have BP := n_; clear n_; have hp0 : w4.cell? ⟨gp, 0, none⟩ = some (.slice (some ad) l.length c) := (blk_cell BP.out 0).trans rfl; have n_ := Aside0.mk (below_step HB.out hB_); clear HB hB_; have HB := n_; clear n_; have BX := Aside0.mk hbq; clear hbq hgq) | ((with_reducible refine gate_store (t := 87) (p := 5) rfl ?_); refine wpList_store_row rfl 87 (.tmp 5) (.tmp 28) rfl gx #[.int .i64 x.f0, .int .i64 x.f1, .int .i64 x.f2, .int .i64 x.f3, .int .i64 x.f4, .int .i64 x.f5, .int .i64 x.f6, .int .i64 x.f7, .int .i64 x.f8, .int .i64 x.f9] rfl rfl 87 _ BX.out (by kernel_rfl) rfl (by simp [Value.oneCell']) ?_; generalize hw : World.setRow _ _ _ = w5; have n_ : Aside0 (w5.heap[gx]? = some (.cells #[.int .i64 x.f0, .int .i64 x.f1, .int .i64 x.f2, .int .i64 x.f3, .int .i64 x.f4, .int .i64 x.f5, .int .i64 x.f6, .int .i64 x.f7, .int .i64 x.f8, .int .i64 x.f9] 87 (0, 0))) := ⟨by rw [← hw]; exact setRow_heap _ _ _ _ _ _ BX.out⟩; clear BX; have BX := n_; clear n_; have n_ : Aside0 (w5.heap[gp]? = some (.cells #[.slice (some ad) l.length c] 48 (0, 0))) := ⟨by rw [← hw]; exact (setRow_other _ _ _ _ NX.out).trans BP.out⟩; clear BP hp0; have BP := n_; clear n_; have hp0 : w5.cell? ⟨gp, 0, none⟩ = some (.slice (some ad) l.length c) := (blk_cell BP.out 0).trans rfl; have n_ : Aside0 (Below w.heap.size w w5) := ⟨by rw [← hw]; exact below_setRow HB.out GX.out _⟩; clear HB hw; have HB := n_; clear n_; clear h0 h1 h2 h3 h4 h5 h6 h7 h8 h9))
      clear b2
      have hp0 : w5.cell? ⟨gp, 0, none⟩ = some (.slice (some ad) l.length c) := (blk_cell BP.out 0).trans rfl
      have hz0 : w5.cell? ⟨gx, 0, none⟩ = some (.int .i64 x.f0) := (blk_cell BX.out 0).trans rfl; have hz1 : w5.cell? ⟨gx, 1, none⟩ = some (.int .i64 x.f1) := (blk_cell BX.out 1).trans rfl; have hz2 : w5.cell? ⟨gx, 2, none⟩ = some (.int .i64 x.f2) := (blk_cell BX.out 2).trans rfl; have hz3 : w5.cell? ⟨gx, 3, none⟩ = some (.int .i64 x.f3) := (blk_cell BX.out 3).trans rfl; have hz4 : w5.cell? ⟨gx, 4, none⟩ = some (.int .i64 x.f4) := (blk_cell BX.out 4).trans rfl; have hz5 : w5.cell? ⟨gx, 5, none⟩ = some (.int .i64 x.f5) := (blk_cell BX.out 5).trans rfl; have hz6 : w5.cell? ⟨gx, 6, none⟩ = some (.int .i64 x.f6) := (blk_cell BX.out 6).trans rfl; have hz7 : w5.cell? ⟨gx, 7, none⟩ = some (.int .i64 x.f7) := (blk_cell BX.out 7).trans rfl; have hz8 : w5.cell? ⟨gx, 8, none⟩ = some (.int .i64 x.f8) := (blk_cell BX.out 8).trans rfl; have hz9 : w5.cell? ⟨gx, 9, none⟩ = some (.int .i64 x.f9) := (blk_cell BX.out 9).trans rfl
      by_cases e3 : x.f4 = 3
      · have g3 : (x.f4 == 3) = true := by simpa using e3
        have g4 : (x.f4 != 3) = false := by simpa using e3
        have E3 := Aside0.mk e3
        clear e3
        by_cases c0a : x.f0 ≤ last
        · have H1 : impl_ProcsOk.one l last i x = false := by unfold impl_ProcsOk.one; rw [if_pos c0a]
          have HA : Aside0 (impl_ProcsOk.ok l = false) := ⟨by rw [HA1.out, H1]; rfl⟩
          clear HA1 H1
          have f0a_0 : decide (x.f0 ≤ last) = true := by simpa using c0a
          clear c0a
          go_wp2
          go_ret
          exact ⟨by rw [HA.out]; rfl, HB.out⟩
        have d0a : decide (x.f0 ≤ last) = false := by simpa using c0a
        have C0a := Aside0.mk c0a; clear c0a
        by_cases c1a : 32 < x.f0
        · have H1 : impl_ProcsOk.one l last i x = false := by unfold impl_ProcsOk.one; rw [if_neg C0a.out, if_pos c1a]
          have HA : Aside0 (impl_ProcsOk.ok l = false) := ⟨by rw [HA1.out, H1]; rfl⟩
          clear HA1 H1
          have f1a_0 : decide (32 < x.f0) = true := by simpa using c1a
          clear c1a
          go_wp2
          go_ret
          exact ⟨by rw [HA.out]; rfl, HB.out⟩
        have d1a : decide (32 < x.f0) = false := by simpa using c1a
        have C1a := Aside0.mk c1a; clear c1a
        by_cases c2a : x.f2 < 1
        · have H1 : impl_ProcsOk.one l last i x = false := by unfold impl_ProcsOk.one; rw [if_neg C0a.out, if_neg C1a.out, if_pos c2a]
          have HA : Aside0 (impl_ProcsOk.ok l = false) := ⟨by rw [HA1.out, H1]; rfl⟩
          clear HA1 H1
          have f2a_0 : decide (x.f2 < 1) = true := by simpa using c2a
          clear c2a
          go_wp2
          go_ret
          exact ⟨by rw [HA.out]; rfl, HB.out⟩
        have d2a : decide (x.f2 < 1) = false := by simpa using c2a
        have C2a := Aside0.mk c2a; clear c2a
        by_cases c3a : 32 < x.f2
        · have H1 : impl_ProcsOk.one l last i x = false := by unfold impl_ProcsOk.one; rw [if_neg C0a.out, if_neg C1a.out, if_neg C2a.out, if_pos c3a]
          have HA : Aside0 (impl_ProcsOk.ok l = false) := ⟨by rw [HA1.out, H1]; rfl⟩
          clear HA1 H1
          have f3a_0 : decide (32 < x.f2) = true := by simpa using c3a
          clear c3a
          go_wp2
          go_ret
          exact ⟨by rw [HA.out]; rfl, HB.out⟩
        have d3a : decide (32 < x.f2) = false := by simpa using c3a
        have C3a := Aside0.mk c3a; clear c3a
        by_cases c4a : x.f3 < 0
        · have H1 : impl_ProcsOk.one l last i x = false := by unfold impl_ProcsOk.one; rw [if_neg C0a.out, if_neg C1a.out, if_neg C2a.out, if_neg C3a.out, if_pos c4a]
          have HA : Aside0 (impl_ProcsOk.ok l = false) := ⟨by rw [HA1.out, H1]; rfl⟩
          clear HA1 H1
          have f4a_0 : decide (x.f3 < 0) = true := by simpa using c4a
          clear c4a
          go_wp2
          go_ret
          exact ⟨by rw [HA.out]; rfl, HB.out⟩
        have d4a : decide (x.f3 < 0) = false := by simpa using c4a
        have C4a := Aside0.mk c4a; clear c4a
        by_cases c5a : 255 < x.f3
        · have H1 : impl_ProcsOk.one l last i x = false := by unfold impl_ProcsOk.one; rw [if_neg C0a.out, if_neg C1a.out, if_neg C2a.out, if_neg C3a.out, if_neg C4a.out, if_pos c5a]
          have HA : Aside0 (impl_ProcsOk.ok l = false) := ⟨by rw [HA1.out, H1]; rfl⟩
          clear HA1 H1
          have f5a_0 : decide (255 < x.f3) = true := by simpa using c5a
          clear c5a
          go_wp2
          go_ret
          exact ⟨by rw [HA.out]; rfl, HB.out⟩
        have d5a : decide (255 < x.f3) = false := by simpa using c5a
        have C5a := Aside0.mk c5a; clear c5a
        by_cases c6a : x.f4 < 1
        · have H1 : impl_ProcsOk.one l last i x = false := by unfold impl_ProcsOk.one; rw [if_neg C0a.out, if_neg C1a.out, if_neg C2a.out, if_neg C3a.out, if_neg C4a.out, if_neg C5a.out, if_pos c6a]
          have HA : Aside0 (impl_ProcsOk.ok l = false) := ⟨by rw [HA1.out, H1]; rfl⟩
          clear HA1 H1
          have f6a_0 : decide (x.f4 < 1) = true := by simpa using c6a
          clear c6a
          go_wp2
          go_ret
          exact ⟨by rw [HA.out]; rfl, HB.out⟩
        have d6a : decide (x.f4 < 1) = false := by simpa using c6a
        have C6a := Aside0.mk c6a; clear c6a
        by_cases c7a : 3 < x.f4
        · have H1 : impl_ProcsOk.one l last i x = false := by unfold impl_ProcsOk.one; rw [if_neg C0a.out, if_neg C1a.out, if_neg C2a.out, if_neg C3a.out, if_neg C4a.out, if_neg C5a.out, if_neg C6a.out, if_pos c7a]
          have HA : Aside0 (impl_ProcsOk.ok l = false) := ⟨by rw [HA1.out, H1]; rfl⟩
          clear HA1 H1
          have f7a_0 : decide (3 < x.f4) = true := by simpa using c7a
          clear c7a
          go_wp2
          go_ret
          exact ⟨by rw [HA.out]; rfl, HB.out⟩
        have d7a : decide (3 < x.f4) = false := by simpa using c7a
        have C7a := Aside0.mk c7a; clear c7a
        by_cases c8a : x.f5 < 0
        · have H1 : impl_ProcsOk.one l last i x = false := by unfold impl_ProcsOk.one; rw [if_neg C0a.out, if_neg C1a.out, if_neg C2a.out, if_neg C3a.out, if_neg C4a.out, if_neg C5a.out, if_neg C6a.out, if_neg C7a.out, if_pos c8a]
          have HA : Aside0 (impl_ProcsOk.ok l = false) := ⟨by rw [HA1.out, H1]; rfl⟩
          clear HA1 H1
          have f8a_0 : decide (x.f5 < 0) = true := by simpa using c8a
          clear c8a
          go_wp2
          go_ret
          exact ⟨by rw [HA.out]; rfl, HB.out⟩
        have d8a : decide (x.f5 < 0) = false := by simpa using c8a
        have C8a := Aside0.mk c8a; clear c8a
        by_cases c9a : 255 < x.f5
        · have H1 : impl_ProcsOk.one l last i x = false := by unfold impl_ProcsOk.one; rw [if_neg C0a.out, if_neg C1a.out, if_neg C2a.out, if_neg C3a.out, if_neg C4a.out, if_neg C5a.out, if_neg C6a.out, if_neg C7a.out, if_neg C8a.out, if_pos c9a]
          have HA : Aside0 (impl_ProcsOk.ok l = false) := ⟨by rw [HA1.out, H1]; rfl⟩
          clear HA1 H1
          have f9a_0 : decide (255 < x.f5) = true := by simpa using c9a
          clear c9a
          go_wp2
          go_ret
          exact ⟨by rw [HA.out]; rfl, HB.out⟩
        have d9a : decide (255 < x.f5) = false := by simpa using c9a
        have C9a := Aside0.mk c9a; clear c9a
        have C10 : Aside0 (¬ (x.f4 ≠ 3 ∧ x.f5 ≠ 0)) := ⟨fun h_ => h_.1 E3.out⟩
        by_cases c11a : Go.bits .andNot .i64 x.f6 65534 ≠ 0
        · have H1 : impl_ProcsOk.one l last i x = false := by unfold impl_ProcsOk.one; rw [if_neg C0a.out, if_neg C1a.out, if_neg C2a.out, if_neg C3a.out, if_neg C4a.out, if_neg C5a.out, if_neg C6a.out, if_neg C7a.out, if_neg C8a.out, if_neg C9a.out, if_neg C10.out, if_pos c11a]
          have HA : Aside0 (impl_ProcsOk.ok l = false) := ⟨by rw [HA1.out, H1]; rfl⟩
          clear HA1 H1
          have f11a_0 : (Go.bits .andNot .i64 x.f6 65534 != 0) = true := by simpa using c11a
          clear c11a
          go_wp2
          go_ret
          exact ⟨by rw [HA.out]; rfl, HB.out⟩
        have d11a : (Go.bits .andNot .i64 x.f6 65534 != 0) = false := by simpa using c11a
        have C11a := Aside0.mk c11a; clear c11a
        by_cases c12a : Go.bits .andNot .i64 (Go.bits .or .i64 (Go.bits .or .i64 x.f7 x.f8) x.f9) 60926 ≠ 0
        · have H1 : impl_ProcsOk.one l last i x = false := by unfold impl_ProcsOk.one; rw [if_neg C0a.out, if_neg C1a.out, if_neg C2a.out, if_neg C3a.out, if_neg C4a.out, if_neg C5a.out, if_neg C6a.out, if_neg C7a.out, if_neg C8a.out, if_neg C9a.out, if_neg C10.out, if_neg C11a.out, if_pos c12a]
          have HA : Aside0 (impl_ProcsOk.ok l = false) := ⟨by rw [HA1.out, H1]; rfl⟩
          clear HA1 H1
          have f12a_0 : (Go.bits .andNot .i64 (Go.bits .or .i64 (Go.bits .or .i64 x.f7 x.f8) x.f9) 60926 != 0) = true := by simpa using c12a
          clear c12a
          go_wp2
          go_ret
          exact ⟨by rw [HA.out]; rfl, HB.out⟩
        have d12a : (Go.bits .andNot .i64 (Go.bits .or .i64 (Go.bits .or .i64 x.f7 x.f8) x.f9) 60926 != 0) = false := by simpa using c12a
        have C12a := Aside0.mk c12a; clear c12a
        by_cases c13a : Go.bits .and .i64 x.f8 x.f9 ≠ 0
        · have H1 : impl_ProcsOk.one l last i x = false := by unfold impl_ProcsOk.one; rw [if_neg C0a.out, if_neg C1a.out, if_neg C2a.out, if_neg C3a.out, if_neg C4a.out, if_neg C5a.out, if_neg C6a.out, if_neg C7a.out, if_neg C8a.out, if_neg C9a.out, if_neg C10.out, if_neg C11a.out, if_neg C12a.out, if_pos c13a]
          have HA : Aside0 (impl_ProcsOk.ok l = false) := ⟨by rw [HA1.out, H1]; rfl⟩
          clear HA1 H1
          have f13a_0 : (Go.bits .and .i64 x.f8 x.f9 != 0) = true := by simpa using c13a
          clear c13a
          go_wp2
          go_ret
          exact ⟨by rw [HA.out]; rfl, HB.out⟩
        have d13a : (Go.bits .and .i64 x.f8 x.f9 != 0) = false := by simpa using c13a
        have C13a := Aside0.mk c13a; clear c13a
        by_cases c14 : Go.bits .or .i64 (Go.bits .or .i64 (Go.bits .or .i64 x.f6 x.f7) x.f8) x.f9 ≠ 0
        · have H1 : impl_ProcsOk.one l last i x = false := by unfold impl_ProcsOk.one; rw [if_neg C0a.out, if_neg C1a.out, if_neg C2a.out, if_neg C3a.out, if_neg C4a.out, if_neg C5a.out, if_neg C6a.out, if_neg C7a.out, if_neg C8a.out, if_neg C9a.out, if_neg C10.out, if_neg C11a.out, if_neg C12a.out, if_neg C13a.out, if_pos ⟨E3.out, c14⟩]
          have HA : Aside0 (impl_ProcsOk.ok l = false) := ⟨by rw [HA1.out, H1]; rfl⟩
          clear HA1 H1
          have f14_0 : (Go.bits .or .i64 (Go.bits .or .i64 (Go.bits .or .i64 x.f6 x.f7) x.f8) x.f9 != 0) = true := by simpa using c14
          clear c14
          go_wp2
          go_ret
          exact ⟨by rw [HA.out]; rfl, HB.out⟩
        have d14 : (Go.bits .or .i64 (Go.bits .or .i64 (Go.bits .or .i64 x.f6 x.f7) x.f8) x.f9 != 0) = false := by simpa using c14
        have C14 : Aside0 (¬ (x.f4 = 3 ∧ Go.bits .or .i64 (Go.bits .or .i64 (Go.bits .or .i64 x.f6 x.f7) x.f8) x.f9 ≠ 0)) := ⟨fun h_ => c14 h_.2⟩
        clear c14
        by_cases cia : i = 0
        · have b3 : ((i : Int) == 0) = true := by simpa using cia
          have b4 : (i == 0) = true := by simpa using cia
          have CI := Aside0.mk cia
          clear cia
          by_cases cma : x.f0 ≠ 1
          · have H1 : impl_ProcsOk.one l last i x = false := by unfold impl_ProcsOk.one; rw [if_neg C0a.out, if_neg C1a.out, if_neg C2a.out, if_neg C3a.out, if_neg C4a.out, if_neg C5a.out, if_neg C6a.out, if_neg C7a.out, if_neg C8a.out, if_neg C9a.out, if_neg C10.out, if_neg C11a.out, if_neg C12a.out, if_neg C13a.out, if_neg C14.out, if_pos CI.out, if_pos cma]
            have HA : Aside0 (impl_ProcsOk.ok l = false) := ⟨by rw [HA1.out, H1]; rfl⟩
            clear HA1 H1
            have fma_0 : (x.f0 != 1) = true := by simpa using cma
            clear cma
            go_wp2
            go_ret
            exact ⟨by rw [HA.out]; rfl, HB.out⟩
          have dma : (x.f0 != 1) = false := by simpa using cma
          have Cma := Aside0.mk cma; clear cma
          have H1 : impl_ProcsOk.one l last i x = false := by unfold impl_ProcsOk.one; rw [if_neg C0a.out, if_neg C1a.out, if_neg C2a.out, if_neg C3a.out, if_neg C4a.out, if_neg C5a.out, if_neg C6a.out, if_neg C7a.out, if_neg C8a.out, if_neg C9a.out, if_neg C10.out, if_neg C11a.out, if_neg C12a.out, if_neg C13a.out, if_neg C14.out, if_pos CI.out, if_neg Cma.out, if_pos E3.out]
          have HA : Aside0 (impl_ProcsOk.ok l = false) := ⟨by rw [HA1.out, H1]; rfl⟩
          clear HA1 H1
          go_wp2
          go_ret
          exact ⟨by rw [HA.out]; rfl, HB.out⟩
        have b3 : ((i : Int) == 0) = false := by simpa using cia
        have b4 : (i == 0) = false := by simpa using cia
        have CI := Aside0.mk cia
        clear cia
        obtain ⟨oj, hj⟩ : ∃ oj, Aside0 (impl_Procs_at.idx x.f1 l 0 = oj) := ⟨_, ⟨rfl⟩⟩
        cases oj with
        | none =>
          have H1 : impl_ProcsOk.one l last i x = false := by unfold impl_ProcsOk.one; rw [if_neg C0a.out, if_neg C1a.out, if_neg C2a.out, if_neg C3a.out, if_neg C4a.out, if_neg C5a.out, if_neg C6a.out, if_neg C7a.out, if_neg C8a.out, if_neg C9a.out, if_neg C10.out, if_neg C11a.out, if_neg C12a.out, if_neg C13a.out, if_neg C14.out, if_neg CI.out, hj.out]
          have HA : Aside0 (impl_ProcsOk.ok l = false) := ⟨by rw [HA1.out, H1]; rfl⟩
          clear HA1 H1
          go_wp2_with (first | (go_at_call 56; refine (impl_Procs_at.calls gp _ c l x.f1 _ BP.out ?sC hlast2.out).mono ?_; (case sC => exact Kd.C_below hC.out HB.out); rintro e w6 ⟨rfl, rfl⟩; rw [hj.out]; simp only [impl_Procs_at.ptr, Option.map_some]))
          repeat (go_quiet (fail); try go_wp2)
          go_ret
          exact ⟨by rw [HA.out]; rfl, by repeat (first | exact HB.out | apply pw_below_drewN | apply below_drew1)⟩
        | some j =>
          have hjl := impl_Procs_at.idx_lt _ _ _ _ hj.out
          obtain ⟨ad2, ead, q0, q1, q2, q3, q4, -⟩ := at_T87 hC.out (j : Int) (by omega) (by omega)
          obtain rfl : ad = ad2 := Option.some.inj ead
          obtain ⟨y, hy⟩ : ∃ y, Aside0 (rd_T87 l (j : Int) = y) := ⟨_, ⟨rfl⟩⟩
          rw [Int.toNat_natCast, hy.out] at q0
          simp only [Int.toNat_natCast, hy.out] at q4
          replace q0 := pw_cell_below HB.out q0
          replace q4 := pw_cell_below HB.out q4
          clear q1 q2 q3 ead hjl
          by_cases cqa : y.f0 = x.f0
          · have H1 : impl_ProcsOk.one l last i x = false := by unfold impl_ProcsOk.one; rw [if_neg C0a.out, if_neg C1a.out, if_neg C2a.out, if_neg C3a.out, if_neg C4a.out, if_neg C5a.out, if_neg C6a.out, if_neg C7a.out, if_neg C8a.out, if_neg C9a.out, if_neg C10.out, if_neg C11a.out, if_neg C12a.out, if_neg C13a.out, if_neg C14.out, if_neg CI.out, hj.out]; simp only [hy.out]; rw [if_pos cqa]
            have HA : Aside0 (impl_ProcsOk.ok l = false) := ⟨by rw [HA1.out, H1]; rfl⟩
            clear HA1 H1
            have fqa : (y.f0 == x.f0) = true := by simpa using cqa
            clear cqa
            go_wp2_with (first | (go_at_call 56; refine (impl_Procs_at.calls gp _ c l x.f1 _ BP.out ?sC hlast2.out).mono ?_; (case sC => exact Kd.C_below hC.out HB.out); rintro e w6 ⟨rfl, rfl⟩; rw [hj.out]; simp only [impl_Procs_at.ptr, Option.map_some]))
            repeat (go_quiet (fail); try go_wp2)
            go_ret
            exact ⟨by rw [HA.out]; rfl, by repeat (first | exact HB.out | apply pw_below_drewN | apply below_drew1)⟩
          have dqa : (y.f0 == x.f0) = false := by simpa using cqa
          have Cqa := Aside0.mk cqa; clear cqa
          by_cases cra : y.f4 = 3
          · have H1 : impl_ProcsOk.one l last i x = false := by unfold impl_ProcsOk.one; rw [if_neg C0a.out, if_neg C1a.out, if_neg C2a.out, if_neg C3a.out, if_neg C4a.out, if_neg C5a.out, if_neg C6a.out, if_neg C7a.out, if_neg C8a.out, if_neg C9a.out, if_neg C10.out, if_neg C11a.out, if_neg C12a.out, if_neg C13a.out, if_neg C14.out, if_neg CI.out, hj.out]; simp only [hy.out]; rw [if_neg Cqa.out, if_pos cra]
            have HA : Aside0 (impl_ProcsOk.ok l = false) := ⟨by rw [HA1.out, H1]; rfl⟩
            clear HA1 H1
            have fra : (y.f4 == 3) = true := by simpa using cra
            clear cra
            go_wp2_with (first | (go_at_call 56; refine (impl_Procs_at.calls gp _ c l x.f1 _ BP.out ?sC hlast2.out).mono ?_; (case sC => exact Kd.C_below hC.out HB.out); rintro e w6 ⟨rfl, rfl⟩; rw [hj.out]; simp only [impl_Procs_at.ptr, Option.map_some]))
            repeat (go_quiet (fail); try go_wp2)
            go_ret
            exact ⟨by rw [HA.out]; rfl, by repeat (first | exact HB.out | apply pw_below_drewN | apply below_drew1)⟩
          have dra : (y.f4 == 3) = false := by simpa using cra
          have Cra := Aside0.mk cra; clear cra
          have H1 : impl_ProcsOk.one l last i x = true := by unfold impl_ProcsOk.one; rw [if_neg C0a.out, if_neg C1a.out, if_neg C2a.out, if_neg C3a.out, if_neg C4a.out, if_neg C5a.out, if_neg C6a.out, if_neg C7a.out, if_neg C8a.out, if_neg C9a.out, if_neg C10.out, if_neg C11a.out, if_neg C12a.out, if_neg C13a.out, if_neg C14.out, if_neg CI.out, hj.out]; simp only [hy.out]; rw [if_neg Cqa.out, if_neg Cra.out]
          have HA : Aside0 (impl_ProcsOk.ok l = (impl_ProcsOk.ok1 l x.f0 (i + 1) (l.drop (i + 1)) && impl_ProcsOk.ok2 l l)) := ⟨by rw [HA1.out, H1]; rfl⟩
          clear HA1 H1
          go_wp2_with (first | (go_at_call 56; refine (impl_Procs_at.calls gp _ c l x.f1 _ BP.out ?sC hlast2.out).mono ?_; (case sC => exact Kd.C_below hC.out HB.out); rintro e w6 ⟨rfl, rfl⟩; rw [hj.out]; simp only [impl_Procs_at.ptr, Option.map_some]))
          repeat (go_quiet (fail); try go_wp2)
          go_roundg (l.length - (i + 1))
          case measure => have := hk.out; have := hi.out; omega
          case rel => exact ⟨x.f0, i + 1, rfl, by first | rfl | (simp; done) | (simp [*]; done), ⟨by have := hi.out; omega⟩, HA, ⟨by repeat (first | exact BP.out | refine blk_drewN ?_ _ | refine blk_drew ?_)⟩, ⟨by repeat (first | exact HB.out | apply pw_below_drewN | apply below_drew1)⟩⟩
      · have g3 : (x.f4 == 3) = false := by simpa using e3
        have g4 : (x.f4 != 3) = true := by simpa using e3
        have E3 := Aside0.mk e3
        clear e3
        by_cases c0b : x.f0 ≤ last
        · have H1 : impl_ProcsOk.one l last i x = false := by unfold impl_ProcsOk.one; rw [if_pos c0b]
          have HA : Aside0 (impl_ProcsOk.ok l = false) := ⟨by rw [HA1.out, H1]; rfl⟩
          clear HA1 H1
          have f0b_0 : decide (x.f0 ≤ last) = true := by simpa using c0b
          clear c0b
          go_wp2
          go_ret
          exact ⟨by rw [HA.out]; rfl, HB.out⟩
        have d0b : decide (x.f0 ≤ last) = false := by simpa using c0b
        have C0b := Aside0.mk c0b; clear c0b
        by_cases c1b : 32 < x.f0
        · have H1 : impl_ProcsOk.one l last i x = false := by unfold impl_ProcsOk.one; rw [if_neg C0b.out, if_pos c1b]
          have HA : Aside0 (impl_ProcsOk.ok l = false) := ⟨by rw [HA1.out, H1]; rfl⟩
          clear HA1 H1
          have f1b_0 : decide (32 < x.f0) = true := by simpa using c1b
          clear c1b
          go_wp2
          go_ret
          exact ⟨by rw [HA.out]; rfl, HB.out⟩
        have d1b : decide (32 < x.f0) = false := by simpa using c1b
        have C1b := Aside0.mk c1b; clear c1b
        by_cases c2b : x.f2 < 1
        · have H1 : impl_ProcsOk.one l last i x = false := by unfold impl_ProcsOk.one; rw [if_neg C0b.out, if_neg C1b.out, if_pos c2b]
          have HA : Aside0 (impl_ProcsOk.ok l = false) := ⟨by rw [HA1.out, H1]; rfl⟩
          clear HA1 H1
          have f2b_0 : decide (x.f2 < 1) = true := by simpa using c2b
          clear c2b
          go_wp2
          go_ret
          exact ⟨by rw [HA.out]; rfl, HB.out⟩
        have d2b : decide (x.f2 < 1) = false := by simpa using c2b
        have C2b := Aside0.mk c2b; clear c2b
        by_cases c3b : 32 < x.f2
        · have H1 : impl_ProcsOk.one l last i x = false := by unfold impl_ProcsOk.one; rw [if_neg C0b.out, if_neg C1b.out, if_neg C2b.out, if_pos c3b]
          have HA : Aside0 (impl_ProcsOk.ok l = false) := ⟨by rw [HA1.out, H1]; rfl⟩
          clear HA1 H1
          have f3b_0 : decide (32 < x.f2) = true := by simpa using c3b
          clear c3b
          go_wp2
          go_ret
          exact ⟨by rw [HA.out]; rfl, HB.out⟩
        have d3b : decide (32 < x.f2) = false := by simpa using c3b
        have C3b := Aside0.mk c3b; clear c3b
        by_cases c4b : x.f3 < 0
        · have H1 : impl_ProcsOk.one l last i x = false := by unfold impl_ProcsOk.one; rw [if_neg C0b.out, if_neg C1b.out, if_neg C2b.out, if_neg C3b.out, if_pos c4b]
          have HA : Aside0 (impl_ProcsOk.ok l = false) := ⟨by rw [HA1.out, H1]; rfl⟩
          clear HA1 H1
          have f4b_0 : decide (x.f3 < 0) = true := by simpa using c4b
          clear c4b
          go_wp2
          go_ret
          exact ⟨by rw [HA.out]; rfl, HB.out⟩
        have d4b : decide (x.f3 < 0) = false := by simpa using c4b
        have C4b := Aside0.mk c4b; clear c4b
        by_cases c5b : 255 < x.f3
        · have H1 : impl_ProcsOk.one l last i x = false := by unfold impl_ProcsOk.one; rw [if_neg C0b.out, if_neg C1b.out, if_neg C2b.out, if_neg C3b.out, if_neg C4b.out, if_pos c5b]
          have HA : Aside0 (impl_ProcsOk.ok l = false) := ⟨by rw [HA1.out, H1]; rfl⟩
          clear HA1 H1
          have f5b_0 : decide (255 < x.f3) = true := by simpa using c5b
          clear c5b
          go_wp2
          go_ret
          exact ⟨by rw [HA.out]; rfl, HB.out⟩
        have d5b : decide (255 < x.f3) = false := by simpa using c5b
        have C5b := Aside0.mk c5b; clear c5b
        by_cases c6b : x.f4 < 1
        · have H1 : impl_ProcsOk.one l last i x = false := by unfold impl_ProcsOk.one; rw [if_neg C0b.out, if_neg C1b.out, if_neg C2b.out, if_neg C3b.out, if_neg C4b.out, if_neg C5b.out, if_pos c6b]
          have HA : Aside0 (impl_ProcsOk.ok l = false) := ⟨by rw [HA1.out, H1]; rfl⟩
          clear HA1 H1
          have f6b_0 : decide (x.f4 < 1) = true := by simpa using c6b
          clear c6b
          go_wp2
          go_ret
          exact ⟨by rw [HA.out]; rfl, HB.out⟩
        have d6b : decide (x.f4 < 1) = false := by simpa using c6b
        have C6b := Aside0.mk c6b; clear c6b
        by_cases c7b : 3 < x.f4
        · have H1 : impl_ProcsOk.one l last i x = false := by unfold impl_ProcsOk.one; rw [if_neg C0b.out, if_neg C1b.out, if_neg C2b.out, if_neg C3b.out, if_neg C4b.out, if_neg C5b.out, if_neg C6b.out, if_pos c7b]
          have HA : Aside0 (impl_ProcsOk.ok l = false) := ⟨by rw [HA1.out, H1]; rfl⟩
          clear HA1 H1
          have f7b_0 : decide (3 < x.f4) = true := by simpa using c7b
          clear c7b
          go_wp2
          go_ret
          exact ⟨by rw [HA.out]; rfl, HB.out⟩
        have d7b : decide (3 < x.f4) = false := by simpa using c7b
        have C7b := Aside0.mk c7b; clear c7b
        by_cases c8b : x.f5 < 0
        · have H1 : impl_ProcsOk.one l last i x = false := by unfold impl_ProcsOk.one; rw [if_neg C0b.out, if_neg C1b.out, if_neg C2b.out, if_neg C3b.out, if_neg C4b.out, if_neg C5b.out, if_neg C6b.out, if_neg C7b.out, if_pos c8b]
          have HA : Aside0 (impl_ProcsOk.ok l = false) := ⟨by rw [HA1.out, H1]; rfl⟩
          clear HA1 H1
          have f8b_0 : decide (x.f5 < 0) = true := by simpa using c8b
          clear c8b
          go_wp2
          go_ret
          exact ⟨by rw [HA.out]; rfl, HB.out⟩
        have d8b : decide (x.f5 < 0) = false := by simpa using c8b
        have C8b := Aside0.mk c8b; clear c8b
        by_cases c9b : 255 < x.f5
        · have H1 : impl_ProcsOk.one l last i x = false := by unfold impl_ProcsOk.one; rw [if_neg C0b.out, if_neg C1b.out, if_neg C2b.out, if_neg C3b.out, if_neg C4b.out, if_neg C5b.out, if_neg C6b.out, if_neg C7b.out, if_neg C8b.out, if_pos c9b]
          have HA : Aside0 (impl_ProcsOk.ok l = false) := ⟨by rw [HA1.out, H1]; rfl⟩
          clear HA1 H1
          have f9b_0 : decide (255 < x.f5) = true := by simpa using c9b
          clear c9b
          go_wp2
          go_ret
          exact ⟨by rw [HA.out]; rfl, HB.out⟩
        have d9b : decide (255 < x.f5) = false := by simpa using c9b
        have C9b := Aside0.mk c9b; clear c9b
        by_cases c10 : x.f5 ≠ 0
        · have H1 : impl_ProcsOk.one l last i x = false := by unfold impl_ProcsOk.one; rw [if_neg C0b.out, if_neg C1b.out, if_neg C2b.out, if_neg C3b.out, if_neg C4b.out, if_neg C5b.out, if_neg C6b.out, if_neg C7b.out, if_neg C8b.out, if_neg C9b.out, if_pos ⟨E3.out, c10⟩]
          have HA : Aside0 (impl_ProcsOk.ok l = false) := ⟨by rw [HA1.out, H1]; rfl⟩
          clear HA1 H1
          have f10_0 : (x.f5 != 0) = true := by simpa using c10
          clear c10
          go_wp2
          go_ret
          exact ⟨by rw [HA.out]; rfl, HB.out⟩
        have d10 : (x.f5 != 0) = false := by simpa using c10
        have C10 : Aside0 (¬ (x.f4 ≠ 3 ∧ x.f5 ≠ 0)) := ⟨fun h_ => c10 h_.2⟩
        clear c10
        by_cases c11b : Go.bits .andNot .i64 x.f6 65534 ≠ 0
        · have H1 : impl_ProcsOk.one l last i x = false := by unfold impl_ProcsOk.one; rw [if_neg C0b.out, if_neg C1b.out, if_neg C2b.out, if_neg C3b.out, if_neg C4b.out, if_neg C5b.out, if_neg C6b.out, if_neg C7b.out, if_neg C8b.out, if_neg C9b.out, if_neg C10.out, if_pos c11b]
          have HA : Aside0 (impl_ProcsOk.ok l = false) := ⟨by rw [HA1.out, H1]; rfl⟩
          clear HA1 H1
          have f11b_0 : (Go.bits .andNot .i64 x.f6 65534 != 0) = true := by simpa using c11b
          clear c11b
          go_wp2
          go_ret
          exact ⟨by rw [HA.out]; rfl, HB.out⟩
        have d11b : (Go.bits .andNot .i64 x.f6 65534 != 0) = false := by simpa using c11b
        have C11b := Aside0.mk c11b; clear c11b
        by_cases c12b : Go.bits .andNot .i64 (Go.bits .or .i64 (Go.bits .or .i64 x.f7 x.f8) x.f9) 60926 ≠ 0
        · have H1 : impl_ProcsOk.one l last i x = false := by unfold impl_ProcsOk.one; rw [if_neg C0b.out, if_neg C1b.out, if_neg C2b.out, if_neg C3b.out, if_neg C4b.out, if_neg C5b.out, if_neg C6b.out, if_neg C7b.out, if_neg C8b.out, if_neg C9b.out, if_neg C10.out, if_neg C11b.out, if_pos c12b]
          have HA : Aside0 (impl_ProcsOk.ok l = false) := ⟨by rw [HA1.out, H1]; rfl⟩
          clear HA1 H1
          have f12b_0 : (Go.bits .andNot .i64 (Go.bits .or .i64 (Go.bits .or .i64 x.f7 x.f8) x.f9) 60926 != 0) = true := by simpa using c12b
          clear c12b
          go_wp2
          go_ret
          exact ⟨by rw [HA.out]; rfl, HB.out⟩
        have d12b : (Go.bits .andNot .i64 (Go.bits .or .i64 (Go.bits .or .i64 x.f7 x.f8) x.f9) 60926 != 0) = false := by simpa using c12b
        have C12b := Aside0.mk c12b; clear c12b
        by_cases c13b : Go.bits .and .i64 x.f8 x.f9 ≠ 0
        · have H1 : impl_ProcsOk.one l last i x = false := by unfold impl_ProcsOk.one; rw [if_neg C0b.out, if_neg C1b.out, if_neg C2b.out, if_neg C3b.out, if_neg C4b.out, if_neg C5b.out, if_neg C6b.out, if_neg C7b.out, if_neg C8b.out, if_neg C9b.out, if_neg C10.out, if_neg C11b.out, if_neg C12b.out, if_pos c13b]
          have HA : Aside0 (impl_ProcsOk.ok l = false) := ⟨by rw [HA1.out, H1]; rfl⟩
          clear HA1 H1
          have f13b_0 : (Go.bits .and .i64 x.f8 x.f9 != 0) = true := by simpa using c13b
          clear c13b
          go_wp2
          go_ret
          exact ⟨by rw [HA.out]; rfl, HB.out⟩
        have d13b : (Go.bits .and .i64 x.f8 x.f9 != 0) = false := by simpa using c13b
        have C13b := Aside0.mk c13b; clear c13b
        have C14 : Aside0 (¬ (x.f4 = 3 ∧ Go.bits .or .i64 (Go.bits .or .i64 (Go.bits .or .i64 x.f6 x.f7) x.f8) x.f9 ≠ 0)) := ⟨fun h_ => E3.out h_.1⟩
        by_cases cib : i = 0
        · have b3 : ((i : Int) == 0) = true := by simpa using cib
          have b4 : (i == 0) = true := by simpa using cib
          have CI := Aside0.mk cib
          clear cib
          by_cases cmb : x.f0 ≠ 1
          · have H1 : impl_ProcsOk.one l last i x = false := by unfold impl_ProcsOk.one; rw [if_neg C0b.out, if_neg C1b.out, if_neg C2b.out, if_neg C3b.out, if_neg C4b.out, if_neg C5b.out, if_neg C6b.out, if_neg C7b.out, if_neg C8b.out, if_neg C9b.out, if_neg C10.out, if_neg C11b.out, if_neg C12b.out, if_neg C13b.out, if_neg C14.out, if_pos CI.out, if_pos cmb]
            have HA : Aside0 (impl_ProcsOk.ok l = false) := ⟨by rw [HA1.out, H1]; rfl⟩
            clear HA1 H1
            have fmb_0 : (x.f0 != 1) = true := by simpa using cmb
            clear cmb
            go_wp2
            go_ret
            exact ⟨by rw [HA.out]; rfl, HB.out⟩
          have dmb : (x.f0 != 1) = false := by simpa using cmb
          have Cmb := Aside0.mk cmb; clear cmb
          by_cases cpb : x.f1 ≠ 0
          · have H1 : impl_ProcsOk.one l last i x = false := by unfold impl_ProcsOk.one; rw [if_neg C0b.out, if_neg C1b.out, if_neg C2b.out, if_neg C3b.out, if_neg C4b.out, if_neg C5b.out, if_neg C6b.out, if_neg C7b.out, if_neg C8b.out, if_neg C9b.out, if_neg C10.out, if_neg C11b.out, if_neg C12b.out, if_neg C13b.out, if_neg C14.out, if_pos CI.out, if_neg Cmb.out, if_neg E3.out, if_pos cpb]
            have HA : Aside0 (impl_ProcsOk.ok l = false) := ⟨by rw [HA1.out, H1]; rfl⟩
            clear HA1 H1
            have fpb_0 : (x.f1 != 0) = true := by simpa using cpb
            clear cpb
            go_wp2
            go_ret
            exact ⟨by rw [HA.out]; rfl, HB.out⟩
          have dpb : (x.f1 != 0) = false := by simpa using cpb
          have Cpb := Aside0.mk cpb; clear cpb
          have H1 : impl_ProcsOk.one l last i x = true := by unfold impl_ProcsOk.one; rw [if_neg C0b.out, if_neg C1b.out, if_neg C2b.out, if_neg C3b.out, if_neg C4b.out, if_neg C5b.out, if_neg C6b.out, if_neg C7b.out, if_neg C8b.out, if_neg C9b.out, if_neg C10.out, if_neg C11b.out, if_neg C12b.out, if_neg C13b.out, if_neg C14.out, if_pos CI.out, if_neg Cmb.out, if_neg E3.out, if_neg Cpb.out]
          have HA : Aside0 (impl_ProcsOk.ok l = (impl_ProcsOk.ok1 l x.f0 (i + 1) (l.drop (i + 1)) && impl_ProcsOk.ok2 l l)) := ⟨by rw [HA1.out, H1]; rfl⟩
          clear HA1 H1
          go_wp2
          go_roundg (l.length - (i + 1))
          case measure => have := hk.out; have := hi.out; omega
          case rel => exact ⟨x.f0, i + 1, rfl, by first | rfl | (simp; done) | (simp [*]; done), ⟨by have := hi.out; omega⟩, HA, BP, HB⟩
        have b3 : ((i : Int) == 0) = false := by simpa using cib
        have b4 : (i == 0) = false := by simpa using cib
        have CI := Aside0.mk cib
        clear cib
        obtain ⟨oj, hj⟩ : ∃ oj, Aside0 (impl_Procs_at.idx x.f1 l 0 = oj) := ⟨_, ⟨rfl⟩⟩
        cases oj with
        | none =>
          have H1 : impl_ProcsOk.one l last i x = false := by unfold impl_ProcsOk.one; rw [if_neg C0b.out, if_neg C1b.out, if_neg C2b.out, if_neg C3b.out, if_neg C4b.out, if_neg C5b.out, if_neg C6b.out, if_neg C7b.out, if_neg C8b.out, if_neg C9b.out, if_neg C10.out, if_neg C11b.out, if_neg C12b.out, if_neg C13b.out, if_neg C14.out, if_neg CI.out, hj.out]
          have HA : Aside0 (impl_ProcsOk.ok l = false) := ⟨by rw [HA1.out, H1]; rfl⟩
          clear HA1 H1
          go_wp2_with (first | (go_at_call 56; refine (impl_Procs_at.calls gp _ c l x.f1 _ BP.out ?sC hlast2.out).mono ?_; (case sC => exact Kd.C_below hC.out HB.out); rintro e w6 ⟨rfl, rfl⟩; rw [hj.out]; simp only [impl_Procs_at.ptr, Option.map_some]))
          repeat (go_quiet (fail); try go_wp2)
          go_ret
          exact ⟨by rw [HA.out]; rfl, by repeat (first | exact HB.out | apply pw_below_drewN | apply below_drew1)⟩
        | some j =>
          have hjl := impl_Procs_at.idx_lt _ _ _ _ hj.out
          obtain ⟨ad2, ead, q0, q1, q2, q3, q4, -⟩ := at_T87 hC.out (j : Int) (by omega) (by omega)
          obtain rfl : ad = ad2 := Option.some.inj ead
          obtain ⟨y, hy⟩ : ∃ y, Aside0 (rd_T87 l (j : Int) = y) := ⟨_, ⟨rfl⟩⟩
          rw [Int.toNat_natCast, hy.out] at q0
          simp only [Int.toNat_natCast, hy.out] at q4
          replace q0 := pw_cell_below HB.out q0
          replace q4 := pw_cell_below HB.out q4
          clear q1 q2 q3 ead hjl
          by_cases cqb : y.f0 = x.f0
          · have H1 : impl_ProcsOk.one l last i x = false := by unfold impl_ProcsOk.one; rw [if_neg C0b.out, if_neg C1b.out, if_neg C2b.out, if_neg C3b.out, if_neg C4b.out, if_neg C5b.out, if_neg C6b.out, if_neg C7b.out, if_neg C8b.out, if_neg C9b.out, if_neg C10.out, if_neg C11b.out, if_neg C12b.out, if_neg C13b.out, if_neg C14.out, if_neg CI.out, hj.out]; simp only [hy.out]; rw [if_pos cqb]
            have HA : Aside0 (impl_ProcsOk.ok l = false) := ⟨by rw [HA1.out, H1]; rfl⟩
            clear HA1 H1
            have fqb : (y.f0 == x.f0) = true := by simpa using cqb
            clear cqb
            go_wp2_with (first | (go_at_call 56; refine (impl_Procs_at.calls gp _ c l x.f1 _ BP.out ?sC hlast2.out).mono ?_; (case sC => exact Kd.C_below hC.out HB.out); rintro e w6 ⟨rfl, rfl⟩; rw [hj.out]; simp only [impl_Procs_at.ptr, Option.map_some]))
            repeat (go_quiet (fail); try go_wp2)
            go_ret
            exact ⟨by rw [HA.out]; rfl, by repeat (first | exact HB.out | apply pw_below_drewN | apply below_drew1)⟩
          have dqb : (y.f0 == x.f0) = false := by simpa using cqb
          have Cqb := Aside0.mk cqb; clear cqb
          by_cases crb : y.f4 = 3
          · have H1 : impl_ProcsOk.one l last i x = false := by unfold impl_ProcsOk.one; rw [if_neg C0b.out, if_neg C1b.out, if_neg C2b.out, if_neg C3b.out, if_neg C4b.out, if_neg C5b.out, if_neg C6b.out, if_neg C7b.out, if_neg C8b.out, if_neg C9b.out, if_neg C10.out, if_neg C11b.out, if_neg C12b.out, if_neg C13b.out, if_neg C14.out, if_neg CI.out, hj.out]; simp only [hy.out]; rw [if_neg Cqb.out, if_pos crb]
            have HA : Aside0 (impl_ProcsOk.ok l = false) := ⟨by rw [HA1.out, H1]; rfl⟩
            clear HA1 H1
            have frb : (y.f4 == 3) = true := by simpa using crb
            clear crb
            go_wp2_with (first | (go_at_call 56; refine (impl_Procs_at.calls gp _ c l x.f1 _ BP.out ?sC hlast2.out).mono ?_; (case sC => exact Kd.C_below hC.out HB.out); rintro e w6 ⟨rfl, rfl⟩; rw [hj.out]; simp only [impl_Procs_at.ptr, Option.map_some]))
            repeat (go_quiet (fail); try go_wp2)
            go_ret
            exact ⟨by rw [HA.out]; rfl, by repeat (first | exact HB.out | apply pw_below_drewN | apply below_drew1)⟩
          have drb : (y.f4 == 3) = false := by simpa using crb
          have Crb := Aside0.mk crb; clear crb
          have H1 : impl_ProcsOk.one l last i x = true := by unfold impl_ProcsOk.one; rw [if_neg C0b.out, if_neg C1b.out, if_neg C2b.out, if_neg C3b.out, if_neg C4b.out, if_neg C5b.out, if_neg C6b.out, if_neg C7b.out, if_neg C8b.out, if_neg C9b.out, if_neg C10.out, if_neg C11b.out, if_neg C12b.out, if_neg C13b.out, if_neg C14.out, if_neg CI.out, hj.out]; simp only [hy.out]; rw [if_neg Cqb.out, if_neg Crb.out]
          have HA : Aside0 (impl_ProcsOk.ok l = (impl_ProcsOk.ok1 l x.f0 (i + 1) (l.drop (i + 1)) && impl_ProcsOk.ok2 l l)) := ⟨by rw [HA1.out, H1]; rfl⟩
          clear HA1 H1
          go_wp2_with (first | (go_at_call 56; refine (impl_Procs_at.calls gp _ c l x.f1 _ BP.out ?sC hlast2.out).mono ?_; (case sC => exact Kd.C_below hC.out HB.out); rintro e w6 ⟨rfl, rfl⟩; rw [hj.out]; simp only [impl_Procs_at.ptr, Option.map_some]))
          repeat (go_quiet (fail); try go_wp2)
          go_roundg (l.length - (i + 1))
          case measure => have := hk.out; have := hi.out; omega
          case rel => exact ⟨x.f0, i + 1, rfl, by first | rfl | (simp; done) | (simp [*]; done), ⟨by have := hi.out; omega⟩, HA, ⟨by repeat (first | exact BP.out | refine blk_drewN ?_ _ | refine blk_drew ?_)⟩, ⟨by repeat (first | exact HB.out | apply pw_below_drewN | apply below_drew1)⟩⟩
    · have b2 : (i < l.length) = False := eq_false hi
      have b3 : decide (i < l.length) = false := decide_eq_false hi
      have HA2 : Aside0 (impl_ProcsOk.ok l = impl_ProcsOk.ok2 l l) := ⟨by rw [HA.out, List.drop_eq_nil_of_le (by omega), impl_ProcsOk.ok1]; rfl⟩
      clear HA hk hi
      go_wp2
      clear b2 b3
      go_loopg [171] l.length (fun kq v171 wr2 => ∃ i2 : Nat, v171 = .int .i64 (i2 : Int) ∧ Aside0 (i2 + kq = l.length) ∧ Aside0 (impl_ProcsOk.ok l = impl_ProcsOk.ok2 l (l.drop i2)) ∧ Aside0 (wr2.heap[gp]? = some (.cells #[.slice A l.length c] 48 (0, 0))) ∧ Aside0 (Below w.heap.size w wr2))
      case atStart => exact ⟨0, rfl, ⟨by omega⟩, ⟨by rw [List.drop_zero]; exact HA2.out⟩, BP, HB⟩
      case round =>
        clear BP HB hp0 HA2
        obtain ⟨i2, rfl, hk, HA, BP, HB⟩ := hrel
        have hp0 : wr.cell? ⟨gp, 0, none⟩ = some (.slice A l.length c) := (blk_cell BP.out 0).trans rfl
        by_cases hi : i2 < l.length
        · obtain ⟨x, hx⟩ : ∃ x, l[i2]? = some x := ⟨_, List.getElem?_eq_getElem hi⟩
          obtain ⟨ad, rfl, h0, h1, h2, h3, h4, h5, h6, h7, h8, h9⟩ := at_T87 hC.out (i2 : Int) (by omega) (by omega)
          simp only [Int.toNat_natCast, impl_Procs_at.rd hx] at h0 h1 h2 h3 h4 h5 h6 h7 h8 h9
          have b0 : (0 ≤ (i2 : Int)) = True := eq_true (by omega)
          have b1 : ((i2 : Int) < (l.length : Int)) = True := eq_true (by omega)
          have b2 : (i2 < l.length) = True := eq_true hi
          have hlast := hl.out
          have hw : IntKind.i64.wrap ((i2 : Int) + 1) = ((i2 + 1 : Nat) : Int) := by rw [IntKind.wrap_i64]; omega
          have hlast2 : Aside0 (l.length ≤ 9223372036854775807) := ⟨by omega⟩
          have HA1 : Aside0 (impl_ProcsOk.ok l = (impl_ProcsOk.way l 34 x && impl_ProcsOk.ok2 l (l.drop (i2 + 1)))) := ⟨by rw [HA.out]; exact impl_ProcsOk.ok2_at hx⟩
          replace h0 := pw_cell_below HB.out h0
          replace h1 := pw_cell_below HB.out h1
          replace h2 := pw_cell_below HB.out h2
          replace h3 := pw_cell_below HB.out h3
          replace h4 := pw_cell_below HB.out h4
          replace h5 := pw_cell_below HB.out h5
          replace h6 := pw_cell_below HB.out h6
          replace h7 := pw_cell_below HB.out h7
          replace h8 := pw_cell_below HB.out h8
          replace h9 := pw_cell_below HB.out h9
          have hi_ := Aside0.mk hi
          clear hx HA hlast hi
          have hi := hi_
          clear hi_
          go_wp2_with (first | ((with_reducible refine gate_dst (N := 8) rfl ?_); refine box_event ?hg (N := 8) ?hd (cs := #[.int .i64 0, .int .i64 0, .int .i64 0, .int .i64 0, .int .i64 0, .int .i64 0, .int .i64 0, .int .i64 0, .int .i64 0, .int .i64 0]) (t := 87) ?hr ?_; (case hd => rfl); (case hg => rfl); (case hr => first | (go_simp; done) | (go_simp; rfl)); intro gx hgq w4 hbq hB_; have GX := Aside0.mk (show w.heap.size ≤ gx by rw [hgq]; exact HB.out.size); have NX := Aside0.mk (show gp ≠ gx by rw [hgq]; exact Nat.ne_of_lt (blk_lt BP.out)); have n_ := Aside0.mk (blk_below BP.out hB_); clear BP hp0; have BP := n_; clear n_; have hp0 : w4.cell? ⟨gp, 0, none⟩ = some (.slice (some ad) l.length c) := (blk_cell BP.out 0).trans rfl; have n_ := Aside0.mk (below_step HB.out hB_); clear HB hB_; have HB := n_; clear n_; have BX := Aside0.mk hbq; clear hbq hgq) | ((with_reducible refine gate_store (t := 87) (p := 8) rfl ?_); refine wpList_store_row rfl 87 (.tmp 8) (.tmp 174) rfl gx #[.int .i64 x.f0, .int .i64 x.f1, .int .i64 x.f2, .int .i64 x.f3, .int .i64 x.f4, .int .i64 x.f5, .int .i64 x.f6, .int .i64 x.f7, .int .i64 x.f8, .int .i64 x.f9] rfl rfl 87 _ BX.out (by kernel_rfl) rfl (by simp [Value.oneCell']) ?_; generalize hw : World.setRow _ _ _ = w5; have n_ : Aside0 (w5.heap[gx]? = some (.cells #[.int .i64 x.f0, .int .i64 x.f1, .int .i64 x.f2, .int .i64 x.f3, .int .i64 x.f4, .int .i64 x.f5, .int .i64 x.f6, .int .i64 x.f7, .int .i64 x.f8, .int .i64 x.f9] 87 (0, 0))) := ⟨by rw [← hw]; exact setRow_heap _ _ _ _ _ _ BX.out⟩; clear BX; have BX := n_; clear n_; have n_ : Aside0 (w5.heap[gp]? = some (.cells #[.slice (some ad) l.length c] 48 (0, 0))) := ⟨by rw [← hw]; exact (setRow_other _ _ _ _ NX.out).trans BP.out⟩; clear BP hp0; have BP := n_; clear n_; have hp0 : w5.cell? ⟨gp, 0, none⟩ = some (.slice (some ad) l.length c) := (blk_cell BP.out 0).trans rfl; have n_ : Aside0 (Below w.heap.size w w5) := ⟨by rw [← hw]; exact below_setRow HB.out GX.out _⟩; clear HB hw; have HB := n_; clear n_; clear h0 h1 h2 h3 h4 h5 h6 h7 h8 h9))
          clear b2
          have HX0 : Aside0 (w5.cell? ⟨gx, 0, none⟩ = some (.int .i64 x.f0)) := ⟨(blk_cell BX.out 0).trans rfl⟩
          have HX1 : Aside0 (w5.cell? ⟨gx, 1, none⟩ = some (.int .i64 x.f1)) := ⟨(blk_cell BX.out 1).trans rfl⟩
          go_loopg [9, 10] 34 (fun kq v9 v10 wq => ∃ (p : Addr) (q : S87) (n : Nat), v9 = .pointer (some p) ∧ v10 = .int .i64 (n : Int) ∧ Aside0 (n + kq = 34) ∧ Aside0 (n ≤ 33) ∧ Aside0 (impl_ProcsOk.way l 34 x = impl_ProcsOk.way l (34 - n) q) ∧ Aside0 (wq.cell? p = some (.int .i64 q.f0)) ∧ Aside0 (wq.cell? ⟨p.block, p.off + 1, none⟩ = some (.int .i64 q.f1)) ∧ wq = w5)
          case atStart => exact ⟨⟨gx, 0, none⟩, x, 0, rfl, rfl, ⟨by omega⟩, ⟨by omega⟩, ⟨rfl⟩, HX0, HX1, rfl⟩
          case round =>
            clear HX0 HX1
            obtain ⟨p, q, n, rfl, rfl, hkn, hn, HW, HQ0, HQ1, rfl⟩ := hrel
            have q0 := HQ0.out
            have q1 := HQ1.out
            have hn1 := hn.out
            have hwn : IntKind.i64.wrap ((n : Int) + 1) = ((n + 1 : Nat) : Int) := by rw [IntKind.wrap_i64]; omega
            obtain ⟨m, hm⟩ : ∃ m, Aside0 (34 - n = m + 1) := ⟨33 - n, ⟨by omega⟩⟩
            by_cases e1 : q.f0 = 1
            · have f0 : (q.f0 == 1) = true := by simpa using e1
              have f1 : (q.f0 != 1) = false := by simpa using e1
              have HA : Aside0 (impl_ProcsOk.ok l = impl_ProcsOk.ok2 l (l.drop (i2 + 1))) := ⟨by rw [HA1.out, HW.out, hm.out, impl_ProcsOk.way, if_pos e1]; rfl⟩
              clear HA1 HW e1 hn1
              go_wp2
              go_roundg (l.length - (i2 + 1))
              case measure => have := hk.out; have := hi.out; omega
              case rel => exact ⟨i2 + 1, by first | rfl | (simp; done) | (simp [*]; done), ⟨by have := hi.out; omega⟩, HA, BP, HB⟩
            · have f0 : (q.f0 == 1) = false := by simpa using e1
              have f1 : (q.f0 != 1) = true := by simpa using e1
              have E1 := Aside0.mk e1
              clear e1
              obtain ⟨oj, hj⟩ : ∃ oj, Aside0 (impl_Procs_at.idx q.f1 l 0 = oj) := ⟨_, ⟨rfl⟩⟩
              cases oj with
              | none =>
                have HA : Aside0 (impl_ProcsOk.ok l = false) := ⟨by rw [HA1.out, HW.out, hm.out, impl_ProcsOk.way, if_neg E1.out, hj.out]; rfl⟩
                clear HA1 HW hn1
                go_wp2_with (first | (go_at_call 56; refine (impl_Procs_at.calls gp _ c l q.f1 _ BP.out ?sC hlast2.out).mono ?_; (case sC => exact Kd.C_below hC.out HB.out); rintro e w6 ⟨rfl, rfl⟩; rw [hj.out]; simp only [impl_Procs_at.ptr, Option.map_some]))
                go_ret
                exact ⟨by rw [HA.out]; rfl, HB.out⟩
              | some j =>
                have hjl := impl_Procs_at.idx_lt _ _ _ _ hj.out
                obtain ⟨ad2, ead, r0, r1, -⟩ := at_T87 hC.out (j : Int) (by omega) (by omega)
                obtain rfl : ad = ad2 := Option.some.inj ead
                obtain ⟨y, hy⟩ : ∃ y, Aside0 (rd_T87 l (j : Int) = y) := ⟨_, ⟨rfl⟩⟩
                rw [Int.toNat_natCast, hy.out] at r0
                simp only [Int.toNat_natCast, hy.out] at r1
                have R0 := Aside0.mk (pw_cell_below HB.out r0)
                have R1 := Aside0.mk (pw_cell_below HB.out r1)
                clear r0 r1 ead hjl
                by_cases e3 : n = 33
                · have f3 : decide (32 < (n : Int)) = true := decide_eq_true (by omega)
                  have HA : Aside0 (impl_ProcsOk.ok l = false) := ⟨by rw [HA1.out, HW.out, hm.out, impl_ProcsOk.way, if_neg E1.out, hj.out]; simp only; rw [if_pos (by have := hm.out; omega)]; rfl⟩
                  clear HA1 HW hn1 e3
                  go_wp2_with (first | (go_at_call 56; refine (impl_Procs_at.calls gp _ c l q.f1 _ BP.out ?sC hlast2.out).mono ?_; (case sC => exact Kd.C_below hC.out HB.out); rintro e w6 ⟨rfl, rfl⟩; rw [hj.out]; simp only [impl_Procs_at.ptr, Option.map_some]))
                  go_ret
                  exact ⟨by rw [HA.out]; rfl, HB.out⟩
                · have f3 : decide (32 < (n : Int)) = false := decide_eq_false (by omega)
                  have HW2 : Aside0 (impl_ProcsOk.way l 34 x = impl_ProcsOk.way l (34 - (n + 1)) y) := ⟨by rw [HW.out, hm.out, impl_ProcsOk.way, if_neg E1.out, hj.out]; simp only; rw [if_neg (by have := hm.out; omega), hy.out, show 34 - (n + 1) = m by have := hm.out; omega]⟩
                  have E3 := Aside0.mk e3
                  clear HW hn1 e3
                  go_wp2_with (first | (go_at_call 56; refine (impl_Procs_at.calls gp _ c l q.f1 _ BP.out ?sC hlast2.out).mono ?_; (case sC => exact Kd.C_below hC.out HB.out); rintro e w6 ⟨rfl, rfl⟩; rw [hj.out]; simp only [impl_Procs_at.ptr, Option.map_some]))
                  go_roundg (33 - n)
                  case measure => have := hkn.out; have := hn.out; omega
                  case rel => exact ⟨ad.add (j * 10), y, n + 1, by first | rfl | (simp; done) | (simp [*]; done), by first | rfl | (simp; done) | (simp [*]; done), ⟨by have := hn.out; omega⟩, ⟨by have := hn.out; have := E3.out; omega⟩, HW2, R0, R1, rfl⟩
        · have b2 : (i2 < l.length) = False := eq_false hi
          have b3 : decide (i2 < l.length) = false := decide_eq_false hi
          have HA2 : Aside0 (impl_ProcsOk.ok l = true) := ⟨by rw [HA.out, List.drop_eq_nil_of_le (by omega)]; rfl⟩
          clear HA hk hi
          go_wp2
          go_ret
          exact ⟨by rw [HA2.out]; rfl, HB.out⟩

end Go.Proofs.Ytdlgalaemnjfjaa.PFnExactProcTree
