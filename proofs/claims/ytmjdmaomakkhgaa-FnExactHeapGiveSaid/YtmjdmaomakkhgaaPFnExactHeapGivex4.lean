-- Written by a program of this session out of the translation. Not trusted: Lean checks it.
import Derived.Test.YtmjdmaomakkhgaaPFnExactHeapGivex0
import Derived.Test.YtmjdmaomakkhgaaPFnExactHeapGivex3
import Derived.Shelf.RegionOpenPlain
import Derived.Deep.RegionLaw
import Derived.Lib.SliceRun
import Derived.Lib.Walk
import Derived.Shelf.SlicesQ.IndexFunc
import Derived.Ground.SlgfProg
namespace Go.Proofs.Ytmjdmaomakkhgaa.PFnExactHeapGive
open Go.RowKit Go.Proofs.YtmjdmaomakkhgaaW.PrintWords Go.Proofs.YtmjdmaomakkhgaaW.PrintLast Go.Proofs.YtmjdmaomakkhgaaW.PrintMore
attribute [local go_sem] max2_int min2_int max_two min_two max_three min_three max_four min_four   -- for this text's walks alone
set_option linter.unusedVariables false
set_option linter.unusedSimpArgs false

/-! ### impl_HeapGive: function 24 -/
def slices_Delete_impl_Span_impl_Span.f (l0 : List S85) (a1 a2 : Int) : Option (List S85) := if 0 ≤ a1 ∧ a2 = a1 + 1 ∧ a1 < l0.length then some (l0.eraseIdx a1.toNat) else none
/-- clear of one span. -/
theorem slices_Delete_impl_Span_impl_Span.clear (w : World) (b o c : Nat) (ty : TypeId) (hc : ∀ j, j < 2 → (w.cell? ⟨b, o + j, none⟩).isSome = true) (hf : ∀ j, j < 2 → w.frozen? ⟨b, o + j, none⟩ = false) :
    (Builtin.clear_ #[27] ty #[.slice (some ⟨b, o, none⟩) 1 c]).run Try.prog w = .ok (.tuple #[]) (w.setCells b o [.int .i64 0, .int .i64 0]) := by
  have hst := run_storeCells_cells (P := Try.prog) b o [.int .i64 0, .int .i64 0] 0 w (by simpa using hc) (by simpa using hf) (by intro v hv; simp at hv; subst hv; rfl)
  simp only [Nat.add_zero] at hst
  have hz : (Builtin.zeroCells (Value.agg #[.int .i64 0, .int .i64 0]).cells 1).toList = [.int .i64 0, .int .i64 0] := by simp [Builtin.zeroCells, Value.cells]; first | done | rfl
  simp [Builtin.clear_, run_underlying Try.underlying27, Try.zeroValue85, hz, hst]
/-- A row of the call's own, when cells behind its end are stored into. -/
theorem slices_Delete_impl_Span_impl_Span.behind {α : Type} {d : Kd α} {e : Nat} {W : World} {base : Nat} {ok : Nat → Prop} {g n c o : Nat} {xs : List α} {news : List Value} (HO : d.R e W base ok (.slice (some ⟨g, 0, none⟩) n c) xs) (ho : n * d.sz ≤ o) (hfit : o + news.length ≤ c * d.sz) :
    d.R e (W.setCells g o news) base ok (.slice (some ⟨g, 0, none⟩) n c) xs ∧ W.grownBy (W.setCells g o news) (some g) := by
  obtain ⟨hn, hnc, _⟩ := Kd.R_reads' HO
  obtain ⟨hok, inner, hown, hr⟩ := HO
  rcases hown.2 with ⟨hv, _⟩ | ⟨g', cap', cur, hv, hb, hh, hl, hcm, hcs, htake⟩
  · cases hv
  injection hv with ha _ hc
  injection ha with ha
  injection ha with hg
  subst hg; subst hc
  obtain ⟨cur', h3, h4, h5⟩ := setCells_row news o W cur hh (by rw [hcs]; exact hfit)
  obtain ⟨s1, s2, s3, s4⟩ := setCells_same g news o W
  have hfar : ∀ k', k' ≠ g → (W.setCells g o news).heap[k']? = W.heap[k']? := fun k' hk' => setCells_far news _ k' hk'
  have hgo : some g = (Value.slice (some ⟨g, 0, none⟩) n c).ownBlock := by simp [Value.ownBlock]
  refine ⟨⟨hok, inner, ⟨hown.1, .inr ⟨g, c, cur', by rw [hn], hb, h3, hl, hcm, by rw [h4, hcs], ?_⟩⟩, hr.imp_ (fun p q hp => d.M_move (fun k' hk' => hfar k' (fun he => hk'.2 (by rw [← hgo, he]))) hp)⟩, ⟨s1, s2, s3, by rw [s4]; exact Nat.le_refl _, fun k' _ hk' => hfar k' (fun he => hk' (by rw [he]))⟩⟩
  have hcl : cur.toList.length = c * d.sz := by rw [Array.length_toList, hcs]
  have hle : xs.length * d.sz ≤ c * d.sz := Nat.mul_le_mul_right d.sz hl
  rw [h5, List.append_assoc, List.take_append_of_le_length (by rw [List.length_take, hcl, ← hn]; rw [← hn] at hle; omega), List.take_take, Nat.min_eq_left (by rw [← hn]; exact ho)]
  exact htake
set_option maxHeartbeats 4000000 in
set_option maxRecDepth 100000 in
theorem slices_Delete_impl_Span_impl_Span.calls (P0_ : Nat → Prop) (u9000_ : Value) (l0 : List (S85)) (a1 a2 : Int) (r : List (S85)) (w0 w : World) (hB : Below w0.heap.size w0 w) (ho0 : Kd.R k85 85 w w0.heap.size P0_ u9000_ l0) (h : slices_Delete_impl_Span_impl_Span.f l0 a1 a2 = some r) :
    Calls Try.prog 61 #[u9000_, .int .i64 a1, .int .i64 a2] w fun e w' => ∃ v0_ : Value, e = .returned (v0_) ∧ Kd.R k85 85 w' w0.heap.size (fun k_ => (P0_ k_ ∨ w.heap.size ≤ k_)) v0_ r ∧ Below w0.heap.size w0 w' ∧ Kept w w' (fun k_ => P0_ k_) := by
  unfold slices_Delete_impl_Span_impl_Span.f at h
  by_cases hc : 0 ≤ a1 ∧ a2 = a1 + 1 ∧ a1 < l0.length
  · rw [if_pos hc] at h
    obtain rfl := Option.some.inj h
    obtain ⟨h0, rfl, h1⟩ := hc
    obtain ⟨i, rfl⟩ : ∃ i : Nat, a1 = (i : Int) := ⟨a1.toNat, by omega⟩
    obtain ⟨A, c, eA⟩ := Kd.R_slice ho0
    subst eA
    obtain ⟨g, eg⟩ : ∃ g, A = some ⟨g, 0, none⟩ := by
      obtain ⟨hok, inner, hown, hr⟩ := ho0
      rcases hown.2 with ⟨hv, hx⟩ | ⟨g', cap', cur, hv, _⟩
      · omega
      · injection hv with ha
        exact ⟨g', ha⟩
    subst eg
    have hnc := (Kd.R_reads' ho0).2.1
    have hRd : Aside0 (Kd.R k85 85 w.drew w0.heap.size P0_ (.slice (some ⟨g, 0, none⟩) l0.length c) l0) := ⟨Kd.R_drew ho0⟩
    have hBd : Aside0 (Below w0.heap.size w0 w.drew) := ⟨below_drew1 hB⟩
    have hcm : c ≤ 9223372036854775807 := by
      obtain ⟨hok, inner, hown, hr⟩ := ho0
      rcases hown.2 with ⟨hv, hx⟩ | ⟨g', cap', cur, hv, hb, hh, hl, hcm, hcs, htake⟩
      · cases hv
      · injection hv with _ _ hc
        subst hc
        exact hcm
    have mixed : Try.prog.follows Departure.mixedOrders = true := by kernel_rfl
    have hic : i ≤ c := by omega
    obtain ⟨j, hj⟩ : ∃ j, Aside0 (j = i + 1) := ⟨_, ⟨rfl⟩⟩
    rw [show (i : Int) + 1 = (j : Int) from by have := hj.out; omega]
    have hij : i ≤ j := by have := hj.out; omega
    have hne : ¬ i = j := by have := hj.out; omega
    have hjl : j ≤ l0.length := by have := hj.out; omega
    have hil : i ≤ l0.length := by omega
    have hjc : j ≤ c := by omega
    have hA : Aside0 ((if c = j then some (⟨g, 0, none⟩ : Addr) else some ⟨g, j * 2, none⟩) = if c = i + 1 then some ⟨g, 0, none⟩ else (some (⟨g, 0, none⟩ : Addr)).map (·.add ((i + 1) * k85.sz))) := ⟨by
      rw [← hj.out]
      by_cases hcj : c = j
      · rw [if_pos hcj, if_pos hcj]
      · rw [if_neg hcj, if_neg hcj, show k85.sz = 2 from rfl, Option.map_some, Addr.add_lit, Nat.zero_add]⟩
    clear ho0 hB
    go_enter Try.func61, Try.ntmps61
    go_wp2_with fail
    go_region_law_o (refine Kd.R_delete_step k85 (w0 := w0) w0.heap.size (by simp [Region.wanted]) (.tmp 22) (.tmp 25) 27 85 rfl Try.underlying27 (by obtain ⟨i0, hi0, _, hz1, _⟩ := info_parts info85; rw [hi0, Option.map_some, hz1]; rfl) (g := g) (n := l0.length) (c := c) (k := i) (m := l0.length - j) (c2 := c - j) (by simp [Act.eval, Act.put]) (by simp [Act.eval, Act.put]; first | done | rfl) hA.out (by rw [← hj.out]) hRd.out (by omega) hBd.out hBd.out.size ?_; intro w1 hR1 hB1 hg1)
    have hcl : ∀ ty, (Builtin.clear_ #[27] ty #[.slice (some ⟨g, (l0.length - 1) * 2, none⟩) 1 (c - (l0.length - 1))]).run Try.prog w1 = .ok (.tuple #[]) (w1.setCells g ((l0.length - 1) * 2) [.int .i64 0, .int .i64 0]) := by
      intro ty
      obtain ⟨hok, inner, hown, hr⟩ := hR1
      rcases hown.2 with ⟨hv, hx⟩ | ⟨g', cap', cur, hv, hb, hh, hl, hcm2, hcs, htake⟩
      · cases hv
      · injection hv with ha _ hc2
        injection ha with ha
        injection ha with ha
        subst ha; subst hc2
        have hcs2 : cur.size = c * 2 := hcs
        refine slices_Delete_impl_Span_impl_Span.clear w1 g _ _ ty (fun q hq => ?_) (fun q hq => blk_frozen hh _)
        rw [cell_of_row w1 g _ cur 85 (0, 0) hh]
        simp
        omega
    have h5 : l0.length - 1 ≤ l0.length := by omega
    have h6 : ¬ c = l0.length - 1 := by omega
    have h7 : l0.length - (l0.length - 1) = 1 := by omega
    have hR1 := Aside0.mk hR1
    have hB1 := Aside0.mk hB1
    have hg1 := Aside0.mk hg1
    obtain ⟨W2, hW2⟩ : ∃ W2, Aside0 (W2 = w1.setCells g ((l0.length - 1) * 2) [.int .i64 0, .int .i64 0]) := ⟨_, ⟨rfl⟩⟩
    rw [← hW2.out] at hcl
    go_wp2
    all_goals
      (try (subst h))
      go_ret
      have hPg : ∀ k, some g = some k → P0_ k ∨ w.heap.size ≤ k := fun k hk => .inl (hR1.out.1 k (by rw [← hk]; simp [Value.ownBlock]))
      obtain ⟨hR2, hg2⟩ := slices_Delete_impl_Span_impl_Span.behind (news := [.int .i64 0, .int .i64 0]) (o := (l0.length - 1) * 2) hR1.out (Nat.le_refl _) (by show (l0.length - 1) * 2 + 2 ≤ c * 2; omega)
      rw [← hW2.out] at hR2 hg2
      refine ⟨_, rfl, Kd.R_mono hR2 (fun k hk => .inl hk), hB1.out.grown hg2 hB1.out.size (fun k hk => by injection hk with hk; subst hk; exact Kd.R_base hR1.out _ (by simp [Value.ownBlock])), ?_⟩
      exact Kept.of_grown hg2 (Kept.of_grown hg1.out (Kept.drew (Kept.refl w _)) hPg) hPg
  · rw [if_neg hc] at h; cases h
def impl_Heap_span.idx (at_ : Int) : List S85 → Nat → Int
  | [], _ => -1
  | x :: xs, i => if x.f0 = at_ then (i : Int) else impl_Heap_span.idx at_ xs (i + 1)
instance : Inhabited S85 := ⟨z85⟩
theorem impl_Heap_span.idx_eq (at_ : Int) : ∀ (xs : List S85) (i : Nat), Go.Lib.idxByFrom (fun _ y => decide (y.f0 = at_)) default xs i = impl_Heap_span.idx at_ xs i
  | [], _ => rfl
  | x :: xs, i => by
    rw [Go.Lib.idxByFrom, impl_Heap_span.idx, impl_Heap_span.idx_eq at_ xs (i + 1)]
    by_cases h : x.f0 = at_
    · rw [if_pos h, if_pos (decide_eq_true h)]
    · rw [if_neg h, if_neg (by simpa using h)]
def impl_Heap_span.enc (x : S85) : List Value := [.int .i64 x.f0, .int .i64 x.f1]
section
open Go.Shelf Go.RowKit Go.Lib
shelf_lay_g SlLaysH0.n6 Slgf 6 at Try 98 as Try.l98
theorem impl_Heap_span.pred (at_ : Int) (B : Nat) (w : World) (hB : B < w.heap.size) (hcell : w.cell? ⟨B, 0, none⟩ = some (.int .i64 at_)) :
    PredBelow Try.prog 99 #[.pointer (some ⟨B, 0, none⟩)] (fun x => .agg (impl_Heap_span.enc x).toArray) (fun x => decide (x.f0 = at_)) w := fun W x hb => by
  have hc : W.cell? ⟨B, 0, none⟩ = some (.int .i64 at_) := (hb.cell (p := ⟨B, 0, none⟩) hB).trans hcell
  have hBW : B < W.heap.size := Nat.lt_of_lt_of_le hB hb.size
  have hne : B ≠ W.heap.size := by omega
  show Calls Try.prog 99 #[.agg #[.int .i64 x.f0, .int .i64 x.f1], .pointer (some ⟨B, 0, none⟩)] W _
  go_enter Try.func99, Try.ntmps99
  go_wp2
  all_goals (go_ret; exact ⟨by simp_all <;> rfl, hb.alloc hb.size _⟩)
end
/-- The cells of a row of spans of the call's own. -/
theorem impl_Heap_span.cells {w : World} {base : Nat} {ok : Nat → Prop} {b c : Nat} {l : List S85} (HO : Kd.R k85 85 w base ok (.slice (some ⟨b, 0, none⟩) l.length c) l) : ∀ j, j < l.length → ∀ i v, (impl_Heap_span.enc l[j]!)[i]? = some v → w.cell? ⟨b, 0 + j * 2 + i, none⟩ = some v := by
  intro j hj i v hv
  obtain ⟨hok, inner, hown, hr⟩ := HO
  rcases hown.2 with ⟨hx, _⟩ | ⟨g', cap', cur, hx, hb, hh, hl, hcm, hcs, htake⟩
  · cases hx
  injection hx with ha _ hc
  injection ha with ha
  injection ha with hg
  subst hg; subst hc
  have hM := hr.2 j l[j] (List.getElem?_eq_getElem hj)
  have hcs2 := k85_open (k85.K_of_M hM)
  rw [show k85.sz = 2 from rfl] at hcs2 htake
  rw [getElem!_pos l j hj] at hv
  have hi : i < 2 := by
    have := (List.getElem?_eq_some_iff.1 hv).1
    simpa [impl_Heap_span.enc] using this
  have hv2 : ((inner.drop (j * 2)).take 2)[i]? = some v := by rw [hcs2]; exact hv
  rw [List.getElem?_take, if_pos hi, List.getElem?_drop] at hv2
  rw [cell_of_row w b _ cur 85 (0, 0) hh, ← Array.getElem?_toList, Nat.zero_add]
  have hlt : j * 2 + i < l.length * 2 := by omega
  rw [← htake, List.getElem?_take, if_pos hlt] at hv2
  exact hv2
set_option maxHeartbeats 4000000 in
set_option maxRecDepth 100000 in
theorem impl_Heap_span.calls (g : Nat) (s0 : Int) (base : Nat) (ok : Nat → Prop) (A : Option Addr) (c : Nat) (l : List S85) (a1 : Int) (w : World) (hg : w.heap[g]? = some (.cells #[.int .i64 s0, .slice A l.length c] 29 (0, 0))) (HO : Kd.R k85 85 w base ok (.slice A l.length c) l) :
    Calls Try.prog 60 #[.pointer (some ⟨g, 0, none⟩), .int .i64 a1] w fun e w' => e = .returned (.int .i64 (impl_Heap_span.idx a1 l 0)) ∧ Below w.heap.size w w' := by
  have hlt : g < w.heap.size := by
    rcases Nat.lt_or_ge g w.heap.size with h | h
    · exact h
    · rw [Array.getElem?_eq_none h] at hg; cases hg
  have hcell : w.cell? ⟨g, 1, none⟩ = some (.slice A l.length c) := (blk_cell hg 1).trans rfl
  have hcon : Calls Try.prog 98 #[.slice A l.length c, .func (.func 99) #[] #[.pointer (some ⟨w.heap.size, 0, none⟩)]] (w.alloc (.cells #[.int .i64 a1] 2)) fun e w' => e = .returned (.int .i64 (impl_Heap_span.idx a1 l 0)) ∧ Below (w.alloc (.cells #[.int .i64 a1] 2)).heap.size (w.alloc (.cells #[.int .i64 a1] 2)) w' := by
    have HO' := HO
    obtain ⟨hok, inner, hown, hr⟩ := HO'
    rcases hown.2 with ⟨hx, hz⟩ | ⟨b, cap', cur, hx, hb, hh, hl, hcm, hcs, htake⟩
    · injection hx with ha hn hc
      subst ha; subst hc
      have hl : l = [] := List.eq_nil_of_length_eq_zero hn
      subst hl
      clear hcell hg HO hown hr hok hz hn
      generalize w.alloc (.cells #[.int .i64 a1] 2) = W1
      go_enter Try.func98, Try.ntmps98
      go_wp2
      go_loopg [5, 8] 0 (fun _ _ s8 wr => s8 = .int .i64 0 ∧ wr = W1)
      case atStart => exact ⟨rfl, rfl⟩
      case round =>
        obtain ⟨rfl, rfl⟩ := hrel
        go_wp2
        go_ret
        exact ⟨rfl, Below.refl _ _⟩
    · injection hx with ha hn hc
      subst ha; subst hc
      have hbw : b < w.heap.size := by
        rcases Nat.lt_or_ge b w.heap.size with h | h
        · exact h
        · rw [Array.getElem?_eq_none h] at hh; cases hh
      have eg : ∀ args w, (callFunc 99 args).run Try.prog w = .ok (.enter 99 args) w := enters_of Try.func99 (by kernel_rfl) rfl
      have hmx : l.length ≤ 9223372036854775807 := by
        have : maxLen = 9223372036854775807 := rfl
        omega
      have hcon := AnyQ.slices_IndexFunc Try.l98 2 Try.isAgg85 Try.sizeOf85 impl_Heap_span.enc (fun _ => rfl) (fun x => decide (x.f0 = a1)) 99 #[.pointer (some ⟨w.heap.size, 0, none⟩)] eg b 0 l.length c l (w.alloc (.cells #[.int .i64 a1] 2))
        (impl_Heap_span.pred a1 w.heap.size _ (by simp) (by simp)) (Nat.le_refl _) hmx (by simp; omega) (fun j hj i v hi => Lib.cell?_alloc_some _ (impl_Heap_span.cells HO j hj i v hi))
      rw [List.take_length] at hcon
      refine hcon.mono ?_
      rintro e w' ⟨rfl, hb'⟩
      refine ⟨?_, hb'⟩
      rw [← impl_Heap_span.idx_eq]
      rfl
  go_enter Try.func60, Try.ntmps60
  go_wp2_with (go_at_call 98; refine hcon.mono ?_; rintro e w' ⟨rfl, hb'⟩)
  go_ret
  exact ⟨rfl, ((Below.refl _ w).alloc (Nat.le_refl _) _).trans (hb'.mono (by simp))⟩
def impl_HeapGive.f (k : Nat) (a0_0 : Int) (l0_1 : List S85) (a1 : Int) : Option (Int × List S85 × Bool) :=
  (impl_HeapOk.f k a0_0 l0_1).bind fun t => if t = true then ((impl_copyHeap.f a0_0 l0_1).bind fun b => if impl_Heap_span.idx a1 b.2 0 < 0 then some (b.1, b.2, false) else (slices_Delete_impl_Span_impl_Span.f b.2 (impl_Heap_span.idx a1 b.2 0) (impl_Heap_span.idx a1 b.2 0 + 1)).bind fun y => some (b.1, y, true)) else some (0, [], false)
theorem impl_HeapGive.mono : ∀ a0 a1 a2 k, LeO (impl_HeapGive.f k a0 a1 a2) (impl_HeapGive.f (k + 1) a0 a1 a2) := by
  intro a0 a1 a2 k
  unfold impl_HeapGive.f
  exact LeO.bind (impl_HeapOk.mono _ _ _) (fun _ => LeO.refl _)
set_option maxHeartbeats 4000000 in
set_option maxRecDepth 100000 in
theorem impl_HeapGive.calls (k : Nat) (a0_0 : Int) (A0_1 : Option Addr) (c0_1 : Nat) (l0_1 : List (S85)) (a1 : Int) (r1 : Int) (r2 : List (S85)) (r3 : Bool) (w : World) (hr0_1 : Kd.C k85 w A0_1 l0_1.length l0_1) (hc0_1 : l0_1.length ≤ c0_1) (h : impl_HeapGive.f k a0_0 l0_1 a1 = some (r1, r2, r3)) :
    Calls Try.prog 24 #[.agg #[.int .i64 a0_0, .slice A0_1 l0_1.length c0_1], .int .i64 a1] w fun e w' => ∃ v1_ : Value, e = .returned (.tuple #[.agg #[.int .i64 r1, v1_], .bool r3]) ∧ Kd.R k85 85 w' w.heap.size (fun _ => True) v1_ r2 ∧ Below w.heap.size w w' := by
  have hu29 := Try.underlying29
  unfold impl_HeapGive.f at h
  have h0_ := h
  obtain ⟨t, hOk, h⟩ := Option.bind_eq_some_iff.mp h0_
  have hOk := Aside0.mk hOk
  clear h0_
  have hC := Aside0.mk hr0_1
  clear hr0_1
  cases t with
  | false =>
    rw [if_neg (by simp)] at h
    simp only [Option.some.injEq, Prod.mk.injEq] at h
    obtain ⟨rfl, rfl, rfl⟩ := h
    go_enter Try.func24, Try.ntmps24
    go_wp2_with (first
      | ((with_reducible refine gate_dst (N := 2) rfl ?_); refine box_event ?hg (N := 2) ?hd (cs := #[.int .i64 a0_0, .slice A0_1 l0_1.length c0_1]) (t := 29) ?hr ?_; (case hd => rfl); (case hg => rfl); (case hr => first | (go_simp; done) | (go_simp; rfl)); intro gb hg_ w3 hb_ hB_; have hbb := Aside0.mk hb_; have hB3 := Aside0.mk hB_; have hgb := Aside0.mk (show w.heap.size ≤ gb from Nat.le_of_eq hg_.symm); clear hg_ hb_ hB_)
      | ((with_reducible refine gate_dst (N := 4) rfl ?_); refine box_event ?hg (N := 4) ?hd (cs := #[.int .i64 0, .slice none 0 0]) (t := 29) ?hr ?_; (case hd => rfl); (case hg => rfl); (case hr => first | (go_simp; done) | (go_simp; rfl)); intro gr hg_ w4 hb_ hB_; have hne := Aside0.mk (show gb ≠ gr from by have := blk_lt hbb.out; omega); have hgr := Aside0.mk (show w.heap.size ≤ gr from by have := hB3.out.size; omega); have hbb4 := Aside0.mk (blk_below hbb.out hB_); clear hbb; have hbb := hbb4; clear hbb4; have hB4 := Aside0.mk (below_step hB3.out hB_); have hbr := Aside0.mk hb_; clear hg_ hb_ hB_ hB3; have hz0 : w4.cell? ⟨gb, 0, none⟩ = some (.int .i64 a0_0) := (blk_cell hbb.out 0).trans rfl; have hz1 : w4.cell? ⟨gb, 1, none⟩ = some (.slice A0_1 l0_1.length c0_1) := (blk_cell hbb.out 1).trans rfl)
      | (go_at_call 18; (with_reducible refine (impl_HeapOk.calls k a0_0 _ _ l0_1 false _ ?s1 hc0_1 hOk.out).mono ?_); (case s1 => exact Kd.C_below hC.out hB4.out); rintro e w5 ⟨rfl, hB_⟩; clear hz0 hz1; have n1 := Aside0.mk (blk_below hbb.out hB_); have n2 := Aside0.mk (blk_below hbr.out hB_); clear hbb hbr; have hbb := n1; have hbr := n2; have hB5 := Aside0.mk (below_step hB4.out hB_); clear hB_ n1 n2 hB4; have hz0 : w5.cell? ⟨gb, 0, none⟩ = some (.int .i64 a0_0) := (blk_cell hbb.out 0).trans rfl; have hz1 : w5.cell? ⟨gb, 1, none⟩ = some (.slice A0_1 l0_1.length c0_1) := (blk_cell hbb.out 1).trans rfl; have hr0 : w5.cell? ⟨gr, 0, none⟩ = some (.int .i64 0) := (blk_cell hbr.out 0).trans rfl; have hr1 : w5.cell? ⟨gr, 1, none⟩ = some (.slice none 0 0) := (blk_cell hbr.out 1).trans rfl; have hf0 := blk_frozen hbr.out 0; have hf1 := blk_frozen hbr.out 1))
    refine bodyPost_ret (results_ct rfl _ _ gr 29 #[.int .i64 0, .slice none 0 0] (0, 0) _ rfl (by refine blk_put (cs := #[.int .i64 0, .slice none 0 0]) ?_ 1 _ rfl; refine blk_put (cs := #[.int .i64 0, .slice none 0 0]) ?_ 0 _ rfl; exact hbr.out) Try.underlying29 rfl (by kernel_rfl)) rfl ?_
    exact ⟨_, rfl, Kd.R_nil _ _ _ _ _, below_set (below_set hB5.out hgr.out) hgr.out⟩
  | true =>
    rw [if_pos rfl] at h
    obtain ⟨⟨b1, b2⟩, hcp, h⟩ := Option.bind_eq_some_iff.mp h
    have hcp := Aside0.mk hcp
    dsimp only at h
    have H := Aside0.mk h
    clear h
    go_enter Try.func24, Try.ntmps24
    go_upto_region 4 with (first
      | ((with_reducible refine gate_dst (N := 2) rfl ?_); refine box_event ?hg (N := 2) ?hd (cs := #[.int .i64 a0_0, .slice A0_1 l0_1.length c0_1]) (t := 29) ?hr ?_; (case hd => rfl); (case hg => rfl); (case hr => first | (go_simp; done) | (go_simp; rfl)); intro gb hg_ w3 hb_ hB_; have hbb := Aside0.mk hb_; have hB3 := Aside0.mk hB_; have hgb := Aside0.mk (show w.heap.size ≤ gb from Nat.le_of_eq hg_.symm); clear hg_ hb_ hB_)
      | ((with_reducible refine gate_dst (N := 4) rfl ?_); refine box_event ?hg (N := 4) ?hd (cs := #[.int .i64 0, .slice none 0 0]) (t := 29) ?hr ?_; (case hd => rfl); (case hg => rfl); (case hr => first | (go_simp; done) | (go_simp; rfl)); intro gr hg_ w4 hb_ hB_; have hne := Aside0.mk (show gb ≠ gr from by have := blk_lt hbb.out; omega); have hgr := Aside0.mk (show w.heap.size ≤ gr from by have := hB3.out.size; omega); have hbb4 := Aside0.mk (blk_below hbb.out hB_); clear hbb; have hbb := hbb4; clear hbb4; have hB4 := Aside0.mk (below_step hB3.out hB_); have hbr := Aside0.mk hb_; clear hg_ hb_ hB_ hB3; have hz0 : w4.cell? ⟨gb, 0, none⟩ = some (.int .i64 a0_0) := (blk_cell hbb.out 0).trans rfl; have hz1 : w4.cell? ⟨gb, 1, none⟩ = some (.slice A0_1 l0_1.length c0_1) := (blk_cell hbb.out 1).trans rfl)
      | (go_at_call 18; (with_reducible refine (impl_HeapOk.calls k a0_0 _ _ l0_1 true _ ?s1 hc0_1 hOk.out).mono ?_); (case s1 => exact Kd.C_below hC.out hB4.out); rintro e w5 ⟨rfl, hB_⟩; clear hz0 hz1; have n1 := Aside0.mk (blk_below hbb.out hB_); have n2 := Aside0.mk (blk_below hbr.out hB_); clear hbb hbr; have hbb := n1; have hbr := n2; have hB5 := Aside0.mk (below_step hB4.out hB_); clear hB_ n1 n2 hB4; have hz0 : w5.cell? ⟨gb, 0, none⟩ = some (.int .i64 a0_0) := (blk_cell hbb.out 0).trans rfl; have hz1 : w5.cell? ⟨gb, 1, none⟩ = some (.slice A0_1 l0_1.length c0_1) := (blk_cell hbb.out 1).trans rfl; have hr0 : w5.cell? ⟨gr, 0, none⟩ = some (.int .i64 0) := (blk_cell hbr.out 0).trans rfl; have hr1 : w5.cell? ⟨gr, 1, none⟩ = some (.slice none 0 0) := (blk_cell hbr.out 1).trans rfl; have hf0 := blk_frozen hbr.out 0; have hf1 := blk_frozen hbr.out 1; have hq0 := blk_frozen hbb.out 0; have hq1 := blk_frozen hbb.out 1)
      | (go_at_call 59; (with_reducible refine (impl_copyHeap.calls a0_0 _ _ l0_1 b1 b2 _ ?s1 hc0_1 hcp.out).mono ?_); (case s1 => exact Kd.C_below hC.out hB5.out); rintro e w6 ⟨v, rfl, ho_, hB_⟩; clear hz0 hz1 hr0 hr1 hf0 hf1 hq0 hq1; have HO := Aside0.mk (Kd.R_lower ho_ hB5.out.size); have n1 := Aside0.mk (blk_below hbb.out hB_); have n2 := Aside0.mk (blk_below hbr.out hB_); clear hbb hbr; have hbb := n1; have hbr := n2; have hB6 := Aside0.mk (below_step hB5.out hB_); clear ho_ hB_ n1 n2 hB5; obtain ⟨A7, c7, e7⟩ := Kd.R_slice HO.out; subst e7; have hz0 : w6.cell? ⟨gb, 0, none⟩ = some (.int .i64 a0_0) := (blk_cell hbb.out 0).trans rfl; have hz1 : w6.cell? ⟨gb, 1, none⟩ = some (.slice A0_1 l0_1.length c0_1) := (blk_cell hbb.out 1).trans rfl; have hr0 : w6.cell? ⟨gr, 0, none⟩ = some (.int .i64 0) := (blk_cell hbr.out 0).trans rfl; have hr1 : w6.cell? ⟨gr, 1, none⟩ = some (.slice none 0 0) := (blk_cell hbr.out 1).trans rfl; have hf0 := blk_frozen hbr.out 0; have hf1 := blk_frozen hbr.out 1; have hq0 := blk_frozen hbb.out 0; have hq1 := blk_frozen hbb.out 1))
    have hne2 : gr ≠ gb := fun e => hne.out e.symm
    have n1 : Aside0 (((w6.setCell ⟨gb, 0, none⟩ (.int .i64 b1)).setCell ⟨gb, 1, none⟩ (.slice A7 b2.length c7)).heap[gb]? = some (.cells #[.int .i64 b1, .slice A7 b2.length c7] 29 (0, 0))) := ⟨by refine blk_put (cs := #[.int .i64 b1, .slice A0_1 l0_1.length c0_1]) ?_ 1 _ rfl; refine blk_put (cs := #[.int .i64 a0_0, .slice A0_1 l0_1.length c0_1]) ?_ 0 _ rfl; exact hbb.out⟩
    have n2 : Aside0 (((w6.setCell ⟨gb, 0, none⟩ (.int .i64 b1)).setCell ⟨gb, 1, none⟩ (.slice A7 b2.length c7)).heap[gr]? = some (.cells #[.int .i64 0, .slice none 0 0] 29 (0, 0))) := ⟨blk_far (blk_far hbr.out hne2 _) hne2 _⟩
    have n3 : Aside0 (Kd.R k85 85 ((w6.setCell ⟨gb, 0, none⟩ (.int .i64 b1)).setCell ⟨gb, 1, none⟩ (.slice A7 b2.length c7)) w.heap.size (fun _ => True) (.slice A7 b2.length c7) b2) := ⟨Kd.R_mono (Kd.R_far (p := ⟨gb, 1, none⟩) (Kd.R_far (p := ⟨gb, 0, none⟩) (Kd.R_types HO.out hbb.out (by decide)) (fun _ hk => hk.2) _) (fun _ hk => hk.2) _) (fun _ _ => trivial)⟩
    have n4 : Aside0 (Below w.heap.size w ((w6.setCell ⟨gb, 0, none⟩ (.int .i64 b1)).setCell ⟨gb, 1, none⟩ (.slice A7 b2.length c7))) := ⟨below_set (below_set hB6.out hgb.out) hgb.out⟩
    clear hbb hbr HO hB6 hz0 hz1 hr0 hr1 hf0 hf1 hq0 hq1
    generalize ((w6.setCell ⟨gb, 0, none⟩ (.int .i64 b1)).setCell ⟨gb, 1, none⟩ (.slice A7 b2.length c7)) = w7 at n1 n2 n3 n4 ⊢
    have hbb := n1
    have hbr := n2
    have HO := n3
    have hB7 := n4
    clear n1 n2 n3 n4
    obtain ⟨ix, hix⟩ : ∃ ix, Aside0 (impl_Heap_span.idx a1 b2 0 = ix) := ⟨_, ⟨rfl⟩⟩
    have H1 := H.out
    rw [hix.out] at H1
    by_cases hlt : ix < 0
    · rw [if_pos hlt] at H1
      simp only [Option.some.injEq, Prod.mk.injEq] at H1
      obtain ⟨rfl, rfl, rfl⟩ := H1
      clear H
      go_wp2_with (first | (go_at_call 60; (with_reducible refine (impl_Heap_span.calls gb b1 _ _ _ _ b2 a1 _ hbb.out HO.out).mono ?_); rintro e w8 ⟨rfl, hB_⟩; rw [hix.out]; have n1 := Aside0.mk (blk_below hbb.out hB_); have n2 := Aside0.mk (blk_below hbr.out hB_); have n3 := Aside0.mk (Kd.R_below HO.out hB_); have n4 := Aside0.mk (below_step hB7.out hB_); clear hbb hbr HO hB7 hB_; have hbb := n1; have hbr := n2; have HO := n3; have hB8 := n4; clear n1 n2 n3 n4; have hz0 : w8.cell? ⟨gb, 0, none⟩ = some (.int .i64 b1) := (blk_cell hbb.out 0).trans rfl; have hz1 : w8.cell? ⟨gb, 1, none⟩ = some (.slice A7 b2.length c7) := (blk_cell hbb.out 1).trans rfl; have hr0 : w8.cell? ⟨gr, 0, none⟩ = some (.int .i64 0) := (blk_cell hbr.out 0).trans rfl; have hr1 : w8.cell? ⟨gr, 1, none⟩ = some (.slice none 0 0) := (blk_cell hbr.out 1).trans rfl; have hf0 := blk_frozen hbr.out 0; have hf1 := blk_frozen hbr.out 1; have hq0 := blk_frozen hbb.out 0; have hq1 := blk_frozen hbb.out 1))
      refine bodyPost_ret (results_ct rfl _ _ gr 29 #[.int .i64 b1, .slice A7 b2.length c7] (0, 0) _ rfl (by refine blk_put (cs := #[.int .i64 b1, .slice none 0 0]) ?_ 1 _ rfl; refine blk_put (cs := #[.int .i64 0, .slice none 0 0]) ?_ 0 _ rfl; exact hbr.out) Try.underlying29 rfl (by kernel_rfl)) rfl ?_
      exact ⟨_, rfl, Kd.R_mono (Kd.R_far (p := ⟨gr, 1, none⟩) (Kd.R_far (p := ⟨gr, 0, none⟩) (Kd.R_types HO.out hbr.out (by decide)) (fun _ hk => hk.2) _) (fun _ hk => hk.2) _) (fun _ _ => trivial), below_set (below_set hB8.out hgr.out) hgr.out⟩
    · rw [if_neg hlt] at H1
      obtain ⟨y, hdel, H2⟩ := Option.bind_eq_some_iff.mp H1
      simp only [Option.some.injEq, Prod.mk.injEq] at H2
      obtain ⟨rfl, rfl, rfl⟩ := H2
      have hdel := Aside0.mk hdel
      have hwr : IntKind.i64.wrap (ix + 1) = ix + 1 := by
        have h1 := hdel.out
        unfold slices_Delete_impl_Span_impl_Span.f at h1
        by_cases hc : 0 ≤ ix ∧ ix + 1 = ix + 1 ∧ ix < b2.length
        · have h2 := (Kd.R_reads' HO.out).2.1
          have h3 : c7 ≤ maxLen := by
            obtain ⟨hok, inner, hown, hr⟩ := HO.out
            rcases hown.2 with ⟨hv, hx⟩ | ⟨g', cap', cur, hv, hb, hh, hl, hcm, hcs, htake⟩
            · injection hv with _ _ hc2; omega
            · injection hv with _ _ hc2; omega
          have h4 : maxLen = 9223372036854775807 := rfl
          rw [IntKind.wrap_i64]
          omega
        · rw [if_neg hc] at h1; cases h1
      clear H H1
      go_wp2_with (first | (go_at_call 60; (with_reducible refine (impl_Heap_span.calls gb b1 _ _ _ _ b2 a1 _ hbb.out HO.out).mono ?_); rintro e w8 ⟨rfl, hB_⟩; rw [hix.out]; have n1 := Aside0.mk (blk_below hbb.out hB_); have n2 := Aside0.mk (blk_below hbr.out hB_); have n3 := Aside0.mk (Kd.R_below HO.out hB_); have n4 := Aside0.mk (below_step hB7.out hB_); clear hbb hbr HO hB7 hB_; have hbb := n1; have hbr := n2; have HO := n3; have hB8 := n4; clear n1 n2 n3 n4; have hz0 : w8.cell? ⟨gb, 0, none⟩ = some (.int .i64 b1) := (blk_cell hbb.out 0).trans rfl; have hz1 : w8.cell? ⟨gb, 1, none⟩ = some (.slice A7 b2.length c7) := (blk_cell hbb.out 1).trans rfl; have hr0 : w8.cell? ⟨gr, 0, none⟩ = some (.int .i64 0) := (blk_cell hbr.out 0).trans rfl; have hr1 : w8.cell? ⟨gr, 1, none⟩ = some (.slice none 0 0) := (blk_cell hbr.out 1).trans rfl; have hf0 := blk_frozen hbr.out 0; have hf1 := blk_frozen hbr.out 1; have hq0 := blk_frozen hbb.out 0; have hq1 := blk_frozen hbb.out 1) | (go_at_call 61; (with_reducible refine (slices_Delete_impl_Span_impl_Span.calls (fun k_ => some k_ = (.slice A7 b2.length c7 : Value).ownBlock) _ b2 ix (ix + 1) y w _ hB8.out (Kd.R_tight rfl HO.out) hdel.out).mono ?_); rintro e w9 ⟨v9, rfl, ho_, hB_, hK_⟩; clear hz0 hz1 hr0 hr1 hf0 hf1 hq0 hq1; have n1 := Aside0.mk (blk_kept hbb.out hK_ (fun hs_ => (Kd.R_ne HO.out hbb.out (by decide)) hs_)); have n2 := Aside0.mk (blk_kept hbr.out hK_ (fun hs_ => (Kd.R_ne HO.out hbr.out (by decide)) hs_)); clear hbb hbr; have hbb := n1; have hbr := n2; have HO9 := Aside0.mk (Kd.R_mono (ok' := fun _ => True) ho_ (fun _ _ => trivial)); have hB9 := Aside0.mk hB_; clear ho_ hB_ hK_ n1 n2 HO hB8; obtain ⟨A9, c9, e9⟩ := Kd.R_slice HO9.out; subst e9; have hz0 : w9.cell? ⟨gb, 0, none⟩ = some (.int .i64 b1) := (blk_cell hbb.out 0).trans rfl; have hz1 : w9.cell? ⟨gb, 1, none⟩ = some (.slice A7 b2.length c7) := (blk_cell hbb.out 1).trans rfl; have hr0 : w9.cell? ⟨gr, 0, none⟩ = some (.int .i64 0) := (blk_cell hbr.out 0).trans rfl; have hr1 : w9.cell? ⟨gr, 1, none⟩ = some (.slice none 0 0) := (blk_cell hbr.out 1).trans rfl; have hf0 := blk_frozen hbr.out 0; have hf1 := blk_frozen hbr.out 1; have hq0 := blk_frozen hbb.out 0; have hq1 := blk_frozen hbb.out 1))
      refine bodyPost_ret (results_ct rfl _ _ gr 29 #[.int .i64 b1, .slice A9 y.length c9] (0, 0) _ rfl (by refine blk_put (cs := #[.int .i64 b1, .slice none 0 0]) ?_ 1 _ rfl; refine blk_put (cs := #[.int .i64 0, .slice none 0 0]) ?_ 0 _ rfl; exact blk_far hbr.out hne2 _) Try.underlying29 rfl (by kernel_rfl)) rfl ?_
      exact ⟨_, rfl, Kd.R_mono (Kd.R_far (p := ⟨gr, 1, none⟩) (Kd.R_far (p := ⟨gr, 0, none⟩) (Kd.R_types (Kd.R_far (p := ⟨gb, 1, none⟩) (Kd.R_types HO9.out hbb.out (by decide)) (fun _ hk => hk.2) _) (blk_far hbr.out hne2 _) (by decide)) (fun _ hk => hk.2) _) (fun _ hk => hk.2) _) (fun _ _ => trivial), below_set (below_set (below_set hB9.out hgb.out) hgr.out) hgr.out⟩

/-! ### laws_markSpanS: function 62 -/
def laws_markSpanS.l0 : Nat → List (S85) → Int → Int → Option (Int × (List (S85)))
  | 0, _, _, _ => none
  | k + 1, x0, x1, x5 => if x5 < (x0.length : Int) then (if 0 ≤ x5 then ((some (x0.set (x5 : Int).toNat (⟨x1, (rd_T85 x0 x5).f1⟩ : S85) : List (S85))).bind fun y179 => (laws_markSpanS.l0 k (y179.set (x5 : Int).toNat (⟨(rd_T85 y179 x5).f0, wrap64 (x1 + 1)⟩ : S85)) (wrap64 ((wrap64 (x1 + 1)) + 1)) (wrap64 (x5 + 1)))) else (none)) else (some (x1, x0))
def laws_markSpanS.f (k : Nat) (l0 : List (S85)) (a1 : Int) : Option (Int × (List (S85))) := laws_markSpanS.l0 k l0 a1 0
theorem laws_markSpanS.mono_l : ∀ k, (∀ y0 y1 y2, LeO (laws_markSpanS.l0 k y0 y1 y2) (laws_markSpanS.l0 (k + 1) y0 y1 y2))
  | 0 => fun _ _ _ r h => by simp [laws_markSpanS.l0] at h
  | k + 1 => by
    have ih0 := laws_markSpanS.mono_l k
    · intro y0 y1 y2
      unfold laws_markSpanS.l0
      repeat' first
      | (with_reducible exact ih0 _ _ _)
      | (with_reducible exact LeO.refl _)
      | (with_reducible exact LeO.none _)
      | (with_reducible refine LeO.ite ?_ ?_)
      | (with_reducible refine LeO.bind ?_ (fun _ => ?_))
      | exact ih0 _ _ _
      | exact LeO.none _
      | refine LeO.ite ?_ ?_
      | refine LeO.bind ?_ (fun _ => ?_)
theorem laws_markSpanS.mono : ∀ a0 a1 k, LeO (laws_markSpanS.f k a0 a1) (laws_markSpanS.f (k + 1) a0 a1) := by
  intro a0 a1 k
  have ih0 := laws_markSpanS.mono_l k
  unfold laws_markSpanS.f
  repeat' first
      | (with_reducible exact ih0 _ _ _)
      | (with_reducible exact LeO.refl _)
      | (with_reducible exact LeO.none _)
      | (with_reducible refine LeO.ite ?_ ?_)
      | (with_reducible refine LeO.bind ?_ (fun _ => ?_))
      | exact ih0 _ _ _
      | exact LeO.none _
      | refine LeO.ite ?_ ?_
      | refine LeO.bind ?_ (fun _ => ?_)
set_option maxHeartbeats 8000000 in
set_option maxRecDepth 100000 in
theorem laws_markSpanS.calls (k : Nat) (P0_ : Nat → Prop) (u9000_ : Value) (l0 : List (S85)) (a1 : Int) (r1 : Int) (r2 : List (S85)) (w0 w : World) (hB : Below w0.heap.size w0 w) (ho0 : Kd.R k85 85 w w0.heap.size P0_ u9000_ l0) (h : laws_markSpanS.f k l0 a1 = some (r1, r2)) :
    Calls Try.prog 62 #[u9000_, .int .i64 a1] w fun e w' => e = .returned (.int .i64 r1) ∧ Kd.R k85 85 w' w0.heap.size (fun k_ => (P0_ k_ ∨ w.heap.size ≤ k_)) u9000_ r2 ∧ Below w0.heap.size w0 w' ∧ Kept w w' (fun k_ => P0_ k_) := by
  have HO0 := Aside0.mk (show Kd.R k85 85 w w0.heap.size (fun k_ => (P0_ k_ ∨ w.heap.size ≤ k_)) u9000_ l0 from Kd.R_mono ho0 (fun k_ hk => (.inl hk)))
  have HK := Aside0.mk (Kept.refl w (fun k_ => P0_ k_))
  have HW0 := Aside0.mk hB.size
  have HB := Aside0.mk hB
  clear hB
  have H : (laws_markSpanS.l0 k l0 a1 0) = some (r1, r2) := h
  clear h
  have H' := Aside0.mk H
  clear H
  go_enter Try.func62, Try.ntmps62
  go_wp2
  go_loopg [1, 5] k (fun kq v1 v5 w' => ∃ (x0_1 : List (S85)) (x1_1 : Int) (x5_1 : Int), v1 = .int .i64 x1_1 ∧ v5 = .int .i64 x5_1 ∧ Aside0 (laws_markSpanS.l0 kq x0_1 x1_1 x5_1 = some (r1, r2)) ∧ Aside0 (kq ≤ k) ∧ Aside0 (Kd.R k85 85 w' w0.heap.size (fun k_ => (P0_ k_ ∨ w.heap.size ≤ k_)) u9000_ x0_1) ∧ Aside0 (Kept w w' (fun k_ => P0_ k_)) ∧ Aside0 (Below w0.heap.size w0 w'))
  case atStart => exact ⟨(l0), (a1), (0), (by first | rfl | exact congrArg (Value.int .i64) (i64_w _) | (simp; done) | (simp [*]; done)), (by first | rfl | exact congrArg (Value.int .i64) (i64_w _) | (simp; done) | (simp [*]; done)), H', ⟨Nat.le_refl _⟩, ⟨by (with_reducible repeat (first | apply Kd.R_alloc | apply Kd.R_drewN | apply Kd.R_drew)); exact HO0.out⟩, ⟨by repeat (first | (with_reducible first | exact HK.out | apply Kept.alloc | apply Kept.drewN | apply Kept.drew) | exact HK.out)⟩, ⟨by repeat (first | (with_reducible first | exact HB.out | apply below_alloc | apply pw_below_drewN | apply below_drew1) | exact HB.out)⟩⟩
  case round =>
    clear H'
    try clear p2
    obtain ⟨x0_1, x1_1, x5_1, rfl, rfl, HA, HK1, HO_0, HK, HB⟩ := hrel
    cases gk with
    | zero => exact absurd HA.out (by simp [laws_markSpanS.l0])
    | succ k1 =>
      have H := HA.out
      clear HA
      simp only [laws_markSpanS.l0] at H
      by_cases c3 : x5_1 < (x0_1.length : Int)
      · rw [if_pos c3] at H
        have c3b0 : decide (x5_1 < (x0_1.length : Int)) = true := decide_eq_true c3
        clear c3
        by_cases c4 : 0 ≤ x5_1
        · rw [if_pos c4] at H
          have c4b0 : decide (0 ≤ x5_1) = true := decide_eq_true c4
          clear c4
          obtain ⟨y179, hy179⟩ : ∃ y_ : List (S85), y_ = (x0_1.set (x5_1 : Int).toNat (⟨x1_1, (rd_T85 x0_1 x5_1).f1⟩ : S85)) := ⟨_, rfl⟩
          replace H : (laws_markSpanS.l0 k1 (y179.set (x5_1 : Int).toNat (⟨(rd_T85 y179 x5_1).f0, wrap64 (x1_1 + 1)⟩ : S85)) (wrap64 ((wrap64 (x1_1 + 1)) + 1)) (wrap64 (x5_1 + 1))) = some (r1, r2) := by first | (rw [hy179]; with_reducible exact H) | (have H2_ := (Option.bind_some _ _).symm.trans H; rw [hy179]; with_reducible exact H2_) | (have H2_ := (Option.bind_some _ _).symm.trans H; with_reducible exact H2_) | with_reducible exact H | (rw [hy179]; exact H) | exact H
          have Ny179 := Aside0.mk hy179
          clear hy179
          obtain ⟨y180, hy180⟩ : ∃ y_ : List (S85), y_ = (y179.set (x5_1 : Int).toNat (⟨(rd_T85 y179 x5_1).f0, wrap64 (x1_1 + 1)⟩ : S85)) := ⟨_, rfl⟩
          replace H : (laws_markSpanS.l0 k1 y180 (wrap64 ((wrap64 (x1_1 + 1)) + 1)) (wrap64 (x5_1 + 1))) = some (r1, r2) := by first | (rw [hy180]; with_reducible exact H) | (have H2_ := (Option.bind_some _ _).symm.trans H; rw [hy180]; with_reducible exact H2_) | (have H2_ := (Option.bind_some _ _).symm.trans H; with_reducible exact H2_) | with_reducible exact H | (rw [hy180]; exact H) | exact H
          have Ny180 := Aside0.mk hy180
          clear hy180
          have H' := Aside0.mk H
          clear H
          obtain ⟨Ao7, co7, eo7⟩ := Kd.R_slice HO_0.out
          subst eo7
          have p5 : 0 ≤ (x5_1 : Int) := of_decide_eq_true (by first | (with_reducible assumption) | assumption)
          have q5 : (x5_1 : Int) < ((x0_1.length : Int) : Int) := of_decide_eq_true (by first | (with_reducible assumption) | assumption)
          obtain ⟨go5, co5, eo5, gb5, gl5, cl5, HG5⟩ := Kd.R_form HO_0.out (by omega)
          (first | cases eo5 | (injection eo5 with ea_ en_ ec_; (first | subst ea_ | (injection ea_ with ea_; subst ea_)); subst ec_; clear en_))
          have GB5 := Aside0.mk gb5
          have GG5 := Aside0.mk HG5
          clear gb5 gl5 HG5
          have HMgo5 := Aside0.mk (show (P0_ go5 ∨ w.heap.size ≤ go5) from (HO_0.out.1 _ rfl))
          obtain ⟨ce5, hcl5, hM5, hcc5, hfr5⟩ := Kd.R_elem HO_0.out z85 (x5_1 : Int) p5 q5
          obtain rfl := k85_openM hM5
          have hx5_0 : wr.cell? ⟨go5, (x5_1 : Int).toNat * 2, none⟩ = some (.int .i64 ((rd_T85 x0_1 x5_1).f0)) := hcc5 0 _ rfl
          have hx5_1 : wr.cell? ⟨go5, (x5_1 : Int).toNat * 2 + 1, none⟩ = some (.int .i64 ((rd_T85 x0_1 x5_1).f1)) := hcc5 1 _ rfl
          have hf5_0 : wr.frozen? ⟨go5, (x5_1 : Int).toNat * 2, none⟩ = false := hfr5 0
          have hf5_1 : wr.frozen? ⟨go5, (x5_1 : Int).toNat * 2 + 1, none⟩ = false := hfr5 1
          clear hcl5 hcc5 hfr5 hM5
          replace p5 := eq_true p5
          replace q5 := eq_true q5
          have HX8 := Aside0.mk (show Kd.R k85 85 wr w0.heap.size (fun k_ => (P0_ k_ ∨ w.heap.size ≤ k_)) (.slice (some ⟨go5, 0, none⟩) x0_1.length co7) x0_1 from (by (with_reducible repeat (first | apply Kd.R_alloc | apply Kd.R_drewN | apply Kd.R_drew)); exact HO_0.out))
          obtain ⟨ce8, hcl8, hM8, hcc8, hfr8⟩ := Kd.R_elem HX8.out z85 (x5_1 : Int) (of_decide_eq_true (by first | (with_reducible assumption) | assumption)) (by have h_ : (x5_1 : Int) < ((x0_1.length : Int) : Int) := of_decide_eq_true (by first | (with_reducible assumption) | assumption); first | exact h_ | (have e_ := (Kd.R_reads' HO_0.out).1; omega) | simpa using h_)
          obtain rfl := k85_openM hM8
          have HP8 := Kd.R_seg HX8.out (x5_1 : Int) (of_decide_eq_true (by first | (with_reducible assumption) | assumption)) (by have h_ : (x5_1 : Int) < ((x0_1.length : Int) : Int) := of_decide_eq_true (by first | (with_reducible assumption) | assumption); first | exact h_ | (have e_ := (Kd.R_reads' HO_0.out).1; omega) | simpa using h_) (seg := [.int .i64 x1_1]) (j := 0) hcl8 hcc8 (show 1 ≤ 2 from by decide) (x' := (⟨x1_1, (rd_T85 x0_1 x5_1).f1⟩ : S85)) (k85_mkM _ _ _ (⟨x1_1, (rd_T85 x0_1 x5_1).f1⟩ : S85) ) (fun _ hk => hk)
          have hx8_0 := hcc8 0 _ rfl
          (try simp only [show (k85).sz = 2 from rfl, Nat.mul_one, Nat.add_zero] at hx8_0)
          have hf8_0 := hfr8 0
          (try simp only [show (k85).sz = 2 from rfl, Nat.mul_one, Nat.add_zero] at hf8_0)
          clear hcl8 hcc8 hfr8 hM8
          go_wp2_with (first | ((with_reducible refine gate_store (t := 2) (p := 16) rfl ?_); refine store_event (t := 2) (p := 16) (v := ?vo_w9) (w1 := (wr.setCell ⟨go5, (x5_1 : Int).toNat * 2, none⟩ (.int .i64 x1_1))) ?hg ?ho ?hn ?hr ?_; (case ho => rfl); (case hg => rfl); (case hn => rfl); (case hr => first | (go_simp; done) | (go_simp; rfl)); intro w9 hw; have hg : wr.grownBy w9 (some go5) := (by rw [hw]; exact HP8.2); have hp_ : Kd.R k85 85 w9 w0.heap.size (fun k_ => (P0_ k_ ∨ w.heap.size ≤ k_)) (.slice (some ⟨go5, 0, none⟩) x0_1.length co7) y179 := (by rw [hw, Ny179.out]; exact HP8.1); clear HP8; have n0_ := Aside0.mk (hp_); have n1_ := Aside0.mk ((by rw [hw]; exact below_set (HB.out) GB5.out : Below w0.heap.size w0 w9)); have n2_ := Aside0.mk (Kept.of_grown (S := (fun k_ => P0_ k_)) hg (by repeat (first | (with_reducible first | exact HK.out | apply Kept.alloc | apply Kept.drewN | apply Kept.drew) | exact HK.out)) (fun k_ e_ => (HO_0.out.1 k_ e_))); clear HO_0; clear HB; clear HK; have HO_0 := n0_; have HB := n1_; have HK := n2_; clear n0_ n1_ n2_; clear hg hw hp_; have p6 : 0 ≤ (x5_1 : Int) := of_decide_eq_true (by first | (with_reducible assumption) | assumption); have q6 : (x5_1 : Int) < ((x0_1.length : Int) : Int) := of_decide_eq_true (by first | (with_reducible assumption) | assumption); obtain ⟨ce6, hcl6, hM6, hcc6, hfr6⟩ := Kd.R_elem HO_0.out z85 (x5_1 : Int) p6 q6; obtain rfl := k85_openM hM6; have hx6_0 : w9.cell? ⟨go5, (x5_1 : Int).toNat * 2, none⟩ = some (.int .i64 ((rd_T85 y179 x5_1).f0)) := hcc6 0 _ rfl; have hx6_1 : w9.cell? ⟨go5, (x5_1 : Int).toNat * 2 + 1, none⟩ = some (.int .i64 ((rd_T85 y179 x5_1).f1)) := hcc6 1 _ rfl; have hf6_0 : w9.frozen? ⟨go5, (x5_1 : Int).toNat * 2, none⟩ = false := hfr6 0; have hf6_1 : w9.frozen? ⟨go5, (x5_1 : Int).toNat * 2 + 1, none⟩ = false := hfr6 1; clear hcl6 hcc6 hfr6 hM6; replace p6 := eq_true p6; replace q6 := eq_true q6; have HX10 := Aside0.mk (show Kd.R k85 85 w9 w0.heap.size (fun k_ => (P0_ k_ ∨ w.heap.size ≤ k_)) (.slice (some ⟨go5, 0, none⟩) x0_1.length co7) y179 from (by (with_reducible repeat (first | apply Kd.R_alloc | apply Kd.R_drewN | apply Kd.R_drew)); exact HO_0.out)); obtain ⟨ce10, hcl10, hM10, hcc10, hfr10⟩ := Kd.R_elem HX10.out z85 (x5_1 : Int) (of_decide_eq_true (by first | (with_reducible assumption) | assumption)) (by have h_ : (x5_1 : Int) < ((x0_1.length : Int) : Int) := of_decide_eq_true (by first | (with_reducible assumption) | assumption); first | exact h_ | (have e_ := (Kd.R_reads' HO_0.out).1; omega) | simpa using h_); obtain rfl := k85_openM hM10; have HP10 := Kd.R_seg HX10.out (x5_1 : Int) (of_decide_eq_true (by first | (with_reducible assumption) | assumption)) (by have h_ : (x5_1 : Int) < ((x0_1.length : Int) : Int) := of_decide_eq_true (by first | (with_reducible assumption) | assumption); first | exact h_ | (have e_ := (Kd.R_reads' HO_0.out).1; omega) | simpa using h_) (seg := [.int .i64 (wrap64 (x1_1 + 1))]) (j := 1) hcl10 hcc10 (show 2 ≤ 2 from by decide) (x' := (⟨(rd_T85 y179 x5_1).f0, wrap64 (x1_1 + 1)⟩ : S85)) (k85_mkM _ _ _ (⟨(rd_T85 y179 x5_1).f0, wrap64 (x1_1 + 1)⟩ : S85) ) (fun _ hk => hk); have hx10_1 := hcc10 1 _ rfl; (try simp only [show (k85).sz = 2 from rfl, Nat.mul_one, Nat.add_zero] at hx10_1); have hf10_1 := hfr10 1; (try simp only [show (k85).sz = 2 from rfl, Nat.mul_one, Nat.add_zero] at hf10_1); clear hcl10 hcc10 hfr10 hM10) | ((with_reducible refine gate_store (t := 2) (p := 23) rfl ?_); refine store_event (t := 2) (p := 23) (v := ?vo_w11) (w1 := (w9.setCell ⟨go5, (x5_1 : Int).toNat * 2 + 1, none⟩ (.int .i64 (wrap64 (x1_1 + 1))))) ?hg ?ho ?hn ?hr ?_; (case ho => rfl); (case hg => rfl); (case hn => rfl); (case hr => first | (go_simp; done) | (go_simp; rfl)); intro w11 hw; have hg : w9.grownBy w11 (some go5) := (by rw [hw]; exact HP10.2); have hp_ : Kd.R k85 85 w11 w0.heap.size (fun k_ => (P0_ k_ ∨ w.heap.size ≤ k_)) (.slice (some ⟨go5, 0, none⟩) x0_1.length co7) y180 := (by rw [hw, Ny180.out]; exact HP10.1); clear HP10; have n0_ := Aside0.mk (hp_); have n1_ := Aside0.mk ((by rw [hw]; exact below_set (HB.out) GB5.out : Below w0.heap.size w0 w11)); have n2_ := Aside0.mk (Kept.of_grown (S := (fun k_ => P0_ k_)) hg (by repeat (first | (with_reducible first | exact HK.out | apply Kept.alloc | apply Kept.drewN | apply Kept.drew) | exact HK.out)) (fun k_ e_ => (HO_0.out.1 k_ e_))); clear HO_0; clear HB; clear HK; have HO_0 := n0_; have HB := n1_; have HK := n2_; clear n0_ n1_ n2_; clear hg hw hp_))
          go_roundg k1
          case measure => have := HK1.out; omega
          case rel => exact ⟨(y180), (wrap64 ((wrap64 (x1_1 + 1)) + 1)), (wrap64 (x5_1 + 1)), (by first | rfl | exact congrArg (Value.int .i64) (i64_w _) | (simp; done) | (simp [*]; done)), (by first | rfl | exact congrArg (Value.int .i64) (i64_w _) | (simp; done) | (simp [*]; done)), H', ⟨by have := HK1.out; omega⟩, ⟨by (with_reducible repeat (first | apply Kd.R_alloc | apply Kd.R_drewN | apply Kd.R_drew)); exact HO_0.out⟩, ⟨by repeat (first | (with_reducible first | exact HK.out | apply Kept.alloc | apply Kept.drewN | apply Kept.drew) | exact HK.out)⟩, ⟨by repeat (first | (with_reducible first | exact HB.out | apply below_alloc | apply pw_below_drewN | apply below_drew1) | exact HB.out)⟩⟩
        · rw [if_neg c4] at H
          exact absurd H (by simp)
      · rw [if_neg c3] at H
        have c3b0 : decide (x5_1 < (x0_1.length : Int)) = false := decide_eq_false c3
        clear c3
        simp only [Option.some.injEq, Prod.mk.injEq] at H
        obtain ⟨rfl, rfl⟩ := H
        obtain ⟨Ao12, co12, eo12⟩ := Kd.R_slice HO_0.out
        subst eo12
        go_wp2
        go_ret
        exact ⟨by first | rfl | (simp [errW_none, errW_some] <;> rfl) | (simp [*, errW_none, errW_some] <;> rfl), by (with_reducible repeat (first | apply Kd.R_alloc | apply Kd.R_drewN | apply Kd.R_drew)); exact HO_0.out, by repeat (first | (with_reducible first | exact HB.out | apply below_alloc | apply pw_below_drewN | apply below_drew1) | exact HB.out), by repeat (first | (with_reducible first | exact HK.out | apply Kept.alloc | apply Kept.drewN | apply Kept.drew) | exact HK.out)⟩

/-! ### laws_markHeap: function 25 -/
def laws_markHeap.f (k : Nat) (a0_0 : Int) (l0_1 : List (S85)) (a1 : Int) : Option (Int × (List (S85))) := (laws_markSpanS.f k l0_1 a1).bind fun bt182 => (some (bt182.1, bt182.2))
theorem laws_markHeap.mono : ∀ a0 a1 a2 k, LeO (laws_markHeap.f k a0 a1 a2) (laws_markHeap.f (k + 1) a0 a1 a2) := by
  intro a0 a1 a2 k
  unfold laws_markHeap.f
  repeat' first
      | (with_reducible exact laws_markSpanS.mono _ _ _)
      | (with_reducible exact LeO.refl _)
      | (with_reducible exact LeO.none _)
      | (with_reducible refine LeO.ite ?_ ?_)
      | (with_reducible refine LeO.bind ?_ (fun _ => ?_))
      | exact laws_markSpanS.mono _ _ _
      | exact LeO.none _
      | refine LeO.ite ?_ ?_
      | refine LeO.bind ?_ (fun _ => ?_)
set_option maxHeartbeats 8000000 in
set_option maxRecDepth 100000 in
theorem laws_markHeap.calls (k : Nat) (a0_0 : Int) (P0_1_ : Nat → Prop) (u9000_ : Value) (l0_1 : List (S85)) (a1 : Int) (r1 : Int) (r2 : List (S85)) (w0 w : World) (hB : Below w0.heap.size w0 w) (ho0_1 : Kd.R k85 85 w w0.heap.size P0_1_ u9000_ l0_1) (h : laws_markHeap.f k a0_0 l0_1 a1 = some (r1, r2)) :
    Calls Try.prog 25 #[.agg #[.int .i64 a0_0, u9000_], .int .i64 a1] w fun e w' => e = .returned (.int .i64 r1) ∧ Kd.R k85 85 w' w0.heap.size (fun k_ => (P0_1_ k_ ∨ w.heap.size ≤ k_)) u9000_ r2 ∧ Below w0.heap.size w0 w' ∧ Kept w w' (fun k_ => P0_1_ k_) := by
  have hu29 := Try.underlying29
  have HO0_1 := Aside0.mk (show Kd.R k85 85 w w0.heap.size (fun k_ => (P0_1_ k_ ∨ w.heap.size ≤ k_)) u9000_ l0_1 from Kd.R_mono ho0_1 (fun k_ hk => (.inl hk)))
  have HK := Aside0.mk (Kept.refl w (fun k_ => P0_1_ k_))
  have HW0 := Aside0.mk hB.size
  have HB := Aside0.mk hB
  clear hB
  have H : ((laws_markSpanS.f k l0_1 a1).bind fun bt182 => (some (bt182.1, bt182.2))) = some (r1, r2) := h
  clear h
  replace H := Option.bind_eq_some_iff.mp H
  obtain ⟨⟨t182, t183⟩, A30, H⟩ := H
  replace H : (some (t182, t183)) = some (r1, r2) := H
  have A3 := Aside0.mk A30
  clear A30
  simp only [Option.some.injEq, Prod.mk.injEq] at H
  obtain ⟨rfl, rfl⟩ := H
  obtain ⟨Ao4, co4, eo4⟩ := Kd.R_slice HO0_1.out
  subst eo4
  go_enter Try.func25, Try.ntmps25
  go_wp2_with (first | ((with_reducible refine gate_dst (N := 2) rfl ?_); refine box_event ?hg (N := 2) ?hd (cs := #[.int .i64 a0_0, .slice Ao4 l0_1.length co4]) (t := 29) ?hr ?_; (case hd => rfl); (case hg => rfl); (case hr => first | (go_simp; done) | (go_simp; rfl)); intro gb181 hg w5 hbox hb; have n0_ := Aside0.mk (Kd.R_below (by (with_reducible repeat (first | apply Kd.R_alloc | apply Kd.R_drewN | apply Kd.R_drew)); exact HO0_1.out) hb); have n1_ := Aside0.mk (Kept.below (S := (fun k_ => P0_1_ k_)) (by repeat (first | (with_reducible first | exact HK.out | apply Kept.alloc | apply Kept.drewN | apply Kept.drew) | exact HK.out)) hb); have n2_ := Aside0.mk (below_step (by repeat (first | (with_reducible first | exact HB.out | apply below_alloc | apply pw_below_drewN | apply below_drew1) | exact HB.out)) hb); have n3_ := Aside0.mk (hbox); have n4_ := Aside0.mk ((by rw [hg]; exact (by first | exact HK.out.1 | exact (show Kept w _ (fun k_ => P0_1_ k_) from by repeat (first | (with_reducible first | exact HK.out | apply Kept.alloc | apply Kept.drewN | apply Kept.drew) | exact HK.out)).1) : w.heap.size ≤ gb181)); have n5_ := Aside0.mk ((by rw [hg]; exact (below_size (by repeat (first | (with_reducible first | exact HB.out | apply below_alloc | apply pw_below_drewN | apply below_drew1) | exact HB.out))) : w0.heap.size ≤ gb181)); clear HO0_1; clear HK; clear HB; have HO0_1 := n0_; have HK := n1_; have HB := n2_; have BK181 := n3_; have GW181 := n4_; have GE181 := n5_; clear n0_ n1_ n2_ n3_ n4_ n5_; clear hb hbox hg; have hcz6_0 : w5.cell? ⟨gb181, 0, none⟩ = some (.int .i64 a0_0) := (blk_cell BK181.out 0).trans rfl; have hcz6_1 : w5.cell? ⟨gb181, 1, none⟩ = some (.slice Ao4 l0_1.length co4) := (blk_cell BK181.out 1).trans rfl; have hfz6_0 := blk_frozen BK181.out 0; have hfz6_1 := blk_frozen BK181.out 1) | ((with_reducible refine gate_callee (f := 62) rfl ?_); refine goesL_ (some 8) rfl rfl Try.func62 (by kernel_rfl) rfl #[.slice Ao4 l0_1.length co4, .int .i64 a1] rfl (by (try simp only [List.map_toArray, List.map_cons, List.map_nil]); first | done | rfl | (simp only [List.length_drop, List.length_take]; first | done | rfl)) ?_; (with_reducible refine (laws_markSpanS.calls k (fun k_ => some k_ = (.slice Ao4 l0_1.length co4 : Value).ownBlock) (.slice Ao4 l0_1.length co4) l0_1 a1 t182 t183 w0 _ ?side1 ?side2 A3.out).mono ?_); (case side1 => repeat (first | (with_reducible first | exact HB.out | apply below_alloc | apply pw_below_drewN | apply below_drew1 | refine below_set ?_ GE181.out) | exact HB.out)); (case side2 => exact Kd.R_tight rfl HO0_1.out); rintro e w7 ⟨rfl, hy0, hb, hkp⟩; refine ⟨_, rfl, ?_⟩; have n0_ := Aside0.mk (Kd.R_reok rfl hy0 (fun k_ e_ => HO0_1.out.1 k_ e_)); have n1_ := Aside0.mk (blk_kept (by (with_reducible repeat (first | refine blk_drewN ?_ _ | refine blk_drew ?_ | refine blk_alloc ?_ _)); exact BK181.out) hkp (fun hs_ => (fun e_ => (Kd.R_ne HO0_1.out BK181.out (by decide)) e_) hs_)); have n2_ := Aside0.mk (Kept.then_ (S := (fun k_ => P0_1_ k_)) (by repeat (first | (with_reducible first | exact HK.out | apply Kept.alloc | apply Kept.drewN | apply Kept.drew | refine Kept.setCell ?_ (.inr GW181.out) _) | exact HK.out)) hkp (fun k_ hs_ => (fun e_ => (HO0_1.out.1 k_ e_.symm)) hs_)); have n3_ := Aside0.mk (hb); clear HO0_1; clear BK181; clear HK; clear HB; have HO0_1 := n0_; have BK181 := n1_; have HK := n2_; have HB := n3_; clear n0_ n1_ n2_ n3_; (try clear hb); (try clear hkp); (try clear hy0)))
  go_ret
  exact ⟨by first | rfl | (simp [errW_none, errW_some] <;> rfl) | (simp [*, errW_none, errW_some] <;> rfl), by (with_reducible repeat (first | apply Kd.R_alloc | apply Kd.R_drewN | apply Kd.R_drew)); exact HO0_1.out, by repeat (first | (with_reducible first | exact HB.out | apply below_alloc | apply pw_below_drewN | apply below_drew1 | refine below_set ?_ GE181.out) | exact HB.out), by repeat (first | (with_reducible first | exact HK.out | apply Kept.alloc | apply Kept.drewN | apply Kept.drew | refine Kept.setCell ?_ (.inr GW181.out) _) | exact HK.out)⟩

/-! ### laws_heldSpanS: function 63 -/
def laws_heldSpanS.l0 : Nat → List (S85) → Int → Int → Option (Int)
  | 0, _, _, _ => none
  | k + 1, x0, x1, x5 => if x5 < (x0.length : Int) then (if 0 ≤ x5 then (if ((rd_T85 x0 x5).f0) = x1 then (if ((rd_T85 x0 x5).f1) = (wrap64 (x1 + 1)) then (laws_heldSpanS.l0 k x0 (wrap64 ((wrap64 (x1 + 1)) + 1)) (wrap64 (x5 + 1))) else (none)) else (none)) else (none)) else (some x1)
def laws_heldSpanS.f (k : Nat) (l0 : List (S85)) (a1 : Int) : Option (Int) := laws_heldSpanS.l0 k l0 a1 0
theorem laws_heldSpanS.mono_l : ∀ k, (∀ y0 y1 y2, LeO (laws_heldSpanS.l0 k y0 y1 y2) (laws_heldSpanS.l0 (k + 1) y0 y1 y2))
  | 0 => fun _ _ _ r h => by simp [laws_heldSpanS.l0] at h
  | k + 1 => by
    have ih0 := laws_heldSpanS.mono_l k
    · intro y0 y1 y2
      unfold laws_heldSpanS.l0
      repeat' first
      | (with_reducible exact ih0 _ _ _)
      | (with_reducible exact LeO.refl _)
      | (with_reducible exact LeO.none _)
      | (with_reducible refine LeO.ite ?_ ?_)
      | (with_reducible refine LeO.bind ?_ (fun _ => ?_))
      | exact ih0 _ _ _
      | exact LeO.none _
      | refine LeO.ite ?_ ?_
      | refine LeO.bind ?_ (fun _ => ?_)
theorem laws_heldSpanS.mono : ∀ a0 a1 k, LeO (laws_heldSpanS.f k a0 a1) (laws_heldSpanS.f (k + 1) a0 a1) := by
  intro a0 a1 k
  have ih0 := laws_heldSpanS.mono_l k
  unfold laws_heldSpanS.f
  repeat' first
      | (with_reducible exact ih0 _ _ _)
      | (with_reducible exact LeO.refl _)
      | (with_reducible exact LeO.none _)
      | (with_reducible refine LeO.ite ?_ ?_)
      | (with_reducible refine LeO.bind ?_ (fun _ => ?_))
      | exact ih0 _ _ _
      | exact LeO.none _
      | refine LeO.ite ?_ ?_
      | refine LeO.bind ?_ (fun _ => ?_)
set_option maxHeartbeats 8000000 in
set_option maxRecDepth 100000 in
theorem laws_heldSpanS.calls (k : Nat) (A0 : Option Addr) (c0 : Nat) (l0 : List (S85)) (a1 : Int) (r : Int) (w : World) (hr0 : Kd.C k85 w A0 l0.length l0) (hc0 : l0.length ≤ c0) (h : laws_heldSpanS.f k l0 a1 = some r) :
    Calls Try.prog 63 #[.slice A0 l0.length c0, .int .i64 a1] w fun e w' => e = .returned (.int .i64 r) ∧ Drawn0 w w' := by
  have HR0 := Aside0.mk hr0
  have HC0 := Aside0.mk hc0
  clear hr0 hc0
  have H : (laws_heldSpanS.l0 k l0 a1 0) = some r := h
  clear h
  have H' := Aside0.mk H
  clear H
  go_enter Try.func63, Try.ntmps63
  go_wp2
  go_loopg [1, 5] k (fun kq v1 v5 w' => ∃ (x1_1 : Int) (x5_1 : Int), v1 = .int .i64 x1_1 ∧ v5 = .int .i64 x5_1 ∧ Aside0 (laws_heldSpanS.l0 kq l0 x1_1 x5_1 = some r) ∧ Aside0 (kq ≤ k) ∧ Drawn0 w w')
  case atStart => exact ⟨(a1), (0), (by first | rfl | exact congrArg (Value.int .i64) (i64_w _) | (simp; done) | (simp [*]; done)), (by first | rfl | exact congrArg (Value.int .i64) (i64_w _) | (simp; done) | (simp [*]; done)), H', ⟨Nat.le_refl _⟩, by repeat (first | exact Drawn0.refl _ | apply Drawn0.step)⟩
  case round =>
    clear H'
    try clear p2
    obtain ⟨x1_1, x5_1, rfl, rfl, HA, HK1, ⟨m1, rfl⟩⟩ := hrel
    cases gk with
    | zero => exact absurd HA.out (by simp [laws_heldSpanS.l0])
    | succ k1 =>
      have H := HA.out
      clear HA
      simp only [laws_heldSpanS.l0] at H
      by_cases c3 : x5_1 < (l0.length : Int)
      · rw [if_pos c3] at H
        have c3b0 : decide (x5_1 < (l0.length : Int)) = true := decide_eq_true c3
        clear c3
        by_cases c4 : 0 ≤ x5_1
        · rw [if_pos c4] at H
          have c4b0 : decide (0 ≤ x5_1) = true := decide_eq_true c4
          clear c4
          by_cases c5 : ((rd_T85 l0 x5_1).f0) = x1_1
          · rw [if_pos c5] at H
            have c5b0 : (((rd_T85 l0 x5_1).f0) == x1_1) = true := beq_iff_eq.mpr c5
            have c5b1 : (((rd_T85 l0 x5_1).f0) != x1_1) = false := bne_eq_false_iff_eq.mpr c5
            clear c5
            by_cases c6 : ((rd_T85 l0 x5_1).f1) = (wrap64 (x1_1 + 1))
            · rw [if_pos c6] at H
              have c6b0 : (((rd_T85 l0 x5_1).f1) == (wrap64 (x1_1 + 1))) = true := beq_iff_eq.mpr c6
              have c6b1 : (((rd_T85 l0 x5_1).f1) != (wrap64 (x1_1 + 1))) = false := bne_eq_false_iff_eq.mpr c6
              clear c6
              have H' := Aside0.mk H
              clear H
              have p184 : 0 ≤ (x5_1 : Int) := of_decide_eq_true (by first | (with_reducible assumption) | assumption)
              have q184 : x5_1 < (l0.length : Int) := of_decide_eq_true (by first | (with_reducible assumption) | assumption)
              obtain ⟨ad184, e184, hx184_0, hx184_1⟩ := at_T85 HR0.out x5_1 p184 q184
              cases e184
              replace p184 := eq_true p184
              replace q184 := eq_true q184
              have p185 : 0 ≤ (x5_1 : Int) := of_decide_eq_true (by first | (with_reducible assumption) | assumption)
              have q185 : x5_1 < (l0.length : Int) := of_decide_eq_true (by first | (with_reducible assumption) | assumption)
              obtain ⟨ad185, e185, hx185_0, hx185_1⟩ := at_T85 HR0.out x5_1 p185 q185
              obtain rfl : ad184 = ad185 := (by injection e185)
              replace p185 := eq_true p185
              replace q185 := eq_true q185
              go_wp2
              go_roundg k1
              case measure => have := HK1.out; omega
              case rel => exact ⟨(wrap64 ((wrap64 (x1_1 + 1)) + 1)), (wrap64 (x5_1 + 1)), (by first | rfl | exact congrArg (Value.int .i64) (i64_w _) | (simp; done) | (simp [*]; done)), (by first | rfl | exact congrArg (Value.int .i64) (i64_w _) | (simp; done) | (simp [*]; done)), H', ⟨by have := HK1.out; omega⟩, by repeat (first | exact Drawn0.refl _ | apply Drawn0.step)⟩
            · rw [if_neg c6] at H
              exact absurd H (by simp)
          · rw [if_neg c5] at H
            exact absurd H (by simp)
        · rw [if_neg c4] at H
          exact absurd H (by simp)
      · rw [if_neg c3] at H
        have c3b0 : decide (x5_1 < (l0.length : Int)) = false := decide_eq_false c3
        clear c3
        obtain rfl := Option.some.inj H
        go_wp2
        go_ret
        exact ⟨by first | rfl | exact congrArg (Value.int .i64) (i64_w _) | (simp; done) | (simp [*]; done), by repeat (first | exact Drawn0.refl _ | apply Drawn0.step)⟩

/-! ### laws_heldHeap: function 26 -/
def laws_heldHeap.f (k : Nat) (a0_0 : Int) (l0_1 : List (S85)) (a1 : Int) : Option (Int) := (laws_heldSpanS.f k l0_1 a1).bind fun t187 => (if t187 < 0 then (none) else (some t187))
theorem laws_heldHeap.mono : ∀ a0 a1 a2 k, LeO (laws_heldHeap.f k a0 a1 a2) (laws_heldHeap.f (k + 1) a0 a1 a2) := by
  intro a0 a1 a2 k
  unfold laws_heldHeap.f
  repeat' first
      | (with_reducible exact laws_heldSpanS.mono _ _ _)
      | (with_reducible exact LeO.refl _)
      | (with_reducible exact LeO.none _)
      | (with_reducible refine LeO.ite ?_ ?_)
      | (with_reducible refine LeO.bind ?_ (fun _ => ?_))
      | exact laws_heldSpanS.mono _ _ _
      | exact LeO.none _
      | refine LeO.ite ?_ ?_
      | refine LeO.bind ?_ (fun _ => ?_)
set_option maxHeartbeats 8000000 in
set_option maxRecDepth 100000 in
theorem laws_heldHeap.calls (k : Nat) (a0_0 : Int) (A0_1 : Option Addr) (c0_1 : Nat) (l0_1 : List (S85)) (a1 : Int) (r : Int) (w : World) (hr0_1 : Kd.C k85 w A0_1 l0_1.length l0_1) (hc0_1 : l0_1.length ≤ c0_1) (h : laws_heldHeap.f k a0_0 l0_1 a1 = some r) :
    Calls Try.prog 26 #[.agg #[.int .i64 a0_0, .slice A0_1 l0_1.length c0_1], .int .i64 a1] w fun e w' => e = .returned (.int .i64 r) ∧ Below w.heap.size w w' := by
  have hu29 := Try.underlying29
  have HR0_1 := Aside0.mk hr0_1
  have HC0_1 := Aside0.mk hc0_1
  clear hr0_1 hc0_1
  have HB := Aside0.mk (Below.refl w.heap.size w)
  have H : ((laws_heldSpanS.f k l0_1 a1).bind fun t187 => (if t187 < 0 then (none) else (some t187))) = some r := h
  clear h
  replace H := Option.bind_eq_some_iff.mp H
  obtain ⟨t187, A30, H⟩ := H
  replace H : (if t187 < 0 then (none) else (some t187)) = some r := H
  have A3 := Aside0.mk A30
  clear A30
  by_cases c4 : t187 < 0
  · rw [if_pos c4] at H
    exact absurd H (by simp)
  · rw [if_neg c4] at H
    have c4b0 : decide (t187 < 0) = false := decide_eq_false c4
    clear c4
    obtain rfl := Option.some.inj H
    go_enter Try.func26, Try.ntmps26
    go_wp2_with (first | ((with_reducible refine gate_dst (N := 2) rfl ?_); refine box_event ?hg (N := 2) ?hd (cs := #[.int .i64 a0_0, .slice A0_1 l0_1.length c0_1]) (t := 29) ?hr ?_; (case hd => rfl); (case hg => rfl); (case hr => first | (go_simp; done) | (go_simp; rfl)); intro gb186 hg w5 hbox hb; have n0_ := Aside0.mk (below_step (by repeat (first | (with_reducible first | exact HB.out | apply below_alloc | apply pw_below_drewN | apply below_drew1) | exact HB.out)) hb); have n1_ := Aside0.mk (hbox); have n2_ := Aside0.mk ((by rw [hg]; exact (below_size (by repeat (first | (with_reducible first | exact HB.out | apply below_alloc | apply pw_below_drewN | apply below_drew1) | exact HB.out))) : w.heap.size ≤ gb186)); have n3_ := Aside0.mk ((by rw [hg]; exact (below_size (by repeat (first | (with_reducible first | exact HB.out | apply below_alloc | apply pw_below_drewN | apply below_drew1) | exact HB.out))) : w.heap.size ≤ gb186)); clear HB; have HB := n0_; have BK186 := n1_; have GW186 := n2_; have GE186 := n3_; clear n0_ n1_ n2_ n3_; clear hb hbox hg; have hcz6_0 : w5.cell? ⟨gb186, 0, none⟩ = some (.int .i64 a0_0) := (blk_cell BK186.out 0).trans rfl; have hcz6_1 : w5.cell? ⟨gb186, 1, none⟩ = some (.slice A0_1 l0_1.length c0_1) := (blk_cell BK186.out 1).trans rfl; have hfz6_0 := blk_frozen BK186.out 0; have hfz6_1 := blk_frozen BK186.out 1) | ((with_reducible refine gate_callee (f := 63) rfl ?_); refine goesL_ (some 8) rfl rfl Try.func63 (by kernel_rfl) rfl #[.slice A0_1 l0_1.length c0_1, .int .i64 a1] rfl (by (try simp only [List.map_toArray, List.map_cons, List.map_nil]); first | done | rfl | (simp only [List.length_drop, List.length_take]; first | done | rfl)) ?_; (with_reducible refine (laws_heldSpanS.calls k _ _ l0_1 a1 t187 _ ?side1 ?side2 A3.out).mono ?_); (case side1 => repeat (first | exact (Kd.C_below HR0_1.out HB.out) | (with_reducible refine Kd.C_alloc ?_ _) | (with_reducible refine Kd.C_drewN ?_ _) | (with_reducible refine Kd.C_drew ?_))); (case side2 => exact HC0_1.out); rintro e w' ⟨rfl, ⟨nd, rfl⟩⟩; refine ⟨_, rfl, ?_⟩))
    go_ret
    exact ⟨by first | rfl | (simp [errW_none, errW_some] <;> rfl) | (simp [*, errW_none, errW_some] <;> rfl), by repeat (first | (with_reducible first | exact HB.out | apply below_alloc | apply pw_below_drewN | apply below_drew1 | refine below_set ?_ GE186.out) | exact HB.out)⟩

end Go.Proofs.Ytmjdmaomakkhgaa.PFnExactHeapGive
