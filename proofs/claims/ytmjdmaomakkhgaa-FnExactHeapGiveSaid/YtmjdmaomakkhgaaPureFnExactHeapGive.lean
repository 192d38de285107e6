/- For every input that the row lets in, FnExactHeapGive answers true; this text proves the plain law that is left when the machine's side is done. -/
import Derived.Test.YtmjdmaomakkhgaaPFnExactHeapGivex5
import Derived.Test.YtmjdmaomakkhgaaBase
set_option linter.unusedVariables false
set_option linter.unusedSimpArgs false
namespace Go.Proofs.Ytmjdmaomakkhgaa.Pure
open Go.RowKit Go.Proofs.Ytmjdmaomakkhgaa.PFnExactHeapGive Go.Proofs.YtmjdmaomakkhgaaW.PrintWords Go.Proofs.YtmjdmaomakkhgaaW.PrintLast Go.Proofs.YtmjdmaomakkhgaaW.PrintMore Go.Proofs.Ytmjdmaomakkhgaa.Base

def cSpan (x : S122) : S85 := ⟨x.f0, x.f1⟩
theorem laws_toSpanS_l0 (xs : List S122) (hl : xs.length ≤ 4611686018427387904) : ∀ (d i : Nat) (ys : List S85), i + d = xs.length → ys.length = xs.length → (∀ j, j < i → ys[j]? = (xs.map cSpan)[j]?) → Ev (fun k => laws_toSpanS.l0 k xs ys (i : Int)) (xs.map cSpan) := by
  intro d
  induction d with
  | zero =>
    intro i ys h hy he
    refine Ev.step (fun _ => laws_toSpanS.l0.eq_2 ..) (ev_neg (by omega) (ev_ret ?_))
    apply List.ext_getElem?
    intro j
    by_cases hj : j < i
    · exact he j hj
    · rw [List.getElem?_eq_none (by omega), List.getElem?_eq_none (by rw [List.length_map]; omega)]
  | succ d ih =>
    intro i ys h hy he
    have hi : i < xs.length := by omega
    have er : rd_T122 xs (i : Int) = xs[i] := getD_nat _ hi
    refine Ev.step (fun _ => laws_toSpanS.l0.eq_2 ..) (ev_pos (by omega) (ev_pos (by omega) (ev_bind0 rfl (ev_pos (by omega) ?_))))
    rw [w64_succ hi hl, er, Int.toNat_natCast]
    refine ih (i + 1) _ (by omega) (by rw [List.length_set]; exact hy) ?_
    intro j hj
    by_cases hji : j = i
    · subst hji
      rw [List.getElem?_set_self (by omega), List.getElem?_map, List.getElem?_eq_getElem hi]; rfl
    · rw [List.getElem?_set_ne (by omega)]
      exact he j (by omega)
theorem laws_toSpanS_ev {xs : List S122} (hl : xs.length ≤ 1099511627776) : Ev (fun k => laws_toSpanS.f k xs) (xs.map cSpan) := by
  unfold laws_toSpanS.f
  refine ev_pos (by omega) (ev_pos (by omega) ?_)
  exact laws_toSpanS_l0 xs (by omega) xs.length 0 _ (by omega) (by simp) (fun j hj => by omega)
theorem laws_eqSpan_self (a0 a1 : Int) : laws_eqSpan.f a0 a1 a0 a1 = some true := by
  unfold laws_eqSpan.f
  simp
theorem laws_eqSpanS_l0 (xs : List S85) (hl : xs.length ≤ 4611686018427387904) : ∀ (d i : Nat), i + d = xs.length → Ev (fun k => laws_eqSpanS.l0 k xs xs (i : Int)) true := by
  intro d
  induction d with
  | zero =>
    intro i h
    exact Ev.step (fun _ => laws_eqSpanS.l0.eq_2 ..) (ev_neg (by omega) (ev_ret rfl))
  | succ d ih =>
    intro i h
    refine Ev.step (fun _ => laws_eqSpanS.l0.eq_2 ..) (ev_pos (by omega) (ev_pos (by omega) (ev_pos (by omega) (ev_bind0 (laws_eqSpan_self ..) (ev_pos rfl ?_)))))
    rw [w64_succ (n := xs.length) (by omega) hl]
    exact ih (i + 1) (by omega)
theorem laws_eqSpanS_ev {xs : List S85} (hl : xs.length ≤ 1099511627776) : Ev (fun k => laws_eqSpanS.f k xs xs) true := by
  unfold laws_eqSpanS.f
  exact ev_pos rfl (laws_eqSpanS_l0 xs (by omega) xs.length 0 (by omega))
theorem laws_szSpanS_eq {xs : List S122} (hl : xs.length ≤ maxLen) {n : Int} (h0 : 0 ≤ n) (h1 : n ≤ 1048576) : laws_szSpanS.f xs n = some (if n < xs.length then -1 else n - xs.length) := by
  have hl2 := wf_le hl
  unfold laws_szSpanS.f
  rw [w64_id (x := n - (xs.length : Int)) (by omega) (by omega)]
  by_cases h : n < xs.length
  · rw [if_pos (by omega), if_pos h]
  · rw [if_neg (by omega), if_neg h]
theorem laws_toHeap_ev (n : Int) {xs : List S122} (hl : xs.length ≤ 1099511627776) : Ev (fun k => laws_toHeap.f k n xs) (n, xs.map cSpan) := by
  unfold laws_toHeap.f
  exact Ev.bind (laws_toSpanS_ev hl) (ev_ret rfl)
theorem laws_eqHeap_ev (n : Int) {xs : List S85} (hl : xs.length ≤ 1099511627776) : Ev (fun k => laws_eqHeap.f k n xs n xs) true := by
  unfold laws_eqHeap.f
  exact ev_pos rfl (Ev.bind (laws_eqSpanS_ev hl) (ev_pos rfl (ev_ret rfl)))
theorem laws_szHeap_eq (n : Int) {xs : List S122} (hl : xs.length ≤ maxLen) : laws_szHeap.f n xs 1048576 = some (if (1048576 : Int) < xs.length then (-1 : Int) else 1048576 - (xs.length : Int)) := by
  unfold laws_szHeap.f
  rw [laws_szSpanS_eq hl (by omega) (by omega), Option.bind_some]
  by_cases h : (1048576 : Int) < xs.length
  · rw [if_pos h]; rfl
  · rw [if_neg h, if_neg (by omega)]
def heapEnd (e : Int) (s : S85) : Int := wrap64 (s.f0 + s.f1)
def spanBad (size e : Int) (s : S85) : Prop := s.f0 < e ∨ ¬ Int.tmod s.f0 8 = 0 ∨ s.f1 ≤ 0 ∨ ¬ Int.tmod s.f1 8 = 0 ∨ s.f1 > size ∨ s.f0 > size - s.f1
instance (size e : Int) (s : S85) : Decidable (spanBad size e s) := by unfold spanBad; exact inferInstance
def spansOk (size : Int) : Int → List S85 → Bool
  | _, [] => true
  | e, s :: ss => if spanBad size e s then false else spansOk size (wrap64 (s.f0 + s.f1)) ss
def heapOk (size : Int) (l : List S85) : Bool := if size < 0 ∨ size > 65536 ∨ ¬ Int.tmod size 8 = 0 ∨ (l.length : Int) > 512 then false else spansOk size 0 l
theorem spec_HeapOk_l0 (size : Int) (hs0 : 0 ≤ size) (hs1 : size ≤ 65536) (l : List S85) (hl : l.length ≤ 512) : ∀ (d i : Nat) (e : Int), i + d = l.length → 0 ≤ e → Ev (fun k => spec_HeapOk.l0 k e (i : Int) size l) (spansOk size e (l.drop i)) := by
  intro d
  induction d with
  | zero =>
    intro i e h he
    rw [List.drop_eq_nil_of_le (by omega)]
    exact Ev.step (fun _ => spec_HeapOk.l0.eq_2 ..) (ev_neg (by omega) (ev_ret rfl))
  | succ d ih =>
    intro i e h he
    have hi : i < l.length := by omega
    have er : rd_T85 l (i : Int) = l[i] := getD_nat _ hi
    rw [List.drop_eq_getElem_cons hi, spansOk]
    refine Ev.step (fun _ => spec_HeapOk.l0.eq_2 ..) (ev_pos (by omega) (ev_pos (by omega) ?_))
    rw [er, w64_succ hi (by omega)]
    generalize l[i] = s
    by_cases hb : spanBad size e s
    · rw [if_pos hb]
      unfold spanBad at hb
      refine ev_split (fun _ => ev_ret rfl) (fun h1 => ev_split (fun h2 => ev_split (fun _ => ev_ret rfl) (fun h3 => ev_split (fun h4 => ev_split (fun _ => ev_ret rfl) (fun h5 => ?_)) (fun _ => ev_ret rfl))) (fun _ => ev_ret rfl))
      rw [w64_id (x := size - s.f1) (by omega) (by omega)]
      exact ev_pos (by omega) (ev_ret rfl)
    · rw [if_neg hb]
      unfold spanBad at hb
      refine ev_neg (by omega) (ev_pos (by omega) (ev_neg (by omega) (ev_pos (by omega) (ev_neg (by omega) ?_))))
      rw [w64_id (x := size - s.f1) (by omega) (by omega)]
      refine ev_neg (by omega) ?_
      exact ih (i + 1) _ (by omega) (by rw [w64_id (by omega) (by omega)]; omega)
theorem spec_HeapOk_ev (size : Int) (l : List S85) : Ev (fun k => spec_HeapOk.f k size l) (heapOk size l) := by
  unfold spec_HeapOk.f heapOk
  have bad : Ev (fun k => spec_HeapOk.j0 k true size l) false := Ev.step (fun _ => spec_HeapOk.j0.eq_2 ..) (ev_pos rfl (ev_ret rfl))
  by_cases hb : size < 0 ∨ size > 65536 ∨ ¬ Int.tmod size 8 = 0 ∨ (l.length : Int) > 512
  · rw [if_pos hb]
    refine ev_split (fun _ => bad) (fun h1 => ev_split (fun _ => bad) (fun h2 => ev_split (fun h3 => ?_) (fun _ => bad)))
    rw [decide_eq_true (by omega : (l.length : Int) > 512)]
    exact bad
  · rw [if_neg hb]
    refine ev_neg (by omega) (ev_neg (by omega) (ev_pos (by omega) ?_))
    rw [decide_eq_false (by omega : ¬ (l.length : Int) > 512)]
    refine Ev.step (fun _ => spec_HeapOk.j0.eq_2 ..) (ev_neg (by decide) ?_)
    exact spec_HeapOk_l0 size (by omega) (by omega) l (by omega) l.length 0 0 (by omega) (by omega)
theorem impl_HeapOk_l0 (size : Int) (hs0 : 0 ≤ size) (hs1 : size ≤ 65536) (l l' : List S85) (hl : l.length ≤ 512) : ∀ (d i : Nat) (e : Int), i + d = l.length → 0 ≤ e → Ev (fun k => impl_HeapOk.l0 k e l (l.length : Int) (i : Int) size l') (spansOk size e (l.drop i)) := by
  intro d
  induction d with
  | zero =>
    intro i e h he
    rw [List.drop_eq_nil_of_le (by omega)]
    exact Ev.step (fun _ => impl_HeapOk.l0.eq_2 ..) (ev_neg (by omega) (ev_ret rfl))
  | succ d ih =>
    intro i e h he
    have hi : i < l.length := by omega
    have er : rd_T85 l (i : Int) = l[i] := getD_nat _ hi
    rw [List.drop_eq_getElem_cons hi, spansOk]
    refine Ev.step (fun _ => impl_HeapOk.l0.eq_2 ..) (ev_pos (by omega) (ev_pos (by omega) (ev_pos (by omega) ?_)))
    rw [er, w64_succ hi (by omega)]
    generalize l[i] = s
    by_cases hb : spanBad size e s
    · rw [if_pos hb]
      unfold spanBad at hb
      refine ev_split (fun _ => ev_ret rfl) (fun h1 => ev_split (fun h2 => ev_split (fun h3 => ev_split (fun _ => ev_ret rfl) (fun h4 => ev_split (fun _ => ev_ret rfl) (fun h5 => ?_))) (fun _ => ev_ret rfl)) (fun _ => ev_ret rfl))
      rw [w64_id (x := size - s.f0) (by omega) (by omega)]
      exact ev_pos (by omega) (ev_ret rfl)
    · rw [if_neg hb]
      unfold spanBad at hb
      refine ev_neg (by omega) (ev_pos (by omega) (ev_pos (by omega) (ev_neg (by omega) (ev_neg (by omega) ?_))))
      rw [w64_id (x := size - s.f0) (by omega) (by omega)]
      refine ev_neg (by omega) ?_
      exact ih (i + 1) _ (by omega) (by rw [w64_id (by omega) (by omega)]; omega)
theorem impl_HeapOk_ev (size : Int) (l : List S85) : Ev (fun k => impl_HeapOk.f k size l) (heapOk size l) := by
  unfold impl_HeapOk.f heapOk
  have bad : Ev (fun k => impl_HeapOk.j0 k true size l) false := Ev.step (fun _ => impl_HeapOk.j0.eq_2 ..) (ev_pos rfl (ev_ret rfl))
  by_cases hb : size < 0 ∨ size > 65536 ∨ ¬ Int.tmod size 8 = 0 ∨ (l.length : Int) > 512
  · rw [if_pos hb]
    refine ev_split (fun _ => bad) (fun h1 => ev_split (fun _ => bad) (fun h2 => ev_split (fun h3 => ?_) (fun _ => bad)))
    rw [decide_eq_true (by omega : (l.length : Int) > 512)]
    exact bad
  · rw [if_neg hb]
    refine ev_neg (by omega) (ev_neg (by omega) (ev_pos (by omega) ?_))
    rw [decide_eq_false (by omega : ¬ (l.length : Int) > 512)]
    refine Ev.step (fun _ => impl_HeapOk.j0.eq_2 ..) (ev_neg (by decide) ?_)
    exact impl_HeapOk_l0 size (by omega) (by omega) l l (by omega) l.length 0 0 (by omega) (by omega)
def markSp (k : Int) (n : Nat) : List S85 := (List.range n).map fun j : Nat => ⟨k + 2 * (j : Int), k + 2 * (j : Int) + 1⟩
theorem markSp_len (k : Int) (n : Nat) : (markSp k n).length = n := by simp [markSp]
theorem markSp_get (k : Int) {n j : Nat} (h : j < n) : (markSp k n)[j]? = some ⟨k + 2 * (j : Int), k + 2 * (j : Int) + 1⟩ := by
  simp [markSp, List.getElem?_range h]
theorem laws_markSpanS_l0 (n : Nat) (k0 : Int) (hk : 0 ≤ k0) (hk2 : k0 + 2 * n ≤ 4611686018427387904) : ∀ (d i : Nat) (xs : List S85), i + d = n → xs.length = n → (∀ j, j < i → xs[j]? = (markSp k0 n)[j]?) → Ev (fun k => laws_markSpanS.l0 k xs (k0 + 2 * (i : Int)) (i : Int)) (k0 + 2 * (n : Int), markSp k0 n) := by
  intro d
  induction d with
  | zero =>
    intro i xs h hx he
    refine Ev.step (fun _ => laws_markSpanS.l0.eq_2 ..) ?_
    refine ev_neg (by omega) (ev_ret ?_)
    refine Prod.ext (by simp only; omega) ?_
    apply List.ext_getElem?
    intro j
    by_cases hj : j < n
    · exact he j (by omega)
    · rw [List.getElem?_eq_none (show xs.length ≤ j by omega), List.getElem?_eq_none (by rw [markSp_len]; omega)]
  | succ d ih =>
    intro i xs h hx he
    refine Ev.step (fun _ => laws_markSpanS.l0.eq_2 ..) ?_
    have e1 : wrap64 ((i : Int) + 1) = ((i + 1 : Nat) : Int) := by rw [w64_id (by omega) (by omega)]; omega
    have e2 : wrap64 (k0 + 2 * (i : Int) + 1) = k0 + 2 * (i : Int) + 1 := by rw [w64_id (by omega) (by omega)]
    have e3 : wrap64 (k0 + 2 * (i : Int) + 1 + 1) = k0 + 2 * ((i + 1 : Nat) : Int) := by rw [w64_id (by omega) (by omega)]; omega
    refine ev_pos (by omega) (ev_pos (by omega) (Ev.bind (Ev.now _) ?_))
    rw [e1, e2, e3, Int.toNat_natCast]
    have er : rd_T85 (xs.set i (⟨k0 + 2 * (i : Int), (rd_T85 xs (i : Int)).f1⟩ : S85)) (i : Int) = ⟨k0 + 2 * (i : Int), (rd_T85 xs (i : Int)).f1⟩ := getD_set _ _ (by omega)
    rw [er, List.set_set]
    refine ih (i + 1) _ (by omega) (by rw [List.length_set]; exact hx) ?_
    intro j hj
    by_cases hji : j = i
    · subst hji
      rw [List.getElem?_set_self (by omega), markSp_get k0 (by omega)]
    · rw [List.getElem?_set_ne (by omega)]
      exact he j (by omega)
theorem laws_markSpanS_ev (xs : List S85) {k0 : Int} (hk : 0 ≤ k0) (hk2 : k0 + 2 * (xs.length : Int) ≤ 4611686018427387904) : Ev (fun k => laws_markSpanS.f k xs k0) (k0 + 2 * (xs.length : Int), markSp k0 xs.length) := by
  unfold laws_markSpanS.f
  have := laws_markSpanS_l0 xs.length k0 hk hk2 xs.length 0 xs (by omega) rfl (fun j hj => by omega)
  rw [show k0 + 2 * ((0 : Nat) : Int) = k0 by omega] at this
  exact this
theorem laws_heldSpanS_l0 (n : Nat) (k0 : Int) (hk : 0 ≤ k0) (hk2 : k0 + 2 * n ≤ 4611686018427387904) : ∀ (d i : Nat), i + d = n → Ev (fun k => laws_heldSpanS.l0 k (markSp k0 n) (k0 + 2 * (i : Int)) (i : Int)) (k0 + 2 * (n : Int)) := by
  intro d
  induction d with
  | zero =>
    intro i h
    refine Ev.step (fun _ => laws_heldSpanS.l0.eq_2 ..) ?_
    refine ev_neg (by rw [markSp_len]; omega) (ev_ret (by omega))
  | succ d ih =>
    intro i h
    refine Ev.step (fun _ => laws_heldSpanS.l0.eq_2 ..) ?_
    have e1 : wrap64 ((i : Int) + 1) = ((i + 1 : Nat) : Int) := by rw [w64_id (by omega) (by omega)]; omega
    have e2 : wrap64 (k0 + 2 * (i : Int) + 1) = k0 + 2 * (i : Int) + 1 := by rw [w64_id (by omega) (by omega)]
    have e3 : wrap64 (k0 + 2 * (i : Int) + 1 + 1) = k0 + 2 * ((i + 1 : Nat) : Int) := by rw [w64_id (by omega) (by omega)]; omega
    have hl : i < (markSp k0 n).length := by rw [markSp_len]; omega
    have e4 : (markSp k0 n)[i] = ⟨k0 + 2 * (i : Int), k0 + 2 * (i : Int) + 1⟩ := by
      have := markSp_get k0 (n := n) (j := i) (by omega)
      rw [List.getElem?_eq_getElem hl] at this
      exact Option.some.inj this
    have er : rd_T85 (markSp k0 n) (i : Int) = ⟨k0 + 2 * (i : Int), k0 + 2 * (i : Int) + 1⟩ := (getD_nat _ hl).trans e4
    rw [er, e1, e2, e3]
    exact ev_pos (by omega) (ev_pos (by omega) (ev_pos rfl (ev_pos rfl (ih (i + 1) (by omega)))))
theorem laws_heldSpanS_ev (n : Nat) {k0 : Int} (hk : 0 ≤ k0) (hk2 : k0 + 2 * n ≤ 4611686018427387904) : Ev (fun k => laws_heldSpanS.f k (markSp k0 n) k0) (k0 + 2 * (n : Int)) := by
  unfold laws_heldSpanS.f
  have := laws_heldSpanS_l0 n k0 hk hk2 n 0 (by omega)
  rw [show k0 + 2 * ((0 : Nat) : Int) = k0 by omega] at this
  exact this
theorem laws_markHeap_ev (n : Int) {xs : List S85} (hl : xs.length ≤ 1099511627776) : Ev (fun k => laws_markHeap.f k n xs 1) (1 + 2 * (xs.length : Int), markSp 1 xs.length) := by
  unfold laws_markHeap.f
  exact Ev.bind (laws_markSpanS_ev xs (by omega) (by omega)) (ev_ret rfl)
theorem laws_heldHeap_ev (n : Int) {m : Nat} (hl : m ≤ 1099511627776) : Ev (fun k => laws_heldHeap.f k n (markSp 1 m) 1) (1 + 2 * (m : Int)) := by
  unfold laws_heldHeap.f
  exact Ev.bind (laws_heldSpanS_ev m (by omega) (by omega)) (ev_neg (by omega) (ev_ret rfl))
/-- Where the first span that begins at a address lies, or -1. -/
def spanIdx (a : Int) : List S85 → Nat → Int
  | [], _ => -1
  | x :: xs, i => if x.f0 = a then (i : Int) else spanIdx a xs (i + 1)
theorem spanIdx_lt (a : Int) : ∀ (l : List S85) (i : Nat), spanIdx a l i < 0 ∨ ∃ j : Nat, spanIdx a l i = (j : Int) ∧ i ≤ j ∧ j < i + l.length
  | [], i => Or.inl (by rw [spanIdx]; omega)
  | x :: xs, i => by
    rw [spanIdx]
    by_cases h : x.f0 = a
    · rw [if_pos h]; exact Or.inr ⟨i, rfl, by omega, by simp⟩
    · rw [if_neg h]
      rcases spanIdx_lt a xs (i + 1) with h | ⟨j, h1, h2, h3⟩
      · exact Or.inl h
      · exact Or.inr ⟨j, h1, by omega, by simp only [List.length_cons]; omega⟩
theorem spec_l8SpanAt_l0 (size a : Int) (l : List S85) (hl : l.length ≤ 1099511627776) : ∀ (d i : Nat), i + d = l.length → Ev (fun k => spec_l8SpanAt.l0 k a (i : Int) size l) (spanIdx a (l.drop i) i) := by
  intro d
  induction d with
  | zero =>
    intro i h
    rw [List.drop_eq_nil_of_le (by omega), spanIdx]
    exact Ev.step (fun _ => spec_l8SpanAt.l0.eq_2 ..) (ev_neg (by omega) (ev_ret rfl))
  | succ d ih =>
    intro i h
    have hi : i < l.length := by omega
    have er : rd_T85 l (i : Int) = l[i] := getD_nat _ hi
    rw [List.drop_eq_getElem_cons hi, spanIdx]
    refine Ev.step (fun _ => spec_l8SpanAt.l0.eq_2 ..) (ev_pos (by omega) (ev_pos (by omega) ?_))
    rw [er, w64_succ hi (by omega)]
    by_cases hb : l[i].f0 = a
    · rw [if_pos hb]
      exact ev_pos hb (ev_ret rfl)
    · rw [if_neg hb]
      exact ev_neg hb (ih (i + 1) (by omega))
theorem spec_l8SpanAt_ev (size a : Int) {l : List S85} (hl : l.length ≤ 1099511627776) : Ev (fun k => spec_l8SpanAt.f k size l a) (spanIdx a l 0) := by
  unfold spec_l8SpanAt.f
  exact spec_l8SpanAt_l0 size a l hl l.length 0 (by omega)
theorem spec_l8HeapSame_eq (t : Int) {l : List S85} (h : l.length ≤ 1099511627776) : spec_l8HeapSame.f t l = some (t, l) := by
  unfold spec_l8HeapSame.f
  rw [Option.bind_some, if_pos (by simp; omega), List.nil_append]
theorem impl_copyHeap_eq (t : Int) {l : List S85} (h : l.length ≤ 1099511627776) : impl_copyHeap.f t l = some (t, l) := by
  unfold impl_copyHeap.f
  rw [if_pos (by simp; omega), List.nil_append]
theorem spec_l8CutSpan_eq (t : Int) {l : List S85} (h : l.length ≤ 1099511627776) {j : Nat} (hj : j < l.length) : spec_l8CutSpan.f t l (j : Int) = some (t, l.eraseIdx j) := by
  unfold spec_l8CutSpan.f
  have e1 : wrap64 ((j : Int) + 1) = ((j + 1 : Nat) : Int) := by rw [w64_id (by omega) (by omega)]; omega
  have ht : (l.take j).length ≤ l.length := by rw [List.length_take]; omega
  have hd : (l.drop (j + 1)).length ≤ l.length := by rw [List.length_drop]; omega
  rw [Option.bind_some, if_pos (by omega), if_pos (by omega), Option.bind_some, if_pos (by rw [Int.toNat_natCast, List.length_nil]; omega), Option.bind_some, e1, if_pos (by omega), if_pos (by omega), Option.bind_some, Int.toNat_natCast, Int.toNat_natCast,
    if_pos (by rw [List.nil_append]; omega), List.nil_append, List.eraseIdx_eq_take_drop_succ]
def hgiveV (total : Int) (l : List S85) (a : Int) : Int × List S85 × Bool :=
  if heapOk total l = true then (if spanIdx a l 0 < 0 then (total, l, false) else (total, l.eraseIdx (spanIdx a l 0).toNat, true)) else (0, [], false)
theorem hgiveV_none {total a : Int} {l : List S85} (h : heapOk total l = true) (hb : spanIdx a l 0 < 0) : hgiveV total l a = (total, l, false) := by
  unfold hgiveV; rw [if_pos h, if_pos hb]
theorem hgiveV_some {total a : Int} {l : List S85} (h : heapOk total l = true) {j : Nat} (hb : spanIdx a l 0 = (j : Int)) : hgiveV total l a = (total, l.eraseIdx j, true) := by
  unfold hgiveV; rw [if_pos h, hb, if_neg (by omega), Int.toNat_natCast]
theorem hgiveV_bad {total a : Int} {l : List S85} (h : ¬ heapOk total l = true) : hgiveV total l a = (0, [], false) := by
  unfold hgiveV; rw [if_neg h]
theorem spec_HeapGive_ev (total a : Int) {l : List S85} (hl : l.length ≤ 1099511627776) : Ev (fun k => spec_HeapGive.f k total l a) (hgiveV total l a) := by
  unfold spec_HeapGive.f
  refine Ev.bind (spec_HeapOk_ev total l) ?_
  by_cases h : heapOk total l = true
  · refine ev_pos h (Ev.bind (spec_l8SpanAt_ev total a hl) ?_)
    rcases spanIdx_lt a l 0 with hb | ⟨j, h1, h2, h3⟩
    · rw [hgiveV_none h hb]
      exact ev_pos hb (ev_bind0 (spec_l8HeapSame_eq total hl) (ev_ret rfl))
    · rw [hgiveV_some h h1, h1]
      exact ev_neg (by omega) (ev_bind0 (spec_l8CutSpan_eq total hl (j := j) (by omega)) (ev_ret rfl))
  · rw [hgiveV_bad h]
    exact ev_neg h (ev_ret rfl)
theorem impl_span_idx (a : Int) : ∀ (l : List S85) (i : Nat), impl_Heap_span.idx a l i = spanIdx a l i
  | [], i => rfl
  | x :: xs, i => by rw [impl_Heap_span.idx, spanIdx, impl_span_idx a xs (i + 1)]
theorem impl_HeapGive_ev (total a : Int) {l : List S85} (hl : l.length ≤ 1099511627776) : Ev (fun k => impl_HeapGive.f k total l a) (hgiveV total l a) := by
  unfold impl_HeapGive.f
  refine Ev.bind (impl_HeapOk_ev total l) ?_
  by_cases h : heapOk total l = true
  · refine ev_pos h (ev_bind0 (impl_copyHeap_eq total hl) ?_)
    simp only [impl_span_idx]
    rcases spanIdx_lt a l 0 with hb | ⟨j, h1, h2, h3⟩
    · rw [hgiveV_none h hb]
      exact ev_pos hb (ev_ret rfl)
    · rw [hgiveV_some h h1, h1]
      have hd : slices_Delete_impl_Span_impl_Span.f l (j : Int) ((j : Int) + 1) = some (l.eraseIdx j) := by
        unfold slices_Delete_impl_Span_impl_Span.f
        rw [if_pos ⟨by omega, rfl, by omega⟩, Int.toNat_natCast]
      exact ev_neg (by omega) (ev_bind0 hd (ev_ret rfl))
  · rw [hgiveV_bad h]
    exact ev_neg h (ev_ret rfl)
theorem hgiveV_short {total a : Int} {l : List S85} (hl : l.length ≤ 1099511627776) : (hgiveV total l a).2.1.length ≤ 1099511627776 := by
  unfold hgiveV
  split
  · split
    · exact hl
    · have := List.length_eraseIdx_le l (spanIdx a l 0).toNat
      exact Nat.le_trans this hl
  · simp
theorem FnExactHeapGive : laws_FnExactHeapGive.Pure := by
  intro n xs a hq ha
  have hm : xs.length ≤ maxLen := hq.2.1
  refine Ev.rounds ?_
  unfold laws_FnExactHeapGive.f
  refine ev_bind0 (laws_szHeap_eq n hm) ?_
  by_cases h : (1048576 : Int) < xs.length
  · rw [if_pos h]
    exact ev_pos (by omega) (ev_ret rfl)
  · rw [if_neg h]
    refine ev_neg (by omega) ?_
    have hl : xs.length ≤ 1099511627776 := by omega
    have hl2 : (xs.map cSpan).length ≤ 1099511627776 := by rw [List.length_map]; exact hl
    have tof := laws_toHeap_ev n hl
    have eqf := laws_eqHeap_ev n hl2
    have mkf := laws_markHeap_ev n hl2
    have hs := spec_HeapGive_ev n a hl2
    have hi := impl_HeapGive_ev n a hl2
    have hr := hgiveV_short (total := n) (a := a) hl2
    generalize hgiveV n (xs.map cSpan) a = r at *
    obtain ⟨t, zs, b⟩ := r
    have eqz := laws_eqHeap_ev t hr
    have mkz := laws_markHeap_ev t hr
    have hez := laws_heldHeap_ev t (m := zs.length) hr
    have hbb : (b != b) = false := bne_self_eq_false b
    refine Ev.bind tof (Ev.bind hs (Ev.bind tof (Ev.bind hi (Ev.bind eqz (ev_pos rfl ?_)))))
    rw [hbb]
    refine Ev.step (fun _ => laws_FnExactHeapGive.j0.eq_2 ..) (ev_neg (by decide) (Ev.bind tof (Ev.bind eqf (ev_pos rfl (Ev.bind mkf (ev_neg (by simp only; omega) (Ev.bind eqz (ev_pos rfl ?_))))))))
    rw [hbb]
    refine Ev.step (fun _ => laws_FnExactHeapGive.j1.eq_2 ..) (ev_neg (by decide) (Ev.bind mkz (Ev.bind hez (ev_neg (by omega) (ev_pos rfl (Ev.bind tof (Ev.bind hi (Ev.bind eqz (ev_pos rfl ?_)))))))))
    rw [hbb]
    exact Ev.step (fun _ => laws_FnExactHeapGive.j2.eq_2 ..) (ev_neg (by decide) (Ev.bind hez (ev_neg (by omega) (ev_pos rfl (ev_ret rfl)))))
end Go.Proofs.Ytmjdmaomakkhgaa.Pure
