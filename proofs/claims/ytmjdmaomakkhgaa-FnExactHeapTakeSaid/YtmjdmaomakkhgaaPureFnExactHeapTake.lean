/- For every input that the row lets in, FnExactHeapTake answers true; this text proves the plain law that is left when the machine's side is done. -/
import Derived.Test.YtmjdmaomakkhgaaPFnExactHeapTakex7
import Derived.Test.YtmjdmaomakkhgaaBase
set_option linter.unusedVariables false
set_option linter.unusedSimpArgs false
namespace Go.Proofs.Ytmjdmaomakkhgaa.Pure
open Go.RowKit Go.Proofs.Ytmjdmaomakkhgaa.PFnExactHeapTake Go.Proofs.YtmjdmaomakkhgaaW.PrintWords Go.Proofs.YtmjdmaomakkhgaaW.PrintLast Go.Proofs.YtmjdmaomakkhgaaW.PrintMore Go.Proofs.Ytmjdmaomakkhgaa.Base

def cSpan (x : S122) : S85 := ⟨x.f0, x.f1⟩
theorem laws_toSpanS_l0 (xs : List S122) (hl : xs.length ≤ 4611686018427387904) : ∀ (d i : Nat) (ys : List S85), i + d = xs.length → ys.length = xs.length → (∀ j, j < i → ys[j]? = (xs.map cSpan)[j]?) → Ev (fun k => laws_toSpanS.l0 k xs ys (i : Int)) (xs.map cSpan) := by
  intro d
  induction d with
  | zero =>
    intro i ys h hy he
    refine Ev.step (fun _ => laws_toSpanS.l0.eq_2 ..) (ev_neg (by omega) (ev_ret ?_))
    apply List.ext_getElem?
    intro j
    by_cases hj : j < i
    · exact he j hj
    · rw [List.getElem?_eq_none (by omega), List.getElem?_eq_none (by rw [List.length_map]; omega)]
  | succ d ih =>
    intro i ys h hy he
    have hi : i < xs.length := by omega
    have er : rd_T122 xs (i : Int) = xs[i] := getD_nat _ hi
    refine Ev.step (fun _ => laws_toSpanS.l0.eq_2 ..) (ev_pos (by omega) (ev_pos (by omega) (ev_bind0 rfl (ev_pos (by omega) ?_))))
    rw [w64_succ hi hl, er, Int.toNat_natCast]
    refine ih (i + 1) _ (by omega) (by rw [List.length_set]; exact hy) ?_
    intro j hj
    by_cases hji : j = i
    · subst hji
      rw [List.getElem?_set_self (by omega), List.getElem?_map, List.getElem?_eq_getElem hi]; rfl
    · rw [List.getElem?_set_ne (by omega)]
      exact he j (by omega)
theorem laws_toSpanS_ev {xs : List S122} (hl : xs.length ≤ 1099511627776) : Ev (fun k => laws_toSpanS.f k xs) (xs.map cSpan) := by
  unfold laws_toSpanS.f
  refine ev_pos (by omega) (ev_pos (by omega) ?_)
  exact laws_toSpanS_l0 xs (by omega) xs.length 0 _ (by omega) (by simp) (fun j hj => by omega)
theorem laws_eqSpan_self (a0 a1 : Int) : laws_eqSpan.f a0 a1 a0 a1 = some true := by
  unfold laws_eqSpan.f
  simp
theorem laws_eqSpanS_l0 (xs : List S85) (hl : xs.length ≤ 4611686018427387904) : ∀ (d i : Nat), i + d = xs.length → Ev (fun k => laws_eqSpanS.l0 k xs xs (i : Int)) true := by
  intro d
  induction d with
  | zero =>
    intro i h
    exact Ev.step (fun _ => laws_eqSpanS.l0.eq_2 ..) (ev_neg (by omega) (ev_ret rfl))
  | succ d ih =>
    intro i h
    refine Ev.step (fun _ => laws_eqSpanS.l0.eq_2 ..) (ev_pos (by omega) (ev_pos (by omega) (ev_pos (by omega) (ev_bind0 (laws_eqSpan_self ..) (ev_pos rfl ?_)))))
    rw [w64_succ (n := xs.length) (by omega) hl]
    exact ih (i + 1) (by omega)
theorem laws_eqSpanS_ev {xs : List S85} (hl : xs.length ≤ 1099511627776) : Ev (fun k => laws_eqSpanS.f k xs xs) true := by
  unfold laws_eqSpanS.f
  exact ev_pos rfl (laws_eqSpanS_l0 xs (by omega) xs.length 0 (by omega))
theorem laws_szSpanS_eq {xs : List S122} (hl : xs.length ≤ maxLen) {n : Int} (h0 : 0 ≤ n) (h1 : n ≤ 1048576) : laws_szSpanS.f xs n = some (if n < xs.length then -1 else n - xs.length) := by
  have hl2 := wf_le hl
  unfold laws_szSpanS.f
  rw [w64_id (x := n - (xs.length : Int)) (by omega) (by omega)]
  by_cases h : n < xs.length
  · rw [if_pos (by omega), if_pos h]
  · rw [if_neg (by omega), if_neg h]
theorem laws_toHeap_ev (n : Int) {xs : List S122} (hl : xs.length ≤ 1099511627776) : Ev (fun k => laws_toHeap.f k n xs) (n, xs.map cSpan) := by
  unfold laws_toHeap.f
  exact Ev.bind (laws_toSpanS_ev hl) (ev_ret rfl)
theorem laws_eqHeap_ev (n : Int) {xs : List S85} (hl : xs.length ≤ 1099511627776) : Ev (fun k => laws_eqHeap.f k n xs n xs) true := by
  unfold laws_eqHeap.f
  exact ev_pos rfl (Ev.bind (laws_eqSpanS_ev hl) (ev_pos rfl (ev_ret rfl)))
theorem laws_szHeap_eq (n : Int) {xs : List S122} (hl : xs.length ≤ maxLen) : laws_szHeap.f n xs 1048576 = some (if (1048576 : Int) < xs.length then (-1 : Int) else 1048576 - (xs.length : Int)) := by
  unfold laws_szHeap.f
  rw [laws_szSpanS_eq hl (by omega) (by omega), Option.bind_some]
  by_cases h : (1048576 : Int) < xs.length
  · rw [if_pos h]; rfl
  · rw [if_neg h, if_neg (by omega)]
def heapEnd (e : Int) (s : S85) : Int := wrap64 (s.f0 + s.f1)
def spanBad (size e : Int) (s : S85) : Prop := s.f0 < e ∨ ¬ Int.tmod s.f0 8 = 0 ∨ s.f1 ≤ 0 ∨ ¬ Int.tmod s.f1 8 = 0 ∨ s.f1 > size ∨ s.f0 > size - s.f1
instance (size e : Int) (s : S85) : Decidable (spanBad size e s) := by unfold spanBad; exact inferInstance
def spansOk (size : Int) : Int → List S85 → Bool
  | _, [] => true
  | e, s :: ss => if spanBad size e s then false else spansOk size (wrap64 (s.f0 + s.f1)) ss
def heapOk (size : Int) (l : List S85) : Bool := if size < 0 ∨ size > 65536 ∨ ¬ Int.tmod size 8 = 0 ∨ (l.length : Int) > 512 then false else spansOk size 0 l
theorem spec_HeapOk_l0 (size : Int) (hs0 : 0 ≤ size) (hs1 : size ≤ 65536) (l : List S85) (hl : l.length ≤ 512) : ∀ (d i : Nat) (e : Int), i + d = l.length → 0 ≤ e → Ev (fun k => spec_HeapOk.l0 k e (i : Int) size l) (spansOk size e (l.drop i)) := by
  intro d
  induction d with
  | zero =>
    intro i e h he
    rw [List.drop_eq_nil_of_le (by omega)]
    exact Ev.step (fun _ => spec_HeapOk.l0.eq_2 ..) (ev_neg (by omega) (ev_ret rfl))
  | succ d ih =>
    intro i e h he
    have hi : i < l.length := by omega
    have er : rd_T85 l (i : Int) = l[i] := getD_nat _ hi
    rw [List.drop_eq_getElem_cons hi, spansOk]
    refine Ev.step (fun _ => spec_HeapOk.l0.eq_2 ..) (ev_pos (by omega) (ev_pos (by omega) ?_))
    rw [er, w64_succ hi (by omega)]
    generalize l[i] = s
    by_cases hb : spanBad size e s
    · rw [if_pos hb]
      unfold spanBad at hb
      refine ev_split (fun _ => ev_ret rfl) (fun h1 => ev_split (fun h2 => ev_split (fun _ => ev_ret rfl) (fun h3 => ev_split (fun h4 => ev_split (fun _ => ev_ret rfl) (fun h5 => ?_)) (fun _ => ev_ret rfl))) (fun _ => ev_ret rfl))
      rw [w64_id (x := size - s.f1) (by omega) (by omega)]
      exact ev_pos (by omega) (ev_ret rfl)
    · rw [if_neg hb]
      unfold spanBad at hb
      refine ev_neg (by omega) (ev_pos (by omega) (ev_neg (by omega) (ev_pos (by omega) (ev_neg (by omega) ?_))))
      rw [w64_id (x := size - s.f1) (by omega) (by omega)]
      refine ev_neg (by omega) ?_
      exact ih (i + 1) _ (by omega) (by rw [w64_id (by omega) (by omega)]; omega)
theorem spec_HeapOk_ev (size : Int) (l : List S85) : Ev (fun k => spec_HeapOk.f k size l) (heapOk size l) := by
  unfold spec_HeapOk.f heapOk
  have bad : Ev (fun k => spec_HeapOk.j0 k true size l) false := Ev.step (fun _ => spec_HeapOk.j0.eq_2 ..) (ev_pos rfl (ev_ret rfl))
  by_cases hb : size < 0 ∨ size > 65536 ∨ ¬ Int.tmod size 8 = 0 ∨ (l.length : Int) > 512
  · rw [if_pos hb]
    refine ev_split (fun _ => bad) (fun h1 => ev_split (fun _ => bad) (fun h2 => ev_split (fun h3 => ?_) (fun _ => bad)))
    rw [decide_eq_true (by omega : (l.length : Int) > 512)]
    exact bad
  · rw [if_neg hb]
    refine ev_neg (by omega) (ev_neg (by omega) (ev_pos (by omega) ?_))
    rw [decide_eq_false (by omega : ¬ (l.length : Int) > 512)]
    refine Ev.step (fun _ => spec_HeapOk.j0.eq_2 ..) (ev_neg (by decide) ?_)
    exact spec_HeapOk_l0 size (by omega) (by omega) l (by omega) l.length 0 0 (by omega) (by omega)
theorem impl_HeapOk_l0 (size : Int) (hs0 : 0 ≤ size) (hs1 : size ≤ 65536) (l l' : List S85) (hl : l.length ≤ 512) : ∀ (d i : Nat) (e : Int), i + d = l.length → 0 ≤ e → Ev (fun k => impl_HeapOk.l0 k e l (l.length : Int) (i : Int) size l') (spansOk size e (l.drop i)) := by
  intro d
  induction d with
  | zero =>
    intro i e h he
    rw [List.drop_eq_nil_of_le (by omega)]
    exact Ev.step (fun _ => impl_HeapOk.l0.eq_2 ..) (ev_neg (by omega) (ev_ret rfl))
  | succ d ih =>
    intro i e h he
    have hi : i < l.length := by omega
    have er : rd_T85 l (i : Int) = l[i] := getD_nat _ hi
    rw [List.drop_eq_getElem_cons hi, spansOk]
    refine Ev.step (fun _ => impl_HeapOk.l0.eq_2 ..) (ev_pos (by omega) (ev_pos (by omega) (ev_pos (by omega) ?_)))
    rw [er, w64_succ hi (by omega)]
    generalize l[i] = s
    by_cases hb : spanBad size e s
    · rw [if_pos hb]
      unfold spanBad at hb
      refine ev_split (fun _ => ev_ret rfl) (fun h1 => ev_split (fun h2 => ev_split (fun h3 => ev_split (fun _ => ev_ret rfl) (fun h4 => ev_split (fun _ => ev_ret rfl) (fun h5 => ?_))) (fun _ => ev_ret rfl)) (fun _ => ev_ret rfl))
      rw [w64_id (x := size - s.f0) (by omega) (by omega)]
      exact ev_pos (by omega) (ev_ret rfl)
    · rw [if_neg hb]
      unfold spanBad at hb
      refine ev_neg (by omega) (ev_pos (by omega) (ev_pos (by omega) (ev_neg (by omega) (ev_neg (by omega) ?_))))
      rw [w64_id (x := size - s.f0) (by omega) (by omega)]
      refine ev_neg (by omega) ?_
      exact ih (i + 1) _ (by omega) (by rw [w64_id (by omega) (by omega)]; omega)
theorem impl_HeapOk_ev (size : Int) (l : List S85) : Ev (fun k => impl_HeapOk.f k size l) (heapOk size l) := by
  unfold impl_HeapOk.f heapOk
  have bad : Ev (fun k => impl_HeapOk.j0 k true size l) false := Ev.step (fun _ => impl_HeapOk.j0.eq_2 ..) (ev_pos rfl (ev_ret rfl))
  by_cases hb : size < 0 ∨ size > 65536 ∨ ¬ Int.tmod size 8 = 0 ∨ (l.length : Int) > 512
  · rw [if_pos hb]
    refine ev_split (fun _ => bad) (fun h1 => ev_split (fun _ => bad) (fun h2 => ev_split (fun h3 => ?_) (fun _ => bad)))
    rw [decide_eq_true (by omega : (l.length : Int) > 512)]
    exact bad
  · rw [if_neg hb]
    refine ev_neg (by omega) (ev_neg (by omega) (ev_pos (by omega) ?_))
    rw [decide_eq_false (by omega : ¬ (l.length : Int) > 512)]
    refine Ev.step (fun _ => impl_HeapOk.j0.eq_2 ..) (ev_neg (by decide) ?_)
    exact impl_HeapOk_l0 size (by omega) (by omega) l l (by omega) l.length 0 0 (by omega) (by omega)
def markSp (k : Int) (n : Nat) : List S85 := (List.range n).map fun j : Nat => ⟨k + 2 * (j : Int), k + 2 * (j : Int) + 1⟩
theorem markSp_len (k : Int) (n : Nat) : (markSp k n).length = n := by simp [markSp]
theorem markSp_get (k : Int) {n j : Nat} (h : j < n) : (markSp k n)[j]? = some ⟨k + 2 * (j : Int), k + 2 * (j : Int) + 1⟩ := by
  simp [markSp, List.getElem?_range h]
theorem laws_markSpanS_l0 (n : Nat) (k0 : Int) (hk : 0 ≤ k0) (hk2 : k0 + 2 * n ≤ 4611686018427387904) : ∀ (d i : Nat) (xs : List S85), i + d = n → xs.length = n → (∀ j, j < i → xs[j]? = (markSp k0 n)[j]?) → Ev (fun k => laws_markSpanS.l0 k xs (k0 + 2 * (i : Int)) (i : Int)) (k0 + 2 * (n : Int), markSp k0 n) := by
  intro d
  induction d with
  | zero =>
    intro i xs h hx he
    refine Ev.step (fun _ => laws_markSpanS.l0.eq_2 ..) ?_
    refine ev_neg (by omega) (ev_ret ?_)
    refine Prod.ext (by simp only; omega) ?_
    apply List.ext_getElem?
    intro j
    by_cases hj : j < n
    · exact he j (by omega)
    · rw [List.getElem?_eq_none (show xs.length ≤ j by omega), List.getElem?_eq_none (by rw [markSp_len]; omega)]
  | succ d ih =>
    intro i xs h hx he
    refine Ev.step (fun _ => laws_markSpanS.l0.eq_2 ..) ?_
    have e1 : wrap64 ((i : Int) + 1) = ((i + 1 : Nat) : Int) := by rw [w64_id (by omega) (by omega)]; omega
    have e2 : wrap64 (k0 + 2 * (i : Int) + 1) = k0 + 2 * (i : Int) + 1 := by rw [w64_id (by omega) (by omega)]
    have e3 : wrap64 (k0 + 2 * (i : Int) + 1 + 1) = k0 + 2 * ((i + 1 : Nat) : Int) := by rw [w64_id (by omega) (by omega)]; omega
    refine ev_pos (by omega) (ev_pos (by omega) (Ev.bind (Ev.now _) ?_))
    rw [e1, e2, e3, Int.toNat_natCast]
    have er : rd_T85 (xs.set i (⟨k0 + 2 * (i : Int), (rd_T85 xs (i : Int)).f1⟩ : S85)) (i : Int) = ⟨k0 + 2 * (i : Int), (rd_T85 xs (i : Int)).f1⟩ := getD_set _ _ (by omega)
    rw [er, List.set_set]
    refine ih (i + 1) _ (by omega) (by rw [List.length_set]; exact hx) ?_
    intro j hj
    by_cases hji : j = i
    · subst hji
      rw [List.getElem?_set_self (by omega), markSp_get k0 (by omega)]
    · rw [List.getElem?_set_ne (by omega)]
      exact he j (by omega)
theorem laws_markSpanS_ev (xs : List S85) {k0 : Int} (hk : 0 ≤ k0) (hk2 : k0 + 2 * (xs.length : Int) ≤ 4611686018427387904) : Ev (fun k => laws_markSpanS.f k xs k0) (k0 + 2 * (xs.length : Int), markSp k0 xs.length) := by
  unfold laws_markSpanS.f
  have := laws_markSpanS_l0 xs.length k0 hk hk2 xs.length 0 xs (by omega) rfl (fun j hj => by omega)
  rw [show k0 + 2 * ((0 : Nat) : Int) = k0 by omega] at this
  exact this
theorem laws_heldSpanS_l0 (n : Nat) (k0 : Int) (hk : 0 ≤ k0) (hk2 : k0 + 2 * n ≤ 4611686018427387904) : ∀ (d i : Nat), i + d = n → Ev (fun k => laws_heldSpanS.l0 k (markSp k0 n) (k0 + 2 * (i : Int)) (i : Int)) (k0 + 2 * (n : Int)) := by
  intro d
  induction d with
  | zero =>
    intro i h
    refine Ev.step (fun _ => laws_heldSpanS.l0.eq_2 ..) ?_
    refine ev_neg (by rw [markSp_len]; omega) (ev_ret (by omega))
  | succ d ih =>
    intro i h
    refine Ev.step (fun _ => laws_heldSpanS.l0.eq_2 ..) ?_
    have e1 : wrap64 ((i : Int) + 1) = ((i + 1 : Nat) : Int) := by rw [w64_id (by omega) (by omega)]; omega
    have e2 : wrap64 (k0 + 2 * (i : Int) + 1) = k0 + 2 * (i : Int) + 1 := by rw [w64_id (by omega) (by omega)]
    have e3 : wrap64 (k0 + 2 * (i : Int) + 1 + 1) = k0 + 2 * ((i + 1 : Nat) : Int) := by rw [w64_id (by omega) (by omega)]; omega
    have hl : i < (markSp k0 n).length := by rw [markSp_len]; omega
    have e4 : (markSp k0 n)[i] = ⟨k0 + 2 * (i : Int), k0 + 2 * (i : Int) + 1⟩ := by
      have := markSp_get k0 (n := n) (j := i) (by omega)
      rw [List.getElem?_eq_getElem hl] at this
      exact Option.some.inj this
    have er : rd_T85 (markSp k0 n) (i : Int) = ⟨k0 + 2 * (i : Int), k0 + 2 * (i : Int) + 1⟩ := (getD_nat _ hl).trans e4
    rw [er, e1, e2, e3]
    exact ev_pos (by omega) (ev_pos (by omega) (ev_pos rfl (ev_pos rfl (ih (i + 1) (by omega)))))
theorem laws_heldSpanS_ev (n : Nat) {k0 : Int} (hk : 0 ≤ k0) (hk2 : k0 + 2 * n ≤ 4611686018427387904) : Ev (fun k => laws_heldSpanS.f k (markSp k0 n) k0) (k0 + 2 * (n : Int)) := by
  unfold laws_heldSpanS.f
  have := laws_heldSpanS_l0 n k0 hk hk2 n 0 (by omega)
  rw [show k0 + 2 * ((0 : Nat) : Int) = k0 by omega] at this
  exact this
theorem laws_markHeap_ev (n : Int) {xs : List S85} (hl : xs.length ≤ 1099511627776) : Ev (fun k => laws_markHeap.f k n xs 1) (1 + 2 * (xs.length : Int), markSp 1 xs.length) := by
  unfold laws_markHeap.f
  exact Ev.bind (laws_markSpanS_ev xs (by omega) (by omega)) (ev_ret rfl)
theorem laws_heldHeap_ev (n : Int) {m : Nat} (hl : m ≤ 1099511627776) : Ev (fun k => laws_heldHeap.f k n (markSp 1 m) 1) (1 + 2 * (m : Int)) := by
  unfold laws_heldHeap.f
  exact Ev.bind (laws_heldSpanS_ev m (by omega) (by omega)) (ev_neg (by omega) (ev_ret rfl))
theorem spec_l8HeapSame_eq (t : Int) {l : List S85} (h : l.length ≤ 1099511627776) : spec_l8HeapSame.f t l = some (t, l) := by
  unfold spec_l8HeapSame.f
  rw [Option.bind_some, if_pos (by simp; omega), List.nil_append]
theorem impl_copyHeap_eq (t : Int) {l : List S85} (h : l.length ≤ 1099511627776) : impl_copyHeap.f t l = some (t, l) := by
  unfold impl_copyHeap.f
  rw [if_pos (by simp; omega), List.nil_append]
/-- Where so many bytes have room first: the place among the spans and the address. -/
def roomV (size n : Int) : Int → List S85 → Nat → Option (Nat × Int)
  | e, [], i => if size - e ≥ n then some (i, e) else none
  | e, s :: ss, i => if s.f0 - e ≥ n then some (i, e) else roomV size n (s.f0 + s.f1) ss (i + 1)
theorem roomTake_ok {size e : Int} {s : S85} {ss : List S85} (h : spansOk size e (s :: ss) = true) : ¬ spanBad size e s ∧ spansOk size (wrap64 (s.f0 + s.f1)) ss = true := by
  rw [spansOk] at h
  by_cases hb : spanBad size e s
  · rw [if_pos hb] at h; exact absurd h (by decide)
  · rw [if_neg hb] at h; exact ⟨hb, h⟩
theorem roomV_in (size n : Int) : ∀ (l : List S85) (e : Int) (i j : Nat) (a : Int), 0 ≤ e → e ≤ size → size ≤ 65536 → spansOk size e l = true → roomV size n e l i = some (j, a) → 0 ≤ a ∧ i ≤ j ∧ j ≤ i + l.length := by
  intro l
  induction l with
  | nil =>
    intro e i j a h0 h1 h2 hok h
    rw [roomV] at h
    split at h
    · simp only [Option.some.injEq, Prod.mk.injEq] at h
      obtain ⟨rfl, rfl⟩ := h
      exact ⟨h0, Nat.le_refl _, by simp⟩
    · cases h
  | cons s ss ih =>
    intro e i j a h0 h1 h2 hok h
    rw [roomV] at h
    split at h
    · simp only [Option.some.injEq, Prod.mk.injEq] at h
      obtain ⟨rfl, rfl⟩ := h
      exact ⟨h0, Nat.le_refl _, by simp⟩
    · obtain ⟨hb, hr⟩ := roomTake_ok hok
      unfold spanBad at hb
      rw [w64_id (by omega) (by omega)] at hr
      have := ih _ _ _ _ (by omega) (by omega) h2 hr h
      simp only [List.length_cons]
      omega
def specRoom : Option (Nat × Int) → Int × Int
  | some (j, a) => ((j : Int), a)
  | none => (-1, -1)
def implRoom (size : Int) : Option (Nat × Int) → Int × Int × Int
  | some (j, a) => (a, (j : Int), size)
  | none => (-1, 0, size)
theorem spec_l8Room_l0 (size n : Int) (hs1 : size ≤ 65536) (l : List S85) (hl : l.length ≤ 512) : ∀ (d i : Nat) (e : Int), i + d = l.length → 0 ≤ e → e ≤ size → spansOk size e (l.drop i) = true → Ev (fun k => spec_l8Room.l0 k n e (i : Int) size l) (specRoom (roomV size n e (l.drop i) i)) := by
  intro d
  induction d with
  | zero =>
    intro i e h h0 h1 hok
    obtain rfl : i = l.length := by omega
    rw [List.drop_eq_nil_of_le (by omega), roomV]
    refine Ev.step (fun _ => spec_l8Room.l0.eq_2 ..) (ev_neg (by omega) ?_)
    rw [w64_id (by omega) (by omega)]
    by_cases hc : size - e ≥ n
    · rw [if_pos hc, if_pos hc]; exact ev_ret rfl
    · rw [if_neg hc, if_neg hc]; exact ev_ret rfl
  | succ d ih =>
    intro i e h h0 h1 hok
    have hi : i < l.length := by omega
    have er : rd_T85 l (i : Int) = l[i] := getD_nat _ hi
    rw [List.drop_eq_getElem_cons hi] at hok ⊢
    rw [roomV]
    refine Ev.step (fun _ => spec_l8Room.l0.eq_2 ..) (ev_pos (by omega) (ev_pos (by omega) ?_))
    rw [er, w64_succ hi (by omega)]
    generalize l[i] = s at *
    obtain ⟨hb, hr⟩ := roomTake_ok hok
    unfold spanBad at hb
    rw [w64_id (by omega) (by omega)] at hr
    rw [w64_id (x := s.f0 - e) (by omega) (by omega), w64_id (x := s.f0 + s.f1) (by omega) (by omega)]
    by_cases hc : s.f0 - e ≥ n
    · rw [if_pos hc]; exact ev_pos hc (ev_ret rfl)
    · rw [if_neg hc]; exact ev_neg hc (ih (i + 1) _ (by omega) (by omega) (by omega) hr)
theorem spec_l8Room_ev {size : Int} {l : List S85} (h : heapOk size l = true) (n : Int) : Ev (fun k => spec_l8Room.f k size l n) (specRoom (roomV size n 0 l 0)) := by
  obtain ⟨h0, h1, h2, h3⟩ : 0 ≤ size ∧ size ≤ 65536 ∧ l.length ≤ 512 ∧ spansOk size 0 l = true := by
    unfold heapOk at h
    by_cases hb : size < 0 ∨ size > 65536 ∨ ¬ Int.tmod size 8 = 0 ∨ (l.length : Int) > 512
    · rw [if_pos hb] at h; exact absurd h (by decide)
    · rw [if_neg hb] at h; exact ⟨by omega, by omega, by omega, h⟩
  unfold spec_l8Room.f
  exact spec_l8Room_l0 size n h1 l h2 l.length 0 0 (by omega) (by omega) h0 h3
def rndV (n : Int) : Int := if n = 0 then 8 else Int.tdiv (n + 7) 8 * 8
theorem spec_l8Round_eq {n : Int} (h0 : 0 ≤ n) (h1 : n ≤ 65536) : spec_l8Round.f n = some (rndV n) := by
  unfold spec_l8Round.f rndV
  have e1 : Int.tdiv (n + 7) 8 = (n + 7) / 8 := Int.tdiv_eq_ediv_of_nonneg (by omega)
  by_cases h : n = 0
  · rw [if_pos h, if_pos h]
  · rw [if_neg h, if_neg h, w64_id (x := n + 7) (by omega) (by omega), e1, w64_id (x := (n + 7) / 8) (by omega) (by omega), w64_id (by omega) (by omega)]
theorem spec_l8PutSpan_eq (t : Int) {l : List S85} (h : l.length ≤ 1099511627776) {j : Nat} (hj : j ≤ l.length) (a n : Int) : spec_l8PutSpan.f t l (j : Int) a n = some (t, l.take j ++ ⟨a, n⟩ :: l.drop j) := by
  unfold spec_l8PutSpan.f
  have ht : (l.take j).length ≤ l.length := by rw [List.length_take]; omega
  have hd : (l.drop j).length ≤ l.length := by rw [List.length_drop]; omega
  rw [Option.bind_some, if_pos (by omega), if_pos (by omega), Option.bind_some, Int.toNat_natCast, if_pos (by simp only [List.length_nil]; omega), Option.bind_some, List.nil_append, if_pos (by omega), Option.bind_some, Option.bind_some,
    if_pos (by rw [List.length_append, List.length_singleton]; omega), List.append_assoc, List.singleton_append]
def htakeV (total : Int) (l : List S85) (a : Int) : Int × List S85 × Int :=
  if heapOk total l = true ∧ 0 ≤ a ∧ a ≤ 65536 then
    (match roomV total (rndV a) 0 l 0 with
     | some (j, p) => if 512 ≤ l.length then (total, l, -1) else (total, l.take j ++ ⟨p, rndV a⟩ :: l.drop j, p)
     | none => (total, l, -1)) else (0, [], -1)
theorem htakeV_bad {total a : Int} {l : List S85} (h : ¬ (heapOk total l = true ∧ 0 ≤ a ∧ a ≤ 65536)) : htakeV total l a = (0, [], -1) := by
  unfold htakeV; rw [if_neg h]
theorem htakeV_none {total a : Int} {l : List S85} (h : heapOk total l = true ∧ 0 ≤ a ∧ a ≤ 65536) (hr : roomV total (rndV a) 0 l 0 = none) : htakeV total l a = (total, l, -1) := by
  unfold htakeV; rw [if_pos h, hr]
theorem htakeV_full {total a : Int} {l : List S85} (h : heapOk total l = true ∧ 0 ≤ a ∧ a ≤ 65536) (hl : 512 ≤ l.length) : htakeV total l a = (total, l, -1) := by
  unfold htakeV; rw [if_pos h]
  split
  · rw [if_pos hl]
  · rfl
theorem htakeV_some {total a p : Int} {j : Nat} {l : List S85} (h : heapOk total l = true ∧ 0 ≤ a ∧ a ≤ 65536) (hr : roomV total (rndV a) 0 l 0 = some (j, p)) (hl : ¬ 512 ≤ l.length) : htakeV total l a = (total, l.take j ++ ⟨p, rndV a⟩ :: l.drop j, p) := by
  unfold htakeV; rw [if_pos h, hr]
  exact if_neg hl
theorem room_bounds {total n p : Int} {j : Nat} {l : List S85} (h : heapOk total l = true) (hr : roomV total n 0 l 0 = some (j, p)) : 0 ≤ p ∧ j ≤ l.length := by
  obtain ⟨h0, h1, h2, h3⟩ : 0 ≤ total ∧ total ≤ 65536 ∧ l.length ≤ 512 ∧ spansOk total 0 l = true := by
    unfold heapOk at h
    by_cases hb : total < 0 ∨ total > 65536 ∨ ¬ Int.tmod total 8 = 0 ∨ (l.length : Int) > 512
    · rw [if_pos hb] at h; exact absurd h (by decide)
    · rw [if_neg hb] at h; exact ⟨by omega, by omega, by omega, h⟩
  have := roomV_in total n l 0 0 j p (by omega) h0 h1 h3 hr
  omega
theorem spec_HeapTake_ev (total a : Int) {l : List S85} (hl : l.length ≤ 1099511627776) : Ev (fun k => spec_HeapTake.f k total l a) (htakeV total l a) := by
  unfold spec_HeapTake.f
  have bad : ¬ (heapOk total l = true ∧ 0 ≤ a ∧ a ≤ 65536) → Ev (fun k => spec_HeapTake.j0 k a true total l) (htakeV total l a) := fun h => by
    rw [htakeV_bad h]
    exact Ev.step (fun _ => spec_HeapTake.j0.eq_2 ..) (ev_pos rfl (ev_ret rfl))
  refine Ev.bind (spec_HeapOk_ev total l) ?_
  by_cases h : heapOk total l = true
  · refine ev_pos h ?_
    by_cases h1 : a < 0
    · exact ev_pos h1 (bad (by omega))
    · refine ev_neg h1 ?_
      by_cases h2 : a > 65536
      · rw [decide_eq_true h2]; exact bad (by omega)
      · rw [decide_eq_false h2]
        have hok : heapOk total l = true ∧ 0 ≤ a ∧ a ≤ 65536 := ⟨h, by omega, by omega⟩
        refine Ev.step (fun _ => spec_HeapTake.j0.eq_2 ..) (ev_neg (by decide) (ev_bind0 (spec_l8Round_eq (by omega) (by omega)) (Ev.bind (spec_l8Room_ev h (rndV a)) ?_)))
        have same : htakeV total l a = (total, l, -1) → ∀ x y : Int, Ev (fun k => spec_HeapTake.j1 k a x y true total l) (htakeV total l a) := fun e x y => by
          rw [e]
          exact Ev.step (fun _ => spec_HeapTake.j1.eq_2 ..) (ev_pos rfl (ev_bind0 (spec_l8HeapSame_eq total hl) (ev_ret rfl)))
        rcases hr : roomV total (rndV a) 0 l 0 with _ | ⟨j, p⟩
        · exact ev_pos (by decide) (same (htakeV_none hok hr) _ _)
        · obtain ⟨b0, b1⟩ := room_bounds h hr
          refine ev_neg (by simp only [specRoom]; omega) ?_
          by_cases h5 : 512 ≤ l.length
          · rw [decide_eq_true (by omega : (l.length : Int) ≥ 512)]
            exact same (htakeV_full hok h5) _ _
          · rw [decide_eq_false (by omega : ¬ (l.length : Int) ≥ 512), htakeV_some hok hr h5]
            exact Ev.step (fun _ => spec_HeapTake.j1.eq_2 ..) (ev_neg (by decide) (ev_bind0 (spec_l8Round_eq (by omega) (by omega)) (ev_bind0 (spec_l8PutSpan_eq total hl (j := j) b1 p _) (ev_ret rfl))))
  · exact ev_neg h (bad (fun h_ => h h_.1))
theorem impl_Heap_room_l0 (size n : Int) (hs1 : size ≤ 65536) (l : List S85) (hl : l.length ≤ 512) : ∀ (d i : Nat) (e : Int), i + d = l.length → 0 ≤ e → e ≤ size → spansOk size e (l.drop i) = true → Ev (fun k => impl_Heap_room.l0 k n e l (l.length : Int) (i : Int) size l) (implRoom size (roomV size n e (l.drop i) i)) := by
  intro d
  induction d with
  | zero =>
    intro i e h h0 h1 hok
    obtain rfl : i = l.length := by omega
    rw [List.drop_eq_nil_of_le (by omega), roomV]
    refine Ev.step (fun _ => impl_Heap_room.l0.eq_2 ..) (ev_neg (by omega) ?_)
    rw [w64_id (by omega) (by omega)]
    by_cases hc : size - e ≥ n
    · rw [if_pos hc, if_pos hc]; exact ev_ret rfl
    · rw [if_neg hc, if_neg hc]; exact ev_ret rfl
  | succ d ih =>
    intro i e h h0 h1 hok
    have hi : i < l.length := by omega
    have er : rd_T85 l (i : Int) = l[i] := getD_nat _ hi
    rw [List.drop_eq_getElem_cons hi] at hok ⊢
    rw [roomV]
    refine Ev.step (fun _ => impl_Heap_room.l0.eq_2 ..) (ev_pos (by omega) (ev_pos (by omega) (ev_pos (by omega) ?_)))
    rw [er, w64_succ hi (by omega)]
    generalize l[i] = s at *
    obtain ⟨hb, hr⟩ := roomTake_ok hok
    unfold spanBad at hb
    rw [w64_id (by omega) (by omega)] at hr
    rw [w64_id (x := s.f0 - e) (by omega) (by omega), w64_id (x := s.f0 + s.f1) (by omega) (by omega)]
    by_cases hc : s.f0 - e ≥ n
    · rw [if_pos hc]; exact ev_pos hc (ev_ret rfl)
    · rw [if_neg hc]; exact ev_neg hc (ih (i + 1) _ (by omega) (by omega) (by omega) hr)
theorem impl_Heap_room_ev {size : Int} {l : List S85} (h : heapOk size l = true) (n : Int) : Ev (fun k => impl_Heap_room.f k size l n) (implRoom size (roomV size n 0 l 0)) := by
  obtain ⟨h0, h1, h2, h3⟩ : 0 ≤ size ∧ size ≤ 65536 ∧ l.length ≤ 512 ∧ spansOk size 0 l = true := by
    unfold heapOk at h
    by_cases hb : size < 0 ∨ size > 65536 ∨ ¬ Int.tmod size 8 = 0 ∨ (l.length : Int) > 512
    · rw [if_pos hb] at h; exact absurd h (by decide)
    · rw [if_neg hb] at h; exact ⟨by omega, by omega, by omega, h⟩
  unfold impl_Heap_room.f
  exact impl_Heap_room_l0 size n h1 l h2 l.length 0 0 (by omega) (by omega) h0 h3
theorem impl_eights_eq {n : Int} (h0 : 0 ≤ n) (h1 : n ≤ 65536) : impl_eights.f n = some (rndV n) := by
  unfold impl_eights.f rndV
  have e1 : Int.tdiv (n + 7) 8 = (n + 7) / 8 := Int.tdiv_eq_ediv_of_nonneg (by omega)
  rw [w64_id (x := n + 7) (by omega) (by omega), e1, w64_id (x := (n + 7) / 8) (by omega) (by omega), w64_id (by omega) (by omega)]
  refine congrArg some ?_
  unfold mx
  by_cases h : n = 0
  · rw [if_pos h]; subst h; rfl
  · rw [if_neg h]
    split <;> omega
theorem impl_HeapTake_ev (total a : Int) {l : List S85} (hl : l.length ≤ 1099511627776) : Ev (fun k => impl_HeapTake.f k total l a) (htakeV total l a) := by
  unfold impl_HeapTake.f
  refine Ev.bind (impl_HeapOk_ev total l) ?_
  by_cases h : heapOk total l = true
  · by_cases h1 : 0 ≤ a ∧ a ≤ 65536
    · refine ev_neg (by simp only [h, Bool.true_eq_false, false_or, not_or]; omega) (ev_bind0 (impl_copyHeap_eq total hl) (ev_bind0 (impl_eights_eq h1.1 h1.2) (Ev.bind (impl_Heap_room_ev h (rndV a)) ?_)))
      have hok : heapOk total l = true ∧ 0 ≤ a ∧ a ≤ 65536 := ⟨h, h1⟩
      rcases hr : roomV total (rndV a) 0 l 0 with _ | ⟨j, p⟩
      · rw [htakeV_none hok hr]
        exact ev_pos (.inl (show (-1 : Int) < 0 by omega)) (ev_ret rfl)
      · obtain ⟨b0, b1⟩ := room_bounds h hr
        by_cases h5 : 512 ≤ l.length
        · rw [htakeV_full hok h5]
          exact ev_pos (.inr h5) (ev_ret rfl)
        · rw [htakeV_some hok hr h5]
          have hi : slices_Insert_impl_Span_impl_Span.f l (j : Int) ⟨p, rndV a⟩ = some (l.take j ++ ⟨p, rndV a⟩ :: l.drop j) := by
            unfold slices_Insert_impl_Span_impl_Span.f
            rw [if_pos ⟨by omega, by omega, by omega⟩, Int.toNat_natCast]
          exact ev_neg (by simp only [implRoom, not_or]; omega) (ev_bind0 hi (ev_ret rfl))
    · rw [htakeV_bad (fun h_ => h1 h_.2)]
      exact ev_pos (by simp only [h, Bool.true_eq_false, false_or]; omega) (ev_ret rfl)
  · rw [htakeV_bad (fun h_ => h h_.1)]
    exact ev_pos (.inl (by simpa using h)) (ev_ret rfl)
theorem htakeV_short {total a : Int} {l : List S85} (hl : l.length ≤ 1099511627776) : (htakeV total l a).2.1.length ≤ 1099511627776 := by
  unfold htakeV
  split
  · split
    · split
      · exact hl
      · rename_i j p _ _
        simp only [List.length_append, List.length_cons, List.length_take, List.length_drop]
        omega
    · exact hl
  · simp
theorem FnExactHeapTake : laws_FnExactHeapTake.Pure := by
  intro n xs a hq ha
  have hm : xs.length ≤ maxLen := hq.2.1
  refine Ev.rounds ?_
  unfold laws_FnExactHeapTake.f
  refine ev_bind0 (laws_szHeap_eq n hm) ?_
  by_cases h : (1048576 : Int) < xs.length
  · rw [if_pos h]
    exact ev_pos (by omega) (ev_ret rfl)
  · rw [if_neg h]
    refine ev_neg (by omega) ?_
    have hl : xs.length ≤ 1099511627776 := by omega
    have hl2 : (xs.map cSpan).length ≤ 1099511627776 := by rw [List.length_map]; exact hl
    have tof := laws_toHeap_ev n hl
    have eqf := laws_eqHeap_ev n hl2
    have mkf := laws_markHeap_ev n hl2
    have hs := spec_HeapTake_ev n a hl2
    have hi := impl_HeapTake_ev n a hl2
    have hr := htakeV_short (total := n) (a := a) hl2
    generalize htakeV n (xs.map cSpan) a = r at *
    obtain ⟨t, zs, b⟩ := r
    have eqz := laws_eqHeap_ev t hr
    have mkz := laws_markHeap_ev t hr
    have hez := laws_heldHeap_ev t (m := zs.length) hr
    have hbb : (b != b) = false := bne_self_eq_false b
    refine Ev.bind tof (Ev.bind hs (Ev.bind tof (Ev.bind hi (Ev.bind eqz (ev_pos rfl ?_)))))
    rw [hbb]
    refine Ev.step (fun _ => laws_FnExactHeapTake.j0.eq_2 ..) (ev_neg (by decide) (Ev.bind tof (Ev.bind eqf (ev_pos rfl (Ev.bind mkf (ev_neg (by simp only; omega) (Ev.bind eqz (ev_pos rfl ?_))))))))
    rw [hbb]
    refine Ev.step (fun _ => laws_FnExactHeapTake.j1.eq_2 ..) (ev_neg (by decide) (Ev.bind mkz (Ev.bind hez (ev_neg (by omega) (ev_pos rfl (Ev.bind tof (Ev.bind hi (Ev.bind eqz (ev_pos rfl ?_)))))))))
    rw [hbb]
    exact Ev.step (fun _ => laws_FnExactHeapTake.j2.eq_2 ..) (ev_neg (by decide) (Ev.bind hez (ev_neg (by omega) (ev_pos rfl (ev_ret rfl)))))
end Go.Proofs.Ytmjdmaomakkhgaa.Pure
