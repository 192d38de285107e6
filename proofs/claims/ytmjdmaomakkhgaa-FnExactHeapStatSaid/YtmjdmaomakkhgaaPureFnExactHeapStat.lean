/- For every input that the row lets in, FnExactHeapStat answers true; this text proves the plain law that is left when the machine's side is done. -/
import Derived.Test.YtmjdmaomakkhgaaPFnExactHeapStatx4
import Derived.Test.YtmjdmaomakkhgaaBase
set_option linter.unusedVariables false
set_option linter.unusedSimpArgs false
namespace Go.Proofs.Ytmjdmaomakkhgaa.Pure
open Go.RowKit Go.Proofs.Ytmjdmaomakkhgaa.PFnExactHeapStat Go.Proofs.YtmjdmaomakkhgaaW.PrintWords Go.Proofs.YtmjdmaomakkhgaaW.PrintLast Go.Proofs.YtmjdmaomakkhgaaW.PrintMore Go.Proofs.Ytmjdmaomakkhgaa.Base

def cSpan (x : S122) : S85 := ⟨x.f0, x.f1⟩
theorem laws_toSpanS_l0 (xs : List S122) (hl : xs.length ≤ 4611686018427387904) : ∀ (d i : Nat) (ys : List S85), i + d = xs.length → ys.length = xs.length → (∀ j, j < i → ys[j]? = (xs.map cSpan)[j]?) → Ev (fun k => laws_toSpanS.l0 k xs ys (i : Int)) (xs.map cSpan) := by
  intro d
  induction d with
  | zero =>
    intro i ys h hy he
    refine Ev.step (fun _ => laws_toSpanS.l0.eq_2 ..) (ev_neg (by omega) (ev_ret ?_))
    apply List.ext_getElem?
    intro j
    by_cases hj : j < i
    · exact he j hj
    · rw [List.getElem?_eq_none (by omega), List.getElem?_eq_none (by rw [List.length_map]; omega)]
  | succ d ih =>
    intro i ys h hy he
    have hi : i < xs.length := by omega
    have er : rd_T122 xs (i : Int) = xs[i] := getD_nat _ hi
    refine Ev.step (fun _ => laws_toSpanS.l0.eq_2 ..) (ev_pos (by omega) (ev_pos (by omega) (ev_bind0 rfl (ev_pos (by omega) ?_))))
    rw [w64_succ hi hl, er, Int.toNat_natCast]
    refine ih (i + 1) _ (by omega) (by rw [List.length_set]; exact hy) ?_
    intro j hj
    by_cases hji : j = i
    · subst hji
      rw [List.getElem?_set_self (by omega), List.getElem?_map, List.getElem?_eq_getElem hi]; rfl
    · rw [List.getElem?_set_ne (by omega)]
      exact he j (by omega)
theorem laws_toSpanS_ev {xs : List S122} (hl : xs.length ≤ 1099511627776) : Ev (fun k => laws_toSpanS.f k xs) (xs.map cSpan) := by
  unfold laws_toSpanS.f
  refine ev_pos (by omega) (ev_pos (by omega) ?_)
  exact laws_toSpanS_l0 xs (by omega) xs.length 0 _ (by omega) (by simp) (fun j hj => by omega)
theorem laws_eqSpan_self (a0 a1 : Int) : laws_eqSpan.f a0 a1 a0 a1 = some true := by
  unfold laws_eqSpan.f
  simp
theorem laws_eqSpanS_l0 (xs : List S85) (hl : xs.length ≤ 4611686018427387904) : ∀ (d i : Nat), i + d = xs.length → Ev (fun k => laws_eqSpanS.l0 k xs xs (i : Int)) true := by
  intro d
  induction d with
  | zero =>
    intro i h
    exact Ev.step (fun _ => laws_eqSpanS.l0.eq_2 ..) (ev_neg (by omega) (ev_ret rfl))
  | succ d ih =>
    intro i h
    refine Ev.step (fun _ => laws_eqSpanS.l0.eq_2 ..) (ev_pos (by omega) (ev_pos (by omega) (ev_pos (by omega) (ev_bind0 (laws_eqSpan_self ..) (ev_pos rfl ?_)))))
    rw [w64_succ (n := xs.length) (by omega) hl]
    exact ih (i + 1) (by omega)
theorem laws_eqSpanS_ev {xs : List S85} (hl : xs.length ≤ 1099511627776) : Ev (fun k => laws_eqSpanS.f k xs xs) true := by
  unfold laws_eqSpanS.f
  exact ev_pos rfl (laws_eqSpanS_l0 xs (by omega) xs.length 0 (by omega))
theorem laws_szSpanS_eq {xs : List S122} (hl : xs.length ≤ maxLen) {n : Int} (h0 : 0 ≤ n) (h1 : n ≤ 1048576) : laws_szSpanS.f xs n = some (if n < xs.length then -1 else n - xs.length) := by
  have hl2 := wf_le hl
  unfold laws_szSpanS.f
  rw [w64_id (x := n - (xs.length : Int)) (by omega) (by omega)]
  by_cases h : n < xs.length
  · rw [if_pos (by omega), if_pos h]
  · rw [if_neg (by omega), if_neg h]
theorem laws_toHeap_ev (n : Int) {xs : List S122} (hl : xs.length ≤ 1099511627776) : Ev (fun k => laws_toHeap.f k n xs) (n, xs.map cSpan) := by
  unfold laws_toHeap.f
  exact Ev.bind (laws_toSpanS_ev hl) (ev_ret rfl)
theorem laws_eqHeap_ev (n : Int) {xs : List S85} (hl : xs.length ≤ 1099511627776) : Ev (fun k => laws_eqHeap.f k n xs n xs) true := by
  unfold laws_eqHeap.f
  exact ev_pos rfl (Ev.bind (laws_eqSpanS_ev hl) (ev_pos rfl (ev_ret rfl)))
theorem laws_szHeap_eq (n : Int) {xs : List S122} (hl : xs.length ≤ maxLen) : laws_szHeap.f n xs 1048576 = some (if (1048576 : Int) < xs.length then (-1 : Int) else 1048576 - (xs.length : Int)) := by
  unfold laws_szHeap.f
  rw [laws_szSpanS_eq hl (by omega) (by omega), Option.bind_some]
  by_cases h : (1048576 : Int) < xs.length
  · rw [if_pos h]; rfl
  · rw [if_neg h, if_neg (by omega)]
def heapEnd (e : Int) (s : S85) : Int := wrap64 (s.f0 + s.f1)
def spanBad (size e : Int) (s : S85) : Prop := s.f0 < e ∨ ¬ Int.tmod s.f0 8 = 0 ∨ s.f1 ≤ 0 ∨ ¬ Int.tmod s.f1 8 = 0 ∨ s.f1 > size ∨ s.f0 > size - s.f1
instance (size e : Int) (s : S85) : Decidable (spanBad size e s) := by unfold spanBad; exact inferInstance
def spansOk (size : Int) : Int → List S85 → Bool
  | _, [] => true
  | e, s :: ss => if spanBad size e s then false else spansOk size (wrap64 (s.f0 + s.f1)) ss
def heapOk (size : Int) (l : List S85) : Bool := if size < 0 ∨ size > 65536 ∨ ¬ Int.tmod size 8 = 0 ∨ (l.length : Int) > 512 then false else spansOk size 0 l
theorem spec_HeapOk_l0 (size : Int) (hs0 : 0 ≤ size) (hs1 : size ≤ 65536) (l : List S85) (hl : l.length ≤ 512) : ∀ (d i : Nat) (e : Int), i + d = l.length → 0 ≤ e → Ev (fun k => spec_HeapOk.l0 k e (i : Int) size l) (spansOk size e (l.drop i)) := by
  intro d
  induction d with
  | zero =>
    intro i e h he
    rw [List.drop_eq_nil_of_le (by omega)]
    exact Ev.step (fun _ => spec_HeapOk.l0.eq_2 ..) (ev_neg (by omega) (ev_ret rfl))
  | succ d ih =>
    intro i e h he
    have hi : i < l.length := by omega
    have er : rd_T85 l (i : Int) = l[i] := getD_nat _ hi
    rw [List.drop_eq_getElem_cons hi, spansOk]
    refine Ev.step (fun _ => spec_HeapOk.l0.eq_2 ..) (ev_pos (by omega) (ev_pos (by omega) ?_))
    rw [er, w64_succ hi (by omega)]
    generalize l[i] = s
    by_cases hb : spanBad size e s
    · rw [if_pos hb]
      unfold spanBad at hb
      refine ev_split (fun _ => ev_ret rfl) (fun h1 => ev_split (fun h2 => ev_split (fun _ => ev_ret rfl) (fun h3 => ev_split (fun h4 => ev_split (fun _ => ev_ret rfl) (fun h5 => ?_)) (fun _ => ev_ret rfl))) (fun _ => ev_ret rfl))
      rw [w64_id (x := size - s.f1) (by omega) (by omega)]
      exact ev_pos (by omega) (ev_ret rfl)
    · rw [if_neg hb]
      unfold spanBad at hb
      refine ev_neg (by omega) (ev_pos (by omega) (ev_neg (by omega) (ev_pos (by omega) (ev_neg (by omega) ?_))))
      rw [w64_id (x := size - s.f1) (by omega) (by omega)]
      refine ev_neg (by omega) ?_
      exact ih (i + 1) _ (by omega) (by rw [w64_id (by omega) (by omega)]; omega)
theorem spec_HeapOk_ev (size : Int) (l : List S85) : Ev (fun k => spec_HeapOk.f k size l) (heapOk size l) := by
  unfold spec_HeapOk.f heapOk
  have bad : Ev (fun k => spec_HeapOk.j0 k true size l) false := Ev.step (fun _ => spec_HeapOk.j0.eq_2 ..) (ev_pos rfl (ev_ret rfl))
  by_cases hb : size < 0 ∨ size > 65536 ∨ ¬ Int.tmod size 8 = 0 ∨ (l.length : Int) > 512
  · rw [if_pos hb]
    refine ev_split (fun _ => bad) (fun h1 => ev_split (fun _ => bad) (fun h2 => ev_split (fun h3 => ?_) (fun _ => bad)))
    rw [decide_eq_true (by omega : (l.length : Int) > 512)]
    exact bad
  · rw [if_neg hb]
    refine ev_neg (by omega) (ev_neg (by omega) (ev_pos (by omega) ?_))
    rw [decide_eq_false (by omega : ¬ (l.length : Int) > 512)]
    refine Ev.step (fun _ => spec_HeapOk.j0.eq_2 ..) (ev_neg (by decide) ?_)
    exact spec_HeapOk_l0 size (by omega) (by omega) l (by omega) l.length 0 0 (by omega) (by omega)
theorem impl_HeapOk_l0 (size : Int) (hs0 : 0 ≤ size) (hs1 : size ≤ 65536) (l l' : List S85) (hl : l.length ≤ 512) : ∀ (d i : Nat) (e : Int), i + d = l.length → 0 ≤ e → Ev (fun k => impl_HeapOk.l0 k e l (l.length : Int) (i : Int) size l') (spansOk size e (l.drop i)) := by
  intro d
  induction d with
  | zero =>
    intro i e h he
    rw [List.drop_eq_nil_of_le (by omega)]
    exact Ev.step (fun _ => impl_HeapOk.l0.eq_2 ..) (ev_neg (by omega) (ev_ret rfl))
  | succ d ih =>
    intro i e h he
    have hi : i < l.length := by omega
    have er : rd_T85 l (i : Int) = l[i] := getD_nat _ hi
    rw [List.drop_eq_getElem_cons hi, spansOk]
    refine Ev.step (fun _ => impl_HeapOk.l0.eq_2 ..) (ev_pos (by omega) (ev_pos (by omega) (ev_pos (by omega) ?_)))
    rw [er, w64_succ hi (by omega)]
    generalize l[i] = s
    by_cases hb : spanBad size e s
    · rw [if_pos hb]
      unfold spanBad at hb
      refine ev_split (fun _ => ev_ret rfl) (fun h1 => ev_split (fun h2 => ev_split (fun h3 => ev_split (fun _ => ev_ret rfl) (fun h4 => ev_split (fun _ => ev_ret rfl) (fun h5 => ?_))) (fun _ => ev_ret rfl)) (fun _ => ev_ret rfl))
      rw [w64_id (x := size - s.f0) (by omega) (by omega)]
      exact ev_pos (by omega) (ev_ret rfl)
    · rw [if_neg hb]
      unfold spanBad at hb
      refine ev_neg (by omega) (ev_pos (by omega) (ev_pos (by omega) (ev_neg (by omega) (ev_neg (by omega) ?_))))
      rw [w64_id (x := size - s.f0) (by omega) (by omega)]
      refine ev_neg (by omega) ?_
      exact ih (i + 1) _ (by omega) (by rw [w64_id (by omega) (by omega)]; omega)
theorem impl_HeapOk_ev (size : Int) (l : List S85) : Ev (fun k => impl_HeapOk.f k size l) (heapOk size l) := by
  unfold impl_HeapOk.f heapOk
  have bad : Ev (fun k => impl_HeapOk.j0 k true size l) false := Ev.step (fun _ => impl_HeapOk.j0.eq_2 ..) (ev_pos rfl (ev_ret rfl))
  by_cases hb : size < 0 ∨ size > 65536 ∨ ¬ Int.tmod size 8 = 0 ∨ (l.length : Int) > 512
  · rw [if_pos hb]
    refine ev_split (fun _ => bad) (fun h1 => ev_split (fun _ => bad) (fun h2 => ev_split (fun h3 => ?_) (fun _ => bad)))
    rw [decide_eq_true (by omega : (l.length : Int) > 512)]
    exact bad
  · rw [if_neg hb]
    refine ev_neg (by omega) (ev_neg (by omega) (ev_pos (by omega) ?_))
    rw [decide_eq_false (by omega : ¬ (l.length : Int) > 512)]
    refine Ev.step (fun _ => impl_HeapOk.j0.eq_2 ..) (ev_neg (by decide) ?_)
    exact impl_HeapOk_l0 size (by omega) (by omega) l l (by omega) l.length 0 0 (by omega) (by omega)
theorem spansOk_cons {size e : Int} {s : S85} {ss : List S85} (h : spansOk size e (s :: ss) = true) : ¬ spanBad size e s ∧ spansOk size (wrap64 (s.f0 + s.f1)) ss = true := by
  rw [spansOk] at h
  by_cases hb : spanBad size e s
  · rw [if_pos hb] at h; exact absurd h (by decide)
  · rw [if_neg hb] at h; exact ⟨hb, h⟩
def usumL : List S85 → Int
  | [] => 0
  | s :: ss => s.f1 + usumL ss
def lsumL (size : Int) : Int → List S85 → Int
  | e, [] => size - e
  | e, s :: ss => (s.f0 - e) + lsumL size (s.f0 + s.f1) ss
def lgstL (size : Int) : Int → Int → List S85 → Int
  | e, m, [] => mx m (size - e)
  | e, m, s :: ss => lgstL size (s.f0 + s.f1) (mx m (s.f0 - e)) ss
theorem lsum_usum (size : Int) : ∀ (l : List S85) (e : Int), lsumL size e l + usumL l = size - e
  | [], e => by simp [lsumL, usumL]
  | s :: ss, e => by
    have := lsum_usum size ss (s.f0 + s.f1)
    simp only [lsumL, usumL]
    omega
def statV (size : Int) (l : List S85) : Int × Int × Int × Int := if heapOk size l then (usumL l, size - usumL l, lgstL size 0 0 l, (l.length : Int)) else (0, 0, 0, 0)
theorem mx_le {a b c : Int} (ha : a ≤ c) (hb : b ≤ c) : mx a b ≤ c := by unfold mx; split <;> assumption
theorem mx_ge {a b : Int} (ha : 0 ≤ a) : 0 ≤ mx a b := by unfold mx; split <;> omega
theorem usum_nonneg {size : Int} : ∀ (l : List S85) (e : Int), spansOk size e l = true → 0 ≤ e → e ≤ size → size ≤ 65536 → 0 ≤ usumL l ∧ usumL l ≤ size - e
  | [], e, _, h0, h1, _ => by simp only [usumL]; omega
  | s :: ss, e, h, h0, h1, h2 => by
    obtain ⟨hb, hr⟩ := spansOk_cons h
    unfold spanBad at hb
    rw [w64_id (by omega) (by omega)] at hr
    have := usum_nonneg ss _ hr (by omega) (by omega) h2
    simp only [usumL]
    omega
theorem spec_HeapStat_l0 (size : Int) (hs1 : size ≤ 65536) (l : List S85) (hl : l.length ≤ 512) : ∀ (d i : Nat) (e lf m c : Int), i + d = l.length → 0 ≤ e → e ≤ size → 0 ≤ lf → lf ≤ e → 0 ≤ m → m ≤ size → spansOk size e (l.drop i) = true →
    Ev (fun k => spec_HeapStat.l0 k e (i : Int) size l 0 lf m c) (size - (lf + lsumL size e (l.drop i)), lf + lsumL size e (l.drop i), lgstL size e m (l.drop i), c) := by
  intro d
  induction d with
  | zero =>
    intro i e lf m c h he he2 hf hf2 hm hm2 hok
    obtain rfl : i = l.length := by omega
    rw [List.drop_eq_nil_of_le (by omega)]
    simp only [lsumL, lgstL]
    refine Ev.step (fun _ => spec_HeapStat.l0.eq_2 ..) (ev_pos (by omega) (ev_neg (by omega) (Ev.step (fun _ => spec_HeapStat.j1.eq_2 ..) ?_)))
    rw [w64_id (x := size - e) (by omega) (by omega), w64_id (x := lf + size) (by omega) (by omega), w64_id (x := lf + size - e) (by omega) (by omega), w64_id (x := (l.length : Int) + 1) (by omega) (by omega)]
    have fin : ∀ m' : Int, m' = mx m (size - e) → Ev (fun k => spec_HeapStat.l0 k e ((l.length : Int) + 1) size l 0 (lf + size - e) m' c) (size - (lf + (size - e)), lf + (size - e), mx m (size - e), c) := by
      intro m' hm'
      refine Ev.step (fun _ => spec_HeapStat.l0.eq_2 ..) (ev_neg (by omega) (ev_ret ?_))
      rw [w64_id (by omega) (by omega), hm', show lf + size - e = lf + (size - e) by omega]
    refine ev_split (fun h1 => ev_neg (by omega) (fin _ ?_)) (fun h1 => ev_neg (by omega) (fin _ ?_))
    · unfold mx; rw [if_pos (by omega)]
    · unfold mx; rw [if_neg (by omega)]
  | succ d ih =>
    intro i e lf m c h he he2 hf hf2 hm hm2 hok
    have hi : i < l.length := by omega
    have er : rd_T85 l (i : Int) = l[i] := getD_nat _ hi
    rw [List.drop_eq_getElem_cons hi] at hok ⊢
    simp only [lsumL, lgstL]
    refine Ev.step (fun _ => spec_HeapStat.l0.eq_2 ..) (ev_pos (by omega) (ev_pos (by omega) (ev_pos (by omega) (Ev.step (fun _ => spec_HeapStat.j1.eq_2 ..) ?_))))
    rw [er, w64_succ hi (by omega)]
    generalize l[i] = s at *
    obtain ⟨hb, hr⟩ := spansOk_cons hok
    unfold spanBad at hb
    rw [w64_id (by omega) (by omega)] at hr
    rw [w64_id (x := s.f0 - e) (by omega) (by omega), w64_id (x := lf + s.f0) (by omega) (by omega), w64_id (x := lf + s.f0 - e) (by omega) (by omega), w64_id (x := s.f0 + s.f1) (by omega) (by omega)]
    have go : ∀ m' : Int, m' = mx m (s.f0 - e) → Ev (fun k => spec_HeapStat.l0 k (s.f0 + s.f1) ((i + 1 : Nat) : Int) size l 0 (lf + s.f0 - e) m' c) (size - (lf + (s.f0 - e + lsumL size (s.f0 + s.f1) (l.drop (i + 1)))), lf + (s.f0 - e + lsumL size (s.f0 + s.f1) (l.drop (i + 1))), lgstL size (s.f0 + s.f1) (mx m (s.f0 - e)) (l.drop (i + 1)), c) := by
      intro m' hm'
      rw [hm']
      refine ev_eq ?_ (ih (i + 1) (s.f0 + s.f1) (lf + s.f0 - e) (mx m (s.f0 - e)) c (by omega) (by omega) (by omega) (by omega) (by omega) (mx_ge hm) (mx_le hm2 (by omega)) hr)
      rw [show lf + s.f0 - e + lsumL size (s.f0 + s.f1) (l.drop (i + 1)) = lf + (s.f0 - e + lsumL size (s.f0 + s.f1) (l.drop (i + 1))) by omega]
    refine ev_split (fun h1 => ev_pos (by omega) (ev_pos (by omega) (go _ ?_))) (fun h1 => ev_pos (by omega) (ev_pos (by omega) (go _ ?_)))
    · unfold mx; rw [if_pos (by omega)]
    · unfold mx; rw [if_neg (by omega)]
theorem heapOk_parts {size : Int} {l : List S85} (h : heapOk size l = true) : 0 ≤ size ∧ size ≤ 65536 ∧ l.length ≤ 512 ∧ spansOk size 0 l = true := by
  unfold heapOk at h
  by_cases hb : size < 0 ∨ size > 65536 ∨ ¬ Int.tmod size 8 = 0 ∨ (l.length : Int) > 512
  · rw [if_pos hb] at h; exact absurd h (by decide)
  · rw [if_neg hb] at h; exact ⟨by omega, by omega, by omega, h⟩
theorem spec_HeapStat_ev (size : Int) (l : List S85) : Ev (fun k => spec_HeapStat.f k size l) (statV size l) := by
  unfold spec_HeapStat.f statV
  refine Ev.bind (spec_HeapOk_ev size l) ?_
  by_cases h : heapOk size l = true
  · obtain ⟨h0, h1, h2, h3⟩ := heapOk_parts h
    rw [if_pos h]
    refine ev_pos h (ev_eq ?_ (spec_HeapStat_l0 size h1 l h2 l.length 0 0 0 0 (l.length : Int) (by omega) (by omega) (by omega) (by omega) (by omega) (by omega) (by omega) h3))
    have := lsum_usum size l 0
    rw [List.drop_zero, show 0 + lsumL size 0 l = size - usumL l by omega, show size - (size - usumL l) = usumL l by omega]
  · rw [if_neg h]
    exact ev_neg h (ev_ret rfl)
theorem impl_HeapStat_l0 (size : Int) (hs1 : size ≤ 65536) (l l' : List S85) (hl : l.length ≤ 512) : ∀ (d i : Nat) (e u z m c : Int), i + d = l.length → 0 ≤ e → e ≤ size → 0 ≤ u → u ≤ e → 0 ≤ m → m ≤ size → spansOk size e (l.drop i) = true →
    Ev (fun k => impl_HeapStat.l0 k e l (l.length : Int) (i : Int) size l' u z m c) (u + usumL (l.drop i), size - (u + usumL (l.drop i)), lgstL size e m (l.drop i), c) := by
  intro d
  induction d with
  | zero =>
    intro i e u z m c h he he2 hf hf2 hm hm2 hok
    rw [List.drop_eq_nil_of_le (by omega)]
    simp only [usumL, lgstL]
    refine Ev.step (fun _ => impl_HeapStat.l0.eq_2 ..) (ev_neg (by omega) (ev_ret ?_))
    rw [w64_id (by omega) (by omega), w64_id (by omega) (by omega), Int.add_zero]
  | succ d ih =>
    intro i e u z m c h he he2 hf hf2 hm hm2 hok
    have hi : i < l.length := by omega
    have er : rd_T85 l (i : Int) = l[i] := getD_nat _ hi
    rw [List.drop_eq_getElem_cons hi] at hok ⊢
    simp only [usumL, lgstL]
    refine Ev.step (fun _ => impl_HeapStat.l0.eq_2 ..) (ev_pos (by omega) (ev_pos (by omega) (ev_pos (by omega) ?_)))
    rw [er, w64_succ hi (by omega)]
    generalize l[i] = s at *
    obtain ⟨hb, hr⟩ := spansOk_cons hok
    unfold spanBad at hb
    rw [w64_id (by omega) (by omega)] at hr
    rw [w64_id (x := s.f0 - e) (by omega) (by omega), w64_id (x := u + s.f1) (by omega) (by omega), w64_id (x := s.f0 + s.f1) (by omega) (by omega)]
    refine ev_eq ?_ (ih (i + 1) (s.f0 + s.f1) (u + s.f1) z (mx m (s.f0 - e)) c (by omega) (by omega) (by omega) (by omega) (by omega) (mx_ge hm) (mx_le hm2 (by omega)) hr)
    rw [Int.add_assoc]
theorem impl_HeapStat_ev (size : Int) (l : List S85) : Ev (fun k => impl_HeapStat.f k size l) (statV size l) := by
  unfold impl_HeapStat.f statV
  refine Ev.bind (impl_HeapOk_ev size l) ?_
  by_cases h : heapOk size l = true
  · obtain ⟨h0, h1, h2, h3⟩ := heapOk_parts h
    rw [if_pos h]
    refine ev_pos h (ev_eq ?_ (impl_HeapStat_l0 size h1 l l h2 l.length 0 0 0 0 0 (l.length : Int) (by omega) (by omega) (by omega) (by omega) (by omega) (by omega) (by omega) h3))
    rw [List.drop_zero, Int.zero_add]
  · rw [if_neg h]
    exact ev_neg h (ev_ret rfl)
theorem FnExactHeapStat : laws_FnExactHeapStat.Pure := by
  intro n xs hq
  have hm : xs.length ≤ maxLen := hq.2.1
  refine Ev.rounds ?_
  unfold laws_FnExactHeapStat.f
  refine ev_bind0 (laws_szHeap_eq n hm) ?_
  by_cases h : (1048576 : Int) < xs.length
  · rw [if_pos h]
    exact ev_pos (by omega) (ev_ret rfl)
  · rw [if_neg h]
    refine ev_neg (by omega) ?_
    have hl : xs.length ≤ 1099511627776 := by omega
    have hl2 : (xs.map cSpan).length ≤ 1099511627776 := by rw [List.length_map]; exact hl
    have es : ∀ a b c d : Int, laws_eqStat.f a b c d a b c d = some true := by intro a b c d; unfold laws_eqStat.f; simp
    exact Ev.bind (laws_toHeap_ev n hl) (Ev.bind (spec_HeapStat_ev ..) (Ev.bind (laws_toHeap_ev n hl) (Ev.bind (impl_HeapStat_ev ..) (ev_bind0 (es ..) (ev_pos rfl (Ev.bind (laws_toHeap_ev n hl) (Ev.bind (laws_eqHeap_ev n hl2) (ev_pos rfl (ev_ret rfl)))))))))
end Go.Proofs.Ytmjdmaomakkhgaa.Pure
