/- For every input that the row lets in, FnExactImageOk answers true; this text proves the plain law that is left when the machine's side is done. -/
import Derived.Test.YtokiliilbopgkaaPFnExactImageOkx5
import Derived.Test.YtokiliilbopgkaaBase
set_option linter.unusedVariables false
set_option linter.unusedSimpArgs false
namespace Go.Proofs.Ytokiliilbopgkaa.Pure
open Go.RowKit Go.Proofs.Ytokiliilbopgkaa.PFnExactImageOk Go.Proofs.YtokiliilbopgkaaW.PrintWords Go.Proofs.YtokiliilbopgkaaW.PrintLast Go.Proofs.YtokiliilbopgkaaW.PrintMore Go.Proofs.Ytokiliilbopgkaa.Base

theorem laws_toByteS_l0 (xs : List Int) (hl : xs.length ≤ 4611686018427387904) : ∀ (d i : Nat) (ys : List Int), i + d = xs.length → ys.length = xs.length → (∀ j, j < i → ys[j]? = xs[j]?) → Ev (fun k => laws_toByteS.l0 k xs ys (i : Int)) xs := by
  intro d
  induction d with
  | zero =>
    intro i ys h hy he
    refine Ev.step (fun _ => laws_toByteS.l0.eq_2 ..) ?_
    refine ev_neg (by omega) (ev_ret ?_)
    apply List.ext_getElem?
    intro j
    by_cases hj : j < i
    · exact he j hj
    · rw [List.getElem?_eq_none (by omega), List.getElem?_eq_none (by omega)]
  | succ d ih =>
    intro i ys h hy he
    refine Ev.step (fun _ => laws_toByteS.l0.eq_2 ..) ?_
    refine ev_pos (by omega) (ev_pos (by omega) (ev_pos (by omega) ?_))
    have e : wrap64 ((i : Int) + 1) = ((i + 1 : Nat) : Int) := by rw [w64_id (by omega) (by omega)]; omega
    rw [e, rd_nat (by omega), Int.toNat_natCast]
    refine ih (i + 1) _ (by omega) (by rw [List.length_set]; exact hy) ?_
    intro j hj
    by_cases hji : j = i
    · subst hji
      rw [List.getElem?_set_self (by omega), List.getElem?_eq_getElem (by omega)]
    · rw [List.getElem?_set_ne (by omega)]
      exact he j (by omega)
theorem laws_toByteS_ev {xs : List Int} (hl : xs.length ≤ 281474976710656) : Ev (fun k => laws_toByteS.f k xs) xs := by
  unfold laws_toByteS.f
  refine ev_pos (by omega) (ev_pos (by omega) ?_)
  exact laws_toByteS_l0 xs (by omega) xs.length 0 _ (by omega) (by simp) (fun j hj => by omega)
theorem laws_eqByteS_l0 (xs : List Int) (hl : xs.length ≤ 4611686018427387904) : ∀ (d i : Nat), i + d = xs.length → Ev (fun k => laws_eqByteS.l0 k xs xs (i : Int)) true := by
  intro d
  induction d with
  | zero =>
    intro i h
    refine Ev.step (fun _ => laws_eqByteS.l0.eq_2 ..) ?_
    exact ev_neg (by omega) (ev_ret rfl)
  | succ d ih =>
    intro i h
    refine Ev.step (fun _ => laws_eqByteS.l0.eq_2 ..) ?_
    refine ev_pos (by omega) (ev_pos (by omega) (ev_pos (by omega) (ev_pos rfl ?_)))
    have e : wrap64 ((i : Int) + 1) = ((i + 1 : Nat) : Int) := by rw [w64_id (by omega) (by omega)]; omega
    rw [e]
    exact ih (i + 1) (by omega)
theorem laws_eqByteS_ev {xs : List Int} (hl : xs.length ≤ 281474976710656) : Ev (fun k => laws_eqByteS.f k xs xs) true := by
  unfold laws_eqByteS.f
  exact ev_pos rfl (laws_eqByteS_l0 xs (by omega) xs.length 0 (by omega))
theorem laws_szByteS_eq {xs : List Int} (hl : xs.length ≤ maxLen) {n : Int} (h0 : 0 ≤ n) (h1 : n ≤ 1048576) : laws_szByteS.f xs n = some (if n < xs.length then (-1 : Int) else n - (xs.length : Int)) := by
  have hl2 := wf_le hl
  unfold laws_szByteS.f
  rw [w64_id (x := n - (xs.length : Int)) (by omega) (by omega)]
  by_cases h : n < xs.length
  · rw [if_pos (by omega), if_pos h]
  · rw [if_neg (by omega), if_neg h]
def cSeg (x : S78) : S58 := ⟨x.f0, x.f1, x.f2, x.f3⟩
theorem laws_toSeg_ev (a b c : Int) {l : List Int} (hl : l.length ≤ 281474976710656) : Ev (fun k => laws_toSeg.f k a b c l) (a, b, c, l) := by
  unfold laws_toSeg.f
  exact Ev.bind (laws_toByteS_ev hl) (ev_ret rfl)
theorem laws_toSegS_l0 (xs : List S78) (hl : xs.length ≤ 4611686018427387904) (hd : ∀ s ∈ xs, s.f3.length ≤ 281474976710656) : ∀ (d i : Nat) (ys : List S58), i + d = xs.length → ys.length = xs.length → (∀ j, j < i → ys[j]? = (xs.map cSeg)[j]?) → Ev (fun k => laws_toSegS.l0 k xs ys (i : Int)) (xs.map cSeg) := by
  intro d
  induction d with
  | zero =>
    intro i ys h hy he
    refine Ev.step (fun _ => laws_toSegS.l0.eq_2 ..) (ev_neg (by omega) (ev_ret ?_))
    apply List.ext_getElem?
    intro j
    by_cases hj : j < i
    · exact he j hj
    · rw [List.getElem?_eq_none (by omega), List.getElem?_eq_none (by rw [List.length_map]; omega)]
  | succ d ih =>
    intro i ys h hy he
    have hi : i < xs.length := by omega
    have er : rd_T78 xs (i : Int) = xs[i] := getD_nat _ hi
    refine Ev.step (fun _ => laws_toSegS.l0.eq_2 ..) (ev_pos (by omega) (ev_pos (by omega) ?_))
    rw [w64_succ hi hl, er, Int.toNat_natCast]
    refine Ev.bind (laws_toSeg_ev _ _ _ (hd _ (List.getElem_mem hi))) (ev_pos (by omega) ?_)
    refine ih (i + 1) _ (by omega) (by rw [List.length_set]; exact hy) ?_
    intro j hj
    by_cases hji : j = i
    · subst hji
      rw [List.getElem?_set_self (by omega), List.getElem?_map, List.getElem?_eq_getElem hi]; rfl
    · rw [List.getElem?_set_ne (by omega)]
      exact he j (by omega)
theorem laws_toSegS_ev {xs : List S78} (hl : xs.length ≤ 1099511627776) (hd : ∀ s ∈ xs, s.f3.length ≤ 281474976710656) : Ev (fun k => laws_toSegS.f k xs) (xs.map cSeg) := by
  unfold laws_toSegS.f
  refine ev_pos (by omega) (ev_pos (by omega) ?_)
  exact laws_toSegS_l0 xs (by omega) hd xs.length 0 _ (by omega) (by simp) (fun j hj => by omega)
theorem laws_toImage_ev (n : Int) {xs : List S78} (hl : xs.length ≤ 1099511627776) (hd : ∀ s ∈ xs, s.f3.length ≤ 281474976710656) : Ev (fun k => laws_toImage.f k n xs) (n, xs.map cSeg) := by
  unfold laws_toImage.f
  exact Ev.bind (laws_toSegS_ev hl hd) (ev_ret rfl)
theorem laws_eqSeg_ev (a b c : Int) {l : List Int} (hl : l.length ≤ 281474976710656) : Ev (fun k => laws_eqSeg.f k a b c l a b c l) true := by
  unfold laws_eqSeg.f
  exact ev_pos rfl (ev_pos rfl (ev_pos rfl (Ev.bind (laws_eqByteS_ev hl) (ev_pos rfl (ev_ret rfl)))))
theorem laws_eqSegS_l0 (xs : List S58) (hl : xs.length ≤ 4611686018427387904) (hd : ∀ s ∈ xs, s.f3.length ≤ 281474976710656) : ∀ (d i : Nat), i + d = xs.length → Ev (fun k => laws_eqSegS.l0 k xs xs (i : Int)) true := by
  intro d
  induction d with
  | zero =>
    intro i h
    exact Ev.step (fun _ => laws_eqSegS.l0.eq_2 ..) (ev_neg (by omega) (ev_ret rfl))
  | succ d ih =>
    intro i h
    have hi : i < xs.length := by omega
    have er : rd_T58 xs (i : Int) = xs[i] := getD_nat _ hi
    refine Ev.step (fun _ => laws_eqSegS.l0.eq_2 ..) (ev_pos (by omega) (ev_pos (by omega) (ev_pos (by omega) ?_)))
    rw [w64_succ hi hl, er]
    exact Ev.bind (laws_eqSeg_ev _ _ _ (hd _ (List.getElem_mem hi))) (ev_pos rfl (ih (i + 1) (by omega)))
theorem laws_eqSegS_ev {xs : List S58} (hl : xs.length ≤ 1099511627776) (hd : ∀ s ∈ xs, s.f3.length ≤ 281474976710656) : Ev (fun k => laws_eqSegS.f k xs xs) true := by
  unfold laws_eqSegS.f
  exact ev_pos rfl (laws_eqSegS_l0 xs (by omega) hd xs.length 0 (by omega))
theorem laws_eqImage_ev (n : Int) {xs : List S58} (hl : xs.length ≤ 1099511627776) (hd : ∀ s ∈ xs, s.f3.length ≤ 281474976710656) : Ev (fun k => laws_eqImage.f k n xs n xs) true := by
  unfold laws_eqImage.f
  exact ev_pos rfl (Ev.bind (laws_eqSegS_ev hl hd) (ev_pos rfl (ev_ret rfl)))
theorem laws_szSeg_eq (a b c : Int) {l : List Int} (hl : l.length ≤ maxLen) {n : Int} (h0 : 0 ≤ n) (h1 : n ≤ 1048576) : laws_szSeg.f a b c l n = some (if n < l.length then (-1 : Int) else n - (l.length : Int)) := by
  unfold laws_szSeg.f
  rw [laws_szByteS_eq hl h0 h1, Option.bind_some]
  by_cases h : n < l.length
  · rw [if_pos h]; rfl
  · rw [if_neg h, if_neg (by omega)]
theorem laws_szSegS_l0 (xs : List S78) (hl : xs.length ≤ 1048576) (hd : ∀ s ∈ xs, s.f3.length ≤ maxLen) : ∀ (d i : Nat) (n : Int), i + d = xs.length → 0 ≤ n → n ≤ 1048576 →
    Ev (fun k => laws_szSegS.l0 k xs n (i : Int)) (-1) ∨ ∃ v, 0 ≤ v ∧ v ≤ n ∧ Ev (fun k => laws_szSegS.l0 k xs n (i : Int)) v ∧ ∀ s ∈ xs.drop i, (s.f3.length : Int) ≤ 1048576 := by
  intro d
  induction d with
  | zero =>
    intro i n h h0 h1
    refine .inr ⟨n, h0, Int.le_refl _, Ev.step (fun _ => laws_szSegS.l0.eq_2 ..) (ev_neg (by omega) (ev_ret rfl)), ?_⟩
    rw [List.drop_eq_nil_of_le (by omega)]
    intro s hs
    cases hs
  | succ d ih =>
    intro i n h h0 h1
    have hi : i < xs.length := by omega
    have er : rd_T78 xs (i : Int) = xs[i] := getD_nat _ hi
    have hx := hd _ (List.getElem_mem hi)
    have st : ∀ r, Ev (fun k => (laws_szSeg.f xs[i].f0 xs[i].f1 xs[i].f2 xs[i].f3 n).bind fun t => (if t < 0 then (some (-1)) else (laws_szSegS.l0 k xs t ((i + 1 : Nat) : Int)))) r → Ev (fun k => laws_szSegS.l0 k xs n (i : Int)) r := by
      intro r hr
      refine Ev.step (fun _ => laws_szSegS.l0.eq_2 ..) (ev_pos (by omega) (ev_pos (by omega) ?_))
      rw [er, w64_succ hi (by omega)]
      exact hr
    by_cases hc : n < xs[i].f3.length
    · exact .inl (st _ (ev_bind0 (by rw [laws_szSeg_eq _ _ _ hx h0 h1, if_pos hc]) (ev_pos (by decide) (ev_ret rfl))))
    · have e1 := laws_szSeg_eq xs[i].f0 xs[i].f1 xs[i].f2 hx h0 h1
      rw [if_neg hc] at e1
      rcases ih (i + 1) (n - xs[i].f3.length) (by omega) (by omega) (by omega) with hr | ⟨v, v0, v1, hv, hall⟩
      · exact .inl (st _ (ev_bind0 e1 (ev_neg (by omega) hr)))
      · refine .inr ⟨v, v0, by omega, st _ (ev_bind0 e1 (ev_neg (by omega) hv)), ?_⟩
        rw [List.drop_eq_getElem_cons hi]
        intro s hs
        rcases List.mem_cons.1 hs with rfl | hs
        · omega
        · exact hall s hs
theorem laws_szSegS_ev {xs : List S78} (hm : xs.length ≤ maxLen) (hd : ∀ s ∈ xs, s.f3.length ≤ maxLen) {n : Int} (h0 : 0 ≤ n) (h1 : n ≤ 1048576) :
    Ev (fun k => laws_szSegS.f k xs n) (-1) ∨ ∃ v, 0 ≤ v ∧ v ≤ n ∧ Ev (fun k => laws_szSegS.f k xs n) v ∧ xs.length ≤ 1048576 ∧ ∀ s ∈ xs, (s.f3.length : Int) ≤ 1048576 := by
  have hm2 := wf_le hm
  unfold laws_szSegS.f
  rw [w64_id (x := n - (xs.length : Int)) (by omega) (by omega)]
  by_cases h : n < xs.length
  · exact .inl (ev_pos (by omega) (ev_ret rfl))
  · rcases laws_szSegS_l0 xs (by omega) hd xs.length 0 (n - xs.length) (by omega) (by omega) (by omega) with hr | ⟨v, v0, v1, hv, hall⟩
    · exact .inl (ev_neg (by omega) hr)
    · exact .inr ⟨v, v0, by omega, ev_neg (by omega) hv, by omega, hall⟩
theorem laws_szImage_ev (e : Int) {xs : List S78} (hm : xs.length ≤ maxLen) (hd : ∀ s ∈ xs, s.f3.length ≤ maxLen) {n : Int} (h0 : 0 ≤ n) (h1 : n ≤ 1048576) :
    Ev (fun k => laws_szImage.f k e xs n) (-1) ∨ ∃ v, 0 ≤ v ∧ v ≤ n ∧ Ev (fun k => laws_szImage.f k e xs n) v ∧ xs.length ≤ 1048576 ∧ ∀ s ∈ xs, (s.f3.length : Int) ≤ 1048576 := by
  unfold laws_szImage.f
  rcases laws_szSegS_ev hm hd h0 h1 with hr | ⟨v, v0, v1, hv, hall⟩
  · exact .inl (Ev.bind hr (ev_pos (by decide) (ev_ret rfl)))
  · exact .inr ⟨v, v0, v1, Ev.bind hv (ev_neg (by omega) (ev_ret rfl)), hall⟩
def protOkV (p : Int) : Bool := decide (p = 1 ∨ p = 3 ∨ p = 5)
theorem spec_l5ProtOk_eq (p : Int) : spec_l5ProtOk.f p = some (protOkV p) := by
  unfold spec_l5ProtOk.f protOkV
  by_cases h1 : p = 1
  · simp [h1]
  · by_cases h2 : p = 3
    · simp [h2]
    · rw [if_neg h1, if_neg h2]
      by_cases h3 : p = 5 <;> simp [h1, h2, h3]
def pgUp (n : Int) : Int := (n + 255) / 256 * 256
theorem tmod_pos {a b : Int} (h : 0 ≤ a) : Int.tmod a b = a % b := Int.tmod_eq_emod_of_nonneg h
theorem spec_l5PageUp_l0 : ∀ (d : Nat) (x : Int), 0 ≤ x → x ≤ 1099511627776 → pgUp x - x = d → Ev (fun k => spec_l5PageUp.l0 k x) (pgUp x) := by
  intro d
  induction d with
  | zero =>
    intro x h0 h1 hd
    unfold pgUp at *
    refine Ev.step (fun _ => spec_l5PageUp.l0.eq_2 ..) (ev_pos ?_ (ev_ret (by omega)))
    rw [tmod_pos h0]; omega
  | succ d ih =>
    intro x h0 h1 hd
    have e : pgUp (x + 1) = pgUp x := by unfold pgUp at *; omega
    refine Ev.step (fun _ => spec_l5PageUp.l0.eq_2 ..) (ev_neg ?_ ?_)
    · rw [tmod_pos h0]; unfold pgUp at hd; omega
    · rw [w64_id (by omega) (by omega), ← e]
      exact ih (x + 1) (by omega) (by unfold pgUp at *; omega) (by rw [e]; omega)
theorem spec_l5PageUp_ev {x : Int} (h0 : 0 ≤ x) (h1 : x ≤ 1099511627000) : Ev (fun k => spec_l5PageUp.f k x) (pgUp x) := by
  unfold spec_l5PageUp.f
  have hp : x ≤ pgUp x ∧ pgUp x ≤ x + 255 := by unfold pgUp; omega
  exact spec_l5PageUp_l0 (pgUp x - x).toNat x h0 (by omega) (by omega)
def segBad (e : Int) (s : S58) : Prop := ¬ Int.tmod s.f0 256 = 0 ∨ s.f0 < e ∨ s.f0 > 4194304 ∨ s.f2 < 1 ∨ s.f2 > 65536 ∨ s.f0 + s.f2 > 4194304 ∨ (s.f3.length : Int) > s.f2 ∨ (¬ s.f1 = 1 ∧ ¬ s.f1 = 3 ∧ ¬ s.f1 = 5)
instance (e : Int) (s : S58) : Decidable (segBad e s) := by unfold segBad; exact inferInstance
def segHit (en : Int) (s : S58) : Prop := s.f1 = 5 ∧ en ≥ s.f0 ∧ en < s.f0 + s.f2
instance (en : Int) (s : S58) : Decidable (segHit en s) := by unfold segHit; exact inferInstance
def segsOk (en : Int) : Int → Bool → List S58 → Bool
  | _, got, [] => got
  | e, got, s :: ss => if segBad e s then false else segsOk en (s.f0 + pgUp s.f2) (got || decide (segHit en s)) ss
def imageOk (en : Int) (l : List S58) : Bool := if (l.length : Int) < 1 ∨ (l.length : Int) > 8 ∨ ¬ Int.tmod en 4 = 0 then false else segsOk en 256 false l
theorem spec_ImageOk_l0 (en : Int) (l : List S58) (hl : l.length ≤ 8) : ∀ (d i : Nat) (e : Int) (got : Bool), i + d = l.length → 256 ≤ e → e ≤ 4259840 → (∀ h : 0 < i, ∀ hi : i - 1 < l.length, e = pgUp (l[i - 1].f0 + l[i - 1].f2) ∧ 256 ≤ l[i - 1].f0 + l[i - 1].f2 ∧ l[i - 1].f0 + l[i - 1].f2 ≤ 4194304) → (i = 0 → e = 256) →
    Ev (fun k => spec_ImageOk.l0 k (l.length : Int) got (i : Int) en l) (segsOk en e got (l.drop i)) := by
  intro d
  induction d with
  | zero =>
    intro i e got h h0 h1 hp hz
    rw [List.drop_eq_nil_of_le (by omega)]
    exact Ev.step (fun _ => spec_ImageOk.l0.eq_2 ..) (ev_neg (by omega) (ev_ret rfl))
  | succ d ih =>
    intro i e got h h0 h1 hp hz
    have hi : i < l.length := by omega
    have er : rd_T58 l (i : Int) = l[i] := getD_nat _ hi
    rw [List.drop_eq_getElem_cons hi, segsOk]
    refine Ev.step (fun _ => spec_ImageOk.l0.eq_2 ..) (ev_pos (by omega) (ev_pos (by omega) (ev_pos (by omega) ?_)))
    rw [er]
    have next : ∀ (s : S58) (g : Bool), s = l[i] → ¬ segBad e s → Ev (fun k => spec_ImageOk.l0 k (l.length : Int) g ((i + 1 : Nat) : Int) en l) (segsOk en (s.f0 + pgUp s.f2) g (l.drop (i + 1))) := by
      intro s g hs hb
      unfold segBad at hb
      have ht : Int.tmod s.f0 256 = s.f0 % 256 := tmod_pos (by omega)
      rw [ht] at hb
      refine ih (i + 1) _ g (by omega) (by unfold pgUp; omega) (by unfold pgUp; omega) ?_ (by omega)
      intro _ hi2
      have e1 : l[i + 1 - 1]'hi2 = s := by rw [hs]; rfl
      rw [e1]
      unfold pgUp
      omega
    have bad : ∀ (g : Bool) (a b c : Int) (dl : List Int), Ev (fun k => spec_ImageOk.j2 k (l.length : Int) g (i : Int) true en l a b c dl) false := fun g a b c dl => Ev.step (fun _ => spec_ImageOk.j2.eq_2 ..) (ev_pos rfl (ev_ret rfl))
    obtain ⟨s, hs⟩ : ∃ s, s = l[i] := ⟨_, rfl⟩
    have next2 := next s
    rw [← hs]
    by_cases hg : ¬ s.f0 < 256 ∧ ¬ s.f0 > 4194304 ∧ Int.tmod s.f0 256 = 0 ∧ ¬ s.f2 < 1 ∧ ¬ s.f2 > 65536 ∧ s.f0 + s.f2 ≤ 4194304 ∧ (s.f3.length : Int) ≤ s.f2 ∧ protOkV s.f1 = true
    · obtain ⟨a1, a2, a3, a4, a5, a6, a7, a8⟩ := hg
      refine ev_neg a1 (ev_neg a2 (ev_pos a3 (ev_neg a4 (ev_neg a5 ?_))))
      rw [w64_id (x := s.f0 + s.f2) (by omega) (by omega)]
      refine ev_neg (by omega) (ev_neg (by omega) (ev_bind0 (spec_l5ProtOk_eq _) ?_))
      rw [a8]
      refine Ev.step (fun _ => spec_ImageOk.j2.eq_2 ..) (ev_neg (by decide) ?_)
      have a8' := of_decide_eq_true a8
      have bad_iff : segBad e s ↔ s.f0 < e := by unfold segBad; constructor <;> intro h <;> omega
      -- behind the look at the place ahead
      have last : ∀ b : Bool, b = decide (s.f0 < e) → Ev (fun k => spec_ImageOk.j3 k (l.length : Int) got (i : Int) b en l s.f0 s.f1 s.f2 s.f3) (if segBad e s then false else segsOk en (s.f0 + pgUp s.f2) (got || decide (segHit en s)) (l.drop (i + 1))) := by
        intro b hb
        refine Ev.step (fun _ => spec_ImageOk.j3.eq_2 ..) ?_
        by_cases hlt : s.f0 < e
        · rw [if_pos (bad_iff.2 hlt)]
          exact ev_pos (by rw [hb]; exact decide_eq_true hlt) (ev_ret rfl)
        · have hnb : ¬ segBad e s := fun h => hlt (bad_iff.1 h)
          rw [if_neg hnb]
          refine ev_neg (by rw [hb]; simpa using hlt) ?_
          rw [w64_succ hi (by omega), w64_id (x := s.f0 + s.f2) (by omega) (by omega)]
          by_cases hh : segHit en s
          · have hh2 := hh
            unfold segHit at hh2
            refine ev_pos hh2.1 (ev_pos hh2.2.1 (ev_pos hh2.2.2 ?_))
            have := next2 true hs hnb
            rw [show (got || decide (segHit en s)) = true by rw [decide_eq_true hh]; simp]
            exact this
          · have hh2 := hh
            unfold segHit at hh2
            have nx := next2 got hs hnb
            rw [show (got || decide (segHit en s)) = got by rw [decide_eq_false hh]; simp]
            exact ev_split (fun b1 => ev_split (fun b2 => ev_neg (by omega) nx) (fun _ => nx)) (fun _ => nx)
      by_cases hi0 : 0 < i
      · obtain ⟨q1, q2, q3⟩ := hp hi0 (by omega)
        have ep : rd_T58 l ((i - 1 : Nat) : Int) = l[i - 1]'(by omega) := getD_nat _ (by omega)
        refine ev_pos (by omega) ?_
        rw [w64_id (x := (i : Int) - 1) (by omega) (by omega), show (i : Int) - 1 = ((i - 1 : Nat) : Int) by omega, ep]
        rw [w64_id (x := (l[i - 1]'(by omega)).f0 + (l[i - 1]'(by omega)).f2) (by omega) (by omega)]
        refine ev_pos (by omega) (ev_pos (by omega) (Ev.bind (spec_l5PageUp_ev (by omega) (by omega)) ?_))
        exact last _ (by rw [q1])
      · refine ev_neg (by omega) (last _ ?_)
        rw [decide_eq_false]
        have := hz (by omega)
        omega
    · have hb : segBad e s := by
        unfold segBad
        by_cases hpr : protOkV s.f1 = true
        · simp only [hpr, and_true] at hg
          omega
        · have := of_decide_eq_false (by simpa using hpr : protOkV s.f1 = false)
          omega
      rw [if_pos hb]
      refine ev_split (fun _ => bad ..) (fun a1 => ev_split (fun _ => bad ..) (fun a2 => ev_split (fun a3 => ev_split (fun _ => bad ..) (fun a4 => ev_split (fun _ => bad ..) (fun a5 => ?_))) (fun _ => bad ..)))
      rw [w64_id (x := s.f0 + s.f2) (by omega) (by omega)]
      refine ev_split (fun _ => bad ..) (fun a6 => ev_split (fun _ => bad ..) (fun a7 => ev_bind0 (spec_l5ProtOk_eq _) ?_))
      have a8 : protOkV s.f1 = false := by
        cases hq : protOkV s.f1 with
        | false => rfl
        | true => exact absurd ⟨a1, a2, a3, a4, a5, by omega, by omega, hq⟩ hg
      rw [a8]
      exact bad ..
theorem spec_ImageOk_ev (en : Int) (l : List S58) : Ev (fun k => spec_ImageOk.f k en l) (imageOk en l) := by
  unfold spec_ImageOk.f imageOk
  have bad : ∀ n : Int, Ev (fun k => spec_ImageOk.j0 k n true en l) false := fun n => Ev.step (fun _ => spec_ImageOk.j0.eq_2 ..) (ev_pos rfl (ev_ret rfl))
  by_cases hb : (l.length : Int) < 1 ∨ (l.length : Int) > 8 ∨ ¬ Int.tmod en 4 = 0
  · rw [if_pos hb]
    refine ev_split (fun _ => bad _) (fun h1 => ev_split (fun _ => bad _) (fun h2 => ?_))
    rw [show (Int.tmod en 4 != 0) = true by simp; omega]
    exact bad _
  · rw [if_neg hb]
    refine ev_neg (by omega) (ev_neg (by omega) ?_)
    rw [show (Int.tmod en 4 != 0) = false by simp; omega]
    refine Ev.step (fun _ => spec_ImageOk.j0.eq_2 ..) (ev_neg (by decide) ?_)
    exact spec_ImageOk_l0 en l (by omega) l.length 0 256 false (by omega) (by omega) (by omega) (by omega) (by omega)
theorem impl_pages_eq {n : Int} (h0 : 0 ≤ n) (h1 : n ≤ 1099511627776) : impl_pages.f n = some (pgUp n) := by
  unfold impl_pages.f pgUp
  rw [w64_id (x := n + 256) (by omega) (by omega), w64_id (x := n + 256 - 1) (by omega) (by omega), show Int.tdiv (n + 256 - 1) 256 = (n + 255) / 256 by rw [Int.tdiv_eq_ediv_of_nonneg (by omega)]; omega, w64_id (x := (n + 255) / 256) (by omega) (by omega), w64_id (by omega) (by omega)]
theorem impl_ImageOk_l0 (en : Int) (l l' : List S58) (hl : l.length ≤ 8) : ∀ (d i : Nat) (e : Int) (got : Bool), i + d = l.length → 256 ≤ e → e ≤ 4259840 →
    Ev (fun k => impl_ImageOk.l0 k e got l (l.length : Int) (i : Int) en l') (segsOk en e got (l.drop i)) := by
  intro d
  induction d with
  | zero =>
    intro i e got h h0 h1
    rw [List.drop_eq_nil_of_le (by omega)]
    exact Ev.step (fun _ => impl_ImageOk.l0.eq_2 ..) (ev_neg (by omega) (ev_ret rfl))
  | succ d ih =>
    intro i e got h h0 h1
    have hi : i < l.length := by omega
    have er : rd_T58 l (i : Int) = l[i] := getD_nat _ hi
    rw [List.drop_eq_getElem_cons hi, segsOk]
    refine Ev.step (fun _ => impl_ImageOk.l0.eq_2 ..) (ev_pos (by omega) (ev_pos (by omega) (ev_pos (by omega) ?_)))
    rw [er, w64_succ hi (by omega)]
    generalize l[i] = s
    by_cases hb : segBad e s
    · rw [if_pos hb]
      unfold segBad at hb
      refine ev_split (fun a1 => ev_split (fun _ => ev_ret rfl) (fun a2 => ev_split (fun _ => ev_ret rfl) (fun a3 => ev_split (fun _ => ev_ret rfl) (fun a4 => ev_split (fun _ => ev_ret rfl) (fun a5 => ?_))))) (fun _ => ev_ret rfl)
      rw [w64_id (x := s.f0 + s.f2) (by omega) (by omega)]
      exact ev_split (fun _ => ev_ret rfl) (fun a6 => ev_split (fun _ => ev_ret rfl) (fun a7 => ev_neg (by omega) (ev_neg (by omega) (ev_neg (by omega) (ev_ret rfl)))))
    · rw [if_neg hb]
      have hb2 := hb
      unfold segBad at hb
      refine ev_pos (by omega) (ev_neg (by omega) (ev_neg (by omega) (ev_neg (by omega) (ev_neg (by omega) ?_))))
      have hpb : 0 ≤ pgUp s.f2 ∧ pgUp s.f2 ≤ 65536 := by unfold pgUp; omega
      have next := fun (g : Bool) => ih (i + 1) (s.f0 + pgUp s.f2) g (by omega) (by omega) (by omega)
      have pe := impl_pages_eq (n := s.f2) (by omega) (by omega)
      rw [w64_id (x := s.f0 + s.f2) (by omega) (by omega)]
      have wf : wrap64 (s.f0 + pgUp s.f2) = s.f0 + pgUp s.f2 := w64_id (by omega) (by omega)
      refine ev_neg (by omega) (ev_neg (by omega) ?_)
      have nt : got = true → Ev (fun k => impl_ImageOk.l0 k (wrap64 (s.f0 + pgUp s.f2)) true l (l.length : Int) ((i + 1 : Nat) : Int) en l') (segsOk en (s.f0 + pgUp s.f2) (got || decide (segHit en s)) (l.drop (i + 1))) := by
        intro hg
        rw [wf, hg, Bool.true_or]
        exact next true
      have nd : ¬ got = true → ∀ b : Bool, b = decide (segHit en s) → Ev (fun k => impl_ImageOk.l0 k (wrap64 (s.f0 + pgUp s.f2)) b l (l.length : Int) ((i + 1 : Nat) : Int) en l') (segsOk en (s.f0 + pgUp s.f2) (got || decide (segHit en s)) (l.drop (i + 1))) := by
        intro hg b hbb
        rw [wf, show got = false by simpa using hg, Bool.false_or, ← hbb]
        exact next b
      have hno : ¬ s.f1 = 5 → false = decide (segHit en s) := fun h5 => by rw [decide_eq_false]; unfold segHit; omega
      refine ev_split (fun p1 => ev_bind0 pe (ev_split nt (fun hg => ev_neg (by omega) (nd hg _ (hno (by omega)))))) (fun p1 => ev_split (fun p3 => ev_bind0 pe (ev_split nt (fun hg => ev_neg (by omega) (nd hg _ (hno (by omega)))))) (fun p3 => ev_pos (by omega) (ev_bind0 pe (ev_split nt (fun hg => ev_split (fun q => nd hg _ ?_) (fun q => nd hg _ ?_))))))
      · rw [decide_eq_decide]; unfold segHit; omega
      · rw [decide_eq_false]; unfold segHit; omega
theorem impl_ImageOk_ev (en : Int) (l : List S58) : Ev (fun k => impl_ImageOk.f k en l) (imageOk en l) := by
  unfold impl_ImageOk.f imageOk
  have bad : Ev (fun k => impl_ImageOk.j0 k true en l) false := Ev.step (fun _ => impl_ImageOk.j0.eq_2 ..) (ev_pos rfl (ev_ret rfl))
  by_cases hb : (l.length : Int) < 1 ∨ (l.length : Int) > 8 ∨ ¬ Int.tmod en 4 = 0
  · rw [if_pos hb]
    refine ev_split (fun _ => bad) (fun h1 => ev_split (fun _ => bad) (fun h2 => ?_))
    rw [show (Int.tmod en 4 != 0) = true by simp; omega]
    exact bad
  · rw [if_neg hb]
    refine ev_neg (by omega) (ev_neg (by omega) ?_)
    rw [show (Int.tmod en 4 != 0) = false by simp; omega]
    refine Ev.step (fun _ => impl_ImageOk.j0.eq_2 ..) (ev_neg (by decide) ?_)
    exact impl_ImageOk_l0 en l l (by omega) l.length 0 256 false (by omega) (by omega) (by omega)
theorem FnExactImageOk : laws_FnExactImageOk.Pure := by
  intro n xs hq
  have hm : xs.length ≤ maxLen := hq.2.1
  have hd : ∀ s ∈ xs, s.f3.length ≤ maxLen := fun s hs => (hq.2.2 s hs).2.2.2.1
  refine Ev.rounds ?_
  unfold laws_FnExactImageOk.f
  rcases laws_szImage_ev n hm hd (n := 1048576) (by omega) (by omega) with hr | ⟨v, v0, v1, hv, hl0, hall⟩
  · exact Ev.bind hr (ev_pos (by decide) (ev_ret rfl))
  · refine Ev.bind hv (ev_neg (by omega) ?_)
    have hl : xs.length ≤ 1099511627776 := by omega
    have hd2 : ∀ s ∈ xs, s.f3.length ≤ 281474976710656 := fun s hs => by have := hall s hs; omega
    have hl2 : (xs.map cSeg).length ≤ 1099511627776 := by rw [List.length_map]; exact hl
    have hd3 : ∀ s ∈ xs.map cSeg, s.f3.length ≤ 281474976710656 := by
      intro s hs
      obtain ⟨s', hs', rfl⟩ := List.mem_map.1 hs
      exact hd2 s' hs'
    exact Ev.bind (laws_toImage_ev n hl hd2) (Ev.bind (spec_ImageOk_ev ..) (Ev.bind (laws_toImage_ev n hl hd2) (Ev.bind (impl_ImageOk_ev ..) (ev_neg (by simp) (Ev.bind (laws_toImage_ev n hl hd2) (Ev.bind (laws_eqImage_ev n hl2 hd3) (ev_pos rfl (ev_ret rfl))))))))
end Go.Proofs.Ytokiliilbopgkaa.Pure
