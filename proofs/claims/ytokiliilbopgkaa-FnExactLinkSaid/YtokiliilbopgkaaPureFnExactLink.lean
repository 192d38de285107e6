/- For every input that the row lets in, FnExactLink answers true; this text proves the plain law that is left when the machine's side is done. -/
import Derived.Test.YtokiliilbopgkaaPFnExactLinkx9
import Derived.Test.YtokiliilbopgkaaVBase
set_option linter.unusedVariables false
set_option linter.unusedSimpArgs false
namespace Go.Proofs.Ytokiliilbopgkaa.Pure
open Go.RowKit Go.Proofs.Ytokiliilbopgkaa.PFnExactLink Go.Proofs.YtokiliilbopgkaaW.PrintWords Go.Proofs.YtokiliilbopgkaaW.PrintLast Go.Proofs.YtokiliilbopgkaaW.PrintMore Go.Proofs.Ytokiliilbopgkaa.Base

theorem laws_toByteS_l0 (xs : List Int) (hl : xs.length ≤ 4611686018427387904) : ∀ (d i : Nat) (ys : List Int), i + d = xs.length → ys.length = xs.length → (∀ j, j < i → ys[j]? = xs[j]?) → Ev (fun k => laws_toByteS.l0 k xs ys (i : Int)) xs := by
  intro d
  induction d with
  | zero =>
    intro i ys h hy he
    refine Ev.step (fun _ => laws_toByteS.l0.eq_2 ..) ?_
    refine ev_neg (by omega) (ev_ret ?_)
    apply List.ext_getElem?
    intro j
    by_cases hj : j < i
    · exact he j hj
    · rw [List.getElem?_eq_none (by omega), List.getElem?_eq_none (by omega)]
  | succ d ih =>
    intro i ys h hy he
    refine Ev.step (fun _ => laws_toByteS.l0.eq_2 ..) ?_
    refine ev_pos (by omega) (ev_pos (by omega) (ev_pos (by omega) ?_))
    have e : wrap64 ((i : Int) + 1) = ((i + 1 : Nat) : Int) := by rw [w64_id (by omega) (by omega)]; omega
    rw [e, rd_nat (by omega), Int.toNat_natCast]
    refine ih (i + 1) _ (by omega) (by rw [List.length_set]; exact hy) ?_
    intro j hj
    by_cases hji : j = i
    · subst hji
      rw [List.getElem?_set_self (by omega), List.getElem?_eq_getElem (by omega)]
    · rw [List.getElem?_set_ne (by omega)]
      exact he j (by omega)
theorem laws_toByteS_ev {xs : List Int} (hl : xs.length ≤ 281474976710656) : Ev (fun k => laws_toByteS.f k xs) xs := by
  unfold laws_toByteS.f
  refine ev_pos (by omega) (ev_pos (by omega) ?_)
  exact laws_toByteS_l0 xs (by omega) xs.length 0 _ (by omega) (by simp) (fun j hj => by omega)
theorem laws_eqByteS_l0 (xs : List Int) (hl : xs.length ≤ 4611686018427387904) : ∀ (d i : Nat), i + d = xs.length → Ev (fun k => laws_eqByteS.l0 k xs xs (i : Int)) true := by
  intro d
  induction d with
  | zero =>
    intro i h
    refine Ev.step (fun _ => laws_eqByteS.l0.eq_2 ..) ?_
    exact ev_neg (by omega) (ev_ret rfl)
  | succ d ih =>
    intro i h
    refine Ev.step (fun _ => laws_eqByteS.l0.eq_2 ..) ?_
    refine ev_pos (by omega) (ev_pos (by omega) (ev_pos (by omega) (ev_pos rfl ?_)))
    have e : wrap64 ((i : Int) + 1) = ((i + 1 : Nat) : Int) := by rw [w64_id (by omega) (by omega)]; omega
    rw [e]
    exact ih (i + 1) (by omega)
theorem laws_eqByteS_ev {xs : List Int} (hl : xs.length ≤ 281474976710656) : Ev (fun k => laws_eqByteS.f k xs xs) true := by
  unfold laws_eqByteS.f
  exact ev_pos rfl (laws_eqByteS_l0 xs (by omega) xs.length 0 (by omega))
/-- What marking leaves: the numbers from k on, as bytes. -/
def markL (k : Int) (n : Nat) : List Int := (List.range n).map fun j : Nat => (k + (j : Int)) % 256
theorem markL_len (k : Int) (n : Nat) : (markL k n).length = n := by simp [markL]
theorem markL_get (k : Int) {n j : Nat} (h : j < n) : (markL k n)[j]? = some ((k + (j : Int)) % 256) := by
  simp [markL, List.getElem?_range h]
theorem laws_markByteS_l0 (n : Nat) (k0 : Int) (hk : 0 ≤ k0) (hk2 : k0 + n ≤ 4611686018427387904) : ∀ (d i : Nat) (xs : List Int), i + d = n → xs.length = n → (∀ j, j < i → xs[j]? = (markL k0 n)[j]?) → Ev (fun k => laws_markByteS.l0 k xs (k0 + i) (i : Int)) (k0 + n, markL k0 n) := by
  intro d
  induction d with
  | zero =>
    intro i xs h hx he
    refine Ev.step (fun _ => laws_markByteS.l0.eq_2 ..) ?_
    refine ev_neg (by omega) (ev_ret ?_)
    refine Prod.ext (by simp only; omega) ?_
    apply List.ext_getElem?
    intro j
    by_cases hj : j < n
    · exact he j (by omega)
    · rw [List.getElem?_eq_none (show xs.length ≤ j by omega), List.getElem?_eq_none (by rw [markL_len]; omega)]
  | succ d ih =>
    intro i xs h hx he
    refine Ev.step (fun _ => laws_markByteS.l0.eq_2 ..) ?_
    have e1 : wrap64 ((i : Int) + 1) = ((i + 1 : Nat) : Int) := by rw [w64_id (by omega) (by omega)]; omega
    have e2 : wrap64 (k0 + (i : Int) + 1) = k0 + ((i + 1 : Nat) : Int) := by rw [w64_id (by omega) (by omega)]; omega
    refine ev_pos (by omega) (ev_pos (by omega) ?_)
    rw [e1, e2, Int.toNat_natCast]
    refine ih (i + 1) _ (by omega) (by rw [List.length_set]; exact hx) ?_
    intro j hj
    by_cases hji : j = i
    · subst hji
      rw [List.getElem?_set_self (by omega), markL_get k0 (by omega)]
    · rw [List.getElem?_set_ne (by omega)]
      exact he j (by omega)
theorem laws_markByteS_ev (xs : List Int) {k0 : Int} (hk : 0 ≤ k0) (hk2 : k0 + xs.length ≤ 4611686018427387904) : Ev (fun k => laws_markByteS.f k xs k0) (k0 + xs.length, markL k0 xs.length) := by
  unfold laws_markByteS.f
  have := laws_markByteS_l0 xs.length k0 hk hk2 xs.length 0 xs (by omega) rfl (fun j hj => by omega)
  rw [show k0 + ((0 : Nat) : Int) = k0 by omega] at this
  exact this
theorem laws_heldByteS_l0 (n : Nat) (k0 : Int) (hk : 0 ≤ k0) (hk2 : k0 + n ≤ 4611686018427387904) : ∀ (d i : Nat), i + d = n → Ev (fun k => laws_heldByteS.l0 k (markL k0 n) (k0 + i) (i : Int)) (k0 + n) := by
  intro d
  induction d with
  | zero =>
    intro i h
    refine Ev.step (fun _ => laws_heldByteS.l0.eq_2 ..) ?_
    refine ev_neg (by rw [markL_len]; omega) (ev_ret (by omega))
  | succ d ih =>
    intro i h
    refine Ev.step (fun _ => laws_heldByteS.l0.eq_2 ..) ?_
    have e1 : wrap64 ((i : Int) + 1) = ((i + 1 : Nat) : Int) := by rw [w64_id (by omega) (by omega)]; omega
    have e2 : wrap64 (k0 + (i : Int) + 1) = k0 + ((i + 1 : Nat) : Int) := by rw [w64_id (by omega) (by omega)]; omega
    have hl : i < (markL k0 n).length := by rw [markL_len]; omega
    have e3 : (markL k0 n)[i] = (k0 + (i : Int)) % 256 := by
      have := markL_get k0 (n := n) (j := i) (by omega)
      rw [List.getElem?_eq_getElem hl] at this
      exact Option.some.inj this
    refine ev_pos (by omega) (ev_pos (by omega) ?_)
    rw [rd_nat hl, e1, e2]
    exact ev_pos e3 (ih (i + 1) (by omega))
theorem laws_heldByteS_ev (n : Nat) {k0 : Int} (hk : 0 ≤ k0) (hk2 : k0 + n ≤ 4611686018427387904) : Ev (fun k => laws_heldByteS.f k (markL k0 n) k0) (k0 + n) := by
  unfold laws_heldByteS.f
  have := laws_heldByteS_l0 n k0 hk hk2 n 0 (by omega)
  rw [show k0 + ((0 : Nat) : Int) = k0 by omega] at this
  exact this
theorem laws_szByteS_eq {xs : List Int} (hl : xs.length ≤ maxLen) {n : Int} (h0 : 0 ≤ n) (h1 : n ≤ 1048576) : laws_szByteS.f xs n = some (if n < xs.length then (-1 : Int) else n - (xs.length : Int)) := by
  have hl2 := wf_le hl
  unfold laws_szByteS.f
  rw [w64_id (x := n - (xs.length : Int)) (by omega) (by omega)]
  by_cases h : n < xs.length
  · rw [if_pos (by omega), if_pos h]
  · rw [if_neg (by omega), if_neg h]
theorem laws_eqSeg_ev (a b c : Int) {l : List Int} (hl : l.length ≤ 281474976710656) : Ev (fun k => laws_eqSeg.f k a b c l a b c l) true := by
  unfold laws_eqSeg.f
  exact ev_pos rfl (ev_pos rfl (ev_pos rfl (Ev.bind (laws_eqByteS_ev hl) (ev_pos rfl (ev_ret rfl)))))
theorem laws_eqSegS_l0 (xs : List S58) (hl : xs.length ≤ 4611686018427387904) (hd : ∀ s ∈ xs, s.f3.length ≤ 281474976710656) : ∀ (d i : Nat), i + d = xs.length → Ev (fun k => laws_eqSegS.l0 k xs xs (i : Int)) true := by
  intro d
  induction d with
  | zero =>
    intro i h
    exact Ev.step (fun _ => laws_eqSegS.l0.eq_2 ..) (ev_neg (by omega) (ev_ret rfl))
  | succ d ih =>
    intro i h
    have hi : i < xs.length := by omega
    have er : rd_T58 xs (i : Int) = xs[i] := getD_nat _ hi
    refine Ev.step (fun _ => laws_eqSegS.l0.eq_2 ..) (ev_pos (by omega) (ev_pos (by omega) (ev_pos (by omega) ?_)))
    rw [w64_succ hi hl, er]
    exact Ev.bind (laws_eqSeg_ev _ _ _ (hd _ (List.getElem_mem hi))) (ev_pos rfl (ih (i + 1) (by omega)))
theorem laws_eqSegS_ev {xs : List S58} (hl : xs.length ≤ 1099511627776) (hd : ∀ s ∈ xs, s.f3.length ≤ 281474976710656) : Ev (fun k => laws_eqSegS.f k xs xs) true := by
  unfold laws_eqSegS.f
  exact ev_pos rfl (laws_eqSegS_l0 xs (by omega) hd xs.length 0 (by omega))
theorem laws_eqImage_ev (n : Int) {xs : List S58} (hl : xs.length ≤ 1099511627776) (hd : ∀ s ∈ xs, s.f3.length ≤ 281474976710656) : Ev (fun k => laws_eqImage.f k n xs n xs) true := by
  unfold laws_eqImage.f
  exact ev_pos rfl (Ev.bind (laws_eqSegS_ev hl hd) (ev_pos rfl (ev_ret rfl)))
def protOkV (p : Int) : Bool := decide (p = 1 ∨ p = 3 ∨ p = 5)
theorem spec_l5ProtOk_eq (p : Int) : spec_l5ProtOk.f p = some (protOkV p) := by
  unfold spec_l5ProtOk.f protOkV
  by_cases h1 : p = 1
  · simp [h1]
  · by_cases h2 : p = 3
    · simp [h2]
    · rw [if_neg h1, if_neg h2]
      by_cases h3 : p = 5 <;> simp [h1, h2, h3]
def pgUp (n : Int) : Int := (n + 255) / 256 * 256
theorem tmod_pos {a b : Int} (h : 0 ≤ a) : Int.tmod a b = a % b := Int.tmod_eq_emod_of_nonneg h
theorem spec_l5PageUp_l0 : ∀ (d : Nat) (x : Int), 0 ≤ x → x ≤ 1099511627776 → pgUp x - x = d → Ev (fun k => spec_l5PageUp.l0 k x) (pgUp x) := by
  intro d
  induction d with
  | zero =>
    intro x h0 h1 hd
    unfold pgUp at *
    refine Ev.step (fun _ => spec_l5PageUp.l0.eq_2 ..) (ev_pos ?_ (ev_ret (by omega)))
    rw [tmod_pos h0]; omega
  | succ d ih =>
    intro x h0 h1 hd
    have e : pgUp (x + 1) = pgUp x := by unfold pgUp at *; omega
    refine Ev.step (fun _ => spec_l5PageUp.l0.eq_2 ..) (ev_neg ?_ ?_)
    · rw [tmod_pos h0]; unfold pgUp at hd; omega
    · rw [w64_id (by omega) (by omega), ← e]
      exact ih (x + 1) (by omega) (by unfold pgUp at *; omega) (by rw [e]; omega)
theorem spec_l5PageUp_ev {x : Int} (h0 : 0 ≤ x) (h1 : x ≤ 1099511627000) : Ev (fun k => spec_l5PageUp.f k x) (pgUp x) := by
  unfold spec_l5PageUp.f
  have hp : x ≤ pgUp x ∧ pgUp x ≤ x + 255 := by unfold pgUp; omega
  exact spec_l5PageUp_l0 (pgUp x - x).toNat x h0 (by omega) (by omega)
def segBad (e : Int) (s : S58) : Prop := ¬ Int.tmod s.f0 256 = 0 ∨ s.f0 < e ∨ s.f0 > 4194304 ∨ s.f2 < 1 ∨ s.f2 > 65536 ∨ s.f0 + s.f2 > 4194304 ∨ (s.f3.length : Int) > s.f2 ∨ (¬ s.f1 = 1 ∧ ¬ s.f1 = 3 ∧ ¬ s.f1 = 5)
instance (e : Int) (s : S58) : Decidable (segBad e s) := by unfold segBad; exact inferInstance
def segHit (en : Int) (s : S58) : Prop := s.f1 = 5 ∧ en ≥ s.f0 ∧ en < s.f0 + s.f2
instance (en : Int) (s : S58) : Decidable (segHit en s) := by unfold segHit; exact inferInstance
def segsOk (en : Int) : Int → Bool → List S58 → Bool
  | _, got, [] => got
  | e, got, s :: ss => if segBad e s then false else segsOk en (s.f0 + pgUp s.f2) (got || decide (segHit en s)) ss
def imageOk (en : Int) (l : List S58) : Bool := if (l.length : Int) < 1 ∨ (l.length : Int) > 8 ∨ ¬ Int.tmod en 4 = 0 then false else segsOk en 256 false l
theorem spec_ImageOk_l0 (en : Int) (l : List S58) (hl : l.length ≤ 8) : ∀ (d i : Nat) (e : Int) (got : Bool), i + d = l.length → 256 ≤ e → e ≤ 4259840 → (∀ h : 0 < i, ∀ hi : i - 1 < l.length, e = pgUp (l[i - 1].f0 + l[i - 1].f2) ∧ 256 ≤ l[i - 1].f0 + l[i - 1].f2 ∧ l[i - 1].f0 + l[i - 1].f2 ≤ 4194304) → (i = 0 → e = 256) →
    Ev (fun k => spec_ImageOk.l0 k (l.length : Int) got (i : Int) en l) (segsOk en e got (l.drop i)) := by
  intro d
  induction d with
  | zero =>
    intro i e got h h0 h1 hp hz
    rw [List.drop_eq_nil_of_le (by omega)]
    exact Ev.step (fun _ => spec_ImageOk.l0.eq_2 ..) (ev_neg (by omega) (ev_ret rfl))
  | succ d ih =>
    intro i e got h h0 h1 hp hz
    have hi : i < l.length := by omega
    have er : rd_T58 l (i : Int) = l[i] := getD_nat _ hi
    rw [List.drop_eq_getElem_cons hi, segsOk]
    refine Ev.step (fun _ => spec_ImageOk.l0.eq_2 ..) (ev_pos (by omega) (ev_pos (by omega) (ev_pos (by omega) ?_)))
    rw [er]
    have next : ∀ (s : S58) (g : Bool), s = l[i] → ¬ segBad e s → Ev (fun k => spec_ImageOk.l0 k (l.length : Int) g ((i + 1 : Nat) : Int) en l) (segsOk en (s.f0 + pgUp s.f2) g (l.drop (i + 1))) := by
      intro s g hs hb
      unfold segBad at hb
      have ht : Int.tmod s.f0 256 = s.f0 % 256 := tmod_pos (by omega)
      rw [ht] at hb
      refine ih (i + 1) _ g (by omega) (by unfold pgUp; omega) (by unfold pgUp; omega) ?_ (by omega)
      intro _ hi2
      have e1 : l[i + 1 - 1]'hi2 = s := by rw [hs]; rfl
      rw [e1]
      unfold pgUp
      omega
    have bad : ∀ (g : Bool) (a b c : Int) (dl : List Int), Ev (fun k => spec_ImageOk.j2 k (l.length : Int) g (i : Int) true en l a b c dl) false := fun g a b c dl => Ev.step (fun _ => spec_ImageOk.j2.eq_2 ..) (ev_pos rfl (ev_ret rfl))
    obtain ⟨s, hs⟩ : ∃ s, s = l[i] := ⟨_, rfl⟩
    have next2 := next s
    rw [← hs]
    by_cases hg : ¬ s.f0 < 256 ∧ ¬ s.f0 > 4194304 ∧ Int.tmod s.f0 256 = 0 ∧ ¬ s.f2 < 1 ∧ ¬ s.f2 > 65536 ∧ s.f0 + s.f2 ≤ 4194304 ∧ (s.f3.length : Int) ≤ s.f2 ∧ protOkV s.f1 = true
    · obtain ⟨a1, a2, a3, a4, a5, a6, a7, a8⟩ := hg
      refine ev_neg a1 (ev_neg a2 (ev_pos a3 (ev_neg a4 (ev_neg a5 ?_))))
      rw [w64_id (x := s.f0 + s.f2) (by omega) (by omega)]
      refine ev_neg (by omega) (ev_neg (by omega) (ev_bind0 (spec_l5ProtOk_eq _) ?_))
      rw [a8]
      refine Ev.step (fun _ => spec_ImageOk.j2.eq_2 ..) (ev_neg (by decide) ?_)
      have a8' := of_decide_eq_true a8
      have bad_iff : segBad e s ↔ s.f0 < e := by unfold segBad; constructor <;> intro h <;> omega
      -- behind the look at the place ahead
      have last : ∀ b : Bool, b = decide (s.f0 < e) → Ev (fun k => spec_ImageOk.j3 k (l.length : Int) got (i : Int) b en l s.f0 s.f1 s.f2 s.f3) (if segBad e s then false else segsOk en (s.f0 + pgUp s.f2) (got || decide (segHit en s)) (l.drop (i + 1))) := by
        intro b hb
        refine Ev.step (fun _ => spec_ImageOk.j3.eq_2 ..) ?_
        by_cases hlt : s.f0 < e
        · rw [if_pos (bad_iff.2 hlt)]
          exact ev_pos (by rw [hb]; exact decide_eq_true hlt) (ev_ret rfl)
        · have hnb : ¬ segBad e s := fun h => hlt (bad_iff.1 h)
          rw [if_neg hnb]
          refine ev_neg (by rw [hb]; simpa using hlt) ?_
          rw [w64_succ hi (by omega), w64_id (x := s.f0 + s.f2) (by omega) (by omega)]
          by_cases hh : segHit en s
          · have hh2 := hh
            unfold segHit at hh2
            refine ev_pos hh2.1 (ev_pos hh2.2.1 (ev_pos hh2.2.2 ?_))
            have := next2 true hs hnb
            rw [show (got || decide (segHit en s)) = true by rw [decide_eq_true hh]; simp]
            exact this
          · have hh2 := hh
            unfold segHit at hh2
            have nx := next2 got hs hnb
            rw [show (got || decide (segHit en s)) = got by rw [decide_eq_false hh]; simp]
            exact ev_split (fun b1 => ev_split (fun b2 => ev_neg (by omega) nx) (fun _ => nx)) (fun _ => nx)
      by_cases hi0 : 0 < i
      · obtain ⟨q1, q2, q3⟩ := hp hi0 (by omega)
        have ep : rd_T58 l ((i - 1 : Nat) : Int) = l[i - 1]'(by omega) := getD_nat _ (by omega)
        refine ev_pos (by omega) ?_
        rw [w64_id (x := (i : Int) - 1) (by omega) (by omega), show (i : Int) - 1 = ((i - 1 : Nat) : Int) by omega, ep]
        rw [w64_id (x := (l[i - 1]'(by omega)).f0 + (l[i - 1]'(by omega)).f2) (by omega) (by omega)]
        refine ev_pos (by omega) (ev_pos (by omega) (Ev.bind (spec_l5PageUp_ev (by omega) (by omega)) ?_))
        exact last _ (by rw [q1])
      · refine ev_neg (by omega) (last _ ?_)
        rw [decide_eq_false]
        have := hz (by omega)
        omega
    · have hb : segBad e s := by
        unfold segBad
        by_cases hpr : protOkV s.f1 = true
        · simp only [hpr, and_true] at hg
          omega
        · have := of_decide_eq_false (by simpa using hpr : protOkV s.f1 = false)
          omega
      rw [if_pos hb]
      refine ev_split (fun _ => bad ..) (fun a1 => ev_split (fun _ => bad ..) (fun a2 => ev_split (fun a3 => ev_split (fun _ => bad ..) (fun a4 => ev_split (fun _ => bad ..) (fun a5 => ?_))) (fun _ => bad ..)))
      rw [w64_id (x := s.f0 + s.f2) (by omega) (by omega)]
      refine ev_split (fun _ => bad ..) (fun a6 => ev_split (fun _ => bad ..) (fun a7 => ev_bind0 (spec_l5ProtOk_eq _) ?_))
      have a8 : protOkV s.f1 = false := by
        cases hq : protOkV s.f1 with
        | false => rfl
        | true => exact absurd ⟨a1, a2, a3, a4, a5, by omega, by omega, hq⟩ hg
      rw [a8]
      exact bad ..
theorem spec_ImageOk_ev (en : Int) (l : List S58) : Ev (fun k => spec_ImageOk.f k en l) (imageOk en l) := by
  unfold spec_ImageOk.f imageOk
  have bad : ∀ n : Int, Ev (fun k => spec_ImageOk.j0 k n true en l) false := fun n => Ev.step (fun _ => spec_ImageOk.j0.eq_2 ..) (ev_pos rfl (ev_ret rfl))
  by_cases hb : (l.length : Int) < 1 ∨ (l.length : Int) > 8 ∨ ¬ Int.tmod en 4 = 0
  · rw [if_pos hb]
    refine ev_split (fun _ => bad _) (fun h1 => ev_split (fun _ => bad _) (fun h2 => ?_))
    rw [show (Int.tmod en 4 != 0) = true by simp; omega]
    exact bad _
  · rw [if_neg hb]
    refine ev_neg (by omega) (ev_neg (by omega) ?_)
    rw [show (Int.tmod en 4 != 0) = false by simp; omega]
    refine Ev.step (fun _ => spec_ImageOk.j0.eq_2 ..) (ev_neg (by decide) ?_)
    exact spec_ImageOk_l0 en l (by omega) l.length 0 256 false (by omega) (by omega) (by omega) (by omega) (by omega)
theorem impl_pages_eq {n : Int} (h0 : 0 ≤ n) (h1 : n ≤ 1099511627776) : impl_pages.f n = some (pgUp n) := by
  unfold impl_pages.f pgUp
  rw [w64_id (x := n + 256) (by omega) (by omega), w64_id (x := n + 256 - 1) (by omega) (by omega), show Int.tdiv (n + 256 - 1) 256 = (n + 255) / 256 by rw [Int.tdiv_eq_ediv_of_nonneg (by omega)]; omega, w64_id (x := (n + 255) / 256) (by omega) (by omega), w64_id (by omega) (by omega)]
theorem impl_ImageOk_l0 (en : Int) (l l' : List S58) (hl : l.length ≤ 8) : ∀ (d i : Nat) (e : Int) (got : Bool), i + d = l.length → 256 ≤ e → e ≤ 4259840 →
    Ev (fun k => impl_ImageOk.l0 k e got l (l.length : Int) (i : Int) en l') (segsOk en e got (l.drop i)) := by
  intro d
  induction d with
  | zero =>
    intro i e got h h0 h1
    rw [List.drop_eq_nil_of_le (by omega)]
    exact Ev.step (fun _ => impl_ImageOk.l0.eq_2 ..) (ev_neg (by omega) (ev_ret rfl))
  | succ d ih =>
    intro i e got h h0 h1
    have hi : i < l.length := by omega
    have er : rd_T58 l (i : Int) = l[i] := getD_nat _ hi
    rw [List.drop_eq_getElem_cons hi, segsOk]
    refine Ev.step (fun _ => impl_ImageOk.l0.eq_2 ..) (ev_pos (by omega) (ev_pos (by omega) (ev_pos (by omega) ?_)))
    rw [er, w64_succ hi (by omega)]
    generalize l[i] = s
    by_cases hb : segBad e s
    · rw [if_pos hb]
      unfold segBad at hb
      refine ev_split (fun a1 => ev_split (fun _ => ev_ret rfl) (fun a2 => ev_split (fun _ => ev_ret rfl) (fun a3 => ev_split (fun _ => ev_ret rfl) (fun a4 => ev_split (fun _ => ev_ret rfl) (fun a5 => ?_))))) (fun _ => ev_ret rfl)
      rw [w64_id (x := s.f0 + s.f2) (by omega) (by omega)]
      exact ev_split (fun _ => ev_ret rfl) (fun a6 => ev_split (fun _ => ev_ret rfl) (fun a7 => ev_neg (by omega) (ev_neg (by omega) (ev_neg (by omega) (ev_ret rfl)))))
    · rw [if_neg hb]
      have hb2 := hb
      unfold segBad at hb
      refine ev_pos (by omega) (ev_neg (by omega) (ev_neg (by omega) (ev_neg (by omega) (ev_neg (by omega) ?_))))
      have hpb : 0 ≤ pgUp s.f2 ∧ pgUp s.f2 ≤ 65536 := by unfold pgUp; omega
      have next := fun (g : Bool) => ih (i + 1) (s.f0 + pgUp s.f2) g (by omega) (by omega) (by omega)
      have pe := impl_pages_eq (n := s.f2) (by omega) (by omega)
      rw [w64_id (x := s.f0 + s.f2) (by omega) (by omega)]
      have wf : wrap64 (s.f0 + pgUp s.f2) = s.f0 + pgUp s.f2 := w64_id (by omega) (by omega)
      refine ev_neg (by omega) (ev_neg (by omega) ?_)
      have nt : got = true → Ev (fun k => impl_ImageOk.l0 k (wrap64 (s.f0 + pgUp s.f2)) true l (l.length : Int) ((i + 1 : Nat) : Int) en l') (segsOk en (s.f0 + pgUp s.f2) (got || decide (segHit en s)) (l.drop (i + 1))) := by
        intro hg
        rw [wf, hg, Bool.true_or]
        exact next true
      have nd : ¬ got = true → ∀ b : Bool, b = decide (segHit en s) → Ev (fun k => impl_ImageOk.l0 k (wrap64 (s.f0 + pgUp s.f2)) b l (l.length : Int) ((i + 1 : Nat) : Int) en l') (segsOk en (s.f0 + pgUp s.f2) (got || decide (segHit en s)) (l.drop (i + 1))) := by
        intro hg b hbb
        rw [wf, show got = false by simpa using hg, Bool.false_or, ← hbb]
        exact next b
      have hno : ¬ s.f1 = 5 → false = decide (segHit en s) := fun h5 => by rw [decide_eq_false]; unfold segHit; omega
      refine ev_split (fun p1 => ev_bind0 pe (ev_split nt (fun hg => ev_neg (by omega) (nd hg _ (hno (by omega)))))) (fun p1 => ev_split (fun p3 => ev_bind0 pe (ev_split nt (fun hg => ev_neg (by omega) (nd hg _ (hno (by omega)))))) (fun p3 => ev_pos (by omega) (ev_bind0 pe (ev_split nt (fun hg => ev_split (fun q => nd hg _ ?_) (fun q => nd hg _ ?_))))))
      · rw [decide_eq_decide]; unfold segHit; omega
      · rw [decide_eq_false]; unfold segHit; omega
theorem impl_ImageOk_ev (en : Int) (l : List S58) : Ev (fun k => impl_ImageOk.f k en l) (imageOk en l) := by
  unfold impl_ImageOk.f imageOk
  have bad : Ev (fun k => impl_ImageOk.j0 k true en l) false := Ev.step (fun _ => impl_ImageOk.j0.eq_2 ..) (ev_pos rfl (ev_ret rfl))
  by_cases hb : (l.length : Int) < 1 ∨ (l.length : Int) > 8 ∨ ¬ Int.tmod en 4 = 0
  · rw [if_pos hb]
    refine ev_split (fun _ => bad) (fun h1 => ev_split (fun _ => bad) (fun h2 => ?_))
    rw [show (Int.tmod en 4 != 0) = true by simp; omega]
    exact bad
  · rw [if_neg hb]
    refine ev_neg (by omega) (ev_neg (by omega) ?_)
    rw [show (Int.tmod en 4 != 0) = false by simp; omega]
    refine Ev.step (fun _ => impl_ImageOk.j0.eq_2 ..) (ev_neg (by decide) ?_)
    exact impl_ImageOk_l0 en l l (by omega) l.length 0 256 false (by omega) (by omega) (by omega)
theorem laws_szSym_eq (a : ByteArray) (b : Int) (hl : a.size ≤ maxLen) {n : Int} (h0 : 0 ≤ n) (h1 : n ≤ 1048576) : laws_szSym.f a b n = some (if n < a.size then (-1 : Int) else n - (a.size : Int)) := by
  have hm2 := wf_le hl
  unfold laws_szSym.f
  rw [w64_id (x := n - (a.size : Int)) (by omega) (by omega)]
  by_cases h : n < a.size
  · rw [if_pos h, if_pos (by omega)]
  · rw [if_neg h, if_neg (by omega)]
theorem laws_szSymS_l0 (xs : List S86) (hl : xs.length ≤ 1048576) (hd : ∀ s ∈ xs, s.f0.size ≤ maxLen) : ∀ (d i : Nat) (n : Int), i + d = xs.length → 0 ≤ n → n ≤ 1048576 →
    Ev (fun k => laws_szSymS.l0 k xs n (i : Int)) (-1) ∨ ∃ v, 0 ≤ v ∧ v ≤ n ∧ Ev (fun k => laws_szSymS.l0 k xs n (i : Int)) v := by
  intro d
  induction d with
  | zero =>
    intro i n h h0 h1
    exact .inr ⟨n, h0, Int.le_refl _, Ev.step (fun _ => laws_szSymS.l0.eq_2 ..) (ev_neg (by omega) (ev_ret rfl))⟩
  | succ d ih =>
    intro i n h h0 h1
    have hi : i < xs.length := by omega
    have er : rd_T86 xs (i : Int) = xs[i] := getD_nat _ hi
    have hx := hd _ (List.getElem_mem hi)
    have st : ∀ r, Ev (fun k => (laws_szSym.f xs[i].f0 xs[i].f1 n).bind fun t => (if t < 0 then (some (-1)) else (laws_szSymS.l0 k xs t ((i + 1 : Nat) : Int)))) r → Ev (fun k => laws_szSymS.l0 k xs n (i : Int)) r := by
      intro r hr
      refine Ev.step (fun _ => laws_szSymS.l0.eq_2 ..) (ev_pos (by omega) (ev_pos (by omega) ?_))
      rw [er, w64_succ hi (by omega)]
      exact hr
    have e1 := laws_szSym_eq xs[i].f0 xs[i].f1 hx h0 h1
    by_cases hc : n < xs[i].f0.size
    · exact .inl (st _ (ev_bind0 (by rw [e1, if_pos hc]) (ev_pos (by decide) (ev_ret rfl))))
    · rw [if_neg hc] at e1
      rcases ih (i + 1) (n - xs[i].f0.size) (by omega) (by omega) (by omega) with hr | ⟨v, v0, v1, hv⟩
      · exact .inl (st _ (ev_bind0 e1 (ev_neg (by omega) hr)))
      · exact .inr ⟨v, v0, by omega, st _ (ev_bind0 e1 (ev_neg (by omega) hv))⟩
theorem laws_szSymS_ev {xs : List S86} (hm : xs.length ≤ maxLen) (hd : ∀ s ∈ xs, s.f0.size ≤ maxLen) {n : Int} (h0 : 0 ≤ n) (h1 : n ≤ 1048576) :
    Ev (fun k => laws_szSymS.f k xs n) (-1) ∨ ∃ v, 0 ≤ v ∧ v ≤ n ∧ Ev (fun k => laws_szSymS.f k xs n) v ∧ xs.length ≤ 1048576 := by
  have hm2 := wf_le hm
  unfold laws_szSymS.f
  rw [w64_id (x := n - (xs.length : Int)) (by omega) (by omega)]
  by_cases h : n < xs.length
  · exact .inl (ev_pos (by omega) (ev_ret rfl))
  · rcases laws_szSymS_l0 xs (by omega) hd xs.length 0 (n - xs.length) (by omega) (by omega) (by omega) with hr | ⟨v, v0, v1, hv⟩
    · exact .inl (ev_neg (by omega) hr)
    · exact .inr ⟨v, v0, by omega, ev_neg (by omega) hv, by omega⟩
theorem laws_szAsm_ev (a b e : Int) {t d : List Int} {xs : List S86} (ht : t.length ≤ maxLen) (hd : d.length ≤ maxLen) (hm : xs.length ≤ maxLen) (hs : ∀ s ∈ xs, s.f0.size ≤ maxLen) :
    Ev (fun k => laws_szAsm.f k a b t d e xs 1048576) (-1) ∨ ∃ v, 0 ≤ v ∧ Ev (fun k => laws_szAsm.f k a b t d e xs 1048576) v ∧ t.length ≤ 1048576 ∧ d.length ≤ 1048576 ∧ xs.length ≤ 1048576 := by
  unfold laws_szAsm.f
  have e1 := laws_szByteS_eq ht (n := 1048576) (by decide) (by decide)
  by_cases h1 : (1048576 : Int) < t.length
  · rw [if_pos h1] at e1
    exact .inl (ev_bind0 e1 (ev_pos (by decide) (ev_ret rfl)))
  · rw [if_neg h1] at e1
    have e2 := laws_szByteS_eq hd (n := 1048576 - (t.length : Int)) (by omega) (by omega)
    by_cases h2 : 1048576 - (t.length : Int) < d.length
    · rw [if_pos h2] at e2
      exact .inl (ev_bind0 e1 (ev_neg (by omega) (ev_bind0 e2 (ev_pos (by decide) (ev_ret rfl)))))
    · rw [if_neg h2] at e2
      rcases laws_szSymS_ev hm hs (n := 1048576 - (t.length : Int) - (d.length : Int)) (by omega) (by omega) with hr | ⟨v, v0, v1, hv, hl⟩
      · exact .inl (ev_bind0 e1 (ev_neg (by omega) (ev_bind0 e2 (ev_neg (by omega) (Ev.bind hr (ev_pos (by decide) (ev_ret rfl)))))))
      · exact .inr ⟨v, v0, ev_bind0 e1 (ev_neg (by omega) (ev_bind0 e2 (ev_neg (by omega) (Ev.bind hv (ev_neg (by omega) (ev_ret rfl)))))), by omega, by omega, hl⟩
def cSym (x : S86) : S87 := ⟨x.f0, x.f1⟩
theorem laws_toSymS_l0 (xs : List S86) (hl : xs.length ≤ 4611686018427387904) : ∀ (d i : Nat) (ys : List S87), i + d = xs.length → ys.length = xs.length → (∀ j, j < i → ys[j]? = (xs.map cSym)[j]?) → Ev (fun k => laws_toSymS.l0 k xs ys (i : Int)) (xs.map cSym) := by
  intro d
  induction d with
  | zero =>
    intro i ys h hy he
    refine Ev.step (fun _ => laws_toSymS.l0.eq_2 ..) (ev_neg (by omega) (ev_ret ?_))
    apply List.ext_getElem?
    intro j
    by_cases hj : j < i
    · exact he j hj
    · rw [List.getElem?_eq_none (by omega), List.getElem?_eq_none (by rw [List.length_map]; omega)]
  | succ d ih =>
    intro i ys h hy he
    have hi : i < xs.length := by omega
    have er : rd_T86 xs (i : Int) = xs[i] := getD_nat _ hi
    refine Ev.step (fun _ => laws_toSymS.l0.eq_2 ..) (ev_pos (by omega) (ev_pos (by omega) ?_))
    rw [w64_succ hi hl, er, Int.toNat_natCast]
    refine ev_bind0 (show laws_toSym.f xs[i].f0 xs[i].f1 = some (xs[i].f0, xs[i].f1) from rfl) (ev_pos (by omega) ?_)
    refine ih (i + 1) _ (by omega) (by rw [List.length_set]; exact hy) ?_
    intro j hj
    by_cases hji : j = i
    · subst hji
      rw [List.getElem?_set_self (by omega), List.getElem?_map, List.getElem?_eq_getElem hi]; rfl
    · rw [List.getElem?_set_ne (by omega)]
      exact he j (by omega)
theorem laws_toSymS_ev {xs : List S86} (hl : xs.length ≤ 1099511627776) : Ev (fun k => laws_toSymS.f k xs) (xs.map cSym) := by
  unfold laws_toSymS.f
  refine ev_pos (by omega) (ev_pos (by omega) ?_)
  exact laws_toSymS_l0 xs (by omega) xs.length 0 _ (by omega) (by simp) (fun j hj => by omega)
theorem laws_toAsm_ev (a b e : Int) {t d : List Int} {xs : List S86} (ht : t.length ≤ 281474976710656) (hd : d.length ≤ 281474976710656) (hl : xs.length ≤ 1099511627776) : Ev (fun k => laws_toAsm.f k a b t d e xs) (a, b, t, d, e, xs.map cSym) := by
  unfold laws_toAsm.f
  exact Ev.bind (laws_toByteS_ev ht) (Ev.bind (laws_toByteS_ev hd) (Ev.bind (laws_toSymS_ev hl) (ev_ret rfl)))
theorem laws_eqSymS_l0 (xs : List S87) (hl : xs.length ≤ 4611686018427387904) : ∀ (d i : Nat), i + d = xs.length → Ev (fun k => laws_eqSymS.l0 k xs xs (i : Int)) true := by
  intro d
  induction d with
  | zero => intro i h; exact Ev.step (fun _ => laws_eqSymS.l0.eq_2 ..) (ev_neg (by omega) (ev_ret rfl))
  | succ d ih =>
    intro i h
    have hi : i < xs.length := by omega
    refine Ev.step (fun _ => laws_eqSymS.l0.eq_2 ..) (ev_pos (by omega) (ev_pos (by omega) (ev_pos (by omega) ?_)))
    refine ev_bind0 (show laws_eqSym.f _ _ _ _ = some true by unfold laws_eqSym.f; rw [if_pos rfl, if_pos rfl]) (ev_pos rfl ?_)
    rw [w64_succ hi hl]
    exact ih (i + 1) (by omega)
theorem laws_eqSymS_ev {xs : List S87} (hl : xs.length ≤ 1099511627776) : Ev (fun k => laws_eqSymS.f k xs xs) true := by
  unfold laws_eqSymS.f
  exact ev_pos rfl (laws_eqSymS_l0 xs (by omega) xs.length 0 (Nat.zero_add _))
theorem laws_eqAsm_ev (a b e : Int) {t d : List Int} {xs : List S87} (ht : t.length ≤ 281474976710656) (hd : d.length ≤ 281474976710656) (hl : xs.length ≤ 1099511627776) : Ev (fun k => laws_eqAsm.f k a b t d e xs a b t d e xs) true := by
  unfold laws_eqAsm.f
  exact ev_pos rfl (ev_pos rfl (Ev.bind (laws_eqByteS_ev ht) (ev_pos rfl (Ev.bind (laws_eqByteS_ev hd) (ev_pos rfl (ev_pos rfl (Ev.bind (laws_eqSymS_ev hl) (ev_pos rfl (ev_ret rfl)))))))))
theorem laws_markText_l0 : ∀ (d n : Nat) (s : ByteArray), n < 10 ^ d → n ≤ 4611686018427387904 → d + s.size ≤ 1000 → ∃ r, Ev (fun k => laws_markText.l0 k (n : Int) s) r := by
  intro d
  induction d with
  | zero =>
    intro n s hn hb hs
    have hn' : n < 1 := hn
    exact ⟨_, Ev.step (fun _ => laws_markText.l0.eq_2 ..) (ev_neg (by omega) (ev_pos (by omega) (ev_ret rfl)))⟩
  | succ d ih =>
    intro n s hn hb hs
    by_cases h0 : n = 0
    · exact ⟨_, Ev.step (fun _ => laws_markText.l0.eq_2 ..) (ev_neg (by omega) (ev_pos (by omega) (ev_ret rfl)))⟩
    · have e : wrap64 (Int.tdiv (n : Int) 10) = ((n / 10 : Nat) : Int) := by
        have e : Int.tdiv (n : Int) 10 = ((n / 10 : Nat) : Int) := rfl
        rw [e, w64_id (by omega) (by omega)]
      have hsz : ∀ x : Int, (strOfNums [x] ++ s).size = 1 + s.size := by
        intro x
        rw [ByteArray.size_append, strOfNums_size]; rfl
      obtain ⟨r, hr⟩ := ih (n / 10) (strOfNums [(wrap64 (48 + (Int.tmod (n : Int) 10))) % 256] ++ s) (by rw [Nat.pow_succ] at hn; omega) (by omega) (by rw [hsz]; omega)
      refine ⟨r, Ev.step (fun _ => laws_markText.l0.eq_2 ..) (ev_pos (by omega) (ev_bind0 rfl (ev_pos (by rw [strOfNums_size]; simp only [List.length_singleton]; omega) ?_)))⟩
      rw [e]
      exact hr
theorem laws_markText_ev {n : Int} (h0 : 0 ≤ n) (h1 : n ≤ 1099511627776) : ∃ r, Ev (fun k => laws_markText.f k n) r := by
  unfold laws_markText.f
  by_cases h : n ≤ 0
  · exact ⟨_, ev_pos h (ev_ret rfl)⟩
  · obtain ⟨m, rfl⟩ : ∃ m : Nat, n = (m : Int) := ⟨n.toNat, by omega⟩
    have h13 : (10 : Nat) ^ 13 = 10000000000000 := by decide
    obtain ⟨r, hr⟩ := laws_markText_l0 13 m (⟨#[]⟩ : ByteArray) (by omega) (by omega) (by decide)
    exact ⟨r, ev_neg h hr⟩
theorem laws_markSymS_l0 : ∀ (d i : Nat) (xs : List S87) (k0 : Int), i + d = xs.length → xs.length ≤ 1048576 → 0 ≤ k0 → k0 + 2 * (d : Int) ≤ 1099511627776 → ∃ L, Ev (fun k => laws_markSymS.l0 k xs k0 (i : Int)) (k0 + 2 * (d : Int), L) := by
  intro d
  induction d with
  | zero =>
    intro i xs k0 h hx h0 hB
    exact ⟨xs, Ev.step (fun _ => laws_markSymS.l0.eq_2 ..) (ev_neg (by omega) (ev_ret (by simp)))⟩
  | succ d ih =>
    intro i xs k0 h hx h0 hB
    have hi : i < xs.length := by omega
    obtain ⟨t, ht⟩ := laws_markText_ev h0 (by omega)
    have e1 : wrap64 (k0 + 1) = k0 + 1 := w64_id (by omega) (by omega)
    have e2 : wrap64 (k0 + 1 + 1) = k0 + 2 := by rw [w64_id (by omega) (by omega)]; omega
    obtain ⟨L, hL⟩ := ih (i + 1) ((xs.set i ⟨t, (rd_T87 xs (i : Int)).f1⟩).set i ⟨(rd_T87 (xs.set i ⟨t, (rd_T87 xs (i : Int)).f1⟩) (i : Int)).f0, k0 + 1⟩) (k0 + 2) (by rw [List.length_set, List.length_set]; omega) (by rw [List.length_set, List.length_set]; exact hx) (by omega) (by omega)
    refine ⟨L, Ev.step (fun _ => laws_markSymS.l0.eq_2 ..) (ev_pos (by omega) (Ev.bind ht (ev_pos (by omega) (ev_bind0 rfl ?_))))⟩
    rw [e1, e2, w64_id (x := (i : Int) + 1) (by omega) (by omega), Int.toNat_natCast]
    rw [show k0 + 2 + 2 * (d : Int) = k0 + 2 * ((d + 1 : Nat) : Int) by omega] at hL
    exact hL
theorem laws_markSymS_ev (xs : List S87) (hx : xs.length ≤ 1048576) {k0 : Int} (h0 : 0 ≤ k0) (hB : k0 + 2 * (xs.length : Int) ≤ 1099511627776) : ∃ L, Ev (fun k => laws_markSymS.f k xs k0) (k0 + 2 * (xs.length : Int), L) :=
  laws_markSymS_l0 xs.length 0 xs k0 (Nat.zero_add _) hx h0 hB
theorem laws_markAsm_ev (a b e : Int) {t d : List Int} {xs : List S87} (ht : t.length ≤ 1048576) (hd : d.length ≤ 1048576) (hl : xs.length ≤ 1048576) : ∃ r L1 L2 L3, Ev (fun k => laws_markAsm.f k a b t d e xs 1) (r, L1, L2, L3) ∧ 0 ≤ r := by
  obtain ⟨L, hL⟩ := laws_markSymS_ev xs hl (k0 := 1 + (t.length : Int) + (d.length : Int)) (by omega) (by omega)
  refine ⟨1 + (t.length : Int) + (d.length : Int) + 2 * (xs.length : Int), markL 1 t.length, markL (1 + (t.length : Int)) d.length, L, ?_, by omega⟩
  unfold laws_markAsm.f
  exact Ev.bind (laws_markByteS_ev t (k0 := 1) (by omega) (by omega)) (Ev.bind (laws_markByteS_ev d (k0 := 1 + (t.length : Int)) (by omega) (by omega)) (Ev.bind hL (ev_ret rfl)))
def markG : Int → List S58 → Int × List S58
  | k0, [] => (k0, [])
  | k0, d :: ds => ((markG (k0 + 3 + d.f3.length) ds).1, ⟨k0, k0 + 1, k0 + 2, markL (k0 + 3) d.f3.length⟩ :: (markG (k0 + 3 + d.f3.length) ds).2)
theorem markG_ge : ∀ (ds : List S58) (k0 : Int), k0 ≤ (markG k0 ds).1 := by
  intro ds
  induction ds with
  | nil => intro k0; exact Int.le_refl _
  | cons d ds ih =>
    intro k0
    have := ih (k0 + 3 + d.f3.length)
    rw [markG]; simp only; omega
theorem markG_at {A ds : List S58} {d : S58} : rd_T58 (A ++ d :: ds) (A.length : Int) = d := by
  refine (getD_nat _ (by simp)).trans ?_
  rw [List.getElem_append_right (Nat.le_refl _)]
  simp
theorem markG_mark : ∀ (ds A : List S58) (k0 : Int), A.length + ds.length ≤ 1048576 → (∀ y ∈ ds, y.f3.length ≤ 1048576) → 0 ≤ k0 → k0 + 2097152 * ds.length ≤ 4611686018427387904 → Ev (fun k => laws_markSegS.l0 k (A ++ ds) k0 (A.length : Int)) ((markG k0 ds).1, A ++ (markG k0 ds).2) := by
  intro ds
  induction ds with
  | nil =>
    intro A k0 hX hm h0 hB
    rw [markG, List.append_nil]
    exact Ev.step (fun _ => laws_markSegS.l0.eq_2 ..) (ev_neg (Int.lt_irrefl _) (ev_ret rfl))
  | cons d ds ih =>
    intro A k0 hX hm h0 hB
    rw [List.length_cons] at hX hB
    have hmd := hm d (List.mem_cons_self ..)
    have e1 : wrap64 (k0 + 1) = k0 + 1 := w64_id (by omega) (by omega)
    have e1b : wrap64 (k0 + 1 + 1) = k0 + 2 := by rw [w64_id (by omega) (by omega)]; omega
    have e1c : wrap64 (k0 + 2 + 1) = k0 + 3 := by rw [w64_id (by omega) (by omega)]; omega
    have e2 : wrap64 ((A.length : Int) + 1) = ((A ++ [(⟨k0, k0 + 1, k0 + 2, markL (k0 + 3) d.f3.length⟩ : S58)]).length : Int) := by rw [w64_id (by omega) (by omega), List.length_append, List.length_singleton]; omega
    have hmk := laws_markByteS_ev d.f3 (k0 := k0 + 3) (by omega) (by omega)
    have hr := ih (A ++ [(⟨k0, k0 + 1, k0 + 2, markL (k0 + 3) d.f3.length⟩ : S58)]) (k0 + 3 + d.f3.length) (by rw [List.length_append, List.length_singleton]; omega) (fun y hy => hm y (List.mem_cons_of_mem _ hy)) (by omega) (by omega)
    rw [List.append_assoc, List.append_assoc] at hr
    have hs : (A ++ d :: ds).set A.length (⟨k0, k0 + 1, k0 + 2, markL (k0 + 3) d.f3.length⟩ : S58) = A ++ ([(⟨k0, k0 + 1, k0 + 2, markL (k0 + 3) d.f3.length⟩ : S58)] ++ ds) := by
      rw [List.set_append_right _ _ (Nat.le_refl _), Nat.sub_self]; rfl
    refine Ev.step (fun _ => laws_markSegS.l0.eq_2 ..) (ev_pos (by rw [List.length_append, List.length_cons]; omega) (ev_pos (by omega) ?_))
    rw [markG_at, e1, e1b, e1c, e2, Int.toNat_natCast]
    refine Ev.bind hmk ?_
    simp only [hs]
    exact hr
theorem markG_held : ∀ (ds A : List S58) (k0 : Int), A.length + ds.length ≤ 1048576 → (∀ y ∈ ds, y.f3.length ≤ 1048576) → 0 ≤ k0 → k0 + 2097152 * ds.length ≤ 4611686018427387904 → Ev (fun k => laws_heldSegS.l0 k (A ++ (markG k0 ds).2) k0 (A.length : Int)) (markG k0 ds).1 := by
  intro ds
  induction ds with
  | nil =>
    intro A k0 hX hm h0 hB
    rw [markG, List.append_nil]
    exact Ev.step (fun _ => laws_heldSegS.l0.eq_2 ..) (ev_neg (Int.lt_irrefl _) (ev_ret rfl))
  | cons d ds ih =>
    intro A k0 hX hm h0 hB
    rw [List.length_cons] at hX hB
    have hmd := hm d (List.mem_cons_self ..)
    have e1 : wrap64 (k0 + 1) = k0 + 1 := w64_id (by omega) (by omega)
    have e1b : wrap64 (k0 + 1 + 1) = k0 + 2 := by rw [w64_id (by omega) (by omega)]; omega
    have e1c : wrap64 (k0 + 2 + 1) = k0 + 3 := by rw [w64_id (by omega) (by omega)]; omega
    have e2 : wrap64 ((A.length : Int) + 1) = ((A ++ [(⟨k0, k0 + 1, k0 + 2, markL (k0 + 3) d.f3.length⟩ : S58)]).length : Int) := by rw [w64_id (by omega) (by omega), List.length_append, List.length_singleton]; omega
    have hhd := laws_heldByteS_ev d.f3.length (k0 := k0 + 3) (by omega) (by omega)
    have hr := ih (A ++ [(⟨k0, k0 + 1, k0 + 2, markL (k0 + 3) d.f3.length⟩ : S58)]) (k0 + 3 + d.f3.length) (by rw [List.length_append, List.length_singleton]; omega) (fun y hy => hm y (List.mem_cons_of_mem _ hy)) (by omega) (by omega)
    rw [List.append_assoc] at hr
    rw [markG]
    refine Ev.step (fun _ => laws_heldSegS.l0.eq_2 ..) (ev_pos (by rw [List.length_append, List.length_cons]; omega) (ev_pos (by omega) ?_))
    rw [markG_at, e1, e1b, e1c, e2]
    exact ev_pos rfl (ev_pos rfl (ev_pos rfl (Ev.bind hhd (ev_neg (by omega) hr))))
theorem laws_markG_ev (en : Int) (xs : List S58) (hm : ∀ y ∈ xs, y.f3.length ≤ 1048576) (hw : xs.length ≤ 1048576) : ∃ r L, Ev (fun k => laws_markImage.f k en xs 1) (r, L) ∧ Ev (fun k => laws_heldImage.f k en L 1) r ∧ 0 ≤ r := by
  have h0 : 0 ≤ (markG 1 xs).1 := Int.le_trans (by decide) (markG_ge xs 1)
  have h1 : Ev (fun k => laws_markSegS.f k xs 1) ((markG 1 xs).1, (markG 1 xs).2) := markG_mark xs [] 1 (by simpa using hw) hm (by decide) (by omega)
  have h2 : Ev (fun k => laws_heldSegS.f k (markG 1 xs).2 1) (markG 1 xs).1 := markG_held xs [] 1 (by simpa using hw) hm (by decide) (by omega)
  exact ⟨(markG 1 xs).1, (markG 1 xs).2, Ev.bind h1 (ev_ret rfl), Ev.bind h2 (ev_neg (by omega) (ev_ret rfl)), h0⟩
def linkSegs (t d : List Int) : List S58 := if (d.length : Int) > 0 then [⟨4096, 5, (t.length : Int), t⟩, ⟨262144, 3, (d.length : Int), d⟩] else [⟨4096, 5, (t.length : Int), t⟩]
def linkV (a : Int) (t d : List Int) (e : Int) : Int × List S58 × Bool := if a = 0 ∧ imageOk e (linkSegs t d) = true then (e, linkSegs t d, true) else (0, [], false)
theorem spec_Link_ev (a b e : Int) {t d : List Int} (xs : List S87) (ht : t.length ≤ 1048576) (hd : d.length ≤ 1048576) : Ev (fun k => spec_Link.f k a b t d e xs) (linkV a t d e) := by
  have hok := spec_ImageOk_ev e (linkSegs t d)
  have fin : ∀ S, S = linkSegs t d → Ev (fun k => (if a = 0 then ((spec_ImageOk.f k e S).bind fun x => (if x = true then (some (e, S, true)) else (some (0, ([] : List (S58)), false)))) else (some (0, ([] : List (S58)), false)))) (linkV a t d e) := by
    intro S hS
    subst hS
    unfold linkV
    refine ev_split (fun h => Ev.bind hok ?_) (fun h => ev_ret (by rw [if_neg (fun h2 => h h2.1)]))
    by_cases hi : imageOk e (linkSegs t d) = true
    · exact ev_pos hi (ev_ret (by rw [if_pos ⟨h, hi⟩]))
    · exact ev_neg hi (ev_ret (by rw [if_neg (fun h2 => hi h2.2)]))
  unfold spec_Link.f
  refine ev_bind0 rfl (ev_pos (by simp only [List.length_nil]; omega) (ev_pos (by decide) (ev_bind0 rfl ?_)))
  by_cases hp : (d.length : Int) > 0
  · refine ev_pos hp (ev_bind0 rfl (ev_pos (by simp only [List.length_nil]; omega) (ev_pos (by simp) (ev_bind0 rfl ?_))))
    exact fin _ (by unfold linkSegs; rw [if_pos hp]; rfl)
  · refine ev_neg hp ?_
    exact fin _ (by unfold linkSegs; rw [if_neg hp]; rfl)
theorem impl_Link_ev (a b e : Int) {t d : List Int} (xs : List S87) (ht : t.length ≤ 1048576) (hd : d.length ≤ 1048576) : Ev (fun k => impl_Link.f k a b t d e xs) (linkV a t d e) := by
  have hok := impl_ImageOk_ev e (linkSegs t d)
  have cp : ∀ l : List Int, l.length ≤ 1048576 → impl_copied.f l = some l := by
    intro l hl
    unfold impl_copied.f
    rw [if_pos (by simp only [List.length_nil]; omega)]; rfl
  have fin : ∀ S, S = linkSegs t d → a = 0 → Ev (fun k => ((impl_ImageOk.f k e S).bind fun x => (if x = true then (some (e, S, true)) else (some (0, ([] : List (S58)), false))))) (linkV a t d e) := by
    intro S hS h
    subst hS
    unfold linkV
    refine Ev.bind hok ?_
    by_cases hi : imageOk e (linkSegs t d) = true
    · exact ev_pos hi (ev_ret (by rw [if_pos ⟨h, hi⟩]))
    · exact ev_neg hi (ev_ret (by rw [if_neg (fun h2 => hi h2.2)]))
  unfold impl_Link.f
  by_cases h : a = 0
  · refine ev_pos h (ev_bind0 (cp t ht) (ev_bind0 rfl ?_))
    by_cases hp : (d.length : Int) > 0
    · refine ev_pos hp (ev_bind0 (cp d hd) (ev_pos (by simp) (ev_bind0 rfl ?_)))
      exact fin _ (by unfold linkSegs; rw [if_pos hp]; rfl) h
    · refine ev_neg hp ?_
      exact fin _ (by unfold linkSegs; rw [if_neg hp]) h
  · exact ev_neg h (ev_ret (by unfold linkV; rw [if_neg (fun h2 => h h2.1)]))
theorem FnExactLink : laws_FnExactLink.Pure := by
  intro a b t d e xs hq
  have htl : t.length ≤ maxLen := hq.2.2.1.1
  have hdl : d.length ≤ maxLen := hq.2.2.2.1.1
  have hxl : xs.length ≤ maxLen := hq.2.2.2.2.2.1
  have hsl : ∀ s ∈ xs, s.f0.size ≤ maxLen := fun s hs => (hq.2.2.2.2.2.2 s hs).1
  refine Ev.rounds ?_
  unfold laws_FnExactLink.f
  rcases laws_szAsm_ev a b e htl hdl hxl hsl with hr | ⟨v, v0, hv, ht, hd, hx⟩
  · exact Ev.bind hr (ev_pos (by decide) (ev_ret rfl))
  · refine Ev.bind hv (ev_neg (by omega) ?_)
    have toA := laws_toAsm_ev a b e (t := t) (d := d) (xs := xs) (by omega) (by omega) (by omega)
    have hxs : (xs.map cSym).length ≤ 1048576 := by rw [List.length_map]; exact hx
    have eqA := laws_eqAsm_ev a b e (t := t) (d := d) (xs := xs.map cSym) (by omega) (by omega) (by omega)
    obtain ⟨r, L1, L2, L3, mkA, hr0⟩ := laws_markAsm_ev a b e (t := t) (d := d) (xs := xs.map cSym) ht hd hxs
    have sp := spec_Link_ev a b e (t := t) (d := d) (xs.map cSym) ht hd
    have im := impl_Link_ev a b e (t := t) (d := d) (xs.map cSym) ht hd
    have hR : (linkV a t d e).2.1.length ≤ 2 ∧ ∀ y ∈ (linkV a t d e).2.1, y.f3.length ≤ 1048576 := by
      unfold linkV
      split
      · show (linkSegs t d).length ≤ 2 ∧ ∀ y ∈ linkSegs t d, y.f3.length ≤ 1048576
        unfold linkSegs
        split
        · refine ⟨Nat.le_refl _, fun y hy => ?_⟩
          rcases List.mem_cons.1 hy with rfl | hy
          · exact ht
          · obtain rfl := List.mem_singleton.1 hy
            exact hd
        · refine ⟨by simp, fun y hy => ?_⟩
          obtain rfl := List.mem_singleton.1 hy
          exact ht
      · exact ⟨by decide, fun y hy => by cases hy⟩
    generalize linkV a t d e = R at *
    obtain ⟨n, S, c⟩ := R
    obtain ⟨hS, hSd⟩ := hR
    dsimp only at hS hSd
    have eqI := laws_eqImage_ev n (xs := S) (by omega) (fun y hy => Nat.le_trans (hSd y hy) (by decide))
    obtain ⟨q, M, mkI, hdI, hq0⟩ := laws_markG_ev n S hSd (by omega)
    have hc : (c != c) = false := bne_eq_false_iff_eq.2 rfl
    refine Ev.bind toA (Ev.bind sp (Ev.bind toA (Ev.bind im (Ev.bind eqI (ev_pos rfl ?_)))))
    simp only [hc]
    refine Ev.step (fun _ => laws_FnExactLink.j0.eq_2 ..) (ev_neg (by decide) (Ev.bind toA (Ev.bind eqA (ev_pos rfl (Ev.bind mkA (ev_neg (by simp only; omega) (Ev.bind eqI (ev_pos rfl ?_))))))))
    simp only [hc]
    refine Ev.step (fun _ => laws_FnExactLink.j1.eq_2 ..) (ev_neg (by decide) (Ev.bind mkI (Ev.bind hdI (ev_neg (by omega) (ev_pos rfl (Ev.bind toA (Ev.bind im (Ev.bind eqI (ev_pos rfl ?_)))))))))
    simp only [hc]
    exact Ev.step (fun _ => laws_FnExactLink.j2.eq_2 ..) (ev_neg (by decide) (Ev.bind hdI (ev_neg (by omega) (ev_pos rfl (ev_ret rfl)))))
end Go.Proofs.Ytokiliilbopgkaa.Pure
