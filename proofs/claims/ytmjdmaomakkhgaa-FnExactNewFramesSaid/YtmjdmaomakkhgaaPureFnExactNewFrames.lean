/- For every input that the row lets in, FnExactNewFrames answers true; this text proves the plain law that is left when the machine's side is done. -/
import Derived.Test.YtmjdmaomakkhgaaPFnExactNewFramesx3
import Derived.Test.YtmjdmaomakkhgaaBase
set_option linter.unusedVariables false
set_option linter.unusedSimpArgs false
namespace Go.Proofs.Ytmjdmaomakkhgaa.Pure
open Go.RowKit Go.Proofs.Ytmjdmaomakkhgaa.PFnExactNewFrames Go.Proofs.YtmjdmaomakkhgaaW.PrintWords Go.Proofs.YtmjdmaomakkhgaaW.PrintLast Go.Proofs.YtmjdmaomakkhgaaW.PrintMore Go.Proofs.Ytmjdmaomakkhgaa.Base

theorem laws_eqBlock_self (a0 a1 : Int) : laws_eqBlock.f a0 a1 a0 a1 = some true := by
  unfold laws_eqBlock.f
  simp
theorem laws_eqBlockS_l0 (xs : List S73) (hl : xs.length ≤ 4611686018427387904) : ∀ (d i : Nat), i + d = xs.length → Ev (fun k => laws_eqBlockS.l0 k xs xs (i : Int)) true := by
  intro d
  induction d with
  | zero =>
    intro i h
    exact Ev.step (fun _ => laws_eqBlockS.l0.eq_2 ..) (ev_neg (by omega) (ev_ret rfl))
  | succ d ih =>
    intro i h
    refine Ev.step (fun _ => laws_eqBlockS.l0.eq_2 ..) (ev_pos (by omega) (ev_pos (by omega) (ev_pos (by omega) (ev_bind0 (laws_eqBlock_self ..) (ev_pos rfl ?_)))))
    rw [w64_succ (n := xs.length) (by omega) hl]
    exact ih (i + 1) (by omega)
theorem laws_eqBlockS_ev {xs : List S73} (hl : xs.length ≤ 1099511627776) : Ev (fun k => laws_eqBlockS.f k xs xs) true := by
  unfold laws_eqBlockS.f
  exact ev_pos rfl (laws_eqBlockS_l0 xs (by omega) xs.length 0 (by omega))
theorem laws_eqFrames_ev (n : Int) {xs : List S73} (hl : xs.length ≤ 1099511627776) : Ev (fun k => laws_eqFrames.f k n xs n xs) true := by
  unfold laws_eqFrames.f
  exact ev_pos rfl (Ev.bind (laws_eqBlockS_ev hl) (ev_pos rfl (ev_ret rfl)))
def p2 (o : Int) : Int := ((2 ^ o.toNat : Nat) : Int)
theorem p2_bd {o : Int} (h0 : 0 ≤ o) (h1 : o ≤ 11) : 1 ≤ p2 o ∧ p2 o ≤ 2048 := by
  unfold p2
  have h2 : o.toNat ≤ 11 := by omega
  have := Nat.pow_le_pow_right (n := 2) (by decide) h2
  have h3 := Nat.two_pow_pos o.toNat
  have h4 : (2 : Nat) ^ 11 = 2048 := by decide
  omega
theorem p2_succ {o : Int} (h0 : 0 ≤ o) : p2 (o + 1) = 2 * p2 o := by
  unfold p2
  rw [show (o + 1).toNat = o.toNat + 1 by omega, Nat.pow_succ]
  omega
theorem spec_l8Len_l0 (o : Int) (h1 : o ≤ 11) : ∀ (d : Nat) (i : Int), i + d = o → 0 ≤ i → Ev (fun k => spec_l8Len.l0 k o (p2 i) i) (p2 o) := by
  intro d
  induction d with
  | zero =>
    intro i h h0
    obtain rfl : i = o := by omega
    exact Ev.step (fun _ => spec_l8Len.l0.eq_2 ..) (ev_neg (by omega) (ev_ret rfl))
  | succ d ih =>
    intro i h h0
    have hb := p2_bd (o := i) h0 (by omega)
    refine Ev.step (fun _ => spec_l8Len.l0.eq_2 ..) (ev_pos (by omega) ?_)
    rw [w64_id (x := p2 i * 2) (by omega) (by omega), w64_id (x := i + 1) (by omega) (by omega), show p2 i * 2 = p2 (i + 1) by rw [p2_succ h0]; omega]
    exact ih (i + 1) (by omega) (by omega)
theorem spec_l8Len_ev {o : Int} (h0 : 0 ≤ o) (h1 : o ≤ 11) : Ev (fun k => spec_l8Len.f k o) (p2 o) := by
  unfold spec_l8Len.f
  have := spec_l8Len_l0 o h1 o.toNat 0 (by omega) (by omega)
  exact this
theorem whole_mono {m : List Bool} {a n k : Nat} (h : impl_framesOf.whole m a n) (hk : k ≤ n) : impl_framesOf.whole m a k := ⟨by have := h.1; omega, fun i hi => h.2 i (by omega)⟩
def ordG (m : List Bool) (a : Nat) : Nat → Nat → Nat
  | 0, k => k
  | d + 1, k => if a % 2 ^ (k + 1) = 0 ∧ impl_framesOf.whole m a (2 ^ (k + 1)) then ordG m a d (k + 1) else k
theorem ordG_le (m : List Bool) (a : Nat) : ∀ (d k : Nat), k ≤ ordG m a d k ∧ ordG m a d k ≤ k + d := by
  intro d
  induction d with
  | zero => intro k; exact ⟨Nat.le_refl _, Nat.le_refl _⟩
  | succ d ih =>
    intro k
    rw [ordG]
    by_cases h : a % 2 ^ (k + 1) = 0 ∧ impl_framesOf.whole m a (2 ^ (k + 1))
    · rw [if_pos h]; have := ih (k + 1); omega
    · rw [if_neg h]; omega
theorem ordG_eq {m : List Bool} {a o : Nat} (ho : o ≤ 10) (al : a % 2 ^ o = 0) (w : impl_framesOf.whole m a (2 ^ o)) (st : o = 10 ∨ ¬ (a % 2 ^ (o + 1) = 0 ∧ impl_framesOf.whole m a (2 ^ (o + 1)))) : ∀ (d k : Nat), d + k = 10 → k ≤ o → ordG m a d k = o := by
  intro d
  induction d with
  | zero => intro k h hk; rw [ordG]; omega
  | succ d ih =>
    intro k h hk
    rw [ordG]
    by_cases e : k = o
    · subst e; exact if_neg (st.resolve_left (by omega))
    · have hd : (2 : Nat) ^ (k + 1) ∣ 2 ^ o := Nat.pow_dvd_pow 2 (by omega)
      rw [if_pos ⟨Nat.mod_eq_zero_of_dvd (Nat.dvd_trans hd (Nat.dvd_of_mod_eq_zero al)), whole_mono w (Nat.le_of_dvd (Nat.two_pow_pos o) hd)⟩]
      exact ih (k + 1) (by omega) (by omega)
theorem ordG_whole {m : List Bool} {a : Nat} : ∀ (d k : Nat), impl_framesOf.whole m a (2 ^ k) → impl_framesOf.whole m a (2 ^ ordG m a d k) := by
  intro d
  induction d with
  | zero => intro k h; exact h
  | succ d ih =>
    intro k h
    rw [ordG]
    by_cases c : a % 2 ^ (k + 1) = 0 ∧ impl_framesOf.whole m a (2 ^ (k + 1))
    · rw [if_pos c]; exact ih _ c.2
    · rw [if_neg c]; exact h
def listG (m : List Bool) (a : Nat) : List S73 :=
  if h : a < m.length then
    if m[a] = true then ⟨(a : Int), (ordG m a 10 0 : Nat)⟩ :: listG m (a + 2 ^ ordG m a 10 0) else listG m (a + 1)
  else []
termination_by m.length - a
decreasing_by
  · have := Nat.two_pow_pos (ordG m a 10 0); omega
  · omega
theorem listG_end {m : List Bool} {a : Nat} (h : m.length ≤ a) : listG m a = [] := by rw [listG]; exact dif_neg (by omega)
theorem listG_whole {m : List Bool} {a o : Nat} (ha : a < m.length) (ho : o ≤ 10) (al : a % 2 ^ o = 0) (w : impl_framesOf.whole m a (2 ^ o)) (st : o = 10 ∨ ¬ (a % 2 ^ (o + 1) = 0 ∧ impl_framesOf.whole m a (2 ^ (o + 1)))) : listG m a = ⟨(a : Int), (o : Nat)⟩ :: listG m (a + 2 ^ o) := by
  have e := ordG_eq ho al w st 10 0 rfl (by omega)
  have t := (w.2 0 (Nat.two_pow_pos o))
  rw [Nat.add_zero, List.getElem?_eq_getElem ha] at t
  rw [listG, dif_pos ha, if_pos (Option.some.inj t), e]
theorem listG_walk (m : List Bool) : ∀ (o a : Nat), o ≤ 10 → a % 2 ^ o = 0 → (o = 10 ∨ ¬ (a % 2 ^ (o + 1) = 0 ∧ impl_framesOf.whole m a (2 ^ (o + 1)))) → listG m a = impl_framesOf.walk m o a ++ listG m (a + 2 ^ o) := by
  intro o
  induction o with
  | zero =>
    intro a ho al st
    rw [impl_framesOf.walk]
    by_cases h : m.length ≤ a
    · rw [if_pos h, listG_end h, listG_end (by omega)]; rfl
    · rw [if_neg h]
      by_cases w : impl_framesOf.whole m a (2 ^ 0)
      · rw [if_pos w, listG_whole (by omega) ho al w st]; rfl
      · rw [if_neg w, List.nil_append, listG, dif_pos (by omega), if_neg (fun t => w ⟨by omega, fun i hi => by
          obtain rfl : i = 0 := by omega
          rw [Nat.add_zero, List.getElem?_eq_getElem (by omega), t]⟩)]
  | succ o ih =>
    intro a ho al st
    rw [impl_framesOf.walk]
    have hp : 2 ^ (o + 1) = 2 ^ o * 2 := Nat.pow_succ 2 o
    have h0 := Nat.two_pow_pos o
    by_cases h : m.length ≤ a
    · rw [if_pos h, listG_end h, listG_end (by omega)]; rfl
    · rw [if_neg h]
      by_cases w : impl_framesOf.whole m a (2 ^ (o + 1))
      · rw [if_pos w, listG_whole (by omega) ho al w st]; rfl
      · rw [if_neg w]
        have hd := Nat.dvd_of_mod_eq_zero al
        have hdo : 2 ^ o ∣ a := Nat.dvd_trans ⟨2, hp⟩ hd
        have hna : ¬ (a + 2 ^ o) % 2 ^ (o + 1) = 0 := by
          intro hh
          have := (Nat.dvd_add_right hd).1 (Nat.dvd_of_mod_eq_zero hh)
          have := Nat.le_of_dvd h0 this
          omega
        rw [ih a (by omega) (Nat.mod_eq_zero_of_dvd hdo) (Or.inr (fun hh => w hh.2)), ih (a + 2 ^ o) (by omega) (Nat.mod_eq_zero_of_dvd (Nat.dvd_add hdo (Nat.dvd_refl _))) (Or.inr (fun hh => hna hh.1)), List.append_assoc, show a + 2 ^ o + 2 ^ o = a + 2 ^ (o + 1) by omega]
theorem listG_all {m : List Bool} (h : m.length ≤ 1024) : listG m 0 = impl_framesOf.walk m 10 0 := by
  rw [listG_walk m 10 0 (by omega) (Nat.zero_mod _) (Or.inl rfl), listG_end (by omega), List.append_nil]
theorem impl_framesOf_eq {m : List Bool} (h : m.length ≤ 1024) : impl_framesOf.f m = some ((m.length : Int), listG m 0) := by
  unfold impl_framesOf.f; rw [if_pos h, listG_all h]
theorem rdb_nat {m : List Bool} {n : Nat} (h : n < m.length) : rdOf false m (n : Int) = m[n] := getD_nat false h
/-- Positions a, a + 1, .. (n of them) set to v. -/
def setRun (v : Bool) : List Bool → Nat → Nat → List Bool
  | m, _, 0 => m
  | m, a, n + 1 => setRun v (m.set a v) (a + 1) n
theorem setRun_len (v : Bool) : ∀ (n a : Nat) (m : List Bool), (setRun v m a n).length = m.length := by
  intro n
  induction n with
  | zero => intro a m; rfl
  | succ n ih => intro a m; rw [setRun, ih, List.length_set]
theorem spec_l8Whole_l0 {m : List Bool} {a n : Nat} (hb : a + n ≤ m.length) (hm : m.length ≤ 1048576) : ∀ (d i : Nat), i + d = n → (∀ j, j < i → m[a + j]? = some true) → Ev (fun k => spec_l8Whole.l0 k m (a : Int) (n : Int) (i : Int)) (decide (impl_framesOf.whole m a n)) := by
  intro d
  induction d with
  | zero =>
    intro i h hi
    exact Ev.step (fun _ => spec_l8Whole.l0.eq_2 ..) (ev_neg (by omega) (ev_ret (decide_eq_true (show impl_framesOf.whole m a n from ⟨hb, fun j hj => hi j (by omega)⟩)).symm))
  | succ d ih =>
    intro i h hi
    have hl : a + i < m.length := by omega
    have e : wrap64 ((a : Int) + (i : Int)) = ((a + i : Nat) : Int) := by rw [w64_id (by omega) (by omega)]; omega
    have e1 : wrap64 ((i : Int) + 1) = ((i + 1 : Nat) : Int) := by rw [w64_id (by omega) (by omega)]; omega
    refine Ev.step (fun _ => spec_l8Whole.l0.eq_2 ..) (ev_pos (by omega) ?_)
    rw [e, e1]
    refine ev_pos (by omega) (ev_pos (by omega) ?_)
    rw [rdb_nat hl]
    by_cases hc : m[a + i] = true
    · refine ev_pos hc (ih (i + 1) (by omega) (fun j hj => ?_))
      by_cases e2 : j = i
      · subst e2; rw [List.getElem?_eq_getElem hl, hc]
      · exact hi j (by omega)
    · refine ev_neg hc (ev_ret (decide_eq_false (fun w => hc ?_)).symm)
      have := w.2 i (by omega)
      rw [List.getElem?_eq_getElem hl] at this
      exact Option.some.inj this
theorem spec_l8Whole_ev {m : List Bool} {a n : Nat} (hm : m.length ≤ 1048576) (ha : a + n ≤ 1048576) : Ev (fun k => spec_l8Whole.f k m (a : Int) (n : Int)) (decide (impl_framesOf.whole m a n)) := by
  unfold spec_l8Whole.f
  have e : wrap64 ((a : Int) + (n : Int)) = ((a + n : Nat) : Int) := by rw [w64_id (by omega) (by omega)]; omega
  rw [e]
  by_cases h : a + n ≤ m.length
  · exact ev_neg (by omega) (spec_l8Whole_l0 h hm n 0 (by omega) (fun j hj => by omega))
  · exact ev_pos (by omega) (ev_ret (decide_eq_false (fun w => h w.1)).symm)
theorem p2_nat (o : Nat) : p2 (o : Int) = ((2 ^ o : Nat) : Int) := rfl
theorem pow_le_1024 {o : Nat} (h : o ≤ 10) : 2 ^ o ≤ 1024 := by
  have := Nat.pow_le_pow_right (n := 2) (by decide) h
  have h4 : (2 : Nat) ^ 10 = 1024 := by decide
  omega
theorem spec_l8List_l1 {m : List Bool} (hm : m.length ≤ 1024) {a : Nat} (ha : a ≤ 1024) {total : Int} {acc : List S73} (hacc : acc.length ≤ 1024) {r : Int × List S73} : ∀ (d o : Nat), d + o = 10 →
    Ev (fun k => spec_l8List.l0 k m ((a + 2 ^ ordG m a d o : Nat) : Int) total (acc ++ [(⟨(a : Int), ((ordG m a d o : Nat) : Int)⟩ : S73)])) r → Ev (fun k => spec_l8List.l1 k m (a : Int) (o : Int) total acc) r := by
  intro d
  induction d with
  | zero =>
    intro o h hr
    obtain rfl : o = 10 := by omega
    have hp := pow_le_1024 (show 10 ≤ 10 by omega)
    refine Ev.step (fun _ => spec_l8List.l1.eq_2 ..) (ev_neg (by omega) (ev_pos (by omega) ?_))
    refine Ev.bind (spec_l8Len_ev (o := ((10 : Nat) : Int)) (by omega) (by omega)) ?_
    rw [p2_nat, w64_id (by omega) (by omega), ← Int.natCast_add]
    exact hr
  | succ d ih =>
    intro o h hr
    have e1 : wrap64 ((o : Int) + 1) = ((o + 1 : Nat) : Int) := by rw [w64_id (by omega) (by omega)]; omega
    have hp0 := Nat.two_pow_pos (o + 1)
    have hp1 := pow_le_1024 (show o + 1 ≤ 10 by omega)
    have hpo := pow_le_1024 (show o ≤ 10 by omega)
    have stop : (¬ (a % 2 ^ (o + 1) = 0 ∧ impl_framesOf.whole m a (2 ^ (o + 1)))) → Ev (fun k => if acc.length < 8796093022208 then ((spec_l8Len.f k (o : Int)).bind fun t158 => (spec_l8List.l0 k m (wrap64 ((a : Int) + t158)) total (acc ++ [(⟨(a : Int), (o : Int)⟩ : S73)]))) else none) r := by
      intro hn
      rw [ordG, if_neg hn] at hr
      refine ev_pos (by omega) (Ev.bind (spec_l8Len_ev (o := (o : Int)) (by omega) (by omega)) ?_)
      rw [p2_nat, w64_id (by omega) (by omega), ← Int.natCast_add]
      exact hr
    refine Ev.step (fun _ => spec_l8List.l1.eq_2 ..) (ev_pos (by omega) ?_)
    rw [e1]
    refine Ev.bind (spec_l8Len_ev (o := ((o + 1 : Nat) : Int)) (by omega) (by omega)) (ev_neg (by rw [p2_nat]; omega) ?_)
    rw [p2_nat, tmod_nat]
    by_cases c1 : a % 2 ^ (o + 1) = 0
    · refine ev_pos (by rw [c1]; rfl) (Ev.bind (spec_l8Len_ev (o := ((o + 1 : Nat) : Int)) (by omega) (by omega)) ?_)
      rw [p2_nat]
      refine Ev.bind (spec_l8Whole_ev (by omega) (by omega)) ?_
      by_cases c2 : impl_framesOf.whole m a (2 ^ (o + 1))
      · rw [decide_eq_true c2]
        rw [ordG, if_pos ⟨c1, c2⟩] at hr
        exact ev_pos rfl (ih (o + 1) (by omega) hr)
      · rw [decide_eq_false c2]
        exact ev_neg (by decide) (stop (fun h => c2 h.2))
    · exact ev_neg (by omega) (stop (fun h => c1 h.1))
theorem spec_l8List_l0 {m : List Bool} (hm : m.length ≤ 1024) {total : Int} : ∀ (d a : Nat) (acc : List S73), m.length ≤ a + d → a ≤ 1024 + 1024 → acc.length ≤ a → Ev (fun k => spec_l8List.l0 k m (a : Int) total acc) (total, acc ++ listG m a) := by
  intro d
  induction d with
  | zero =>
    intro a acc h ha hacc
    rw [listG_end (by omega), List.append_nil]
    exact Ev.step (fun _ => spec_l8List.l0.eq_2 ..) (ev_neg (by omega) (ev_ret rfl))
  | succ d ih =>
    intro a acc h ha hacc
    by_cases hl : a < m.length
    · refine Ev.step (fun _ => spec_l8List.l0.eq_2 ..) (ev_pos (by omega) (ev_pos (by omega) ?_))
      rw [rdb_nat hl]
      have ho := ordG_le m a 10 0
      have hp0 := Nat.two_pow_pos (ordG m a 10 0)
      have hp1 := pow_le_1024 (o := ordG m a 10 0) (by omega)
      rw [listG, dif_pos hl]
      by_cases hc : m[a] = true
      · rw [if_pos hc]
        refine ev_pos hc ?_
        have := spec_l8List_l1 (r := (total, acc ++ ⟨(a : Int), ((ordG m a 10 0 : Nat) : Int)⟩ :: listG m (a + 2 ^ ordG m a 10 0))) hm (a := a) (by omega) (total := total) (acc := acc) (by omega) 10 0 (by omega) ?_
        · exact this
        · have h2 := ih (a + 2 ^ ordG m a 10 0) (acc ++ [⟨(a : Int), ((ordG m a 10 0 : Nat) : Int)⟩]) (by omega) (by omega) (by rw [List.length_append, List.length_singleton]; omega)
          rw [List.append_assoc, List.singleton_append] at h2
          exact h2
      · rw [if_neg hc]
        refine ev_neg hc ?_
        rw [show wrap64 ((a : Int) + 1) = ((a + 1 : Nat) : Int) by rw [w64_id (by omega) (by omega)]; omega]
        exact ih (a + 1) acc (by omega) (by omega) (by omega)
    · rw [listG_end (by omega), List.append_nil]
      exact Ev.step (fun _ => spec_l8List.l0.eq_2 ..) (ev_neg (by omega) (ev_ret rfl))
theorem spec_l8List_ev {m : List Bool} (hm : m.length ≤ 1024) : Ev (fun k => spec_l8List.f k m) ((m.length : Int), listG m 0) := by
  unfold spec_l8List.f
  have := spec_l8List_l0 hm (total := (m.length : Int)) m.length 0 [] (by omega) (by omega) (by simp)
  rw [List.nil_append] at this
  exact this
def markB (k : Int) (n : Nat) : List S73 := (List.range n).map fun j : Nat => ⟨k + 2 * (j : Int), k + 2 * (j : Int) + 1⟩
theorem markB_len (k : Int) (n : Nat) : (markB k n).length = n := by simp [markB]
theorem markB_get (k : Int) {n j : Nat} (h : j < n) : (markB k n)[j]? = some ⟨k + 2 * (j : Int), k + 2 * (j : Int) + 1⟩ := by
  simp [markB, List.getElem?_range h]
theorem laws_markBlockS_l0 (n : Nat) (k0 : Int) (hk : 0 ≤ k0) (hk2 : k0 + 2 * n ≤ 4611686018427387904) : ∀ (d i : Nat) (xs : List S73), i + d = n → xs.length = n → (∀ j, j < i → xs[j]? = (markB k0 n)[j]?) → Ev (fun k => laws_markBlockS.l0 k xs (k0 + 2 * (i : Int)) (i : Int)) (k0 + 2 * (n : Int), markB k0 n) := by
  intro d
  induction d with
  | zero =>
    intro i xs h hx he
    refine Ev.step (fun _ => laws_markBlockS.l0.eq_2 ..) ?_
    refine ev_neg (by omega) (ev_ret ?_)
    refine Prod.ext (by simp only; omega) ?_
    apply List.ext_getElem?
    intro j
    by_cases hj : j < n
    · exact he j (by omega)
    · rw [List.getElem?_eq_none (show xs.length ≤ j by omega), List.getElem?_eq_none (by rw [markB_len]; omega)]
  | succ d ih =>
    intro i xs h hx he
    refine Ev.step (fun _ => laws_markBlockS.l0.eq_2 ..) ?_
    have e1 : wrap64 ((i : Int) + 1) = ((i + 1 : Nat) : Int) := by rw [w64_id (by omega) (by omega)]; omega
    have e2 : wrap64 (k0 + 2 * (i : Int) + 1) = k0 + 2 * (i : Int) + 1 := by rw [w64_id (by omega) (by omega)]
    have e3 : wrap64 (k0 + 2 * (i : Int) + 1 + 1) = k0 + 2 * ((i + 1 : Nat) : Int) := by rw [w64_id (by omega) (by omega)]; omega
    refine ev_pos (by omega) (ev_pos (by omega) (Ev.bind (Ev.now _) ?_))
    rw [e1, e2, e3, Int.toNat_natCast]
    have er : rd_T73 (xs.set i (⟨k0 + 2 * (i : Int), (rd_T73 xs (i : Int)).f1⟩ : S73)) (i : Int) = ⟨k0 + 2 * (i : Int), (rd_T73 xs (i : Int)).f1⟩ := getD_set _ _ (by omega)
    rw [er, List.set_set]
    refine ih (i + 1) _ (by omega) (by rw [List.length_set]; exact hx) ?_
    intro j hj
    by_cases hji : j = i
    · subst hji
      rw [List.getElem?_set_self (by omega), markB_get k0 (by omega)]
    · rw [List.getElem?_set_ne (by omega)]
      exact he j (by omega)
theorem laws_markBlockS_ev (xs : List S73) {k0 : Int} (hk : 0 ≤ k0) (hk2 : k0 + 2 * (xs.length : Int) ≤ 4611686018427387904) : Ev (fun k => laws_markBlockS.f k xs k0) (k0 + 2 * (xs.length : Int), markB k0 xs.length) := by
  unfold laws_markBlockS.f
  have := laws_markBlockS_l0 xs.length k0 hk hk2 xs.length 0 xs (by omega) rfl (fun j hj => by omega)
  rw [show k0 + 2 * ((0 : Nat) : Int) = k0 by omega] at this
  exact this
theorem laws_heldBlockS_l0 (n : Nat) (k0 : Int) (hk : 0 ≤ k0) (hk2 : k0 + 2 * n ≤ 4611686018427387904) : ∀ (d i : Nat), i + d = n → Ev (fun k => laws_heldBlockS.l0 k (markB k0 n) (k0 + 2 * (i : Int)) (i : Int)) (k0 + 2 * (n : Int)) := by
  intro d
  induction d with
  | zero =>
    intro i h
    refine Ev.step (fun _ => laws_heldBlockS.l0.eq_2 ..) ?_
    refine ev_neg (by rw [markB_len]; omega) (ev_ret (by omega))
  | succ d ih =>
    intro i h
    refine Ev.step (fun _ => laws_heldBlockS.l0.eq_2 ..) ?_
    have e1 : wrap64 ((i : Int) + 1) = ((i + 1 : Nat) : Int) := by rw [w64_id (by omega) (by omega)]; omega
    have e2 : wrap64 (k0 + 2 * (i : Int) + 1) = k0 + 2 * (i : Int) + 1 := by rw [w64_id (by omega) (by omega)]
    have e3 : wrap64 (k0 + 2 * (i : Int) + 1 + 1) = k0 + 2 * ((i + 1 : Nat) : Int) := by rw [w64_id (by omega) (by omega)]; omega
    have hl : i < (markB k0 n).length := by rw [markB_len]; omega
    have e4 : (markB k0 n)[i] = ⟨k0 + 2 * (i : Int), k0 + 2 * (i : Int) + 1⟩ := by
      have := markB_get k0 (n := n) (j := i) (by omega)
      rw [List.getElem?_eq_getElem hl] at this
      exact Option.some.inj this
    have er : rd_T73 (markB k0 n) (i : Int) = ⟨k0 + 2 * (i : Int), k0 + 2 * (i : Int) + 1⟩ := (getD_nat _ hl).trans e4
    rw [er, e1, e2, e3]
    exact ev_pos (by omega) (ev_pos (by omega) (ev_pos rfl (ev_pos rfl (ih (i + 1) (by omega)))))
theorem laws_heldBlockS_ev (n : Nat) {k0 : Int} (hk : 0 ≤ k0) (hk2 : k0 + 2 * n ≤ 4611686018427387904) : Ev (fun k => laws_heldBlockS.f k (markB k0 n) k0) (k0 + 2 * (n : Int)) := by
  unfold laws_heldBlockS.f
  have := laws_heldBlockS_l0 n k0 hk hk2 n 0 (by omega)
  rw [show k0 + 2 * ((0 : Nat) : Int) = k0 by omega] at this
  exact this
theorem laws_markFrames_ev (n : Int) {xs : List S73} (hl : xs.length ≤ 1099511627776) : Ev (fun k => laws_markFrames.f k n xs 1) (1 + 2 * (xs.length : Int), markB 1 xs.length) := by
  unfold laws_markFrames.f
  exact Ev.bind (laws_markBlockS_ev xs (by omega) (by omega)) (ev_ret rfl)
theorem laws_heldFrames_ev (n : Int) {m : Nat} (hl : m ≤ 1099511627776) : Ev (fun k => laws_heldFrames.f k n (markB 1 m) 1) (1 + 2 * (m : Int)) := by
  unfold laws_heldFrames.f
  exact Ev.bind (laws_heldBlockS_ev m (by omega) (by omega)) (ev_neg (by omega) (ev_ret rfl))
theorem listG_len {m : List Bool} : ∀ (d a : Nat), m.length ≤ a + d → (listG m a).length ≤ d := by
  intro d
  induction d with
  | zero => intro a h; rw [listG_end (by omega)]; exact Nat.le_refl _
  | succ d ih =>
    intro a h
    by_cases hl : a < m.length
    · rw [listG, dif_pos hl]
      have hp0 := Nat.two_pow_pos (ordG m a 10 0)
      split
      · have := ih (a + 2 ^ ordG m a 10 0) (by omega)
        rw [List.length_cons]; omega
      · have := ih (a + 1) (by omega)
        omega
    · rw [listG_end (by omega)]; exact Nat.zero_le _
theorem listG_short {m : List Bool} (h : m.length ≤ 1024) : (listG m 0).length ≤ 1099511627776 := by
  have := listG_len (m := m) 1024 0 (by omega)
  omega
def newF (total : Int) : Int × List S73 := if total < 0 ∨ total > 1024 then (0, []) else (total, listG (List.replicate total.toNat true) 0)
theorem fill_next {n i : Nat} (h : i < n) : ((List.replicate i true ++ List.replicate (n - i) false : List Bool)).set i true = List.replicate (i + 1) true ++ List.replicate (n - (i + 1)) false := by
  apply List.ext_getElem?
  intro j
  by_cases e : j = i
  · subst e
    rw [List.getElem?_set_self (by simp; omega), List.getElem?_append_left (by simp), List.getElem?_replicate, if_pos (by omega)]
  · rw [List.getElem?_set_ne (by omega)]
    by_cases h1 : j < i
    · rw [List.getElem?_append_left (by simp; omega), List.getElem?_append_left (by simp; omega), List.getElem?_replicate, List.getElem?_replicate, if_pos h1, if_pos (by omega)]
    · rw [List.getElem?_append_right (by simp; omega), List.getElem?_append_right (by simp; omega), List.length_replicate, List.length_replicate, List.getElem?_replicate, List.getElem?_replicate]
      by_cases h2 : j < n
      · rw [if_pos (by omega), if_pos (by omega)]
      · rw [if_neg (by omega), if_neg (by omega)]
theorem spec_NewFrames_l0 {n : Nat} (hn : n ≤ 1024) : ∀ (d i : Nat), i + d = n → Ev (fun k => spec_NewFrames.l0 k (List.replicate i true ++ List.replicate (n - i) false) (i : Int)) ((n : Int), listG (List.replicate n true) 0) := by
  intro d
  induction d with
  | zero =>
    intro i h
    obtain rfl : i = n := by omega
    refine Ev.step (fun _ => spec_NewFrames.l0.eq_2 ..) (ev_neg (by simp) ?_)
    rw [Nat.sub_self, List.replicate_zero, List.append_nil]
    refine Ev.bind (spec_l8List_ev (by simp; omega)) (ev_ret ?_)
    rw [List.length_replicate]
  | succ d ih =>
    intro i h
    refine Ev.step (fun _ => spec_NewFrames.l0.eq_2 ..) (ev_pos (by simp; omega) (ev_pos (by omega) ?_))
    rw [Int.toNat_natCast, fill_next (by omega), w64_succ (n := n) (by omega) (by omega)]
    exact ih (i + 1) (by omega)
theorem spec_NewFrames_ev (total : Int) : Ev (fun k => spec_NewFrames.f k total) (newF total) := by
  unfold spec_NewFrames.f newF
  have bad : Ev (fun k => spec_NewFrames.j0 k total true) ((0, []) : Int × List S73) := Ev.step (fun _ => spec_NewFrames.j0.eq_2 ..) (ev_pos rfl (ev_ret rfl))
  by_cases h : total < 0 ∨ total > 1024
  · rw [if_pos h]
    refine ev_split (fun _ => bad) (fun h1 => ?_)
    rw [decide_eq_true (by omega)]; exact bad
  · rw [if_neg h]
    refine ev_neg (by omega) ?_
    rw [decide_eq_false (by omega)]
    refine Ev.step (fun _ => spec_NewFrames.j0.eq_2 ..) (ev_neg (by decide) (ev_pos (by omega) (ev_pos (by omega) ?_)))
    have := spec_NewFrames_l0 (n := total.toNat) (by omega) total.toNat 0 (by omega)
    rw [List.replicate_zero, List.nil_append, Nat.sub_zero, show ((total.toNat : Nat) : Int) = total by omega] at this
    exact this
theorem impl_NewFrames_l0 {n : Nat} (hn : n ≤ 1024) : ∀ (d i : Nat), i + d = n → Ev (fun k => impl_NewFrames.l0 k (List.replicate i true ++ List.replicate (n - i) false) (n : Int) (i : Int)) ((n : Int), listG (List.replicate n true) 0) := by
  intro d
  induction d with
  | zero =>
    intro i h
    obtain rfl : i = n := by omega
    refine Ev.step (fun _ => impl_NewFrames.l0.eq_2 ..) (ev_neg (by omega) ?_)
    rw [Nat.sub_self, List.replicate_zero, List.append_nil]
    refine ev_bind0 (impl_framesOf_eq (by simp; omega)) (ev_ret ?_)
    rw [List.length_replicate]
  | succ d ih =>
    intro i h
    refine Ev.step (fun _ => impl_NewFrames.l0.eq_2 ..) (ev_pos (by omega) (ev_pos (by omega) (ev_pos (by simp; omega) ?_)))
    rw [Int.toNat_natCast, fill_next (by omega), w64_succ (n := n) (by omega) (by omega)]
    exact ih (i + 1) (by omega)
theorem impl_NewFrames_ev (total : Int) : Ev (fun k => impl_NewFrames.f k total) (newF total) := by
  unfold impl_NewFrames.f newF
  have bad : Ev (fun k => impl_NewFrames.j0 k total true) ((0, []) : Int × List S73) := Ev.step (fun _ => impl_NewFrames.j0.eq_2 ..) (ev_pos rfl (ev_ret rfl))
  by_cases h : total < 0 ∨ total > 1024
  · rw [if_pos h]
    refine ev_split (fun _ => bad) (fun h1 => ?_)
    rw [decide_eq_true (by omega)]; exact bad
  · rw [if_neg h]
    refine ev_neg (by omega) ?_
    rw [decide_eq_false (by omega)]
    refine Ev.step (fun _ => impl_NewFrames.j0.eq_2 ..) (ev_neg (by decide) (ev_pos (by omega) (ev_pos (by omega) (ev_bind0 rfl ?_))))
    have := impl_NewFrames_l0 (n := total.toNat) (by omega) total.toNat 0 (by omega)
    rw [List.replicate_zero, List.nil_append, Nat.sub_zero, show ((total.toNat : Nat) : Int) = total by omega] at this
    rw [List.length_replicate, show ((total.toNat : Nat) : Int) = total by omega]
    exact this
theorem newF_short (t : Int) : (newF t).2.length ≤ 1099511627776 := by
  unfold newF
  split
  · simp
  · exact listG_short (by simp; omega)
theorem FnExactNewFrames : laws_FnExactNewFrames.Pure := by
  intro a0 ha
  refine Ev.rounds ?_
  unfold laws_FnExactNewFrames.f
  have hs := newF_short a0
  have h1 := impl_NewFrames_ev a0
  have h2 := spec_NewFrames_ev a0
  generalize newF a0 = r at *
  obtain ⟨n, xs⟩ := r
  exact Ev.bind h2 (Ev.bind h1 (Ev.bind (laws_eqFrames_ev n hs) (ev_pos rfl (Ev.bind (laws_markFrames_ev n hs) (Ev.bind (laws_heldFrames_ev n hs) (ev_neg (by omega) (ev_pos rfl (Ev.bind h1 (Ev.bind (laws_eqFrames_ev n hs) (ev_pos rfl (Ev.bind (laws_heldFrames_ev n hs) (ev_neg (by omega) (ev_pos rfl (ev_ret rfl))))))))))))))
end Go.Proofs.Ytmjdmaomakkhgaa.Pure
