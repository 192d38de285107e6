/- For every input that the row lets in, FnExactMachineOk answers true; this text proves the plain law that is left when the machine's side is done. -/
import Derived.Test.YtdhafphhkokniaaPFnExactMachineOkx3
import Derived.Test.YtdhafphhkokniaaBase
set_option linter.unusedVariables false
set_option linter.unusedSimpArgs false
namespace Go.Proofs.Ytdhafphhkokniaa.Pure
open Go.RowKit Go.Proofs.Ytdhafphhkokniaa.PFnExactMachineOk Go.Proofs.YtdhafphhkokniaaW.PrintWords Go.Proofs.YtdhafphhkokniaaW.PrintLast Go.Proofs.YtdhafphhkokniaaW.PrintMore Go.Proofs.Ytdhafphhkokniaa.Base

theorem laws_toByteS_l0 (xs : List Int) (hl : xs.length ≤ 4611686018427387904) : ∀ (d i : Nat) (ys : List Int), i + d = xs.length → ys.length = xs.length → (∀ j, j < i → ys[j]? = xs[j]?) → Ev (fun k => laws_toByteS.l0 k xs ys (i : Int)) xs := by
  intro d
  induction d with
  | zero =>
    intro i ys h hy he
    refine Ev.step (fun _ => laws_toByteS.l0.eq_2 ..) ?_
    refine ev_neg (by omega) (ev_ret ?_)
    apply List.ext_getElem?
    intro j
    by_cases hj : j < i
    · exact he j hj
    · rw [List.getElem?_eq_none (by omega), List.getElem?_eq_none (by omega)]
  | succ d ih =>
    intro i ys h hy he
    refine Ev.step (fun _ => laws_toByteS.l0.eq_2 ..) ?_
    refine ev_pos (by omega) (ev_pos (by omega) (ev_pos (by omega) ?_))
    have e : wrap64 ((i : Int) + 1) = ((i + 1 : Nat) : Int) := by rw [w64_id (by omega) (by omega)]; omega
    rw [e, rd_nat (by omega), Int.toNat_natCast]
    refine ih (i + 1) _ (by omega) (by rw [List.length_set]; exact hy) ?_
    intro j hj
    by_cases hji : j = i
    · subst hji
      rw [List.getElem?_set_self (by omega), List.getElem?_eq_getElem (by omega)]
    · rw [List.getElem?_set_ne (by omega)]
      exact he j (by omega)
theorem laws_toByteS_ev {xs : List Int} (hl : xs.length ≤ 281474976710656) : Ev (fun k => laws_toByteS.f k xs) xs := by
  unfold laws_toByteS.f
  refine ev_pos (by omega) (ev_pos (by omega) ?_)
  exact laws_toByteS_l0 xs (by omega) xs.length 0 _ (by omega) (by simp) (fun j hj => by omega)
theorem laws_eqByteS_l0 (xs : List Int) (hl : xs.length ≤ 4611686018427387904) : ∀ (d i : Nat), i + d = xs.length → Ev (fun k => laws_eqByteS.l0 k xs xs (i : Int)) true := by
  intro d
  induction d with
  | zero =>
    intro i h
    refine Ev.step (fun _ => laws_eqByteS.l0.eq_2 ..) ?_
    exact ev_neg (by omega) (ev_ret rfl)
  | succ d ih =>
    intro i h
    refine Ev.step (fun _ => laws_eqByteS.l0.eq_2 ..) ?_
    refine ev_pos (by omega) (ev_pos (by omega) (ev_pos (by omega) (ev_pos rfl ?_)))
    have e : wrap64 ((i : Int) + 1) = ((i + 1 : Nat) : Int) := by rw [w64_id (by omega) (by omega)]; omega
    rw [e]
    exact ih (i + 1) (by omega)
theorem laws_eqByteS_ev {xs : List Int} (hl : xs.length ≤ 281474976710656) : Ev (fun k => laws_eqByteS.f k xs xs) true := by
  unfold laws_eqByteS.f
  exact ev_pos rfl (laws_eqByteS_l0 xs (by omega) xs.length 0 (by omega))
theorem laws_toUint64S_l0 (xs : List Int) (hl : xs.length ≤ 4611686018427387904) : ∀ (d i : Nat) (ys : List Int), i + d = xs.length → ys.length = xs.length → (∀ j, j < i → ys[j]? = xs[j]?) → Ev (fun k => laws_toUint64S.l0 k xs ys (i : Int)) xs := by
  intro d
  induction d with
  | zero =>
    intro i ys h hy he
    refine Ev.step (fun _ => laws_toUint64S.l0.eq_2 ..) ?_
    refine ev_neg (by omega) (ev_ret ?_)
    apply List.ext_getElem?
    intro j
    by_cases hj : j < i
    · exact he j hj
    · rw [List.getElem?_eq_none (by omega), List.getElem?_eq_none (by omega)]
  | succ d ih =>
    intro i ys h hy he
    refine Ev.step (fun _ => laws_toUint64S.l0.eq_2 ..) ?_
    refine ev_pos (by omega) (ev_pos (by omega) (ev_pos (by omega) ?_))
    have e : wrap64 ((i : Int) + 1) = ((i + 1 : Nat) : Int) := by rw [w64_id (by omega) (by omega)]; omega
    rw [e, rd_nat (by omega), Int.toNat_natCast]
    refine ih (i + 1) _ (by omega) (by rw [List.length_set]; exact hy) ?_
    intro j hj
    by_cases hji : j = i
    · subst hji
      rw [List.getElem?_set_self (by omega), List.getElem?_eq_getElem (by omega)]
    · rw [List.getElem?_set_ne (by omega)]
      exact he j (by omega)
theorem laws_toUint64S_ev {xs : List Int} (hl : xs.length ≤ 1099511627776) : Ev (fun k => laws_toUint64S.f k xs) xs := by
  unfold laws_toUint64S.f
  refine ev_pos (by omega) (ev_pos (by omega) ?_)
  exact laws_toUint64S_l0 xs (by omega) xs.length 0 _ (by omega) (by simp) (fun j hj => by omega)
theorem laws_eqUint64S_l0 (xs : List Int) (hl : xs.length ≤ 4611686018427387904) : ∀ (d i : Nat), i + d = xs.length → Ev (fun k => laws_eqUint64S.l0 k xs xs (i : Int)) true := by
  intro d
  induction d with
  | zero =>
    intro i h
    refine Ev.step (fun _ => laws_eqUint64S.l0.eq_2 ..) ?_
    exact ev_neg (by omega) (ev_ret rfl)
  | succ d ih =>
    intro i h
    refine Ev.step (fun _ => laws_eqUint64S.l0.eq_2 ..) ?_
    refine ev_pos (by omega) (ev_pos (by omega) (ev_pos (by omega) (ev_pos rfl ?_)))
    have e : wrap64 ((i : Int) + 1) = ((i + 1 : Nat) : Int) := by rw [w64_id (by omega) (by omega)]; omega
    rw [e]
    exact ih (i + 1) (by omega)
theorem laws_eqUint64S_ev {xs : List Int} (hl : xs.length ≤ 1099511627776) : Ev (fun k => laws_eqUint64S.f k xs xs) true := by
  unfold laws_eqUint64S.f
  exact ev_pos rfl (laws_eqUint64S_l0 xs (by omega) xs.length 0 (by omega))
theorem laws_szUint64S_eq {xs : List Int} (hl : xs.length ≤ maxLen) {n : Int} (h0 : 0 ≤ n) (h1 : n ≤ 1048576) : laws_szUint64S.f xs n = some (if n < xs.length then (-1 : Int) else n - (xs.length : Int)) := by
  have hl2 := wf_le hl
  unfold laws_szUint64S.f
  rw [w64_id (x := n - (xs.length : Int)) (by omega) (by omega)]
  by_cases h : n < xs.length
  · rw [if_pos (by omega), if_pos h]
  · rw [if_neg (by omega), if_neg h]
theorem laws_szByteS_eq {xs : List Int} (hl : xs.length ≤ maxLen) {n : Int} (h0 : 0 ≤ n) (h1 : n ≤ 1048576) : laws_szByteS.f xs n = some (if n < xs.length then (-1 : Int) else n - (xs.length : Int)) := by
  have hl2 := wf_le hl
  unfold laws_szByteS.f
  rw [w64_id (x := n - (xs.length : Int)) (by omega) (by omega)]
  by_cases h : n < xs.length
  · rw [if_pos (by omega), if_pos h]
  · rw [if_neg (by omega), if_neg h]
def memOkM (l : List Int) : Bool := if ((l.length : Int) % 256) = 0 then decide ((l.length : Int) ≤ 262144) else false
theorem spec_l6MemOk_eqM (l : List Int) : spec_l6MemOk.f l = some (memOkM l) := by
  unfold spec_l6MemOk.f memOkM; split <;> rfl
def machOk (regs mem inp out disk : List Int) : Bool := decide ((regs.length : Int) = 32) && (decide (rd regs 0 = 0) && (memOkM mem && (decide ((inp.length : Int) ≤ 4096) && (decide ((out.length : Int) ≤ 4096) && (decide ((disk.length : Int) % 128 = 0) && decide ((disk.length : Int) ≤ 131072))))))
theorem spec_MachineOk_eq (r : List Int) (a1 : Int) (a2 a3 a4 a5 : Bool) (a6 a7 a8 a9 a10 a11 a12 a13 : Int) (m i o d : List Int) (a18 a19 a20 : Int) (a21 : Bool) : spec_MachineOk.f r a1 a2 a3 a4 a5 a6 a7 a8 a9 a10 a11 a12 a13 m i o d a18 a19 a20 a21 = some (machOk r m i o d) := by
  unfold spec_MachineOk.f machOk
  by_cases h1 : (r.length : Int) = 32
  · rw [if_pos h1, decide_eq_true h1]
    by_cases h2 : (i.length : Int) > 4096
    · rw [if_pos h2, decide_eq_false (show ¬ (i.length : Int) ≤ 4096 by omega)]; simp
    · rw [if_neg h2, decide_eq_true (show (i.length : Int) ≤ 4096 by omega)]
      by_cases h3 : (o.length : Int) > 4096
      · rw [if_pos h3, decide_eq_false (show ¬ (o.length : Int) ≤ 4096 by omega)]; simp
      · rw [if_neg h3, decide_eq_true (show (o.length : Int) ≤ 4096 by omega), if_pos (by omega)]
        by_cases h4 : rd r 0 = 0
        · rw [if_pos h4, decide_eq_true h4, spec_l6MemOk_eqM, Option.bind_some]
          by_cases h5 : memOkM m = true
          · rw [if_pos h5, h5]
            by_cases h6 : (d.length : Int) % 128 = 0
            · rw [if_pos h6, decide_eq_true h6]; simp
            · rw [if_neg h6, decide_eq_false h6]; simp
          · rw [if_neg h5, show memOkM m = false by simpa using h5]; simp
        · rw [if_neg h4, decide_eq_false h4]; simp
  · rw [if_neg h1, decide_eq_false h1]; simp
theorem impl_memOk_eqM (l : List Int) : impl_memOk.f l = some (memOkM l) := by
  unfold impl_memOk.f memOkM; split <;> rfl
theorem impl_MachineOk_eq (r : List Int) (a1 : Int) (a2 a3 a4 a5 : Bool) (a6 a7 a8 a9 a10 a11 a12 a13 : Int) (m i o d : List Int) (a18 a19 a20 : Int) (a21 : Bool) : impl_MachineOk.f r a1 a2 a3 a4 a5 a6 a7 a8 a9 a10 a11 a12 a13 m i o d a18 a19 a20 a21 = some (machOk r m i o d) := by
  unfold impl_MachineOk.f machOk
  by_cases h1 : (r.length : Int) = 32
  · rw [if_pos h1, decide_eq_true h1, if_pos (by omega)]
    by_cases h4 : rd r 0 = 0
    · rw [if_pos h4, decide_eq_true h4, impl_memOk_eqM, Option.bind_some]
      by_cases h5 : memOkM m = true
      · rw [if_pos h5, h5]
        by_cases h2 : (i.length : Int) ≤ 4096
        · rw [if_pos h2, decide_eq_true h2]
          by_cases h3 : (o.length : Int) ≤ 4096
          · rw [if_pos h3, decide_eq_true h3]
            by_cases h6 : (d.length : Int) % 128 = 0
            · rw [if_pos h6, decide_eq_true h6]; simp
            · rw [if_neg h6, decide_eq_false h6]; simp
          · rw [if_neg h3, decide_eq_false h3]; simp
        · rw [if_neg h2, decide_eq_false h2]; simp
      · rw [if_neg h5, show memOkM m = false by simpa using h5]; simp
    · rw [if_neg h4, decide_eq_false h4]; simp
  · rw [if_neg h1, decide_eq_false h1]; simp
theorem laws_toMachine_ev {r m i o d : List Int} (hr : r.length ≤ 1099511627776) (hm : m.length ≤ 281474976710656) (hi : i.length ≤ 281474976710656) (ho : o.length ≤ 281474976710656) (hd : d.length ≤ 281474976710656) (a1 : Int) (a2 a3 a4 a5 : Bool) (a6 a7 a8 a9 a10 a11 a12 a13 a18 a19 a20 : Int) (a21 : Bool) :
    Ev (fun k => laws_toMachine.f k r a1 a2 a3 a4 a5 a6 a7 a8 a9 a10 a11 a12 a13 m i o d a18 a19 a20 a21) (r, a1, a2, a3, a4, a5, a6, a7, a8, a9, a10, a11, a12, a13, m, i, o, d, a18, a19, a20, a21) := by
  unfold laws_toMachine.f
  exact Ev.bind (laws_toUint64S_ev hr) (Ev.bind (laws_toByteS_ev hm) (Ev.bind (laws_toByteS_ev hi) (Ev.bind (laws_toByteS_ev ho) (Ev.bind (laws_toByteS_ev hd) (ev_ret rfl)))))
theorem laws_eqMachine_ev {r m i o d : List Int} (hr : r.length ≤ 1099511627776) (hm : m.length ≤ 281474976710656) (hi : i.length ≤ 281474976710656) (ho : o.length ≤ 281474976710656) (hd : d.length ≤ 281474976710656) (a1 : Int) (a2 a3 a4 a5 : Bool) (a6 a7 a8 a9 a10 a11 a12 a13 a18 a19 a20 : Int) (a21 : Bool) :
    Ev (fun k => laws_eqMachine.f k r a1 a2 a3 a4 a5 a6 a7 a8 a9 a10 a11 a12 a13 m i o d a18 a19 a20 a21 r a1 a2 a3 a4 a5 a6 a7 a8 a9 a10 a11 a12 a13 m i o d a18 a19 a20 a21) true := by
  unfold laws_eqMachine.f
  simp only [bne_self_eq_false, Bool.false_eq_true, if_false, if_true]
  exact Ev.bind (laws_eqUint64S_ev hr) (ev_pos rfl (Ev.bind (laws_eqByteS_ev hm) (ev_pos rfl (Ev.bind (laws_eqByteS_ev hi) (ev_pos rfl (Ev.bind (laws_eqByteS_ev ho) (ev_pos rfl (Ev.bind (laws_eqByteS_ev hd) (ev_pos rfl (ev_ret rfl))))))))))
theorem laws_szMachine_cases {r m i o d : List Int} (hr : r.length ≤ maxLen) (hm : m.length ≤ maxLen) (hi : i.length ≤ maxLen) (ho : o.length ≤ maxLen) (hd : d.length ≤ maxLen) (a1 : Int) (a2 a3 a4 a5 : Bool) (a6 a7 a8 a9 a10 a11 a12 a13 a18 a19 a20 : Int) (a21 : Bool) :
    laws_szMachine.f r a1 a2 a3 a4 a5 a6 a7 a8 a9 a10 a11 a12 a13 m i o d a18 a19 a20 a21 1048576 = some (-1) ∨ ∃ v : Int, 0 ≤ v ∧ laws_szMachine.f r a1 a2 a3 a4 a5 a6 a7 a8 a9 a10 a11 a12 a13 m i o d a18 a19 a20 a21 1048576 = some v ∧ r.length ≤ 1048576 ∧ m.length ≤ 1048576 ∧ i.length ≤ 1048576 ∧ o.length ≤ 1048576 ∧ d.length ≤ 1048576 := by
  unfold laws_szMachine.f
  rw [laws_szUint64S_eq hr (by omega) (by omega), Option.bind_some]
  by_cases h1 : (1048576 : Int) < r.length
  · rw [if_pos h1]; exact .inl rfl
  rw [if_neg h1, if_neg (by omega), laws_szByteS_eq hm (by omega) (by omega), Option.bind_some]
  by_cases h2 : (1048576 : Int) - r.length < m.length
  · rw [if_pos h2]; exact .inl rfl
  rw [if_neg h2, if_neg (by omega), laws_szByteS_eq hi (by omega) (by omega), Option.bind_some]
  by_cases h3 : (1048576 : Int) - r.length - m.length < i.length
  · rw [if_pos h3]; exact .inl rfl
  rw [if_neg h3, if_neg (by omega), laws_szByteS_eq ho (by omega) (by omega), Option.bind_some]
  by_cases h4 : (1048576 : Int) - r.length - m.length - i.length < o.length
  · rw [if_pos h4]; exact .inl rfl
  rw [if_neg h4, if_neg (by omega), laws_szByteS_eq hd (by omega) (by omega), Option.bind_some]
  by_cases h5 : (1048576 : Int) - r.length - m.length - i.length - o.length < d.length
  · rw [if_pos h5]; exact .inl rfl
  rw [if_neg h5, if_neg (by omega)]
  exact .inr ⟨_, by omega, rfl, by omega, by omega, by omega, by omega, by omega⟩
theorem FnExactMachineOk : laws_FnExactMachineOk.Pure := by
  intro r a1 a2 a3 a4 a5 a6 a7 a8 a9 a10 a11 a12 a13 m i o d a18 a19 a20 a21 hq
  obtain ⟨hr, _, _, _, _, _, _, _, _, _, _, _, _, _, hm, hi, ho, hd, _⟩ := hq
  refine Ev.rounds ?_
  unfold laws_FnExactMachineOk.f
  rcases laws_szMachine_cases (r := r) (m := m) (i := i) (o := o) (d := d) hr.1 hm.1 hi.1 ho.1 hd.1 a1 a2 a3 a4 a5 a6 a7 a8 a9 a10 a11 a12 a13 a18 a19 a20 a21 with sz | ⟨v, hv, sz, h1, h2, h3, h4, h5⟩
  · exact ev_bind0 sz (ev_pos (by decide) (ev_ret rfl))
  · have tm := laws_toMachine_ev (r := r) (m := m) (i := i) (o := o) (d := d) (by omega) (by omega) (by omega) (by omega) (by omega) a1 a2 a3 a4 a5 a6 a7 a8 a9 a10 a11 a12 a13 a18 a19 a20 a21
    have em := laws_eqMachine_ev (r := r) (m := m) (i := i) (o := o) (d := d) (by omega) (by omega) (by omega) (by omega) (by omega) a1 a2 a3 a4 a5 a6 a7 a8 a9 a10 a11 a12 a13 a18 a19 a20 a21
    exact ev_bind0 sz (ev_neg (by omega) (Ev.bind tm (ev_bind0 (spec_MachineOk_eq ..) (Ev.bind tm (ev_bind0 (impl_MachineOk_eq ..) (ev_neg (by simp) (Ev.bind tm (Ev.bind em (ev_pos rfl (ev_ret rfl)))))))))) 
end Go.Proofs.Ytdhafphhkokniaa.Pure
