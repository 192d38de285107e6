/- For every input that the row lets in, FnExactSetBits answers true; this text proves the plain law that is left when the machine's side is done. -/
import Derived.Test.YtnncefankndkaaaPFnExactSetBitsx1
import Derived.Test.YtnncefankndkaaaBase
set_option linter.unusedVariables false
set_option linter.unusedSimpArgs false
namespace Go.Proofs.Ytnncefankndkaaa.Pure
open Go.RowKit Go.Proofs.Ytnncefankndkaaa.PFnExactSetBits Go.Proofs.YtnncefankndkaaaW.PrintWords Go.Proofs.YtnncefankndkaaaW.PrintLast Go.Proofs.YtnncefankndkaaaW.PrintMore Go.Proofs.Ytnncefankndkaaa.Base

theorem spec_l1Pow_l0 : ∀ (d : Nat) (a i n : Int), i + d = n → 0 ≤ i → n ≤ 64 → 0 ≤ a → a < 18446744073709551616 → Ev (fun k => spec_l1Pow.l0 k n a i) ((a * 2 ^ d) % 18446744073709551616) := by
  intro d
  induction d with
  | zero =>
    intro a i n h h0 h1 h2 h3
    refine Ev.step (fun _ => spec_l1Pow.l0.eq_2 ..) ?_
    refine ev_neg (by omega) (ev_ret ?_)
    rw [Int.pow_zero, Int.mul_one]; omega
  | succ d ih =>
    intro a i n h h0 h1 h2 h3
    refine Ev.step (fun _ => spec_l1Pow.l0.eq_2 ..) ?_
    refine ev_pos (by omega) ?_
    rw [w64_id (x := i + 1) (by omega) (by omega), u64w]
    refine ev_eq ?_ (ih (a * 2 % 18446744073709551616) (i + 1) n (by omega) (by omega) h1 (by omega) (by omega))
    rw [Int.mul_emod, Int.emod_emod_of_dvd _ (Int.dvd_refl _), ← Int.mul_emod, Int.pow_succ, Int.mul_comm (2 ^ d) 2, ← Int.mul_assoc]
theorem spec_l1Pow_ev {n : Nat} (h : n ≤ 63) : Ev (fun k => spec_l1Pow.f k (n : Int)) ((2 ^ n : Nat) : Int) := by
  have := spec_l1Pow_l0 n 1 0 (n : Int) (by omega) (by omega) (by omega) (by omega) (by omega)
  refine Ev.congr (fun k => rfl) (ev_eq ?_ this)
  have h2 : 2 ^ n ≤ 2 ^ 63 := Nat.pow_le_pow_right (by decide) h
  have e : ((2 : Int) ^ n) = ((2 ^ n : Nat) : Int) := by simp
  rw [Int.one_mul, e]
  have h3 : 2 ^ n ≤ 9223372036854775808 := h2
  generalize 2 ^ n = q at *
  omega
theorem spec_l1Pow_64 : Ev (fun k => spec_l1Pow.f k 64) 0 := by
  have := spec_l1Pow_l0 64 1 0 64 (by omega) (by omega) (by omega) (by omega) (by omega)
  exact Ev.congr (fun k => rfl) (ev_eq (by decide) this)
theorem spec_l1Bit_ev {a i : Nat} (ha : a < 2 ^ 64) (h : i ≤ 63) : Ev (fun k => spec_l1Bit.f k (a : Int) (i : Int)) ((a.testBit i).toNat : Int) := by
  unfold spec_l1Bit.f
  refine Ev.bind (spec_l1Pow_ev h) ?_
  have hp : 0 < 2 ^ i := Nat.two_pow_pos i
  refine ev_neg (by omega) (ev_ret ?_)
  rw [tdiv_nat, u64w]
  have h1 : a / 2 ^ i ≤ a := Nat.div_le_self _ _
  have h2 : a < 18446744073709551616 := ha
  have e : (((a / 2 ^ i : Nat) : Int) % 18446744073709551616) = ((a / 2 ^ i : Nat) : Int) := by
    clear hp
    generalize a / 2 ^ i = q at *
    omega
  rw [e, show (2 : Int) = ((2 : Nat) : Int) from rfl, tmod_nat, bit_div]
def field (lo n : Int) : Bool := decide (0 ≤ lo ∧ lo ≤ 63 ∧ 1 ≤ n ∧ n ≤ 64 - lo)
theorem spec_l1Field_eq (lo n : Int) : spec_l1Field.f lo n = some (field lo n) := by
  unfold spec_l1Field.f field
  by_cases h1 : lo ≥ 0
  · rw [if_pos h1]
    by_cases h2 : lo ≤ 63
    · rw [if_pos h2]
      by_cases h3 : n ≥ 1
      · rw [if_pos h3, w64_id (by omega) (by omega)]
        simp only [Option.some.injEq, decide_eq_decide]; omega
      · rw [if_neg h3]; simp only [Option.some.injEq]; symm; simp only [decide_eq_false_iff_not]; omega
    · rw [if_neg h2]; simp only [Option.some.injEq]; symm; simp only [decide_eq_false_iff_not]; omega
  · rw [if_neg h1]; simp only [Option.some.injEq]; symm; simp only [decide_eq_false_iff_not]; omega
theorem impl_bitsOk_eq (lo n : Int) : impl_bitsOk.f lo n = some (field lo n) := spec_l1Field_eq lo n
theorem mask_lt (n : Nat) (h : n ≤ 64) : 2 ^ n - 1 < 2 ^ 64 := by
  have := Nat.pow_le_pow_right (n := 2) (by decide) h
  have := Nat.two_pow_pos n
  omega
theorem impl_mask_eq {n : Nat} (h0 : 1 ≤ n) (h : n ≤ 64) : impl_mask.f (n : Int) = some ((2 ^ n - 1 : Nat) : Int) := by
  unfold impl_mask.f
  have e : IntKind.u64.wrap (wrap64 (64 - (n : Int))) = ((64 - n : Nat) : Int) := by rw [w64_id (by omega) (by omega), u64w_id (by omega) (by omega)]; omega
  rw [e, if_pos (by omega)]
  rw [show (18446744073709551615 : Int) = ((2 ^ 64 - 1 : Nat) : Int) by simp, shr_nat _ _ (by decide)]
  congr 2
  apply Nat.eq_of_testBit_eq
  intro j
  rw [Nat.testBit_shiftRight, Nat.testBit_two_pow_sub_one, Nat.testBit_two_pow_sub_one, decide_eq_decide]
  omega
def setBit (x v lo n : Nat) (j : Nat) : Bool := if lo ≤ j ∧ j < lo + n then v.testBit (j - lo) else x.testBit j
def setV (x v lo n : Nat) : Nat := hor (setBit x v lo n) 64
theorem spec_SetBits_l0 (x v lo n : Nat) (hx : x < 2 ^ 64) (hv : v < 2 ^ 64) (hn : lo + n ≤ 64) : ∀ (m acc : Nat) (i : Int), i = (m : Int) - 1 → m ≤ 64 → acc < 2 ^ (64 - m) → Ev (fun k => spec_SetBits.l0 k (x : Int) (lo : Int) (n : Int) (v : Int) (acc : Int) i) ((acc * 2 ^ m + hor (setBit x v lo n) m : Nat) : Int) := by
  intro m
  induction m with
  | zero =>
    intro acc i hi hm ha
    refine Ev.step (fun _ => spec_SetBits.l0.eq_2 ..) ?_
    exact ev_neg (by omega) (ev_ret (by simp [hor]))
  | succ m ih =>
    intro acc i hi hm ha
    obtain rfl : i = (m : Int) := by omega
    refine Ev.step (fun _ => spec_SetBits.l0.eq_2 ..) ?_
    refine ev_pos (by omega) ?_
    have e2 : wrap64 ((m : Int) - 1) = (m : Int) - 1 := w64_id (by omega) (by omega)
    have e3 : wrap64 ((lo : Int) + n) = ((lo + n : Nat) : Int) := by rw [w64_id (by omega) (by omega)]; omega
    have hr := hor_room (bool_le (setBit x v lo n m)) (by omega) ha
    have old : ¬ (lo ≤ m ∧ m < lo + n) → Ev (fun k => spec_SetBits.j1 k (x : Int) (lo : Int) (n : Int) (v : Int) (acc : Int) (m : Int) false) ((acc * 2 ^ (m + 1) + hor (setBit x v lo n) (m + 1) : Nat) : Int) := by
      intro hc
      refine Ev.step (fun _ => spec_SetBits.j1.eq_2 ..) ?_
      refine ev_neg (by decide) ?_
      refine Ev.bind (spec_l1Bit_ev hx (by omega)) ?_
      have eb : x.testBit m = setBit x v lo n m := by unfold setBit; rw [if_neg hc]
      rw [eb, u64_hor (hor_top hr), e2]
      exact ev_eq (by rw [hor_step]) (ih _ _ rfl (by omega) hr)
    by_cases hc1 : lo ≤ m
    · refine ev_pos (by omega) ?_
      rw [e3]
      by_cases hc2 : m < lo + n
      · rw [decide_eq_true (show ((m : Int) < ((lo + n : Nat) : Int)) by omega)]
        refine Ev.step (fun _ => spec_SetBits.j1.eq_2 ..) ?_
        refine ev_pos rfl ?_
        have e1 : wrap64 ((m : Int) - lo) = ((m - lo : Nat) : Int) := by rw [w64_id (by omega) (by omega)]; omega
        rw [e1]
        refine Ev.bind (spec_l1Bit_ev hv (by omega)) ?_
        have eb : v.testBit (m - lo) = setBit x v lo n m := by unfold setBit; rw [if_pos ⟨hc1, hc2⟩]
        rw [eb, u64_hor (hor_top hr), e2]
        exact ev_eq (by rw [hor_step]) (ih _ _ rfl (by omega) hr)
      · rw [decide_eq_false (show ¬ ((m : Int) < ((lo + n : Nat) : Int)) by omega)]
        exact old (by omega)
    · refine ev_neg (by omega) ?_
      exact old (by omega)
def setB (x v : Nat) (lo n : Int) : Int := if field lo n then (setV x v lo.toNat n.toNat : Int) else x
theorem spec_SetBits_ev {x v : Nat} (hx : x < 2 ^ 64) (hv : v < 2 ^ 64) (lo n : Int) : Ev (fun k => spec_SetBits.f k (x : Int) lo n (v : Int)) (setB x v lo n) := by
  unfold spec_SetBits.f setB
  refine ev_bind0 (spec_l1Field_eq lo n) ?_
  by_cases hf : field lo n = true
  · have hd := of_decide_eq_true hf
    rw [if_pos hf]
    refine ev_pos hf ?_
    obtain ⟨l, rfl, hl⟩ := to_nat (a := lo) (m := 64) (by omega) (by omega)
    obtain ⟨m, rfl, hm⟩ := to_nat (a := n) (m := 65) (by omega) (by omega)
    refine ev_eq ?_ (spec_SetBits_l0 x v l m hx hv (by omega) 64 0 63 (by omega) (by omega) (by simp))
    simp [setV]
  · rw [if_neg hf]
    exact ev_neg hf (ev_ret rfl)
theorem impl_SetBits_eq {x v : Nat} (hx : x < 2 ^ 64) (hv : v < 2 ^ 64) (lo n : Int) : impl_SetBits.f (x : Int) lo n (v : Int) = some (setB x v lo n) := by
  unfold impl_SetBits.f setB
  rw [impl_bitsOk_eq, Option.bind_some]
  by_cases hf : field lo n = true
  · have hd := of_decide_eq_true hf
    rw [if_pos hf, if_pos hf]
    obtain ⟨l, rfl, hl⟩ := to_nat (a := lo) (m := 64) (by omega) (by omega)
    obtain ⟨m, rfl, hm⟩ := to_nat (a := n) (m := 65) (by omega) (by omega)
    have hmk := mask_lt m (by omega)
    rw [impl_mask_eq (by omega) (by omega), Option.bind_some, u64w_id (x := (l : Int)) (by omega) (by omega), if_pos (by omega), Option.bind_some, shl_nat, and_nat hv hmk, shl_nat, andnot_nat hx shl_lt, or_nat (xor_lt hx (and_lt shl_lt)) shl_lt]
    refine congrArg (fun z : Nat => some (z : Int)) ?_
    apply Nat.eq_of_testBit_eq
    intro j
    simp only [setV, hor_testBit, setBit, Int.toNat_natCast, Nat.testBit_or, Nat.testBit_xor, Nat.testBit_and, Nat.testBit_mod_two_pow, Nat.testBit_shiftLeft, Nat.testBit_two_pow_sub_one]
    by_cases hj : j < 64
    · simp only [hj, decide_true, Bool.true_and]
      by_cases h1 : l ≤ j
      · by_cases h2 : j < l + m
        · have h3 : j - l < m := by omega
          simp [h1, h2, h3]
        · have h3 : ¬ j - l < m := by omega
          simp [h1, h2, h3]
      · have h3 : ¬ j ≥ l := by omega
        simp [h1, h3]
    · have : x.testBit j = false := Nat.testBit_lt_two_pow (Nat.lt_of_lt_of_le hx (Nat.pow_le_pow_right (by decide) (by omega)))
      simp [hj, this]
  · rw [if_neg hf, if_neg hf]
theorem FnExactSetBits : laws_FnExactSetBits.Pure := by
  intro a0 a1 a2 a3 h0 h1 h2 h3
  obtain ⟨x, rfl, hx⟩ := to_nat (m := 2 ^ 64) (wf_u64 h0).1 (wf_u64 h0).2
  obtain ⟨v, rfl, hv⟩ := to_nat (m := 2 ^ 64) (wf_u64 h3).1 (wf_u64 h3).2
  refine Ev.rounds ?_
  unfold laws_FnExactSetBits.f
  exact Ev.bind (spec_SetBits_ev hx hv a1 a2) (ev_bind0 (impl_SetBits_eq hx hv a1 a2) (ev_pos rfl (ev_ret rfl)))
end Go.Proofs.Ytnncefankndkaaa.Pure
