/- For every input that the row lets in, FnExactBits answers true; this text proves the plain law that is left when the machine's side is done. -/
import Derived.Test.YtnncefankndkaaaPFnExactBitsx1
import Derived.Test.YtnncefankndkaaaBase
set_option linter.unusedVariables false
set_option linter.unusedSimpArgs false
namespace Go.Proofs.Ytnncefankndkaaa.Pure
open Go.RowKit Go.Proofs.Ytnncefankndkaaa.PFnExactBits Go.Proofs.YtnncefankndkaaaW.PrintWords Go.Proofs.YtnncefankndkaaaW.PrintLast Go.Proofs.YtnncefankndkaaaW.PrintMore Go.Proofs.Ytnncefankndkaaa.Base

theorem spec_l1Pow_l0 : ∀ (d : Nat) (a i n : Int), i + d = n → 0 ≤ i → n ≤ 64 → 0 ≤ a → a < 18446744073709551616 → Ev (fun k => spec_l1Pow.l0 k n a i) ((a * 2 ^ d) % 18446744073709551616) := by
  intro d
  induction d with
  | zero =>
    intro a i n h h0 h1 h2 h3
    refine Ev.step (fun _ => spec_l1Pow.l0.eq_2 ..) ?_
    refine ev_neg (by omega) (ev_ret ?_)
    rw [Int.pow_zero, Int.mul_one]; omega
  | succ d ih =>
    intro a i n h h0 h1 h2 h3
    refine Ev.step (fun _ => spec_l1Pow.l0.eq_2 ..) ?_
    refine ev_pos (by omega) ?_
    rw [w64_id (x := i + 1) (by omega) (by omega), u64w]
    refine ev_eq ?_ (ih (a * 2 % 18446744073709551616) (i + 1) n (by omega) (by omega) h1 (by omega) (by omega))
    rw [Int.mul_emod, Int.emod_emod_of_dvd _ (Int.dvd_refl _), ← Int.mul_emod, Int.pow_succ, Int.mul_comm (2 ^ d) 2, ← Int.mul_assoc]
theorem spec_l1Pow_ev {n : Nat} (h : n ≤ 63) : Ev (fun k => spec_l1Pow.f k (n : Int)) ((2 ^ n : Nat) : Int) := by
  have := spec_l1Pow_l0 n 1 0 (n : Int) (by omega) (by omega) (by omega) (by omega) (by omega)
  refine Ev.congr (fun k => rfl) (ev_eq ?_ this)
  have h2 : 2 ^ n ≤ 2 ^ 63 := Nat.pow_le_pow_right (by decide) h
  have e : ((2 : Int) ^ n) = ((2 ^ n : Nat) : Int) := by simp
  rw [Int.one_mul, e]
  have h3 : 2 ^ n ≤ 9223372036854775808 := h2
  generalize 2 ^ n = q at *
  omega
theorem spec_l1Pow_64 : Ev (fun k => spec_l1Pow.f k 64) 0 := by
  have := spec_l1Pow_l0 64 1 0 64 (by omega) (by omega) (by omega) (by omega) (by omega)
  exact Ev.congr (fun k => rfl) (ev_eq (by decide) this)
theorem spec_l1Bit_ev {a i : Nat} (ha : a < 2 ^ 64) (h : i ≤ 63) : Ev (fun k => spec_l1Bit.f k (a : Int) (i : Int)) ((a.testBit i).toNat : Int) := by
  unfold spec_l1Bit.f
  refine Ev.bind (spec_l1Pow_ev h) ?_
  have hp : 0 < 2 ^ i := Nat.two_pow_pos i
  refine ev_neg (by omega) (ev_ret ?_)
  rw [tdiv_nat, u64w]
  have h1 : a / 2 ^ i ≤ a := Nat.div_le_self _ _
  have h2 : a < 18446744073709551616 := ha
  have e : (((a / 2 ^ i : Nat) : Int) % 18446744073709551616) = ((a / 2 ^ i : Nat) : Int) := by
    clear hp
    generalize a / 2 ^ i = q at *
    omega
  rw [e, show (2 : Int) = ((2 : Nat) : Int) from rfl, tmod_nat, bit_div]
def field (lo n : Int) : Bool := decide (0 ≤ lo ∧ lo ≤ 63 ∧ 1 ≤ n ∧ n ≤ 64 - lo)
theorem spec_l1Field_eq (lo n : Int) : spec_l1Field.f lo n = some (field lo n) := by
  unfold spec_l1Field.f field
  by_cases h1 : lo ≥ 0
  · rw [if_pos h1]
    by_cases h2 : lo ≤ 63
    · rw [if_pos h2]
      by_cases h3 : n ≥ 1
      · rw [if_pos h3, w64_id (by omega) (by omega)]
        simp only [Option.some.injEq, decide_eq_decide]; omega
      · rw [if_neg h3]; simp only [Option.some.injEq]; symm; simp only [decide_eq_false_iff_not]; omega
    · rw [if_neg h2]; simp only [Option.some.injEq]; symm; simp only [decide_eq_false_iff_not]; omega
  · rw [if_neg h1]; simp only [Option.some.injEq]; symm; simp only [decide_eq_false_iff_not]; omega
theorem impl_bitsOk_eq (lo n : Int) : impl_bitsOk.f lo n = some (field lo n) := spec_l1Field_eq lo n
theorem spec_Bits_l0 (x lo : Nat) (hx : x < 2 ^ 64) : ∀ (m acc : Nat) (i : Int), i = (m : Int) - 1 → lo + m ≤ 64 → acc < 2 ^ (64 - m) → Ev (fun k => spec_Bits.l0 k (x : Int) (lo : Int) (acc : Int) i) ((acc * 2 ^ m + hor (fun j => x.testBit (lo + j)) m : Nat) : Int) := by
  intro m
  induction m with
  | zero =>
    intro acc i hi hm ha
    refine Ev.step (fun _ => spec_Bits.l0.eq_2 ..) ?_
    exact ev_neg (by omega) (ev_ret (by simp [hor]))
  | succ m ih =>
    intro acc i hi hm ha
    refine Ev.step (fun _ => spec_Bits.l0.eq_2 ..) ?_
    refine ev_pos (by omega) ?_
    have e1 : wrap64 ((lo : Int) + i) = ((lo + m : Nat) : Int) := by rw [w64_id (by omega) (by omega)]; omega
    have e2 : wrap64 (i - 1) = (m : Int) - 1 := by rw [w64_id (by omega) (by omega)]; omega
    rw [e1, e2]
    refine Ev.bind (spec_l1Bit_ev hx (by omega)) ?_
    have hr := hor_room (bool_le (x.testBit (lo + m))) (by omega) ha
    rw [u64_hor (hor_top hr)]
    refine ev_eq ?_ (ih _ _ rfl (by omega) hr)
    rw [hor_step (fun j => x.testBit (lo + j)) m acc]
theorem spec_Bits_ev {x : Nat} (hx : x < 2 ^ 64) (lo n : Int) : Ev (fun k => spec_Bits.f k (x : Int) lo n) (if field lo n then (((x >>> lo.toNat) % 2 ^ n.toNat : Nat) : Int) else 0) := by
  unfold spec_Bits.f
  refine ev_bind0 (spec_l1Field_eq lo n) ?_
  by_cases hf : field lo n = true
  · have hd := of_decide_eq_true hf
    rw [if_pos hf]
    refine ev_pos hf ?_
    obtain ⟨l, rfl, hl⟩ := to_nat (a := lo) (m := 64) (by omega) (by omega)
    obtain ⟨m, rfl, hm⟩ := to_nat (a := n) (m := 65) (by omega) (by omega)
    rw [w64_id (x := (m : Int) - 1) (by omega) (by omega)]
    refine ev_eq ?_ (spec_Bits_l0 x l hx m 0 _ rfl (by omega) (Nat.two_pow_pos _))
    congr 1
    rw [Nat.zero_mul, Nat.zero_add]
    apply Nat.eq_of_testBit_eq
    intro j
    rw [hor_testBit, Int.toNat_natCast, Int.toNat_natCast, Nat.testBit_mod_two_pow, Nat.testBit_shiftRight]
  · rw [if_neg hf]
    exact ev_neg hf (ev_ret rfl)
theorem mask_lt (n : Nat) (h : n ≤ 64) : 2 ^ n - 1 < 2 ^ 64 := by
  have := Nat.pow_le_pow_right (n := 2) (by decide) h
  have := Nat.two_pow_pos n
  omega
theorem impl_mask_eq {n : Nat} (h0 : 1 ≤ n) (h : n ≤ 64) : impl_mask.f (n : Int) = some ((2 ^ n - 1 : Nat) : Int) := by
  unfold impl_mask.f
  have e : IntKind.u64.wrap (wrap64 (64 - (n : Int))) = ((64 - n : Nat) : Int) := by rw [w64_id (by omega) (by omega), u64w_id (by omega) (by omega)]; omega
  rw [e, if_pos (by omega)]
  rw [show (18446744073709551615 : Int) = ((2 ^ 64 - 1 : Nat) : Int) by simp, shr_nat _ _ (by decide)]
  congr 2
  apply Nat.eq_of_testBit_eq
  intro j
  rw [Nat.testBit_shiftRight, Nat.testBit_two_pow_sub_one, Nat.testBit_two_pow_sub_one, decide_eq_decide]
  omega
theorem impl_Bits_eq {x : Nat} (hx : x < 2 ^ 64) (lo n : Int) : impl_Bits.f (x : Int) lo n = some (if field lo n then (((x >>> lo.toNat) % 2 ^ n.toNat : Nat) : Int) else 0) := by
  unfold impl_Bits.f
  rw [impl_bitsOk_eq, Option.bind_some]
  by_cases hf : field lo n = true
  · have hd := of_decide_eq_true hf
    rw [if_pos hf, if_pos hf]
    obtain ⟨l, rfl, hl⟩ := to_nat (a := lo) (m := 64) (by omega) (by omega)
    obtain ⟨m, rfl, hm⟩ := to_nat (a := n) (m := 65) (by omega) (by omega)
    rw [u64w_id (x := (l : Int)) (by omega) (by omega), if_pos (by omega), impl_mask_eq (by omega) (by omega), Option.bind_some, shr_nat _ _ hx, and_nat (shr_lt hx) (mask_lt m (by omega)), Nat.and_two_pow_sub_one_eq_mod, Int.toNat_natCast, Int.toNat_natCast]
  · rw [if_neg hf, if_neg hf]
theorem FnExactBits : laws_FnExactBits.Pure := by
  intro a0 a1 a2 h0 h1 h2
  obtain ⟨x, rfl, hx⟩ := to_nat (m := 2 ^ 64) (wf_u64 h0).1 (wf_u64 h0).2
  refine Ev.rounds ?_
  unfold laws_FnExactBits.f
  refine Ev.bind (spec_Bits_ev hx a1 a2) (ev_bind0 (impl_Bits_eq hx a1 a2) (ev_pos rfl (ev_ret rfl)))
end Go.Proofs.Ytnncefankndkaaa.Pure
