/- For every input that the row lets in, FnExactGetEntry answers true; this text proves the plain law that is left when the machine's side is done. -/
import Derived.Test.YtdhafphhkokniaaPFnExactGetEntryx1
import Derived.Test.YtdhafphhkokniaaBase
set_option linter.unusedVariables false
set_option linter.unusedSimpArgs false
namespace Go.Proofs.Ytdhafphhkokniaa.Pure
open Go.RowKit Go.Proofs.Ytdhafphhkokniaa.PFnExactGetEntry Go.Proofs.YtdhafphhkokniaaW.PrintWords Go.Proofs.YtdhafphhkokniaaW.PrintLast Go.Proofs.YtdhafphhkokniaaW.PrintMore Go.Proofs.Ytdhafphhkokniaa.Base

theorem spec_l1Pow_l0 : ∀ (d : Nat) (a i n : Int), i + d = n → 0 ≤ i → n ≤ 64 → 0 ≤ a → a < 18446744073709551616 → Ev (fun k => spec_l1Pow.l0 k n a i) ((a * 2 ^ d) % 18446744073709551616) := by
  intro d
  induction d with
  | zero =>
    intro a i n h h0 h1 h2 h3
    refine Ev.step (fun _ => spec_l1Pow.l0.eq_2 ..) ?_
    refine ev_neg (by omega) (ev_ret ?_)
    rw [Int.pow_zero, Int.mul_one]; omega
  | succ d ih =>
    intro a i n h h0 h1 h2 h3
    refine Ev.step (fun _ => spec_l1Pow.l0.eq_2 ..) ?_
    refine ev_pos (by omega) ?_
    rw [w64_id (x := i + 1) (by omega) (by omega), u64w]
    refine ev_eq ?_ (ih (a * 2 % 18446744073709551616) (i + 1) n (by omega) (by omega) h1 (by omega) (by omega))
    rw [Int.mul_emod, Int.emod_emod_of_dvd _ (Int.dvd_refl _), ← Int.mul_emod, Int.pow_succ, Int.mul_comm (2 ^ d) 2, ← Int.mul_assoc]
theorem spec_l1Pow_ev {n : Nat} (h : n ≤ 63) : Ev (fun k => spec_l1Pow.f k (n : Int)) ((2 ^ n : Nat) : Int) := by
  have := spec_l1Pow_l0 n 1 0 (n : Int) (by omega) (by omega) (by omega) (by omega) (by omega)
  refine Ev.congr (fun k => rfl) (ev_eq ?_ this)
  have h2 : 2 ^ n ≤ 2 ^ 63 := Nat.pow_le_pow_right (by decide) h
  have e : ((2 : Int) ^ n) = ((2 ^ n : Nat) : Int) := by simp
  rw [Int.one_mul, e]
  have h3 : 2 ^ n ≤ 9223372036854775808 := h2
  generalize 2 ^ n = q at *
  omega
theorem spec_l1Pow_64 : Ev (fun k => spec_l1Pow.f k 64) 0 := by
  have := spec_l1Pow_l0 64 1 0 64 (by omega) (by omega) (by omega) (by omega) (by omega)
  exact Ev.congr (fun k => rfl) (ev_eq (by decide) this)
theorem spec_l1Bit_ev {a i : Nat} (ha : a < 2 ^ 64) (h : i ≤ 63) : Ev (fun k => spec_l1Bit.f k (a : Int) (i : Int)) ((a.testBit i).toNat : Int) := by
  unfold spec_l1Bit.f
  refine Ev.bind (spec_l1Pow_ev h) ?_
  have hp : 0 < 2 ^ i := Nat.two_pow_pos i
  refine ev_neg (by omega) (ev_ret ?_)
  rw [tdiv_nat, u64w]
  have h1 : a / 2 ^ i ≤ a := Nat.div_le_self _ _
  have h2 : a < 18446744073709551616 := ha
  have e : (((a / 2 ^ i : Nat) : Int) % 18446744073709551616) = ((a / 2 ^ i : Nat) : Int) := by
    clear hp
    generalize a / 2 ^ i = q at *
    omega
  rw [e, show (2 : Int) = ((2 : Nat) : Int) from rfl, tmod_nat, bit_div]
theorem spec_l6Is_ev {x n : Nat} (hx : x < 2 ^ 64) (h : n ≤ 63) : Ev (fun k => spec_l6Is.f k (x : Int) (n : Int)) (x.testBit n) := by
  unfold spec_l6Is.f
  refine Ev.bind (spec_l1Bit_ev hx h) (ev_ret ?_)
  cases x.testBit n <;> rfl
/-- What an entry's word says. -/
def entV (x : Nat) : Bool × Bool × Bool × Bool × Bool × Bool × Bool × Bool × Int := (x.testBit 0, x.testBit 1, x.testBit 2, x.testBit 3, x.testBit 4, x.testBit 5, x.testBit 6, x.testBit 7, ((x / 256 % 4096 : Nat) : Int))
def getV (x : Nat) : Bool × Bool × Bool × Bool × Bool × Bool × Bool × Bool × Int × Bool :=
  if x ≥ 1048576 then (false, false, false, false, false, false, false, false, 0, false) else (x.testBit 0, x.testBit 1, x.testBit 2, x.testBit 3, x.testBit 4, x.testBit 5, x.testBit 6, x.testBit 7, ((x / 256 % 4096 : Nat) : Int), true)
theorem spec_GetEntry_ev {x : Nat} (hx : x < 2 ^ 64) : Ev (fun k => spec_GetEntry.f k (x : Int)) (getV x) := by
  unfold spec_GetEntry.f getV
  by_cases h : x ≥ 1048576
  · rw [if_pos h]
    exact ev_pos (by omega) (ev_ret rfl)
  · rw [if_neg h]
    refine ev_neg (by omega) ?_
    refine Ev.bind (spec_l6Is_ev (n := 0) hx (by decide)) (Ev.bind (spec_l6Is_ev (n := 1) hx (by decide)) (Ev.bind (spec_l6Is_ev (n := 2) hx (by decide)) (Ev.bind (spec_l6Is_ev (n := 3) hx (by decide)) (Ev.bind (spec_l6Is_ev (n := 4) hx (by decide)) (Ev.bind (spec_l6Is_ev (n := 5) hx (by decide)) (Ev.bind (spec_l6Is_ev (n := 6) hx (by decide)) (Ev.bind (spec_l6Is_ev (n := 7) hx (by decide)) (ev_ret ?_))))))))
    have e : wrap64 (IntKind.u64.wrap (Int.tdiv (x : Int) 256)) = ((x / 256 % 4096 : Nat) : Int) := by
      rw [show (256 : Int) = ((256 : Nat) : Int) from rfl, tdiv_nat, u64w_id (by omega) (by omega), w64_id (by omega) (by omega)]; omega
    rw [e]
theorem impl_entryOf_bit {x i : Nat} (hx : x < 2 ^ 64) (hi : i ≤ 63) : impl_entryOf.b (x : Int) (i : Int) = x.testBit i := by
  unfold impl_entryOf.b
  have e : (x : Int) / 2 ^ (i : Int).toNat = ((x >>> i : Nat) : Int) := by
    rw [Int.toNat_natCast, Nat.shiftRight_eq_div_pow]; simp
  rw [e, show (1 : Int) = ((1 : Nat) : Int) from rfl, and_nat (shr_lt hx) (by decide), Nat.and_one_is_mod]
  have hb : x.testBit i = decide ((x >>> i) % 2 = 1) := by
    rw [Nat.testBit_eq_decide_div_mod_eq, Nat.shiftRight_eq_div_pow]
  rw [hb]
  generalize (x >>> i) % 2 = q
  by_cases hq : q = 1
  · rw [hq]; rfl
  · have : ¬ ((q : Int) = ((1 : Nat) : Int)) := by omega
    rw [beq_eq_false_iff_ne.mpr this, decide_eq_false hq]
theorem impl_entryOf_eq {x : Nat} (hx : x < 2 ^ 64) : impl_entryOf.f (x : Int) = some (entV x) := by
  unfold impl_entryOf.f entV
  have hx2 : x < 18446744073709551616 := hx
  have e : wrap64 (Go.bits .and .u64 ((x : Int) / 256) 4095) = ((x / 256 % 4096 : Nat) : Int) := by
    rw [show (x : Int) / 256 = ((x / 256 : Nat) : Int) by omega, show (4095 : Int) = ((2 ^ 12 - 1 : Nat) : Int) by decide, and_nat (Nat.lt_of_le_of_lt (Nat.div_le_self _ _) hx) (by decide), Nat.and_two_pow_sub_one_eq_mod, w64_id (by omega) (by omega)]
  rw [e]
  have b := fun i (h : i ≤ 63) => impl_entryOf_bit (i := i) hx h
  have b0 := b 0 (by decide); have b1 := b 1 (by decide); have b2 := b 2 (by decide); have b3 := b 3 (by decide); have b4 := b 4 (by decide); have b5 := b 5 (by decide); have b6 := b 6 (by decide); have b7 := b 7 (by decide)
  rw [← b0, ← b1, ← b2, ← b3, ← b4, ← b5, ← b6, ← b7]
  rfl
theorem impl_GetEntry_eq {x : Nat} (hx : x < 2 ^ 64) : impl_GetEntry.f (x : Int) = some (getV x) := by
  unfold impl_GetEntry.f getV
  by_cases h : x ≥ 1048576
  · rw [if_pos h, if_neg (by omega)]
  · rw [if_neg h, if_pos (by omega), impl_entryOf_eq hx]
    rfl
theorem FnExactGetEntry : laws_FnExactGetEntry.Pure := by
  intro a0 h0
  obtain ⟨x, rfl, hx⟩ := to_nat (m := 2 ^ 64) (wf_u64 h0).1 (wf_u64 h0).2
  refine Ev.rounds ?_
  unfold laws_FnExactGetEntry.f
  have es : ∀ (a b c d e f g h : Bool) (i : Int), laws_eqEntry.f a b c d e f g h i a b c d e f g h i = some true := by
    intro a b c d e f g h i; unfold laws_eqEntry.f; simp
  exact Ev.bind (spec_GetEntry_ev hx) (ev_bind0 (impl_GetEntry_eq hx) (ev_bind0 (es ..) (ev_pos rfl (ev_neg (by simp) (ev_ret rfl)))))
end Go.Proofs.Ytdhafphhkokniaa.Pure
