/- For every input that the row lets in, FnExactPutEntry answers true; this text proves the plain law that is left when the machine's side is done. -/
import Derived.Test.YtnncefankndkaabPFnExactPutEntryx1
import Derived.Test.YtnncefankndkaabBase
set_option linter.unusedVariables false
set_option linter.unusedSimpArgs false
namespace Go.Proofs.Ytnncefankndkaab.Pure
open Go.RowKit Go.Proofs.Ytnncefankndkaab.PFnExactPutEntry Go.Proofs.YtnncefankndkaabW.PrintWords Go.Proofs.YtnncefankndkaabW.PrintLast Go.Proofs.YtnncefankndkaabW.PrintMore Go.Proofs.Ytnncefankndkaab.Base

theorem spec_l1Pow_l0 : ∀ (d : Nat) (a i n : Int), i + d = n → 0 ≤ i → n ≤ 64 → 0 ≤ a → a < 18446744073709551616 → Ev (fun k => spec_l1Pow.l0 k n a i) ((a * 2 ^ d) % 18446744073709551616) := by
  intro d
  induction d with
  | zero =>
    intro a i n h h0 h1 h2 h3
    refine Ev.step (fun _ => spec_l1Pow.l0.eq_2 ..) ?_
    refine ev_neg (by omega) (ev_ret ?_)
    rw [Int.pow_zero, Int.mul_one]; omega
  | succ d ih =>
    intro a i n h h0 h1 h2 h3
    refine Ev.step (fun _ => spec_l1Pow.l0.eq_2 ..) ?_
    refine ev_pos (by omega) ?_
    rw [w64_id (x := i + 1) (by omega) (by omega), u64w]
    refine ev_eq ?_ (ih (a * 2 % 18446744073709551616) (i + 1) n (by omega) (by omega) h1 (by omega) (by omega))
    rw [Int.mul_emod, Int.emod_emod_of_dvd _ (Int.dvd_refl _), ← Int.mul_emod, Int.pow_succ, Int.mul_comm (2 ^ d) 2, ← Int.mul_assoc]
theorem spec_l1Pow_ev {n : Nat} (h : n ≤ 63) : Ev (fun k => spec_l1Pow.f k (n : Int)) ((2 ^ n : Nat) : Int) := by
  have := spec_l1Pow_l0 n 1 0 (n : Int) (by omega) (by omega) (by omega) (by omega) (by omega)
  refine Ev.congr (fun k => rfl) (ev_eq ?_ this)
  have h2 : 2 ^ n ≤ 2 ^ 63 := Nat.pow_le_pow_right (by decide) h
  have e : ((2 : Int) ^ n) = ((2 ^ n : Nat) : Int) := by simp
  rw [Int.one_mul, e]
  have h3 : 2 ^ n ≤ 9223372036854775808 := h2
  generalize 2 ^ n = q at *
  omega
theorem spec_l1Pow_64 : Ev (fun k => spec_l1Pow.f k 64) 0 := by
  have := spec_l1Pow_l0 64 1 0 64 (by omega) (by omega) (by omega) (by omega) (by omega)
  exact Ev.congr (fun k => rfl) (ev_eq (by decide) this)
theorem spec_l6Flag_ev (b : Bool) {n : Nat} (h : n ≤ 63) : Ev (fun k => spec_l6Flag.f k b (n : Int)) ((b.toNat * 2 ^ n : Nat) : Int) := by
  unfold spec_l6Flag.f
  cases b with
  | true => exact ev_pos rfl (Ev.bind (spec_l1Pow_ev h) (ev_ret (by simp)))
  | false => exact ev_neg (by decide) (ev_ret (by simp))
def flagsN (l : List Bool) (n : Nat) : Nat := hor (fun j => l.getD j false) n
/-- What an entry's word is: the flags, the frame above them. -/
def putV (l : List Bool) (frame : Int) : Int × Bool := if 0 ≤ frame ∧ frame ≤ 4095 then (frame * 256 + (flagsN l 8 : Int), true) else (0, false)
theorem spec_PutEntry_ev (b0 b1 b2 b3 b4 b5 b6 b7 : Bool) (frame : Int) : Ev (fun k => spec_PutEntry.f k b0 b1 b2 b3 b4 b5 b6 b7 frame) (putV [b0, b1, b2, b3, b4, b5, b6, b7] frame) := by
  unfold spec_PutEntry.f
  have bad : ¬ (0 ≤ frame ∧ frame ≤ 4095) → Ev (fun k => spec_PutEntry.j0 k true b0 b1 b2 b3 b4 b5 b6 b7 frame) (putV [b0, b1, b2, b3, b4, b5, b6, b7] frame) := by
    intro h
    unfold putV
    rw [if_neg h]
    exact Ev.step (fun _ => spec_PutEntry.j0.eq_2 ..) (ev_pos rfl (ev_ret rfl))
  by_cases h1 : frame < 0
  · exact ev_pos h1 (bad (by omega))
  · refine ev_neg h1 ?_
    by_cases h2 : frame > 4095
    · rw [decide_eq_true h2]; exact bad (by omega)
    · rw [decide_eq_false h2]
      unfold putV
      rw [if_pos ⟨by omega, by omega⟩]
      refine Ev.step (fun _ => spec_PutEntry.j0.eq_2 ..) (ev_neg (by decide) ?_)
      refine Ev.bind (spec_l6Flag_ev b0 (n := 0) (by decide)) (Ev.bind (spec_l6Flag_ev b1 (n := 1) (by decide)) (Ev.bind (spec_l6Flag_ev b2 (n := 2) (by decide)) (Ev.bind (spec_l6Flag_ev b3 (n := 3) (by decide)) (Ev.bind (spec_l6Flag_ev b4 (n := 4) (by decide)) (Ev.bind (spec_l6Flag_ev b5 (n := 5) (by decide)) (Ev.bind (spec_l6Flag_ev b6 (n := 6) (by decide)) (Ev.bind (spec_l6Flag_ev b7 (n := 7) (by decide)) (ev_ret ?_))))))))
      have e : ∀ b : Bool, b.toNat ≤ 1 := bool_le
      have h0 := e b0; have h1' := e b1; have h2' := e b2; have h3 := e b3; have h4 := e b4; have h5 := e b5; have h6 := e b6; have h7 := e b7
      simp only [flagsN, hor, u64w]
      simp only [List.getD_cons_zero, List.getD_cons_succ, Nat.reducePow]
      generalize b0.toNat = c0 at *
      generalize b1.toNat = c1 at *
      generalize b2.toNat = c2 at *
      generalize b3.toNat = c3 at *
      generalize b4.toNat = c4 at *
      generalize b5.toNat = c5 at *
      generalize b6.toNat = c6 at *
      generalize b7.toNat = c7 at *
      refine Prod.ext ?_ rfl
      simp only
      omega
theorem impl_one_eq (b : Bool) : impl_one.f b = some (b.toNat : Int) := by cases b <;> rfl
theorem or_bit {F i s : Nat} {b : Bool} (hi : i ≤ 7) (hs : s < 2 ^ i) : (F * 256 + s) ||| (b.toNat * 2 ^ i) = F * 256 + (b.toNat * 2 ^ i + s) := by
  have e256 : F * 256 = 2 ^ (i + 1) * (F * 2 ^ (7 - i)) := by
    rw [Nat.mul_left_comm, ← Nat.pow_add, show i + 1 + (7 - i) = 8 by omega]
  have h1 : s < 2 ^ (i + 1) := Nat.lt_trans hs (Nat.pow_lt_pow_right (by decide) (by omega))
  have h2 : b.toNat * 2 ^ i + s < 2 ^ (i + 1) := by
    rw [Nat.pow_succ]
    have := bool_le b
    have h3 : b.toNat * 2 ^ i ≤ 1 * 2 ^ i := Nat.mul_le_mul_right _ this
    omega
  rw [e256, Nat.two_pow_add_eq_or_of_lt h1, Nat.two_pow_add_eq_or_of_lt h2, Nat.or_assoc, Nat.mul_comm b.toNat, Nat.two_pow_add_eq_or_of_lt hs, Nat.or_comm s]
theorem impl_PutEntry_l0 (l : List Bool) (hl : l.length = 8) (F : Nat) (hF : F ≤ 4095) : ∀ (d i : Nat), i + d = 8 → Ev (fun k => impl_PutEntry.l0 k ((F * 256 + flagsN l i : Nat) : Int) l 8 (i : Int)) (((F * 256 + flagsN l 8 : Nat) : Int), true) := by
  intro d
  induction d with
  | zero =>
    intro i h
    obtain rfl : i = 8 := by omega
    exact Ev.step (fun _ => impl_PutEntry.l0.eq_2 ..) (ev_neg (by omega) (ev_ret rfl))
  | succ d ih =>
    intro i h
    refine Ev.step (fun _ => impl_PutEntry.l0.eq_2 ..) (ev_pos (by omega) (ev_pos (by omega) (ev_pos (by omega) ?_)))
    have e1 : wrap64 ((i : Int) + 1) = ((i + 1 : Nat) : Int) := by rw [w64_id (by omega) (by omega)]; omega
    have er : rdOf false l (i : Int) = l.getD i false := by unfold rdOf; rw [Int.toNat_natCast]
    refine ev_bind0 (impl_one_eq _) ?_
    have hsl : flagsN l i < 2 ^ i := hor_lt _ _
    have hp : 2 ^ i ≤ 2 ^ 7 := Nat.pow_le_pow_right (by decide) (by omega)
    have hp2 : 2 ^ i ≤ 128 := hp
    have hb := bool_le (l.getD i false)
    have hsh : ((l.getD i false).toNat <<< i) % 2 ^ 64 = (l.getD i false).toNat * 2 ^ i := by
      rw [Nat.shiftLeft_eq, Nat.mod_eq_of_lt]
      have : (l.getD i false).toNat * 2 ^ i ≤ 1 * 2 ^ i := Nat.mul_le_mul_right _ hb
      exact Nat.lt_of_le_of_lt this (by omega)
    have hlt : F * 256 + flagsN l i < 2 ^ 64 := Nat.lt_of_lt_of_le (show _ < 4294967296 by omega) (by decide)
    rw [e1, er, shl_nat, hsh, or_nat hlt (by rw [← hsh]; exact shl_lt), or_bit (by omega) hsl]
    exact ih (i + 1) (by omega)
theorem impl_PutEntry_ev (b0 b1 b2 b3 b4 b5 b6 b7 : Bool) (frame : Int) : Ev (fun k => impl_PutEntry.f k b0 b1 b2 b3 b4 b5 b6 b7 frame) (putV [b0, b1, b2, b3, b4, b5, b6, b7] frame) := by
  unfold impl_PutEntry.f
  have bad : ¬ (0 ≤ frame ∧ frame ≤ 4095) → Ev (fun k => impl_PutEntry.j0 k true b0 b1 b2 b3 b4 b5 b6 b7 frame) (putV [b0, b1, b2, b3, b4, b5, b6, b7] frame) := by
    intro h
    unfold putV
    rw [if_neg h]
    exact Ev.step (fun _ => impl_PutEntry.j0.eq_2 ..) (ev_pos rfl (ev_ret rfl))
  by_cases h1 : frame < 0
  · exact ev_pos h1 (bad (by omega))
  · refine ev_neg h1 ?_
    by_cases h2 : frame > 4095
    · rw [decide_eq_true h2]; exact bad (by omega)
    · rw [decide_eq_false h2]
      unfold putV
      rw [if_pos ⟨by omega, by omega⟩]
      refine Ev.step (fun _ => impl_PutEntry.j0.eq_2 ..) (ev_neg (by decide) ?_)
      obtain ⟨F, rfl⟩ := Int.eq_ofNat_of_zero_le (show 0 ≤ frame by omega)
      refine ev_bind0 rfl ?_
      have e : IntKind.u64.wrap (IntKind.u64.wrap (F : Int) * 256) = ((F * 256 + flagsN [b0, b1, b2, b3, b4, b5, b6, b7] 0 : Nat) : Int) := by
        rw [u64w_id (x := (F : Int)) (by omega) (by omega), u64w_id (by omega) (by omega)]; simp [flagsN, hor]
      rw [e]
      refine ev_eq ?_ (impl_PutEntry_l0 [b0, b1, b2, b3, b4, b5, b6, b7] rfl F (by omega) 8 0 (by omega))
      simp
theorem FnExactPutEntry : laws_FnExactPutEntry.Pure := by
  intro b0 b1 b2 b3 b4 b5 b6 b7 fr _
  refine Ev.rounds ?_
  unfold laws_FnExactPutEntry.f
  refine ev_bind0 rfl (Ev.bind (spec_PutEntry_ev b0 b1 b2 b3 b4 b5 b6 b7 fr) (ev_bind0 rfl (Ev.bind (impl_PutEntry_ev b0 b1 b2 b3 b4 b5 b6 b7 fr) (ev_pos rfl (ev_neg (by simp) (ev_ret rfl))))))
end Go.Proofs.Ytnncefankndkaab.Pure
