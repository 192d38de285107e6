/- For every input that the row lets in, FnExactExtend answers true; this text proves the plain law that is left when the machine's side is done. -/
import Derived.Test.YtnncefankndkaaaPFnExactExtendx1
import Derived.Test.YtnncefankndkaaaBase
set_option linter.unusedVariables false
set_option linter.unusedSimpArgs false
namespace Go.Proofs.Ytnncefankndkaaa.Pure
open Go.RowKit Go.Proofs.Ytnncefankndkaaa.PFnExactExtend Go.Proofs.YtnncefankndkaaaW.PrintWords Go.Proofs.YtnncefankndkaaaW.PrintLast Go.Proofs.YtnncefankndkaaaW.PrintMore Go.Proofs.Ytnncefankndkaaa.Base

theorem spec_l1Pow_l0 : ∀ (d : Nat) (a i n : Int), i + d = n → 0 ≤ i → n ≤ 64 → 0 ≤ a → a < 18446744073709551616 → Ev (fun k => spec_l1Pow.l0 k n a i) ((a * 2 ^ d) % 18446744073709551616) := by
  intro d
  induction d with
  | zero =>
    intro a i n h h0 h1 h2 h3
    refine Ev.step (fun _ => spec_l1Pow.l0.eq_2 ..) ?_
    refine ev_neg (by omega) (ev_ret ?_)
    rw [Int.pow_zero, Int.mul_one]; omega
  | succ d ih =>
    intro a i n h h0 h1 h2 h3
    refine Ev.step (fun _ => spec_l1Pow.l0.eq_2 ..) ?_
    refine ev_pos (by omega) ?_
    rw [w64_id (x := i + 1) (by omega) (by omega), u64w]
    refine ev_eq ?_ (ih (a * 2 % 18446744073709551616) (i + 1) n (by omega) (by omega) h1 (by omega) (by omega))
    rw [Int.mul_emod, Int.emod_emod_of_dvd _ (Int.dvd_refl _), ← Int.mul_emod, Int.pow_succ, Int.mul_comm (2 ^ d) 2, ← Int.mul_assoc]
theorem spec_l1Pow_ev {n : Nat} (h : n ≤ 63) : Ev (fun k => spec_l1Pow.f k (n : Int)) ((2 ^ n : Nat) : Int) := by
  have := spec_l1Pow_l0 n 1 0 (n : Int) (by omega) (by omega) (by omega) (by omega) (by omega)
  refine Ev.congr (fun k => rfl) (ev_eq ?_ this)
  have h2 : 2 ^ n ≤ 2 ^ 63 := Nat.pow_le_pow_right (by decide) h
  have e : ((2 : Int) ^ n) = ((2 ^ n : Nat) : Int) := by simp
  rw [Int.one_mul, e]
  have h3 : 2 ^ n ≤ 9223372036854775808 := h2
  generalize 2 ^ n = q at *
  omega
theorem spec_l1Pow_64 : Ev (fun k => spec_l1Pow.f k 64) 0 := by
  have := spec_l1Pow_l0 64 1 0 64 (by omega) (by omega) (by omega) (by omega) (by omega)
  exact Ev.congr (fun k => rfl) (ev_eq (by decide) this)
theorem spec_l1Bit_ev {a i : Nat} (ha : a < 2 ^ 64) (h : i ≤ 63) : Ev (fun k => spec_l1Bit.f k (a : Int) (i : Int)) ((a.testBit i).toNat : Int) := by
  unfold spec_l1Bit.f
  refine Ev.bind (spec_l1Pow_ev h) ?_
  have hp : 0 < 2 ^ i := Nat.two_pow_pos i
  refine ev_neg (by omega) (ev_ret ?_)
  rw [tdiv_nat, u64w]
  have h1 : a / 2 ^ i ≤ a := Nat.div_le_self _ _
  have h2 : a < 18446744073709551616 := ha
  have e : (((a / 2 ^ i : Nat) : Int) % 18446744073709551616) = ((a / 2 ^ i : Nat) : Int) := by
    clear hp
    generalize a / 2 ^ i = q at *
    omega
  rw [e, show (2 : Int) = ((2 : Nat) : Int) from rfl, tmod_nat, bit_div]
def extBit (x n : Nat) (j : Nat) : Bool := if j < n then x.testBit j else x.testBit (n - 1)
def ext (x n : Nat) : Nat := hor (extBit x n) 64
theorem ext_lt (x n : Nat) : ext x n < 2 ^ 64 := hor_lt _ _
theorem spec_Extend_l0 (x n : Nat) (hx : x < 2 ^ 64) (h1 : 1 ≤ n) (hn : n ≤ 64) : ∀ (m acc : Nat) (i : Int), i = (m : Int) - 1 → m ≤ 64 → acc < 2 ^ (64 - m) → Ev (fun k => spec_Extend.l0 k (x : Int) (n : Int) (acc : Int) i) ((acc * 2 ^ m + hor (extBit x n) m : Nat) : Int) := by
  intro m
  induction m with
  | zero =>
    intro acc i hi hm ha
    refine Ev.step (fun _ => spec_Extend.l0.eq_2 ..) ?_
    exact ev_neg (by omega) (ev_ret (by simp [hor]))
  | succ m ih =>
    intro acc i hi hm ha
    obtain rfl : i = (m : Int) := by omega
    refine Ev.step (fun _ => spec_Extend.l0.eq_2 ..) ?_
    refine ev_pos (by omega) ?_
    have e2 : wrap64 ((m : Int) - 1) = (m : Int) - 1 := w64_id (by omega) (by omega)
    have e3 : wrap64 ((n : Int) - 1) = ((n - 1 : Nat) : Int) := by rw [w64_id (by omega) (by omega)]; omega
    rw [e2, e3]
    by_cases hc : m < n
    · refine ev_pos (by omega) ?_
      refine Ev.bind (spec_l1Bit_ev hx (by omega)) ?_
      have eb : x.testBit m = extBit x n m := by unfold extBit; rw [if_pos hc]
      rw [eb]
      have hr := hor_room (bool_le (extBit x n m)) (by omega) ha
      rw [u64_hor (hor_top hr)]
      exact ev_eq (by rw [hor_step]) (ih _ _ rfl (by omega) hr)
    · refine ev_neg (by omega) ?_
      refine Ev.bind (spec_l1Bit_ev hx (by omega)) ?_
      have eb : x.testBit (n - 1) = extBit x n m := by unfold extBit; rw [if_neg hc]
      rw [eb]
      have hr := hor_room (bool_le (extBit x n m)) (by omega) ha
      rw [u64_hor (hor_top hr)]
      exact ev_eq (by rw [hor_step]) (ih _ _ rfl (by omega) hr)
def extV (x : Nat) (n : Int) : Int := if 1 ≤ n ∧ n ≤ 64 then (ext x n.toNat : Int) else 0
theorem spec_Extend_ev {x : Nat} (hx : x < 2 ^ 64) (n : Int) : Ev (fun k => spec_Extend.f k (x : Int) n) (extV x n) := by
  unfold spec_Extend.f extV
  by_cases h1 : n < 1
  · rw [if_neg (by omega)]
    refine ev_pos h1 ?_
    refine Ev.step (fun _ => spec_Extend.j0.eq_2 ..) ?_
    exact ev_pos rfl (ev_ret rfl)
  · refine ev_neg h1 ?_
    refine Ev.step (fun _ => spec_Extend.j0.eq_2 ..) ?_
    by_cases h2 : n > 64
    · rw [if_neg (by omega)]
      exact ev_pos (by simpa using h2) (ev_ret rfl)
    · rw [if_pos (by omega)]
      refine ev_neg (by simpa using h2) ?_
      obtain ⟨m, rfl, hm⟩ := to_nat (a := n) (m := 65) (by omega) (by omega)
      refine ev_eq ?_ (spec_Extend_l0 x m hx (by omega) (by omega) 64 0 63 (by omega) (by omega) (by simp))
      simp [ext]
theorem ext_sum (x n : Nat) (h1 : 1 ≤ n) (hn : n ≤ 64) : ext x n = x % 2 ^ n + (if x.testBit (n - 1) then 2 ^ 64 - 2 ^ n else 0) := by
  have key : 2 ^ 64 - 2 ^ n = (2 ^ (64 - n) - 1) <<< n := by
    rw [Nat.shiftLeft_eq, Nat.sub_mul, ← Nat.pow_add, Nat.one_mul, Nat.sub_add_cancel hn]
  have hl : x % 2 ^ n < 2 ^ n := Nat.mod_lt _ (Nat.two_pow_pos n)
  apply Nat.eq_of_testBit_eq
  intro j
  unfold ext
  rw [hor_testBit]
  unfold extBit
  by_cases hb : x.testBit (n - 1) = true
  · rw [if_pos hb, key, Nat.add_comm, Nat.shiftLeft_add_eq_or_of_lt hl, Nat.testBit_or, Nat.testBit_shiftLeft, Nat.testBit_two_pow_sub_one, Nat.testBit_mod_two_pow, hb]
    by_cases hj : j < n
    · have : j < 64 := by omega
      have h3 : ¬ j ≥ n := by omega
      simp [hj, this, h3]
    · have h3 : j ≥ n := by omega
      rw [if_neg hj]
      by_cases h4 : j < 64
      · have : j - n < 64 - n := by omega
        simp [hj, h3, h4, this]
      · have : ¬ j - n < 64 - n := by omega
        simp [hj, h4, this]
  · rw [if_neg hb, Nat.add_zero, Nat.testBit_mod_two_pow]
    have hb' : x.testBit (n - 1) = false := by simpa using hb
    by_cases hj : j < n
    · have : j < 64 := by omega
      simp [hj, this]
    · rw [if_neg hj, hb']; simp [hj]
theorem impl_Extend_eq {x : Nat} (hx : x < 2 ^ 64) (n : Int) : impl_Extend.f (x : Int) n = some (extV x n) := by
  unfold impl_Extend.f extV
  by_cases h1 : n < 1
  · rw [if_pos h1, if_neg (by omega)]
  · rw [if_neg h1]
    by_cases h2 : n > 64
    · rw [if_pos h2, if_neg (by omega)]
    · rw [if_neg h2, if_pos (show 1 ≤ n ∧ n ≤ 64 by omega)]
      obtain ⟨m, rfl, hm⟩ := to_nat (a := n) (m := 65) (by omega) (by omega)
      have e : IntKind.u64.wrap (wrap64 (64 - (m : Int))) = ((64 - m : Nat) : Int) := by rw [w64_id (by omega) (by omega), u64w_id (by omega) (by omega)]; omega
      rw [e, if_pos (by omega), shl_nat, Int.toNat_natCast, ext_sum x m (by omega) (by omega)]
      congr 1
      obtain ⟨s, hs⟩ : ∃ s, s = 64 - m := ⟨_, rfl⟩
      rw [← hs]
      have hm2 : m = 64 - s := by omega
      have hs2 : s ≤ 63 := by omega
      have hv : (x <<< s) % 2 ^ 64 = (x % 2 ^ m) * 2 ^ s := by
        rw [Nat.shiftLeft_eq, show (2 : Nat) ^ 64 = 2 ^ m * 2 ^ s by rw [← Nat.pow_add]; congr 1; omega, Nat.mul_mod_mul_right]
      have hpm : x % 2 ^ m < 2 ^ m := Nat.mod_lt _ (Nat.two_pow_pos m)
      have hsp : 0 < 2 ^ s := Nat.two_pow_pos s
      have hps : (2 : Nat) ^ m * 2 ^ s = 18446744073709551616 := by rw [← Nat.pow_add, show m + s = 64 by omega]
      have hbit : x.testBit (m - 1) = decide (2 ^ (m - 1) ≤ x % 2 ^ m) := by
        have : (x % 2 ^ m).testBit (m - 1) = x.testBit (m - 1) := by
          rw [Nat.testBit_mod_two_pow]; simp; omega
        rw [← this]
        by_cases hle : 2 ^ (m - 1) ≤ x % 2 ^ m
        · rw [Nat.testBit_eq_decide_div_mod_eq]
          have e2 : (2 : Nat) ^ m = 2 ^ (m - 1) * 2 := by rw [← Nat.pow_succ]; congr 1; omega
          have : x % 2 ^ m / 2 ^ (m - 1) = 1 := by
            apply Nat.div_eq_of_lt_le
            · omega
            · omega
          rw [this]; simp [hle]
        · rw [Nat.testBit_lt_two_pow (by omega)]; simp [hle]
      have hhalf : (2 : Nat) ^ (m - 1) * 2 ^ s = 9223372036854775808 := by rw [← Nat.pow_add, show m - 1 + s = 63 by omega]
      rw [hv]
      unfold shr
      rw [Int.toNat_natCast, u64w]
      show (wrap64 _ / 2 ^ min s 64) % _ = _
      rw [Nat.min_eq_left (by omega)]
      have ep : ((2 : Int) ^ s) = ((2 ^ s : Nat) : Int) := by simp
      rw [ep]
      generalize hy : x % 2 ^ m = y at *
      generalize hP : (2 : Nat) ^ s = P at *
      generalize hQ : (2 : Nat) ^ m = Q at *
      generalize hR : (2 : Nat) ^ (m - 1) = R at *
      rw [hbit]
      by_cases hle : R ≤ y
      · have h5 : R * P ≤ y * P := Nat.mul_le_mul_right _ hle
        have h6 : (y + 1) * P ≤ Q * P := Nat.mul_le_mul_right _ hpm
        rw [Nat.succ_mul] at h6
        have hw : wrap64 ((y * P : Nat) : Int) = ((y : Int) - Q) * P := by
          rw [Int.sub_mul]
          have : ((Q : Int) * (P : Int)) = 18446744073709551616 := by rw [← Int.natCast_mul, hps]; rfl
          rw [this]
          have : ((y * P : Nat) : Int) = (y : Int) * P := by simp
          rw [← this]
          unfold wrap64; omega
        rw [hw, Int.mul_ediv_cancel _ (by omega)]
        simp only [hle, decide_true, if_true]
        have hQ64 : Q ≤ 18446744073709551616 := by
          have := Nat.le_mul_of_pos_right Q hsp; omega
        omega
      · have h5 : (y + 1) * P ≤ R * P := Nat.mul_le_mul_right _ (by omega)
        rw [Nat.succ_mul] at h5
        have hw : wrap64 ((y * P : Nat) : Int) = (y : Int) * P := by
          have : ((y * P : Nat) : Int) = (y : Int) * P := by simp
          rw [← this]
          unfold wrap64; omega
        rw [hw, Int.mul_ediv_cancel _ (by omega)]
        simp only [hle, decide_false]
        have hQ64 : Q ≤ 18446744073709551616 := by
          have := Nat.le_mul_of_pos_right Q hsp; omega
        simp
        omega
theorem FnExactExtend : laws_FnExactExtend.Pure := by
  intro a0 a1 h0 h1
  obtain ⟨x, rfl, hx⟩ := to_nat (m := 2 ^ 64) (wf_u64 h0).1 (wf_u64 h0).2
  refine Ev.rounds ?_
  unfold laws_FnExactExtend.f
  exact Ev.bind (spec_Extend_ev hx a1) (ev_bind0 (impl_Extend_eq hx a1) (ev_pos rfl (ev_ret rfl)))
end Go.Proofs.Ytnncefankndkaaa.Pure
