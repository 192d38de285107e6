/- For every input that the row lets in, FnExactAlu answers true; this text proves the plain law that is left when the machine's side is done. -/
import Derived.Test.YtmbcihfdfohfcaaPFnExactAlux6
import Derived.Test.YtmbcihfdfohfcaaBase
set_option linter.unusedVariables false
set_option linter.unusedSimpArgs false
namespace Go.Proofs.Ytmbcihfdfohfcaa.Pure
open Go.RowKit Go.Proofs.Ytmbcihfdfohfcaa.PFnExactAlu Go.Proofs.YtmbcihfdfohfcaaW.PrintWords Go.Proofs.YtmbcihfdfohfcaaW.PrintLast Go.Proofs.YtmbcihfdfohfcaaW.PrintMore Go.Proofs.Ytmbcihfdfohfcaa.Base

theorem spec_l1Pow_l0 : ∀ (d : Nat) (a i n : Int), i + d = n → 0 ≤ i → n ≤ 64 → 0 ≤ a → a < 18446744073709551616 → Ev (fun k => spec_l1Pow.l0 k n a i) ((a * 2 ^ d) % 18446744073709551616) := by
  intro d
  induction d with
  | zero =>
    intro a i n h h0 h1 h2 h3
    refine Ev.step (fun _ => spec_l1Pow.l0.eq_2 ..) ?_
    refine ev_neg (by omega) (ev_ret ?_)
    rw [Int.pow_zero, Int.mul_one]; omega
  | succ d ih =>
    intro a i n h h0 h1 h2 h3
    refine Ev.step (fun _ => spec_l1Pow.l0.eq_2 ..) ?_
    refine ev_pos (by omega) ?_
    rw [w64_id (x := i + 1) (by omega) (by omega), u64w]
    refine ev_eq ?_ (ih (a * 2 % 18446744073709551616) (i + 1) n (by omega) (by omega) h1 (by omega) (by omega))
    rw [Int.mul_emod, Int.emod_emod_of_dvd _ (Int.dvd_refl _), ← Int.mul_emod, Int.pow_succ, Int.mul_comm (2 ^ d) 2, ← Int.mul_assoc]
theorem spec_l1Pow_ev {n : Nat} (h : n ≤ 63) : Ev (fun k => spec_l1Pow.f k (n : Int)) ((2 ^ n : Nat) : Int) := by
  have := spec_l1Pow_l0 n 1 0 (n : Int) (by omega) (by omega) (by omega) (by omega) (by omega)
  refine Ev.congr (fun k => rfl) (ev_eq ?_ this)
  have h2 : 2 ^ n ≤ 2 ^ 63 := Nat.pow_le_pow_right (by decide) h
  have e : ((2 : Int) ^ n) = ((2 ^ n : Nat) : Int) := by simp
  rw [Int.one_mul, e]
  have h3 : 2 ^ n ≤ 9223372036854775808 := h2
  generalize 2 ^ n = q at *
  omega
theorem spec_l1Pow_64 : Ev (fun k => spec_l1Pow.f k 64) 0 := by
  have := spec_l1Pow_l0 64 1 0 64 (by omega) (by omega) (by omega) (by omega) (by omega)
  exact Ev.congr (fun k => rfl) (ev_eq (by decide) this)
theorem spec_l1Bit_ev {a i : Nat} (ha : a < 2 ^ 64) (h : i ≤ 63) : Ev (fun k => spec_l1Bit.f k (a : Int) (i : Int)) ((a.testBit i).toNat : Int) := by
  unfold spec_l1Bit.f
  refine Ev.bind (spec_l1Pow_ev h) ?_
  have hp : 0 < 2 ^ i := Nat.two_pow_pos i
  refine ev_neg (by omega) (ev_ret ?_)
  rw [tdiv_nat, u64w]
  have h1 : a / 2 ^ i ≤ a := Nat.div_le_self _ _
  have h2 : a < 18446744073709551616 := ha
  have e : (((a / 2 ^ i : Nat) : Int) % 18446744073709551616) = ((a / 2 ^ i : Nat) : Int) := by
    clear hp
    generalize a / 2 ^ i = q at *
    omega
  rw [e, show (2 : Int) = ((2 : Nat) : Int) from rfl, tmod_nat, bit_div]
def field (lo n : Int) : Bool := decide (0 ≤ lo ∧ lo ≤ 63 ∧ 1 ≤ n ∧ n ≤ 64 - lo)
theorem spec_l1Field_eq (lo n : Int) : spec_l1Field.f lo n = some (field lo n) := by
  unfold spec_l1Field.f field
  by_cases h1 : lo ≥ 0
  · rw [if_pos h1]
    by_cases h2 : lo ≤ 63
    · rw [if_pos h2]
      by_cases h3 : n ≥ 1
      · rw [if_pos h3, w64_id (by omega) (by omega)]
        simp only [Option.some.injEq, decide_eq_decide]; omega
      · rw [if_neg h3]; simp only [Option.some.injEq]; symm; simp only [decide_eq_false_iff_not]; omega
    · rw [if_neg h2]; simp only [Option.some.injEq]; symm; simp only [decide_eq_false_iff_not]; omega
  · rw [if_neg h1]; simp only [Option.some.injEq]; symm; simp only [decide_eq_false_iff_not]; omega
theorem spec_Bits_l0 (x lo : Nat) (hx : x < 2 ^ 64) : ∀ (m acc : Nat) (i : Int), i = (m : Int) - 1 → lo + m ≤ 64 → acc < 2 ^ (64 - m) → Ev (fun k => spec_Bits.l0 k (x : Int) (lo : Int) (acc : Int) i) ((acc * 2 ^ m + hor (fun j => x.testBit (lo + j)) m : Nat) : Int) := by
  intro m
  induction m with
  | zero =>
    intro acc i hi hm ha
    refine Ev.step (fun _ => spec_Bits.l0.eq_2 ..) ?_
    exact ev_neg (by omega) (ev_ret (by simp [hor]))
  | succ m ih =>
    intro acc i hi hm ha
    refine Ev.step (fun _ => spec_Bits.l0.eq_2 ..) ?_
    refine ev_pos (by omega) ?_
    have e1 : wrap64 ((lo : Int) + i) = ((lo + m : Nat) : Int) := by rw [w64_id (by omega) (by omega)]; omega
    have e2 : wrap64 (i - 1) = (m : Int) - 1 := by rw [w64_id (by omega) (by omega)]; omega
    rw [e1, e2]
    refine Ev.bind (spec_l1Bit_ev hx (by omega)) ?_
    have hr := hor_room (bool_le (x.testBit (lo + m))) (by omega) ha
    rw [u64_hor (hor_top hr)]
    refine ev_eq ?_ (ih _ _ rfl (by omega) hr)
    rw [hor_step (fun j => x.testBit (lo + j)) m acc]
theorem spec_Bits_ev {x : Nat} (hx : x < 2 ^ 64) (lo n : Int) : Ev (fun k => spec_Bits.f k (x : Int) lo n) (if field lo n then (((x >>> lo.toNat) % 2 ^ n.toNat : Nat) : Int) else 0) := by
  unfold spec_Bits.f
  refine ev_bind0 (spec_l1Field_eq lo n) ?_
  by_cases hf : field lo n = true
  · have hd := of_decide_eq_true hf
    rw [if_pos hf]
    refine ev_pos hf ?_
    obtain ⟨l, rfl, hl⟩ := to_nat (a := lo) (m := 64) (by omega) (by omega)
    obtain ⟨m, rfl, hm⟩ := to_nat (a := n) (m := 65) (by omega) (by omega)
    rw [w64_id (x := (m : Int) - 1) (by omega) (by omega)]
    refine ev_eq ?_ (spec_Bits_l0 x l hx m 0 _ rfl (by omega) (Nat.two_pow_pos _))
    congr 1
    rw [Nat.zero_mul, Nat.zero_add]
    apply Nat.eq_of_testBit_eq
    intro j
    rw [hor_testBit, Int.toNat_natCast, Int.toNat_natCast, Nat.testBit_mod_two_pow, Nat.testBit_shiftRight]
  · rw [if_neg hf]
    exact ev_neg hf (ev_ret rfl)
def extBit (x n : Nat) (j : Nat) : Bool := if j < n then x.testBit j else x.testBit (n - 1)
def ext (x n : Nat) : Nat := hor (extBit x n) 64
theorem ext_lt (x n : Nat) : ext x n < 2 ^ 64 := hor_lt _ _
theorem spec_Extend_l0 (x n : Nat) (hx : x < 2 ^ 64) (h1 : 1 ≤ n) (hn : n ≤ 64) : ∀ (m acc : Nat) (i : Int), i = (m : Int) - 1 → m ≤ 64 → acc < 2 ^ (64 - m) → Ev (fun k => spec_Extend.l0 k (x : Int) (n : Int) (acc : Int) i) ((acc * 2 ^ m + hor (extBit x n) m : Nat) : Int) := by
  intro m
  induction m with
  | zero =>
    intro acc i hi hm ha
    refine Ev.step (fun _ => spec_Extend.l0.eq_2 ..) ?_
    exact ev_neg (by omega) (ev_ret (by simp [hor]))
  | succ m ih =>
    intro acc i hi hm ha
    obtain rfl : i = (m : Int) := by omega
    refine Ev.step (fun _ => spec_Extend.l0.eq_2 ..) ?_
    refine ev_pos (by omega) ?_
    have e2 : wrap64 ((m : Int) - 1) = (m : Int) - 1 := w64_id (by omega) (by omega)
    have e3 : wrap64 ((n : Int) - 1) = ((n - 1 : Nat) : Int) := by rw [w64_id (by omega) (by omega)]; omega
    rw [e2, e3]
    by_cases hc : m < n
    · refine ev_pos (by omega) ?_
      refine Ev.bind (spec_l1Bit_ev hx (by omega)) ?_
      have eb : x.testBit m = extBit x n m := by unfold extBit; rw [if_pos hc]
      rw [eb]
      have hr := hor_room (bool_le (extBit x n m)) (by omega) ha
      rw [u64_hor (hor_top hr)]
      exact ev_eq (by rw [hor_step]) (ih _ _ rfl (by omega) hr)
    · refine ev_neg (by omega) ?_
      refine Ev.bind (spec_l1Bit_ev hx (by omega)) ?_
      have eb : x.testBit (n - 1) = extBit x n m := by unfold extBit; rw [if_neg hc]
      rw [eb]
      have hr := hor_room (bool_le (extBit x n m)) (by omega) ha
      rw [u64_hor (hor_top hr)]
      exact ev_eq (by rw [hor_step]) (ih _ _ rfl (by omega) hr)
def extV (x : Nat) (n : Int) : Int := if 1 ≤ n ∧ n ≤ 64 then (ext x n.toNat : Int) else 0
theorem spec_Extend_ev {x : Nat} (hx : x < 2 ^ 64) (n : Int) : Ev (fun k => spec_Extend.f k (x : Int) n) (extV x n) := by
  unfold spec_Extend.f extV
  by_cases h1 : n < 1
  · rw [if_neg (by omega)]
    refine ev_pos h1 ?_
    refine Ev.step (fun _ => spec_Extend.j0.eq_2 ..) ?_
    exact ev_pos rfl (ev_ret rfl)
  · refine ev_neg h1 ?_
    refine Ev.step (fun _ => spec_Extend.j0.eq_2 ..) ?_
    by_cases h2 : n > 64
    · rw [if_neg (by omega)]
      exact ev_pos (by simpa using h2) (ev_ret rfl)
    · rw [if_pos (by omega)]
      refine ev_neg (by simpa using h2) ?_
      obtain ⟨m, rfl, hm⟩ := to_nat (a := n) (m := 65) (by omega) (by omega)
      refine ev_eq ?_ (spec_Extend_l0 x m hx (by omega) (by omega) 64 0 63 (by omega) (by omega) (by simp))
      simp [ext]
theorem ext_sum (x n : Nat) (h1 : 1 ≤ n) (hn : n ≤ 64) : ext x n = x % 2 ^ n + (if x.testBit (n - 1) then 2 ^ 64 - 2 ^ n else 0) := by
  have key : 2 ^ 64 - 2 ^ n = (2 ^ (64 - n) - 1) <<< n := by
    rw [Nat.shiftLeft_eq, Nat.sub_mul, ← Nat.pow_add, Nat.one_mul, Nat.sub_add_cancel hn]
  have hl : x % 2 ^ n < 2 ^ n := Nat.mod_lt _ (Nat.two_pow_pos n)
  apply Nat.eq_of_testBit_eq
  intro j
  unfold ext
  rw [hor_testBit]
  unfold extBit
  by_cases hb : x.testBit (n - 1) = true
  · rw [if_pos hb, key, Nat.add_comm, Nat.shiftLeft_add_eq_or_of_lt hl, Nat.testBit_or, Nat.testBit_shiftLeft, Nat.testBit_two_pow_sub_one, Nat.testBit_mod_two_pow, hb]
    by_cases hj : j < n
    · have : j < 64 := by omega
      have h3 : ¬ j ≥ n := by omega
      simp [hj, this, h3]
    · have h3 : j ≥ n := by omega
      rw [if_neg hj]
      by_cases h4 : j < 64
      · have : j - n < 64 - n := by omega
        simp [hj, h3, h4, this]
      · have : ¬ j - n < 64 - n := by omega
        simp [hj, h4, this]
  · rw [if_neg hb, Nat.add_zero, Nat.testBit_mod_two_pow]
    have hb' : x.testBit (n - 1) = false := by simpa using hb
    by_cases hj : j < n
    · have : j < 64 := by omega
      simp [hj, this]
    · rw [if_neg hj, hb']; simp [hj]
theorem hi_part (x1 x0 : Nat) (h : x0 < 4294967296) : ((x1 * 4294967296 + x0 : Nat) : Int) / 4294967296 = (x1 : Int) := by omega
theorem mul_parts {a b : Nat} (ha : a < 2 ^ 64) (hb : b < 2 ^ 64) : bits_Mul64.f (a : Int) (b : Int) = some (((a * b / 2 ^ 64 : Nat) : Int), ((a * b % 2 ^ 64 : Nat) : Int)) := by
  have ha' : a < 18446744073709551616 := ha
  have hb' : b < 18446744073709551616 := hb
  obtain ⟨x1, x0, hx0, hx1, rfl⟩ : ∃ x1 x0, x0 < 4294967296 ∧ x1 < 4294967296 ∧ a = x1 * 4294967296 + x0 := ⟨a / 4294967296, a % 4294967296, by omega, by omega, by omega⟩
  obtain ⟨y1, y0, hy0, hy1, rfl⟩ : ∃ y1 y0, y0 < 4294967296 ∧ y1 < 4294967296 ∧ b = y1 * 4294967296 + y0 := ⟨b / 4294967296, b % 4294967296, by omega, by omega, by omega⟩
  have mask : ∀ n : Nat, n < 2 ^ 64 → Go.bits .and .u64 (n : Int) 4294967295 = ((n % 4294967296 : Nat) : Int) := by
    intro n hn
    rw [show (4294967295 : Int) = ((2 ^ 32 - 1 : Nat) : Int) by simp, and_nat hn (by decide), Nat.and_two_pow_sub_one_eq_mod]
  obtain ⟨p00, h00⟩ : ∃ p, p = x0 * y0 := ⟨_, rfl⟩
  obtain ⟨p01, h01⟩ : ∃ p, p = x0 * y1 := ⟨_, rfl⟩
  obtain ⟨p10, h10⟩ : ∃ p, p = x1 * y0 := ⟨_, rfl⟩
  obtain ⟨p11, h11⟩ : ∃ p, p = x1 * y1 := ⟨_, rfl⟩
  have bd : ∀ u v : Nat, u < 4294967296 → v < 4294967296 → u * v ≤ 4294967295 * 4294967295 := fun u v hu hv => Nat.mul_le_mul (by omega) (by omega)
  have b00 := bd x0 y0 hx0 hy0
  have b01 := bd x0 y1 hx0 hy1
  have b10 := bd x1 y0 hx1 hy0
  have b11 := bd x1 y1 hx1 hy1
  rw [← h00] at b00
  rw [← h01] at b01
  rw [← h10] at b10
  rw [← h11] at b11
  have prod : (x1 * 4294967296 + x0) * (y1 * 4294967296 + y0) = p11 * 18446744073709551616 + (p10 + p01) * 4294967296 + p00 := by
    rw [h00, h01, h10, h11, Nat.add_mul, Nat.mul_add, Nat.mul_add]
    have e1 : x1 * 4294967296 * (y1 * 4294967296) = x1 * y1 * 18446744073709551616 := by
      rw [Nat.mul_mul_mul_comm]
    have e2 : x1 * 4294967296 * y0 = x1 * y0 * 4294967296 := by rw [Nat.mul_right_comm]
    have e3 : x0 * (y1 * 4294967296) = x0 * y1 * 4294967296 := by rw [Nat.mul_assoc]
    rw [e1, e2, e3]
    omega
  unfold bits_Mul64.f
  have ax := hi_part x1 x0 hx0
  have ay := hi_part y1 y0 hy0
  have mx_ := mask (x1 * 4294967296 + x0) ha
  have my_ := mask (y1 * 4294967296 + y0) hb
  rw [show (x1 * 4294967296 + x0) % 4294967296 = x0 by omega] at mx_
  rw [show (y1 * 4294967296 + y0) % 4294967296 = y0 by omega] at my_
  rw [ax, ay, mx_, my_]
  have c00 : (x0 : Int) * (y0 : Int) = (p00 : Int) := by rw [h00]; simp
  have c01 : (x0 : Int) * (y1 : Int) = (p01 : Int) := by rw [h01]; simp
  have c10 : (x1 : Int) * (y0 : Int) = (p10 : Int) := by rw [h10]; simp
  have c11 : (x1 : Int) * (y1 : Int) = (p11 : Int) := by rw [h11]; simp
  rw [c00, c01, c10, c11]
  have call : (((x1 * 4294967296 + x0 : Nat) : Int) * ((y1 * 4294967296 + y0 : Nat) : Int)) = ((p11 * 18446744073709551616 + (p10 + p01) * 4294967296 + p00 : Nat) : Int) := by rw [← prod]; simp
  rw [call, prod]
  rw [u64w_id (x := (p00 : Int)) (by omega) (by omega), u64w_id (x := (p10 : Int)) (by omega) (by omega), u64w_id (x := (p01 : Int)) (by omega) (by omega), u64w_id (x := (p11 : Int)) (by omega) (by omega)]
  have et : IntKind.u64.wrap ((p10 : Int) + (p00 : Int) / 4294967296) = ((p10 + p00 / 4294967296 : Nat) : Int) := by rw [u64w_id (by omega) (by omega)]; omega
  rw [et, mask (p10 + p00 / 4294967296) (by omega)]
  have hpow : (2 : Nat) ^ 64 = 18446744073709551616 := by decide
  rw [hpow]
  obtain ⟨t, ht⟩ : ∃ t, t = p10 + p00 / 4294967296 := ⟨_, rfl⟩
  rw [← ht]
  have e1 : IntKind.u64.wrap ((p11 : Int) + (t : Int) / 4294967296) = ((p11 + t / 4294967296 : Nat) : Int) := by rw [u64w_id (by omega) (by omega)]; omega
  have e2 : IntKind.u64.wrap (((t % 4294967296 : Nat) : Int) + (p01 : Int)) = ((t % 4294967296 + p01 : Nat) : Int) := by rw [u64w_id (by omega) (by omega)]; omega
  rw [e1, e2, u64w_id (by omega) (by omega), u64w]
  refine congrArg some (Prod.ext ?_ ?_) <;> simp only <;> omega
/-- A number out of digits to the base 65536, the lowest first. -/
def valN : List Nat → Nat
  | [] => 0
  | d :: ds => d + 65536 * valN ds
def digs (a : Nat) : Nat → List Nat
  | 0 => []
  | d + 1 => a % 65536 :: digs (a / 65536) d
def Dig (s : List Nat) : Prop := ∀ x ∈ s, x < 65536
theorem digs_len (a : Nat) : ∀ d, (digs a d).length = d
  | 0 => rfl
  | d + 1 => by rw [digs, List.length_cons, digs_len]
theorem digs_dig : ∀ (d a : Nat), Dig (digs a d)
  | 0, _ => by intro x hx; cases hx
  | d + 1, a => by
    intro x hx
    rcases List.mem_cons.1 hx with rfl | hx
    · omega
    · exact digs_dig d _ x hx
theorem digs_val : ∀ (d a : Nat), a < 65536 ^ d → valN (digs a d) = a
  | 0, a, h => by simp at h; simp [digs, valN, h]
  | d + 1, a, h => by
    rw [digs, valN, digs_val d (a / 65536) (by rw [Nat.pow_succ] at h; exact Nat.div_lt_of_lt_mul (by rw [Nat.mul_comm]; exact h))]
    omega
theorem valN_lt : ∀ (s : List Nat), Dig s → valN s < 65536 ^ s.length
  | [], _ => by simp [valN]
  | d :: ds, h => by
    have h1 := valN_lt ds (fun x hx => h x (List.mem_cons_of_mem _ hx))
    have h2 := h d List.mem_cons_self
    rw [valN, List.length_cons, Nat.pow_succ]
    omega
def ints (s : List Nat) : List Int := s.map fun x : Nat => (x : Int)
theorem ints_len (s : List Nat) : (ints s).length = s.length := List.length_map ..
theorem rd_ints {s : List Nat} {n : Nat} (h : n < s.length) : rd (ints s) (n : Int) = (s[n] : Int) := by
  rw [rd_nat (by rw [ints_len]; exact h)]; simp [ints]
theorem ints_set (s : List Nat) (n d : Nat) : (ints s).set n (d : Int) = ints (s.set n d) := by unfold ints; rw [List.map_set]
theorem spec_l3Digits_l0 : ∀ (d a : Nat) (s : List Nat) (i : Int), i + d = 4 → 0 ≤ i → s.length + d ≤ 4 → a < 2 ^ 64 → Ev (fun k => spec_l3Digits.l0 k (a : Int) (ints s) i) (ints (s ++ digs a d)) := by
  intro d
  induction d with
  | zero =>
    intro a s i h h0 hs ha
    refine Ev.step (fun _ => spec_l3Digits.l0.eq_2 ..) ?_
    exact ev_neg (by omega) (ev_ret (by simp [digs]))
  | succ d ih =>
    intro a s i h h0 hs ha
    refine Ev.step (fun _ => spec_l3Digits.l0.eq_2 ..) ?_
    refine ev_pos (by omega) (ev_pos (by rw [ints_len]; omega) ?_)
    have ha2 : a < 18446744073709551616 := ha
    have e1 : IntKind.u64.wrap (Int.tdiv (a : Int) 65536) = ((a / 65536 : Nat) : Int) := by rw [show (65536 : Int) = ((65536 : Nat) : Int) from rfl, tdiv_nat, u64w_id (by omega) (by omega)]
    have e2 : Int.tmod (a : Int) 65536 = ((a % 65536 : Nat) : Int) := by rw [show (65536 : Int) = ((65536 : Nat) : Int) from rfl, tmod_nat]
    have e3 : ints s ++ [((a % 65536 : Nat) : Int)] = ints (s ++ [a % 65536]) := by simp [ints]
    rw [e1, e2, e3, w64_id (x := i + 1) (by omega) (by omega)]
    refine ev_eq ?_ (ih (a / 65536) (s ++ [a % 65536]) (i + 1) (by omega) (by omega) (by rw [List.length_append, List.length_singleton]; omega) (by omega))
    rw [List.append_assoc]; rfl
theorem spec_l3Digits_ev {a : Nat} (ha : a < 2 ^ 64) : Ev (fun k => spec_l3Digits.f k (a : Int)) (ints (digs a 4)) := by
  unfold spec_l3Digits.f
  exact spec_l3Digits_l0 4 a [] 0 (by omega) (by omega) (by simp) ha
theorem valN_set : ∀ (s : List Nat) (j d : Nat) (h : j < s.length), valN (s.set j d) + s[j] * 65536 ^ j = valN s + d * 65536 ^ j
  | x :: xs, 0, d, h => by simp [valN]; omega
  | x :: xs, j + 1, d, h => by
    have ih := valN_set xs j d (by simpa using h)
    simp only [List.set_cons_succ, valN, List.getElem_cons_succ, Nat.pow_succ]
    have e1 : xs[j]'(by simpa using h) * (65536 ^ j * 65536) = 65536 * (xs[j]'(by simpa using h) * 65536 ^ j) := by rw [← Nat.mul_assoc, Nat.mul_comm]
    have e2 : d * (65536 ^ j * 65536) = 65536 * (d * 65536 ^ j) := by rw [← Nat.mul_assoc, Nat.mul_comm]
    rw [e1, e2]
    omega
theorem valN_drop (s : List Nat) {j : Nat} (h : j < s.length) : valN (s.drop j) = s[j] + 65536 * valN (s.drop (j + 1)) := by
  rw [List.drop_eq_getElem_cons h, valN]
theorem valN_take : ∀ (s : List Nat) {j : Nat} (h : j < s.length), valN (s.take (j + 1)) = valN (s.take j) + s[j] * 65536 ^ j
  | x :: xs, 0, h => by simp [valN]
  | x :: xs, j + 1, h => by
    have ih := valN_take xs (j := j) (by simpa using h)
    rw [List.take_succ_cons, List.take_succ_cons, valN, valN, ih, List.getElem_cons_succ, Nat.pow_succ, Nat.mul_add]
    have e1 : xs[j]'(by simpa using h) * (65536 ^ j * 65536) = 65536 * (xs[j]'(by simpa using h) * 65536 ^ j) := by rw [← Nat.mul_assoc, Nat.mul_comm]
    rw [e1]
    omega
theorem Dig.set {s : List Nat} (h : Dig s) (j : Nat) {d : Nat} (hd : d < 65536) : Dig (s.set j d) := by
  intro x hx
  rcases List.mem_or_eq_of_mem_set hx with hx | rfl
  · exact h x hx
  · exact hd
/-- The carry of one digit's place. -/
theorem carry_law {P B sj m c t vs vs' : Nat} (ht : t = sj + m + c) (hv : vs' + sj * P = vs + t % B * P) : vs' + t / B * (P * B) = vs + c * P + m * P := by
  have h1 : t % B * P + t / B * (P * B) = t * P := by
    rw [Nat.mul_comm P B, ← Nat.mul_assoc, ← Nat.add_mul, Nat.mul_comm (t / B) B, Nat.mod_add_div]
  have h2 : t * P = sj * P + m * P + c * P := by rw [ht, Nat.add_mul, Nat.add_mul]
  omega
theorem step_sum {V P X Y m a c : Nat} (hm : m = X * Y) : a + c * P + m * P + X * (V * (P * 65536)) = a + c * P + X * ((Y + 65536 * V) * P) := by
  rw [Nat.add_mul, Nat.mul_add, ← Nat.mul_assoc X Y P, ← hm, Nat.mul_comm P 65536, ← Nat.mul_assoc V 65536 P, Nat.mul_comm V 65536, ← Nat.add_assoc]
theorem spec_Wide_l1 (x y : List Nat) (hx : x.length = 4) (hy : y.length = 4) (dx : Dig x) (dy : Dig y) (i : Nat) (hi : i < 4) (R : Int × Int) : ∀ (d k c : Nat) (s : List Nat), k + d = 4 → s.length = 8 → Dig s → c < 65536 →
    ∃ (c' : Nat) (s' : List Nat), c' < 65536 ∧ s'.length = 8 ∧ Dig s' ∧ valN s' + c' * 65536 ^ (i + 4) = valN s + c * 65536 ^ (i + k) + x[i] * (valN (y.drop k) * 65536 ^ (i + k)) ∧ (∀ j, i + 4 ≤ j → s'[j]? = s[j]?) ∧
      (Ev (fun n => spec_Wide.l0 n (ints x) (ints y) (ints (s'.set (i + 4) c')) ((i + 1 : Nat) : Int)) R → Ev (fun n => spec_Wide.l1 n (ints x) (ints y) (ints s) (i : Int) (c : Int) (k : Int)) R) := by
  intro d
  induction d with
  | zero =>
    intro k c s h hs ds hc
    obtain rfl : k = 4 := by omega
    refine ⟨c, s, hc, hs, ds, ?_, fun _ _ => rfl, fun H => ?_⟩
    · rw [List.drop_eq_nil_of_le (by omega)]; simp [valN]
    · refine Ev.step (fun _ => spec_Wide.l1.eq_2 ..) ?_
      have e1 : wrap64 ((i : Int) + 4) = ((i + 4 : Nat) : Int) := by rw [w64_id (by omega) (by omega)]; omega
      have e2 : wrap64 ((i : Int) + 1) = ((i + 1 : Nat) : Int) := by rw [w64_id (by omega) (by omega)]; omega
      refine ev_neg (by omega) ?_
      rw [e1, e2, ints_len, Int.toNat_natCast, ints_set]
      exact ev_pos (by omega) (ev_pos (by omega) H)
  | succ d ih =>
    intro k c s h hs ds hc
    have hik : i + k < s.length := by omega
    have hi4 : i < x.length := by omega
    have hk4 : k < y.length := by omega
    have hi8 : i + k < 8 := by omega
    have hk3 : k < 4 := by omega
    have hk5 : k + 1 + d = 4 := by omega
    have hxi := dx x[i] (List.getElem_mem hi4)
    have hyk := dy (y[k]'hk4) (List.getElem_mem _)
    have hsj := ds (s[i + k]'hik) (List.getElem_mem _)
    generalize hX : x[i] = X at *
    generalize hY : y[k]'hk4 = Y at *
    generalize hS : s[i + k]'hik = S at *
    obtain ⟨m, hm⟩ : ∃ m, m = X * Y := ⟨_, rfl⟩
    have hmb : m ≤ 65535 * 65535 := by rw [hm]; exact Nat.mul_le_mul (by omega) (by omega)
    obtain ⟨t, ht⟩ : ∃ t, t = S + m + c := ⟨_, rfl⟩
    have htb : t < 4294967296 := by clear hm; omega
    obtain ⟨c', s', hc', hs', ds', hval, hsame, hgo⟩ := ih (k + 1) (t / 65536) (s.set (i + k) (t % 65536)) hk5 (by rw [List.length_set]; exact hs) (ds.set _ (Nat.mod_lt _ (by decide))) (by clear hm; omega)
    refine ⟨c', s', hc', hs', ds', ?_, ?_, fun H => ?_⟩
    · have hv := valN_set s (i + k) (t % 65536) hik
      rw [hS] at hv
      have hcl := carry_law ht hv
      rw [hval, valN_drop y hk4, hY, show i + (k + 1) = i + k + 1 from rfl, Nat.pow_succ, hcl]
      exact step_sum hm
    · intro j hj
      rw [hsame j hj, List.getElem?_set_ne (by clear hval hm hmb ht htb; omega)]
    · clear hval hsame ih
      refine Ev.step (fun _ => spec_Wide.l1.eq_2 ..) ?_
      have e1 : wrap64 ((i : Int) + (k : Int)) = ((i + k : Nat) : Int) := by clear hm ht; rw [w64_id (by omega) (by omega)]; omega
      have e2 : wrap64 ((k : Int) + 1) = ((k + 1 : Nat) : Int) := by clear hm ht; rw [w64_id (by omega) (by omega)]; omega
      have e3 : (X : Int) * (Y : Int) = (m : Int) := by rw [hm]; simp
      have e4 : IntKind.u64.wrap (IntKind.u64.wrap ((S : Int) + IntKind.u64.wrap (m : Int)) + (c : Int)) = (t : Int) := by
        clear hm e3
        rw [u64w_id (x := (m : Int)) (by omega) (by omega), u64w_id (x := (S : Int) + (m : Int)) (by omega) (by omega), u64w_id (by omega) (by omega)]; omega
      have e5 : IntKind.u64.wrap (Int.tdiv (t : Int) 65536) = ((t / 65536 : Nat) : Int) := by
        clear hm e3 e4
        rw [show (65536 : Int) = ((65536 : Nat) : Int) from rfl, tdiv_nat, u64w_id (by omega) (by omega)]
      have e6 : Int.tmod (t : Int) 65536 = ((t % 65536 : Nat) : Int) := by rw [show (65536 : Int) = ((65536 : Nat) : Int) from rfl, tmod_nat]
      rw [e1, e2, ints_len, ints_len, ints_len, rd_ints hik, rd_ints hi4, rd_ints hk4, hX, hY, hS, e3, e4, e5, e6, Int.toNat_natCast, ints_set]
      clear hm ht e1 e2 e3 e4 e5 e6
      exact ev_pos (by omega) (ev_pos (by omega) (ev_pos (by omega) (ev_pos (by omega) (ev_pos (by omega) (ev_pos (by omega) (ev_pos (by omega) (hgo H)))))))
theorem spec_Wide_l3 (s : List Nat) (hs : s.length = 8) (ds : Dig s) (hi : Int) : ∀ (d acc : Nat) (i : Int), i = (d : Int) - 1 → d ≤ 4 → acc = valN ((s.take 4).drop d) → Ev (fun n => spec_Wide.l3 n (ints s) hi (acc : Int) i) (hi, (valN (s.take 4) : Int)) := by
  intro d
  induction d with
  | zero =>
    intro acc i h hd ha
    refine Ev.step (fun _ => spec_Wide.l3.eq_2 ..) ?_
    refine ev_neg (by omega) (ev_ret ?_)
    rw [ha]; rfl
  | succ d ih =>
    intro acc i h hd ha
    obtain rfl : i = (d : Int) := by omega
    refine Ev.step (fun _ => spec_Wide.l3.eq_2 ..) ?_
    rw [ints_len, rd_ints (by omega : d < s.length)]
    refine ev_pos (by omega) (ev_pos (by omega) (ev_pos (by omega) ?_))
    have hl : (s.take 4).length = 4 := by rw [List.length_take]; omega
    have e0 : valN ((s.take 4).drop d) = s[d] + 65536 * acc := by
      rw [valN_drop (s.take 4) (by omega : d < (s.take 4).length), ha, List.getElem_take]
    have hlt := valN_lt ((s.take 4).drop d) (fun x hx => ds x (List.mem_of_mem_take (List.mem_of_mem_drop hx)))
    have hp : 65536 ^ ((s.take 4).drop d).length ≤ 65536 ^ 4 := Nat.pow_le_pow_right (by decide) (by rw [List.length_drop, hl]; omega)
    have hlt2 : s[d] + 65536 * acc < 18446744073709551616 := by rw [← e0]; exact Nat.lt_of_lt_of_le hlt hp
    have e1 : IntKind.u64.wrap (IntKind.u64.wrap ((acc : Int) * 65536) + ((s[d] : Nat) : Int)) = ((s[d] + 65536 * acc : Nat) : Int) := by
      rw [u64w_id (x := (acc : Int) * 65536) (by omega) (by omega), u64w_id (by omega) (by omega)]; omega
    rw [e1, w64_id (x := (d : Int) - 1) (by omega) (by omega)]
    exact ih _ _ rfl (by omega) e0.symm
theorem spec_Wide_l2 (s : List Nat) (hs : s.length = 8) (ds : Dig s) : ∀ (d acc : Nat) (i : Int), i = (d : Int) + 3 → d ≤ 4 → acc = valN (s.drop (d + 4)) → Ev (fun n => spec_Wide.l2 n (ints s) (acc : Int) 0 i) ((valN (s.drop 4) : Int), (valN (s.take 4) : Int)) := by
  intro d
  induction d with
  | zero =>
    intro acc i h hd ha
    refine Ev.step (fun _ => spec_Wide.l2.eq_2 ..) ?_
    refine ev_neg (by omega) ?_
    rw [ha]
    refine spec_Wide_l3 s hs ds _ 4 0 3 (by omega) (by omega) ?_
    rw [List.drop_eq_nil_of_le (by rw [List.length_take]; omega)]; rfl
  | succ d ih =>
    intro acc i h hd ha
    obtain rfl : i = ((d + 4 : Nat) : Int) := by omega
    refine Ev.step (fun _ => spec_Wide.l2.eq_2 ..) ?_
    rw [ints_len, rd_ints (by omega : d + 4 < s.length)]
    refine ev_pos (by omega) (ev_pos (by omega) (ev_pos (by omega) ?_))
    have e0 : valN (s.drop (d + 4)) = s[d + 4] + 65536 * acc := by
      rw [valN_drop s (by omega : d + 4 < s.length), ha, show d + 1 + 4 = d + 4 + 1 by omega]
    have hlt := valN_lt (s.drop (d + 4)) (fun x hx => ds x (List.mem_of_mem_drop hx))
    have hp : 65536 ^ (s.drop (d + 4)).length ≤ 65536 ^ 4 := Nat.pow_le_pow_right (by decide) (by rw [List.length_drop]; omega)
    have hlt2 : s[d + 4] + 65536 * acc < 18446744073709551616 := by rw [← e0]; exact Nat.lt_of_lt_of_le hlt hp
    have e1 : IntKind.u64.wrap (IntKind.u64.wrap ((acc : Int) * 65536) + ((s[d + 4] : Nat) : Int)) = ((s[d + 4] + 65536 * acc : Nat) : Int) := by
      rw [u64w_id (x := (acc : Int) * 65536) (by omega) (by omega), u64w_id (by omega) (by omega)]; omega
    rw [e1, w64_id (x := ((d + 4 : Nat) : Int) - 1) (by omega) (by omega)]
    exact ih _ _ (by omega) (by omega) e0.symm
theorem spec_Wide_l0 (x y : List Nat) (hx : x.length = 4) (hy : y.length = 4) (dx : Dig x) (dy : Dig y) : ∀ (d i : Nat) (s : List Nat), i + d = 4 → s.length = 8 → Dig s → valN s = valN (x.take i) * valN y → (∀ j, i + 4 ≤ j → j < 8 → s[j]? = some 0) →
    Ev (fun n => spec_Wide.l0 n (ints x) (ints y) (ints s) (i : Int)) (((valN x * valN y / 2 ^ 64 : Nat) : Int), ((valN x * valN y % 2 ^ 64 : Nat) : Int)) := by
  intro d
  induction d with
  | zero =>
    intro i s h hs ds hv hz
    obtain rfl : i = 4 := by omega
    refine Ev.step (fun _ => spec_Wide.l0.eq_2 ..) ?_
    refine ev_neg (by omega) ?_
    refine ev_eq ?_ (spec_Wide_l2 s hs ds 4 0 7 (by omega) (by omega) (by rw [List.drop_eq_nil_of_le (by omega)]; rfl))
    rw [List.take_of_length_le (by omega)] at hv
    have split : valN s = valN (s.take 4) + 18446744073709551616 * valN (s.drop 4) := by
      match s, hs with
      | [a0, a1, a2, a3, a4, a5, a6, a7], _ => simp [valN]; omega
    have hlt := valN_lt (s.take 4) (fun z hz' => ds z (List.mem_of_mem_take hz'))
    rw [List.length_take, hs] at hlt
    have hlt2 : valN (s.take 4) < 18446744073709551616 := hlt
    rw [← hv, split, show (2 : Nat) ^ 64 = 18446744073709551616 by decide]
    refine Prod.ext ?_ ?_ <;> simp only <;> omega
  | succ d ih =>
    intro i s h hs ds hv hz
    obtain ⟨c', s', hc', hs', ds', hval, hsame, hgo⟩ := spec_Wide_l1 x y hx hy dx dy i (by omega) (((valN x * valN y / 2 ^ 64 : Nat) : Int), ((valN x * valN y % 2 ^ 64 : Nat) : Int)) 4 0 0 s (by omega) hs ds (by omega)
    refine Ev.step (fun _ => spec_Wide.l0.eq_2 ..) ?_
    refine ev_pos (by omega) ?_
    refine hgo (ih (i + 1) _ (by omega) (by rw [List.length_set]; exact hs') (ds'.set _ hc') ?_ ?_)
    · have h1 := valN_set s' (i + 4) c' (by omega)
      have h2 : s'[i + 4]'(by omega) = 0 := by
        have := (hsame (i + 4) (Nat.le_refl _)).trans (hz (i + 4) (Nat.le_refl _) (by omega))
        rw [List.getElem?_eq_getElem (by omega)] at this
        simpa using this
      rw [h2, Nat.zero_mul, Nat.add_zero] at h1
      rw [h1, hval, hv, valN_take x (by omega : i < x.length), Nat.zero_mul, Nat.add_zero, Nat.add_zero, List.drop_zero, Nat.add_mul, Nat.mul_comm (valN y), ← Nat.mul_assoc]
    · intro j hj hj8
      rw [List.getElem?_set_ne (by omega), hsame j (by omega)]
      exact hz j (by omega) hj8
theorem spec_Wide_ev {a b : Nat} (ha : a < 2 ^ 64) (hb : b < 2 ^ 64) : Ev (fun n => spec_Wide.f n (a : Int) (b : Int)) (((a * b / 2 ^ 64 : Nat) : Int), ((a * b % 2 ^ 64 : Nat) : Int)) := by
  unfold spec_Wide.f
  refine Ev.bind (spec_l3Digits_ev ha) (Ev.bind (spec_l3Digits_ev hb) (ev_pos (by decide) ?_))
  have := spec_Wide_l0 (digs a 4) (digs b 4) (digs_len _ _) (digs_len _ _) (digs_dig _ _) (digs_dig _ _) 4 0 (List.replicate 8 0) (by omega) (by simp) (by intro x hx; rw [List.eq_of_mem_replicate hx]; decide) (by simp [valN, List.replicate]) (by intro j hj hj8; rw [List.getElem?_replicate, if_pos hj8])
  rw [digs_val 4 a ha, digs_val 4 b hb] at this
  exact this
/-- The bits of a number moved up by n places (down, where n is below nought), b where none comes from. -/
def moveBit (x : Nat) (n : Int) (b : Bool) (j : Nat) : Bool := if 0 ≤ (j : Int) - n ∧ (j : Int) - n ≤ 63 then x.testBit ((j : Int) - n).toNat else b
def moveN (x : Nat) (n : Int) (b : Bool) : Nat := hor (moveBit x n b) 64
theorem moveN_lt (x : Nat) (n : Int) (b : Bool) : moveN x n b < 2 ^ 64 := hor_lt _ _
theorem spec_l3Move_l0 (x : Nat) (hx : x < 2 ^ 64) (n : Int) (hn : -64 < n ∧ n < 64) (b : Bool) : ∀ (m acc : Nat) (i : Int), i = (m : Int) - 1 → m ≤ 64 → acc < 2 ^ (64 - m) → Ev (fun k => spec_l3Move.l0 k (x : Int) n (b.toNat : Int) (acc : Int) i) ((acc * 2 ^ m + hor (moveBit x n b) m : Nat) : Int) := by
  intro m
  induction m with
  | zero =>
    intro acc i hi hm ha
    exact Ev.step (fun _ => spec_l3Move.l0.eq_2 ..) (ev_neg (by omega) (ev_ret (by simp [hor])))
  | succ m ih =>
    intro acc i hi hm ha
    obtain rfl : i = (m : Int) := by omega
    refine Ev.step (fun _ => spec_l3Move.l0.eq_2 ..) (ev_pos (by omega) ?_)
    rw [w64_id (x := (m : Int) - n) (by omega) (by omega), w64_id (x := (m : Int) - 1) (by omega) (by omega)]
    have hr := hor_room (bool_le (moveBit x n b m)) (by omega) ha
    have fin : ∀ t : Nat, t = (moveBit x n b m).toNat → Ev (fun k => spec_l3Move.l0 k (x : Int) n (b.toNat : Int) (IntKind.u64.wrap (IntKind.u64.wrap ((acc : Int) * 2) + (t : Int))) ((m : Int) - 1)) ((acc * 2 ^ (m + 1) + hor (moveBit x n b) (m + 1) : Nat) : Int) := by
      intro t ht
      subst ht
      rw [u64_hor (hor_top hr)]
      exact ev_eq (by rw [hor_step]) (ih _ _ rfl (by omega) hr)
    by_cases h1 : 0 ≤ (m : Int) - n
    · refine ev_pos h1 ?_
      by_cases h2 : (m : Int) - n ≤ 63
      · refine ev_pos h2 ?_
        have e : (m : Int) - n = ((((m : Int) - n).toNat : Nat) : Int) := by omega
        have hb := spec_l1Bit_ev hx (i := ((m : Int) - n).toNat) (by omega)
        rw [← e] at hb
        refine Ev.bind hb (fin _ ?_)
        unfold moveBit
        rw [if_pos ⟨h1, h2⟩]
      · exact ev_neg h2 (fin _ (by unfold moveBit; rw [if_neg (fun h => h2 h.2)]))
    · exact ev_neg h1 (fin _ (by unfold moveBit; rw [if_neg (fun h => h1 h.1)]))
theorem spec_l3Move_ev {x : Nat} (hx : x < 2 ^ 64) {n : Int} (hn : -64 < n ∧ n < 64) (b : Bool) : Ev (fun k => spec_l3Move.f k (x : Int) n (b.toNat : Int)) (moveN x n b : Int) := by
  unfold spec_l3Move.f
  refine ev_eq ?_ (spec_l3Move_l0 x hx n hn b 64 0 63 (by omega) (by omega) (by simp))
  simp [moveN]
theorem spec_l3Move_ev0 {x : Nat} (hx : x < 2 ^ 64) {n : Int} (hn : -64 < n ∧ n < 64) : Ev (fun k => spec_l3Move.f k (x : Int) n 0) (moveN x n false : Int) := spec_l3Move_ev hx hn false
theorem move_up {x : Nat} {n : Nat} (hn : n < 64) : moveN x (n : Int) false = (x <<< n) % 2 ^ 64 := by
  apply Nat.eq_of_testBit_eq
  intro j
  unfold moveN
  rw [hor_testBit, Nat.testBit_mod_two_pow, Nat.testBit_shiftLeft]
  by_cases hj : j < 64
  · unfold moveBit
    by_cases h : n ≤ j
    · rw [if_pos (by omega)]
      have e : ((j : Int) - (n : Int)).toNat = j - n := by omega
      rw [e]; simp [hj, h]
    · rw [if_neg (by omega)]; simp [hj, h]
  · simp [hj]
theorem move_down {x : Nat} (hx : x < 2 ^ 64) {n : Nat} (hn : n < 64) : moveN x (-(n : Int)) false = x >>> n := by
  apply Nat.eq_of_testBit_eq
  intro j
  unfold moveN
  rw [hor_testBit, Nat.testBit_shiftRight]
  have big : ∀ i, 64 ≤ i → x.testBit i = false := fun i hi => Nat.testBit_lt_two_pow (Nat.lt_of_lt_of_le hx (Nat.pow_le_pow_right (by decide) hi))
  by_cases hj : j < 64
  · unfold moveBit
    by_cases h : j + n ≤ 63
    · rw [if_pos (by omega)]
      have e : ((j : Int) - (-(n : Int))).toNat = n + j := by omega
      rw [e]; simp [hj]
    · rw [if_neg (by omega), big _ (by omega)]; simp
  · rw [big _ (by omega)]; simp [hj]
theorem move_sign {x : Nat} (hx : x < 2 ^ 64) {n : Nat} (hn : n < 64) : moveN x (-(n : Int)) (x.testBit 63) = ext (x >>> n) (64 - n) := by
  unfold moveN ext
  apply Nat.eq_of_testBit_eq
  intro j
  rw [hor_testBit, hor_testBit]
  by_cases hj : j < 64
  · unfold moveBit extBit
    rw [Nat.testBit_shiftRight, Nat.testBit_shiftRight]
    by_cases h : j < 64 - n
    · rw [if_pos (by omega), if_pos h]
      have e : ((j : Int) - (-(n : Int))).toNat = n + j := by omega
      rw [e]
    · rw [if_neg (by omega), if_neg h]
      have e : n + (64 - n - 1) = 63 := by omega
      rw [e]
  · simp [hj]
/-- The highest bit of a word that is told with a sign. -/
theorem bit63 {x : Nat} (hx : x < 2 ^ 64) : (x.testBit 63 = true ↔ 9223372036854775808 ≤ x) := by
  have h := bit_div x 63
  have hx' : x < 18446744073709551616 := hx
  rw [show (2 : Nat) ^ 63 = 9223372036854775808 from rfl] at h
  cases hb : x.testBit 63
  · rw [hb] at h; simp only [Bool.toNat_false] at h; constructor
    · intro h2; cases h2
    · intro h2; omega
  · rw [hb] at h; simp only [Bool.toNat_true] at h; constructor
    · intro _; omega
    · intro _; rfl
theorem bit31 (x : Nat) : (x.testBit 31 = true ↔ 2147483648 ≤ x % 4294967296) := by
  have h := bit_div x 31
  rw [show (2 : Nat) ^ 31 = 2147483648 from rfl] at h
  cases hb : x.testBit 31
  · rw [hb] at h; simp only [Bool.toNat_false] at h; constructor
    · intro h2; cases h2
    · intro h2; omega
  · rw [hb] at h; simp only [Bool.toNat_true] at h; constructor
    · intro _; omega
    · intro _; rfl
/-- Moved down with its sign: the program's own shift. -/
theorem sar {x : Nat} (hx : x < 2 ^ 64) {n : Nat} (hn : n < 64) : (moveN x (-(n : Int)) (x.testBit 63) : Int) = IntKind.u64.wrap (wrap64 (x : Int) / 2 ^ n) := by
  rw [move_sign hx hn, ext_sum _ _ (by omega) (by omega), Nat.testBit_shiftRight, show n + (64 - n - 1) = 63 by omega, u64w]
  have hx' : x < 18446744073709551616 := hx
  have hp : 0 < 2 ^ n := Nat.two_pow_pos n
  have hpq : 2 ^ (64 - n) * 2 ^ n = 18446744073709551616 := by rw [← Nat.pow_add, show 64 - n + n = 64 by omega]
  have hq : 0 < 2 ^ (64 - n) := Nat.two_pow_pos _
  have hlt : x >>> n < 2 ^ (64 - n) := by
    rw [Nat.shiftRight_eq_div_pow]
    exact (Nat.div_lt_iff_lt_mul hp).2 (by rw [hpq]; exact hx)
  rw [Nat.mod_eq_of_lt hlt, Nat.shiftRight_eq_div_pow]
  rw [Nat.shiftRight_eq_div_pow] at hlt
  have e2 : ((2 : Int) ^ n) = ((2 ^ n : Nat) : Int) := by simp
  rw [e2]
  have hle : 2 ^ (64 - n) ≤ 18446744073709551616 := by rw [← hpq]; exact Nat.le_mul_of_pos_right _ hp
  by_cases hs : x.testBit 63 = true
  · have h3 := (bit63 hx).1 hs
    rw [if_pos hs]
    have ew : wrap64 (x : Int) = (x : Int) - ((2 ^ (64 - n) * 2 ^ n : Nat) : Int) := by rw [hpq]; unfold wrap64; omega
    rw [ew]
    have ed : ((x : Int) - ((2 ^ (64 - n) * 2 ^ n : Nat) : Int)) / ((2 ^ n : Nat) : Int) = ((x / 2 ^ n : Nat) : Int) - ((2 ^ (64 - n) : Nat) : Int) := by
      rw [Int.natCast_mul, Int.sub_eq_add_neg, ← Int.neg_mul, Int.add_mul_ediv_right _ _ (by omega), Int.natCast_ediv, Int.sub_eq_add_neg]
    rw [ed, show (2 : Nat) ^ 64 = 18446744073709551616 from rfl]
    generalize x / 2 ^ n = q at *
    generalize 2 ^ (64 - n) = p at *
    omega
  · have h3 : ¬ 9223372036854775808 ≤ x := fun h => hs ((bit63 hx).2 h)
    rw [if_neg hs]
    have ew : wrap64 (x : Int) = (x : Int) := by unfold wrap64; omega
    rw [ew, ← Int.natCast_ediv]
    generalize x / 2 ^ n = q at *
    generalize 2 ^ (64 - n) = p at *
    omega
theorem wrap32_mod (z : Int) : wrap32 (z % 4294967296) = wrap32 z := by unfold wrap32; omega
theorem wrap32_congr {a b : Int} (h : a % 4294967296 = b % 4294967296) : wrap32 a = wrap32 b := by rw [← wrap32_mod a, h, wrap32_mod]
theorem wrap32_self (z : Int) : wrap32 z % 4294967296 = z % 4294967296 := by unfold wrap32; omega
theorem w64_32 (z : Int) : wrap64 (wrap32 z) = wrap32 z := by unfold wrap64 wrap32; omega
/-- The lower half, told with its sign. -/
theorem sx32 (t : Nat) : (ext t 32 : Int) = IntKind.u64.wrap (wrap64 (wrap32 (t : Int))) := by
  rw [ext_sum _ _ (by omega) (by omega), w64_32, u64w, show (2 : Nat) ^ 64 = 18446744073709551616 from rfl, show (2 : Nat) ^ 32 = 4294967296 from rfl]
  have h := bit31 t
  unfold wrap32
  by_cases hs : t.testBit 31 = true
  · have := h.1 hs
    rw [if_pos hs]; omega
  · have h3 : ¬ 2147483648 ≤ t % 4294967296 := fun h2 => hs (h.2 h2)
    rw [if_neg hs]; omega
theorem sx32_int {t : Nat} {z : Int} (h : (t : Int) % 4294967296 = z % 4294967296) : (ext t 32 : Int) = IntKind.u64.wrap (wrap64 (wrap32 z)) := by
  rw [sx32, wrap32_congr h]
/-- What the lower half says, with its sign. -/
theorem sext_val (t : Nat) : wrap64 (ext t 32 : Int) = wrap32 (t : Int) := by
  rw [sx32, w64_32, u64w]; unfold wrap64 wrap32; omega
theorem ext32_ev {t : Nat} (ht : t < 2 ^ 64) : Ev (fun k => spec_Extend.f k (t : Int) 32) (ext t 32 : Int) := by
  have := spec_Extend_ev ht 32
  unfold extV at this
  rw [if_pos (by omega)] at this
  exact this
theorem ext32_int {t : Int} (h0 : 0 ≤ t) (h1 : t < 18446744073709551616) : Ev (fun k => spec_Extend.f k t 32) (IntKind.u64.wrap (wrap64 (wrap32 t))) := by
  obtain ⟨n, rfl⟩ := Int.eq_ofNat_of_zero_le h0
  rw [← sx32]
  exact ext32_ev (show n < 18446744073709551616 by omega)
theorem ext32_wrap {t z : Int} (h : t = z % 18446744073709551616) : Ev (fun k => spec_Extend.f k t 32) (IntKind.u64.wrap (wrap64 (wrap32 z))) := by
  have e : wrap32 z = wrap32 t := wrap32_congr (by omega)
  rw [e]
  exact ext32_int (by omega) (by omega)
/-- A bit of two numbers' bits, as a row of four tells it. -/
def bothBit (x y : Nat) (tb : List Int) (j : Nat) : Bool := (tb.getD (2 * (x.testBit j).toNat + (y.testBit j).toNat) 0) == 1
theorem spec_l3Both_l0 (x y : Nat) (hx : x < 2 ^ 64) (hy : y < 2 ^ 64) (tb : List Int) (ht : tb.length = 4) (h01 : ∀ i, i < 4 → tb.getD i 0 = 0 ∨ tb.getD i 0 = 1) : ∀ (m acc : Nat) (i : Int), i = (m : Int) - 1 → m ≤ 64 → acc < 2 ^ (64 - m) → Ev (fun k => spec_l3Both.l0 k (x : Int) (y : Int) tb (acc : Int) i) ((acc * 2 ^ m + hor (bothBit x y tb) m : Nat) : Int) := by
  intro m
  induction m with
  | zero =>
    intro acc i hi hm ha
    exact Ev.step (fun _ => spec_l3Both.l0.eq_2 ..) (ev_neg (by omega) (ev_ret (by simp [hor])))
  | succ m ih =>
    intro acc i hi hm ha
    obtain rfl : i = (m : Int) := by omega
    refine Ev.step (fun _ => spec_l3Both.l0.eq_2 ..) (ev_pos (by omega) (Ev.bind (spec_l1Bit_ev hx (by omega)) (Ev.bind (spec_l1Bit_ev hy (by omega)) ?_)))
    have b1 := bool_le (x.testBit m)
    have b2 := bool_le (y.testBit m)
    have e : IntKind.u64.wrap (IntKind.u64.wrap (((x.testBit m).toNat : Int) * 2) + ((y.testBit m).toNat : Int)) = ((2 * (x.testBit m).toNat + (y.testBit m).toNat : Nat) : Int) := by
      rw [u64w_id (x := ((x.testBit m).toNat : Int) * 2) (by omega) (by omega), u64w_id (by omega) (by omega)]; omega
    rw [e]
    refine ev_pos (by omega) (ev_pos (by omega) ?_)
    have er : rd tb ((2 * (x.testBit m).toNat + (y.testBit m).toNat : Nat) : Int) = ((bothBit x y tb m).toNat : Int) := by
      have h := h01 (2 * (x.testBit m).toNat + (y.testBit m).toNat) (by omega)
      unfold rd bothBit
      rw [Int.toNat_natCast]
      rcases h with h | h <;> rw [h] <;> rfl
    have hr := hor_room (bool_le (bothBit x y tb m)) (by omega) ha
    rw [er, u64_hor (hor_top hr), w64_id (x := (m : Int) - 1) (by omega) (by omega)]
    exact ev_eq (by rw [hor_step]) (ih _ _ rfl (by omega) hr)
theorem spec_l3Both_ev {x y : Nat} (hx : x < 2 ^ 64) (hy : y < 2 ^ 64) {tb : List Int} (ht : tb.length = 4) (h01 : ∀ i, i < 4 → tb.getD i 0 = 0 ∨ tb.getD i 0 = 1) {z : Nat} (hz : z < 2 ^ 64) (hb : ∀ j, z.testBit j = bothBit x y tb j) : Ev (fun k => spec_l3Both.f k (x : Int) (y : Int) tb) (z : Int) := by
  unfold spec_l3Both.f
  refine ev_eq ?_ (spec_l3Both_l0 x y hx hy tb ht h01 64 0 63 (by omega) (by omega) (by simp))
  rw [Nat.zero_mul, Nat.zero_add]
  refine congrArg (fun n : Nat => (n : Int)) ?_
  apply Nat.eq_of_testBit_eq
  intro j
  rw [hor_testBit]
  by_cases hj : j < 64
  · simp [hj, hb]
  · rw [Nat.testBit_lt_two_pow (Nat.lt_of_lt_of_le hz (Nat.pow_le_pow_right (by decide) (by omega)))]; simp [hj]
theorem spec_l3Divide_l0 (x y : Nat) (hx : x < 2 ^ 64) (hy : y < 2 ^ 64) (h0 : 0 < y) : ∀ (m : Nat) (i : Int), i = (m : Int) - 1 → m ≤ 64 → Ev (fun k => spec_l3Divide.l0 k (x : Int) (y : Int) ((x / 2 ^ m / y : Nat) : Int) ((x / 2 ^ m % y : Nat) : Int) i) (((x / y : Nat) : Int), ((x % y : Nat) : Int)) := by
  intro m
  induction m with
  | zero =>
    intro i hi hm
    refine Ev.step (fun _ => spec_l3Divide.l0.eq_2 ..) (ev_neg (by omega) (ev_ret ?_))
    rw [Nat.pow_zero, Nat.div_one]
  | succ m ih =>
    intro i hi hm
    obtain rfl : i = (m : Int) := by omega
    have hx' : x < 18446744073709551616 := hx
    have hy' : y < 18446744073709551616 := hy
    have hr : x / 2 ^ (m + 1) % y < y := Nat.mod_lt _ h0
    have hr64 : x / 2 ^ (m + 1) % y < 2 ^ 64 := Nat.lt_trans hr hy
    refine Ev.step (fun _ => spec_l3Divide.l0.eq_2 ..) (ev_pos (by omega) ?_)
    have h63 := spec_l1Bit_ev hr64 (i := 63) (by omega)
    refine Ev.bind h63 (Ev.bind (spec_l1Bit_ev hx (i := m) (by omega)) ?_)
    rw [w64_id (x := (m : Int) - 1) (by omega) (by omega)]
    -- one place further
    have key : x / 2 ^ m = 2 * (x / 2 ^ (m + 1)) + (x.testBit m).toNat := by
      rw [← bit_div, Nat.pow_succ, ← Nat.div_div_eq_div_mul]; omega
    have hq2 : x / 2 ^ m ≤ x := Nat.div_le_self _ _
    have hb := bool_le (x.testBit m)
    have hd := Nat.div_add_mod (x / 2 ^ (m + 1)) y
    have IH := ih ((m : Int) - 1) rfl (by omega)
    have hbit := bit_div (x / 2 ^ (m + 1) % y) 63
    rw [show (2 : Nat) ^ 63 = 9223372036854775808 from rfl] at hbit
    generalize (x.testBit m).toNat = t at *
    generalize ((x / 2 ^ (m + 1) % y).testBit 63).toNat = c at *
    generalize x / 2 ^ (m + 1) = a at *
    generalize x / 2 ^ m = a2 at *
    subst key
    obtain ⟨q, hq⟩ : ∃ q, q = a / y := ⟨_, rfl⟩
    obtain ⟨r, hr2⟩ : ∃ r, r = a % y := ⟨_, rfl⟩
    rw [← hq, ← hr2] at hd
    rw [← hr2] at hr hr64 hbit
    rw [← hq, ← hr2]
    have hqa : q ≤ a := by rw [hq]; exact Nat.div_le_self _ _
    have split : 2 * a + t = y * (2 * q) + (2 * r + t) := by rw [← hd, Nat.mul_add, Nat.mul_left_comm]; omega
    have yes : 2 * r + t ≥ y → (2 * a + t) / y = 2 * q + 1 ∧ (2 * a + t) % y = 2 * r + t - y := by
      intro h
      have e : 2 * a + t = (2 * r + t - y) + y * (2 * q + 1) := by rw [split, Nat.mul_add, Nat.mul_one]; omega
      rw [e]
      constructor
      · rw [Nat.add_mul_div_left _ _ h0, Nat.div_eq_of_lt (by omega)]; omega
      · rw [Nat.add_mul_mod_self_left, Nat.mod_eq_of_lt (by omega)]
    have no : 2 * r + t < y → (2 * a + t) / y = 2 * q ∧ (2 * a + t) % y = 2 * r + t := by
      intro h
      have e : 2 * a + t = (2 * r + t) + y * (2 * q) := by rw [split]; omega
      rw [e]
      constructor
      · rw [Nat.add_mul_div_left _ _ h0, Nat.div_eq_of_lt h]; omega
      · rw [Nat.add_mul_mod_self_left, Nat.mod_eq_of_lt h]
    have up : 2 * r + t ≥ y → Ev (fun k => spec_l3Divide.l0 k (x : Int) (y : Int) (IntKind.u64.wrap (IntKind.u64.wrap ((q : Int) * 2) + 1)) (IntKind.u64.wrap (IntKind.u64.wrap (IntKind.u64.wrap ((r : Int) * 2) + (t : Int)) - (y : Int))) ((m : Int) - 1)) (((x / y : Nat) : Int), ((x % y : Nat) : Int)) := by
      intro h
      obtain ⟨e1, e2⟩ := yes h
      rw [e1, e2] at IH
      have f1 : IntKind.u64.wrap (IntKind.u64.wrap ((q : Int) * 2) + 1) = ((2 * q + 1 : Nat) : Int) := by
        rw [u64w_id (x := (q : Int) * 2) (by omega) (by omega), u64w_id (by omega) (by omega)]; omega
      have f2 : IntKind.u64.wrap (IntKind.u64.wrap (IntKind.u64.wrap ((r : Int) * 2) + (t : Int)) - (y : Int)) = ((2 * r + t - y : Nat) : Int) := by
        rw [u64w, u64w, u64w]; omega
      rw [f1, f2]; exact IH
    by_cases hc : c = 1
    · refine ev_pos (by omega) (up (by omega))
    · refine ev_neg (by omega) ?_
      have hr3 : r < 9223372036854775808 := by omega
      have f3 : IntKind.u64.wrap (IntKind.u64.wrap ((r : Int) * 2) + (t : Int)) = ((2 * r + t : Nat) : Int) := by
        rw [u64w_id (x := (r : Int) * 2) (by omega) (by omega), u64w_id (by omega) (by omega)]; omega
      by_cases h : 2 * r + t ≥ y
      · exact ev_pos (by rw [f3]; omega) (up h)
      · refine ev_neg (by rw [f3]; omega) ?_
        obtain ⟨e1, e2⟩ := no (by omega)
        rw [e1, e2] at IH
        have f1 : IntKind.u64.wrap ((q : Int) * 2) = ((2 * q : Nat) : Int) := by rw [u64w_id (by omega) (by omega)]; omega
        rw [f1, f3]; exact IH
theorem spec_l3Divide_ev {x y : Nat} (hx : x < 2 ^ 64) (hy : y < 2 ^ 64) (h0 : 0 < y) : Ev (fun k => spec_l3Divide.f k (x : Int) (y : Int)) (((x / y : Nat) : Int), ((x % y : Nat) : Int)) := by
  have h := spec_l3Divide_l0 x y hx hy h0 64 63 (by omega) (by omega)
  rw [Nat.div_eq_of_lt hx, Nat.zero_div, Nat.zero_mod] at h
  exact h
theorem spec_l3Abs_eq {x : Nat} (hx : x < 2 ^ 64) : ∃ n : Nat, n < 2 ^ 64 ∧ spec_l3Abs.f (x : Int) = some (n : Int) ∧ (n : Int) = (wrap64 (x : Int)).natAbs := by
  have hx' : x < 18446744073709551616 := hx
  unfold spec_l3Abs.f
  by_cases h : wrap64 (x : Int) < 0
  · rw [if_pos h]
    have h2 : 9223372036854775808 ≤ x := by unfold wrap64 at h; omega
    refine ⟨18446744073709551616 - x, show _ < 18446744073709551616 by omega, ?_, ?_⟩
    · rw [u64w]; congr 1; omega
    · unfold wrap64; omega
  · rw [if_neg h]
    have h2 : x < 9223372036854775808 := by unfold wrap64 at h; omega
    exact ⟨x, hx, rfl, by unfold wrap64; omega⟩
theorem spec_l3Signed_ev {x y : Nat} (hx : x < 2 ^ 64) (hy : y < 2 ^ 64) : Ev (fun k => spec_l3Signed.f k (x : Int) (y : Int)) (if (y : Int) = 0 then (18446744073709551615, (x : Int)) else (IntKind.u64.wrap (Int.tdiv (wrap64 (x : Int)) (wrap64 (y : Int))), IntKind.u64.wrap (Int.tmod (wrap64 (x : Int)) (wrap64 (y : Int))))) := by
  unfold spec_l3Signed.f
  have hx' : x < 18446744073709551616 := hx
  have hy' : y < 18446744073709551616 := hy
  by_cases h0 : (y : Int) = 0
  · refine ev_eq (if_pos h0).symm (ev_pos h0 (Ev.bind spec_l1Pow_64 (ev_ret ?_)))
    rw [u64w]; rfl
  · refine ev_eq (if_neg h0).symm (ev_neg h0 ?_)
    obtain ⟨a, ha, ea, va⟩ := spec_l3Abs_eq hx
    obtain ⟨b, hb, eb, vb⟩ := spec_l3Abs_eq hy
    have ha' : a < 18446744073709551616 := ha
    have hb0 : 0 < b := by
      rcases Nat.eq_zero_or_pos b with h | h
      · exfalso; rw [h] at vb; unfold wrap64 at vb; omega
      · exact h
    refine ev_bind0 ea (ev_bind0 eb (Ev.bind (spec_l3Divide_ev ha hb hb0) ?_))
    have hq : a / b ≤ a := Nat.div_le_self _ _
    have hm : a % b < b := Nat.mod_lt _ hb0
    have hm2 : a % b ≤ a := Nat.mod_le _ _
    have ha2 : (a : Int) ≤ 9223372036854775808 := by rw [va]; unfold wrap64; omega
    generalize hX : wrap64 (x : Int) = X at *
    generalize hY : wrap64 (y : Int) = Y at *
    have small : ∀ t : Nat, t ≤ a → IntKind.u64.wrap (t : Int) = (t : Int) := fun t ht => u64w_id (by omega) (by omega)
    by_cases hX0 : X < 0
    · obtain rfl : X = -(a : Int) := by omega
      by_cases hY0 : Y < 0
      · obtain rfl : Y = -(b : Int) := by omega
        refine ev_neg (by simp only [decide_eq_true hX0, decide_eq_true hY0]; decide) (ev_pos hX0 (ev_ret ?_))
        rw [Int.neg_tdiv, Int.tdiv_neg, Int.neg_neg, Int.neg_tmod, Int.tmod_neg, tdiv_nat, tmod_nat, small _ hq]
      · obtain rfl : Y = (b : Int) := by omega
        refine ev_pos (by simp only [decide_eq_true hX0, decide_eq_false hY0]; rfl) (ev_pos hX0 (ev_ret ?_))
        rw [Int.neg_tdiv, Int.neg_tmod, tdiv_nat, tmod_nat]
    · obtain rfl : X = (a : Int) := by omega
      by_cases hY0 : Y < 0
      · obtain rfl : Y = -(b : Int) := by omega
        refine ev_pos (by simp only [decide_eq_false hX0, decide_eq_true hY0]; rfl) (ev_neg hX0 (ev_ret ?_))
        rw [Int.tdiv_neg, Int.tmod_neg, tdiv_nat, tmod_nat, small _ hm2]
      · obtain rfl : Y = (b : Int) := by omega
        refine ev_neg (by simp only [decide_eq_false hX0, decide_eq_false hY0]; decide) (ev_neg hX0 (ev_ret ?_))
        rw [tdiv_nat, tmod_nat, small _ hq, small _ hm2]
theorem spec_l3Unsigned_ev {x y : Nat} (hx : x < 2 ^ 64) (hy : y < 2 ^ 64) : Ev (fun k => spec_l3Unsigned.f k (x : Int) (y : Int)) (if (y : Int) = 0 then (18446744073709551615, (x : Int)) else (((x / y : Nat) : Int), ((x % y : Nat) : Int))) := by
  unfold spec_l3Unsigned.f
  by_cases h0 : (y : Int) = 0
  · refine ev_eq (if_pos h0).symm (ev_pos h0 (Ev.bind spec_l1Pow_64 (ev_ret ?_)))
    rw [u64w]; rfl
  · exact ev_eq (if_neg h0).symm (ev_neg h0 (Ev.bind (spec_l3Divide_ev hx hy (by omega)) (ev_ret rfl)))
/-- What the shared head of the half operations makes of its arguments. -/
theorem half_head {x y : Nat} (hx : x < 2 ^ 64) (hy : y < 2 ^ 64) {g : Nat → Int → Int → Int → Int → Option Int} {R : Int}
    (h : Ev (fun k => g k ((x % 4294967296 : Nat) : Int) ((y % 4294967296 : Nat) : Int) (ext x 32 : Int) (ext y 32 : Int)) R) :
    Ev (fun k => (spec_Bits.f k (x : Int) 0 32).bind fun a => (spec_Bits.f k (y : Int) 0 32).bind fun b => (spec_Extend.f k (x : Int) 32).bind fun c => (spec_Extend.f k (y : Int) 32).bind fun d => g k a b c d) R := by
  have hb : ∀ z : Nat, z < 2 ^ 64 → Ev (fun k => spec_Bits.f k (z : Int) 0 32) ((z % 4294967296 : Nat) : Int) := by
    intro z hz
    have := spec_Bits_ev hz 0 32
    rw [if_pos (show field 0 32 = true from rfl)] at this
    exact this
  exact Ev.bind (hb x hx) (Ev.bind (hb y hy) (Ev.bind (ext32_ev hx) (Ev.bind (ext32_ev hy) h)))
def halfV (op : Int) (x y : Nat) : Int :=
  IntKind.u64.wrap (wrap64 (
    if op = 18 then wrap32 (wrap32 x + wrap32 y) else if op = 19 then wrap32 (wrap32 x - wrap32 y) else if op = 20 then wrap32 (wrap32 x * wrap32 y)
    else if op = 21 then (if wrap32 y = 0 then -1 else wrap32 (Int.tdiv (wrap32 x) (wrap32 y))) else if op = 22 then (if wrap32 y = 0 then wrap32 x else wrap32 (Int.tmod (wrap32 x) (wrap32 y)))
    else if op = 23 then wrap32 (x * 2 ^ (y % 32)) else if op = 24 then wrap32 (((x % 4294967296 / 2 ^ (y % 32) : Nat)) : Int) else wrap32 (wrap32 x / 2 ^ (y % 32))))
theorem half18 (x y : Nat) : halfV 18 x y = IntKind.u64.wrap (wrap64 (wrap32 (wrap32 x + wrap32 y))) := by unfold halfV; rw [if_pos rfl]
theorem half19 (x y : Nat) : halfV 19 x y = IntKind.u64.wrap (wrap64 (wrap32 (wrap32 x - wrap32 y))) := by unfold halfV; rw [if_neg (by decide), if_pos rfl]
theorem half20 (x y : Nat) : halfV 20 x y = IntKind.u64.wrap (wrap64 (wrap32 (wrap32 x * wrap32 y))) := by unfold halfV; rw [if_neg (by decide), if_neg (by decide), if_pos rfl]
theorem half21a (x y : Nat) (h : wrap32 (y : Int) = 0) : halfV 21 x y = 18446744073709551615 := by unfold halfV; rw [if_neg (by decide), if_neg (by decide), if_neg (by decide), if_pos rfl, if_pos h, u64w]; unfold wrap64; rfl
theorem half21b (x y : Nat) (h : ¬ wrap32 (y : Int) = 0) : halfV 21 x y = IntKind.u64.wrap (wrap64 (wrap32 (Int.tdiv (wrap32 x) (wrap32 y)))) := by unfold halfV; rw [if_neg (by decide), if_neg (by decide), if_neg (by decide), if_pos rfl, if_neg h]
theorem half22a (x y : Nat) (h : wrap32 (y : Int) = 0) : halfV 22 x y = IntKind.u64.wrap (wrap64 (wrap32 x)) := by unfold halfV; rw [if_neg (by decide), if_neg (by decide), if_neg (by decide), if_neg (by decide), if_pos rfl, if_pos h]
theorem half22b (x y : Nat) (h : ¬ wrap32 (y : Int) = 0) : halfV 22 x y = IntKind.u64.wrap (wrap64 (wrap32 (Int.tmod (wrap32 x) (wrap32 y)))) := by unfold halfV; rw [if_neg (by decide), if_neg (by decide), if_neg (by decide), if_neg (by decide), if_pos rfl, if_neg h]
theorem half23 (x y : Nat) : halfV 23 x y = IntKind.u64.wrap (wrap64 (wrap32 (x * 2 ^ (y % 32)))) := by unfold halfV; rw [if_neg (by decide), if_neg (by decide), if_neg (by decide), if_neg (by decide), if_neg (by decide), if_pos rfl]
theorem half24 (x y : Nat) : halfV 24 x y = IntKind.u64.wrap (wrap64 (wrap32 (((x % 4294967296 / 2 ^ (y % 32) : Nat)) : Int))) := by unfold halfV; rw [if_neg (by decide), if_neg (by decide), if_neg (by decide), if_neg (by decide), if_neg (by decide), if_neg (by decide), if_pos rfl]
theorem half25 (x y : Nat) : halfV 25 x y = IntKind.u64.wrap (wrap64 (wrap32 (wrap32 x / 2 ^ (y % 32)))) := by unfold halfV; rw [if_neg (by decide), if_neg (by decide), if_neg (by decide), if_neg (by decide), if_neg (by decide), if_neg (by decide), if_neg (by decide)]
theorem wrap32_range (z : Int) : -2147483648 ≤ wrap32 z ∧ wrap32 z ≤ 2147483647 := by unfold wrap32; omega
theorem wrap32_id {z : Int} (h0 : -2147483648 ≤ z) (h1 : z ≤ 2147483647) : wrap32 z = z := by unfold wrap32; omega
theorem ext_zero32 (y : Nat) : (ext y 32 : Int) = 0 ↔ wrap32 (y : Int) = 0 := by
  rw [sx32, w64_32, u64w]
  have h := wrap32_range (y : Int)
  generalize wrap32 (y : Int) = s at *
  omega
theorem half_add (x y : Nat) : wrap32 (((x % 4294967296 : Nat) : Int) + ((y % 4294967296 : Nat) : Int)) = wrap32 (wrap32 (x : Int) + wrap32 (y : Int)) := by
  apply wrap32_congr
  have h1 := wrap32_self (x : Int)
  have h2 := wrap32_self (y : Int)
  generalize wrap32 (x : Int) = s at *
  generalize wrap32 (y : Int) = t at *
  omega
theorem half_sub (x y : Nat) : wrap32 (((x % 4294967296 : Nat) : Int) - ((y % 4294967296 : Nat) : Int)) = wrap32 (wrap32 (x : Int) - wrap32 (y : Int)) := by
  apply wrap32_congr
  have h1 := wrap32_self (x : Int)
  have h2 := wrap32_self (y : Int)
  generalize wrap32 (x : Int) = s at *
  generalize wrap32 (y : Int) = t at *
  omega
theorem half_zero : IntKind.u64.wrap (wrap64 (wrap32 0)) = 0 := by rw [u64w]; unfold wrap64 wrap32; rfl
theorem half_ones : IntKind.u64.wrap (wrap64 (wrap32 18446744073709551615)) = 18446744073709551615 := by rw [u64w]; unfold wrap64 wrap32; rfl
theorem half_mul (x y : Int) : wrap32 (x % 4294967296 * (y % 4294967296)) = wrap32 (wrap32 x * wrap32 y) := by
  apply wrap32_congr
  rw [Int.mul_emod (wrap32 x), wrap32_self, wrap32_self, ← Int.mul_emod]
theorem n32_lt (y : Nat) : y % 32 < 32 := Nat.mod_lt _ (by decide)
theorem spec_l3Half_ev {x y : Nat} (hx : x < 2 ^ 64) (hy : y < 2 ^ 64) {op : Int} (h18 : 18 ≤ op) (h25 : op ≤ 25) : Ev (fun k => spec_l3Half.f k op (x : Int) (y : Int)) (halfV op x y) := by
  unfold spec_l3Half.f
  refine half_head hx hy (g := fun k t114 t115 t116 t117 => _) ?_
  have hx' : x < 18446744073709551616 := hx
  have hy' : y < 18446744073709551616 := hy
  have e32 : wrap64 (Int.tmod (y : Int) 32) = ((y % 32 : Nat) : Int) := by
    rw [show (32 : Int) = ((32 : Nat) : Int) from rfl, tmod_nat, w64_id (by omega) (by omega)]
  have e32n : wrap64 (-(wrap64 (Int.tmod (y : Int) 32))) = -((y % 32 : Nat) : Int) := by
    rw [e32, w64_id (by omega) (by omega)]
  have hn := n32_lt y
  have hxl : x % 4294967296 < 2 ^ 64 := Nat.lt_trans (Nat.mod_lt _ (by decide)) (by decide)
  have sv := sext_val x
  have sy := sext_val y
  have z0 := ext_zero32 y
  have ret : ∀ {g : Nat → Option Int} {a b : Int}, a = b → Ev g a → Ev (fun k => (g k).bind fun t => some t) b := fun h k => Ev.bind k (ev_ret h)
  obtain rfl | rfl | rfl | rfl | rfl | rfl | rfl | rfl : op = 18 ∨ op = 19 ∨ op = 20 ∨ op = 21 ∨ op = 22 ∨ op = 23 ∨ op = 24 ∨ op = 25 := by omega
  · rw [half18]
    refine ev_pos rfl ?_
    refine ret ?_ (ext32_wrap (u64w _))
    exact congrArg (fun z => IntKind.u64.wrap (wrap64 z)) (half_add x y)
  · rw [half19]
    refine ev_neg (by decide) ?_
    refine ev_pos rfl ?_
    refine ret ?_ (ext32_wrap (u64w _))
    exact congrArg (fun z => IntKind.u64.wrap (wrap64 z)) (half_sub x y)
  · rw [half20]
    iterate 2 refine ev_neg (by decide) ?_
    refine ev_pos rfl ?_
    refine ret ?_ (ext32_wrap (u64w _))
    rw [Int.natCast_emod, Int.natCast_emod]
    exact congrArg (fun z => IntKind.u64.wrap (wrap64 z)) (half_mul (x : Int) (y : Int))
  · iterate 3 refine ev_neg (by decide) ?_
    refine ev_pos rfl ?_
    refine Ev.bind (spec_l3Signed_ev (ext_lt x 32) (ext_lt y 32)) ?_
    by_cases h : wrap32 (y : Int) = 0
    · rw [half21a x y h, if_pos (z0.2 h)]
      exact ret half_ones (ext32_int (t := 18446744073709551615) (by decide) (by decide))
    · rw [half21b x y h, if_neg (fun h2 => h (z0.1 h2))]
      refine ret ?_ (ext32_wrap (u64w _))
      rw [sv, sy]
  · iterate 4 refine ev_neg (by decide) ?_
    refine ev_pos rfl ?_
    refine Ev.bind (spec_l3Signed_ev (ext_lt x 32) (ext_lt y 32)) ?_
    by_cases h : wrap32 (y : Int) = 0
    · rw [half22a x y h, if_pos (z0.2 h)]
      refine ret ?_ (ext32_ev (ext_lt x 32))
      have e : wrap32 ((ext x 32 : Nat) : Int) = wrap32 (x : Int) := by
        rw [sx32, w64_32, u64w]
        have h := wrap32_range (x : Int)
        generalize wrap32 (x : Int) = s at *
        unfold wrap32; omega
      rw [sx32, e]
    · rw [half22b x y h, if_neg (fun h2 => h (z0.1 h2))]
      refine ret ?_ (ext32_wrap (u64w _))
      rw [sv, sy]
  · iterate 5 refine ev_neg (by decide) ?_
    refine ev_pos rfl ?_
    rw [half23, e32]
    refine Ev.bind (spec_l3Move_ev0 hxl (by omega)) (ret ?_ (ext32_ev (moveN_lt _ _ _)))
    rw [move_up (by omega), sx32]
    refine congrArg (fun z => IntKind.u64.wrap (wrap64 z)) (wrap32_congr ?_)
    rw [Nat.shiftLeft_eq]
    have e : ((2 : Int) ^ (y % 32)) = ((2 ^ (y % 32) : Nat) : Int) := by simp
    rw [e, show (2 : Nat) ^ 64 = 18446744073709551616 from rfl, ← Int.natCast_mul]
    have e3 : x % 4294967296 * 2 ^ (y % 32) % 4294967296 = x * 2 ^ (y % 32) % 4294967296 := by rw [Nat.mul_mod, Nat.mod_mod, ← Nat.mul_mod]
    generalize x % 4294967296 * 2 ^ (y % 32) = p at *
    generalize x * 2 ^ (y % 32) = q at *
    omega
  · iterate 6 refine ev_neg (by decide) ?_
    refine ev_pos rfl ?_
    rw [half24, e32n]
    refine Ev.bind (spec_l3Move_ev0 hxl (by omega)) (ret ?_ (ext32_ev (moveN_lt _ _ _)))
    rw [move_down hxl (by omega), sx32, Nat.shiftRight_eq_div_pow]
  · iterate 7 refine ev_neg (by decide) ?_
    refine ev_pos rfl ?_
    rw [half25, e32n]
    refine Ev.bind (spec_l1Bit_ev (ext_lt x 32) (i := 63) (by omega)) (Ev.bind (spec_l3Move_ev (ext_lt x 32) (by omega) _) (ret ?_ (ext32_ev (moveN_lt _ _ _))))
    rw [sx32, sar (ext_lt x 32) (by omega), sv, u64w (wrap32 (x : Int) / 2 ^ (y % 32))]
    refine congrArg (fun z => IntKind.u64.wrap (wrap64 z)) (wrap32_congr ?_)
    generalize wrap32 (x : Int) / 2 ^ (y % 32) = s
    omega
theorem and_low {y : Nat} (hy : y < 2 ^ 64) (n : Nat) (hn : n ≤ 64) : Go.bits .and .u64 (y : Int) ((2 ^ n - 1 : Nat) : Int) = ((y % 2 ^ n : Nat) : Int) := by
  rw [and_nat hy (Nat.lt_of_lt_of_le (Nat.sub_lt (Nat.two_pow_pos n) (by decide)) (Nat.pow_le_pow_right (by decide) hn)), Nat.and_two_pow_sub_one_eq_mod]
theorem and63 {y : Nat} (hy : y < 2 ^ 64) : Go.bits .and .u64 (y : Int) 63 = ((y % 64 : Nat) : Int) := and_low hy 6 (by decide)
theorem and31 {y : Nat} (hy : y < 2 ^ 64) : Go.bits .and .u64 (y : Int) 31 = ((y % 32 : Nat) : Int) := and_low hy 5 (by decide)
theorem i32w (z : Int) : IntKind.i32.wrap z = wrap32 z := by unfold wrap32; exact IntKind.wrap_i32 z
theorem impl_half {x y : Nat} (hx : x < 2 ^ 64) (hy : y < 2 ^ 64) (a : Int) {op : Int} (h18 : 18 ≤ op) (h25 : op ≤ 25) : Ev (fun k => impl_Alu.j5 k a (x : Int) (y : Int) (wrap32 (x : Int)) (wrap32 (y : Int)) op (op == 17)) (halfV op x y, true) := by
  refine Ev.step (fun _ => impl_Alu.j5.eq_2 ..) (ev_neg (by simp; omega) ?_)
  have hn := n32_lt y
  have m32 : min (y % 32) 32 = y % 32 := Nat.min_eq_left (by omega)
  have out : ∀ {v : Int} {R : Int × Bool}, (IntKind.u64.wrap (wrap64 v), true) = R → Ev (fun _ : Nat => (impl_Alu_1.f v).bind fun bt => some (bt.1, bt.2)) R := fun h => ev_bind0 rfl (ev_ret h)
  rw [and31 hy]
  have pw : 0 < 2 ^ (y % 32) := Nat.two_pow_pos _
  have e2 : ((2 : Int) ^ (y % 32)) = ((2 ^ (y % 32) : Nat) : Int) := by simp
  have hrx := wrap32_range (x : Int)
  obtain rfl | rfl | rfl | rfl | rfl | rfl | rfl | rfl : op = 18 ∨ op = 19 ∨ op = 20 ∨ op = 21 ∨ op = 22 ∨ op = 23 ∨ op = 24 ∨ op = 25 := by omega
  · rw [half18]
    refine ev_pos rfl ?_
    exact out rfl
  · rw [half19]
    refine ev_neg (by decide) ?_
    refine ev_pos rfl ?_
    exact out rfl
  · rw [half20]
    iterate 2 refine ev_neg (by decide) ?_
    refine ev_pos rfl ?_
    exact out rfl
  · iterate 3 refine ev_neg (by decide) ?_
    refine ev_pos rfl ?_
    by_cases h : wrap32 (y : Int) = 0
    · rw [half21a x y h]
      exact ev_pos h (ev_ret rfl)
    · rw [half21b x y h]
      refine ev_neg h ?_
      by_cases h1 : wrap32 (y : Int) = -1
      · refine ev_pos h1 (out ?_)
        rw [h1, Int.tdiv_neg, Int.tdiv_one]
      · exact ev_neg h1 (out rfl)
  · iterate 4 refine ev_neg (by decide) ?_
    refine ev_pos rfl ?_
    by_cases h : wrap32 (y : Int) = 0
    · rw [half22a x y h]
      exact ev_pos h (out rfl)
    · rw [half22b x y h]
      refine ev_neg h ?_
      by_cases h1 : wrap32 (y : Int) = -1
      · refine ev_pos h1 (ev_ret ?_)
        rw [h1, Int.tmod_neg, Int.tmod_one, half_zero]
      · refine ev_neg h1 (out ?_)
        have h2 : (Int.tmod (wrap32 (x : Int)) (wrap32 (y : Int))).natAbs ≤ (wrap32 (x : Int)).natAbs := by rw [Int.natAbs_tmod]; exact Nat.mod_le _ _
        have h3 : -2147483648 ≤ Int.tmod (wrap32 (x : Int)) (wrap32 (y : Int)) ∧ Int.tmod (wrap32 (x : Int)) (wrap32 (y : Int)) ≤ 2147483647 := by
          rcases Int.le_total 0 (wrap32 (x : Int)) with h4 | h4
          · have := Int.tmod_nonneg (wrap32 (y : Int)) h4; omega
          · have : Int.tmod (wrap32 (x : Int)) (wrap32 (y : Int)) ≤ 0 := by
              have := Int.tmod_nonneg (wrap32 (y : Int)) (show 0 ≤ -(wrap32 (x : Int)) by omega)
              rw [Int.neg_tmod] at this; omega
            omega
        rw [wrap32_id h3.1 h3.2]
  · rw [half23]
    iterate 5 refine ev_neg (by decide) ?_
    refine ev_pos rfl ?_
    refine ev_pos (by omega) (out ?_)
    unfold shl
    rw [i32w, Int.toNat_natCast, show IntKind.i32.bits = 32 from rfl, m32]
    refine congrArg (fun z => (IntKind.u64.wrap (wrap64 z), true)) (wrap32_congr ?_)
    rw [Int.mul_emod, wrap32_self, ← Int.mul_emod]
  · rw [half24]
    iterate 6 refine ev_neg (by decide) ?_
    refine ev_pos rfl ?_
    refine ev_pos (by omega) (out ?_)
    unfold shr
    rw [Int.toNat_natCast, show IntKind.u32.bits = 32 from rfl, m32, Int.natCast_ediv, Int.natCast_emod, e2]
    rfl
  · rw [half25]
    iterate 7 refine ev_neg (by decide) ?_
    refine ev_pos rfl ?_
    refine ev_pos (by omega) (out ?_)
    unfold shr
    rw [Int.toNat_natCast, show IntKind.i32.bits = 32 from rfl, m32, e2]
    have q0 : -2147483648 ≤ wrap32 (x : Int) / ((2 ^ (y % 32) : Nat) : Int) := Int.le_ediv_of_mul_le (by omega) (by omega)
    have q1 : wrap32 (x : Int) / ((2 ^ (y % 32) : Nat) : Int) < 2147483648 := Int.ediv_lt_of_lt_mul (by omega) (by omega)
    rw [wrap32_id q0 (by omega)]
theorem tmod64 {y : Nat} : wrap64 (Int.tmod (y : Int) 64) = ((y % 64 : Nat) : Int) := by
  rw [show (64 : Int) = ((64 : Nat) : Int) from rfl, tmod_nat, w64_id (by omega) (by omega)]
theorem tmod64n {y : Nat} : wrap64 (-(wrap64 (Int.tmod (y : Int) 64))) = -((y % 64 : Nat) : Int) := by
  rw [tmod64, w64_id (by omega) (by omega)]
theorem w64_zero {y : Nat} (hy : y < 2 ^ 64) : wrap64 (y : Int) = 0 ↔ (y : Int) = 0 := by
  have hy' : y < 18446744073709551616 := hy
  unfold wrap64; omega
theorem u64_neg (x : Nat) : IntKind.u64.wrap (-(x : Int)) = IntKind.u64.wrap (-(wrap64 (x : Int))) := by rw [u64w, u64w]; unfold wrap64; omega
theorem u64_w64 (z : Int) : IntKind.u64.wrap (wrap64 z) = IntKind.u64.wrap z := by rw [u64w, u64w]; unfold wrap64; omega
def signedV (x y : Nat) : Int × Int := if (y : Int) = 0 then (18446744073709551615, (x : Int)) else (IntKind.u64.wrap (Int.tdiv (wrap64 (x : Int)) (wrap64 (y : Int))), IntKind.u64.wrap (Int.tmod (wrap64 (x : Int)) (wrap64 (y : Int))))
theorem impl_signed {x y : Nat} (hx : x < 2 ^ 64) (hy : y < 2 ^ 64) {op : Int} (ho : op = 14 ∨ op = 16) (a b c : Int) : Ev (fun k => impl_Alu.j2 k op (x : Int) (y : Int) (wrap64 (x : Int)) (wrap64 (y : Int)) a b c true) (if op = 14 then (signedV x y).1 else (signedV x y).2, true) := by
  refine Ev.step (fun _ => impl_Alu.j2.eq_2 ..) ?_
  refine ev_pos rfl ?_
  have hz := w64_zero hy
  have j3z : ¬ (wrap64 (y : Int) = 0) → Ev (fun k => impl_Alu.j3 k op (x : Int) (wrap64 (x : Int)) (wrap64 (y : Int)) false) (if op = 14 then (signedV x y).1 else (signedV x y).2, true) := by
    intro h0
    have hne : ¬ (y : Int) = 0 := fun h => h0 (hz.2 h)
    unfold signedV
    rw [if_neg hne]
    refine Ev.step (fun _ => impl_Alu.j3.eq_2 ..) ?_
    refine ev_neg (by decide) ?_
    refine ev_neg h0 ?_
    by_cases h1 : wrap64 (y : Int) = -1
    · refine ev_pos h1 ?_
      rcases ho with rfl | rfl
      · refine Ev.step (fun _ => impl_Alu.j4.eq_2 ..) ?_
        refine ev_pos rfl (ev_ret ?_)
        rw [if_pos rfl, h1, Int.tdiv_neg, Int.tdiv_one, u64_neg]
      · refine Ev.step (fun _ => impl_Alu.j4.eq_2 ..) ?_
        refine ev_neg (by decide) ?_
        refine ev_pos h1 (ev_ret ?_)
        rw [if_neg (by decide), h1, Int.tmod_neg, Int.tmod_one, u64w]; rfl
    · refine ev_neg h1 ?_
      refine Ev.step (fun _ => impl_Alu.j4.eq_2 ..) ?_
      refine ev_neg (by decide) ?_
      refine ev_neg h1 ?_
      rcases ho with rfl | rfl
      · refine ev_pos rfl ?_
        refine ev_neg h0 (ev_ret ?_)
        rw [if_pos rfl, u64_w64]
      · refine ev_neg (by decide) ?_
        refine ev_neg h0 (ev_ret ?_)
        rw [if_neg (by decide)]
  by_cases h0 : wrap64 (y : Int) = 0
  · have hy0 : (y : Int) = 0 := hz.1 h0
    have hv : signedV x y = (18446744073709551615, (x : Int)) := if_pos hy0
    refine ev_pos h0 ?_
    rw [hv]
    rcases ho with rfl | rfl
    · exact Ev.step (fun _ => impl_Alu.j3.eq_2 ..) (ev_pos rfl (ev_ret rfl))
    · refine Ev.step (fun _ => impl_Alu.j3.eq_2 ..) ?_
      refine ev_neg (by decide) ?_
      exact ev_pos h0 (ev_ret rfl)
  · exact ev_neg h0 (j3z h0)
def unsignedV (x y : Nat) : Int × Int := if (y : Int) = 0 then (18446744073709551615, (x : Int)) else (((x / y : Nat) : Int), ((x % y : Nat) : Int))
theorem impl_unsigned {x y : Nat} (hx : x < 2 ^ 64) (hy : y < 2 ^ 64) {op : Int} (ho : op = 15 ∨ op = 17) (a b c : Int) : Ev (fun k => impl_Alu.j5 k op (x : Int) (y : Int) a b c true) (if op = 15 then (unsignedV x y).1 else (unsignedV x y).2, true) := by
  refine Ev.step (fun _ => impl_Alu.j5.eq_2 ..) ?_
  refine ev_pos rfl ?_
  have hx' : x < 18446744073709551616 := hx
  by_cases h0 : (y : Int) = 0
  · have hv : unsignedV x y = (18446744073709551615, (x : Int)) := if_pos h0
    rw [hv]
    refine ev_pos h0 ?_
    rcases ho with rfl | rfl
    · exact Ev.step (fun _ => impl_Alu.j6.eq_2 ..) (ev_pos rfl (ev_ret rfl))
    · refine Ev.step (fun _ => impl_Alu.j6.eq_2 ..) ?_
      refine ev_neg (by decide) ?_
      exact ev_pos h0 (ev_ret rfl)
  · have hv : unsignedV x y = (((x / y : Nat) : Int), ((x % y : Nat) : Int)) := if_neg h0
    rw [hv]
    refine ev_neg h0 ?_
    refine Ev.step (fun _ => impl_Alu.j6.eq_2 ..) ?_
    refine ev_neg (by decide) ?_
    refine ev_neg h0 ?_
    have hq : x / y ≤ x := Nat.div_le_self _ _
    rcases ho with rfl | rfl
    · refine ev_pos rfl (ev_ret ?_)
      rw [if_pos rfl, tdiv_nat]
      generalize x / y = q at *
      rw [u64w_id (by omega) (by omega)]
    · refine ev_neg (by decide) (ev_ret ?_)
      rw [if_neg (by decide), tmod_nat]
theorem impl_one_of (p : Prop) [Decidable p] : impl_one.f (decide p) = some (if p then 1 else 0) := by
  unfold impl_one.f
  by_cases h : p
  · rw [if_pos (decide_eq_true h), if_pos h]
  · rw [if_neg (by simpa using h), if_neg h]
theorem Ev.both {g : Nat → Option (Int × Bool)} {h : Nat → Option (Int × Bool)} (R : Int × Bool) (a : Ev g R) (b : Ev h R) : ∃ R, Ev g R ∧ Ev h R := ⟨R, a, b⟩
theorem spec_in {x y : Int} {op : Int} {R : Int × Bool} (h1 : 1 ≤ op) (h2 : op ≤ 25) (h : Ev (fun k => spec_Alu.j2 k op x y false) R) : Ev (fun k => spec_Alu.j1 k op x y) R := by
  refine Ev.step (fun _ => spec_Alu.j1.eq_2 ..) ?_
  refine ev_neg (by omega) ?_
  rw [decide_eq_false (by omega : ¬ op > 25)]
  exact h
macro "spec_at" n:num : tactic => `(tactic| (refine spec_in (by decide) (by decide) (Ev.step (fun _ => spec_Alu.j2.eq_2 ..) ?_); refine ev_neg (by decide) ?_; refine ev_neg (by decide) ?_; (iterate $n (refine ev_neg (by decide) ?_)); refine ev_pos rfl ?_))
macro "impl_at" n:num : tactic => `(tactic| (refine Ev.step (fun _ => impl_Alu.j1.eq_2 ..) ?_; (iterate $n (refine ev_neg (by decide) ?_)); refine ev_pos rfl ?_))
theorem alu_same {x y : Nat} (hx : x < 2 ^ 64) (hy : y < 2 ^ 64) (op : Int) : ∃ R, Ev (fun k => spec_Alu.j1 k op (x : Int) (y : Int)) R ∧ Ev (fun k => impl_Alu.j1 k op (x : Int) (y : Int)) R := by
  have hx' : x < 18446744073709551616 := hx
  have hy' : y < 18446744073709551616 := hy
  have hn : y % 64 < 64 := Nat.mod_lt _ (by decide)
  have m64 : min (y % 64) 64 = y % 64 := Nat.min_eq_left (by omega)
  by_cases hlow : op < 1 ∨ op > 25
  · refine Ev.both (0, false) ?_ ?_
    · refine Ev.step (fun _ => spec_Alu.j1.eq_2 ..) ?_
      have bad : Ev (fun k => spec_Alu.j2 k op (x : Int) (y : Int) true) (0, false) := Ev.step (fun _ => spec_Alu.j2.eq_2 ..) (ev_pos rfl (ev_ret rfl))
      by_cases h1 : op < 1
      · exact ev_pos h1 bad
      · refine ev_neg h1 ?_
        rw [decide_eq_true (by omega : op > 25)]; exact bad
    · refine Ev.step (fun _ => impl_Alu.j1.eq_2 ..) ?_
      iterate 14 refine ev_neg (by omega) ?_
      rw [show (op == 16) = false from beq_eq_false_iff_ne.2 (by omega)]
      refine Ev.step (fun _ => impl_Alu.j2.eq_2 ..) ?_
      refine ev_neg (by decide) ?_
      refine ev_neg (by omega) ?_
      rw [show (op == 17) = false from beq_eq_false_iff_ne.2 (by omega)]
      refine Ev.step (fun _ => impl_Alu.j5.eq_2 ..) ?_
      refine ev_neg (by decide) ?_
      iterate 8 refine ev_neg (by omega) ?_
      exact ev_ret rfl
  · by_cases hhigh : 18 ≤ op
    · refine Ev.both (halfV op x y, true) ?_ ?_
      · refine spec_in (by omega) (by omega) (Ev.step (fun _ => spec_Alu.j2.eq_2 ..) ?_)
        refine ev_neg (by decide) ?_
        refine ev_pos hhigh ?_
        exact Ev.bind (spec_l3Half_ev hx hy hhigh (by omega)) (ev_ret rfl)
      · refine Ev.step (fun _ => impl_Alu.j1.eq_2 ..) ?_
        iterate 14 refine ev_neg (by omega) ?_
        rw [show (op == 16) = false from beq_eq_false_iff_ne.2 (by omega)]
        refine Ev.step (fun _ => impl_Alu.j2.eq_2 ..) ?_
        refine ev_neg (by decide) ?_
        refine ev_neg (by omega) ?_
        exact impl_half hx hy _ hhigh (by omega)
    · obtain rfl | rfl | rfl | rfl | rfl | rfl | rfl | rfl | rfl | rfl | rfl | rfl | rfl | rfl | rfl | rfl | rfl : op = 1 ∨ op = 2 ∨ op = 3 ∨ op = 4 ∨ op = 5 ∨ op = 6 ∨ op = 7 ∨ op = 8 ∨ op = 9 ∨ op = 10 ∨ op = 11 ∨ op = 12 ∨ op = 13 ∨ op = 14 ∨ op = 15 ∨ op = 16 ∨ op = 17 := by omega
      · refine Ev.both (IntKind.u64.wrap ((x : Int) + (y : Int)), true) ?_ ?_
        · spec_at 0
          exact ev_ret rfl
        · impl_at 0
          exact ev_ret rfl
      · refine Ev.both (IntKind.u64.wrap ((x : Int) - (y : Int)), true) ?_ ?_
        · spec_at 1
          exact ev_ret rfl
        · impl_at 1
          exact ev_ret rfl
      · refine Ev.both (((x &&& y : Nat) : Int), true) ?_ ?_
        · spec_at 2
          exact Ev.bind (spec_l3Both_ev hx hy rfl (by decide) (and_lt hy) (fun j => by unfold bothBit; rw [Nat.testBit_and]; cases x.testBit j <;> cases y.testBit j <;> rfl)) (ev_ret rfl)
        · impl_at 2
          exact ev_ret (by rw [and_nat hx hy])
      · refine Ev.both (((x ||| y : Nat) : Int), true) ?_ ?_
        · spec_at 3
          exact Ev.bind (spec_l3Both_ev hx hy rfl (by decide) (or_lt hx hy) (fun j => by unfold bothBit; rw [Nat.testBit_or]; cases x.testBit j <;> cases y.testBit j <;> rfl)) (ev_ret rfl)
        · impl_at 3
          exact ev_ret (by rw [or_nat hx hy])
      · refine Ev.both (((x ^^^ y : Nat) : Int), true) ?_ ?_
        · spec_at 4
          exact Ev.bind (spec_l3Both_ev hx hy rfl (by decide) (xor_lt hx hy) (fun j => by unfold bothBit; rw [Nat.testBit_xor]; cases x.testBit j <;> cases y.testBit j <;> rfl)) (ev_ret rfl)
        · impl_at 4
          exact ev_ret (by rw [xor_nat hx hy])
      · refine Ev.both ((((x <<< (y % 64)) % 2 ^ 64 : Nat) : Int), true) ?_ ?_
        · spec_at 5
          rw [tmod64]
          exact Ev.bind (spec_l3Move_ev0 hx (by omega)) (ev_ret (by rw [move_up (by omega)]))
        · impl_at 5
          rw [and63 hy]
          refine ev_pos (by omega) (ev_ret ?_)
          rw [shl_nat]
      · refine Ev.both (((x >>> (y % 64) : Nat) : Int), true) ?_ ?_
        · spec_at 6
          rw [tmod64n]
          exact Ev.bind (spec_l3Move_ev0 hx (by omega)) (ev_ret (by rw [move_down hx (by omega)]))
        · impl_at 6
          rw [and63 hy]
          refine ev_pos (by omega) (ev_ret ?_)
          rw [shr_nat _ _ hx]
      · refine Ev.both (IntKind.u64.wrap (wrap64 (x : Int) / 2 ^ (y % 64)), true) ?_ ?_
        · spec_at 7
          rw [tmod64n]
          exact Ev.bind (spec_l1Bit_ev hx (i := 63) (by omega)) (Ev.bind (spec_l3Move_ev hx (by omega) _) (ev_ret (by rw [sar hx (by omega)])))
        · impl_at 7
          rw [and63 hy]
          refine ev_pos (by omega) (ev_ret ?_)
          unfold shr
          rw [Int.toNat_natCast, show IntKind.i64.bits = 64 from rfl, m64]
      · refine Ev.both ((if wrap64 (x : Int) < wrap64 (y : Int) then 1 else 0), true) ?_ ?_
        · spec_at 8
          refine ev_bind0 (a := if wrap64 (x : Int) < wrap64 (y : Int) then 1 else 0) ?_ (ev_ret rfl)
          unfold spec_l3Less.f
          by_cases h : wrap64 (x : Int) < wrap64 (y : Int)
          · rw [if_pos h, if_pos h]
          · rw [if_neg h, if_neg h]
        · impl_at 8
          exact ev_bind0 (impl_one_of _) (ev_ret rfl)
      · refine Ev.both ((if (x : Int) < (y : Int) then 1 else 0), true) ?_ ?_
        · spec_at 9
          refine ev_bind0 (a := if (x : Int) < (y : Int) then 1 else 0) ?_ (ev_ret rfl)
          unfold spec_l3Below.f
          by_cases h : (x : Int) < (y : Int)
          · rw [if_pos h, if_pos h]
          · rw [if_neg h, if_neg h]
        · impl_at 9
          exact ev_bind0 (impl_one_of _) (ev_ret rfl)
      · refine Ev.both (((x * y % 2 ^ 64 : Nat) : Int), true) ?_ ?_
        · spec_at 10
          exact Ev.bind (spec_Wide_ev hx hy) (ev_ret rfl)
        · impl_at 10
          refine ev_ret ?_
          rw [u64w, ← Int.natCast_mul]
          rfl
      · by_cases c1 : wrap64 (x : Int) < 0 <;> by_cases c2 : wrap64 (y : Int) < 0
        · refine Ev.both (IntKind.u64.wrap (IntKind.u64.wrap (((x * y / 2 ^ 64 : Nat) : Int) - (y : Int)) - (x : Int)), true) ?_ ?_
          · spec_at 11
            unfold spec_l3High.f
            exact Ev.bind (Ev.bind (spec_Wide_ev hx hy) (ev_pos c1 (ev_pos c2 (ev_ret rfl)))) (ev_ret rfl)
          · impl_at 11
            exact ev_bind0 (mul_parts hx hy) (ev_pos c1 (ev_pos c2 (ev_ret rfl)))
        · refine Ev.both (IntKind.u64.wrap (((x * y / 2 ^ 64 : Nat) : Int) - (y : Int)), true) ?_ ?_
          · spec_at 11
            unfold spec_l3High.f
            exact Ev.bind (Ev.bind (spec_Wide_ev hx hy) (ev_pos c1 (ev_neg c2 (ev_ret rfl)))) (ev_ret rfl)
          · impl_at 11
            exact ev_bind0 (mul_parts hx hy) (ev_pos c1 (ev_neg c2 (ev_ret rfl)))
        · refine Ev.both (IntKind.u64.wrap (((x * y / 2 ^ 64 : Nat) : Int) - (x : Int)), true) ?_ ?_
          · spec_at 11
            unfold spec_l3High.f
            exact Ev.bind (Ev.bind (spec_Wide_ev hx hy) (ev_neg c1 (ev_pos c2 (ev_ret rfl)))) (ev_ret rfl)
          · impl_at 11
            exact ev_bind0 (mul_parts hx hy) (ev_neg c1 (ev_pos c2 (ev_ret rfl)))
        · refine Ev.both (((x * y / 2 ^ 64 : Nat) : Int), true) ?_ ?_
          · spec_at 11
            unfold spec_l3High.f
            exact Ev.bind (Ev.bind (spec_Wide_ev hx hy) (ev_neg c1 (ev_neg c2 (ev_ret rfl)))) (ev_ret rfl)
          · impl_at 11
            exact ev_bind0 (mul_parts hx hy) (ev_neg c1 (ev_neg c2 (ev_ret rfl)))
      · refine Ev.both (((x * y / 2 ^ 64 : Nat) : Int), true) ?_ ?_
        · spec_at 12
          exact Ev.bind (spec_Wide_ev hx hy) (ev_ret rfl)
        · impl_at 12
          exact ev_bind0 (mul_parts hx hy) (ev_ret rfl)
      · refine Ev.both ((signedV x y).1, true) ?_ ?_
        · spec_at 13
          exact Ev.bind (spec_l3Signed_ev hx hy) (ev_ret rfl)
        · impl_at 13
          exact impl_signed hx hy (.inl rfl) _ _ _
      · refine Ev.both ((unsignedV x y).1, true) ?_ ?_
        · spec_at 14
          exact Ev.bind (spec_l3Unsigned_ev hx hy) (ev_ret rfl)
        · refine Ev.step (fun _ => impl_Alu.j1.eq_2 ..) ?_
          iterate 14 refine ev_neg (by decide) ?_
          refine Ev.step (fun _ => impl_Alu.j2.eq_2 ..) ?_
          refine ev_neg (by decide) ?_
          refine ev_pos rfl ?_
          exact impl_unsigned hx hy (.inl rfl) _ _ _
      · refine Ev.both ((signedV x y).2, true) ?_ ?_
        · spec_at 15
          exact Ev.bind (spec_l3Signed_ev hx hy) (ev_ret rfl)
        · refine Ev.step (fun _ => impl_Alu.j1.eq_2 ..) ?_
          iterate 14 refine ev_neg (by decide) ?_
          exact impl_signed hx hy (.inr rfl) _ _ _
      · refine Ev.both ((unsignedV x y).2, true) ?_ ?_
        · spec_at 16
          exact Ev.bind (spec_l3Unsigned_ev hx hy) (ev_ret rfl)
        · refine Ev.step (fun _ => impl_Alu.j1.eq_2 ..) ?_
          iterate 14 refine ev_neg (by decide) ?_
          refine Ev.step (fun _ => impl_Alu.j2.eq_2 ..) ?_
          refine ev_neg (by decide) ?_
          refine ev_neg (by decide) ?_
          exact impl_unsigned hx hy (.inr rfl) _ _ _
theorem FnExactAlu : laws_FnExactAlu.Pure := by
  intro op a b _ ha hb
  obtain ⟨x, rfl, hx⟩ := to_nat (m := 2 ^ 64) (wf_u64 ha).1 (wf_u64 ha).2
  obtain ⟨y, rfl, hy⟩ := to_nat (m := 2 ^ 64) (wf_u64 hb).1 (wf_u64 hb).2
  have key : ∃ R, Ev (fun k => spec_Alu.f k op (x : Int) (y : Int)) R ∧ Ev (fun k => impl_Alu.f k op (x : Int) (y : Int)) R := by
    unfold spec_Alu.f impl_Alu.f
    have plain : ∃ R, Ev (fun k => spec_Alu.j0 k op (x : Int) (y : Int) false) R ∧ Ev (fun k => impl_Alu.j0 k op (x : Int) (y : Int) false) R := by
      obtain ⟨R, h1, h2⟩ := alu_same hx hy op
      exact ⟨R, Ev.step (fun _ => spec_Alu.j0.eq_2 ..) (ev_neg (by decide) h1), Ev.step (fun _ => impl_Alu.j0.eq_2 ..) (ev_neg (by decide) h2)⟩
    by_cases c1 : op ≥ 32
    · by_cases c2 : op ≤ 41
      · rw [decide_eq_true c2]
        obtain ⟨R, h1, h2⟩ := alu_same hx hy (rd [1, 3, 4, 5, 6, 7, 8, 9, 10, 18] (wrap64 (op - 32)))
        have e : wrap64 (op - 32) = op - 32 := w64_id (by omega) (by omega)
        refine ⟨R, ?_, ?_⟩
        · refine ev_pos c1 (Ev.step (fun _ => spec_Alu.j0.eq_2 ..) ?_)
          refine ev_pos rfl (ev_bind0 rfl ?_)
          refine ev_pos (by omega) ?_
          refine ev_pos (by simp only [List.length_cons, List.length_nil]; omega) h1
        · refine ev_pos c1 (Ev.step (fun _ => impl_Alu.j0.eq_2 ..) ?_)
          refine ev_pos rfl (ev_bind0 rfl ?_)
          refine ev_pos (by omega) ?_
          refine ev_pos (by simp only [List.length_cons, List.length_nil]; omega) h2
      · rw [decide_eq_false c2]
        obtain ⟨R, h1, h2⟩ := plain
        exact ⟨R, ev_pos c1 h1, ev_pos c1 h2⟩
    · obtain ⟨R, h1, h2⟩ := plain
      exact ⟨R, ev_neg c1 h1, ev_neg c1 h2⟩
  obtain ⟨R, h1, h2⟩ := key
  refine Ev.rounds ?_
  unfold laws_FnExactAlu.f
  exact Ev.bind h1 (Ev.bind h2 (ev_pos rfl (ev_neg (by simp) (ev_ret rfl))))
end Go.Proofs.Ytmbcihfdfohfcaa.Pure
