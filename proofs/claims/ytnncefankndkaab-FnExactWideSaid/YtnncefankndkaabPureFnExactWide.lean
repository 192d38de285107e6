/- For every input that the row lets in, FnExactWide answers true; this text proves the plain law that is left when the machine's side is done. -/
import Derived.Test.YtnncefankndkaabPFnExactWidex1
import Derived.Test.YtnncefankndkaabBase
set_option linter.unusedVariables false
set_option linter.unusedSimpArgs false
namespace Go.Proofs.Ytnncefankndkaab.Pure
open Go.RowKit Go.Proofs.Ytnncefankndkaab.PFnExactWide Go.Proofs.YtnncefankndkaabW.PrintWords Go.Proofs.YtnncefankndkaabW.PrintLast Go.Proofs.YtnncefankndkaabW.PrintMore Go.Proofs.Ytnncefankndkaab.Base

theorem hi_part (x1 x0 : Nat) (h : x0 < 4294967296) : ((x1 * 4294967296 + x0 : Nat) : Int) / 4294967296 = (x1 : Int) := by omega
theorem mul_parts {a b : Nat} (ha : a < 2 ^ 64) (hb : b < 2 ^ 64) : bits_Mul64.f (a : Int) (b : Int) = some (((a * b / 2 ^ 64 : Nat) : Int), ((a * b % 2 ^ 64 : Nat) : Int)) := by
  have ha' : a < 18446744073709551616 := ha
  have hb' : b < 18446744073709551616 := hb
  obtain ⟨x1, x0, hx0, hx1, rfl⟩ : ∃ x1 x0, x0 < 4294967296 ∧ x1 < 4294967296 ∧ a = x1 * 4294967296 + x0 := ⟨a / 4294967296, a % 4294967296, by omega, by omega, by omega⟩
  obtain ⟨y1, y0, hy0, hy1, rfl⟩ : ∃ y1 y0, y0 < 4294967296 ∧ y1 < 4294967296 ∧ b = y1 * 4294967296 + y0 := ⟨b / 4294967296, b % 4294967296, by omega, by omega, by omega⟩
  have mask : ∀ n : Nat, n < 2 ^ 64 → Go.bits .and .u64 (n : Int) 4294967295 = ((n % 4294967296 : Nat) : Int) := by
    intro n hn
    rw [show (4294967295 : Int) = ((2 ^ 32 - 1 : Nat) : Int) by simp, and_nat hn (by decide), Nat.and_two_pow_sub_one_eq_mod]
  obtain ⟨p00, h00⟩ : ∃ p, p = x0 * y0 := ⟨_, rfl⟩
  obtain ⟨p01, h01⟩ : ∃ p, p = x0 * y1 := ⟨_, rfl⟩
  obtain ⟨p10, h10⟩ : ∃ p, p = x1 * y0 := ⟨_, rfl⟩
  obtain ⟨p11, h11⟩ : ∃ p, p = x1 * y1 := ⟨_, rfl⟩
  have bd : ∀ u v : Nat, u < 4294967296 → v < 4294967296 → u * v ≤ 4294967295 * 4294967295 := fun u v hu hv => Nat.mul_le_mul (by omega) (by omega)
  have b00 := bd x0 y0 hx0 hy0
  have b01 := bd x0 y1 hx0 hy1
  have b10 := bd x1 y0 hx1 hy0
  have b11 := bd x1 y1 hx1 hy1
  rw [← h00] at b00
  rw [← h01] at b01
  rw [← h10] at b10
  rw [← h11] at b11
  have prod : (x1 * 4294967296 + x0) * (y1 * 4294967296 + y0) = p11 * 18446744073709551616 + (p10 + p01) * 4294967296 + p00 := by
    rw [h00, h01, h10, h11, Nat.add_mul, Nat.mul_add, Nat.mul_add]
    have e1 : x1 * 4294967296 * (y1 * 4294967296) = x1 * y1 * 18446744073709551616 := by
      rw [Nat.mul_mul_mul_comm]
    have e2 : x1 * 4294967296 * y0 = x1 * y0 * 4294967296 := by rw [Nat.mul_right_comm]
    have e3 : x0 * (y1 * 4294967296) = x0 * y1 * 4294967296 := by rw [Nat.mul_assoc]
    rw [e1, e2, e3]
    omega
  unfold bits_Mul64.f
  have ax := hi_part x1 x0 hx0
  have ay := hi_part y1 y0 hy0
  have mx_ := mask (x1 * 4294967296 + x0) ha
  have my_ := mask (y1 * 4294967296 + y0) hb
  rw [show (x1 * 4294967296 + x0) % 4294967296 = x0 by omega] at mx_
  rw [show (y1 * 4294967296 + y0) % 4294967296 = y0 by omega] at my_
  rw [ax, ay, mx_, my_]
  have c00 : (x0 : Int) * (y0 : Int) = (p00 : Int) := by rw [h00]; simp
  have c01 : (x0 : Int) * (y1 : Int) = (p01 : Int) := by rw [h01]; simp
  have c10 : (x1 : Int) * (y0 : Int) = (p10 : Int) := by rw [h10]; simp
  have c11 : (x1 : Int) * (y1 : Int) = (p11 : Int) := by rw [h11]; simp
  rw [c00, c01, c10, c11]
  have call : (((x1 * 4294967296 + x0 : Nat) : Int) * ((y1 * 4294967296 + y0 : Nat) : Int)) = ((p11 * 18446744073709551616 + (p10 + p01) * 4294967296 + p00 : Nat) : Int) := by rw [← prod]; simp
  rw [call, prod]
  rw [u64w_id (x := (p00 : Int)) (by omega) (by omega), u64w_id (x := (p10 : Int)) (by omega) (by omega), u64w_id (x := (p01 : Int)) (by omega) (by omega), u64w_id (x := (p11 : Int)) (by omega) (by omega)]
  have et : IntKind.u64.wrap ((p10 : Int) + (p00 : Int) / 4294967296) = ((p10 + p00 / 4294967296 : Nat) : Int) := by rw [u64w_id (by omega) (by omega)]; omega
  rw [et, mask (p10 + p00 / 4294967296) (by omega)]
  have hpow : (2 : Nat) ^ 64 = 18446744073709551616 := by decide
  rw [hpow]
  obtain ⟨t, ht⟩ : ∃ t, t = p10 + p00 / 4294967296 := ⟨_, rfl⟩
  rw [← ht]
  have e1 : IntKind.u64.wrap ((p11 : Int) + (t : Int) / 4294967296) = ((p11 + t / 4294967296 : Nat) : Int) := by rw [u64w_id (by omega) (by omega)]; omega
  have e2 : IntKind.u64.wrap (((t % 4294967296 : Nat) : Int) + (p01 : Int)) = ((t % 4294967296 + p01 : Nat) : Int) := by rw [u64w_id (by omega) (by omega)]; omega
  rw [e1, e2, u64w_id (by omega) (by omega), u64w]
  refine congrArg some (Prod.ext ?_ ?_) <;> simp only <;> omega
theorem impl_Wide_eq {a b : Nat} (ha : a < 2 ^ 64) (hb : b < 2 ^ 64) : impl_Wide.f (a : Int) (b : Int) = some (((a * b / 2 ^ 64 : Nat) : Int), ((a * b % 2 ^ 64 : Nat) : Int)) := by
  unfold impl_Wide.f
  rw [mul_parts ha hb]; rfl
/-- A number out of digits to the base 65536, the lowest first. -/
def valN : List Nat → Nat
  | [] => 0
  | d :: ds => d + 65536 * valN ds
def digs (a : Nat) : Nat → List Nat
  | 0 => []
  | d + 1 => a % 65536 :: digs (a / 65536) d
def Dig (s : List Nat) : Prop := ∀ x ∈ s, x < 65536
theorem digs_len (a : Nat) : ∀ d, (digs a d).length = d
  | 0 => rfl
  | d + 1 => by rw [digs, List.length_cons, digs_len]
theorem digs_dig : ∀ (d a : Nat), Dig (digs a d)
  | 0, _ => by intro x hx; cases hx
  | d + 1, a => by
    intro x hx
    rcases List.mem_cons.1 hx with rfl | hx
    · omega
    · exact digs_dig d _ x hx
theorem digs_val : ∀ (d a : Nat), a < 65536 ^ d → valN (digs a d) = a
  | 0, a, h => by simp at h; simp [digs, valN, h]
  | d + 1, a, h => by
    rw [digs, valN, digs_val d (a / 65536) (by rw [Nat.pow_succ] at h; exact Nat.div_lt_of_lt_mul (by rw [Nat.mul_comm]; exact h))]
    omega
theorem valN_lt : ∀ (s : List Nat), Dig s → valN s < 65536 ^ s.length
  | [], _ => by simp [valN]
  | d :: ds, h => by
    have h1 := valN_lt ds (fun x hx => h x (List.mem_cons_of_mem _ hx))
    have h2 := h d List.mem_cons_self
    rw [valN, List.length_cons, Nat.pow_succ]
    omega
def ints (s : List Nat) : List Int := s.map fun x : Nat => (x : Int)
theorem ints_len (s : List Nat) : (ints s).length = s.length := List.length_map ..
theorem rd_ints {s : List Nat} {n : Nat} (h : n < s.length) : rd (ints s) (n : Int) = (s[n] : Int) := by
  rw [rd_nat (by rw [ints_len]; exact h)]; simp [ints]
theorem ints_set (s : List Nat) (n d : Nat) : (ints s).set n (d : Int) = ints (s.set n d) := by unfold ints; rw [List.map_set]
theorem spec_l3Digits_l0 : ∀ (d a : Nat) (s : List Nat) (i : Int), i + d = 4 → 0 ≤ i → s.length + d ≤ 4 → a < 2 ^ 64 → Ev (fun k => spec_l3Digits.l0 k (a : Int) (ints s) i) (ints (s ++ digs a d)) := by
  intro d
  induction d with
  | zero =>
    intro a s i h h0 hs ha
    refine Ev.step (fun _ => spec_l3Digits.l0.eq_2 ..) ?_
    exact ev_neg (by omega) (ev_ret (by simp [digs]))
  | succ d ih =>
    intro a s i h h0 hs ha
    refine Ev.step (fun _ => spec_l3Digits.l0.eq_2 ..) ?_
    refine ev_pos (by omega) (ev_pos (by rw [ints_len]; omega) ?_)
    have ha2 : a < 18446744073709551616 := ha
    have e1 : IntKind.u64.wrap (Int.tdiv (a : Int) 65536) = ((a / 65536 : Nat) : Int) := by rw [show (65536 : Int) = ((65536 : Nat) : Int) from rfl, tdiv_nat, u64w_id (by omega) (by omega)]
    have e2 : Int.tmod (a : Int) 65536 = ((a % 65536 : Nat) : Int) := by rw [show (65536 : Int) = ((65536 : Nat) : Int) from rfl, tmod_nat]
    have e3 : ints s ++ [((a % 65536 : Nat) : Int)] = ints (s ++ [a % 65536]) := by simp [ints]
    rw [e1, e2, e3, w64_id (x := i + 1) (by omega) (by omega)]
    refine ev_eq ?_ (ih (a / 65536) (s ++ [a % 65536]) (i + 1) (by omega) (by omega) (by rw [List.length_append, List.length_singleton]; omega) (by omega))
    rw [List.append_assoc]; rfl
theorem spec_l3Digits_ev {a : Nat} (ha : a < 2 ^ 64) : Ev (fun k => spec_l3Digits.f k (a : Int)) (ints (digs a 4)) := by
  unfold spec_l3Digits.f
  exact spec_l3Digits_l0 4 a [] 0 (by omega) (by omega) (by simp) ha
theorem valN_set : ∀ (s : List Nat) (j d : Nat) (h : j < s.length), valN (s.set j d) + s[j] * 65536 ^ j = valN s + d * 65536 ^ j
  | x :: xs, 0, d, h => by simp [valN]; omega
  | x :: xs, j + 1, d, h => by
    have ih := valN_set xs j d (by simpa using h)
    simp only [List.set_cons_succ, valN, List.getElem_cons_succ, Nat.pow_succ]
    have e1 : xs[j]'(by simpa using h) * (65536 ^ j * 65536) = 65536 * (xs[j]'(by simpa using h) * 65536 ^ j) := by rw [← Nat.mul_assoc, Nat.mul_comm]
    have e2 : d * (65536 ^ j * 65536) = 65536 * (d * 65536 ^ j) := by rw [← Nat.mul_assoc, Nat.mul_comm]
    rw [e1, e2]
    omega
theorem valN_drop (s : List Nat) {j : Nat} (h : j < s.length) : valN (s.drop j) = s[j] + 65536 * valN (s.drop (j + 1)) := by
  rw [List.drop_eq_getElem_cons h, valN]
theorem valN_take : ∀ (s : List Nat) {j : Nat} (h : j < s.length), valN (s.take (j + 1)) = valN (s.take j) + s[j] * 65536 ^ j
  | x :: xs, 0, h => by simp [valN]
  | x :: xs, j + 1, h => by
    have ih := valN_take xs (j := j) (by simpa using h)
    rw [List.take_succ_cons, List.take_succ_cons, valN, valN, ih, List.getElem_cons_succ, Nat.pow_succ, Nat.mul_add]
    have e1 : xs[j]'(by simpa using h) * (65536 ^ j * 65536) = 65536 * (xs[j]'(by simpa using h) * 65536 ^ j) := by rw [← Nat.mul_assoc, Nat.mul_comm]
    rw [e1]
    omega
theorem Dig.set {s : List Nat} (h : Dig s) (j : Nat) {d : Nat} (hd : d < 65536) : Dig (s.set j d) := by
  intro x hx
  rcases List.mem_or_eq_of_mem_set hx with hx | rfl
  · exact h x hx
  · exact hd
/-- The carry of one digit's place. -/
theorem carry_law {P B sj m c t vs vs' : Nat} (ht : t = sj + m + c) (hv : vs' + sj * P = vs + t % B * P) : vs' + t / B * (P * B) = vs + c * P + m * P := by
  have h1 : t % B * P + t / B * (P * B) = t * P := by
    rw [Nat.mul_comm P B, ← Nat.mul_assoc, ← Nat.add_mul, Nat.mul_comm (t / B) B, Nat.mod_add_div]
  have h2 : t * P = sj * P + m * P + c * P := by rw [ht, Nat.add_mul, Nat.add_mul]
  omega
theorem step_sum {V P X Y m a c : Nat} (hm : m = X * Y) : a + c * P + m * P + X * (V * (P * 65536)) = a + c * P + X * ((Y + 65536 * V) * P) := by
  rw [Nat.add_mul, Nat.mul_add, ← Nat.mul_assoc X Y P, ← hm, Nat.mul_comm P 65536, ← Nat.mul_assoc V 65536 P, Nat.mul_comm V 65536, ← Nat.add_assoc]
theorem spec_Wide_l1 (x y : List Nat) (hx : x.length = 4) (hy : y.length = 4) (dx : Dig x) (dy : Dig y) (i : Nat) (hi : i < 4) (R : Int × Int) : ∀ (d k c : Nat) (s : List Nat), k + d = 4 → s.length = 8 → Dig s → c < 65536 →
    ∃ (c' : Nat) (s' : List Nat), c' < 65536 ∧ s'.length = 8 ∧ Dig s' ∧ valN s' + c' * 65536 ^ (i + 4) = valN s + c * 65536 ^ (i + k) + x[i] * (valN (y.drop k) * 65536 ^ (i + k)) ∧ (∀ j, i + 4 ≤ j → s'[j]? = s[j]?) ∧
      (Ev (fun n => spec_Wide.l0 n (ints x) (ints y) (ints (s'.set (i + 4) c')) ((i + 1 : Nat) : Int)) R → Ev (fun n => spec_Wide.l1 n (ints x) (ints y) (ints s) (i : Int) (c : Int) (k : Int)) R) := by
  intro d
  induction d with
  | zero =>
    intro k c s h hs ds hc
    obtain rfl : k = 4 := by omega
    refine ⟨c, s, hc, hs, ds, ?_, fun _ _ => rfl, fun H => ?_⟩
    · rw [List.drop_eq_nil_of_le (by omega)]; simp [valN]
    · refine Ev.step (fun _ => spec_Wide.l1.eq_2 ..) ?_
      have e1 : wrap64 ((i : Int) + 4) = ((i + 4 : Nat) : Int) := by rw [w64_id (by omega) (by omega)]; omega
      have e2 : wrap64 ((i : Int) + 1) = ((i + 1 : Nat) : Int) := by rw [w64_id (by omega) (by omega)]; omega
      refine ev_neg (by omega) ?_
      rw [e1, e2, ints_len, Int.toNat_natCast, ints_set]
      exact ev_pos (by omega) (ev_pos (by omega) H)
  | succ d ih =>
    intro k c s h hs ds hc
    have hik : i + k < s.length := by omega
    have hi4 : i < x.length := by omega
    have hk4 : k < y.length := by omega
    have hi8 : i + k < 8 := by omega
    have hk3 : k < 4 := by omega
    have hk5 : k + 1 + d = 4 := by omega
    have hxi := dx x[i] (List.getElem_mem hi4)
    have hyk := dy (y[k]'hk4) (List.getElem_mem _)
    have hsj := ds (s[i + k]'hik) (List.getElem_mem _)
    generalize hX : x[i] = X at *
    generalize hY : y[k]'hk4 = Y at *
    generalize hS : s[i + k]'hik = S at *
    obtain ⟨m, hm⟩ : ∃ m, m = X * Y := ⟨_, rfl⟩
    have hmb : m ≤ 65535 * 65535 := by rw [hm]; exact Nat.mul_le_mul (by omega) (by omega)
    obtain ⟨t, ht⟩ : ∃ t, t = S + m + c := ⟨_, rfl⟩
    have htb : t < 4294967296 := by clear hm; omega
    obtain ⟨c', s', hc', hs', ds', hval, hsame, hgo⟩ := ih (k + 1) (t / 65536) (s.set (i + k) (t % 65536)) hk5 (by rw [List.length_set]; exact hs) (ds.set _ (Nat.mod_lt _ (by decide))) (by clear hm; omega)
    refine ⟨c', s', hc', hs', ds', ?_, ?_, fun H => ?_⟩
    · have hv := valN_set s (i + k) (t % 65536) hik
      rw [hS] at hv
      have hcl := carry_law ht hv
      rw [hval, valN_drop y hk4, hY, show i + (k + 1) = i + k + 1 from rfl, Nat.pow_succ, hcl]
      exact step_sum hm
    · intro j hj
      rw [hsame j hj, List.getElem?_set_ne (by clear hval hm hmb ht htb; omega)]
    · clear hval hsame ih
      refine Ev.step (fun _ => spec_Wide.l1.eq_2 ..) ?_
      have e1 : wrap64 ((i : Int) + (k : Int)) = ((i + k : Nat) : Int) := by clear hm ht; rw [w64_id (by omega) (by omega)]; omega
      have e2 : wrap64 ((k : Int) + 1) = ((k + 1 : Nat) : Int) := by clear hm ht; rw [w64_id (by omega) (by omega)]; omega
      have e3 : (X : Int) * (Y : Int) = (m : Int) := by rw [hm]; simp
      have e4 : IntKind.u64.wrap (IntKind.u64.wrap ((S : Int) + IntKind.u64.wrap (m : Int)) + (c : Int)) = (t : Int) := by
        clear hm e3
        rw [u64w_id (x := (m : Int)) (by omega) (by omega), u64w_id (x := (S : Int) + (m : Int)) (by omega) (by omega), u64w_id (by omega) (by omega)]; omega
      have e5 : IntKind.u64.wrap (Int.tdiv (t : Int) 65536) = ((t / 65536 : Nat) : Int) := by
        clear hm e3 e4
        rw [show (65536 : Int) = ((65536 : Nat) : Int) from rfl, tdiv_nat, u64w_id (by omega) (by omega)]
      have e6 : Int.tmod (t : Int) 65536 = ((t % 65536 : Nat) : Int) := by rw [show (65536 : Int) = ((65536 : Nat) : Int) from rfl, tmod_nat]
      rw [e1, e2, ints_len, ints_len, ints_len, rd_ints hik, rd_ints hi4, rd_ints hk4, hX, hY, hS, e3, e4, e5, e6, Int.toNat_natCast, ints_set]
      clear hm ht e1 e2 e3 e4 e5 e6
      exact ev_pos (by omega) (ev_pos (by omega) (ev_pos (by omega) (ev_pos (by omega) (ev_pos (by omega) (ev_pos (by omega) (ev_pos (by omega) (hgo H)))))))
theorem spec_Wide_l3 (s : List Nat) (hs : s.length = 8) (ds : Dig s) (hi : Int) : ∀ (d acc : Nat) (i : Int), i = (d : Int) - 1 → d ≤ 4 → acc = valN ((s.take 4).drop d) → Ev (fun n => spec_Wide.l3 n (ints s) hi (acc : Int) i) (hi, (valN (s.take 4) : Int)) := by
  intro d
  induction d with
  | zero =>
    intro acc i h hd ha
    refine Ev.step (fun _ => spec_Wide.l3.eq_2 ..) ?_
    refine ev_neg (by omega) (ev_ret ?_)
    rw [ha]; rfl
  | succ d ih =>
    intro acc i h hd ha
    obtain rfl : i = (d : Int) := by omega
    refine Ev.step (fun _ => spec_Wide.l3.eq_2 ..) ?_
    rw [ints_len, rd_ints (by omega : d < s.length)]
    refine ev_pos (by omega) (ev_pos (by omega) (ev_pos (by omega) ?_))
    have hl : (s.take 4).length = 4 := by rw [List.length_take]; omega
    have e0 : valN ((s.take 4).drop d) = s[d] + 65536 * acc := by
      rw [valN_drop (s.take 4) (by omega : d < (s.take 4).length), ha, List.getElem_take]
    have hlt := valN_lt ((s.take 4).drop d) (fun x hx => ds x (List.mem_of_mem_take (List.mem_of_mem_drop hx)))
    have hp : 65536 ^ ((s.take 4).drop d).length ≤ 65536 ^ 4 := Nat.pow_le_pow_right (by decide) (by rw [List.length_drop, hl]; omega)
    have hlt2 : s[d] + 65536 * acc < 18446744073709551616 := by rw [← e0]; exact Nat.lt_of_lt_of_le hlt hp
    have e1 : IntKind.u64.wrap (IntKind.u64.wrap ((acc : Int) * 65536) + ((s[d] : Nat) : Int)) = ((s[d] + 65536 * acc : Nat) : Int) := by
      rw [u64w_id (x := (acc : Int) * 65536) (by omega) (by omega), u64w_id (by omega) (by omega)]; omega
    rw [e1, w64_id (x := (d : Int) - 1) (by omega) (by omega)]
    exact ih _ _ rfl (by omega) e0.symm
theorem spec_Wide_l2 (s : List Nat) (hs : s.length = 8) (ds : Dig s) : ∀ (d acc : Nat) (i : Int), i = (d : Int) + 3 → d ≤ 4 → acc = valN (s.drop (d + 4)) → Ev (fun n => spec_Wide.l2 n (ints s) (acc : Int) 0 i) ((valN (s.drop 4) : Int), (valN (s.take 4) : Int)) := by
  intro d
  induction d with
  | zero =>
    intro acc i h hd ha
    refine Ev.step (fun _ => spec_Wide.l2.eq_2 ..) ?_
    refine ev_neg (by omega) ?_
    rw [ha]
    refine spec_Wide_l3 s hs ds _ 4 0 3 (by omega) (by omega) ?_
    rw [List.drop_eq_nil_of_le (by rw [List.length_take]; omega)]; rfl
  | succ d ih =>
    intro acc i h hd ha
    obtain rfl : i = ((d + 4 : Nat) : Int) := by omega
    refine Ev.step (fun _ => spec_Wide.l2.eq_2 ..) ?_
    rw [ints_len, rd_ints (by omega : d + 4 < s.length)]
    refine ev_pos (by omega) (ev_pos (by omega) (ev_pos (by omega) ?_))
    have e0 : valN (s.drop (d + 4)) = s[d + 4] + 65536 * acc := by
      rw [valN_drop s (by omega : d + 4 < s.length), ha, show d + 1 + 4 = d + 4 + 1 by omega]
    have hlt := valN_lt (s.drop (d + 4)) (fun x hx => ds x (List.mem_of_mem_drop hx))
    have hp : 65536 ^ (s.drop (d + 4)).length ≤ 65536 ^ 4 := Nat.pow_le_pow_right (by decide) (by rw [List.length_drop]; omega)
    have hlt2 : s[d + 4] + 65536 * acc < 18446744073709551616 := by rw [← e0]; exact Nat.lt_of_lt_of_le hlt hp
    have e1 : IntKind.u64.wrap (IntKind.u64.wrap ((acc : Int) * 65536) + ((s[d + 4] : Nat) : Int)) = ((s[d + 4] + 65536 * acc : Nat) : Int) := by
      rw [u64w_id (x := (acc : Int) * 65536) (by omega) (by omega), u64w_id (by omega) (by omega)]; omega
    rw [e1, w64_id (x := ((d + 4 : Nat) : Int) - 1) (by omega) (by omega)]
    exact ih _ _ (by omega) (by omega) e0.symm
theorem spec_Wide_l0 (x y : List Nat) (hx : x.length = 4) (hy : y.length = 4) (dx : Dig x) (dy : Dig y) : ∀ (d i : Nat) (s : List Nat), i + d = 4 → s.length = 8 → Dig s → valN s = valN (x.take i) * valN y → (∀ j, i + 4 ≤ j → j < 8 → s[j]? = some 0) →
    Ev (fun n => spec_Wide.l0 n (ints x) (ints y) (ints s) (i : Int)) (((valN x * valN y / 2 ^ 64 : Nat) : Int), ((valN x * valN y % 2 ^ 64 : Nat) : Int)) := by
  intro d
  induction d with
  | zero =>
    intro i s h hs ds hv hz
    obtain rfl : i = 4 := by omega
    refine Ev.step (fun _ => spec_Wide.l0.eq_2 ..) ?_
    refine ev_neg (by omega) ?_
    refine ev_eq ?_ (spec_Wide_l2 s hs ds 4 0 7 (by omega) (by omega) (by rw [List.drop_eq_nil_of_le (by omega)]; rfl))
    rw [List.take_of_length_le (by omega)] at hv
    have split : valN s = valN (s.take 4) + 18446744073709551616 * valN (s.drop 4) := by
      match s, hs with
      | [a0, a1, a2, a3, a4, a5, a6, a7], _ => simp [valN]; omega
    have hlt := valN_lt (s.take 4) (fun z hz' => ds z (List.mem_of_mem_take hz'))
    rw [List.length_take, hs] at hlt
    have hlt2 : valN (s.take 4) < 18446744073709551616 := hlt
    rw [← hv, split, show (2 : Nat) ^ 64 = 18446744073709551616 by decide]
    refine Prod.ext ?_ ?_ <;> simp only <;> omega
  | succ d ih =>
    intro i s h hs ds hv hz
    obtain ⟨c', s', hc', hs', ds', hval, hsame, hgo⟩ := spec_Wide_l1 x y hx hy dx dy i (by omega) (((valN x * valN y / 2 ^ 64 : Nat) : Int), ((valN x * valN y % 2 ^ 64 : Nat) : Int)) 4 0 0 s (by omega) hs ds (by omega)
    refine Ev.step (fun _ => spec_Wide.l0.eq_2 ..) ?_
    refine ev_pos (by omega) ?_
    refine hgo (ih (i + 1) _ (by omega) (by rw [List.length_set]; exact hs') (ds'.set _ hc') ?_ ?_)
    · have h1 := valN_set s' (i + 4) c' (by omega)
      have h2 : s'[i + 4]'(by omega) = 0 := by
        have := (hsame (i + 4) (Nat.le_refl _)).trans (hz (i + 4) (Nat.le_refl _) (by omega))
        rw [List.getElem?_eq_getElem (by omega)] at this
        simpa using this
      rw [h2, Nat.zero_mul, Nat.add_zero] at h1
      rw [h1, hval, hv, valN_take x (by omega : i < x.length), Nat.zero_mul, Nat.add_zero, Nat.add_zero, List.drop_zero, Nat.add_mul, Nat.mul_comm (valN y), ← Nat.mul_assoc]
    · intro j hj hj8
      rw [List.getElem?_set_ne (by omega), hsame j (by omega)]
      exact hz j (by omega) hj8
theorem spec_Wide_ev {a b : Nat} (ha : a < 2 ^ 64) (hb : b < 2 ^ 64) : Ev (fun n => spec_Wide.f n (a : Int) (b : Int)) (((a * b / 2 ^ 64 : Nat) : Int), ((a * b % 2 ^ 64 : Nat) : Int)) := by
  unfold spec_Wide.f
  refine Ev.bind (spec_l3Digits_ev ha) (Ev.bind (spec_l3Digits_ev hb) (ev_pos (by decide) ?_))
  have := spec_Wide_l0 (digs a 4) (digs b 4) (digs_len _ _) (digs_len _ _) (digs_dig _ _) (digs_dig _ _) 4 0 (List.replicate 8 0) (by omega) (by simp) (by intro x hx; rw [List.eq_of_mem_replicate hx]; decide) (by simp [valN, List.replicate]) (by intro j hj hj8; rw [List.getElem?_replicate, if_pos hj8])
  rw [digs_val 4 a ha, digs_val 4 b hb] at this
  exact this
theorem FnExactWide : laws_FnExactWide.Pure := by
  intro a0 a1 h0 h1
  obtain ⟨a, rfl, ha⟩ := to_nat (m := 2 ^ 64) (wf_u64 h0).1 (wf_u64 h0).2
  obtain ⟨b, rfl, hb⟩ := to_nat (m := 2 ^ 64) (wf_u64 h1).1 (wf_u64 h1).2
  refine Ev.rounds ?_
  unfold laws_FnExactWide.f
  exact Ev.bind (spec_Wide_ev ha hb) (ev_bind0 (impl_Wide_eq ha hb) (ev_pos rfl (ev_pos rfl (ev_ret rfl))))
end Go.Proofs.Ytnncefankndkaab.Pure
