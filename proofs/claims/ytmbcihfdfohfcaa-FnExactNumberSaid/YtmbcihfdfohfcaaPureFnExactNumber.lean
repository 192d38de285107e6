/- For every input that the row lets in, FnExactNumber answers true; this text proves the plain law that is left when the machine's side is done. -/
import Derived.Test.YtmbcihfdfohfcaaPFnExactNumberx5
import Derived.Test.YtmbcihfdfohfcaaBase
set_option linter.unusedVariables false
set_option linter.unusedSimpArgs false
namespace Go.Proofs.Ytmbcihfdfohfcaa.Pure
open Go.RowKit Go.Proofs.Ytmbcihfdfohfcaa.PFnExactNumber Go.Proofs.YtmbcihfdfohfcaaW.PrintWords Go.Proofs.YtmbcihfdfohfcaaW.PrintLast Go.Proofs.YtmbcihfdfohfcaaW.PrintMore Go.Proofs.Ytmbcihfdfohfcaa.Base

theorem hi_part (x1 x0 : Nat) (h : x0 < 4294967296) : ((x1 * 4294967296 + x0 : Nat) : Int) / 4294967296 = (x1 : Int) := by omega
theorem mul_parts {a b : Nat} (ha : a < 2 ^ 64) (hb : b < 2 ^ 64) : bits_Mul64.f (a : Int) (b : Int) = some (((a * b / 2 ^ 64 : Nat) : Int), ((a * b % 2 ^ 64 : Nat) : Int)) := by
  have ha' : a < 18446744073709551616 := ha
  have hb' : b < 18446744073709551616 := hb
  obtain ⟨x1, x0, hx0, hx1, rfl⟩ : ∃ x1 x0, x0 < 4294967296 ∧ x1 < 4294967296 ∧ a = x1 * 4294967296 + x0 := ⟨a / 4294967296, a % 4294967296, by omega, by omega, by omega⟩
  obtain ⟨y1, y0, hy0, hy1, rfl⟩ : ∃ y1 y0, y0 < 4294967296 ∧ y1 < 4294967296 ∧ b = y1 * 4294967296 + y0 := ⟨b / 4294967296, b % 4294967296, by omega, by omega, by omega⟩
  have mask : ∀ n : Nat, n < 2 ^ 64 → Go.bits .and .u64 (n : Int) 4294967295 = ((n % 4294967296 : Nat) : Int) := by
    intro n hn
    rw [show (4294967295 : Int) = ((2 ^ 32 - 1 : Nat) : Int) by simp, and_nat hn (by decide), Nat.and_two_pow_sub_one_eq_mod]
  obtain ⟨p00, h00⟩ : ∃ p, p = x0 * y0 := ⟨_, rfl⟩
  obtain ⟨p01, h01⟩ : ∃ p, p = x0 * y1 := ⟨_, rfl⟩
  obtain ⟨p10, h10⟩ : ∃ p, p = x1 * y0 := ⟨_, rfl⟩
  obtain ⟨p11, h11⟩ : ∃ p, p = x1 * y1 := ⟨_, rfl⟩
  have bd : ∀ u v : Nat, u < 4294967296 → v < 4294967296 → u * v ≤ 4294967295 * 4294967295 := fun u v hu hv => Nat.mul_le_mul (by omega) (by omega)
  have b00 := bd x0 y0 hx0 hy0
  have b01 := bd x0 y1 hx0 hy1
  have b10 := bd x1 y0 hx1 hy0
  have b11 := bd x1 y1 hx1 hy1
  rw [← h00] at b00
  rw [← h01] at b01
  rw [← h10] at b10
  rw [← h11] at b11
  have prod : (x1 * 4294967296 + x0) * (y1 * 4294967296 + y0) = p11 * 18446744073709551616 + (p10 + p01) * 4294967296 + p00 := by
    rw [h00, h01, h10, h11, Nat.add_mul, Nat.mul_add, Nat.mul_add]
    have e1 : x1 * 4294967296 * (y1 * 4294967296) = x1 * y1 * 18446744073709551616 := by
      rw [Nat.mul_mul_mul_comm]
    have e2 : x1 * 4294967296 * y0 = x1 * y0 * 4294967296 := by rw [Nat.mul_right_comm]
    have e3 : x0 * (y1 * 4294967296) = x0 * y1 * 4294967296 := by rw [Nat.mul_assoc]
    rw [e1, e2, e3]
    omega
  unfold bits_Mul64.f
  have ax := hi_part x1 x0 hx0
  have ay := hi_part y1 y0 hy0
  have mx_ := mask (x1 * 4294967296 + x0) ha
  have my_ := mask (y1 * 4294967296 + y0) hb
  rw [show (x1 * 4294967296 + x0) % 4294967296 = x0 by omega] at mx_
  rw [show (y1 * 4294967296 + y0) % 4294967296 = y0 by omega] at my_
  rw [ax, ay, mx_, my_]
  have c00 : (x0 : Int) * (y0 : Int) = (p00 : Int) := by rw [h00]; simp
  have c01 : (x0 : Int) * (y1 : Int) = (p01 : Int) := by rw [h01]; simp
  have c10 : (x1 : Int) * (y0 : Int) = (p10 : Int) := by rw [h10]; simp
  have c11 : (x1 : Int) * (y1 : Int) = (p11 : Int) := by rw [h11]; simp
  rw [c00, c01, c10, c11]
  have call : (((x1 * 4294967296 + x0 : Nat) : Int) * ((y1 * 4294967296 + y0 : Nat) : Int)) = ((p11 * 18446744073709551616 + (p10 + p01) * 4294967296 + p00 : Nat) : Int) := by rw [← prod]; simp
  rw [call, prod]
  rw [u64w_id (x := (p00 : Int)) (by omega) (by omega), u64w_id (x := (p10 : Int)) (by omega) (by omega), u64w_id (x := (p01 : Int)) (by omega) (by omega), u64w_id (x := (p11 : Int)) (by omega) (by omega)]
  have et : IntKind.u64.wrap ((p10 : Int) + (p00 : Int) / 4294967296) = ((p10 + p00 / 4294967296 : Nat) : Int) := by rw [u64w_id (by omega) (by omega)]; omega
  rw [et, mask (p10 + p00 / 4294967296) (by omega)]
  have hpow : (2 : Nat) ^ 64 = 18446744073709551616 := by decide
  rw [hpow]
  obtain ⟨t, ht⟩ : ∃ t, t = p10 + p00 / 4294967296 := ⟨_, rfl⟩
  rw [← ht]
  have e1 : IntKind.u64.wrap ((p11 : Int) + (t : Int) / 4294967296) = ((p11 + t / 4294967296 : Nat) : Int) := by rw [u64w_id (by omega) (by omega)]; omega
  have e2 : IntKind.u64.wrap (((t % 4294967296 : Nat) : Int) + (p01 : Int)) = ((t % 4294967296 + p01 : Nat) : Int) := by rw [u64w_id (by omega) (by omega)]; omega
  rw [e1, e2, u64w_id (by omega) (by omega), u64w]
  refine congrArg some (Prod.ext ?_ ?_) <;> simp only <;> omega
/-- A digit's worth, 99 where it is none. -/
def digV (c : Int) : Int := if 48 ≤ c ∧ c ≤ 57 then c - 48 else if 97 ≤ c ∧ c ≤ 102 then c - 87 else 99
theorem digV_range {c : Int} (h : 0 ≤ c ∧ c ≤ 255) : 0 ≤ digV c ∧ digV c ≤ 99 := by
  unfold digV; split
  · omega
  · split <;> omega
theorem spec_l1Digit_ev {c : Int} (h : 0 ≤ c ∧ c ≤ 255) : Ev (fun k => spec_l1Digit.f k c) (digV c) := by
  unfold spec_l1Digit.f digV
  have bad : ¬ (48 ≤ c ∧ c ≤ 57) → Ev (fun k => spec_l1Digit.j0 k c false) (if 48 ≤ c ∧ c ≤ 57 then c - 48 else if 97 ≤ c ∧ c ≤ 102 then c - 87 else 99) := by
    intro hn
    rw [if_neg hn]
    refine Ev.step (fun _ => spec_l1Digit.j0.eq_2 ..) (ev_neg (by decide) ?_)
    by_cases h1 : c ≥ 97
    · refine ev_pos h1 ?_
      by_cases h2 : c ≤ 102
      · refine ev_eq (if_pos (show 97 ≤ c ∧ c ≤ 102 from ⟨h1, h2⟩)).symm (ev_pos h2 (ev_ret ?_))
        rw [w64_id (x := c) (by omega) (by omega), w64_id (x := c - 97) (by omega) (by omega), w64_id (by omega) (by omega)]; omega
      · exact ev_eq (if_neg (fun h : 97 ≤ c ∧ c ≤ 102 => h2 h.2)).symm (ev_neg h2 (ev_ret rfl))
    · exact ev_eq (if_neg (fun h : 97 ≤ c ∧ c ≤ 102 => h1 h.1)).symm (ev_neg h1 (ev_ret rfl))
  by_cases h1 : c ≥ 48
  · refine ev_pos h1 ?_
    by_cases h2 : c ≤ 57
    · rw [decide_eq_true h2, if_pos ⟨h1, h2⟩]
      refine Ev.step (fun _ => spec_l1Digit.j0.eq_2 ..) (ev_pos rfl (ev_ret ?_))
      rw [w64_id (x := c) (by omega) (by omega), w64_id (by omega) (by omega)]
    · rw [decide_eq_false h2]; exact bad (by omega)
  · exact ev_neg h1 (bad (by omega))
/-- What the digits make from the i-th on, d of them left; nothing where one is none, or where the number grows too long. -/
def digsV (s : ByteArray) (b : Int) : Nat → Int → Nat → Option Int
  | 0, v, _ => some v
  | d + 1, v, i => if digV (bt s i) ≥ b then none else if v * b + digV (bt s i) ≥ 18446744073709551616 then none else digsV s b d (v * b + digV (bt s i)) (i + 1)
def outV : Option Int → Int × Bool
  | none => (0, false)
  | some v => (v, true)
theorem digsV_range (s : ByteArray) (b : Int) (hb : 0 ≤ b) : ∀ (d : Nat) (v : Int) (i : Nat) (r : Int), 0 ≤ v → v < 18446744073709551616 → digsV s b d v i = some r → 0 ≤ r ∧ r < 18446744073709551616 := by
  intro d
  induction d with
  | zero => intro v i r h0 h1 h; simp only [digsV, Option.some.injEq] at h; omega
  | succ d ih =>
    intro v i r h0 h1 h
    simp only [digsV] at h
    split at h
    · cases h
    · split at h
      · cases h
      · have hd := digV_range (bt_range s i)
        exact ih _ _ _ (by have := Int.mul_nonneg h0 hb; omega) (by omega) h
theorem spec_l1Digits_l0 (s : ByteArray) (hs : s.size ≤ 4611686018427387904) {b : Int} (hb : b = 10 ∨ b = 16) : ∀ (d i : Nat) (v : Int), i + d = s.size → 0 ≤ v → v < 18446744073709551616 → Ev (fun k => spec_l1Digits.l0 k s b v (i : Int)) (outV (digsV s b d v i)) := by
  intro d
  induction d with
  | zero =>
    intro i v h h0 h1
    exact Ev.step (fun _ => spec_l1Digits.l0.eq_2 ..) (ev_neg (by omega) (ev_ret rfl))
  | succ d ih =>
    intro i v h h0 h1
    have hr := bt_range s (i : Int)
    have hd := digV_range hr
    refine Ev.step (fun _ => spec_l1Digits.l0.eq_2 ..) (ev_pos (by omega) (ev_pos (by omega) (Ev.bind (spec_l1Digit_ev hr) ?_)))
    simp only [digsV]
    by_cases h2 : digV (bt s i) ≥ b
    · rw [if_pos h2]; exact ev_pos h2 (ev_ret rfl)
    · rw [if_neg h2]
      have eb : IntKind.u64.wrap b = b := u64w_id (by omega) (by omega)
      have ed : IntKind.u64.wrap (digV (bt s i)) = digV (bt s i) := u64w_id (by omega) (by omega)
      rw [eb, ed]
      have e1 : IntKind.u64.wrap (18446744073709551615 - digV (bt s i)) = 18446744073709551615 - digV (bt s i) := u64w_id (by omega) (by omega)
      have e2 : Int.tdiv (18446744073709551615 - digV (bt s i)) b = (18446744073709551615 - digV (bt s i)) / b := Int.tdiv_eq_ediv_of_nonneg (by omega)
      rw [e1, e2]
      generalize digV (bt s (i : Int)) = c at *
      have e3 : IntKind.u64.wrap ((18446744073709551615 - c) / b) = (18446744073709551615 - c) / b := by rcases hb with rfl | rfl <;> exact u64w_id (by omega) (by omega)
      rw [e3]
      refine ev_neg h2 (ev_neg (by omega) ?_)
      by_cases h3 : v * b + c ≥ 18446744073709551616
      · rw [if_pos h3]
        exact ev_pos (by rcases hb with rfl | rfl <;> omega) (ev_ret rfl)
      · rw [if_neg h3]
        refine ev_neg (by rcases hb with rfl | rfl <;> omega) ?_
        have hv : 0 ≤ v * b := by rcases hb with rfl | rfl <;> omega
        rw [u64w_id (x := v * b) hv (by omega), u64w_id (x := v * b + c) (by omega) (by omega), w64_id (by omega) (by omega)]
        exact ih (i + 1) (v * b + c) (by omega) (by omega) (by omega)
def digitsV (s : ByteArray) (b : Int) : Option Int := if s.size = 0 then none else digsV s b s.size 0 0
theorem digitsV_range {s : ByteArray} {b r : Int} (hb : 0 ≤ b) (h : digitsV s b = some r) : 0 ≤ r ∧ r < 18446744073709551616 := by
  unfold digitsV at h
  split at h
  · cases h
  · exact digsV_range s b hb _ _ _ _ (by omega) (by omega) h
theorem spec_l1Digits_ev {s : ByteArray} (hs : s.size ≤ 4611686018427387904) {b : Int} (hb : b = 10 ∨ b = 16) : Ev (fun k => spec_l1Digits.f k s b) (outV (digitsV s b)) := by
  unfold spec_l1Digits.f digitsV
  by_cases h : s.size = 0
  · rw [if_pos h]; exact ev_pos (by omega) (ev_ret rfl)
  · rw [if_neg h]; exact ev_neg (by omega) (spec_l1Digits_l0 s hs hb s.size 0 0 (by omega) (by omega) (by omega))
/-- The number with its sign. -/
def signV (neg : Bool) : Option Int → Int × Bool
  | none => (0, false)
  | some v => if neg then (if v > 9223372036854775808 then (0, false) else (wrap64 (IntKind.u64.wrap (-v)), true)) else (wrap64 v, true)
def isHex (s : ByteArray) : Bool := decide (2 ≤ s.size ∧ bt s 0 = 48 ∧ bt s 1 = 120)
def bodyV (s : ByteArray) : Option Int := if isHex s then digitsV (s.extract 2 s.size) 16 else digitsV s 10
def charV (s : ByteArray) : Int × Bool :=
  if s.size = 3 ∧ bt s 2 = 39 ∧ 32 ≤ bt s 1 ∧ bt s 1 ≤ 126 ∧ bt s 1 ≠ 39 ∧ bt s 1 ≠ 92 then (bt s 1, true)
  else if s.size = 4 ∧ bt s 1 = 92 ∧ bt s 3 = 39 then (if bt s 2 = 110 then (10, true) else if bt s 2 = 116 then (9, true) else if bt s 2 = 48 then (0, true) else if bt s 2 = 92 then (92, true) else if bt s 2 = 39 then (39, true) else (0, false))
  else (0, false)
def isNeg (s : ByteArray) : Bool := decide (1 ≤ s.size ∧ bt s 0 = 45)
def numV (s : ByteArray) : Int × Bool :=
  if s.size > 40 then (0, false) else if 1 ≤ s.size ∧ bt s 0 = 39 then charV s else if isNeg s then signV true (bodyV (s.extract 1 s.size)) else signV false (bodyV s)
theorem w64_bt (s : ByteArray) (i : Int) : wrap64 (bt s i) = bt s i := by have := bt_range s i; exact w64_id (by omega) (by omega)
/-- A slash and a letter. -/
theorem esc_ev {g : Nat → Option (Int × Bool)} {s : ByteArray} {b : Bool} (hs : b = true → s.size = 4)
    (hg : ∀ k, g (k + 1) = if b = true then (if 2 < (s.size : Int) then (if (bt s 2) = 110 then (some (10, true)) else (if (bt s 2) = 116 then (some (9, true)) else (if (bt s 2) = 48 then (some (0, true)) else (if (bt s 2) = 92 then (some (wrap64 (bt s 2), true)) else (if (bt s 2) = 39 then (some (wrap64 (bt s 2), true)) else (some (0, false))))))) else (none)) else (some (0, false))) :
    Ev g (if b then (if bt s 2 = 110 then (10, true) else if bt s 2 = 116 then (9, true) else if bt s 2 = 48 then (0, true) else if bt s 2 = 92 then (92, true) else if bt s 2 = 39 then (39, true) else (0, false)) else (0, false)) := by
  refine Ev.step hg ?_
  rw [w64_bt]
  cases b with
  | false => exact ev_neg (by decide) (ev_ret rfl)
  | true =>
    have := hs rfl
    refine ev_pos rfl (ev_pos (by omega) ?_)
    rw [if_pos rfl]
    by_cases h1 : bt s 2 = 110
    · exact ev_eq (if_pos h1).symm (ev_pos h1 (ev_ret rfl))
    · refine ev_eq (if_neg h1).symm (ev_neg h1 ?_)
      by_cases h2 : bt s 2 = 116
      · exact ev_eq (if_pos h2).symm (ev_pos h2 (ev_ret rfl))
      · refine ev_eq (if_neg h2).symm (ev_neg h2 ?_)
        by_cases h3 : bt s 2 = 48
        · exact ev_eq (if_pos h3).symm (ev_pos h3 (ev_ret rfl))
        · refine ev_eq (if_neg h3).symm (ev_neg h3 ?_)
          by_cases h4 : bt s 2 = 92
          · exact ev_eq (if_pos h4).symm (ev_pos h4 (ev_ret (by rw [h4])))
          · refine ev_eq (if_neg h4).symm (ev_neg h4 ?_)
            by_cases h5 : bt s 2 = 39
            · exact ev_eq (if_pos h5).symm (ev_pos h5 (ev_ret (by rw [h5])))
            · exact ev_eq (if_neg h5).symm (ev_neg h5 (ev_ret rfl))
theorem spec_l1Char_ev {s : ByteArray} (h0 : bt s 0 = 39) (hs1 : 1 ≤ s.size) : Ev (fun k => spec_l1Char.f k s) (charV s) := by
  unfold spec_l1Char.f
  have rest : ¬ (s.size = 3 ∧ bt s 2 = 39 ∧ 32 ≤ bt s 1 ∧ bt s 1 ≤ 126 ∧ bt s 1 ≠ 39 ∧ bt s 1 ≠ 92) → Ev (fun k => spec_l1Char.j0 k s false) (charV s) := by
    intro hn
    unfold charV
    rw [if_neg hn]
    refine Ev.step (fun _ => spec_l1Char.j0.eq_2 ..) (ev_neg (by decide) ?_)
    by_cases h4 : s.size = 4
    · refine ev_pos (by omega) (ev_pos (by omega) (ev_pos h0 (ev_pos (by omega) ?_)))
      by_cases h1 : bt s 1 = 92
      · refine ev_pos h1 (ev_pos (by omega) ?_)
        refine ev_eq ?_ (esc_ev (s := s) (b := bt s 3 == 39) (fun _ => h4) (fun _ => spec_l1Char.j1.eq_2 ..))
        by_cases h3 : bt s 3 = 39
        · rw [if_pos (show (bt s 3 == 39) = true by simpa using h3), if_pos (show s.size = 4 ∧ bt s 1 = 92 ∧ bt s 3 = 39 from ⟨h4, h1, h3⟩)]
        · rw [if_neg (show ¬ (bt s 3 == 39) = true by simpa using h3), if_neg (fun h : s.size = 4 ∧ bt s 1 = 92 ∧ bt s 3 = 39 => h3 h.2.2)]
      · rw [if_neg (fun h => h1 h.2.1)]
        exact ev_neg h1 (esc_ev (s := s) (b := false) (fun h => nomatch h) (fun _ => spec_l1Char.j1.eq_2 ..))
    · rw [if_neg (fun h => h4 h.1)]
      exact ev_neg (by omega) (esc_ev (s := s) (b := false) (fun h => nomatch h) (fun _ => spec_l1Char.j1.eq_2 ..))
  by_cases h3 : s.size = 3
  · refine ev_pos (by omega) (ev_pos (by omega) (ev_pos h0 (ev_pos (by omega) ?_)))
    by_cases h2 : bt s 2 = 39
    · refine ev_pos h2 (ev_pos (by omega) ?_)
      by_cases c1 : bt s 1 ≥ 32
      · refine ev_pos c1 ?_
        by_cases c2 : bt s 1 ≤ 126
        · refine ev_pos c2 ?_
          by_cases c3 : bt s 1 = 39
          · exact ev_pos c3 (rest (fun h => h.2.2.2.2.1 c3))
          · refine ev_neg c3 ?_
            by_cases c4 : bt s 1 = 92
            · rw [show (bt s 1 != 92) = false by simpa using c4]
              exact rest (fun h => h.2.2.2.2.2 c4)
            · rw [show (bt s 1 != 92) = true by simpa using c4]
              unfold charV
              rw [if_pos ⟨h3, h2, c1, c2, c3, c4⟩]
              exact Ev.step (fun _ => spec_l1Char.j0.eq_2 ..) (ev_pos rfl (ev_pos (by omega) (ev_ret (by rw [w64_bt]))))
        · exact ev_neg c2 (rest (fun h => c2 h.2.2.2.1))
      · exact ev_neg c1 (rest (fun h => c1 h.2.2.1))
    · exact ev_neg h2 (rest (fun h => h2 h.2.1))
  · exact ev_neg (by omega) (rest (fun h => h3 h.1))
theorem spec_Number_j3 (neg : Bool) (o : Option Int) (h : ∀ r, o = some r → 0 ≤ r ∧ r < 18446744073709551616) : Ev (fun k => spec_Number.j3 k neg (outV o).1 (outV o).2) (signV neg o) := by
  refine Ev.step (fun _ => spec_Number.j3.eq_2 ..) ?_
  cases o with
  | none => exact ev_neg (by decide) (ev_ret rfl)
  | some v =>
    refine ev_pos rfl ?_
    cases neg with
    | true =>
      refine ev_pos rfl ?_
      show Ev _ (if v > 9223372036854775808 then (0, false) else (wrap64 (IntKind.u64.wrap (-v)), true))
      by_cases h1 : v > 9223372036854775808
      · exact ev_eq (if_pos h1).symm (ev_pos h1 (ev_ret rfl))
      · exact ev_eq (if_neg h1).symm (ev_neg h1 (ev_ret rfl))
    | false => exact ev_neg (by decide) (ev_ret rfl)
theorem no_digits {s : ByteArray} (h : s.size = 0) (b : Int) : digitsV s b = none := by unfold digitsV; rw [if_pos h]
theorem not_dec {s : ByteArray} (h : s.size = 2) (h1 : bt s 1 = 120) : digitsV s 10 = none := by
  unfold digitsV
  rw [if_neg (by omega), h]
  simp only [digsV]
  split
  · rfl
  · split
    · rfl
    · rw [if_pos (by have : bt s ((0 + 1 : Nat) : Int) = 120 := h1
                     rw [this]; decide)]
theorem ext_size (s : ByteArray) (n : Nat) : (s.extract n s.size).size = s.size - n := by simp
theorem spec_Number_j1 (neg : Bool) {s : ByteArray} (hs : s.size ≤ 40) : Ev (fun k => spec_Number.j1 k s neg) (signV neg (bodyV s)) := by
  have dec : bodyV s = digitsV s 10 → Ev (fun k => spec_Number.j2 k s neg false) (signV neg (bodyV s)) := by
    intro h
    rw [h]
    refine Ev.step (fun _ => spec_Number.j2.eq_2 ..) (ev_neg (by decide) (Ev.bind (spec_l1Digits_ev (by omega) (.inl rfl)) ?_))
    exact spec_Number_j3 neg _ (fun r hr => digitsV_range (by decide) hr)
  refine Ev.step (fun _ => spec_Number.j1.eq_2 ..) ?_
  by_cases h1 : (s.size : Int) > 2
  · refine ev_pos h1 (ev_pos (by omega) ?_)
    by_cases h2 : bt s 0 = 48
    · refine ev_pos h2 (ev_pos (by omega) ?_)
      by_cases h3 : bt s 1 = 120
      · rw [show (bt s 1 == 120) = true by simpa using h3]
        have e : bodyV s = digitsV (s.extract 2 s.size) 16 := by unfold bodyV; rw [if_pos (show isHex s = true from decide_eq_true ⟨by omega, h2, h3⟩)]
        rw [e]
        refine Ev.step (fun _ => spec_Number.j2.eq_2 ..) (ev_pos rfl (ev_pos (by omega) (Ev.bind (spec_l1Digits_ev (by rw [ext_size]; omega) (.inr rfl)) ?_)))
        exact spec_Number_j3 neg _ (fun r hr => digitsV_range (by decide) hr)
      · rw [show (bt s 1 == 120) = false by simpa using h3]
        exact dec (by unfold bodyV; rw [if_neg (by simp [isHex, h3])])
    · exact ev_neg h2 (dec (by unfold bodyV; rw [if_neg (by simp [isHex, h2])]))
  · refine ev_neg h1 (dec ?_)
    unfold bodyV
    by_cases h2 : isHex s = true
    · have h3 := of_decide_eq_true h2
      rw [if_pos h2, no_digits (by rw [ext_size]; omega), not_dec (by omega) h3.2.2]
    · rw [if_neg h2]
theorem spec_Number_ev (s : ByteArray) (hs : s.size ≤ 1048576) : Ev (fun k => spec_Number.f k s) (numV s) := by
  unfold spec_Number.f
  by_cases h0 : s.size = 0
  · refine ev_pos (by omega) (Ev.step (fun _ => spec_Number.j0.eq_2 ..) (ev_pos rfl (ev_ret ?_)))
    unfold numV
    have h1 : isHex s = false := by simp [isHex, h0]
    rw [if_neg (by omega), if_neg (by omega), if_neg (by simp [isNeg, h0])]
    unfold bodyV
    rw [h1, if_neg (by decide), no_digits h0]; rfl
  · refine ev_neg (by omega) ?_
    by_cases h1 : s.size > 40
    · rw [decide_eq_true (by omega : (s.size : Int) > 40)]
      unfold numV
      rw [if_pos h1]
      exact Ev.step (fun _ => spec_Number.j0.eq_2 ..) (ev_pos rfl (ev_ret rfl))
    · rw [decide_eq_false (by omega : ¬ (s.size : Int) > 40)]
      refine Ev.step (fun _ => spec_Number.j0.eq_2 ..) (ev_neg (by decide) (ev_pos (by omega) ?_))
      unfold numV
      rw [if_neg h1]
      by_cases h2 : bt s 0 = 39
      · rw [if_pos ⟨by omega, h2⟩]
        exact ev_pos h2 (Ev.bind (spec_l1Char_ev h2 (by omega)) (ev_ret rfl))
      · rw [if_neg (fun h => h2 h.2)]
        refine ev_neg h2 ?_
        by_cases h3 : bt s 0 = 45
        · rw [if_pos (show isNeg s = true from decide_eq_true ⟨by omega, h3⟩), show (bt s 0 == 45) = true by simpa using h3]
          exact ev_pos h3 (ev_pos (by omega) (spec_Number_j1 true (by rw [ext_size]; omega)))
        · rw [if_neg (by simp [isNeg, h3]), show (bt s 0 == 45) = false by simpa using h3]
          exact ev_neg h3 (spec_Number_j1 false (by omega))
theorem ext_zero (s : ByteArray) (a : Nat) : (s.extract 0 a).data.toList = s.data.toList.take a := by
  rw [ByteArray.data_extract, Array.toList_extract]; simp
theorem pre_eq (s p : ByteArray) : strings_HasPrefix.f s p = some (decide (p.data.toList <+: s.data.toList)) := by
  have e : stringslite_HasPrefix.f s p = some (decide (p.data.toList <+: s.data.toList)) := by
    unfold stringslite_HasPrefix.f
    have hp : p.data.toList.length = p.size := by simp
    have hsz : s.data.toList.length = s.size := by simp
    by_cases h : (s.size : Int) ≥ (p.size : Int)
    · rw [if_pos h, if_pos (by omega), if_pos (by omega), Int.toNat_natCast, ByteArray.toList_eq, ByteArray.toList_eq, ext_zero]
      congr 1
      rw [Bool.eq_iff_iff, beq_iff_eq, decide_eq_true_iff, List.prefix_iff_eq_take, hp]
      exact eq_comm
    · rw [if_neg h]
      congr 1
      symm
      rw [decide_eq_false_iff_not]
      intro h2
      have := h2.length_le
      omega
  unfold strings_HasPrefix.f
  rw [e]; rfl
theorem stringslite_pre (s p : ByteArray) : stringslite_HasPrefix.f s p = some (decide (p.data.toList <+: s.data.toList)) := by
  have := pre_eq s p
  unfold strings_HasPrefix.f at this
  cases h : stringslite_HasPrefix.f s p with
  | none => rw [h] at this; cases this
  | some b => rw [h] at this; exact this
theorem cut_eq (s p : ByteArray) : strings_CutPrefix.f s p = some (if p.data.toList <+: s.data.toList then (s.extract p.size s.size, true) else (s, false)) := by
  have e : stringslite_CutPrefix.f s p = some (if p.data.toList <+: s.data.toList then (s.extract p.size s.size, true) else (s, false)) := by
    unfold stringslite_CutPrefix.f
    rw [stringslite_pre, Option.bind_some]
    by_cases h : p.data.toList <+: s.data.toList
    · have h2 := h.length_le
      have hp : p.data.toList.length = p.size := by simp
      have hsz : s.data.toList.length = s.size := by simp
      rw [decide_eq_true h, if_pos rfl, if_pos (by omega), if_pos (by omega), if_pos h, Int.toNat_natCast]
    · rw [decide_eq_false h, if_neg (by decide), if_neg h]
  unfold strings_CutPrefix.f
  rw [e]; rfl
theorem bt_nat {s : ByteArray} {i : Nat} (h : i < s.size) : bt s i = ((s.data.toList[i]'(by simpa using h)).toNat : Int) := by
  unfold bt
  rw [dif_pos (by simpa using h)]
  rfl
theorem pre_one (s : ByteArray) (b : UInt8) : ((⟨#[b]⟩ : ByteArray).data.toList <+: s.data.toList) ↔ (1 ≤ s.size ∧ bt s 0 = (b.toNat : Int)) := by
  have hsz : s.data.toList.length = s.size := by simp
  constructor
  · intro h
    have h1 : 1 ≤ s.size := by have := h.length_le; simp only [List.length_singleton] at this; omega
    refine ⟨h1, ?_⟩
    obtain ⟨t, ht⟩ := h
    have e := bt_nat (s := s) (i := 0) (by omega)
    rw [show ((0 : Nat) : Int) = 0 from rfl] at e
    rw [e]
    simp only [← ht]
    rfl
  · rintro ⟨h1, h2⟩
    have e := bt_nat (s := s) (i := 0) (by omega)
    rw [show ((0 : Nat) : Int) = 0 from rfl, h2] at e
    refine ⟨s.data.toList.drop 1, ?_⟩
    have e2 : s.data.toList[0]'(by omega) = b := UInt8.toNat_inj.1 (by omega)
    show b :: s.data.toList.drop 1 = _
    rw [← e2, ← List.drop_eq_getElem_cons (i := 0) (by omega)]; rfl
theorem pre_two (s : ByteArray) (b c : UInt8) : ((⟨#[b, c]⟩ : ByteArray).data.toList <+: s.data.toList) ↔ (2 ≤ s.size ∧ bt s 0 = (b.toNat : Int) ∧ bt s 1 = (c.toNat : Int)) := by
  have hsz : s.data.toList.length = s.size := by simp
  constructor
  · intro h
    have h1 : 2 ≤ s.size := by have := h.length_le; simp only [List.length_cons, List.length_nil] at this; omega
    obtain ⟨t, ht⟩ := h
    have e := bt_nat (s := s) (i := 0) (by omega)
    have e' := bt_nat (s := s) (i := 1) (by omega)
    rw [show ((0 : Nat) : Int) = 0 from rfl] at e
    rw [show ((1 : Nat) : Int) = 1 from rfl] at e'
    refine ⟨h1, ?_, ?_⟩
    · rw [e]; simp only [← ht]; rfl
    · rw [e']; simp only [← ht]; rfl
  · rintro ⟨h1, h2, h3⟩
    have e := bt_nat (s := s) (i := 0) (by omega)
    have e' := bt_nat (s := s) (i := 1) (by omega)
    rw [show ((0 : Nat) : Int) = 0 from rfl, h2] at e
    rw [show ((1 : Nat) : Int) = 1 from rfl, h3] at e'
    refine ⟨s.data.toList.drop 2, ?_⟩
    have e2 : s.data.toList[0]'(by omega) = b := UInt8.toNat_inj.1 (by omega)
    have e3 : s.data.toList[1]'(by omega) = c := UInt8.toNat_inj.1 (by omega)
    show b :: c :: s.data.toList.drop 2 = _
    rw [← e2, ← e3, ← List.drop_eq_getElem_cons (i := 1) (by omega), ← List.drop_eq_getElem_cons (i := 0) (by omega)]; rfl
theorem impl_char_ev {s : ByteArray} : Ev (fun k => if (s.size : Int) = 3 then (if 2 < (s.size : Int) then (if (bt s 2) = 39 then (if 1 < (s.size : Int) then (if (bt s 1) ≥ 32 then (if (bt s 1) ≤ 126 then (if (bt s 1) = 39 then (impl_Number.j0 k s false) else (impl_Number.j0 k s ((bt s 1) != 92))) else (impl_Number.j0 k s false)) else (impl_Number.j0 k s false)) else (none)) else (impl_Number.j0 k s false)) else (none)) else (impl_Number.j0 k s false)) (charV s) := by
  have rest : ¬ (s.size = 3 ∧ bt s 2 = 39 ∧ 32 ≤ bt s 1 ∧ bt s 1 ≤ 126 ∧ bt s 1 ≠ 39 ∧ bt s 1 ≠ 92) → Ev (fun k => impl_Number.j0 k s false) (charV s) := by
    intro hn
    unfold charV
    rw [if_neg hn]
    refine Ev.step (fun _ => impl_Number.j0.eq_2 ..) (ev_neg (by decide) ?_)
    by_cases h4 : s.size = 4
    · refine ev_pos (by omega) (ev_pos (by omega) ?_)
      by_cases h3 : bt s 3 = 39
      · refine ev_pos h3 (ev_pos (by omega) ?_)
        refine ev_eq ?_ (esc_ev (s := s) (b := bt s 1 == 92) (fun _ => h4) (fun _ => impl_Number.j1.eq_2 ..))
        by_cases h1 : bt s 1 = 92
        · rw [if_pos (show (bt s 1 == 92) = true by simpa using h1), if_pos (show s.size = 4 ∧ bt s 1 = 92 ∧ bt s 3 = 39 from ⟨h4, h1, h3⟩)]
        · rw [if_neg (show ¬ (bt s 1 == 92) = true by simpa using h1), if_neg (fun h : s.size = 4 ∧ bt s 1 = 92 ∧ bt s 3 = 39 => h1 h.2.1)]
      · rw [if_neg (fun h => h3 h.2.2)]
        exact ev_neg h3 (esc_ev (s := s) (b := false) (fun h => nomatch h) (fun _ => impl_Number.j1.eq_2 ..))
    · rw [if_neg (fun h => h4 h.1)]
      exact ev_neg (by omega) (esc_ev (s := s) (b := false) (fun h => nomatch h) (fun _ => impl_Number.j1.eq_2 ..))
  by_cases h3 : s.size = 3
  · refine ev_pos (by omega) (ev_pos (by omega) ?_)
    by_cases h2 : bt s 2 = 39
    · refine ev_pos h2 (ev_pos (by omega) ?_)
      by_cases c1 : bt s 1 ≥ 32
      · refine ev_pos c1 ?_
        by_cases c2 : bt s 1 ≤ 126
        · refine ev_pos c2 ?_
          by_cases c3 : bt s 1 = 39
          · exact ev_pos c3 (rest (fun h => h.2.2.2.2.1 c3))
          · refine ev_neg c3 ?_
            by_cases c4 : bt s 1 = 92
            · rw [show (bt s 1 != 92) = false by simpa using c4]
              exact rest (fun h => h.2.2.2.2.2 c4)
            · rw [show (bt s 1 != 92) = true by simpa using c4]
              unfold charV
              rw [if_pos ⟨h3, h2, c1, c2, c3, c4⟩]
              exact Ev.step (fun _ => impl_Number.j0.eq_2 ..) (ev_pos rfl (ev_pos (by omega) (ev_ret (by rw [w64_bt]))))
        · exact ev_neg c2 (rest (fun h => c2 h.2.2.2.1))
      · exact ev_neg c1 (rest (fun h => c1 h.2.2.1))
    · exact ev_neg h2 (rest (fun h => h2 h.2.1))
  · exact ev_neg (by omega) (rest (fun h => h3 h.1))
theorem impl_step {v b c : Int} (hb : b = 10 ∨ b = 16) (h0 : 0 ≤ v) (h1 : v < 18446744073709551616) (hc0 : 0 ≤ c) (hc : c < b) :
    ∃ p q, bits_Mul64.f v b = some (p, q) ∧ (IntKind.u64.wrap (p + bits_Add64.c q c) = 0 ↔ ¬ v * b + c ≥ 18446744073709551616) ∧ (¬ v * b + c ≥ 18446744073709551616 → bits_Add64.s q c = v * b + c) := by
  obtain ⟨n, rfl⟩ := Int.eq_ofNat_of_zero_le h0
  obtain ⟨d, rfl⟩ := Int.eq_ofNat_of_zero_le (show 0 ≤ b by omega)
  obtain ⟨e, rfl⟩ := Int.eq_ofNat_of_zero_le hc0
  have hn : n < 2 ^ 64 := show n < 18446744073709551616 by omega
  have hd : d < 2 ^ 64 := show d < 18446744073709551616 by omega
  refine ⟨_, _, mul_parts hn hd, ?_, ?_⟩
  · unfold bits_Add64.c
    rw [Int.toNat_natCast, Int.toNat_natCast, u64w]
    have hk : ((n : Int) * (d : Int)) = ((n * d : Nat) : Int) := by simp
    rw [hk]
    have hm : n * d < 18446744073709551616 * 16 := by
      have : n * d ≤ n * 16 := Nat.mul_le_mul_left _ (by omega)
      omega
    rw [show (2 : Nat) ^ 64 = 18446744073709551616 from rfl]
    generalize n * d = m at *
    omega
  · unfold bits_Add64.s
    rw [Int.toNat_natCast, Int.toNat_natCast]
    have hk : ((n : Int) * (d : Int)) = ((n * d : Nat) : Int) := by simp
    rw [hk, show (2 : Nat) ^ 64 = 18446744073709551616 from rfl]
    generalize n * d = m at *
    omega
theorem impl_Number_j5 (s : ByteArray) (neg : Bool) {b v : Int} (hb : b = 10 ∨ b = 16) (h0 : 0 ≤ v) (h1 : v < 18446744073709551616) (i : Nat) (n : Int) (c : Int) (hc : 0 ≤ c) (R : Option Int)
    (H : v * b + c < 18446744073709551616 → Ev (fun k => impl_Number.l0 k s neg b (v * b + c) n (wrap64 ((i : Int) + 1))) (signV neg R)) :
    Ev (fun k => impl_Number.j5 k s neg b v c n (i : Int)) (signV neg (if c ≥ b then none else if v * b + c ≥ 18446744073709551616 then none else R)) := by
  refine Ev.step (fun _ => impl_Number.j5.eq_2 ..) ?_
  by_cases h2 : c ≥ b
  · rw [if_pos h2]; exact ev_pos h2 (ev_ret rfl)
  · rw [if_neg h2]
    refine ev_neg h2 ?_
    obtain ⟨p, q, e1, e2, e3⟩ := impl_step hb h0 h1 hc (by omega)
    refine ev_bind0 e1 ?_
    by_cases h3 : v * b + c ≥ 18446744073709551616
    · rw [if_pos h3]
      exact ev_neg (fun h => e2.1 h h3) (ev_ret rfl)
    · rw [if_neg h3]
      refine ev_pos (e2.2 h3) ?_
      simp only
      rw [e3 h3]
      exact H (by omega)
theorem impl_Number_l0 (s : ByteArray) (hs : s.size ≤ 4611686018427387904) (neg : Bool) {b : Int} (hb : b = 10 ∨ b = 16) : ∀ (d i : Nat) (v : Int), i + d = s.size → 0 ≤ v → v < 18446744073709551616 → Ev (fun k => impl_Number.l0 k s neg b v (s.size : Int) (i : Int)) (signV neg (digsV s b d v i)) := by
  intro d
  induction d with
  | zero =>
    intro i v h h0 h1
    refine Ev.step (fun _ => impl_Number.l0.eq_2 ..) (ev_neg (by omega) ?_)
    cases neg with
    | true =>
      refine ev_pos rfl ?_
      show Ev _ (if v > 9223372036854775808 then (0, false) else (wrap64 (IntKind.u64.wrap (-v)), true))
      by_cases h1 : v > 9223372036854775808
      · exact ev_eq (if_pos h1).symm (ev_pos h1 (ev_ret rfl))
      · exact ev_eq (if_neg h1).symm (ev_neg h1 (ev_ret rfl))
    | false => exact ev_neg (by decide) (ev_ret rfl)
  | succ d ih =>
    intro i v h h0 h1
    have hr := bt_range s (i : Int)
    refine Ev.step (fun _ => impl_Number.l0.eq_2 ..) (ev_pos (by omega) (ev_pos (by omega) (ev_pos (by omega) ?_)))
    simp only [digsV]
    have five : ∀ c, c = digV (bt s (i : Int)) → Ev (fun k => impl_Number.j5 k s neg b v c (s.size : Int) (i : Int)) (signV neg (if digV (bt s i) ≥ b then none else if v * b + digV (bt s i) ≥ 18446744073709551616 then none else digsV s b d (v * b + digV (bt s i)) (i + 1))) := by
      intro c hc
      subst hc
      have hd := digV_range hr
      refine impl_Number_j5 s neg hb h0 h1 i _ _ hd.1 _ (fun hlt => ?_)
      rw [w64_id (by omega) (by omega)]
      exact ih (i + 1) _ (by omega) (by rcases hb with rfl | rfl <;> omega) hlt
    have four : ¬ (48 ≤ bt s (i : Int) ∧ bt s (i : Int) ≤ 57) → Ev (fun k => impl_Number.j4 k s neg b v 99 (bt s (i : Int)) (s.size : Int) (i : Int) false) (signV neg (if digV (bt s i) ≥ b then none else if v * b + digV (bt s i) ≥ 18446744073709551616 then none else digsV s b d (v * b + digV (bt s i)) (i + 1))) := by
      intro hn
      refine Ev.step (fun _ => impl_Number.j4.eq_2 ..) (ev_neg (by decide) ?_)
      by_cases c1 : bt s (i : Int) ≥ 97
      · refine ev_pos c1 ?_
        by_cases c2 : bt s (i : Int) ≤ 102
        · exact ev_pos c2 (five _ (by unfold digV; rw [if_neg hn, if_pos ⟨c1, c2⟩]; omega))
        · exact ev_neg c2 (five _ (by unfold digV; rw [if_neg hn, if_neg (fun h => c2 h.2)]))
      · exact ev_neg c1 (five _ (by unfold digV; rw [if_neg hn, if_neg (fun h => c1 h.1)]))
    by_cases c1 : bt s (i : Int) ≥ 48
    · refine ev_pos c1 ?_
      by_cases c2 : bt s (i : Int) ≤ 57
      · rw [decide_eq_true c2]
        refine Ev.step (fun _ => impl_Number.j4.eq_2 ..) (ev_pos rfl (five _ ?_))
        unfold digV; rw [if_pos ⟨c1, c2⟩]; omega
      · rw [decide_eq_false c2]; exact four (fun h => c2 h.2)
    · exact ev_neg c1 (four (fun h => c1 h.1))
theorem impl_Number_j2 (s : ByteArray) (hs : s.size ≤ 4611686018427387904) (neg : Bool) {b : Int} (hb : b = 10 ∨ b = 16) : Ev (fun k => impl_Number.j2 k s neg b) (signV neg (digitsV s b)) := by
  refine Ev.step (fun _ => impl_Number.j2.eq_2 ..) ?_
  have hsz : s.data.toList.length = s.size := by simp
  rw [ByteArray.toList_eq]
  unfold digitsV
  by_cases h : s.size = 0
  · rw [if_pos h]
    exact ev_pos (List.eq_nil_of_length_eq_zero (by omega)) (ev_ret rfl)
  · rw [if_neg h]
    refine ev_neg (fun h2 => ?_) (impl_Number_l0 s hs neg hb s.size 0 0 (by omega) (by omega) (by omega))
    rw [h2] at hsz
    simp only [List.length_nil] at hsz
    omega
theorem impl_Number_ev (s : ByteArray) (hs : s.size ≤ 1048576) : Ev (fun k => impl_Number.f k s) (numV s) := by
  unfold impl_Number.f numV
  by_cases h1 : s.size > 40
  · rw [if_pos h1]; exact ev_pos (by omega) (ev_ret rfl)
  · rw [if_neg h1]
    refine ev_neg (by omega) (ev_bind0 (pre_eq _ _) ?_)
    by_cases h2 : 1 ≤ s.size ∧ bt s 0 = 39
    · rw [if_pos h2]
      refine ev_pos (decide_eq_true ((pre_one s 39).2 h2)) impl_char_ev
    · rw [if_neg h2]
      refine ev_neg (fun h => h2 ((pre_one s 39).1 (of_decide_eq_true h))) (ev_bind0 (cut_eq _ _) ?_)
      have hex : ∀ (t : ByteArray) (neg : Bool), t.size ≤ 1048576 → Ev (fun k => (strings_CutPrefix.f t (⟨#[48, 120]⟩ : ByteArray)).bind fun bt115 => (if bt115.2 = true then (impl_Number.j2 k bt115.1 neg 16) else (impl_Number.j2 k t neg 10))) (signV neg (bodyV t)) := by
        intro t neg ht
        refine ev_bind0 (cut_eq _ _) ?_
        unfold bodyV
        by_cases h4 : 2 ≤ t.size ∧ bt t 0 = 48 ∧ bt t 1 = 120
        · rw [if_pos ((pre_two t 48 120).2 h4), if_pos (show isHex t = true from decide_eq_true h4)]
          refine ev_pos rfl (impl_Number_j2 _ ?_ neg (.inr rfl))
          show (t.extract 2 t.size).size ≤ _
          rw [ext_size]; omega
        · rw [if_neg (fun h => h4 ((pre_two t 48 120).1 h)), if_neg (show ¬ isHex t = true from fun h => h4 (of_decide_eq_true h))]
          exact ev_neg Bool.false_ne_true (impl_Number_j2 _ (by omega) neg (.inl rfl))
      by_cases h3 : 1 ≤ s.size ∧ bt s 0 = 45
      · rw [if_pos ((pre_one s 45).2 h3), if_pos (show isNeg s = true from decide_eq_true h3)]
        refine hex (s.extract 1 s.size) true ?_
        rw [ext_size]; omega
      · rw [if_neg (fun h => h3 ((pre_one s 45).1 h)), if_neg (show ¬ isNeg s = true from fun h => h3 (of_decide_eq_true h))]
        exact hex s false hs
theorem FnExactNumber : laws_FnExactNumber.Pure := by
  intro s _
  refine Ev.rounds ?_
  unfold laws_FnExactNumber.f
  by_cases hbig : (s.size : Int) > 1048576
  · exact ev_pos hbig (ev_ret rfl)
  · refine ev_neg hbig (Ev.bind (spec_Number_ev s (by omega)) (Ev.bind (impl_Number_ev s (by omega)) (ev_pos rfl (ev_neg (by simp) (ev_ret rfl)))))
end Go.Proofs.Ytmbcihfdfohfcaa.Pure
