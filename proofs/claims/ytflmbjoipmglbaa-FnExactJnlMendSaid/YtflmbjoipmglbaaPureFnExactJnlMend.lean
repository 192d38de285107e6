/- For every input that the row lets in, FnExactJnlMend answers true; this text proves the plain law that is left when the machine's side is done. -/
import Derived.Test.YtflmbjoipmglbaaPFnExactJnlMendx9
import Derived.Test.YtflmbjoipmglbaaBase
set_option linter.unusedVariables false
set_option linter.unusedSimpArgs false
namespace Go.Proofs.Ytflmbjoipmglbaa.Pure
open Go.RowKit Go.Proofs.Ytflmbjoipmglbaa.PFnExactJnlMend Go.Proofs.YtflmbjoipmglbaaW.PrintWords Go.Proofs.YtflmbjoipmglbaaW.PrintLast Go.Proofs.YtflmbjoipmglbaaW.PrintMore Go.Proofs.Ytflmbjoipmglbaa.Base

theorem spec_l1Pow_l0 : ∀ (d : Nat) (a i n : Int), i + d = n → 0 ≤ i → n ≤ 64 → 0 ≤ a → a < 18446744073709551616 → Ev (fun k => spec_l1Pow.l0 k n a i) ((a * 2 ^ d) % 18446744073709551616) := by
  intro d
  induction d with
  | zero =>
    intro a i n h h0 h1 h2 h3
    refine Ev.step (fun _ => spec_l1Pow.l0.eq_2 ..) ?_
    refine ev_neg (by omega) (ev_ret ?_)
    rw [Int.pow_zero, Int.mul_one]; omega
  | succ d ih =>
    intro a i n h h0 h1 h2 h3
    refine Ev.step (fun _ => spec_l1Pow.l0.eq_2 ..) ?_
    refine ev_pos (by omega) ?_
    rw [w64_id (x := i + 1) (by omega) (by omega), u64w]
    refine ev_eq ?_ (ih (a * 2 % 18446744073709551616) (i + 1) n (by omega) (by omega) h1 (by omega) (by omega))
    rw [Int.mul_emod, Int.emod_emod_of_dvd _ (Int.dvd_refl _), ← Int.mul_emod, Int.pow_succ, Int.mul_comm (2 ^ d) 2, ← Int.mul_assoc]
theorem spec_l1Pow_ev {n : Nat} (h : n ≤ 63) : Ev (fun k => spec_l1Pow.f k (n : Int)) ((2 ^ n : Nat) : Int) := by
  have := spec_l1Pow_l0 n 1 0 (n : Int) (by omega) (by omega) (by omega) (by omega) (by omega)
  refine Ev.congr (fun k => rfl) (ev_eq ?_ this)
  have h2 : 2 ^ n ≤ 2 ^ 63 := Nat.pow_le_pow_right (by decide) h
  have e : ((2 : Int) ^ n) = ((2 ^ n : Nat) : Int) := by simp
  rw [Int.one_mul, e]
  have h3 : 2 ^ n ≤ 9223372036854775808 := h2
  generalize 2 ^ n = q at *
  omega
theorem spec_l1Pow_64 : Ev (fun k => spec_l1Pow.f k 64) 0 := by
  have := spec_l1Pow_l0 64 1 0 64 (by omega) (by omega) (by omega) (by omega) (by omega)
  exact Ev.congr (fun k => rfl) (ev_eq (by decide) this)
theorem spec_l1Bit_ev {a i : Nat} (ha : a < 2 ^ 64) (h : i ≤ 63) : Ev (fun k => spec_l1Bit.f k (a : Int) (i : Int)) ((a.testBit i).toNat : Int) := by
  unfold spec_l1Bit.f
  refine Ev.bind (spec_l1Pow_ev h) ?_
  have hp : 0 < 2 ^ i := Nat.two_pow_pos i
  refine ev_neg (by omega) (ev_ret ?_)
  rw [tdiv_nat, u64w]
  have h1 : a / 2 ^ i ≤ a := Nat.div_le_self _ _
  have h2 : a < 18446744073709551616 := ha
  have e : (((a / 2 ^ i : Nat) : Int) % 18446744073709551616) = ((a / 2 ^ i : Nat) : Int) := by
    clear hp
    generalize a / 2 ^ i = q at *
    omega
  rw [e, show (2 : Int) = ((2 : Nat) : Int) from rfl, tmod_nat, bit_div]
def extBit (x n : Nat) (j : Nat) : Bool := if j < n then x.testBit j else x.testBit (n - 1)
def ext (x n : Nat) : Nat := hor (extBit x n) 64
theorem ext_lt (x n : Nat) : ext x n < 2 ^ 64 := hor_lt _ _
theorem spec_Extend_l0 (x n : Nat) (hx : x < 2 ^ 64) (h1 : 1 ≤ n) (hn : n ≤ 64) : ∀ (m acc : Nat) (i : Int), i = (m : Int) - 1 → m ≤ 64 → acc < 2 ^ (64 - m) → Ev (fun k => spec_Extend.l0 k (x : Int) (n : Int) (acc : Int) i) ((acc * 2 ^ m + hor (extBit x n) m : Nat) : Int) := by
  intro m
  induction m with
  | zero =>
    intro acc i hi hm ha
    refine Ev.step (fun _ => spec_Extend.l0.eq_2 ..) ?_
    exact ev_neg (by omega) (ev_ret (by simp [hor]))
  | succ m ih =>
    intro acc i hi hm ha
    obtain rfl : i = (m : Int) := by omega
    refine Ev.step (fun _ => spec_Extend.l0.eq_2 ..) ?_
    refine ev_pos (by omega) ?_
    have e2 : wrap64 ((m : Int) - 1) = (m : Int) - 1 := w64_id (by omega) (by omega)
    have e3 : wrap64 ((n : Int) - 1) = ((n - 1 : Nat) : Int) := by rw [w64_id (by omega) (by omega)]; omega
    rw [e2, e3]
    by_cases hc : m < n
    · refine ev_pos (by omega) ?_
      refine Ev.bind (spec_l1Bit_ev hx (by omega)) ?_
      have eb : x.testBit m = extBit x n m := by unfold extBit; rw [if_pos hc]
      rw [eb]
      have hr := hor_room (bool_le (extBit x n m)) (by omega) ha
      rw [u64_hor (hor_top hr)]
      exact ev_eq (by rw [hor_step]) (ih _ _ rfl (by omega) hr)
    · refine ev_neg (by omega) ?_
      refine Ev.bind (spec_l1Bit_ev hx (by omega)) ?_
      have eb : x.testBit (n - 1) = extBit x n m := by unfold extBit; rw [if_neg hc]
      rw [eb]
      have hr := hor_room (bool_le (extBit x n m)) (by omega) ha
      rw [u64_hor (hor_top hr)]
      exact ev_eq (by rw [hor_step]) (ih _ _ rfl (by omega) hr)
def extV (x : Nat) (n : Int) : Int := if 1 ≤ n ∧ n ≤ 64 then (ext x n.toNat : Int) else 0
theorem spec_Extend_ev {x : Nat} (hx : x < 2 ^ 64) (n : Int) : Ev (fun k => spec_Extend.f k (x : Int) n) (extV x n) := by
  unfold spec_Extend.f extV
  by_cases h1 : n < 1
  · rw [if_neg (by omega)]
    refine ev_pos h1 ?_
    refine Ev.step (fun _ => spec_Extend.j0.eq_2 ..) ?_
    exact ev_pos rfl (ev_ret rfl)
  · refine ev_neg h1 ?_
    refine Ev.step (fun _ => spec_Extend.j0.eq_2 ..) ?_
    by_cases h2 : n > 64
    · rw [if_neg (by omega)]
      exact ev_pos (by simpa using h2) (ev_ret rfl)
    · rw [if_pos (by omega)]
      refine ev_neg (by simpa using h2) ?_
      obtain ⟨m, rfl, hm⟩ := to_nat (a := n) (m := 65) (by omega) (by omega)
      refine ev_eq ?_ (spec_Extend_l0 x m hx (by omega) (by omega) 64 0 63 (by omega) (by omega) (by simp))
      simp [ext]
theorem laws_toByteS_l0 (xs : List Int) (hl : xs.length ≤ 4611686018427387904) : ∀ (d i : Nat) (ys : List Int), i + d = xs.length → ys.length = xs.length → (∀ j, j < i → ys[j]? = xs[j]?) → Ev (fun k => laws_toByteS.l0 k xs ys (i : Int)) xs := by
  intro d
  induction d with
  | zero =>
    intro i ys h hy he
    refine Ev.step (fun _ => laws_toByteS.l0.eq_2 ..) ?_
    refine ev_neg (by omega) (ev_ret ?_)
    apply List.ext_getElem?
    intro j
    by_cases hj : j < i
    · exact he j hj
    · rw [List.getElem?_eq_none (by omega), List.getElem?_eq_none (by omega)]
  | succ d ih =>
    intro i ys h hy he
    refine Ev.step (fun _ => laws_toByteS.l0.eq_2 ..) ?_
    refine ev_pos (by omega) (ev_pos (by omega) (ev_pos (by omega) ?_))
    have e : wrap64 ((i : Int) + 1) = ((i + 1 : Nat) : Int) := by rw [w64_id (by omega) (by omega)]; omega
    rw [e, rd_nat (by omega), Int.toNat_natCast]
    refine ih (i + 1) _ (by omega) (by rw [List.length_set]; exact hy) ?_
    intro j hj
    by_cases hji : j = i
    · subst hji
      rw [List.getElem?_set_self (by omega), List.getElem?_eq_getElem (by omega)]
    · rw [List.getElem?_set_ne (by omega)]
      exact he j (by omega)
theorem laws_toByteS_ev {xs : List Int} (hl : xs.length ≤ 281474976710656) : Ev (fun k => laws_toByteS.f k xs) xs := by
  unfold laws_toByteS.f
  refine ev_pos (by omega) (ev_pos (by omega) ?_)
  exact laws_toByteS_l0 xs (by omega) xs.length 0 _ (by omega) (by simp) (fun j hj => by omega)
theorem laws_eqByteS_l0 (xs : List Int) (hl : xs.length ≤ 4611686018427387904) : ∀ (d i : Nat), i + d = xs.length → Ev (fun k => laws_eqByteS.l0 k xs xs (i : Int)) true := by
  intro d
  induction d with
  | zero =>
    intro i h
    refine Ev.step (fun _ => laws_eqByteS.l0.eq_2 ..) ?_
    exact ev_neg (by omega) (ev_ret rfl)
  | succ d ih =>
    intro i h
    refine Ev.step (fun _ => laws_eqByteS.l0.eq_2 ..) ?_
    refine ev_pos (by omega) (ev_pos (by omega) (ev_pos (by omega) (ev_pos rfl ?_)))
    have e : wrap64 ((i : Int) + 1) = ((i + 1 : Nat) : Int) := by rw [w64_id (by omega) (by omega)]; omega
    rw [e]
    exact ih (i + 1) (by omega)
theorem laws_eqByteS_ev {xs : List Int} (hl : xs.length ≤ 281474976710656) : Ev (fun k => laws_eqByteS.f k xs xs) true := by
  unfold laws_eqByteS.f
  exact ev_pos rfl (laws_eqByteS_l0 xs (by omega) xs.length 0 (by omega))
def crcBit (r : Nat) : Nat := if r % 2 = 1 then (r / 2) ^^^ 3988292384 else r / 2
def crcN (r : Nat) : Nat → Nat
  | 0 => r
  | d + 1 => crcN (crcBit r) d
def crcAll (r : Nat) : List Int → Nat
  | [] => r
  | b :: bs => crcAll (crcN (r ^^^ b.toNat) 8) bs
def crcV (xs : List Int) : Nat := crcAll 4294967295 xs ^^^ 4294967295
theorem crcBit_lt {r : Nat} (h : r < 2 ^ 32) : crcBit r < 2 ^ 32 := by
  unfold crcBit
  split
  · exact Nat.xor_lt_two_pow (Nat.lt_of_le_of_lt (Nat.div_le_self _ _) h) (by decide)
  · exact Nat.lt_of_le_of_lt (Nat.div_le_self _ _) h
theorem crcN_lt : ∀ (d : Nat) {r : Nat}, r < 2 ^ 32 → crcN r d < 2 ^ 32
  | 0, _, h => h
  | d + 1, _, h => crcN_lt d (crcBit_lt h)
theorem crcAll_lt : ∀ (xs : List Int) {r : Nat}, r < 2 ^ 32 → Bytes xs → crcAll r xs < 2 ^ 32
  | [], _, h, _ => h
  | b :: bs, r, h, hb => by
    refine crcAll_lt bs (crcN_lt 8 (Nat.xor_lt_two_pow h ?_)) (fun x hx => hb x (List.mem_cons_of_mem _ hx))
    have h0 := hb b List.mem_cons_self
    have : b.toNat < 256 := by omega
    exact Nat.lt_trans this (by decide)
theorem crcV_lt {xs : List Int} (hb : Bytes xs) : crcV xs < 2 ^ 32 := Nat.xor_lt_two_pow (crcAll_lt xs (by decide) hb) (by decide)
theorem lt32_64 {r : Nat} (h : r < 2 ^ 32) : r < 2 ^ 64 := Nat.lt_trans h (by decide)
theorem spec_Crc_l1 (xs : List Int) (i : Int) (R : Int) : ∀ (d r : Nat) (j : Int), j + d = 8 → 0 ≤ j → r < 2 ^ 32 → Ev (fun k => spec_Crc.l0 k xs (crcN r d : Int) (wrap64 (i + 1))) R → Ev (fun k => spec_Crc.l1 k xs (r : Int) i j) R := by
  intro d
  induction d with
  | zero =>
    intro r j h h0 hr H
    refine Ev.step (fun _ => spec_Crc.l1.eq_2 ..) ?_
    exact ev_neg (by omega) H
  | succ d ih =>
    intro r j h h0 hr H
    refine Ev.step (fun _ => spec_Crc.l1.eq_2 ..) ?_
    refine ev_pos (by omega) ?_
    have e1 : wrap64 (j + 1) = j + 1 := w64_id (by omega) (by omega)
    have hr2 : r / 2 < 2 ^ 32 := Nat.lt_of_le_of_lt (Nat.div_le_self _ _) hr
    have hr3 : r < 4294967296 := hr
    have e2 : IntKind.u64.wrap (Int.tdiv (r : Int) 2) = ((r / 2 : Nat) : Int) := by
      rw [show (2 : Int) = ((2 : Nat) : Int) from rfl, tdiv_nat, u64w_id (by omega) (by omega)]
    have e3 : Int.tmod (r : Int) 2 = ((r % 2 : Nat) : Int) := by rw [show (2 : Int) = ((2 : Nat) : Int) from rfl, tmod_nat]
    rw [e1, e2, e3]
    by_cases hc : r % 2 = 1
    · refine ev_pos (by omega) ?_
      rw [show (3988292384 : Int) = ((3988292384 : Nat) : Int) from rfl, xor_nat (lt32_64 hr2) (by decide)]
      have hb : (r / 2) ^^^ 3988292384 = crcBit r := by unfold crcBit; rw [if_pos hc]
      rw [hb]
      exact ih _ _ (by omega) (by omega) (crcBit_lt hr) H
    · refine ev_neg (by omega) ?_
      have hb : r / 2 = crcBit r := by unfold crcBit; rw [if_neg hc]
      rw [hb]
      exact ih _ _ (by omega) (by omega) (crcBit_lt hr) H
theorem spec_Crc_l0 (xs : List Int) (hb : Bytes xs) (hl : xs.length ≤ 4611686018427387904) : ∀ (d i r : Nat), i + d = xs.length → r < 2 ^ 32 → Ev (fun k => spec_Crc.l0 k xs (r : Int) (i : Int)) ((crcAll r (xs.drop i) ^^^ 4294967295 : Nat) : Int) := by
  intro d
  induction d with
  | zero =>
    intro i r h hr
    refine Ev.step (fun _ => spec_Crc.l0.eq_2 ..) ?_
    refine ev_neg (by omega) (ev_ret ?_)
    rw [List.drop_eq_nil_of_le (by omega)]
    show _ = ((r ^^^ 4294967295 : Nat) : Int)
    rw [show (4294967295 : Int) = ((4294967295 : Nat) : Int) from rfl]
    exact xor_nat (lt32_64 hr) (by decide)
  | succ d ih =>
    intro i r h hr
    refine Ev.step (fun _ => spec_Crc.l0.eq_2 ..) ?_
    refine ev_pos (by omega) (ev_pos (by omega) ?_)
    obtain ⟨b, hbe, hb2⟩ := hb.get (n := i) (by omega)
    have hb3 : b < 2 ^ 32 := Nat.lt_trans hb2 (by decide)
    rw [rd_nat (by omega), hbe, u64w_id (x := (b : Int)) (by omega) (by omega), xor_nat (lt32_64 hr) (lt32_64 hb3)]
    refine spec_Crc_l1 xs _ _ 8 _ 0 (by omega) (by omega) (Nat.xor_lt_two_pow hr hb3) ?_
    have e : wrap64 ((i : Int) + 1) = ((i + 1 : Nat) : Int) := by rw [w64_id (by omega) (by omega)]; omega
    rw [e, List.drop_eq_getElem_cons (by omega : i < xs.length)]
    refine ev_eq ?_ (ih (i + 1) _ (by omega) (crcN_lt 8 (Nat.xor_lt_two_pow hr hb3)))
    show _ = ((crcAll (crcN (r ^^^ xs[i].toNat) 8) (xs.drop (i + 1)) ^^^ 4294967295 : Nat) : Int)
    rw [hbe, Int.toNat_natCast]
theorem spec_Crc_ev {xs : List Int} (hb : Bytes xs) (hl : xs.length ≤ 281474976710656) : Ev (fun k => spec_Crc.f k xs) (crcV xs : Int) := by
  unfold spec_Crc.f
  exact spec_Crc_l0 xs hb (by omega) xs.length 0 4294967295 (by omega) (by decide)
theorem impl_Crc_l1 (xs : List Int) (n i : Int) (R : Int) : ∀ (d r : Nat) (j : Int), j + d = 8 → 0 ≤ j → r < 2 ^ 32 → Ev (fun k => impl_Crc.l0 k (crcN r d : Int) xs n (wrap64 (i + 1))) R → Ev (fun k => impl_Crc.l1 k (r : Int) xs n i j) R := by
  intro d
  induction d with
  | zero =>
    intro r j h h0 hr H
    refine Ev.step (fun _ => impl_Crc.l1.eq_2 ..) ?_
    exact ev_neg (by omega) H
  | succ d ih =>
    intro r j h h0 hr H
    refine Ev.step (fun _ => impl_Crc.l1.eq_2 ..) ?_
    refine ev_pos (by omega) ?_
    have e1 : wrap64 (j + 1) = j + 1 := w64_id (by omega) (by omega)
    have hr2 : r / 2 < 2 ^ 32 := Nat.lt_of_le_of_lt (Nat.div_le_self _ _) hr
    have e2 : (r : Int) / 2 = ((r / 2 : Nat) : Int) := by omega
    have e3 : Go.bits .and .u64 (r : Int) 1 = ((r % 2 : Nat) : Int) := by rw [show (1 : Int) = ((1 : Nat) : Int) from rfl, and_nat (lt32_64 hr) (by decide), Nat.and_one_is_mod]
    rw [e1, e2, e3]
    by_cases hc : r % 2 = 1
    · refine ev_pos (by omega) ?_
      rw [show (3988292384 : Int) = ((3988292384 : Nat) : Int) from rfl, xor_nat (lt32_64 hr2) (by decide)]
      have hb : (r / 2) ^^^ 3988292384 = crcBit r := by unfold crcBit; rw [if_pos hc]
      rw [hb]
      exact ih _ _ (by omega) (by omega) (crcBit_lt hr) H
    · refine ev_neg (by omega) ?_
      have hb : r / 2 = crcBit r := by unfold crcBit; rw [if_neg hc]
      rw [hb]
      exact ih _ _ (by omega) (by omega) (crcBit_lt hr) H
theorem impl_Crc_l0 (xs : List Int) (hb : Bytes xs) (hl : xs.length ≤ 4611686018427387904) : ∀ (d i r : Nat), i + d = xs.length → r < 2 ^ 32 → Ev (fun k => impl_Crc.l0 k (r : Int) xs (xs.length : Int) (i : Int)) ((crcAll r (xs.drop i) ^^^ 4294967295 : Nat) : Int) := by
  intro d
  induction d with
  | zero =>
    intro i r h hr
    refine Ev.step (fun _ => impl_Crc.l0.eq_2 ..) ?_
    refine ev_neg (by omega) (ev_ret ?_)
    rw [List.drop_eq_nil_of_le (by omega)]
    show _ = ((r ^^^ 4294967295 : Nat) : Int)
    rw [show (4294967295 : Int) = ((4294967295 : Nat) : Int) from rfl]
    exact xor_nat (lt32_64 hr) (by decide)
  | succ d ih =>
    intro i r h hr
    refine Ev.step (fun _ => impl_Crc.l0.eq_2 ..) ?_
    refine ev_pos (by omega) (ev_pos (by omega) (ev_pos (by omega) ?_))
    obtain ⟨b, hbe, hb2⟩ := hb.get (n := i) (by omega)
    have hb3 : b < 2 ^ 32 := Nat.lt_trans hb2 (by decide)
    rw [rd_nat (by omega), hbe, u64w_id (x := (b : Int)) (by omega) (by omega), xor_nat (lt32_64 hr) (lt32_64 hb3)]
    refine impl_Crc_l1 xs _ _ _ 8 _ 0 (by omega) (by omega) (Nat.xor_lt_two_pow hr hb3) ?_
    have e : wrap64 ((i : Int) + 1) = ((i + 1 : Nat) : Int) := by rw [w64_id (by omega) (by omega)]; omega
    rw [e, List.drop_eq_getElem_cons (by omega : i < xs.length)]
    refine ev_eq ?_ (ih (i + 1) _ (by omega) (crcN_lt 8 (Nat.xor_lt_two_pow hr hb3)))
    show _ = ((crcAll (crcN (r ^^^ xs[i].toNat) 8) (xs.drop (i + 1)) ^^^ 4294967295 : Nat) : Int)
    rw [hbe, Int.toNat_natCast]
theorem impl_Crc_ev {xs : List Int} (hb : Bytes xs) (hl : xs.length ≤ 281474976710656) : Ev (fun k => impl_Crc.f k xs) (crcV xs : Int) := by
  unfold impl_Crc.f
  exact impl_Crc_l0 xs hb (by omega) xs.length 0 4294967295 (by omega) (by decide)
def sizeOk (n : Int) : Bool := decide (n = 1 ∨ n = 2 ∨ n = 4 ∨ n = 8)
theorem spec_l1SizeOk_eq (n : Int) : spec_l1SizeOk.f n = some (sizeOk n) := by
  unfold spec_l1SizeOk.f sizeOk
  by_cases h1 : n = 1
  · simp [h1]
  · by_cases h2 : n = 2
    · simp [h2]
    · by_cases h3 : n = 4
      · simp [h3]
      · rw [if_neg h1, if_neg h2, if_neg h3]
        by_cases h4 : n = 8 <;> simp [h1, h2, h3, h4]
theorem sizeOk_le {n : Int} (h : sizeOk n = true) : 1 ≤ n ∧ n ≤ 8 := by
  have := of_decide_eq_true h
  omega
/-- The number that some bytes make, the lowest first. -/
def wordN (f : Nat → Nat) : Nat → Nat
  | 0 => 0
  | m + 1 => f m * 256 ^ m + wordN f m
theorem wordN_lt {f : Nat → Nat} : ∀ m, (∀ j, j < m → f j < 256) → wordN f m < 256 ^ m
  | 0, _ => by simp [wordN]
  | m + 1, h => by
    have h1 := wordN_lt m (fun j hj => h j (by omega))
    have h2 := h m (by omega)
    have h3 : f m * 256 ^ m ≤ 255 * 256 ^ m := Nat.mul_le_mul_right _ (by omega)
    simp only [wordN, Nat.pow_succ]
    omega
theorem wordN_step (f : Nat → Nat) (m acc : Nat) : (acc * 256 + f m) * 256 ^ m + wordN f m = acc * 256 ^ (m + 1) + wordN f (m + 1) := by
  simp only [wordN]
  rw [Nat.add_mul, Nat.pow_succ, Nat.mul_assoc, Nat.mul_comm 256 (256 ^ m), Nat.add_assoc]
theorem word_room {acc m b : Nat} (hb : b < 256) (hm : m + 1 ≤ 8) (h : acc < 256 ^ (8 - (m + 1))) : acc * 256 + b < 256 ^ (8 - m) := by
  have e : 8 - m = (8 - (m + 1)) + 1 := by omega
  rw [e, Nat.pow_succ]; omega
theorem word_top {acc m : Nat} (h : acc < 256 ^ (8 - m)) : acc < 2 ^ 64 := by
  have : 256 ^ (8 - m) ≤ 256 ^ 8 := Nat.pow_le_pow_right (by decide) (by omega)
  exact Nat.lt_of_lt_of_le h this
def byteAt (xs : List Int) (at_ : Nat) (j : Nat) : Nat := (xs.getD (at_ + j) 0).toNat
def wordAt (xs : List Int) (at_ size : Nat) : Nat := wordN (byteAt xs at_) size
theorem byteAt_lt {xs : List Int} (hb : Bytes xs) (at_ j : Nat) : byteAt xs at_ j < 256 := by
  unfold byteAt
  rw [List.getD_eq_getElem?_getD]
  by_cases h : at_ + j < xs.length
  · rw [List.getElem?_eq_getElem h]
    have := hb _ (List.getElem_mem h)
    simp only [Option.getD_some]; omega
  · rw [List.getElem?_eq_none (by omega)]; simp
theorem wordAt_lt {xs : List Int} (hb : Bytes xs) {at_ size : Nat} (h : size ≤ 8) : wordAt xs at_ size < 2 ^ 64 := by
  have h1 := wordN_lt size (f := byteAt xs at_) (fun j _ => byteAt_lt hb at_ j)
  exact Nat.lt_of_lt_of_le h1 (Nat.le_trans (Nat.pow_le_pow_right (by decide) h) (by decide))
theorem rd_byte {xs : List Int} (hb : Bytes xs) {at_ j : Nat} : rd xs ((at_ + j : Nat) : Int) = (byteAt xs at_ j : Int) := by
  unfold rd byteAt
  rw [Int.toNat_natCast, List.getD_eq_getElem?_getD]
  by_cases h : at_ + j < xs.length
  · rw [List.getElem?_eq_getElem h]
    have := hb _ (List.getElem_mem h)
    simp only [Option.getD_some]; omega
  · rw [List.getElem?_eq_none (by omega)]; rfl
def loadV (xs : List Int) (at_ size : Int) (sg : Bool) : Int × Bool :=
  if sizeOk size = true ∧ 0 ≤ at_ ∧ at_ ≤ xs.length - size then (if sg then (extV (wordAt xs at_.toNat size.toNat) (8 * size), true) else ((wordAt xs at_.toNat size.toNat : Int), true)) else (0, false)
theorem spec_LoadWord_l0 (xs : List Int) (hb : Bytes xs) (hl : xs.length ≤ 4611686018427387904) (at_ size : Nat) (sg : Bool) (hs : size ≤ 8) (h : at_ + size ≤ xs.length) : ∀ (m acc : Nat) (i : Int), i = (m : Int) - 1 → m ≤ size → acc < 256 ^ (8 - m) →
    Ev (fun k => spec_LoadWord.l0 k xs (at_ : Int) (size : Int) sg (acc : Int) i) (if sg then (extV (acc * 256 ^ m + wordN (byteAt xs at_) m) (8 * (size : Int)), true) else (((acc * 256 ^ m + wordN (byteAt xs at_) m : Nat) : Int), true)) := by
  intro m
  induction m with
  | zero =>
    intro acc i hi hm ha
    refine Ev.step (fun _ => spec_LoadWord.l0.eq_2 ..) ?_
    refine ev_neg (by omega) ?_
    have e0 : acc * 256 ^ 0 + wordN (byteAt xs at_) 0 = acc := by simp [wordN]
    rw [e0]
    cases sg with
    | true =>
      refine ev_pos rfl ?_
      rw [w64_id (x := 8 * (size : Int)) (by omega) (by omega)]
      exact Ev.bind (spec_Extend_ev (word_top ha) _) (ev_ret rfl)
    | false => exact ev_neg (by decide) (ev_ret rfl)
  | succ m ih =>
    intro acc i hi hm ha
    refine Ev.step (fun _ => spec_LoadWord.l0.eq_2 ..) ?_
    refine ev_pos (by omega) ?_
    have e1 : wrap64 ((at_ : Int) + i) = ((at_ + m : Nat) : Int) := by rw [w64_id (by omega) (by omega)]; omega
    have e2 : wrap64 (i - 1) = (m : Int) - 1 := by rw [w64_id (by omega) (by omega)]; omega
    rw [e1, e2]
    refine ev_pos (by omega) (ev_pos (by omega) ?_)
    have hbb := byteAt_lt hb at_ m
    have hr := word_room hbb (by omega) ha
    have hr2 : acc * 256 + byteAt xs at_ m < 18446744073709551616 := word_top hr
    rw [rd_byte hb, u64w_id (x := (byteAt xs at_ m : Int)) (by omega) (by omega), u64w_id (x := (acc : Int) * 256) (by omega) (by omega), u64w_id (by omega) (by omega)]
    have e3 : (acc : Int) * 256 + (byteAt xs at_ m : Int) = ((acc * 256 + byteAt xs at_ m : Nat) : Int) := by simp
    rw [e3]
    refine ev_eq ?_ (ih _ _ rfl (by omega) hr)
    rw [wordN_step]
theorem spec_LoadWord_ev {xs : List Int} (hb : Bytes xs) (hl : xs.length ≤ 281474976710656) (at_ size : Int) (sg : Bool) : Ev (fun k => spec_LoadWord.f k xs at_ size sg) (loadV xs at_ size sg) := by
  unfold spec_LoadWord.f
  refine ev_bind0 (spec_l1SizeOk_eq size) ?_
  have bad : ¬ (sizeOk size = true ∧ 0 ≤ at_ ∧ at_ ≤ xs.length - size) → Ev (fun k => spec_LoadWord.j0 k xs at_ size sg true) (loadV xs at_ size sg) := by
    intro hc
    unfold loadV
    rw [if_neg hc]
    refine Ev.step (fun _ => spec_LoadWord.j0.eq_2 ..) ?_
    exact ev_pos rfl (ev_ret rfl)
  by_cases h1 : sizeOk size = true
  · refine ev_pos h1 ?_
    have hs := sizeOk_le h1
    by_cases h2 : at_ < 0
    · exact ev_pos h2 (bad (by omega))
    · refine ev_neg h2 ?_
      rw [w64_id (x := (xs.length : Int) - size) (by omega) (by omega)]
      by_cases h3 : at_ > xs.length - size
      · rw [decide_eq_true h3]
        exact bad (by omega)
      · rw [decide_eq_false h3]
        unfold loadV
        rw [if_pos ⟨h1, by omega, by omega⟩]
        obtain ⟨a, rfl⟩ := Int.eq_ofNat_of_zero_le (show 0 ≤ at_ by omega)
        obtain ⟨s, rfl⟩ := Int.eq_ofNat_of_zero_le (show 0 ≤ size by omega)
        refine Ev.step (fun _ => spec_LoadWord.j0.eq_2 ..) ?_
        refine ev_neg (by decide) ?_
        rw [w64_id (x := (s : Int) - 1) (by omega) (by omega)]
        refine ev_eq ?_ (spec_LoadWord_l0 xs hb (by omega) a s sg (by omega) (by omega) s 0 _ rfl (Nat.le_refl _) (Nat.pow_pos (by decide)))
        simp [wordAt]
  · refine ev_neg h1 ?_
    exact bad (fun h => h1 h.1)
/-- What marking leaves: the numbers from k on, as bytes. -/
def markL (k : Int) (n : Nat) : List Int := (List.range n).map fun j : Nat => (k + (j : Int)) % 256
theorem markL_len (k : Int) (n : Nat) : (markL k n).length = n := by simp [markL]
theorem markL_get (k : Int) {n j : Nat} (h : j < n) : (markL k n)[j]? = some ((k + (j : Int)) % 256) := by
  simp [markL, List.getElem?_range h]
theorem laws_markByteS_l0 (n : Nat) (k0 : Int) (hk : 0 ≤ k0) (hk2 : k0 + n ≤ 4611686018427387904) : ∀ (d i : Nat) (xs : List Int), i + d = n → xs.length = n → (∀ j, j < i → xs[j]? = (markL k0 n)[j]?) → Ev (fun k => laws_markByteS.l0 k xs (k0 + i) (i : Int)) (k0 + n, markL k0 n) := by
  intro d
  induction d with
  | zero =>
    intro i xs h hx he
    refine Ev.step (fun _ => laws_markByteS.l0.eq_2 ..) ?_
    refine ev_neg (by omega) (ev_ret ?_)
    refine Prod.ext (by simp only; omega) ?_
    apply List.ext_getElem?
    intro j
    by_cases hj : j < n
    · exact he j (by omega)
    · rw [List.getElem?_eq_none (show xs.length ≤ j by omega), List.getElem?_eq_none (by rw [markL_len]; omega)]
  | succ d ih =>
    intro i xs h hx he
    refine Ev.step (fun _ => laws_markByteS.l0.eq_2 ..) ?_
    have e1 : wrap64 ((i : Int) + 1) = ((i + 1 : Nat) : Int) := by rw [w64_id (by omega) (by omega)]; omega
    have e2 : wrap64 (k0 + (i : Int) + 1) = k0 + ((i + 1 : Nat) : Int) := by rw [w64_id (by omega) (by omega)]; omega
    refine ev_pos (by omega) (ev_pos (by omega) ?_)
    rw [e1, e2, Int.toNat_natCast]
    refine ih (i + 1) _ (by omega) (by rw [List.length_set]; exact hx) ?_
    intro j hj
    by_cases hji : j = i
    · subst hji
      rw [List.getElem?_set_self (by omega), markL_get k0 (by omega)]
    · rw [List.getElem?_set_ne (by omega)]
      exact he j (by omega)
theorem laws_markByteS_ev (xs : List Int) {k0 : Int} (hk : 0 ≤ k0) (hk2 : k0 + xs.length ≤ 4611686018427387904) : Ev (fun k => laws_markByteS.f k xs k0) (k0 + xs.length, markL k0 xs.length) := by
  unfold laws_markByteS.f
  have := laws_markByteS_l0 xs.length k0 hk hk2 xs.length 0 xs (by omega) rfl (fun j hj => by omega)
  rw [show k0 + ((0 : Nat) : Int) = k0 by omega] at this
  exact this
theorem laws_heldByteS_l0 (n : Nat) (k0 : Int) (hk : 0 ≤ k0) (hk2 : k0 + n ≤ 4611686018427387904) : ∀ (d i : Nat), i + d = n → Ev (fun k => laws_heldByteS.l0 k (markL k0 n) (k0 + i) (i : Int)) (k0 + n) := by
  intro d
  induction d with
  | zero =>
    intro i h
    refine Ev.step (fun _ => laws_heldByteS.l0.eq_2 ..) ?_
    refine ev_neg (by rw [markL_len]; omega) (ev_ret (by omega))
  | succ d ih =>
    intro i h
    refine Ev.step (fun _ => laws_heldByteS.l0.eq_2 ..) ?_
    have e1 : wrap64 ((i : Int) + 1) = ((i + 1 : Nat) : Int) := by rw [w64_id (by omega) (by omega)]; omega
    have e2 : wrap64 (k0 + (i : Int) + 1) = k0 + ((i + 1 : Nat) : Int) := by rw [w64_id (by omega) (by omega)]; omega
    have hl : i < (markL k0 n).length := by rw [markL_len]; omega
    have e3 : (markL k0 n)[i] = (k0 + (i : Int)) % 256 := by
      have := markL_get k0 (n := n) (j := i) (by omega)
      rw [List.getElem?_eq_getElem hl] at this
      exact Option.some.inj this
    refine ev_pos (by omega) (ev_pos (by omega) ?_)
    rw [rd_nat hl, e1, e2]
    exact ev_pos e3 (ih (i + 1) (by omega))
theorem laws_heldByteS_ev (n : Nat) {k0 : Int} (hk : 0 ≤ k0) (hk2 : k0 + n ≤ 4611686018427387904) : Ev (fun k => laws_heldByteS.f k (markL k0 n) k0) (k0 + n) := by
  unfold laws_heldByteS.f
  have := laws_heldByteS_l0 n k0 hk hk2 n 0 (by omega)
  rw [show k0 + ((0 : Nat) : Int) = k0 by omega] at this
  exact this
/-- The eight bytes of a word, the lowest first (d of them). -/
def dig : Nat → Nat → List Int
  | 0, _ => []
  | d + 1, x => ((x % 256 : Nat) : Int) :: dig d (x / 256)
theorem dig_len : ∀ (d x : Nat), (dig d x).length = d := by
  intro d
  induction d with
  | zero => intro x; rfl
  | succ d ih => intro x; rw [dig, List.length_cons, ih]
theorem spec_l13Num_l0 : ∀ (d i x : Nat) (acc : List Int), i + d = 8 → x < 2 ^ 64 → acc.length ≤ 1024 + i → Ev (fun k => spec_l13Num.l0 k (x : Int) acc (i : Int)) (acc ++ dig d x) := by
  intro d
  induction d with
  | zero =>
    intro i x acc h hx ha
    rw [dig, List.append_nil]
    exact Ev.step (fun _ => spec_l13Num.l0.eq_2 ..) (ev_neg (by omega) (ev_ret rfl))
  | succ d ih =>
    intro i x acc h hx ha
    have e1 : wrap64 ((i : Int) + 1) = ((i + 1 : Nat) : Int) := by rw [w64_id (by omega) (by omega)]; omega
    have e2 : IntKind.u64.wrap (Int.tdiv (x : Int) 256) = ((x / 256 : Nat) : Int) := by
      rw [show (256 : Int) = ((256 : Nat) : Int) from rfl, tdiv_nat, u64w_id (by omega) (by omega)]
    have e3 : (Int.tmod (x : Int) 256) % 256 = ((x % 256 : Nat) : Int) := by
      rw [show (256 : Int) = ((256 : Nat) : Int) from rfl, tmod_nat]; omega
    refine Ev.step (fun _ => spec_l13Num.l0.eq_2 ..) (ev_pos (by omega) (ev_pos (by omega) ?_))
    rw [e1, e2, e3]
    refine ev_eq ?_ (ih (i + 1) (x / 256) (acc ++ [((x % 256 : Nat) : Int)]) (by omega) (by omega) (by rw [List.length_append, List.length_singleton]; omega))
    rw [dig, List.append_assoc, List.singleton_append]
theorem spec_l13Num_ev {x : Nat} (hx : x < 2 ^ 64) : Ev (fun k => spec_l13Num.f k (x : Int)) (dig 8 x) := spec_l13Num_l0 8 0 x [] (by omega) hx (by simp)
theorem spec_l13Fill_l0 : ∀ (d : Nat) (xs : List Int), xs.length + d = 128 → Ev (fun k => spec_l13Fill.l0 k xs) (xs ++ List.replicate d 0) := by
  intro d
  induction d with
  | zero =>
    intro xs h
    rw [List.replicate_zero, List.append_nil]
    refine Ev.step (g := fun k => spec_l13Fill.l0 k xs) (fun k => by unfold spec_l13Fill.l0; rfl) (ev_neg (by omega) (ev_ret rfl))
  | succ d ih =>
    intro xs h
    refine Ev.step (g := fun k => spec_l13Fill.l0 k xs) (fun k => by unfold spec_l13Fill.l0; rfl) (ev_pos (by omega) (ev_pos (by omega) ?_))
    refine ev_eq ?_ (ih (xs ++ [0]) (by rw [List.length_append, List.length_singleton]; omega))
    rw [List.append_assoc, List.singleton_append, List.replicate_succ]
def putRun : List Int → Nat → List Int → List Int
  | xs, _, [] => xs
  | xs, a, v :: vs => putRun (xs.set a v) (a + 1) vs
theorem impl_put8_l0 (x a : Nat) (hx : x < 2 ^ 64) : ∀ (d i : Nat) (xs : List Int), i + d = 8 → a + 8 ≤ xs.length → xs.length ≤ 1048576 → Ev (fun k => impl_put8.l0 k xs (a : Int) (x : Int) (i : Int)) (putRun xs (a + i) (dig d (x / 256 ^ i))) := by
  intro d
  induction d with
  | zero => intro i xs h ha hl; exact Ev.step (fun _ => impl_put8.l0.eq_2 ..) (ev_neg (by omega) (ev_ret rfl))
  | succ d ih =>
    intro i xs h ha hl
    have e1 : wrap64 ((i : Int) + 1) = ((i + 1 : Nat) : Int) := by rw [w64_id (by omega) (by omega)]; omega
    have e2 : wrap64 (8 * (i : Int)) = ((8 * i : Nat) : Int) := by rw [w64_id (by omega) (by omega)]; omega
    have e3 : wrap64 ((a : Int) + (i : Int)) = ((a + i : Nat) : Int) := by rw [w64_id (by omega) (by omega)]; omega
    have e4 : (shr .u64 (x : Int) ((8 * i : Nat) : Int)) % 256 = ((x / 256 ^ i % 256 : Nat) : Int) := by
      rw [shr_nat _ _ hx, Nat.shiftRight_eq_div_pow, Nat.pow_mul]
      show ((x / (2 ^ 8) ^ i : Nat) : Int) % 256 = _
      rw [show (2 : Nat) ^ 8 = 256 from rfl]; omega
    refine Ev.step (fun _ => impl_put8.l0.eq_2 ..) (ev_pos (by omega) ?_)
    rw [e1, e2, e3, e4, Int.toNat_natCast]
    have hlt : a + i < xs.length := by omega
    refine ev_pos (Int.natCast_nonneg _) ?_
    refine ev_pos (Int.natCast_nonneg _) ?_
    refine ev_pos (Int.ofNat_lt.2 hlt) ?_
    rw [dig, putRun]
    refine ev_eq ?_ (ih (i + 1) (xs.set (a + i) ((x / 256 ^ i % 256 : Nat) : Int)) (by omega) (by rw [List.length_set]; exact ha) (by rw [List.length_set]; exact hl))
    rw [Nat.pow_succ, ← Nat.div_div_eq_div_mul, Nat.add_assoc]
theorem impl_put8_ev {x a : Nat} (hx : x < 2 ^ 64) {xs : List Int} (ha : a + 8 ≤ xs.length) (hl : xs.length ≤ 1048576) : Ev (fun k => impl_put8.f k xs (a : Int) (x : Int)) (putRun xs a (dig 8 x)) := by
  have := impl_put8_l0 x a hx 8 0 xs (by omega) ha hl
  rw [Nat.pow_zero, Nat.div_one, Nat.add_zero] at this
  exact this
def jnl40 : List Int := [75, 74, 78, 76] ++ List.replicate 36 0
def jnlHd (c : Nat) : List Int := (jnl40 ++ dig 8 c) ++ List.replicate 80 0
theorem jnl40_bytes : Bytes jnl40 := by
  intro x hx
  rcases List.mem_append.1 hx with h | h
  · simp at h; omega
  · have := (List.mem_replicate.1 h).2; omega
theorem jnl40_len : jnl40.length = 40 := rfl
theorem crc_nil : crcV [] = 0 := by decide
theorem jnlHd_len (c : Nat) : (jnlHd c).length = 128 := by
  unfold jnlHd
  rw [List.length_append, List.length_append, dig_len, jnl40_len, List.length_replicate]
theorem spec_l13Head_ev : Ev (fun k => spec_l13Head.f k 0 0 ((crcV [] : Nat) : Int)) (jnlHd (crcV jnl40)) := by
  unfold spec_l13Head.f
  have hc := lt32_64 (crcV_lt jnl40_bytes)
  have z := spec_l13Num_ev (x := 0) (by decide)
  have ez : IntKind.u64.wrap (0 : Int) = ((0 : Nat) : Int) := by rw [u64w_id (by omega) (by omega)]; rfl
  rw [crc_nil]
  refine ev_bind0 rfl (ev_pos (by decide) (ev_bind0 rfl ?_))
  refine Ev.bind z (ev_pos (by decide) (ev_bind0 rfl ?_))
  rw [ez]
  refine Ev.bind z (ev_pos (by decide) (ev_bind0 rfl ?_))
  refine Ev.bind z (ev_pos (by decide) (ev_bind0 rfl ?_))
  have e40 : ((([75, 74, 78, 76] ++ List.replicate 12 0 : List Int) ++ dig 8 0) ++ dig 8 0) ++ dig 8 0 = jnl40 := by decide
  rw [e40]
  refine Ev.bind (spec_Crc_ev jnl40_bytes (by decide)) (Ev.bind (spec_l13Num_ev hc) (ev_pos (by rw [dig_len, jnl40_len]; omega) ?_))
  unfold spec_l13Fill.f
  exact Ev.bind (spec_l13Fill_l0 80 _ (by rw [List.length_append, dig_len, jnl40_len])) (ev_ret rfl)
theorem or_low {a b : Nat} (hb : b < 256) : a * 256 ||| b = a * 256 + b := by
  have := Nat.two_pow_add_eq_or_of_lt (i := 8) hb a
  rw [Nat.mul_comm a 256]
  exact this.symm
theorem impl_get8_l0 (xs : List Int) (hb : Bytes xs) (hl : xs.length ≤ 4611686018427387904) (a : Nat) (h : a + 8 ≤ xs.length) : ∀ (m acc : Nat) (i : Int), i = (m : Int) - 1 → m ≤ 8 → acc < 256 ^ (8 - m) →
    Ev (fun k => impl_get8.l0 k xs (a : Int) (acc : Int) i) ((acc * 256 ^ m + wordN (byteAt xs a) m : Nat) : Int) := by
  intro m
  induction m with
  | zero =>
    intro acc i hi hm ha
    have e0 : acc * 256 ^ 0 + wordN (byteAt xs a) 0 = acc := by simp [wordN]
    rw [e0]
    exact Ev.step (fun _ => impl_get8.l0.eq_2 ..) (ev_neg (by omega) (ev_ret rfl))
  | succ m ih =>
    intro acc i hi hm ha
    have e1 : wrap64 ((a : Int) + i) = ((a + m : Nat) : Int) := by rw [w64_id (by omega) (by omega)]; omega
    have e2 : wrap64 (i - 1) = (m : Int) - 1 := by rw [w64_id (by omega) (by omega)]; omega
    have hbb := byteAt_lt hb a m
    have hr := word_room hbb (by omega) ha
    have hr2 : acc * 256 + byteAt xs a m < 18446744073709551616 := word_top hr
    have hA : acc * 256 < 2 ^ 64 := Nat.lt_of_le_of_lt (Nat.le_add_right _ _) hr2
    have hB : byteAt xs a m < 2 ^ 64 := Nat.lt_of_le_of_lt (Nat.le_add_left _ _) hr2
    have e3 : Go.bits .or .u64 (IntKind.u64.wrap ((acc : Int) * 256)) (IntKind.u64.wrap (rd xs ((a + m : Nat) : Int))) = ((acc * 256 + byteAt xs a m : Nat) : Int) := by
      rw [rd_byte hb, u64w_id (x := (byteAt xs a m : Int)) (by omega) (by omega), u64w_id (x := (acc : Int) * 256) (by omega) (by omega), show (acc : Int) * 256 = ((acc * 256 : Nat) : Int) by simp, or_nat hA hB, or_low hbb]
    refine Ev.step (fun _ => impl_get8.l0.eq_2 ..) (ev_pos (by omega) ?_)
    rw [e1, e2, e3]
    refine ev_pos (by omega) (ev_pos (by omega) ?_)
    refine ev_eq ?_ (ih _ _ rfl (by omega) hr)
    rw [wordN_step]
theorem impl_get8_ev {xs : List Int} (hb : Bytes xs) (hl : xs.length ≤ 4611686018427387904) {a : Nat} (h : a + 8 ≤ xs.length) : Ev (fun k => impl_get8.f k xs (a : Int)) ((wordAt xs a 8 : Nat) : Int) := by
  have := impl_get8_l0 xs hb hl a h 8 0 7 (by decide) (by omega) (by decide)
  rw [Nat.zero_mul, Nat.zero_add] at this
  exact this
theorem spec_l13Word_ev {xs : List Int} (hb : Bytes xs) (hl : xs.length ≤ 281474976710656) {a : Nat} (h : a + 8 ≤ xs.length) : Ev (fun k => spec_l13Word.f k xs (a : Int)) ((wordAt xs a 8 : Nat) : Int) := by
  unfold spec_l13Word.f
  have := spec_LoadWord_ev hb hl (a : Int) 8 false
  unfold loadV at this
  rw [if_pos ⟨by decide, by omega, by omega⟩, if_neg (by decide), Int.toNat_natCast] at this
  exact Ev.bind this (ev_ret rfl)
/-- The bytes of a sector. -/
def secV (D : List Int) (i : Nat) : List Int := (D.take ((i + 1) * 128)).drop (i * 128)
theorem secV_len {D : List Int} {i : Nat} (h : (i + 1) * 128 ≤ D.length) : (secV D i).length = 128 := by
  unfold secV; rw [List.length_drop, List.length_take]; omega
theorem secV_bytes {D : List Int} (hb : Bytes D) (i : Nat) : Bytes (secV D i) := fun x hx => hb x (List.mem_of_mem_take (List.mem_of_mem_drop hx))
theorem spec_l12Get_eq {D : List Int} {i : Nat} (h : (i + 1) * 128 ≤ D.length) (hl : D.length ≤ 4611686018427387904) : spec_l12Get.f D (i : Int) = some (secV D i) := by
  unfold spec_l12Get.f secV
  have e0 : wrap64 ((i : Int) * 128) = ((i * 128 : Nat) : Int) := by rw [w64_id (by omega) (by omega)]; omega
  have e2 : wrap64 ((i : Int) + 1) = ((i + 1 : Nat) : Int) := by rw [w64_id (by omega) (by omega)]; omega
  have e1 : wrap64 (((i + 1 : Nat) : Int) * 128) = (((i + 1) * 128 : Nat) : Int) := by rw [w64_id (by omega) (by omega)]; omega
  rw [Option.bind_some, e2, e0, e1, Int.toNat_natCast, Int.toNat_natCast, if_pos (by omega), if_pos (by omega), if_pos (by omega), if_pos (by simp only [List.length_nil, List.length_drop, List.length_take]; omega), List.nil_append]
theorem impl_sectorOf_eq {D : List Int} {i : Nat} (h : (i + 1) * 128 ≤ D.length) (hl : D.length ≤ 4611686018427387904) : impl_sectorOf.f D (i : Int) = some (secV D i) := by
  unfold impl_sectorOf.f secV
  have e0 : wrap64 ((i : Int) * 128) = ((i * 128 : Nat) : Int) := by rw [w64_id (by omega) (by omega)]; omega
  have e2 : wrap64 ((i : Int) + 1) = ((i + 1 : Nat) : Int) := by rw [w64_id (by omega) (by omega)]; omega
  have e1 : wrap64 (((i + 1 : Nat) : Int) * 128) = (((i + 1) * 128 : Nat) : Int) := by rw [w64_id (by omega) (by omega)]; omega
  rw [e2, e0, e1, Int.toNat_natCast, Int.toNat_natCast, if_pos (by omega), if_pos (by omega), if_pos (by omega), if_pos (by simp only [List.length_nil, List.length_drop, List.length_take]; omega), List.nil_append]
theorem spec_l12Same_l0 (a b : List Int) (hab : a.length = b.length) (hl : a.length ≤ 4611686018427387904) : ∀ (d i : Nat), i + d = a.length → a.take i = b.take i → Ev (fun k => spec_l12Same.l0 k a b (i : Int)) (decide (a = b)) := by
  intro d
  induction d with
  | zero =>
    intro i h he
    have e : a = b := by
      rw [List.take_of_length_le (by omega), List.take_of_length_le (by omega)] at he; exact he
    exact Ev.step (fun _ => spec_l12Same.l0.eq_2 ..) (ev_neg (by omega) (ev_ret (decide_eq_true e).symm))
  | succ d ih =>
    intro i h he
    have hi : i < a.length := by omega
    have hi2 : i < b.length := by omega
    refine Ev.step (fun _ => spec_l12Same.l0.eq_2 ..) (ev_pos (by omega) (ev_pos (by omega) (ev_pos (by omega) ?_)))
    rw [rd_nat hi, rd_nat hi2, w64_succ hi (by omega)]
    by_cases hx : a[i] = b[i]
    · refine ev_pos hx (ih (i + 1) (by omega) ?_)
      rw [List.take_succ_eq_append_getElem hi, List.take_succ_eq_append_getElem hi2, he, hx]
    · refine ev_neg hx (ev_ret (decide_eq_false (fun e => hx ?_)).symm)
      subst e; rfl
theorem spec_l12Same_ev {a b : List Int} (hl : a.length ≤ 4611686018427387904) : Ev (fun k => spec_l12Same.f k a b) (decide (a = b)) := by
  unfold spec_l12Same.f
  by_cases h : a.length = b.length
  · exact ev_pos (by omega) (spec_l12Same_l0 a b h hl a.length 0 (Nat.zero_add _) rfl)
  · exact ev_neg (by omega) (ev_ret (decide_eq_false (fun e => h (by rw [e]))).symm)
def jP : List Int := [75, 74, 78, 76] ++ List.replicate 12 0
def p40 (a c s : Nat) : List Int := jP ++ (dig 8 a ++ (dig 8 c ++ dig 8 s))
/-- The head of a journal, by its number, its count and its list's sum. -/
def hdG (a c s : Nat) : List Int := p40 a c s ++ (dig 8 (crcV (p40 a c s)) ++ List.replicate 80 0)
theorem jP_len : jP.length = 16 := rfl
theorem dig_bytes : ∀ (d x : Nat), Bytes (dig d x) := by
  intro d
  induction d with
  | zero => intro x y hy; cases hy
  | succ d ih =>
    intro x y hy
    rw [dig] at hy
    rcases List.mem_cons.1 hy with e | e
    · subst e; omega
    · exact ih _ y e
theorem bytes_app {xs ys : List Int} (h : Bytes xs) (k : Bytes ys) : Bytes (xs ++ ys) := fun x hx => (List.mem_append.1 hx).elim (h x) (k x)
theorem bytes_rep (n : Nat) : Bytes (List.replicate n (0 : Int)) := fun x hx => by rw [(List.mem_replicate.1 hx).2]; omega
theorem jP_bytes : Bytes jP := bytes_app (fun x hx => by simp at hx; omega) (bytes_rep 12)
theorem p40_len (a c s : Nat) : (p40 a c s).length = 40 := by
  unfold p40; simp only [List.length_append, jP_len, dig_len]
theorem p40_bytes (a c s : Nat) : Bytes (p40 a c s) := bytes_app jP_bytes (bytes_app (dig_bytes 8 a) (bytes_app (dig_bytes 8 c) (dig_bytes 8 s)))
theorem hdG_len (a c s : Nat) : (hdG a c s).length = 128 := by
  unfold hdG; simp only [List.length_append, p40_len, dig_len, List.length_replicate]
theorem hdG_bytes (a c s : Nat) : Bytes (hdG a c s) := bytes_app (p40_bytes a c s) (bytes_app (dig_bytes _ _) (bytes_rep _))
theorem spec_l13Head_gen {a c s : Nat} (ha : a < 2 ^ 64) (hc : c < 2 ^ 64) (hs : s < 2 ^ 64) : Ev (fun k => spec_l13Head.f k (a : Int) (c : Int) (s : Int)) (hdG a c s) := by
  unfold spec_l13Head.f
  have ec : IntKind.u64.wrap (c : Int) = (c : Int) := u64w_id (by omega) (by have : c < 18446744073709551616 := hc; omega)
  have hx := lt32_64 (crcV_lt (p40_bytes a c s))
  have e40 : (((([75, 74, 78, 76] : List Int) ++ List.replicate 12 0) ++ dig 8 a) ++ dig 8 c) ++ dig 8 s = p40 a c s := by
    unfold p40 jP; simp only [List.append_assoc]
  refine ev_bind0 rfl (ev_pos (by decide) (ev_bind0 rfl (Ev.bind (spec_l13Num_ev ha) (ev_pos (by rw [dig_len]; simp) (ev_bind0 rfl ?_)))))
  rw [ec]
  refine Ev.bind (spec_l13Num_ev hc) (ev_pos (by simp [dig_len]) (ev_bind0 rfl (Ev.bind (spec_l13Num_ev hs) (ev_pos (by simp [dig_len]) (ev_bind0 rfl ?_)))))
  rw [e40]
  refine Ev.bind (spec_Crc_ev (p40_bytes a c s) (by rw [p40_len]; decide)) (Ev.bind (spec_l13Num_ev hx) (ev_pos (by rw [dig_len, p40_len]; omega) ?_))
  unfold spec_l13Fill.f
  refine Ev.bind (spec_l13Fill_l0 80 _ (by rw [List.length_append, dig_len, p40_len])) (ev_ret ?_)
  unfold hdG; rw [List.append_assoc]
theorem putRun_mid : ∀ (vs A B C : List Int), B.length = vs.length → putRun (A ++ (B ++ C)) A.length vs = A ++ (vs ++ C) := by
  intro vs
  induction vs with
  | nil => intro A B C h; rw [List.eq_nil_of_length_eq_zero h]; rfl
  | cons v vs ih =>
    intro A B C h
    cases B with
    | nil => simp at h
    | cons b B =>
      rw [putRun]
      have e : (A ++ (b :: B ++ C)).set A.length v = (A ++ [v]) ++ (B ++ C) := by
        rw [List.set_append_right _ _ (Nat.le_refl _), Nat.sub_self]; simp
      have := ih (A ++ [v]) B C (by simpa using h)
      rw [List.length_append, List.length_singleton] at this
      rw [e, this, List.append_assoc]; rfl
theorem putRun_at {A B C vs : List Int} {a : Nat} (ha : A.length = a) (h : B.length = vs.length) : putRun (A ++ (B ++ C)) a vs = A ++ (vs ++ C) := by
  subst ha; exact putRun_mid vs A B C h
theorem impl_jnlHead_gen {a c : Nat} {l : List Int} (ha : a < 2 ^ 64) (hc : c ≤ 16) (hbl : Bytes l) (hl : 16 * c ≤ l.length) (hl2 : l.length ≤ 1048576) : Ev (fun k => impl_jnlHead.f k (a : Int) l (c : Int)) (hdG a c (crcV (l.take (16 * c)))) := by
  unfold impl_jnlHead.f
  have ec : IntKind.u64.wrap (c : Int) = (c : Int) := u64w_id (by omega) (by omega)
  have ew : wrap64 (16 * (c : Int)) = ((16 * c : Nat) : Int) := by rw [w64_id (by omega) (by omega)]; omega
  have hbt : Bytes (l.take (16 * c)) := fun x hx => hbl x (List.mem_of_mem_take hx)
  have hs := lt32_64 (crcV_lt hbt)
  have hct : Ev (fun k => impl_Crc.f k (l.take (16 * c))) (crcV (l.take (16 * c)) : Int) := impl_Crc_ev hbt (by rw [List.length_take]; omega)
  generalize crcV (l.take (16 * c)) = s at hs hct ⊢
  have hx := lt32_64 (crcV_lt (p40_bytes a c s))
  have hcopy : copyS.f (List.replicate 128 0) (⟨#[75, 74, 78, 76]⟩ : ByteArray) = some (jP ++ (List.replicate 8 0 ++ (List.replicate 8 0 ++ (List.replicate 8 0 ++ (List.replicate 8 0 ++ List.replicate 80 0))))) := by
    unfold copyS.f
    rw [if_pos (by rw [List.length_replicate]; decide)]
    rfl
  have r8 : ∀ x : Nat, (List.replicate 8 (0 : Int)).length = (dig 8 x).length := fun x => by rw [dig_len]; rfl
  have b16 := impl_put8_ev (x := a) (a := 16) ha (xs := jP ++ (List.replicate 8 0 ++ (List.replicate 8 0 ++ (List.replicate 8 0 ++ (List.replicate 8 0 ++ List.replicate 80 0))))) (by simp [jP_len]) (by simp [jP_len])
  rw [putRun_at jP_len (r8 a)] at b16
  have b24 := impl_put8_ev (x := c) (a := 24) (by omega) (xs := jP ++ (dig 8 a ++ (List.replicate 8 0 ++ (List.replicate 8 0 ++ (List.replicate 8 0 ++ List.replicate 80 0))))) (by simp [jP_len, dig_len]) (by simp [jP_len, dig_len])
  rw [← List.append_assoc jP, putRun_at (by simp [jP_len, dig_len]) (r8 c), List.append_assoc] at b24
  have b32 := impl_put8_ev (x := s) (a := 32) hs (xs := jP ++ (dig 8 a ++ (dig 8 c ++ (List.replicate 8 0 ++ (List.replicate 8 0 ++ List.replicate 80 0))))) (by simp [jP_len, dig_len]) (by simp [jP_len, dig_len])
  rw [← List.append_assoc (dig 8 a), ← List.append_assoc jP, putRun_at (by simp [jP_len, dig_len]) (r8 s)] at b32
  have e32 : (jP ++ (dig 8 a ++ dig 8 c)) ++ (dig 8 s ++ (List.replicate 8 0 ++ List.replicate 80 0)) = p40 a c s ++ (List.replicate 8 0 ++ List.replicate 80 0) := by
    unfold p40; simp only [List.append_assoc]
  rw [e32] at b32
  have b40 := impl_put8_ev (x := crcV (p40 a c s)) (a := 40) hx (xs := p40 a c s ++ (List.replicate 8 0 ++ List.replicate 80 0)) (by simp [p40_len]) (by simp [p40_len])
  rw [putRun_at (p40_len a c s) (r8 _)] at b40
  have t40 : (p40 a c s ++ (List.replicate 8 0 ++ List.replicate 80 0)).take 40 = p40 a c s := by
    have := List.take_left' (l₂ := List.replicate 8 (0 : Int) ++ List.replicate 80 0) (p40_len a c s)
    exact this
  refine ev_pos (by decide) (ev_bind0 rfl (ev_bind0 hcopy (Ev.bind b16 ?_)))
  rw [ec, ew, Int.toNat_natCast]
  have b24' : Ev (fun k => impl_put8.f k (jP ++ (dig 8 a ++ (List.replicate 8 0 ++ (List.replicate 8 0 ++ (List.replicate 8 0 ++ List.replicate 80 0))))) 24 (c : Int)) (jP ++ (dig 8 a ++ (dig 8 c ++ (List.replicate 8 0 ++ (List.replicate 8 0 ++ List.replicate 80 0))))) := by
    rw [← List.append_assoc jP]
    exact b24
  have b32' : Ev (fun k => impl_put8.f k (jP ++ (dig 8 a ++ (dig 8 c ++ (List.replicate 8 0 ++ (List.replicate 8 0 ++ List.replicate 80 0))))) 32 (s : Int)) (p40 a c s ++ (List.replicate 8 0 ++ List.replicate 80 0)) := by
    rw [← List.append_assoc (dig 8 a), ← List.append_assoc jP]
    exact b32
  refine Ev.bind b24' (ev_pos (by omega) (ev_pos (by omega) (Ev.bind hct (Ev.bind b32' (ev_pos (by rw [List.length_replicate]; decide) ?_)))))
  rw [t40]
  exact Ev.bind (impl_Crc_ev (p40_bytes a c s) (by rw [p40_len]; decide)) (Ev.bind b40 (ev_ret rfl))
theorem wordN_low (f : Nat → Nat) : ∀ m, wordN f (m + 1) = f 0 + 256 * wordN (fun j => f (j + 1)) m := by
  intro m
  induction m with
  | zero => simp [wordN]
  | succ m ih =>
    rw [wordN, ih]
    conv => rhs; rw [wordN]
    rw [Nat.mul_add, Nat.pow_succ, Nat.mul_comm (256 ^ m) 256, ← Nat.mul_assoc, ← Nat.mul_assoc, Nat.mul_comm (f (m + 1)) 256]
    omega
theorem dig_word : ∀ (m : Nat) (f : Nat → Nat), (∀ j, j < m → f j < 256) → dig m (wordN f m) = (List.range m).map fun j => (f j : Int) := by
  intro m
  induction m with
  | zero => intro f h; rfl
  | succ m ih =>
    intro f h
    rw [wordN_low, dig]
    have h0 := h 0 (by omega)
    have e1 : (f 0 + 256 * wordN (fun j => f (j + 1)) m) % 256 = f 0 := by omega
    have e2 : (f 0 + 256 * wordN (fun j => f (j + 1)) m) / 256 = wordN (fun j => f (j + 1)) m := by omega
    rw [e1, e2, ih _ (fun j hj => h (j + 1) (by omega)), List.range_succ_eq_map, List.map_cons, List.map_map]
    rfl
theorem seg_word {D : List Int} (hb : Bytes D) {a : Nat} (h : a + 8 ≤ D.length) : (D.take (a + 8)).drop a = dig 8 (wordAt D a 8) := by
  unfold wordAt
  rw [dig_word 8 _ (fun j _ => byteAt_lt hb a j)]
  apply List.ext_getElem?
  intro j
  rw [List.getElem?_drop]
  by_cases hj : j < 8
  · rw [List.getElem?_take_of_lt (by omega), List.getElem?_map, List.getElem?_range hj, List.getElem?_eq_getElem (by omega)]
    have hx := hb _ (List.getElem_mem (show a + j < D.length by omega))
    show some _ = some ((byteAt D a j : Nat) : Int)
    unfold byteAt
    rw [List.getD_eq_getElem?_getD, List.getElem?_eq_getElem (by omega)]
    simp only [Option.getD_some, Option.some.injEq]; omega
  · rw [List.getElem?_eq_none (by rw [List.length_take]; omega), List.getElem?_eq_none (by simp; omega)]
theorem byteAt_sub {D : List Int} {m n a j : Nat} (h : n + a + j < m) : byteAt ((D.take m).drop n) a j = byteAt D (n + a) j := by
  unfold byteAt
  rw [List.getD_eq_getElem?_getD, List.getD_eq_getElem?_getD, List.getElem?_drop, List.getElem?_take_of_lt (by omega), show n + (a + j) = n + a + j by omega]
theorem wordN_congr {f g : Nat → Nat} : ∀ m, (∀ j, j < m → f j = g j) → wordN f m = wordN g m
  | 0, _ => rfl
  | m + 1, h => by rw [wordN, wordN, h m (by omega), wordN_congr m (fun j hj => h j (by omega))]
theorem wordAt_sub {D : List Int} {m n a : Nat} (h : n + a + 8 ≤ m) : wordAt ((D.take m).drop n) a 8 = wordAt D (n + a) 8 := wordN_congr 8 (fun j hj => byteAt_sub (by omega))
theorem wordAt_take {D : List Int} {m a : Nat} (h : a + 8 ≤ m) : wordAt (D.take m) a 8 = wordAt D a 8 := by
  have := wordAt_sub (D := D) (m := m) (n := 0) (a := a) (by omega)
  rw [List.drop_zero, Nat.zero_add] at this
  exact this
theorem strOfNums_inj {xs ys : List Int} (hx : Bytes xs) (hy : Bytes ys) (h : (strOfNums xs).toList = (strOfNums ys).toList) : xs = ys := by
  rw [ByteArray.toList_eq, ByteArray.toList_eq] at h
  unfold strOfNums at h
  simp only at h
  have back : ∀ zs : List Int, Bytes zs → (zs.map fun n => UInt8.ofNat n.toNat).map (fun u : UInt8 => (u.toNat : Int)) = zs := by
    intro zs hz
    rw [List.map_map]
    conv => rhs; rw [← List.map_id zs]
    apply List.map_congr_left
    intro z hzm
    have := hz z hzm
    simp only [Function.comp, id, UInt8.toNat_ofNat']
    omega
  have := congrArg (List.map (fun u : UInt8 => (u.toNat : Int))) h
  rwa [back xs hx, back ys hy] at this
def listE (D : List Int) (x w z last : Nat) (r : Option (List Int)) : Option (List Int) := if x ≤ last ∨ D.length / 128 ≤ x ∨ w ≠ z then none else r.map (fun l => (x : Int) :: l)
theorem listE_bad {D : List Int} {x w z last : Nat} {r : Option (List Int)} (h : x ≤ last ∨ D.length / 128 ≤ x ∨ w ≠ z) : listE D x w z last r = none := if_pos h
theorem listE_ok {D : List Int} {x w z last : Nat} {r : Option (List Int)} (h : ¬ (x ≤ last ∨ D.length / 128 ≤ x ∨ w ≠ z)) : listE D x w z last r = r.map (fun l => (x : Int) :: l) := if_neg h
/-- The home sectors that the list tells of from the i-th on; nothing where it is not right. -/
def listV (D : List Int) : Nat → Nat → Nat → Option (List Int)
  | 0, _, _ => some []
  | d + 1, i, last => listE D (wordAt D (128 + 16 * i) 8) (wordAt D (128 + 16 * i + 8) 8) (crcV (secV D (3 + i))) last (listV D d (i + 1) (wordAt D (128 + 16 * i) 8))
theorem listV_succ (D : List Int) (d i last : Nat) : listV D (d + 1) i last = listE D (wordAt D (128 + 16 * i) 8) (wordAt D (128 + 16 * i + 8) 8) (crcV (secV D (3 + i))) last (listV D d (i + 1) (wordAt D (128 + 16 * i) 8)) := rfl
def zerosV (D : List Int) (i : Nat) : Bool := ((D.take 384).drop (128 + i)).all (fun x => decide (x = 0))
theorem listV_len (D : List Int) : ∀ (d i last : Nat) (l : List Int), listV D d i last = some l → l.length = d := by
  intro d
  induction d with
  | zero => intro i last l h; simp only [listV, Option.some.injEq] at h; rw [← h]; rfl
  | succ d ih =>
    intro i last l h
    rw [listV_succ] at h; unfold listE at h
    split at h
    · cases h
    · obtain ⟨m, hm, rfl⟩ := Option.map_eq_some_iff.1 h
      rw [List.length_cons, ih _ _ m hm]
def readV (D : List Int) : Int × Int × List Int :=
  if D.length % 128 = 0 ∧ D.length ≤ 131072 ∧ 2688 ≤ D.length then
    if 16 < wordAt D 24 8 ∨ ¬ D.take 128 = hdG (wordAt D 16 8) (wordAt D 24 8) (wordAt D 32 8) then (4, 0, []) else
    if wordAt D 24 8 = 0 then (if wordAt D 32 8 = 0 then (1, (wordAt D 16 8 : Int), []) else (4, 0, [])) else
    if wordAt D 32 8 = crcV ((D.take (128 + 16 * wordAt D 24 8)).drop 128) then
      match listV D (wordAt D 24 8) 0 19 with
      | none => (3, (wordAt D 16 8 : Int), [])
      | some l => if zerosV D (16 * wordAt D 24 8) then (2, (wordAt D 16 8 : Int), l) else (3, (wordAt D 16 8 : Int), [])
    else (3, (wordAt D 16 8 : Int), [])
  else (0, 0, [])
theorem spec_l13List_l1 (D : List Int) (hn : 384 ≤ D.length) (acc : List Int) : ∀ (d i : Nat), i + d = 256 → Ev (fun k => spec_l13List.l1 k D 128 acc (i : Int)) (acc, zerosV D i) := by
  intro d
  induction d with
  | zero =>
    intro i h
    refine Ev.step (fun _ => spec_l13List.l1.eq_2 ..) (ev_neg (by omega) (ev_ret ?_))
    unfold zerosV
    rw [List.drop_eq_nil_of_le (by rw [List.length_take]; omega)]; rfl
  | succ d ih =>
    intro i h
    have e1 : wrap64 ((i : Int) + 1) = ((i + 1 : Nat) : Int) := by rw [w64_id (by omega) (by omega)]; omega
    have e2 : wrap64 (128 + (i : Int)) = ((128 + i : Nat) : Int) := by rw [w64_id (by omega) (by omega)]; omega
    have hi : 128 + i < D.length := by omega
    refine Ev.step (fun _ => spec_l13List.l1.eq_2 ..) (ev_pos (by omega) ?_)
    rw [e1, e2, rd_nat hi]
    refine ev_pos (by omega) (ev_pos (by omega) ?_)
    have hz : zerosV D i = (decide (D[128 + i] = 0) && zerosV D (i + 1)) := by
      unfold zerosV
      have hl : 128 + i < (D.take 384).length := by rw [List.length_take]; omega
      rw [List.drop_eq_getElem_cons hl, List.all_cons, List.getElem_take]; rfl
    rw [hz]
    by_cases hx : D[128 + i] = 0
    · rw [decide_eq_true hx, Bool.true_and]; exact ev_pos hx (ih (i + 1) (by omega))
    · rw [decide_eq_false hx, Bool.false_and]; exact ev_neg hx (ev_ret rfl)
theorem spec_l13List_l0 (D : List Int) (hb : Bytes D) (hn : 2688 ≤ D.length) (hl : D.length ≤ 131072) (c : Nat) (hc : c ≤ 16) : ∀ (d i last : Nat) (acc : List Int), i + d = c → acc.length = i → (i = 0 → last = 19) → (∀ h : 0 < i, 20 ≤ last ∧ acc[i - 1]? = some (last : Int)) →
    ∃ X, Ev (fun k => spec_l13List.l0 k D (c : Int) 128 acc (i : Int)) (match listV D d i last with | none => (X, false) | some l => (acc ++ l, zerosV D (16 * c))) := by
  intro d
  induction d with
  | zero =>
    intro i last acc h ha h0 h1
    have e : wrap64 (16 * (c : Int)) = ((16 * c : Nat) : Int) := by rw [w64_id (by omega) (by omega)]; omega
    refine ⟨[], Ev.step (fun _ => spec_l13List.l0.eq_2 ..) (ev_neg (by omega) ?_)⟩
    rw [e]
    simp only [listV, List.append_nil]
    exact spec_l13List_l1 D (by omega) acc (256 - 16 * c) (16 * c) (by omega)
  | succ d ih =>
    intro i last acc h ha h0 h1
    have e1 : wrap64 (16 * (i : Int)) = ((16 * i : Nat) : Int) := by rw [w64_id (by omega) (by omega)]; omega
    have e2 : wrap64 (128 + ((16 * i : Nat) : Int)) = ((128 + 16 * i : Nat) : Int) := by rw [w64_id (by omega) (by omega)]; omega
    have e3 : wrap64 (((128 + 16 * i : Nat) : Int) + 8) = ((128 + 16 * i + 8 : Nat) : Int) := by rw [w64_id (by omega) (by omega)]; omega
    have e4 : wrap64 (3 + (i : Int)) = ((3 + i : Nat) : Int) := by rw [w64_id (by omega) (by omega)]; omega
    have e5 : wrap64 ((i : Int) + 1) = ((i + 1 : Nat) : Int) := by rw [w64_id (by omega) (by omega)]; omega
    have e6 : IntKind.u64.wrap (wrap64 ((D.length : Int) / 128)) = ((D.length / 128 : Nat) : Int) := by
      rw [w64_id (by omega) (by omega), u64w_id (by omega) (by omega)]; omega
    have hw := spec_l13Word_ev hb (by omega) (a := 128 + 16 * i) (by omega)
    have hw2 := spec_l13Word_ev hb (by omega) (a := 128 + 16 * i + 8) (by omega)
    have hsec : (3 + i + 1) * 128 ≤ D.length := by omega
    have hg := spec_l12Get_eq (D := D) (i := 3 + i) hsec (by omega)
    have hcr := spec_Crc_ev (secV_bytes hb (3 + i)) (by rw [secV_len hsec]; omega)
    rw [listV_succ]
    generalize wordAt D (128 + 16 * i) 8 = x at hw ⊢
    have step0 : ∀ R, Ev (fun k => if (x : Int) < 20 then (spec_l13List.j1 k D (c : Int) 128 acc (i : Int) (x : Int) true) else (if (x : Int) ≥ ((D.length / 128 : Nat) : Int) then (spec_l13List.j1 k D (c : Int) 128 acc (i : Int) (x : Int) true) else (if (i : Int) > 0 then (if 0 ≤ (wrap64 ((i : Int) - 1)) then (if (wrap64 ((i : Int) - 1)) < (acc.length : Int) then (spec_l13List.j1 k D (c : Int) 128 acc (i : Int) (x : Int) (decide ((wrap64 ((x : Int))) ≤ (rd acc (wrap64 ((i : Int) - 1)))))) else (none)) else (none)) else (spec_l13List.j1 k D (c : Int) 128 acc (i : Int) (x : Int) false)))) R → Ev (fun k => spec_l13List.l0 k D (c : Int) 128 acc (i : Int)) R := by
      intro R hR
      refine Ev.step (fun _ => spec_l13List.l0.eq_2 ..) (ev_pos (by omega) ?_)
      rw [e1, e2, e6]
      exact Ev.bind hw hR
    have jt : Ev (fun k => spec_l13List.j1 k D (c : Int) 128 acc (i : Int) (x : Int) true) (acc, false) := Ev.step (fun _ => spec_l13List.j1.eq_2 ..) (ev_pos rfl (ev_ret rfl))
    by_cases bad : x ≤ last ∨ D.length / 128 ≤ x
    · rw [listE_bad (bad.elim Or.inl (fun h => Or.inr (Or.inl h)))]
      refine ⟨acc, step0 _ ?_⟩
      refine ev_split (fun _ => jt) (fun hx20 => ev_split (fun _ => jt) (fun hxn => ?_))
      have hxl : x ≤ last := by omega
      have hi0 : 0 < i := by
        rcases Nat.eq_zero_or_pos i with e | e
        · have := h0 e; omega
        · exact e
      obtain ⟨h20, hla⟩ := h1 hi0
      have e7 : wrap64 ((i : Int) - 1) = ((i - 1 : Nat) : Int) := by rw [w64_id (by omega) (by omega)]; omega
      rw [e7]
      refine ev_pos (by omega) (ev_pos (by omega) (ev_pos (by omega) ?_))
      have hil : i - 1 < acc.length := by omega
      rw [rd_nat hil, w64_id (x := (x : Int)) (by omega) (by omega)]
      rw [List.getElem?_eq_getElem hil] at hla
      rw [Option.some.inj hla, decide_eq_true (by omega)]
      exact jt
    · have go : ∀ R, Ev (fun k => spec_l13List.j1 k D (c : Int) 128 acc (i : Int) (x : Int) false) R → Ev (fun k => spec_l13List.l0 k D (c : Int) 128 acc (i : Int)) R := by
        intro R hR
        refine step0 R ?_
        have h20 : 20 ≤ x := by
          rcases Nat.eq_zero_or_pos i with e | e
          · have := h0 e; omega
          · have := (h1 e).1; omega
        refine ev_neg (by omega) (ev_neg (by omega) (ev_split (fun hi0 => ?_) (fun _ => hR)))
        obtain ⟨h20', hla⟩ := h1 (by omega)
        have e7 : wrap64 ((i : Int) - 1) = ((i - 1 : Nat) : Int) := by rw [w64_id (by omega) (by omega)]; omega
        rw [e7]
        refine ev_pos (by omega) (ev_pos (by omega) ?_)
        have hil : i - 1 < acc.length := by omega
        rw [rd_nat hil, w64_id (x := (x : Int)) (by omega) (by omega)]
        rw [List.getElem?_eq_getElem hil] at hla
        rw [Option.some.inj hla, decide_eq_false (by omega)]
        exact hR
      by_cases hcrc : wordAt D (128 + 16 * i + 8) 8 = crcV (secV D (3 + i))
      · rw [listE_ok (fun h => h.elim (fun h => bad (.inl h)) (fun h => h.elim (fun h => bad (.inr h)) (fun h => h hcrc)))]
        obtain ⟨X, hX⟩ := ih (i + 1) x (acc ++ [(x : Int)]) (by omega) (by rw [List.length_append, List.length_singleton]; omega) (fun h => by omega) (fun _ => ⟨by
          rcases Nat.eq_zero_or_pos i with e | e
          · have := h0 e; omega
          · have := (h1 e).1; omega, by rw [Nat.add_sub_cancel, List.getElem?_append_right (by omega), ha, Nat.sub_self]; rfl⟩)
        refine ⟨X, go _ (Ev.step (fun _ => spec_l13List.j1.eq_2 ..) (ev_neg (by decide) ?_))⟩
        rw [e1, e2, e3, e4]
        refine Ev.bind hw2 (ev_bind0 hg (Ev.bind hcr (ev_pos (by omega) (ev_pos (by omega) ?_))))
        rw [e5, w64_id (x := (x : Int)) (by omega) (by omega)]
        refine ev_eq ?_ hX
        cases listV D d (i + 1) x with
        | none => rfl
        | some l => simp only [Option.map_some, List.append_assoc, List.singleton_append]
      · rw [listE_bad (Or.inr (Or.inr hcrc))]
        refine ⟨acc, go _ (Ev.step (fun _ => spec_l13List.j1.eq_2 ..) (ev_neg (by decide) ?_))⟩
        rw [e1, e2, e3, e4]
        exact Ev.bind hw2 (ev_bind0 hg (Ev.bind hcr (ev_neg (by omega) (ev_ret rfl))))
theorem spec_JnlRead_ev {D : List Int} (hb : Bytes D) (hl : D.length ≤ 1048576) : Ev (fun k => spec_JnlRead.f k D) (readV D) := by
  unfold spec_JnlRead.f readV
  have hd : spec_l12Disk.f D = some (decide (D.length % 128 = 0 ∧ D.length ≤ 131072)) := by
    unfold spec_l12Disk.f
    by_cases h1 : D.length % 128 = 0
    · rw [if_pos (by omega)]; simp only [Option.some.injEq, decide_eq_decide]; omega
    · rw [if_neg (by omega), decide_eq_false (fun h => h1 h.1)]
  have hbig : spec_l13Big.f D = some (decide (D.length % 128 = 0 ∧ D.length ≤ 131072 ∧ 2688 ≤ D.length)) := by
    unfold spec_l13Big.f
    rw [hd, Option.bind_some]
    by_cases h1 : D.length % 128 = 0 ∧ D.length ≤ 131072
    · rw [if_pos (decide_eq_true h1)]; simp only [Option.some.injEq, decide_eq_decide]; omega
    · rw [if_neg (by rw [decide_eq_false h1]; decide), decide_eq_false (fun h => h1 ⟨h.1, h.2.1⟩)]
  refine ev_bind0 hbig ?_
  by_cases hok : D.length % 128 = 0 ∧ D.length ≤ 131072 ∧ 2688 ≤ D.length
  · rw [if_pos hok]
    obtain ⟨hk1, hk2, hk3⟩ := hok
    refine ev_pos (decide_eq_true ⟨hk1, hk2, hk3⟩) ?_
    have w16 := spec_l13Word_ev hb (by omega) (a := 16) (by omega)
    have w24 := spec_l13Word_ev hb (by omega) (a := 24) (by omega)
    have w32 := spec_l13Word_ev hb (by omega) (a := 32) (by omega)
    have l16 := wordAt_lt hb (at_ := 16) (size := 8) (by omega)
    have l24 := wordAt_lt hb (at_ := 24) (size := 8) (by omega)
    have l32 := wordAt_lt hb (at_ := 32) (size := 8) (by omega)
    refine Ev.bind w16 (Ev.bind w24 (Ev.bind w32 ?_))
    have hlst : wordAt D 24 8 ≤ 16 → ∃ X, Ev (fun k => spec_l13List.l0 k D ((wordAt D 24 8 : Nat) : Int) 128 [] ((0 : Nat) : Int)) (match listV D (wordAt D 24 8) 0 19 with | none => (X, false) | some l => ([] ++ l, zerosV D (16 * wordAt D 24 8))) := fun h => spec_l13List_l0 D hb hk3 hk2 (wordAt D 24 8) h (wordAt D 24 8) 0 19 [] (by omega) rfl (fun _ => rfl) (fun h => by omega)
    generalize wordAt D 24 8 = c at *
    generalize wordAt D 16 8 = a at *
    generalize wordAt D 32 8 = s at *
    have bad : Ev (fun k => spec_JnlRead.j0 k D (a : Int) (c : Int) (s : Int) true) ((4, 0, []) : Int × Int × List Int) := Ev.step (fun _ => spec_JnlRead.j0.eq_2 ..) (ev_pos rfl (ev_ret rfl))
    by_cases h16 : 16 < c
    · rw [if_pos (Or.inl h16)]; exact ev_pos (by omega) bad
    · refine ev_neg (by omega) ?_
      have ec : wrap64 (c : Int) = (c : Int) := w64_id (by omega) (by omega)
      have hs0 : secV D 0 = D.take 128 := by unfold secV; rfl
      have hg := spec_l12Get_eq (D := D) (i := 0) (by omega) (by omega)
      rw [hs0] at hg
      rw [ec]
      refine ev_bind0 hg (Ev.bind (spec_l13Head_gen l16 (by omega) l32) (Ev.bind (spec_l12Same_ev (by rw [List.length_take]; omega)) ?_))
      by_cases hh : D.take 128 = hdG a c s
      · rw [decide_eq_true hh, if_neg (fun h => h.elim h16 (fun h => h hh))]
        refine Ev.step (fun _ => spec_JnlRead.j0.eq_2 ..) (ev_neg (by decide) ?_)
        by_cases hc0 : c = 0
        · rw [if_pos hc0]
          refine ev_pos (by omega) (Ev.bind (spec_Crc_ev (xs := []) (fun x hx => by cases hx) (by decide)) ?_)
          rw [crc_nil]
          by_cases hs0' : s = 0
          · rw [if_pos hs0']; exact ev_pos (by omega) (ev_ret rfl)
          · rw [if_neg hs0']; exact ev_neg (by omega) (ev_ret rfl)
        · rw [if_neg hc0]
          refine ev_neg (by omega) ?_
          rw [ec]
          have e1 : wrap64 (16 * (c : Int)) = ((16 * c : Nat) : Int) := by rw [w64_id (by omega) (by omega)]; omega
          have e2 : wrap64 (128 + ((16 * c : Nat) : Int)) = ((128 + 16 * c : Nat) : Int) := by rw [w64_id (by omega) (by omega)]; omega
          have hbt : Bytes ((D.take (128 + 16 * c)).drop 128) := fun x hx => hb x (List.mem_of_mem_take (List.mem_of_mem_drop hx))
          have hcr := spec_Crc_ev hbt (by rw [List.length_drop, List.length_take]; omega)
          obtain ⟨X, hX⟩ := hlst (by omega)
          by_cases hsum : s = crcV ((D.take (128 + 16 * c)).drop 128)
          · rw [if_pos hsum]
            have hL : Ev (fun k => spec_l13List.f k D (c : Int) (s : Int)) (match listV D c 0 19 with | none => (X, false) | some l => ([] ++ l, zerosV D (16 * c))) := by
              unfold spec_l13List.f
              rw [e1, e2, Int.toNat_natCast]
              exact ev_bind0 rfl (ev_pos (by omega) (ev_pos (by omega) (Ev.bind hcr (ev_pos (by omega) hX))))
            refine Ev.bind hL ?_
            cases listV D c 0 19 with
            | none => exact ev_neg (fun h => by cases h) (ev_ret rfl)
            | some l =>
              simp only [List.nil_append]
              cases zerosV D (16 * c) with
              | true => exact ev_pos rfl (ev_ret rfl)
              | false => exact ev_neg (fun h => by cases h) (ev_ret rfl)
          · rw [if_neg hsum]
            have hL : Ev (fun k => spec_l13List.f k D (c : Int) (s : Int)) (([], false) : List Int × Bool) := by
              unfold spec_l13List.f
              rw [e1, e2, Int.toNat_natCast]
              exact ev_bind0 rfl (ev_pos (by omega) (ev_pos (by omega) (Ev.bind hcr (ev_neg (by omega) (ev_ret rfl)))))
            exact Ev.bind hL (ev_neg (by decide) (ev_ret rfl))
      · rw [decide_eq_false hh, if_pos (Or.inr hh)]; exact bad
  · rw [if_neg hok]
    exact ev_neg (by rw [decide_eq_false hok]; decide) (ev_ret rfl)
theorem impl_zeros_l0 (xs : List Int) (hl : xs.length ≤ 4611686018427387904) : ∀ (d i : Nat), i + d = xs.length → Ev (fun k => impl_zeros.l0 k xs (xs.length : Int) (i : Int)) ((xs.drop i).all (fun x => decide (x = 0))) := by
  intro d
  induction d with
  | zero =>
    intro i h
    rw [List.drop_eq_nil_of_le (by omega)]
    exact Ev.step (fun _ => impl_zeros.l0.eq_2 ..) (ev_neg (by omega) (ev_ret rfl))
  | succ d ih =>
    intro i h
    have hi : i < xs.length := by omega
    refine Ev.step (fun _ => impl_zeros.l0.eq_2 ..) (ev_pos (by omega) (ev_pos (by omega) (ev_pos (by omega) ?_)))
    rw [rd_nat hi, w64_succ hi (by omega), List.drop_eq_getElem_cons hi, List.all_cons]
    by_cases hx : xs[i] = 0
    · rw [decide_eq_true hx, Bool.true_and]; exact ev_pos hx (ih (i + 1) (by omega))
    · rw [decide_eq_false hx, Bool.false_and]; exact ev_neg hx (ev_ret rfl)
theorem impl_JnlRead_l0 (D : List Int) (hb : Bytes D) (hn : 2688 ≤ D.length) (hl : D.length ≤ 131072) (c : Nat) (hc : c ≤ 16) (a : Int) : ∀ (d i last : Nat) (acc : List Int), i + d = c → acc.length = i →
    Ev (fun k => impl_JnlRead.l0 k D ((D.take 384).drop 128) (c : Int) acc (last : Int) (c : Int) (i : Int) 3 a) (match listV D d i last with | none => ((3, a, []) : Int × Int × List Int) | some l => if zerosV D (16 * c) then (2, a, acc ++ l) else (3, a, [])) := by
  have hL : ((D.take 384).drop 128).length = 256 := by rw [List.length_drop, List.length_take]; omega
  have hbL : Bytes ((D.take 384).drop 128) := fun x hx => hb x (List.mem_of_mem_take (List.mem_of_mem_drop hx))
  intro d
  induction d with
  | zero =>
    intro i last acc h ha
    have e : IntKind.u64.wrap (16 * (c : Int)) = ((16 * c : Nat) : Int) := by rw [u64w_id (by omega) (by omega)]; omega
    refine Ev.step (fun _ => impl_JnlRead.l0.eq_2 ..) (ev_neg (by omega) ?_)
    rw [e, Int.toNat_natCast]
    have hz := impl_zeros_l0 (((D.take 384).drop 128).drop (16 * c)) (by rw [List.length_drop, hL]; omega) _ 0 (Nat.zero_add _)
    rw [List.drop_zero] at hz
    have ez : ((((D.take 384).drop 128).drop (16 * c)).all fun x => decide (x = 0)) = zerosV D (16 * c) := by unfold zerosV; rw [List.drop_drop]
    rw [ez] at hz
    refine ev_pos (by omega) (ev_pos (by rw [hL]; omega) (Ev.bind hz ?_))
    simp only [listV, List.append_nil]
    cases zerosV D (16 * c) with
    | true => exact ev_pos rfl (ev_ret rfl)
    | false => exact ev_neg (fun h => by cases h) (ev_ret rfl)
  | succ d ih =>
    intro i last acc h ha
    have e1 : wrap64 (16 * (i : Int)) = ((16 * i : Nat) : Int) := by rw [w64_id (by omega) (by omega)]; omega
    have e3 : wrap64 (((16 * i : Nat) : Int) + 8) = ((16 * i + 8 : Nat) : Int) := by rw [w64_id (by omega) (by omega)]; omega
    have e4 : wrap64 (3 + (i : Int)) = ((3 + i : Nat) : Int) := by rw [w64_id (by omega) (by omega)]; omega
    have e5 : wrap64 ((i : Int) + 1) = ((i + 1 : Nat) : Int) := by rw [w64_id (by omega) (by omega)]; omega
    have e6 : IntKind.u64.wrap (wrap64 ((D.length : Int) / 128)) = ((D.length / 128 : Nat) : Int) := by
      rw [w64_id (by omega) (by omega), u64w_id (by omega) (by omega)]; omega
    have hw := impl_get8_ev hbL (by omega) (a := 16 * i) (by omega)
    have hw2 := impl_get8_ev hbL (by omega) (a := 16 * i + 8) (by omega)
    rw [wordAt_sub (by omega)] at hw hw2
    have hsec : (3 + i + 1) * 128 ≤ D.length := by omega
    have hg := impl_sectorOf_eq (D := D) (i := 3 + i) hsec (by omega)
    have hcr := impl_Crc_ev (secV_bytes hb (3 + i)) (by rw [secV_len hsec]; omega)
    rw [listV_succ]
    rw [show 128 + (16 * i + 8) = 128 + 16 * i + 8 by omega] at hw2
    generalize wordAt D (128 + 16 * i) 8 = x at hw ⊢
    refine Ev.step (fun _ => impl_JnlRead.l0.eq_2 ..) (ev_pos (by omega) ?_)
    rw [e1, e3, e4, e5, e6]
    refine Ev.bind hw ?_
    by_cases h1 : x ≤ last
    · rw [listE_bad (Or.inl h1)]; exact ev_pos (by omega) (ev_ret rfl)
    · refine ev_neg (by omega) ?_
      by_cases h2 : D.length / 128 ≤ x
      · rw [listE_bad (Or.inr (Or.inl h2))]; exact ev_pos (by omega) (ev_ret rfl)
      · refine ev_neg (by omega) (Ev.bind hw2 (ev_bind0 hg (Ev.bind hcr ?_)))
        by_cases hcrc : wordAt D (128 + 16 * i + 8) 8 = crcV (secV D (3 + i))
        · rw [listE_ok (fun h => h.elim (fun h => h1 h) (fun h => h.elim (fun h => h2 h) (fun h => h hcrc)))]
          refine ev_pos (by omega) (ev_pos (by omega) ?_)
          rw [w64_id (x := (x : Int)) (by omega) (by omega)]
          refine ev_eq ?_ (ih (i + 1) x (acc ++ [(x : Int)]) (by omega) (by rw [List.length_append, List.length_singleton]; omega))
          cases listV D d (i + 1) x with
          | none => rfl
          | some l => simp only [Option.map_some, List.append_assoc, List.singleton_append]
        · rw [listE_bad (Or.inr (Or.inr hcrc))]
          exact ev_neg (by omega) (ev_ret rfl)
theorem impl_JnlRead_ev {D : List Int} (hb : Bytes D) (hl : D.length ≤ 1048576) : Ev (fun k => impl_JnlRead.f k D) (readV D) := by
  unfold impl_JnlRead.f readV
  have hd : impl_diskOk.f D = some (decide (D.length % 128 = 0 ∧ D.length ≤ 131072)) := by
    unfold impl_diskOk.f
    by_cases h1 : D.length % 128 = 0
    · rw [if_pos (by omega)]; simp only [Option.some.injEq, decide_eq_decide]; omega
    · rw [if_neg (by omega), decide_eq_false (fun h => h1 h.1)]
  refine ev_bind0 hd ?_
  have none_ : Ev (fun k => impl_JnlRead.j0 k D true 0 0) ((0, 0, []) : Int × Int × List Int) := Ev.step (fun _ => impl_JnlRead.j0.eq_2 ..) (ev_pos rfl (ev_ret rfl))
  by_cases hok : D.length % 128 = 0 ∧ D.length ≤ 131072 ∧ 2688 ≤ D.length
  · rw [if_pos hok]
    obtain ⟨hk1, hk2, hk3⟩ := hok
    refine ev_pos (decide_eq_true ⟨hk1, hk2⟩) ?_
    rw [decide_eq_false (by omega)]
    have hb1 : Bytes (D.take 128) := fun x hx => hb x (List.mem_of_mem_take hx)
    have hl1 : (D.take 128).length = 128 := by rw [List.length_take]; omega
    have hbL : Bytes ((D.take 384).drop 128) := fun x hx => hb x (List.mem_of_mem_take (List.mem_of_mem_drop hx))
    have hL : ((D.take 384).drop 128).length = 256 := by rw [List.length_drop, List.length_take]; omega
    have g24 := impl_get8_ev hb1 (by omega) (a := 24) (by omega)
    have g16 := impl_get8_ev hb1 (by omega) (a := 16) (by omega)
    have g32 := impl_get8_ev hb1 (by omega) (a := 32) (by omega)
    rw [wordAt_take (by omega)] at g24 g16 g32
    have l16 := wordAt_lt hb (at_ := 16) (size := 8) (by omega)
    have l32 := wordAt_lt hb (at_ := 32) (size := 8) (by omega)
    have hseg := seg_word hb (a := 32) (by omega)
    have hlst : wordAt D 24 8 ≤ 16 → _ := fun h => impl_JnlRead_l0 D hb hk3 hk2 (wordAt D 24 8) h ((wordAt D 16 8 : Nat) : Int) (wordAt D 24 8) 0 19 [] (by omega) rfl
    generalize wordAt D 24 8 = c at *
    generalize wordAt D 16 8 = a at *
    generalize wordAt D 32 8 = s at *
    refine Ev.step (fun _ => impl_JnlRead.j0.eq_2 ..) (ev_neg (by decide) (ev_pos (by omega) (ev_pos (by decide) (ev_pos (by omega) (Ev.bind g24 ?_)))))
    by_cases h16 : 16 < c
    · rw [if_pos (Or.inl h16)]; exact ev_pos (by omega) (ev_ret rfl)
    · refine ev_neg (by omega) (Ev.bind g16 ?_)
      have ec : wrap64 (c : Int) = (c : Int) := w64_id (by omega) (by omega)
      have hcap : ∀ z : Nat, hdG a c z = p40 a c z ++ (dig 8 (crcV (p40 a c z)) ++ List.replicate 80 0) := fun z => rfl
      rw [ec]
      have hhead := impl_jnlHead_gen (a := a) (c := c) (l := (D.take 384).drop 128) l16 (by omega) hbL (by omega) (by omega)
      generalize crcV (((D.take 384).drop 128).take (16 * c)) = z at hhead
      refine Ev.bind hhead (ev_pos (by decide) (ev_pos (by rw [hdG_len]; decide) (ev_pos (by rw [hl1]; decide) ?_)))
      have e40 : ((D.take 128).take 40).drop 32 = dig 8 s := by
        rw [List.take_take, show min 40 128 = 32 + 8 from rfl]; exact hseg
      have hp : ∀ z : Nat, p40 a c z = (jP ++ (dig 8 a ++ dig 8 c)) ++ dig 8 z := fun z => by unfold p40; simp only [List.append_assoc]
      have h32 : (jP ++ (dig 8 a ++ dig 8 c)).length = 32 := by simp [jP_len, dig_len]
      have hcopy : copyC.f (hdG a c z) 32 40 (((D.take 128).take 40).drop 32) = some (p40 a c s ++ (dig 8 (crcV (p40 a c z)) ++ List.replicate 80 0)) := by
        unfold copyC.f
        rw [if_pos ⟨by decide, by decide, by rw [hdG_len]; decide⟩, e40]
        have t1 : (hdG a c z).take (32 : Int).toNat = jP ++ (dig 8 a ++ dig 8 c) := by
          rw [hcap, hp, List.append_assoc]
          exact List.take_left' h32
        have t2 : (hdG a c z).drop ((32 : Int).toNat + min (dig 8 s).length ((40 : Int).toNat - (32 : Int).toNat)) = dig 8 (crcV (p40 a c z)) ++ List.replicate 80 0 := by
          rw [dig_len, hcap]
          exact List.drop_left' (p40_len a c z)
        have t3 : (dig 8 s).take ((40 : Int).toNat - (32 : Int).toNat) = dig 8 s := List.take_of_length_le (by rw [dig_len]; decide)
        rw [t1, t2, t3, hp s]
      have t40 : (p40 a c s ++ (dig 8 (crcV (p40 a c z)) ++ List.replicate 80 0)).take 40 = p40 a c s := List.take_left' (p40_len a c s)
      refine ev_bind0 hcopy ?_
      rw [t40]
      have hx := lt32_64 (crcV_lt (p40_bytes a c s))
      have b40 := impl_put8_ev (x := crcV (p40 a c s)) (a := 40) hx (xs := p40 a c s ++ (dig 8 (crcV (p40 a c z)) ++ List.replicate 80 0)) (by simp [p40_len, dig_len]) (by simp [p40_len, dig_len])
      rw [putRun_at (p40_len a c s) (by rw [dig_len, dig_len])] at b40
      refine Ev.bind (impl_Crc_ev (p40_bytes a c s) (by rw [p40_len]; decide)) (Ev.bind b40 ?_)
      rw [← hcap s]
      by_cases hh : D.take 128 = hdG a c s
      · rw [if_neg (fun h => h.elim h16 (fun h => h hh))]
        refine ev_pos (by rw [hh]) (Ev.bind g16 ?_)
        by_cases hc0 : c = 0
        · rw [if_pos hc0]
          refine ev_pos (by omega) (Ev.bind g32 ?_)
          by_cases hs0 : s = 0
          · rw [if_pos hs0]
            have : (((s : Nat) : Int) != 0) = false := bne_eq_false_iff_eq.2 (by omega)
            rw [this]
            exact Ev.step (fun _ => impl_JnlRead.j1.eq_2 ..) (ev_neg (by decide) (ev_pos (by omega) (ev_ret rfl)))
          · rw [if_neg hs0]
            have : (((s : Nat) : Int) != 0) = true := bne_iff_ne.2 (by omega)
            rw [this]
            exact Ev.step (fun _ => impl_JnlRead.j1.eq_2 ..) (ev_pos rfl (ev_ret rfl))
        · rw [if_neg hc0]
          refine ev_neg (by omega) (Ev.step (fun _ => impl_JnlRead.j1.eq_2 ..) (ev_neg (by decide) (ev_neg (by omega) (Ev.bind g32 ?_))))
          have e16 : IntKind.u64.wrap (16 * (c : Int)) = ((16 * c : Nat) : Int) := by rw [u64w_id (by omega) (by omega)]; omega
          rw [e16, Int.toNat_natCast]
          have etk : ((D.take 384).drop 128).take (16 * c) = (D.take (128 + 16 * c)).drop 128 := by
            rw [List.take_drop, List.take_take, show min (128 + 16 * c) 384 = 128 + 16 * c from Nat.min_eq_left (by omega)]
          rw [etk]
          have hbt : Bytes ((D.take (128 + 16 * c)).drop 128) := fun x hx => hb x (List.mem_of_mem_take (List.mem_of_mem_drop hx))
          refine ev_pos (by omega) (ev_pos (by omega) (Ev.bind (impl_Crc_ev hbt (by rw [List.length_drop, List.length_take]; omega)) ?_))
          by_cases hsum : s = crcV ((D.take (128 + 16 * c)).drop 128)
          · rw [if_pos hsum]
            refine ev_pos (by omega) ?_
            rw [ec]
            have hl0 := hlst (by omega)
            rw [show ((0 : Nat) : Int) = 0 from rfl, show ((19 : Nat) : Int) = 19 from rfl] at hl0
            refine ev_eq ?_ hl0
            cases listV D c 0 19 with
            | none => rfl
            | some l => rfl
          · rw [if_neg hsum]
            exact ev_neg (by omega) (ev_ret rfl)
      · rw [if_pos (Or.inr hh)]
        exact ev_neg (fun e => hh (strOfNums_inj (hdG_bytes a c s) hb1 e).symm) (ev_ret rfl)
  · rw [if_neg hok]
    refine ev_split (fun hdk => ?_) (fun _ => none_)
    have := of_decide_eq_true hdk
    rw [decide_eq_true (by omega)]
    exact none_
theorem readV_facts {D : List Int} (hb : Bytes D) : ∃ (st : Int) (a : Nat) (l : List Int), readV D = (st, (a : Int), l) ∧ a < 2 ^ 64 ∧ l.length ≤ 16 ∧ (st = 0 ∨ 2688 ≤ D.length ∧ D.length ≤ 131072 ∧ (st = 1 ∨ st = 4 ∨ st = 3 ∧ l = [] ∨ st = 2)) := by
  unfold readV
  by_cases hok : D.length % 128 = 0 ∧ D.length ≤ 131072 ∧ 2688 ≤ D.length
  · rw [if_pos hok]
    have l16 := wordAt_lt hb (at_ := 16) (size := 8) (by omega)
    have hL := listV_len D (wordAt D 24 8) 0 19
    generalize wordAt D 24 8 = c at *
    generalize wordAt D 16 8 = a at *
    generalize wordAt D 32 8 = s at *
    by_cases h1 : 16 < c ∨ ¬ D.take 128 = hdG a c s
    · rw [if_pos h1]; exact ⟨4, 0, [], rfl, by decide, Nat.zero_le _, .inr ⟨hok.2.2, hok.2.1, .inr (.inl rfl)⟩⟩
    · rw [if_neg h1]
      by_cases h2 : c = 0
      · rw [if_pos h2]
        by_cases h3 : s = 0
        · rw [if_pos h3]; exact ⟨1, a, [], rfl, l16, Nat.zero_le _, .inr ⟨hok.2.2, hok.2.1, .inl rfl⟩⟩
        · rw [if_neg h3]; exact ⟨4, 0, [], rfl, by decide, Nat.zero_le _, .inr ⟨hok.2.2, hok.2.1, .inr (.inl rfl)⟩⟩
      · rw [if_neg h2]
        by_cases h3 : s = crcV ((D.take (128 + 16 * c)).drop 128)
        · rw [if_pos h3]
          cases hl : listV D c 0 19 with
          | none => exact ⟨3, a, [], rfl, l16, Nat.zero_le _, .inr ⟨hok.2.2, hok.2.1, .inr (.inr (.inl ⟨rfl, rfl⟩))⟩⟩
          | some l =>
            have := hL l hl
            simp only
            cases zerosV D (16 * c) with
            | true => exact ⟨2, a, l, rfl, l16, by omega, .inr ⟨hok.2.2, hok.2.1, .inr (.inr (.inr rfl))⟩⟩
            | false => exact ⟨3, a, [], rfl, l16, Nat.zero_le _, .inr ⟨hok.2.2, hok.2.1, .inr (.inr (.inl ⟨rfl, rfl⟩))⟩⟩
        · rw [if_neg h3]; exact ⟨3, a, [], rfl, l16, Nat.zero_le _, .inr ⟨hok.2.2, hok.2.1, .inr (.inr (.inl ⟨rfl, rfl⟩))⟩⟩
  · rw [if_neg hok]; exact ⟨0, 0, [], rfl, by decide, Nat.zero_le _, .inl rfl⟩
def wrV (D : List Int) : Nat → List Int → List S70
  | _, [] => []
  | i, x :: xs => ⟨x, secV D (3 + i)⟩ :: wrV D (i + 1) xs
theorem wrV_len (D : List Int) : ∀ (xs : List Int) (i : Nat), (wrV D i xs).length = xs.length := by
  intro xs
  induction xs with
  | nil => intro i; rfl
  | cons x xs ih => intro i; rw [wrV, List.length_cons, List.length_cons, ih]
def endW (a : Nat) : S70 := ⟨0, hdG a 0 0⟩
def mendV (D : List Int) (st : Int) (a : Nat) (l : List Int) : List S70 × Int := if st = 0 then ([], 1) else if st = 4 then ([endW 0], 4) else if st = 1 then ([], 0) else (wrV D 0 l ++ [endW a], 0)
theorem mendV_len (D : List Int) (st : Int) (a : Nat) (l : List Int) (h : l.length ≤ 16) : (mendV D st a l).1.length ≤ 17 := by
  unfold mendV
  split
  · exact Nat.zero_le _
  · split
    · simp only [List.length_singleton]; omega
    · split
      · exact Nat.zero_le _
      · simp only [List.length_append, List.length_singleton, wrV_len]; omega
theorem spec_l13Write_eq {d : List Int} (h : d.length ≤ 1048576) (x : Int) : spec_l13Write.f x d = some (x, d) := by
  unfold spec_l13Write.f
  rw [Option.bind_some, if_pos (by rw [List.length_nil]; omega), List.nil_append]
theorem spec_l13Empty_ev {a : Nat} (ha : a < 2 ^ 64) : Ev (fun k => spec_l13Empty.f k (a : Int)) ((0, hdG a 0 0) : Int × List Int) := by
  unfold spec_l13Empty.f
  have h0 := spec_Crc_ev (xs := []) (fun x hx => by cases hx) (by decide)
  rw [crc_nil] at h0
  exact Ev.bind h0 (Ev.bind (spec_l13Head_gen (c := 0) (s := 0) ha (by decide) (by decide)) (ev_bind0 (spec_l13Write_eq (by rw [hdG_len]; decide) 0) (ev_ret rfl)))
theorem impl_empty_ev {a : Nat} (ha : a < 2 ^ 64) : Ev (fun k => impl_jnlHead.f k (a : Int) ([] : List Int) 0) (hdG a 0 0) := by
  have := impl_jnlHead_gen (a := a) (c := 0) (l := []) ha (by decide) (fun x hx => by cases hx) (by decide) (by decide)
  rw [List.take_nil, crc_nil] at this
  exact this
theorem spec_JnlMend_l0 {D : List Int} (hn : 2688 ≤ D.length) (hl : D.length ≤ 131072) {a : Nat} (ha : a < 2 ^ 64) (st : Int) (l : List Int) (h16 : l.length ≤ 16) : ∀ (e i : Nat) (acc : List S70), i + e = l.length → acc.length ≤ i → Ev (fun k => spec_JnlMend.l0 k D acc (i : Int) st (a : Int) l) (acc ++ (wrV D i (l.drop i) ++ [endW a]), 0) := by
  intro e
  induction e with
  | zero =>
    intro i acc h hacc
    rw [List.drop_eq_nil_of_le (by omega), wrV, List.nil_append]
    exact Ev.step (fun _ => spec_JnlMend.l0.eq_2 ..) (ev_neg (by omega) (Ev.bind (spec_l13Empty_ev ha) (ev_pos (by omega) (ev_ret rfl))))
  | succ e ih =>
    intro i acc h hacc
    have hi : i < l.length := by omega
    have e1 : wrap64 (3 + (i : Int)) = ((3 + i : Nat) : Int) := by rw [w64_id (by omega) (by omega)]; omega
    have e2 : wrap64 ((i : Int) + 1) = ((i + 1 : Nat) : Int) := by rw [w64_id (by omega) (by omega)]; omega
    rw [List.drop_eq_getElem_cons hi, wrV]
    refine Ev.step (fun _ => spec_JnlMend.l0.eq_2 ..) (ev_pos (by omega) (ev_pos (by omega) ?_))
    rw [e1, e2, rd_nat hi]
    have hsec : (3 + i + 1) * 128 ≤ D.length := by omega
    refine ev_bind0 (spec_l12Get_eq hsec (by omega)) (ev_bind0 (spec_l13Write_eq (by rw [secV_len hsec]; decide) _) (ev_pos (by omega) ?_))
    refine ev_eq ?_ (ih (i + 1) (acc ++ [⟨l[i], secV D (3 + i)⟩]) (by omega) (by rw [List.length_append, List.length_singleton]; omega))
    rw [List.append_assoc]; rfl
theorem spec_JnlMend_ev {D : List Int} (hb : Bytes D) (hl : D.length ≤ 1048576) {st : Int} {a : Nat} {l : List Int} (hr : readV D = (st, (a : Int), l)) (ha : a < 2 ^ 64) (h16 : l.length ≤ 16) (hst : st = 0 ∨ 2688 ≤ D.length ∧ D.length ≤ 131072 ∧ (st = 1 ∨ st = 4 ∨ st = 3 ∧ l = [] ∨ st = 2)) : Ev (fun k => spec_JnlMend.f k D) (mendV D st a l) := by
  have sp := spec_JnlRead_ev hb hl
  rw [hr] at sp
  unfold spec_JnlMend.f mendV
  refine Ev.bind sp (ev_bind0 rfl ?_)
  refine ev_ite (fun _ => ev_ret rfl) (fun h0 => ev_ite (fun _ => ?_) (fun h4 => ev_ite (fun _ => ev_ret rfl) (fun h1 => ?_)))
  · exact Ev.bind (spec_l13Empty_ev (a := 0) (by decide)) (ev_pos (by rw [List.length_nil]; decide) (ev_ret rfl))
  · have hD := hst.resolve_left h0
    have := spec_JnlMend_l0 hD.1 hD.2.1 ha st l h16 l.length 0 [] (Nat.zero_add _) (Nat.le_refl _)
    exact this
theorem impl_JnlMend_l0 {D : List Int} (hn : 2688 ≤ D.length) (hl : D.length ≤ 131072) {a : Nat} (ha : a < 2 ^ 64) (st : Int) (l l2 : List Int) (h16 : l.length ≤ 16) : ∀ (e i : Nat) (acc : List S70), i + e = l.length → acc.length ≤ i → Ev (fun k => impl_JnlMend.l0 k D acc l (l.length : Int) (i : Int) st (a : Int) l2) (acc ++ (wrV D i (l.drop i) ++ [endW a]), 0) := by
  intro e
  induction e with
  | zero =>
    intro i acc h hacc
    rw [List.drop_eq_nil_of_le (by omega), wrV, List.nil_append]
    exact Ev.step (fun _ => impl_JnlMend.l0.eq_2 ..) (ev_neg (by omega) (Ev.bind (impl_empty_ev ha) (ev_pos (by omega) (ev_ret rfl))))
  | succ e ih =>
    intro i acc h hacc
    have hi : i < l.length := by omega
    have e1 : wrap64 (3 + (i : Int)) = ((3 + i : Nat) : Int) := by rw [w64_id (by omega) (by omega)]; omega
    have e2 : wrap64 ((i : Int) + 1) = ((i + 1 : Nat) : Int) := by rw [w64_id (by omega) (by omega)]; omega
    rw [List.drop_eq_getElem_cons hi, wrV]
    refine Ev.step (fun _ => impl_JnlMend.l0.eq_2 ..) (ev_pos (by omega) (ev_pos (by omega) (ev_pos (by omega) ?_)))
    rw [e1, e2, rd_nat hi]
    have hsec : (3 + i + 1) * 128 ≤ D.length := by omega
    refine ev_bind0 (impl_sectorOf_eq hsec (by omega)) (ev_pos (by omega) ?_)
    refine ev_eq ?_ (ih (i + 1) (acc ++ [⟨l[i], secV D (3 + i)⟩]) (by omega) (by rw [List.length_append, List.length_singleton]; omega))
    rw [List.append_assoc]; rfl
theorem impl_JnlMend_ev {D : List Int} (hb : Bytes D) (hl : D.length ≤ 1048576) {st : Int} {a : Nat} {l : List Int} (hr : readV D = (st, (a : Int), l)) (ha : a < 2 ^ 64) (h16 : l.length ≤ 16) (hst : st = 0 ∨ 2688 ≤ D.length ∧ D.length ≤ 131072 ∧ (st = 1 ∨ st = 4 ∨ st = 3 ∧ l = [] ∨ st = 2)) : Ev (fun k => impl_JnlMend.f k D) (mendV D st a l) := by
  have sp := impl_JnlRead_ev hb hl
  rw [hr] at sp
  unfold impl_JnlMend.f mendV
  refine Ev.bind sp ?_
  by_cases h0 : st = 0
  · rw [if_pos h0]; exact ev_pos h0 (ev_ret rfl)
  have hD := hst.resolve_left h0
  rw [if_neg h0]
  refine ev_neg h0 ?_
  by_cases h4 : st = 4
  · rw [if_pos h4]
    exact ev_neg (by omega) (ev_pos h4 (Ev.bind (impl_empty_ev (a := 0) (by decide)) (ev_ret rfl)))
  rw [if_neg h4]
  by_cases h1 : st = 1
  · rw [if_pos h1]; exact ev_pos h1 (ev_ret rfl)
  rw [if_neg h1]
  refine ev_neg h1 (ev_neg h4 ?_)
  by_cases h2 : st = 2
  · refine ev_pos h2 ?_
    have := impl_JnlMend_l0 hD.1 hD.2.1 ha st l l h16 l.length 0 [] (Nat.zero_add _) (Nat.le_refl _)
    exact this
  · have hnil : l = [] := by
      rcases hD.2.2 with h | h | h | h
      · exact absurd h h1
      · exact absurd h h4
      · exact h.2
      · exact absurd h h2
    subst hnil
    exact ev_neg h2 (Ev.bind (impl_empty_ev ha) (ev_pos (by rw [List.length_nil]; decide) (ev_ret rfl)))
theorem rd_W7 {xs : List S70} {n : Nat} (h : n < xs.length) : rd_T70 xs (n : Int) = xs[n] := getD_nat _ h
theorem laws_eqDiskWriteS_l0 (xs : List S70) (hm : ∀ y ∈ xs, y.f1.length ≤ 1048576) (hw : xs.length ≤ 1048576) : ∀ (e i : Nat), i + e = xs.length → Ev (fun k => laws_eqDiskWriteS.l0 k xs xs (i : Int)) true := by
  intro e
  induction e with
  | zero => intro i h; exact Ev.step (fun _ => laws_eqDiskWriteS.l0.eq_2 ..) (ev_neg (by omega) (ev_ret rfl))
  | succ e ih =>
    intro i h
    have hi : i < xs.length := by omega
    have hmi := hm _ (List.getElem_mem hi)
    have e2 : wrap64 ((i : Int) + 1) = ((i + 1 : Nat) : Int) := by rw [w64_id (by omega) (by omega)]; omega
    refine Ev.step (fun _ => laws_eqDiskWriteS.l0.eq_2 ..) (ev_pos (by omega) (ev_pos (by omega) (ev_pos (by omega) ?_)))
    rw [rd_W7 hi, e2]
    have heq : Ev (fun k => laws_eqDiskWrite.f k xs[i].f0 xs[i].f1 xs[i].f0 xs[i].f1) true := by
      unfold laws_eqDiskWrite.f
      exact ev_pos rfl (Ev.bind (laws_eqByteS_ev (by omega)) (ev_pos rfl (ev_ret rfl)))
    exact Ev.bind heq (ev_pos rfl (ih (i + 1) (by omega)))
theorem laws_eqDiskWriteS_ev (xs : List S70) (hm : ∀ y ∈ xs, y.f1.length ≤ 1048576) (hw : xs.length ≤ 1048576) : Ev (fun k => laws_eqDiskWriteS.f k xs xs) true := by
  unfold laws_eqDiskWriteS.f
  exact ev_pos rfl (laws_eqDiskWriteS_l0 xs hm hw xs.length 0 (Nat.zero_add _))
def markW : Int → List S70 → Int × List S70
  | k0, [] => (k0, [])
  | k0, d :: ds => ((markW (k0 + 1 + d.f1.length) ds).1, ⟨k0, markL (k0 + 1) d.f1.length⟩ :: (markW (k0 + 1 + d.f1.length) ds).2)
theorem markW_ge : ∀ (ds : List S70) (k0 : Int), k0 ≤ (markW k0 ds).1 := by
  intro ds
  induction ds with
  | nil => intro k0; exact Int.le_refl _
  | cons d ds ih =>
    intro k0
    have := ih (k0 + 1 + d.f1.length)
    rw [markW]; simp only; omega
theorem markW_at {A ds : List S70} {d : S70} : rd_T70 (A ++ d :: ds) (A.length : Int) = d := by
  refine (getD_nat _ (by simp)).trans ?_
  rw [List.getElem_append_right (Nat.le_refl _)]
  simp
theorem markW_mark : ∀ (ds A : List S70) (k0 : Int), A.length + ds.length ≤ 1048576 → (∀ y ∈ ds, y.f1.length ≤ 1048576) → 0 ≤ k0 → k0 + 2097152 * ds.length ≤ 4611686018427387904 → Ev (fun k => laws_markDiskWriteS.l0 k (A ++ ds) k0 (A.length : Int)) ((markW k0 ds).1, A ++ (markW k0 ds).2) := by
  intro ds
  induction ds with
  | nil =>
    intro A k0 hX hm h0 hB
    rw [markW, List.append_nil]
    exact Ev.step (fun _ => laws_markDiskWriteS.l0.eq_2 ..) (ev_neg (Int.lt_irrefl _) (ev_ret rfl))
  | cons d ds ih =>
    intro A k0 hX hm h0 hB
    rw [List.length_cons] at hX hB
    have hmd := hm d (List.mem_cons_self ..)
    have e1 : wrap64 (k0 + 1) = k0 + 1 := w64_id (by omega) (by omega)
    have e2 : wrap64 ((A.length : Int) + 1) = ((A ++ [(⟨k0, markL (k0 + 1) d.f1.length⟩ : S70)]).length : Int) := by rw [w64_id (by omega) (by omega), List.length_append, List.length_singleton]; omega
    have hmk := laws_markByteS_ev d.f1 (k0 := k0 + 1) (by omega) (by omega)
    have hr := ih (A ++ [(⟨k0, markL (k0 + 1) d.f1.length⟩ : S70)]) (k0 + 1 + d.f1.length) (by rw [List.length_append, List.length_singleton]; omega) (fun y hy => hm y (List.mem_cons_of_mem _ hy)) (by omega) (by omega)
    rw [List.append_assoc, List.append_assoc] at hr
    have hs : (A ++ d :: ds).set A.length (⟨k0, markL (k0 + 1) d.f1.length⟩ : S70) = A ++ ([(⟨k0, markL (k0 + 1) d.f1.length⟩ : S70)] ++ ds) := by
      rw [List.set_append_right _ _ (Nat.le_refl _), Nat.sub_self]; rfl
    refine Ev.step (fun _ => laws_markDiskWriteS.l0.eq_2 ..) (ev_pos (by rw [List.length_append, List.length_cons]; omega) (ev_pos (by omega) ?_))
    rw [markW_at, e1, e2, Int.toNat_natCast]
    refine Ev.bind hmk ?_
    simp only [hs]
    exact hr
theorem markW_held : ∀ (ds A : List S70) (k0 : Int), A.length + ds.length ≤ 1048576 → (∀ y ∈ ds, y.f1.length ≤ 1048576) → 0 ≤ k0 → k0 + 2097152 * ds.length ≤ 4611686018427387904 → Ev (fun k => laws_heldDiskWriteS.l0 k (A ++ (markW k0 ds).2) k0 (A.length : Int)) (markW k0 ds).1 := by
  intro ds
  induction ds with
  | nil =>
    intro A k0 hX hm h0 hB
    rw [markW, List.append_nil]
    exact Ev.step (fun _ => laws_heldDiskWriteS.l0.eq_2 ..) (ev_neg (Int.lt_irrefl _) (ev_ret rfl))
  | cons d ds ih =>
    intro A k0 hX hm h0 hB
    rw [List.length_cons] at hX hB
    have hmd := hm d (List.mem_cons_self ..)
    have e1 : wrap64 (k0 + 1) = k0 + 1 := w64_id (by omega) (by omega)
    have e2 : wrap64 ((A.length : Int) + 1) = ((A ++ [(⟨k0, markL (k0 + 1) d.f1.length⟩ : S70)]).length : Int) := by rw [w64_id (by omega) (by omega), List.length_append, List.length_singleton]; omega
    have hhd := laws_heldByteS_ev d.f1.length (k0 := k0 + 1) (by omega) (by omega)
    have hr := ih (A ++ [(⟨k0, markL (k0 + 1) d.f1.length⟩ : S70)]) (k0 + 1 + d.f1.length) (by rw [List.length_append, List.length_singleton]; omega) (fun y hy => hm y (List.mem_cons_of_mem _ hy)) (by omega) (by omega)
    rw [List.append_assoc] at hr
    rw [markW]
    refine Ev.step (fun _ => laws_heldDiskWriteS.l0.eq_2 ..) (ev_pos (by rw [List.length_append, List.length_cons]; omega) (ev_pos (by omega) ?_))
    rw [markW_at, e1, e2]
    exact ev_pos rfl (Ev.bind hhd (ev_neg (by omega) hr))
theorem laws_markW_ev (xs : List S70) (hm : ∀ y ∈ xs, y.f1.length ≤ 1048576) (hw : xs.length ≤ 1048576) : ∃ r L, Ev (fun k => laws_markDiskWriteS.f k xs 1) (r, L) ∧ Ev (fun k => laws_heldDiskWriteS.f k L 1) r ∧ 0 ≤ r :=
  ⟨(markW 1 xs).1, (markW 1 xs).2, markW_mark xs [] 1 (by simpa using hw) hm (by decide) (by omega), markW_held xs [] 1 (by simpa using hw) hm (by decide) (by omega), Int.le_trans (by decide) (markW_ge xs 1)⟩
theorem wrV_small (D : List Int) : ∀ (xs : List Int) (i : Nat), ∀ y ∈ wrV D i xs, y.f1.length ≤ 1048576 := by
  intro xs
  induction xs with
  | nil => intro i y hy; cases hy
  | cons x xs ih =>
    intro i y hy
    rw [wrV] at hy
    rcases List.mem_cons.1 hy with rfl | h
    · simp only; unfold secV; simp only [List.length_drop, List.length_take]; omega
    · exact ih _ y h
theorem mendV_small (D : List Int) (st : Int) (a : Nat) (l : List Int) : ∀ y ∈ (mendV D st a l).1, y.f1.length ≤ 1048576 := by
  have he : ∀ b, (endW b).f1.length ≤ 1048576 := by intro b; unfold endW; simp only; rw [hdG_len]; omega
  unfold mendV
  split
  · intro y hy; cases hy
  · split
    · intro y hy; rw [List.mem_singleton.1 hy]; exact he 0
    · split
      · intro y hy; cases hy
      · intro y hy
        rcases List.mem_append.1 hy with h | h
        · exact wrV_small D l 0 y h
        · rw [List.mem_singleton.1 h]; exact he a
theorem FnExactJnlMend : laws_FnExactJnlMend.Pure := by
  intro l0 hm hsz hwf
  refine Ev.rounds ?_
  unfold laws_FnExactJnlMend.f
  have hb := bytes_wf hwf
  by_cases h1 : (l0.length : Int) > 1048576
  · exact ev_pos h1 (ev_ret rfl)
  refine ev_neg h1 ?_
  have hl : l0.length ≤ 1048576 := by omega
  have tob := laws_toByteS_ev (xs := l0) (by omega)
  obtain ⟨st, a, l, hr, ha, h16, hst⟩ := readV_facts hb
  have smend := spec_JnlMend_ev hb hl hr ha h16 hst
  have imend := impl_JnlMend_ev hb hl hr ha h16 hst
  have hml := mendV_len l0 st a l h16
  have hms := mendV_small l0 st a l
  generalize mendV l0 st a l = M at *
  obtain ⟨ws, c⟩ := M
  simp only at hml hms
  have eqr := laws_eqDiskWriteS_ev ws hms (by omega)
  have eqb := laws_eqByteS_ev (xs := l0) (by omega)
  have mkb := laws_markByteS_ev l0 (k0 := 1) (by omega) (by omega)
  obtain ⟨r, L, mkr, hdr, hr0⟩ := laws_markW_ev ws hms (by omega)
  have hc : (c != c) = false := bne_eq_false_iff_eq.2 rfl
  refine Ev.bind tob (Ev.bind smend (Ev.bind tob (Ev.bind imend (Ev.bind eqr (ev_pos rfl ?_)))))
  simp only [hc]
  refine Ev.step (fun _ => laws_FnExactJnlMend.j0.eq_2 ..) (ev_neg (by decide) (Ev.bind tob (Ev.bind eqb (ev_pos rfl (Ev.bind mkb (ev_neg (by simp only; omega) (Ev.bind eqr (ev_pos rfl ?_))))))))
  simp only [hc]
  refine Ev.step (fun _ => laws_FnExactJnlMend.j1.eq_2 ..) (ev_neg (by decide) (Ev.bind mkr (Ev.bind hdr (ev_neg (by omega) (ev_pos rfl (Ev.bind tob (Ev.bind imend (Ev.bind eqr (ev_pos rfl ?_)))))))))
  simp only [hc]
  exact Ev.step (fun _ => laws_FnExactJnlMend.j2.eq_2 ..) (ev_neg (by decide) (Ev.bind hdr (ev_neg (by omega) (ev_pos rfl (ev_ret rfl)))))
end Go.Proofs.Ytflmbjoipmglbaa.Pure
