/- For every input that the row lets in, FnLeavesFound answers true; this text proves the plain law that is left when the machine's side is done. -/
import Derived.Test.YtdhafphhkokniaaPFnLeavesFoundx10
import Derived.Test.YtdhafphhkokniaaVBase
set_option linter.unusedVariables false
set_option linter.unusedSimpArgs false
namespace Go.Proofs.Ytdhafphhkokniaa.Pure
open Go.RowKit Go.Proofs.Ytdhafphhkokniaa.PFnLeavesFound Go.Proofs.YtdhafphhkokniaaW.PrintWords Go.Proofs.YtdhafphhkokniaaW.PrintLast Go.Proofs.YtdhafphhkokniaaW.PrintMore Go.Proofs.Ytdhafphhkokniaa.Base

theorem spec_l1Pow_l0 : ∀ (d : Nat) (a i n : Int), i + d = n → 0 ≤ i → n ≤ 64 → 0 ≤ a → a < 18446744073709551616 → Ev (fun k => spec_l1Pow.l0 k n a i) ((a * 2 ^ d) % 18446744073709551616) := by
  intro d
  induction d with
  | zero =>
    intro a i n h h0 h1 h2 h3
    refine Ev.step (fun _ => spec_l1Pow.l0.eq_2 ..) ?_
    refine ev_neg (by omega) (ev_ret ?_)
    rw [Int.pow_zero, Int.mul_one]; omega
  | succ d ih =>
    intro a i n h h0 h1 h2 h3
    refine Ev.step (fun _ => spec_l1Pow.l0.eq_2 ..) ?_
    refine ev_pos (by omega) ?_
    rw [w64_id (x := i + 1) (by omega) (by omega), u64w]
    refine ev_eq ?_ (ih (a * 2 % 18446744073709551616) (i + 1) n (by omega) (by omega) h1 (by omega) (by omega))
    rw [Int.mul_emod, Int.emod_emod_of_dvd _ (Int.dvd_refl _), ← Int.mul_emod, Int.pow_succ, Int.mul_comm (2 ^ d) 2, ← Int.mul_assoc]
theorem spec_l1Pow_ev {n : Nat} (h : n ≤ 63) : Ev (fun k => spec_l1Pow.f k (n : Int)) ((2 ^ n : Nat) : Int) := by
  have := spec_l1Pow_l0 n 1 0 (n : Int) (by omega) (by omega) (by omega) (by omega) (by omega)
  refine Ev.congr (fun k => rfl) (ev_eq ?_ this)
  have h2 : 2 ^ n ≤ 2 ^ 63 := Nat.pow_le_pow_right (by decide) h
  have e : ((2 : Int) ^ n) = ((2 ^ n : Nat) : Int) := by simp
  rw [Int.one_mul, e]
  have h3 : 2 ^ n ≤ 9223372036854775808 := h2
  generalize 2 ^ n = q at *
  omega
theorem spec_l1Pow_64 : Ev (fun k => spec_l1Pow.f k 64) 0 := by
  have := spec_l1Pow_l0 64 1 0 64 (by omega) (by omega) (by omega) (by omega) (by omega)
  exact Ev.congr (fun k => rfl) (ev_eq (by decide) this)
theorem spec_l1Bit_ev {a i : Nat} (ha : a < 2 ^ 64) (h : i ≤ 63) : Ev (fun k => spec_l1Bit.f k (a : Int) (i : Int)) ((a.testBit i).toNat : Int) := by
  unfold spec_l1Bit.f
  refine Ev.bind (spec_l1Pow_ev h) ?_
  have hp : 0 < 2 ^ i := Nat.two_pow_pos i
  refine ev_neg (by omega) (ev_ret ?_)
  rw [tdiv_nat, u64w]
  have h1 : a / 2 ^ i ≤ a := Nat.div_le_self _ _
  have h2 : a < 18446744073709551616 := ha
  have e : (((a / 2 ^ i : Nat) : Int) % 18446744073709551616) = ((a / 2 ^ i : Nat) : Int) := by
    clear hp
    generalize a / 2 ^ i = q at *
    omega
  rw [e, show (2 : Int) = ((2 : Nat) : Int) from rfl, tmod_nat, bit_div]
def extBit (x n : Nat) (j : Nat) : Bool := if j < n then x.testBit j else x.testBit (n - 1)
def ext (x n : Nat) : Nat := hor (extBit x n) 64
theorem ext_lt (x n : Nat) : ext x n < 2 ^ 64 := hor_lt _ _
theorem spec_Extend_l0 (x n : Nat) (hx : x < 2 ^ 64) (h1 : 1 ≤ n) (hn : n ≤ 64) : ∀ (m acc : Nat) (i : Int), i = (m : Int) - 1 → m ≤ 64 → acc < 2 ^ (64 - m) → Ev (fun k => spec_Extend.l0 k (x : Int) (n : Int) (acc : Int) i) ((acc * 2 ^ m + hor (extBit x n) m : Nat) : Int) := by
  intro m
  induction m with
  | zero =>
    intro acc i hi hm ha
    refine Ev.step (fun _ => spec_Extend.l0.eq_2 ..) ?_
    exact ev_neg (by omega) (ev_ret (by simp [hor]))
  | succ m ih =>
    intro acc i hi hm ha
    obtain rfl : i = (m : Int) := by omega
    refine Ev.step (fun _ => spec_Extend.l0.eq_2 ..) ?_
    refine ev_pos (by omega) ?_
    have e2 : wrap64 ((m : Int) - 1) = (m : Int) - 1 := w64_id (by omega) (by omega)
    have e3 : wrap64 ((n : Int) - 1) = ((n - 1 : Nat) : Int) := by rw [w64_id (by omega) (by omega)]; omega
    rw [e2, e3]
    by_cases hc : m < n
    · refine ev_pos (by omega) ?_
      refine Ev.bind (spec_l1Bit_ev hx (by omega)) ?_
      have eb : x.testBit m = extBit x n m := by unfold extBit; rw [if_pos hc]
      rw [eb]
      have hr := hor_room (bool_le (extBit x n m)) (by omega) ha
      rw [u64_hor (hor_top hr)]
      exact ev_eq (by rw [hor_step]) (ih _ _ rfl (by omega) hr)
    · refine ev_neg (by omega) ?_
      refine Ev.bind (spec_l1Bit_ev hx (by omega)) ?_
      have eb : x.testBit (n - 1) = extBit x n m := by unfold extBit; rw [if_neg hc]
      rw [eb]
      have hr := hor_room (bool_le (extBit x n m)) (by omega) ha
      rw [u64_hor (hor_top hr)]
      exact ev_eq (by rw [hor_step]) (ih _ _ rfl (by omega) hr)
def extV (x : Nat) (n : Int) : Int := if 1 ≤ n ∧ n ≤ 64 then (ext x n.toNat : Int) else 0
theorem spec_Extend_ev {x : Nat} (hx : x < 2 ^ 64) (n : Int) : Ev (fun k => spec_Extend.f k (x : Int) n) (extV x n) := by
  unfold spec_Extend.f extV
  by_cases h1 : n < 1
  · rw [if_neg (by omega)]
    refine ev_pos h1 ?_
    refine Ev.step (fun _ => spec_Extend.j0.eq_2 ..) ?_
    exact ev_pos rfl (ev_ret rfl)
  · refine ev_neg h1 ?_
    refine Ev.step (fun _ => spec_Extend.j0.eq_2 ..) ?_
    by_cases h2 : n > 64
    · rw [if_neg (by omega)]
      exact ev_pos (by simpa using h2) (ev_ret rfl)
    · rw [if_pos (by omega)]
      refine ev_neg (by simpa using h2) ?_
      obtain ⟨m, rfl, hm⟩ := to_nat (a := n) (m := 65) (by omega) (by omega)
      refine ev_eq ?_ (spec_Extend_l0 x m hx (by omega) (by omega) 64 0 63 (by omega) (by omega) (by simp))
      simp [ext]
theorem ext_sum (x n : Nat) (h1 : 1 ≤ n) (hn : n ≤ 64) : ext x n = x % 2 ^ n + (if x.testBit (n - 1) then 2 ^ 64 - 2 ^ n else 0) := by
  have key : 2 ^ 64 - 2 ^ n = (2 ^ (64 - n) - 1) <<< n := by
    rw [Nat.shiftLeft_eq, Nat.sub_mul, ← Nat.pow_add, Nat.one_mul, Nat.sub_add_cancel hn]
  have hl : x % 2 ^ n < 2 ^ n := Nat.mod_lt _ (Nat.two_pow_pos n)
  apply Nat.eq_of_testBit_eq
  intro j
  unfold ext
  rw [hor_testBit]
  unfold extBit
  by_cases hb : x.testBit (n - 1) = true
  · rw [if_pos hb, key, Nat.add_comm, Nat.shiftLeft_add_eq_or_of_lt hl, Nat.testBit_or, Nat.testBit_shiftLeft, Nat.testBit_two_pow_sub_one, Nat.testBit_mod_two_pow, hb]
    by_cases hj : j < n
    · have : j < 64 := by omega
      have h3 : ¬ j ≥ n := by omega
      simp [hj, this, h3]
    · have h3 : j ≥ n := by omega
      rw [if_neg hj]
      by_cases h4 : j < 64
      · have : j - n < 64 - n := by omega
        simp [hj, h3, h4, this]
      · have : ¬ j - n < 64 - n := by omega
        simp [hj, h4, this]
  · rw [if_neg hb, Nat.add_zero, Nat.testBit_mod_two_pow]
    have hb' : x.testBit (n - 1) = false := by simpa using hb
    by_cases hj : j < n
    · have : j < 64 := by omega
      simp [hj, this]
    · rw [if_neg hj, hb']; simp [hj]
theorem impl_Extend_eq {x : Nat} (hx : x < 2 ^ 64) (n : Int) : impl_Extend.f (x : Int) n = some (extV x n) := by
  unfold impl_Extend.f extV
  by_cases h1 : n < 1
  · rw [if_pos h1, if_neg (by omega)]
  · rw [if_neg h1]
    by_cases h2 : n > 64
    · rw [if_pos h2, if_neg (by omega)]
    · rw [if_neg h2, if_pos (show 1 ≤ n ∧ n ≤ 64 by omega)]
      obtain ⟨m, rfl, hm⟩ := to_nat (a := n) (m := 65) (by omega) (by omega)
      have e : IntKind.u64.wrap (wrap64 (64 - (m : Int))) = ((64 - m : Nat) : Int) := by rw [w64_id (by omega) (by omega), u64w_id (by omega) (by omega)]; omega
      rw [e, if_pos (by omega), shl_nat, Int.toNat_natCast, ext_sum x m (by omega) (by omega)]
      congr 1
      obtain ⟨s, hs⟩ : ∃ s, s = 64 - m := ⟨_, rfl⟩
      rw [← hs]
      have hm2 : m = 64 - s := by omega
      have hs2 : s ≤ 63 := by omega
      have hv : (x <<< s) % 2 ^ 64 = (x % 2 ^ m) * 2 ^ s := by
        rw [Nat.shiftLeft_eq, show (2 : Nat) ^ 64 = 2 ^ m * 2 ^ s by rw [← Nat.pow_add]; congr 1; omega, Nat.mul_mod_mul_right]
      have hpm : x % 2 ^ m < 2 ^ m := Nat.mod_lt _ (Nat.two_pow_pos m)
      have hsp : 0 < 2 ^ s := Nat.two_pow_pos s
      have hps : (2 : Nat) ^ m * 2 ^ s = 18446744073709551616 := by rw [← Nat.pow_add, show m + s = 64 by omega]
      have hbit : x.testBit (m - 1) = decide (2 ^ (m - 1) ≤ x % 2 ^ m) := by
        have : (x % 2 ^ m).testBit (m - 1) = x.testBit (m - 1) := by
          rw [Nat.testBit_mod_two_pow]; simp; omega
        rw [← this]
        by_cases hle : 2 ^ (m - 1) ≤ x % 2 ^ m
        · rw [Nat.testBit_eq_decide_div_mod_eq]
          have e2 : (2 : Nat) ^ m = 2 ^ (m - 1) * 2 := by rw [← Nat.pow_succ]; congr 1; omega
          have : x % 2 ^ m / 2 ^ (m - 1) = 1 := by
            apply Nat.div_eq_of_lt_le
            · omega
            · omega
          rw [this]; simp [hle]
        · rw [Nat.testBit_lt_two_pow (by omega)]; simp [hle]
      have hhalf : (2 : Nat) ^ (m - 1) * 2 ^ s = 9223372036854775808 := by rw [← Nat.pow_add, show m - 1 + s = 63 by omega]
      rw [hv]
      unfold shr
      rw [Int.toNat_natCast, u64w]
      show (wrap64 _ / 2 ^ min s 64) % _ = _
      rw [Nat.min_eq_left (by omega)]
      have ep : ((2 : Int) ^ s) = ((2 ^ s : Nat) : Int) := by simp
      rw [ep]
      generalize hy : x % 2 ^ m = y at *
      generalize hP : (2 : Nat) ^ s = P at *
      generalize hQ : (2 : Nat) ^ m = Q at *
      generalize hR : (2 : Nat) ^ (m - 1) = R at *
      rw [hbit]
      by_cases hle : R ≤ y
      · have h5 : R * P ≤ y * P := Nat.mul_le_mul_right _ hle
        have h6 : (y + 1) * P ≤ Q * P := Nat.mul_le_mul_right _ hpm
        rw [Nat.succ_mul] at h6
        have hw : wrap64 ((y * P : Nat) : Int) = ((y : Int) - Q) * P := by
          rw [Int.sub_mul]
          have : ((Q : Int) * (P : Int)) = 18446744073709551616 := by rw [← Int.natCast_mul, hps]; rfl
          rw [this]
          have : ((y * P : Nat) : Int) = (y : Int) * P := by simp
          rw [← this]
          unfold wrap64; omega
        rw [hw, Int.mul_ediv_cancel _ (by omega)]
        simp only [hle, decide_true, if_true]
        have hQ64 : Q ≤ 18446744073709551616 := by
          have := Nat.le_mul_of_pos_right Q hsp; omega
        omega
      · have h5 : (y + 1) * P ≤ R * P := Nat.mul_le_mul_right _ (by omega)
        rw [Nat.succ_mul] at h5
        have hw : wrap64 ((y * P : Nat) : Int) = (y : Int) * P := by
          have : ((y * P : Nat) : Int) = (y : Int) * P := by simp
          rw [← this]
          unfold wrap64; omega
        rw [hw, Int.mul_ediv_cancel _ (by omega)]
        simp only [hle, decide_false]
        have hQ64 : Q ≤ 18446744073709551616 := by
          have := Nat.le_mul_of_pos_right Q hsp; omega
        simp
        omega
def sizeOk (n : Int) : Bool := decide (n = 1 ∨ n = 2 ∨ n = 4 ∨ n = 8)
theorem spec_l1SizeOk_eq (n : Int) : spec_l1SizeOk.f n = some (sizeOk n) := by
  unfold spec_l1SizeOk.f sizeOk
  by_cases h1 : n = 1
  · simp [h1]
  · by_cases h2 : n = 2
    · simp [h2]
    · by_cases h3 : n = 4
      · simp [h3]
      · rw [if_neg h1, if_neg h2, if_neg h3]
        by_cases h4 : n = 8 <;> simp [h1, h2, h3, h4]
theorem sizeOk_le {n : Int} (h : sizeOk n = true) : 1 ≤ n ∧ n ≤ 8 := by
  have := of_decide_eq_true h
  omega
theorem impl_sizeOk_eq (n : Int) : impl_sizeOk.f n = some (sizeOk n) := spec_l1SizeOk_eq n
def insideV (n at_ size : Int) : Bool := decide (0 ≤ at_ ∧ 0 ≤ size ∧ at_ ≤ n ∧ size ≤ n - at_)
theorem impl_inside_eq (n at_ size : Int) (h0 : 0 ≤ n) (h1 : n ≤ 4611686018427387904) : impl_inside.f n at_ size = some (insideV n at_ size) := by
  unfold impl_inside.f insideV
  by_cases h2 : at_ ≥ 0
  · rw [if_pos h2]
    by_cases h3 : size ≥ 0
    · rw [if_pos h3]
      by_cases h4 : at_ ≤ n
      · rw [if_pos h4, w64_id (by omega) (by omega)]
        simp only [Option.some.injEq, decide_eq_decide]; omega
      · rw [if_neg h4]; simp only [Option.some.injEq]; symm; simp only [decide_eq_false_iff_not]; omega
    · rw [if_neg h3]; simp only [Option.some.injEq]; symm; simp only [decide_eq_false_iff_not]; omega
  · rw [if_neg h2]; simp only [Option.some.injEq]; symm; simp only [decide_eq_false_iff_not]; omega
/-- The number that some bytes make, the lowest first. -/
def wordN (f : Nat → Nat) : Nat → Nat
  | 0 => 0
  | m + 1 => f m * 256 ^ m + wordN f m
theorem wordN_lt {f : Nat → Nat} : ∀ m, (∀ j, j < m → f j < 256) → wordN f m < 256 ^ m
  | 0, _ => by simp [wordN]
  | m + 1, h => by
    have h1 := wordN_lt m (fun j hj => h j (by omega))
    have h2 := h m (by omega)
    have h3 : f m * 256 ^ m ≤ 255 * 256 ^ m := Nat.mul_le_mul_right _ (by omega)
    simp only [wordN, Nat.pow_succ]
    omega
theorem wordN_step (f : Nat → Nat) (m acc : Nat) : (acc * 256 + f m) * 256 ^ m + wordN f m = acc * 256 ^ (m + 1) + wordN f (m + 1) := by
  simp only [wordN]
  rw [Nat.add_mul, Nat.pow_succ, Nat.mul_assoc, Nat.mul_comm 256 (256 ^ m), Nat.add_assoc]
theorem word_room {acc m b : Nat} (hb : b < 256) (hm : m + 1 ≤ 8) (h : acc < 256 ^ (8 - (m + 1))) : acc * 256 + b < 256 ^ (8 - m) := by
  have e : 8 - m = (8 - (m + 1)) + 1 := by omega
  rw [e, Nat.pow_succ]; omega
theorem word_top {acc m : Nat} (h : acc < 256 ^ (8 - m)) : acc < 2 ^ 64 := by
  have : 256 ^ (8 - m) ≤ 256 ^ 8 := Nat.pow_le_pow_right (by decide) (by omega)
  exact Nat.lt_of_lt_of_le h this
def byteAt (xs : List Int) (at_ : Nat) (j : Nat) : Nat := (xs.getD (at_ + j) 0).toNat
def wordAt (xs : List Int) (at_ size : Nat) : Nat := wordN (byteAt xs at_) size
theorem byteAt_lt {xs : List Int} (hb : Bytes xs) (at_ j : Nat) : byteAt xs at_ j < 256 := by
  unfold byteAt
  rw [List.getD_eq_getElem?_getD]
  by_cases h : at_ + j < xs.length
  · rw [List.getElem?_eq_getElem h]
    have := hb _ (List.getElem_mem h)
    simp only [Option.getD_some]; omega
  · rw [List.getElem?_eq_none (by omega)]; simp
theorem wordAt_lt {xs : List Int} (hb : Bytes xs) {at_ size : Nat} (h : size ≤ 8) : wordAt xs at_ size < 2 ^ 64 := by
  have h1 := wordN_lt size (f := byteAt xs at_) (fun j _ => byteAt_lt hb at_ j)
  exact Nat.lt_of_lt_of_le h1 (Nat.le_trans (Nat.pow_le_pow_right (by decide) h) (by decide))
theorem rd_byte {xs : List Int} (hb : Bytes xs) {at_ j : Nat} : rd xs ((at_ + j : Nat) : Int) = (byteAt xs at_ j : Int) := by
  unfold rd byteAt
  rw [Int.toNat_natCast, List.getD_eq_getElem?_getD]
  by_cases h : at_ + j < xs.length
  · rw [List.getElem?_eq_getElem h]
    have := hb _ (List.getElem_mem h)
    simp only [Option.getD_some]; omega
  · rw [List.getElem?_eq_none (by omega)]; rfl
def loadV (xs : List Int) (at_ size : Int) (sg : Bool) : Int × Bool :=
  if sizeOk size = true ∧ 0 ≤ at_ ∧ at_ ≤ xs.length - size then (if sg then (extV (wordAt xs at_.toNat size.toNat) (8 * size), true) else ((wordAt xs at_.toNat size.toNat : Int), true)) else (0, false)
theorem spec_LoadWord_l0 (xs : List Int) (hb : Bytes xs) (hl : xs.length ≤ 4611686018427387904) (at_ size : Nat) (sg : Bool) (hs : size ≤ 8) (h : at_ + size ≤ xs.length) : ∀ (m acc : Nat) (i : Int), i = (m : Int) - 1 → m ≤ size → acc < 256 ^ (8 - m) →
    Ev (fun k => spec_LoadWord.l0 k xs (at_ : Int) (size : Int) sg (acc : Int) i) (if sg then (extV (acc * 256 ^ m + wordN (byteAt xs at_) m) (8 * (size : Int)), true) else (((acc * 256 ^ m + wordN (byteAt xs at_) m : Nat) : Int), true)) := by
  intro m
  induction m with
  | zero =>
    intro acc i hi hm ha
    refine Ev.step (fun _ => spec_LoadWord.l0.eq_2 ..) ?_
    refine ev_neg (by omega) ?_
    have e0 : acc * 256 ^ 0 + wordN (byteAt xs at_) 0 = acc := by simp [wordN]
    rw [e0]
    cases sg with
    | true =>
      refine ev_pos rfl ?_
      rw [w64_id (x := 8 * (size : Int)) (by omega) (by omega)]
      exact Ev.bind (spec_Extend_ev (word_top ha) _) (ev_ret rfl)
    | false => exact ev_neg (by decide) (ev_ret rfl)
  | succ m ih =>
    intro acc i hi hm ha
    refine Ev.step (fun _ => spec_LoadWord.l0.eq_2 ..) ?_
    refine ev_pos (by omega) ?_
    have e1 : wrap64 ((at_ : Int) + i) = ((at_ + m : Nat) : Int) := by rw [w64_id (by omega) (by omega)]; omega
    have e2 : wrap64 (i - 1) = (m : Int) - 1 := by rw [w64_id (by omega) (by omega)]; omega
    rw [e1, e2]
    refine ev_pos (by omega) (ev_pos (by omega) ?_)
    have hbb := byteAt_lt hb at_ m
    have hr := word_room hbb (by omega) ha
    have hr2 : acc * 256 + byteAt xs at_ m < 18446744073709551616 := word_top hr
    rw [rd_byte hb, u64w_id (x := (byteAt xs at_ m : Int)) (by omega) (by omega), u64w_id (x := (acc : Int) * 256) (by omega) (by omega), u64w_id (by omega) (by omega)]
    have e3 : (acc : Int) * 256 + (byteAt xs at_ m : Int) = ((acc * 256 + byteAt xs at_ m : Nat) : Int) := by simp
    rw [e3]
    refine ev_eq ?_ (ih _ _ rfl (by omega) hr)
    rw [wordN_step]
theorem spec_LoadWord_ev {xs : List Int} (hb : Bytes xs) (hl : xs.length ≤ 281474976710656) (at_ size : Int) (sg : Bool) : Ev (fun k => spec_LoadWord.f k xs at_ size sg) (loadV xs at_ size sg) := by
  unfold spec_LoadWord.f
  refine ev_bind0 (spec_l1SizeOk_eq size) ?_
  have bad : ¬ (sizeOk size = true ∧ 0 ≤ at_ ∧ at_ ≤ xs.length - size) → Ev (fun k => spec_LoadWord.j0 k xs at_ size sg true) (loadV xs at_ size sg) := by
    intro hc
    unfold loadV
    rw [if_neg hc]
    refine Ev.step (fun _ => spec_LoadWord.j0.eq_2 ..) ?_
    exact ev_pos rfl (ev_ret rfl)
  by_cases h1 : sizeOk size = true
  · refine ev_pos h1 ?_
    have hs := sizeOk_le h1
    by_cases h2 : at_ < 0
    · exact ev_pos h2 (bad (by omega))
    · refine ev_neg h2 ?_
      rw [w64_id (x := (xs.length : Int) - size) (by omega) (by omega)]
      by_cases h3 : at_ > xs.length - size
      · rw [decide_eq_true h3]
        exact bad (by omega)
      · rw [decide_eq_false h3]
        unfold loadV
        rw [if_pos ⟨h1, by omega, by omega⟩]
        obtain ⟨a, rfl⟩ := Int.eq_ofNat_of_zero_le (show 0 ≤ at_ by omega)
        obtain ⟨s, rfl⟩ := Int.eq_ofNat_of_zero_le (show 0 ≤ size by omega)
        refine Ev.step (fun _ => spec_LoadWord.j0.eq_2 ..) ?_
        refine ev_neg (by decide) ?_
        rw [w64_id (x := (s : Int) - 1) (by omega) (by omega)]
        refine ev_eq ?_ (spec_LoadWord_l0 xs hb (by omega) a s sg (by omega) (by omega) s 0 _ rfl (Nat.le_refl _) (Nat.pow_pos (by decide)))
        simp [wordAt]
  · refine ev_neg h1 ?_
    exact bad (fun h => h1 h.1)
theorem or_byte {acc b : Nat} (hb : b < 256) (ha : acc * 256 + b < 2 ^ 64) : Go.bits .or .u64 (IntKind.u64.wrap ((acc : Int) * 256)) (b : Int) = ((acc * 256 + b : Nat) : Int) := by
  have h1 : acc * 256 + b < 18446744073709551616 := ha
  rw [u64w_id (x := (acc : Int) * 256) (by omega) (by omega)]
  have e : (acc : Int) * 256 = ((acc * 256 : Nat) : Int) := by simp
  rw [e, or_nat (Nat.lt_of_le_of_lt (Nat.le_add_right _ _) ha) (Nat.lt_of_le_of_lt (Nat.le_add_left _ _) ha)]
  have h3 : 256 * acc + b = 256 * acc ||| b := Nat.two_pow_add_eq_or_of_lt (i := 8) hb acc
  rw [Nat.mul_comm acc 256, h3]
theorem impl_LoadWord_l0 (xs : List Int) (hb : Bytes xs) (hl : xs.length ≤ 4611686018427387904) (at_ size : Nat) (sg : Bool) (hs : size ≤ 8) (h : at_ + size ≤ xs.length) : ∀ (m acc : Nat) (i : Int), i = (m : Int) - 1 → m ≤ size → acc < 256 ^ (8 - m) →
    Ev (fun k => impl_LoadWord.l0 k xs (at_ : Int) (size : Int) sg (acc : Int) i) (if sg then (extV (acc * 256 ^ m + wordN (byteAt xs at_) m) (8 * (size : Int)), true) else (((acc * 256 ^ m + wordN (byteAt xs at_) m : Nat) : Int), true)) := by
  intro m
  induction m with
  | zero =>
    intro acc i hi hm ha
    refine Ev.step (fun _ => impl_LoadWord.l0.eq_2 ..) ?_
    refine ev_neg (by omega) ?_
    have e0 : acc * 256 ^ 0 + wordN (byteAt xs at_) 0 = acc := by simp [wordN]
    rw [e0]
    cases sg with
    | true =>
      refine ev_pos rfl ?_
      rw [w64_id (x := 8 * (size : Int)) (by omega) (by omega)]
      exact ev_bind0 (impl_Extend_eq (word_top ha) _) (ev_ret rfl)
    | false => exact ev_neg (by decide) (ev_ret rfl)
  | succ m ih =>
    intro acc i hi hm ha
    refine Ev.step (fun _ => impl_LoadWord.l0.eq_2 ..) ?_
    refine ev_pos (by omega) ?_
    have e1 : wrap64 ((at_ : Int) + i) = ((at_ + m : Nat) : Int) := by rw [w64_id (by omega) (by omega)]; omega
    have e2 : wrap64 (i - 1) = (m : Int) - 1 := by rw [w64_id (by omega) (by omega)]; omega
    rw [e1, e2]
    refine ev_pos (by omega) (ev_pos (by omega) ?_)
    have hbb := byteAt_lt hb at_ m
    have hr := word_room hbb (by omega) ha
    rw [rd_byte hb, u64w_id (x := (byteAt xs at_ m : Int)) (by omega) (by omega), or_byte hbb (word_top hr)]
    refine ev_eq ?_ (ih _ _ rfl (by omega) hr)
    rw [wordN_step]
theorem impl_LoadWord_ev {xs : List Int} (hb : Bytes xs) (hl : xs.length ≤ 281474976710656) (at_ size : Int) (sg : Bool) : Ev (fun k => impl_LoadWord.f k xs at_ size sg) (loadV xs at_ size sg) := by
  unfold impl_LoadWord.f
  refine ev_bind0 (impl_sizeOk_eq size) ?_
  have bad : ¬ (sizeOk size = true ∧ 0 ≤ at_ ∧ at_ ≤ xs.length - size) → Ev (fun k => impl_LoadWord.j0 k xs at_ size sg true) (loadV xs at_ size sg) := by
    intro hc
    unfold loadV
    rw [if_neg hc]
    refine Ev.step (fun _ => impl_LoadWord.j0.eq_2 ..) ?_
    exact ev_pos rfl (ev_ret rfl)
  by_cases h1 : sizeOk size = true
  · refine ev_pos h1 ?_
    have hs := sizeOk_le h1
    refine ev_bind0 (impl_inside_eq _ _ _ (by omega) (by omega)) ?_
    by_cases h2 : insideV xs.length at_ size = true
    · have h3 := of_decide_eq_true h2
      rw [h2]
      unfold loadV
      rw [if_pos ⟨h1, by omega, by omega⟩]
      obtain ⟨a, rfl⟩ := Int.eq_ofNat_of_zero_le (show 0 ≤ at_ by omega)
      obtain ⟨s, rfl⟩ := Int.eq_ofNat_of_zero_le (show 0 ≤ size by omega)
      refine Ev.step (fun _ => impl_LoadWord.j0.eq_2 ..) ?_
      refine ev_neg (by decide) ?_
      rw [w64_id (x := (s : Int) - 1) (by omega) (by omega)]
      refine ev_eq ?_ (impl_LoadWord_l0 xs hb (by omega) a s sg (by omega) (by omega) s 0 _ rfl (Nat.le_refl _) (Nat.pow_pos (by decide)))
      simp [wordAt]
    · have h3 : insideV xs.length at_ size = false := by simpa using h2
      rw [h3]
      exact bad (fun h => h2 (decide_eq_true (by omega)))
  · refine ev_neg h1 ?_
    exact bad (fun h => h1 h.1)
theorem spec_l6Flag_ev (b : Bool) {n : Nat} (h : n ≤ 63) : Ev (fun k => spec_l6Flag.f k b (n : Int)) ((b.toNat * 2 ^ n : Nat) : Int) := by
  unfold spec_l6Flag.f
  cases b with
  | true => exact ev_pos rfl (Ev.bind (spec_l1Pow_ev h) (ev_ret (by simp)))
  | false => exact ev_neg (by decide) (ev_ret (by simp))
def flagsN (l : List Bool) (n : Nat) : Nat := hor (fun j => l.getD j false) n
/-- What an entry's word is: the flags, the frame above them. -/
def putV (l : List Bool) (frame : Int) : Int × Bool := if 0 ≤ frame ∧ frame ≤ 4095 then (frame * 256 + (flagsN l 8 : Int), true) else (0, false)
theorem spec_PutEntry_ev (b0 b1 b2 b3 b4 b5 b6 b7 : Bool) (frame : Int) : Ev (fun k => spec_PutEntry.f k b0 b1 b2 b3 b4 b5 b6 b7 frame) (putV [b0, b1, b2, b3, b4, b5, b6, b7] frame) := by
  unfold spec_PutEntry.f
  have bad : ¬ (0 ≤ frame ∧ frame ≤ 4095) → Ev (fun k => spec_PutEntry.j0 k true b0 b1 b2 b3 b4 b5 b6 b7 frame) (putV [b0, b1, b2, b3, b4, b5, b6, b7] frame) := by
    intro h
    unfold putV
    rw [if_neg h]
    exact Ev.step (fun _ => spec_PutEntry.j0.eq_2 ..) (ev_pos rfl (ev_ret rfl))
  by_cases h1 : frame < 0
  · exact ev_pos h1 (bad (by omega))
  · refine ev_neg h1 ?_
    by_cases h2 : frame > 4095
    · rw [decide_eq_true h2]; exact bad (by omega)
    · rw [decide_eq_false h2]
      unfold putV
      rw [if_pos ⟨by omega, by omega⟩]
      refine Ev.step (fun _ => spec_PutEntry.j0.eq_2 ..) (ev_neg (by decide) ?_)
      refine Ev.bind (spec_l6Flag_ev b0 (n := 0) (by decide)) (Ev.bind (spec_l6Flag_ev b1 (n := 1) (by decide)) (Ev.bind (spec_l6Flag_ev b2 (n := 2) (by decide)) (Ev.bind (spec_l6Flag_ev b3 (n := 3) (by decide)) (Ev.bind (spec_l6Flag_ev b4 (n := 4) (by decide)) (Ev.bind (spec_l6Flag_ev b5 (n := 5) (by decide)) (Ev.bind (spec_l6Flag_ev b6 (n := 6) (by decide)) (Ev.bind (spec_l6Flag_ev b7 (n := 7) (by decide)) (ev_ret ?_))))))))
      have e : ∀ b : Bool, b.toNat ≤ 1 := bool_le
      have h0 := e b0; have h1' := e b1; have h2' := e b2; have h3 := e b3; have h4 := e b4; have h5 := e b5; have h6 := e b6; have h7 := e b7
      simp only [flagsN, hor, u64w]
      simp only [List.getD_cons_zero, List.getD_cons_succ, Nat.reducePow]
      generalize b0.toNat = c0 at *
      generalize b1.toNat = c1 at *
      generalize b2.toNat = c2 at *
      generalize b3.toNat = c3 at *
      generalize b4.toNat = c4 at *
      generalize b5.toNat = c5 at *
      generalize b6.toNat = c6 at *
      generalize b7.toNat = c7 at *
      refine Prod.ext ?_ rfl
      simp only
      omega
theorem impl_one_eq (b : Bool) : impl_one.f b = some (b.toNat : Int) := by cases b <;> rfl
theorem or_bit {F i s : Nat} {b : Bool} (hi : i ≤ 7) (hs : s < 2 ^ i) : (F * 256 + s) ||| (b.toNat * 2 ^ i) = F * 256 + (b.toNat * 2 ^ i + s) := by
  have e256 : F * 256 = 2 ^ (i + 1) * (F * 2 ^ (7 - i)) := by
    rw [Nat.mul_left_comm, ← Nat.pow_add, show i + 1 + (7 - i) = 8 by omega]
  have h1 : s < 2 ^ (i + 1) := Nat.lt_trans hs (Nat.pow_lt_pow_right (by decide) (by omega))
  have h2 : b.toNat * 2 ^ i + s < 2 ^ (i + 1) := by
    rw [Nat.pow_succ]
    have := bool_le b
    have h3 : b.toNat * 2 ^ i ≤ 1 * 2 ^ i := Nat.mul_le_mul_right _ this
    omega
  rw [e256, Nat.two_pow_add_eq_or_of_lt h1, Nat.two_pow_add_eq_or_of_lt h2, Nat.or_assoc, Nat.mul_comm b.toNat, Nat.two_pow_add_eq_or_of_lt hs, Nat.or_comm s]
theorem impl_PutEntry_l0 (l : List Bool) (hl : l.length = 8) (F : Nat) (hF : F ≤ 4095) : ∀ (d i : Nat), i + d = 8 → Ev (fun k => impl_PutEntry.l0 k ((F * 256 + flagsN l i : Nat) : Int) l 8 (i : Int)) (((F * 256 + flagsN l 8 : Nat) : Int), true) := by
  intro d
  induction d with
  | zero =>
    intro i h
    obtain rfl : i = 8 := by omega
    exact Ev.step (fun _ => impl_PutEntry.l0.eq_2 ..) (ev_neg (by omega) (ev_ret rfl))
  | succ d ih =>
    intro i h
    refine Ev.step (fun _ => impl_PutEntry.l0.eq_2 ..) (ev_pos (by omega) (ev_pos (by omega) (ev_pos (by omega) ?_)))
    have e1 : wrap64 ((i : Int) + 1) = ((i + 1 : Nat) : Int) := by rw [w64_id (by omega) (by omega)]; omega
    have er : rdOf false l (i : Int) = l.getD i false := by unfold rdOf; rw [Int.toNat_natCast]
    refine ev_bind0 (impl_one_eq _) ?_
    have hsl : flagsN l i < 2 ^ i := hor_lt _ _
    have hp : 2 ^ i ≤ 2 ^ 7 := Nat.pow_le_pow_right (by decide) (by omega)
    have hp2 : 2 ^ i ≤ 128 := hp
    have hb := bool_le (l.getD i false)
    have hsh : ((l.getD i false).toNat <<< i) % 2 ^ 64 = (l.getD i false).toNat * 2 ^ i := by
      rw [Nat.shiftLeft_eq, Nat.mod_eq_of_lt]
      have : (l.getD i false).toNat * 2 ^ i ≤ 1 * 2 ^ i := Nat.mul_le_mul_right _ hb
      exact Nat.lt_of_le_of_lt this (by omega)
    have hlt : F * 256 + flagsN l i < 2 ^ 64 := Nat.lt_of_lt_of_le (show _ < 4294967296 by omega) (by decide)
    rw [e1, er, shl_nat, hsh, or_nat hlt (by rw [← hsh]; exact shl_lt), or_bit (by omega) hsl]
    exact ih (i + 1) (by omega)
theorem impl_PutEntry_ev (b0 b1 b2 b3 b4 b5 b6 b7 : Bool) (frame : Int) : Ev (fun k => impl_PutEntry.f k b0 b1 b2 b3 b4 b5 b6 b7 frame) (putV [b0, b1, b2, b3, b4, b5, b6, b7] frame) := by
  unfold impl_PutEntry.f
  have bad : ¬ (0 ≤ frame ∧ frame ≤ 4095) → Ev (fun k => impl_PutEntry.j0 k true b0 b1 b2 b3 b4 b5 b6 b7 frame) (putV [b0, b1, b2, b3, b4, b5, b6, b7] frame) := by
    intro h
    unfold putV
    rw [if_neg h]
    exact Ev.step (fun _ => impl_PutEntry.j0.eq_2 ..) (ev_pos rfl (ev_ret rfl))
  by_cases h1 : frame < 0
  · exact ev_pos h1 (bad (by omega))
  · refine ev_neg h1 ?_
    by_cases h2 : frame > 4095
    · rw [decide_eq_true h2]; exact bad (by omega)
    · rw [decide_eq_false h2]
      unfold putV
      rw [if_pos ⟨by omega, by omega⟩]
      refine Ev.step (fun _ => impl_PutEntry.j0.eq_2 ..) (ev_neg (by decide) ?_)
      obtain ⟨F, rfl⟩ := Int.eq_ofNat_of_zero_le (show 0 ≤ frame by omega)
      refine ev_bind0 rfl ?_
      have e : IntKind.u64.wrap (IntKind.u64.wrap (F : Int) * 256) = ((F * 256 + flagsN [b0, b1, b2, b3, b4, b5, b6, b7] 0 : Nat) : Int) := by
        rw [u64w_id (x := (F : Int)) (by omega) (by omega), u64w_id (by omega) (by omega)]; simp [flagsN, hor]
      rw [e]
      refine ev_eq ?_ (impl_PutEntry_l0 [b0, b1, b2, b3, b4, b5, b6, b7] rfl F (by omega) 8 0 (by omega))
      simp
theorem spec_l6Is_ev {x n : Nat} (hx : x < 2 ^ 64) (h : n ≤ 63) : Ev (fun k => spec_l6Is.f k (x : Int) (n : Int)) (x.testBit n) := by
  unfold spec_l6Is.f
  refine Ev.bind (spec_l1Bit_ev hx h) (ev_ret ?_)
  cases x.testBit n <;> rfl
/-- What an entry's word says. -/
def entV (x : Nat) : Bool × Bool × Bool × Bool × Bool × Bool × Bool × Bool × Int := (x.testBit 0, x.testBit 1, x.testBit 2, x.testBit 3, x.testBit 4, x.testBit 5, x.testBit 6, x.testBit 7, ((x / 256 % 4096 : Nat) : Int))
def getV (x : Nat) : Bool × Bool × Bool × Bool × Bool × Bool × Bool × Bool × Int × Bool :=
  if x ≥ 1048576 then (false, false, false, false, false, false, false, false, 0, false) else (x.testBit 0, x.testBit 1, x.testBit 2, x.testBit 3, x.testBit 4, x.testBit 5, x.testBit 6, x.testBit 7, ((x / 256 % 4096 : Nat) : Int), true)
theorem spec_GetEntry_ev {x : Nat} (hx : x < 2 ^ 64) : Ev (fun k => spec_GetEntry.f k (x : Int)) (getV x) := by
  unfold spec_GetEntry.f getV
  by_cases h : x ≥ 1048576
  · rw [if_pos h]
    exact ev_pos (by omega) (ev_ret rfl)
  · rw [if_neg h]
    refine ev_neg (by omega) ?_
    refine Ev.bind (spec_l6Is_ev (n := 0) hx (by decide)) (Ev.bind (spec_l6Is_ev (n := 1) hx (by decide)) (Ev.bind (spec_l6Is_ev (n := 2) hx (by decide)) (Ev.bind (spec_l6Is_ev (n := 3) hx (by decide)) (Ev.bind (spec_l6Is_ev (n := 4) hx (by decide)) (Ev.bind (spec_l6Is_ev (n := 5) hx (by decide)) (Ev.bind (spec_l6Is_ev (n := 6) hx (by decide)) (Ev.bind (spec_l6Is_ev (n := 7) hx (by decide)) (ev_ret ?_))))))))
    have e : wrap64 (IntKind.u64.wrap (Int.tdiv (x : Int) 256)) = ((x / 256 % 4096 : Nat) : Int) := by
      rw [show (256 : Int) = ((256 : Nat) : Int) from rfl, tdiv_nat, u64w_id (by omega) (by omega), w64_id (by omega) (by omega)]; omega
    rw [e]
theorem impl_entryOf_bit {x i : Nat} (hx : x < 2 ^ 64) (hi : i ≤ 63) : impl_entryOf.b (x : Int) (i : Int) = x.testBit i := by
  unfold impl_entryOf.b
  have e : (x : Int) / 2 ^ (i : Int).toNat = ((x >>> i : Nat) : Int) := by
    rw [Int.toNat_natCast, Nat.shiftRight_eq_div_pow]; simp
  rw [e, show (1 : Int) = ((1 : Nat) : Int) from rfl, and_nat (shr_lt hx) (by decide), Nat.and_one_is_mod]
  have hb : x.testBit i = decide ((x >>> i) % 2 = 1) := by
    rw [Nat.testBit_eq_decide_div_mod_eq, Nat.shiftRight_eq_div_pow]
  rw [hb]
  generalize (x >>> i) % 2 = q
  by_cases hq : q = 1
  · rw [hq]; rfl
  · have : ¬ ((q : Int) = ((1 : Nat) : Int)) := by omega
    rw [beq_eq_false_iff_ne.mpr this, decide_eq_false hq]
theorem impl_entryOf_eq {x : Nat} (hx : x < 2 ^ 64) : impl_entryOf.f (x : Int) = some (entV x) := by
  unfold impl_entryOf.f entV
  have hx2 : x < 18446744073709551616 := hx
  have e : wrap64 (Go.bits .and .u64 ((x : Int) / 256) 4095) = ((x / 256 % 4096 : Nat) : Int) := by
    rw [show (x : Int) / 256 = ((x / 256 : Nat) : Int) by omega, show (4095 : Int) = ((2 ^ 12 - 1 : Nat) : Int) by decide, and_nat (Nat.lt_of_le_of_lt (Nat.div_le_self _ _) hx) (by decide), Nat.and_two_pow_sub_one_eq_mod, w64_id (by omega) (by omega)]
  rw [e]
  have b := fun i (h : i ≤ 63) => impl_entryOf_bit (i := i) hx h
  have b0 := b 0 (by decide); have b1 := b 1 (by decide); have b2 := b 2 (by decide); have b3 := b 3 (by decide); have b4 := b 4 (by decide); have b5 := b 5 (by decide); have b6 := b 6 (by decide); have b7 := b 7 (by decide)
  rw [← b0, ← b1, ← b2, ← b3, ← b4, ← b5, ← b6, ← b7]
  rfl
theorem impl_GetEntry_eq {x : Nat} (hx : x < 2 ^ 64) : impl_GetEntry.f (x : Int) = some (getV x) := by
  unfold impl_GetEntry.f getV
  by_cases h : x ≥ 1048576
  · rw [if_pos h, if_neg (by omega)]
  · rw [if_neg h, if_pos (by omega), impl_entryOf_eq hx]
    rfl
theorem spec_l6Pages_ev : ∀ L : Nat, L ≤ 2 → Ev (fun k => spec_l6Pages.f k (L : Int)) ((32 ^ L : Nat) : Int) := by
  intro L
  induction L with
  | zero => intro _; exact Ev.step (fun _ => spec_l6Pages.f.eq_2 ..) (ev_pos rfl (ev_ret rfl))
  | succ L ih =>
    intro h
    refine Ev.step (fun _ => spec_l6Pages.f.eq_2 ..) (ev_neg (by omega) ?_)
    rw [show wrap64 (((L + 1 : Nat) : Int) - 1) = (L : Int) by rw [w64_id (by omega) (by omega)]; omega]
    have hp : (32 ^ L : Nat) ≤ 1024 := Nat.le_trans (Nat.pow_le_pow_right (by decide) (by omega : L ≤ 2)) (by decide)
    have hi := ih (by omega)
    rw [Nat.pow_succ]
    obtain ⟨P, hP⟩ : ∃ P, 32 ^ L = P := ⟨_, rfl⟩
    rw [hP] at hi hp ⊢
    refine Ev.bind hi (ev_ret ?_)
    rw [w64_id (by omega) (by omega)]; omega
def kindV (x L : Nat) : Int :=
  if x.testBit 0 = false then -4 else if x ≥ 1048576 ∨ (x.testBit 2 = true ∧ x.testBit 1 = false) then -5 else
  if x.testBit 1 = false ∧ x.testBit 2 = false ∧ x.testBit 3 = false then (if x.testBit 4 = true ∨ x.testBit 5 = true ∨ x.testBit 6 = true ∨ L = 0 then -5 else 0) else
  if x / 256 % 4096 % 32 ^ L = 0 then 1 else -6
theorem spec_l6Kind_j2 (b : Bool) : Ev (fun k => spec_l6Kind.j2 k b) (if b = true then (-5 : Int) else 0) := by
  refine Ev.step (fun _ => spec_l6Kind.j2.eq_2 ..) ?_
  cases b
  · exact ev_neg (by decide) (ev_ret rfl)
  · exact ev_pos rfl (ev_ret rfl)
theorem spec_l6Kind_j1 {L : Nat} (hL : L ≤ 2) (p b0 b1 b2 b3 b4 b5 b6 b7 : Bool) (F : Nat) : Ev (fun k => spec_l6Kind.j1 k (L : Int) p b0 b1 b2 b3 b4 b5 b6 b7 (F : Int)) (if p = true then (if b4 = true ∨ b5 = true ∨ b6 = true ∨ L = 0 then (-5 : Int) else 0) else if F % 32 ^ L = 0 then 1 else -6) := by
  refine Ev.step (fun _ => spec_l6Kind.j1.eq_2 ..) ?_
  have hp0 : 0 < 32 ^ L := Nat.pow_pos (by decide)
  cases p
  · refine ev_neg (by decide) (Ev.bind (spec_l6Pages_ev L hL) (ev_neg (by omega) ?_))
    rw [tmod_nat]
    by_cases h : F % 32 ^ L = 0
    · refine ev_pos (by omega) (ev_ret ?_); rw [if_neg (by decide), if_pos h]
    · refine ev_neg (by omega) (ev_ret ?_); rw [if_neg (by decide), if_neg h]
  · refine ev_pos rfl ?_
    rw [if_pos rfl]
    cases b4
    · refine ev_neg (by decide) ?_
      cases b5
      · refine ev_neg (by decide) ?_
        cases b6
        · refine ev_neg (by decide) (ev_eq ?_ (spec_l6Kind_j2 _))
          by_cases h : L = 0
          · subst h; rfl
          · rw [if_neg (by simp; omega), if_neg (by simp [h])]
        · exact ev_pos rfl (spec_l6Kind_j2 _)
      · exact ev_pos rfl (spec_l6Kind_j2 _)
    · exact ev_pos rfl (spec_l6Kind_j2 _)
theorem spec_l6Kind_ev {x L : Nat} (hx : x < 2 ^ 64) (hL : L ≤ 2) : Ev (fun k => spec_l6Kind.f k (x : Int) (L : Int)) (kindV x L) := by
  unfold spec_l6Kind.f kindV
  refine Ev.bind (spec_l6Is_ev (n := 0) hx (by decide)) ?_
  cases h0 : x.testBit 0
  · exact ev_neg (by decide) (ev_ret rfl)
  · refine ev_pos rfl (Ev.bind (spec_GetEntry_ev hx) ?_)
    rw [if_neg (by decide)]
    unfold getV
    by_cases hb : x ≥ 1048576
    · rw [if_pos hb, if_pos (Or.inl hb)]
      exact ev_neg (by decide) (Ev.step (fun _ => spec_l6Kind.j0.eq_2 ..) (ev_pos rfl (ev_ret rfl)))
    · rw [if_neg hb]
      refine ev_pos rfl ?_
      simp only [h0]
      generalize x.testBit 1 = b1
      generalize x.testBit 2 = b2
      generalize x.testBit 3 = b3
      generalize x.testBit 4 = b4
      generalize x.testBit 5 = b5
      generalize x.testBit 6 = b6
      generalize x.testBit 7 = b7
      have J := fun p => spec_l6Kind_j1 hL p true b1 b2 b3 b4 b5 b6 b7 (x / 256 % 4096)
      cases b2
      · refine ev_neg (by decide) (Ev.step (fun _ => spec_l6Kind.j0.eq_2 ..) (ev_neg (by decide) ?_))
        rw [if_neg (by simp [hb])]
        cases b1
        · refine ev_neg (by decide) (ev_neg (by decide) ?_)
          cases b3
          · exact ev_eq (by simp) (J true)
          · exact ev_eq (by simp) (J false)
        · exact ev_pos rfl (ev_eq (by simp) (J false))
      · refine ev_pos rfl ?_
        cases b1
        · rw [if_pos (by simp)]
          exact Ev.step (fun _ => spec_l6Kind.j0.eq_2 ..) (ev_pos rfl (ev_ret rfl))
        · rw [if_neg (by simp [hb])]
          exact Ev.step (fun _ => spec_l6Kind.j0.eq_2 ..) (ev_neg (by decide) (ev_pos rfl (ev_eq (by simp) (J false))))
theorem pow_le3 {L : Nat} (h : L ≤ 2) : 0 < 32 ^ L ∧ 32 ^ L ≤ 1024 := ⟨Nat.pow_pos (by decide), Nat.le_trans (Nat.pow_le_pow_right (by decide) h) (by decide)⟩
theorem byteAt_cut {m : List Int} {A j : Nat} (h : A + 8 ≤ m.length) (hj : j < 8) : byteAt ((m.take (A + 8)).drop A) 0 j = byteAt m A j := by
  unfold byteAt
  rw [List.getD_eq_getElem?_getD, List.getD_eq_getElem?_getD, List.getElem?_drop, Nat.zero_add, List.getElem?_take_of_lt (by omega)]
theorem wordN_same {f g : Nat → Nat} : ∀ n : Nat, (∀ j, j < n → f j = g j) → wordN f n = wordN g n := by
  intro n
  induction n with
  | zero => intro _; rfl
  | succ n ih => intro h; simp only [wordN, ih (fun j hj => h j (by omega)), h n (by omega)]
theorem wordAt_cut {m : List Int} {A : Nat} (h : A + 8 ≤ m.length) : wordAt ((m.take (A + 8)).drop A) 0 8 = wordAt m A 8 :=
  wordN_same 8 (fun _ hj => byteAt_cut h hj)
theorem spec_word_ev {m : List Int} (hb : Bytes m) (hl : m.length ≤ 262144) {A : Nat} (h : A + 8 ≤ m.length) : Ev (fun k => spec_LoadWord.f k ((m.take (A + 8)).drop A) 0 8 false) ((wordAt m A 8 : Nat), true) := by
  have hb2 : Bytes ((m.take (A + 8)).drop A) := fun x hx => hb x (List.mem_of_mem_take (List.mem_of_mem_drop hx))
  have hlen : ((m.take (A + 8)).drop A).length = 8 := by rw [List.length_drop, List.length_take]; omega
  refine ev_eq ?_ (spec_LoadWord_ev hb2 (by omega) 0 8 false)
  unfold loadV
  rw [if_pos ⟨by decide, by decide, by omega⟩, if_neg (by decide), ← wordAt_cut h]; rfl
abbrev R5 := Int × Int × Int × Int × Int
def accV (ac : Int) (b1 b2 b3 : Bool) : Prop := (ac = 0 ∧ b1 = true) ∨ (ac = 1 ∧ b2 = true) ∨ (ac = 2 ∧ b3 = true)
instance (ac : Int) (b1 b2 b3 : Bool) : Decidable (accV ac b1 b2 b3) := by unfold accV; exact inferInstance
def goodV (L A va F : Nat) (ac : Int) (b1 b2 b3 b4 b6 b7 : Bool) : R5 := (0, (L : Int), (A : Int), ((F * 256 + va % (256 * 32 ^ L) : Nat) : Int), (putV [true, b1, b2, b3, b4, true, b6 || decide (ac = 1), b7] (F : Int)).1)
def stepV (m : List Int) (va : Nat) (ac : Int) (us : Bool) (L : Nat) (t : Int) (nx : Int → R5) : R5 :=
  if t < 0 ∨ t ≥ (m.length : Int) / 256 then (3, (L : Int), 0, 0, 0) else
  let A := t.toNat * 256 + va / (256 * 32 ^ L) % 32 * 8
  let x := wordAt m A 8
  if x.testBit 0 = false then (4, (L : Int), (A : Int), 0, 0) else
  if x ≥ 1048576 ∨ (x.testBit 2 = true ∧ x.testBit 1 = false) then (5, (L : Int), (A : Int), 0, 0) else
  if x.testBit 1 = false ∧ x.testBit 2 = false ∧ x.testBit 3 = false then
    (if x.testBit 4 = true ∨ x.testBit 5 = true ∨ x.testBit 6 = true ∨ L = 0 then (5, (L : Int), (A : Int), 0, 0) else nx ((x / 256 % 4096 : Nat) : Int)) else
  if x / 256 % 4096 % 32 ^ L ≠ 0 then (6, (L : Int), (A : Int), 0, 0) else
  if us = true ∧ x.testBit 4 = false then (7, (L : Int), (A : Int), 0, 0) else
  if ¬ accV ac (x.testBit 1) (x.testBit 2) (x.testBit 3) then (8, (L : Int), (A : Int), 0, 0) else
  goodV L A va (x / 256 % 4096) ac (x.testBit 1) (x.testBit 2) (x.testBit 3) (x.testBit 4) (x.testBit 6) (x.testBit 7)
def trV (m : List Int) (va : Nat) (ac : Int) (us : Bool) : Nat → Int → R5
  | 0, t => stepV m va ac us 0 t (fun _ => (0, 0, 0, 0, 0))
  | L + 1, t => stepV m va ac us (L + 1) t (fun F => trV m va ac us L F)
theorem pow_int {L : Nat} (h : L ≤ 2) : (2 : Int) ^ (8 + 5 * (L : Int)).toNat = ((256 * 32 ^ L : Nat) : Int) ∧ (2 : Int) ^ (5 * (L : Int)).toNat = ((32 ^ L : Nat) : Int) ∧ ∃ n : Nat, n ≤ 18 ∧ 256 * 32 ^ L = 2 ^ n := by
  have h3 : L = 0 ∨ L = 1 ∨ L = 2 := by omega
  rcases h3 with rfl | rfl | rfl
  · exact ⟨rfl, rfl, 8, by decide, rfl⟩
  · exact ⟨rfl, rfl, 13, by decide, rfl⟩
  · exact ⟨rfl, rfl, 18, by decide, rfl⟩
theorem impl_step {m : List Int} (hb : Bytes m) (hl : m.length ≤ 262144) {va : Nat} (hv : va < 8388608) (ac : Int) (us : Bool) {L : Nat} (hL : L ≤ 2) (t : Int) (nx : Int → R5)
    (hn : 0 < L → ∀ F : Int, Ev (fun k => impl_translate.l0 k m F ((L : Int) - 1) (va : Int) ac us) (nx F)) : Ev (fun k => impl_translate.l0 k m t (L : Int) (va : Int) ac us) (stepV m va ac us L t nx) := by
  obtain ⟨hp0, hp1⟩ := pow_le3 hL
  obtain ⟨e8, e5, n, hn18, en⟩ := pow_int hL
  refine Ev.step (fun _ => impl_translate.l0.eq_2 ..) (ev_pos ⟨by omega, by omega⟩ ?_)
  unfold stepV
  rw [w64_id (x := (m.length : Int) / 256) (by omega) (by omega)]
  by_cases h2 : t < 0 ∨ t ≥ (m.length : Int) / 256
  · rw [if_pos h2]; exact ev_pos h2 (ev_ret rfl)
  refine ev_neg h2 ?_
  rw [if_neg h2]
  obtain ⟨T, rfl⟩ : ∃ T : Nat, t = (T : Int) := ⟨t.toNat, by omega⟩
  have hT : T < m.length / 256 := by omega
  have hA : T * 256 + va / (256 * 32 ^ L) % 32 * 8 + 8 ≤ m.length := by omega
  have hq : va / (256 * 32 ^ L) ≤ va := Nat.div_le_self _ _
  have hat : impl_translate.at (T : Int) (L : Int) (va : Int) = ((T * 256 + va / (256 * 32 ^ L) % 32 * 8 : Nat) : Int) := by
    unfold impl_translate.at
    rw [e8, ← Int.natCast_ediv]
    generalize va / (256 * 32 ^ L) = q at hq ⊢
    rw [show (31 : Int) = ((2 ^ 5 - 1 : Nat) : Int) by decide, and_nat (by omega) (by decide), Nat.and_two_pow_sub_one_eq_mod, w64_id (x := ((q % 2 ^ 5 : Nat) : Int)) (by omega) (by omega), w64_id (x := (T : Int) * 256) (by omega) (by omega), w64_id (x := ((q % 2 ^ 5 : Nat) : Int) * 8) (by omega) (by omega), w64_id (by omega) (by omega)]
    omega
  rw [Int.toNat_natCast]
  simp only
  obtain ⟨A, hAe⟩ : ∃ A, T * 256 + va / (256 * 32 ^ L) % 32 * 8 = A := ⟨_, rfl⟩
  rw [hAe] at hA hat ⊢
  rw [hat]
  have hx : wordAt m A 8 < 2 ^ 64 := wordAt_lt hb (by decide)
  have hw : Ev (fun k => impl_LoadWord.f k m (A : Int) 8 false) (((wordAt m A 8 : Nat) : Int), true) := by
    refine ev_eq ?_ (impl_LoadWord_ev hb (by omega) (A : Int) 8 false)
    unfold loadV
    rw [if_pos ⟨by decide, by omega, by omega⟩, if_neg (by decide)]; rfl
  generalize wordAt m A 8 = x at hx hw ⊢
  refine Ev.bind hw (ev_bind0 (impl_entryOf_eq hx) ?_)
  unfold entV
  by_cases k0 : x.testBit 0 = false
  · rw [if_pos k0]; exact ev_pos k0 (ev_ret rfl)
  refine ev_neg k0 ?_
  rw [if_neg k0]
  by_cases k1 : x ≥ 1048576 ∨ (x.testBit 2 = true ∧ x.testBit 1 = false)
  · rw [if_pos k1]; exact ev_pos (k1.imp (fun h => by omega) id) (ev_ret rfl)
  refine ev_neg (fun h => k1 (h.imp (fun h => by omega) id)) ?_
  rw [if_neg k1]
  have hF : x / 256 % 4096 ≤ 4095 := by omega
  by_cases k2 : x.testBit 1 = false ∧ x.testBit 2 = false ∧ x.testBit 3 = false
  · rw [if_pos k2]
    refine ev_pos k2 ?_
    by_cases k3 : x.testBit 4 = true ∨ x.testBit 5 = true ∨ x.testBit 6 = true ∨ L = 0
    · rw [if_pos k3]; exact ev_pos (k3.imp id (Or.imp id (Or.imp id (fun h => by omega)))) (ev_ret rfl)
    · rw [if_neg k3]
      have hL0 : 0 < L := by omega
      exact ev_neg (fun h => k3 (h.imp id (Or.imp id (Or.imp id (fun h => by omega))))) (hn hL0 _)
  refine ev_neg k2 ?_
  rw [if_neg k2, e5, tmod_nat]
  by_cases k4 : x / 256 % 4096 % 32 ^ L ≠ 0
  · rw [if_pos k4]; exact ev_pos (by omega) (ev_ret rfl)
  refine ev_neg (by omega) ?_
  rw [if_neg k4]
  by_cases k5 : us = true ∧ x.testBit 4 = false
  · rw [if_pos k5]; exact ev_pos k5 (ev_ret rfl)
  refine ev_neg k5 ?_
  rw [if_neg k5]
  by_cases k6 : accV ac (x.testBit 1) (x.testBit 2) (x.testBit 3)
  · rw [if_neg (not_not_intro k6)]
    refine ev_neg (not_not_intro k6) ?_
    have ht0 : x.testBit 0 = true := by simpa using k0
    have hm : va % (256 * 32 ^ L) < 256 * 32 ^ L := Nat.mod_lt _ (by omega)
    have epa : wrap64 (wrap64 (((x / 256 % 4096 : Nat) : Int) * 256) + wrap64 (Go.bits .and .u64 (va : Int) (2 ^ (8 + 5 * (L : Int)).toNat - 1))) = ((x / 256 % 4096 * 256 + va % (256 * 32 ^ L) : Nat) : Int) := by
      have hs : (2 : Int) ^ (8 + 5 * (L : Int)).toNat - 1 = ((2 ^ n - 1 : Nat) : Int) := by rw [e8, en]; have := Nat.two_pow_pos n; omega
      have hn2 : 2 ^ n - 1 < 2 ^ 64 := by have := Nat.pow_le_pow_right (n := 2) (by decide) hn18; omega
      rw [hs, and_nat (by omega) hn2, Nat.and_two_pow_sub_one_eq_mod, ← en, w64_id (x := ((x / 256 % 4096 : Nat) : Int) * 256) (by omega) (by omega), w64_id (x := ((va % (256 * 32 ^ L) : Nat) : Int)) (by omega) (by omega), w64_id (by omega) (by omega)]
      omega
    simp only
    rw [epa, ht0]
    unfold goodV
    exact Ev.bind (impl_PutEntry_ev ..) (ev_ret rfl)
  · rw [if_pos k6]; exact ev_pos k6 (ev_ret rfl)
theorem impl_walk_ev {m : List Int} (hb : Bytes m) (hl : m.length ≤ 262144) {va : Nat} (hv : va < 8388608) (ac : Int) (us : Bool) : ∀ (L : Nat), L ≤ 2 → ∀ t : Int, Ev (fun k => impl_translate.l0 k m t (L : Int) (va : Int) ac us) (trV m va ac us L t) := by
  intro L
  induction L with
  | zero => intro hL t; exact impl_step hb hl hv ac us hL t _ (fun h => absurd h (by decide))
  | succ L ih =>
    intro hL t
    refine impl_step hb hl hv ac us hL t _ (fun _ F => ?_)
    rw [show (((L + 1 : Nat) : Int) - 1) = (L : Int) by omega]
    exact ih (by omega) F
theorem from_eq {va0 i P : Nat} (h : va0 + i * (256 * P) + 256 * P ≤ 8388608) (hi : i ≤ 32) : wrap64 ((va0 : Int) + wrap64 (wrap64 ((i : Int) * 256) * (P : Int))) = ((va0 + i * (256 * P) : Nat) : Int) := by
  obtain ⟨Q, hQ⟩ : ∃ Q, i * (256 * P) = Q := ⟨_, rfl⟩
  have e0 : (i : Int) * 256 * (P : Int) = (Q : Int) := by rw [← hQ, ← Nat.mul_assoc, Int.natCast_mul, Int.natCast_mul]; rfl
  rw [hQ] at h ⊢
  rw [w64_id (x := (i : Int) * 256) (by omega) (by omega), e0, w64_id (x := (Q : Int)) (by omega) (by omega), w64_id (by omega) (by omega)]; omega
theorem at_eq {T i n : Nat} (hA : T * 256 + i * 8 + 8 ≤ n) (hn : n ≤ 262144) : wrap64 (wrap64 ((T : Int) * 256) + wrap64 (8 * (i : Int))) = ((T * 256 + i * 8 : Nat) : Int) := by
  rw [w64_id (x := (T : Int) * 256) (by omega) (by omega), w64_id (x := 8 * (i : Int)) (by omega) (by omega), w64_id (by omega) (by omega)]; omega
theorem succ_eq {i : Nat} (h : i ≤ 32) : wrap64 ((i : Int) + 1) = ((i + 1 : Nat) : Int) := by rw [w64_id (by omega) (by omega)]; omega
theorem at8_eq {A n : Nat} (h : A + 8 ≤ n) (hn : n ≤ 262144) : wrap64 ((A : Int) + 8) = ((A + 8 : Nat) : Int) := by rw [w64_id (by omega) (by omega)]; omega
theorem level_eq {L : Nat} (h : L ≤ 2) : wrap64 ((L : Int) - 1) = (L : Int) - 1 := w64_id (by omega) (by omega)
theorem lt32 {i d : Nat} (h : i + (d + 1) = 32) : (i : Int) < 32 ∧ i ≤ 32 ∧ i + 1 ≤ 32 ∧ i + 1 + d = 32 := by omega
theorem in_table {T i d n : Nat} (hT : T < n / 256) (h : i + (d + 1) = 32) : T * 256 + i * 8 + 8 ≤ n := by omega
theorem row_bound {i S : Nat} (h : i + 1 ≤ 32) : i * S + S ≤ 32 * S := by
  have h2 := Nat.mul_le_mul_right S h
  rw [Nat.succ_mul] at h2
  exact h2
theorem row_bound2 {i P : Nat} (h : i ≤ 32) : i * P ≤ 32 * P := Nat.mul_le_mul_right P h
def rowsV {α : Type} (f : Nat → List α) : Nat → Nat → List α
  | 0, _ => []
  | d + 1, i => f i ++ rowsV f d (i + 1)
theorem rowsV_len {α : Type} {f : Nat → List α} {B : Nat} (h : ∀ i, (f i).length ≤ B) : ∀ d i, (rowsV f d i).length ≤ d * B := by
  intro d
  induction d with
  | zero => intro i; exact Nat.zero_le _
  | succ d ih =>
    intro i
    have h1 := h i
    have h2 := ih (i + 1)
    rw [rowsV, List.length_append, Nat.succ_mul]; omega
def entL (m : List Int) (L T va0 : Nat) (nx : Int → Nat → List S52) (i : Nat) : List S52 :=
  if kindV (wordAt m (T * 256 + i * 8) 8) L = 0 then nx ((wordAt m (T * 256 + i * 8) 8 / 256 % 4096 : Nat) : Int) (va0 + i * (256 * 32 ^ L)) else
  if kindV (wordAt m (T * 256 + i * 8) 8) L = 1 then [⟨((va0 + i * (256 * 32 ^ L) : Nat) : Int), (L : Int), (wordAt m (T * 256 + i * 8) 8 : Nat)⟩] else []
def belowV (m : List Int) : Nat → Int → Nat → List S52
  | 0, t, va => if t < 0 ∨ t ≥ (m.length : Int) / 256 then [] else rowsV (entL m 0 t.toNat va (fun _ _ => [])) 32 0
  | L + 1, t, va => if t < 0 ∨ t ≥ (m.length : Int) / 256 then [] else rowsV (entL m (L + 1) t.toNat va (belowV m L)) 32 0
theorem entL_len {m : List Int} {L T va0 : Nat} {nx : Int → Nat → List S52} (h : ∀ F va, (nx F va).length ≤ 32 ^ L) (i : Nat) : (entL m L T va0 nx i).length ≤ 32 ^ L := by
  have hp : 0 < 32 ^ L := Nat.pow_pos (by decide)
  unfold entL
  split
  · exact h _ _
  · split
    · exact hp
    · exact Nat.zero_le _
theorem belowV_len (m : List Int) : ∀ L t va, (belowV m L t va).length ≤ 32 ^ (L + 1) := by
  intro L
  induction L with
  | zero =>
    intro t va
    unfold belowV
    split
    · exact Nat.zero_le _
    · exact rowsV_len (B := 1) (fun i => entL_len (L := 0) (fun _ _ => Nat.zero_le _) i) 32 0
  | succ L ih =>
    intro t va
    unfold belowV
    split
    · exact Nat.zero_le _
    · have := rowsV_len (B := 32 ^ (L + 1)) (fun i => entL_len (m := m) (L := L + 1) (T := t.toNat) (va0 := va) (nx := belowV m L) (fun F v => ih F v) i) 32 0
      rw [Nat.pow_succ 32 (L + 1)]; omega
theorem spec_below_l0 {m : List Int} (hb : Bytes m) (hl : m.length ≤ 262144) {L : Nat} (hL : L ≤ 2) {T : Nat} (hT : T < m.length / 256) {va0 : Nat} (hva : va0 + 32 * (256 * 32 ^ L) ≤ 8388608) (nx : Int → Nat → List S52) (hlen : ∀ F va, (nx F va).length ≤ 32 ^ L)
    (hn : 0 < L → ∀ (F : Int) (va : Nat), va + 256 * 32 ^ L ≤ 8388608 → Ev (fun k => spec_l6Below.f k m F ((L : Int) - 1) (va : Int)) (nx F va)) : ∀ (d i : Nat) (acc : List S52), i + d = 32 → acc.length ≤ i * 32 ^ L → Ev (fun k => spec_l6Below.l0 k m (T : Int) (L : Int) (va0 : Int) acc (i : Int)) (acc ++ rowsV (entL m L T va0 nx) d i) := by
  obtain ⟨hp0, hp1⟩ := pow_le3 hL
  intro d
  induction d with
  | zero =>
    intro i acc h ha
    rw [rowsV, List.append_nil]
    exact Ev.step (fun _ => spec_l6Below.l0.eq_2 ..) (ev_neg (by omega) (ev_ret rfl))
  | succ d ih =>
    intro i acc h ha
    obtain ⟨hc1, hi32, hi33, hi34⟩ := lt32 h
    have hA : T * 256 + i * 8 + 8 ≤ m.length := in_table hT h
    have hb2 : va0 + i * (256 * 32 ^ L) + 256 * 32 ^ L ≤ 8388608 := by
      rw [Nat.add_assoc]
      exact Nat.le_trans (Nat.add_le_add_left (row_bound (i := i) (S := 256 * 32 ^ L) hi33) va0) hva
    have hacc : acc.length ≤ 32768 := Nat.le_trans ha (Nat.le_trans (Nat.mul_le_mul hi32 hp1) (by decide))
    have hat := at_eq hA hl
    have e1 := succ_eq hi32
    have hfrom := from_eq hb2 hi32
    have hn1 : (1 : Nat) ≤ 32 ^ L := hp0
    have ha0 := ha
    clear ha
    have hx : wordAt m (T * 256 + i * 8) 8 < 2 ^ 64 := wordAt_lt hb (by decide)
    have hw := spec_word_ev hb hl hA
    have hent : rowsV (entL m L T va0 nx) (d + 1) i = entL m L T va0 nx i ++ rowsV (entL m L T va0 nx) d (i + 1) := rfl
    rw [hent, ← List.append_assoc]
    have hi := ih (i + 1) (acc ++ entL m L T va0 nx i) hi34 (by rw [List.length_append, Nat.succ_mul]; exact Nat.add_le_add ha0 (entL_len hlen i))
    have hg := spec_GetEntry_ev hx
    have hk := spec_l6Kind_ev hx hL
    have hpg := spec_l6Pages_ev L hL
    unfold entL at hi ⊢
    obtain ⟨A, hAe⟩ : ∃ A, T * 256 + i * 8 = A := ⟨_, rfl⟩
    rw [hAe] at hA hat hx hw hg hk hi ⊢
    have hat8 := at8_eq hA hl
    generalize wordAt m A 8 = x at hx hw hg hk hi ⊢
    clear ha0 hva
    refine Ev.step (fun _ => spec_l6Below.l0.eq_2 ..) (ev_pos hc1 ?_)
    rw [hat, hat8, Int.toNat_natCast, Int.toNat_natCast, e1]
    refine ev_pos (Int.natCast_nonneg _) (ev_pos (Int.ofNat_le.2 (Nat.le_add_right _ _)) (ev_pos (Int.ofNat_le.2 hA) (Ev.bind hw (Ev.bind hpg (Ev.bind hk ?_)))))
    by_cases k0 : kindV x L = 0
    · rw [if_pos k0] at hi ⊢
      have hb20 : ¬ x ≥ 1048576 ∧ 0 < L := by
        unfold kindV at k0
        split at k0
        · exact absurd k0 (by decide)
        · split at k0
          · exact absurd k0 (by decide)
          · rename_i h1; refine ⟨fun h => h1 (Or.inl h), ?_⟩
            split at k0
            · split at k0
              · exact absurd k0 (by decide)
              · rename_i h3; omega
            · split at k0 <;> exact absurd k0 (by decide)
      unfold getV at hg
      rw [if_neg hb20.1] at hg
      refine ev_pos k0 (Ev.bind hg ?_)
      rw [level_eq hL, hfrom]
      have hl2 := hlen ((x / 256 % 4096 : Nat) : Int) (va0 + i * (256 * 32 ^ L))
      exact Ev.bind (hn hb20.2 _ _ hb2) (ev_pos (Nat.lt_of_le_of_lt (Nat.add_le_add hacc (Nat.le_trans hl2 hp1)) (by decide)) hi)
    · rw [if_neg k0] at hi ⊢
      refine ev_neg k0 ?_
      by_cases k1 : kindV x L = 1
      · rw [if_pos k1] at hi ⊢
        rw [hfrom]
        exact ev_pos k1 (ev_pos (Nat.lt_of_le_of_lt hacc (by decide)) hi)
      · rw [if_neg k1] at hi ⊢
        rw [List.append_nil] at hi ⊢
        exact ev_neg k1 hi
theorem spec_below_step {m : List Int} (hb : Bytes m) (hl : m.length ≤ 262144) {L : Nat} (hL : L ≤ 2) (t : Int) {va0 : Nat} (hva : va0 + 32 * (256 * 32 ^ L) ≤ 8388608) (nx : Int → Nat → List S52) (hlen : ∀ F va, (nx F va).length ≤ 32 ^ L)
    (hn : 0 < L → ∀ (F : Int) (va : Nat), va + 256 * 32 ^ L ≤ 8388608 → Ev (fun k => spec_l6Below.f k m F ((L : Int) - 1) (va : Int)) (nx F va)) : Ev (fun k => spec_l6Below.f k m t (L : Int) (va0 : Int)) (if t < 0 ∨ t ≥ (m.length : Int) / 256 then [] else rowsV (entL m L t.toNat va0 nx) 32 0) := by
  have bad : ∀ b : Bool, b = true → Ev (fun k => spec_l6Below.j0 k m t (L : Int) (va0 : Int) ([] : List S52) b) [] := by
    intro b h; subst h
    exact Ev.step (fun _ => spec_l6Below.j0.eq_2 ..) (ev_pos rfl (ev_ret rfl))
  refine Ev.step (fun _ => spec_l6Below.f.eq_2 ..) (ev_bind0 rfl ?_)
  by_cases h1 : t < 0
  · rw [if_pos (Or.inl h1)]; exact ev_pos h1 (bad true rfl)
  refine ev_neg h1 ?_
  rw [w64_id (x := (m.length : Int) / 256) (by omega) (by omega)]
  by_cases h2 : t ≥ (m.length : Int) / 256
  · rw [if_pos (Or.inr h2)]; exact bad _ (decide_eq_true h2)
  rw [if_neg (by omega), decide_eq_false h2]
  obtain ⟨T, rfl⟩ : ∃ T : Nat, t = (T : Int) := ⟨t.toNat, by omega⟩
  refine Ev.step (fun _ => spec_l6Below.j0.eq_2 ..) (ev_neg (by decide) ?_)
  rw [Int.toNat_natCast]
  exact ev_eq (List.nil_append _) (spec_below_l0 hb hl hL (by omega) hva nx hlen hn 32 0 [] (by omega) (Nat.zero_le _))
theorem spec_below_ev {m : List Int} (hb : Bytes m) (hl : m.length ≤ 262144) : ∀ (L : Nat), L ≤ 2 → ∀ (t : Int) (va0 : Nat), va0 + 32 * (256 * 32 ^ L) ≤ 8388608 → Ev (fun k => spec_l6Below.f k m t (L : Int) (va0 : Int)) (belowV m L t va0) := by
  intro L
  induction L with
  | zero => intro hL t va0 hva; exact spec_below_step hb hl hL t hva _ (fun _ _ => Nat.zero_le _) (fun h => absurd h (by decide))
  | succ L ih =>
    intro hL t va0 hva
    refine spec_below_step hb hl hL t hva (belowV m L) (fun F va => belowV_len m L F va) (fun _ F va hv => ?_)
    rw [show (((L + 1 : Nat) : Int) - 1) = (L : Int) by omega]
    refine ih (by omega) F va ?_
    rw [Nat.pow_succ] at hv; omega
theorem stepV_in {m : List Int} {va L T i : Nat} (hT : T < m.length / 256) (hi : va / (256 * 32 ^ L) % 32 = i) (nx : Int → R5) :
    (kindV (wordAt m (T * 256 + i * 8) 8) L = 0 → stepV m va 0 true L (T : Int) nx = nx ((wordAt m (T * 256 + i * 8) 8 / 256 % 4096 : Nat) : Int)) ∧
    (kindV (wordAt m (T * 256 + i * 8) 8) L = 1 → ∃ f pa en : Int, stepV m va 0 true L (T : Int) nx = (f, (L : Int), ((T * 256 + i * 8 : Nat) : Int), pa, en) ∧ (f = 0 ∨ f = 7 ∨ f = 8)) ∧
    (kindV (wordAt m (T * 256 + i * 8) 8) L ≠ 0 → kindV (wordAt m (T * 256 + i * 8) 8) L ≠ 1 → ∃ f : Int, stepV m va 0 true L (T : Int) nx = (f, (L : Int), ((T * 256 + i * 8 : Nat) : Int), 0, 0) ∧ (f = 4 ∨ f = 5 ∨ f = 6)) := by
  have hr : ¬ ((T : Int) < 0 ∨ (T : Int) ≥ (m.length : Int) / 256) := by omega
  unfold stepV kindV
  rw [if_neg hr, Int.toNat_natCast, hi]
  simp only
  generalize wordAt m (T * 256 + i * 8) 8 = x
  by_cases k0 : x.testBit 0 = false
  · rw [if_pos k0, if_pos k0]; exact ⟨fun h => absurd h (by decide), fun h => absurd h (by decide), fun _ _ => ⟨4, rfl, .inl rfl⟩⟩
  rw [if_neg k0, if_neg k0]
  by_cases k1 : x ≥ 1048576 ∨ (x.testBit 2 = true ∧ x.testBit 1 = false)
  · rw [if_pos k1, if_pos k1]; exact ⟨fun h => absurd h (by decide), fun h => absurd h (by decide), fun _ _ => ⟨5, rfl, .inr (.inl rfl)⟩⟩
  rw [if_neg k1, if_neg k1]
  by_cases k2 : x.testBit 1 = false ∧ x.testBit 2 = false ∧ x.testBit 3 = false
  · rw [if_pos k2, if_pos k2]
    by_cases k3 : x.testBit 4 = true ∨ x.testBit 5 = true ∨ x.testBit 6 = true ∨ L = 0
    · rw [if_pos k3, if_pos k3]; exact ⟨fun h => absurd h (by decide), fun h => absurd h (by decide), fun _ _ => ⟨5, rfl, .inr (.inl rfl)⟩⟩
    · rw [if_neg k3, if_neg k3]; exact ⟨fun _ => rfl, fun h => absurd h (by decide), fun h => absurd rfl h⟩
  rw [if_neg k2, if_neg k2]
  by_cases k4 : x / 256 % 4096 % 32 ^ L = 0
  · rw [if_pos k4, if_neg (not_not_intro k4)]
    refine ⟨fun h => absurd h (by decide), fun _ => ?_, fun _ h => absurd rfl h⟩
    by_cases k5 : True ∧ x.testBit 4 = false
    · rw [if_pos k5]; exact ⟨7, 0, 0, rfl, .inr (.inl rfl)⟩
    rw [if_neg k5]
    by_cases k6 : ¬ accV 0 (x.testBit 1) (x.testBit 2) (x.testBit 3)
    · rw [if_pos k6]; exact ⟨8, 0, 0, rfl, .inr (.inr rfl)⟩
    rw [if_neg k6]
    exact ⟨0, _, _, rfl, .inl rfl⟩
  · rw [if_neg k4, if_pos k4]; exact ⟨fun h => absurd h (by decide), fun h => absurd h (by decide), fun _ _ => ⟨6, rfl, .inr (.inr rfl)⟩⟩
theorem kindV_zero {x : Nat} : kindV x 0 ≠ 0 := by
  unfold kindV
  split
  · decide
  · split
    · decide
    · split
      · rw [if_pos (by simp)]; decide
      · split <;> decide
theorem leaf_shl {L : Nat} (hL : L ≤ 2) : 0 ≤ wrap64 (8 + wrap64 (5 * (L : Int))) ∧ shl .u64 1 (wrap64 (8 + wrap64 (5 * (L : Int)))) = ((256 * 32 ^ L : Nat) : Int) := by
  have e : wrap64 (8 + wrap64 (5 * (L : Int))) = 8 + 5 * (L : Int) := by rw [w64_id (x := 5 * (L : Int)) (by omega) (by omega), w64_id (by omega) (by omega)]
  obtain ⟨e8, _, _⟩ := pow_int hL
  obtain ⟨hp0, hp1⟩ := pow_le3 hL
  rw [e]
  refine ⟨by omega, ?_⟩
  unfold shl
  rw [Nat.min_eq_left (show (8 + 5 * (L : Int)).toNat ≤ IntKind.u64.bits by show _ ≤ 64; omega), e8, Int.one_mul]
  generalize 32 ^ L = P at hp0 hp1 ⊢
  rw [u64w_id (by omega) (by omega)]
theorem leaf_j2 {m : List Int} {root : Int} {acc : List S52} {va S : Nat} {f L A pa en : Int} {R : List S52} (hf : f ≠ 3) (hs : va + S ≤ 8388608) (h : Ev (fun k => impl_Leaves.l0 k m root acc ((va + S : Nat) : Int)) R) : Ev (fun k => impl_Leaves.j2 k m root acc (va : Int) (S : Int) f L A pa en) R := by
  refine Ev.step (fun _ => impl_Leaves.j2.eq_2 ..) (ev_neg hf ?_)
  rw [show IntKind.u64.wrap ((va : Int) + (S : Int)) = ((va + S : Nat) : Int) by rw [u64w_id (by omega) (by omega)]; omega]
  exact h
theorem leaf_head {m : List Int} {root : Int} {acc : List S52} {va L : Nat} {f A pa en : Int} {R : List S52} (hL : L ≤ 2) (hva : va < 8388608) (htr : Ev (fun k => impl_translate.f k m root (va : Int) 0 true) (f, (L : Int), A, pa, en))
    (h : Ev (fun k => impl_Leaves.j1 k m root acc (va : Int) ((256 * 32 ^ L : Nat) : Int) (f == 0 || f == 7 || f == 8) f (L : Int) A pa en) R) : Ev (fun k => impl_Leaves.l0 k m root acc (va : Int)) R := by
  obtain ⟨h0, hs⟩ := leaf_shl hL
  refine Ev.step (fun _ => impl_Leaves.l0.eq_2 ..) (ev_pos (by omega) (Ev.bind htr (ev_pos h0 ?_)))
  simp only
  rw [hs]
  by_cases f0 : f = 0
  · subst f0; exact ev_pos rfl h
  · refine ev_neg f0 ?_
    rw [beq_eq_false_iff_ne.mpr f0, Bool.false_or] at h
    by_cases f7 : f = 7
    · subst f7; exact ev_pos rfl h
    · rw [beq_eq_false_iff_ne.mpr f7, Bool.false_or] at h
      exact ev_neg f7 h
theorem leaf_push {m : List Int} {root : Int} {acc : List S52} {va L : Nat} {f A pa en w : Int} {R : List S52} (hL : L ≤ 2) (hs : va + 256 * 32 ^ L ≤ 8388608) (htr : Ev (fun k => impl_translate.f k m root (va : Int) 0 true) (f, (L : Int), A, pa, en)) (hf : f = 0 ∨ f = 7 ∨ f = 8)
    (hw : Ev (fun k => impl_LoadWord.f k m A 8 false) (w, true)) (hacc : acc.length ≤ 32768) (h : Ev (fun k => impl_Leaves.l0 k m root (acc ++ [(⟨(va : Int), (L : Int), w⟩ : S52)]) ((va + 256 * 32 ^ L : Nat) : Int)) R) : Ev (fun k => impl_Leaves.l0 k m root acc (va : Int)) R := by
  obtain ⟨hp0, hp1⟩ := pow_le3 hL
  have hva : va < 8388608 := by
    generalize 32 ^ L = P at hp0 hs
    omega
  refine leaf_head hL hva htr ?_
  have hb : (f == 0 || f == 7 || f == 8) = true := by rcases hf with rfl | rfl | rfl <;> rfl
  have h3 : f ≠ 3 := by rcases hf with rfl | rfl | rfl <;> decide
  rw [hb]
  refine Ev.step (fun _ => impl_Leaves.j1.eq_2 ..) (ev_pos rfl (Ev.bind hw (ev_pos (Nat.lt_of_le_of_lt hacc (by decide)) ?_)))
  rw [show wrap64 (va : Int) = (va : Int) from w64_id (by omega) (by omega)]
  exact leaf_j2 h3 hs h
theorem leaf_skip {m : List Int} {root : Int} {acc : List S52} {va L : Nat} {f A : Int} {R : List S52} (hL : L ≤ 2) (hs : va + 256 * 32 ^ L ≤ 8388608) (htr : Ev (fun k => impl_translate.f k m root (va : Int) 0 true) (f, (L : Int), A, 0, 0)) (hf : f = 4 ∨ f = 5 ∨ f = 6)
    (h : Ev (fun k => impl_Leaves.l0 k m root acc ((va + 256 * 32 ^ L : Nat) : Int)) R) : Ev (fun k => impl_Leaves.l0 k m root acc (va : Int)) R := by
  obtain ⟨hp0, hp1⟩ := pow_le3 hL
  have hva : va < 8388608 := by
    generalize 32 ^ L = P at hp0 hs
    omega
  refine leaf_head hL hva htr ?_
  have hb : (f == 0 || f == 7 || f == 8) = false := by rcases hf with rfl | rfl | rfl <;> rfl
  have h3 : f ≠ 3 := by rcases hf with rfl | rfl | rfl <;> decide
  rw [hb]
  exact Ev.step (fun _ => impl_Leaves.j1.eq_2 ..) (ev_neg (by decide) (leaf_j2 h3 hs h))
theorem leaf_out {m : List Int} {root : Int} {acc : List S52} {va L : Nat} {A : Int} {R : List S52} (hL : L < 2) (hs : va + 32 * (256 * 32 ^ L) ≤ 8388608) (htr : Ev (fun k => impl_translate.f k m root (va : Int) 0 true) (3, (L : Int), A, 0, 0))
    (h : Ev (fun k => impl_Leaves.l0 k m root acc ((va + 32 * (256 * 32 ^ L) : Nat) : Int)) R) : Ev (fun k => impl_Leaves.l0 k m root acc (va : Int)) R := by
  obtain ⟨hp0, hp1⟩ := pow_le3 (Nat.le_of_lt hL)
  have hva : va < 8388608 := by
    generalize 32 ^ L = P at hp0 hs
    omega
  refine leaf_head (Nat.le_of_lt hL) hva htr ?_
  refine Ev.step (fun _ => impl_Leaves.j1.eq_2 ..) (ev_neg (by decide) (Ev.step (fun _ => impl_Leaves.j2.eq_2 ..) (ev_pos rfl (ev_neg (by omega) ?_))))
  have e : IntKind.u64.wrap (IntKind.u64.wrap (IntKind.u64.wrap ((va : Int) + ((256 * 32 ^ L : Nat) : Int)) - ((256 * 32 ^ L : Nat) : Int)) + IntKind.u64.wrap (((256 * 32 ^ L : Nat) : Int) * 32)) = ((va + 32 * (256 * 32 ^ L) : Nat) : Int) := by
    generalize 256 * 32 ^ L = S at hs ⊢
    rw [u64w_id (x := (va : Int) + (S : Int)) (by omega) (by omega), u64w_id (x := (va : Int) + (S : Int) - (S : Int)) (by omega) (by omega), u64w_id (x := (S : Int) * 32) (by omega) (by omega), u64w_id (by omega) (by omega)]; omega
  rw [e]
  exact h
theorem div_row {S q i r : Nat} (hS : 0 < S) (hi : i < 32) (hr : r < S) : (S * (32 * q) + i * S + r) / S % 32 = i := by
  have e : S * (32 * q) + i * S + r = r + S * (32 * q + i) := by rw [Nat.mul_add, Nat.mul_comm i S, Nat.add_comm r]
  rw [e, Nat.add_mul_div_left _ _ hS, Nat.div_eq_of_lt hr]; omega
theorem row_step {a i S : Nat} : a + (i + 1) * S = a + i * S + S := by rw [Nat.succ_mul, Nat.add_assoc]
theorem len_step {a b v P : Nat} (h : a ≤ v / 256) (hb : b ≤ P) : a + b ≤ (v + 256 * P) / 256 := by
  rw [Nat.add_mul_div_left _ _ (by decide)]; omega
theorem len_cap {a v : Nat} (h : a ≤ v / 256) (hv : v ≤ 8388608) : a ≤ 32768 := by omega
theorem word_ev {m : List Int} (hb : Bytes m) (hl : m.length ≤ 262144) {A : Nat} (h : A + 8 ≤ m.length) : Ev (fun k => impl_LoadWord.f k m (A : Int) 8 false) (((wordAt m A 8 : Nat) : Int), true) := by
  refine ev_eq ?_ (impl_LoadWord_ev hb (by omega) (A : Int) 8 false)
  unfold loadV
  rw [if_pos ⟨by decide, by omega, by omega⟩, if_neg (by decide)]; rfl
theorem leaf_table {m : List Int} (hb : Bytes m) (hl : m.length ≤ 262144) (root : Int) {L : Nat} (hL : L ≤ 2) {T : Nat} (hT : T < m.length / 256) {va0 q : Nat} (hq : va0 = (256 * 32 ^ L) * (32 * q)) (hend : va0 + 32 * (256 * 32 ^ L) ≤ 8388608)
    (nt : Nat → Int → R5) (bl : Int → Nat → List S52) (hbl : ∀ F va, (bl F va).length ≤ 32 ^ L)
    (hpath : ∀ va, va0 ≤ va → va < va0 + 32 * (256 * 32 ^ L) → trV m va 0 true 2 root = stepV m va 0 true L (T : Int) (nt va))
    (hrec : 0 < L → ∀ (F : Int) (i : Nat) (acc R : List S52), i < 32 → (∀ va, va0 + i * (256 * 32 ^ L) ≤ va → va < va0 + i * (256 * 32 ^ L) + 256 * 32 ^ L → trV m va 0 true 2 root = nt va F) → acc.length ≤ (va0 + i * (256 * 32 ^ L)) / 256 →
      Ev (fun k => impl_Leaves.l0 k m root (acc ++ bl F (va0 + i * (256 * 32 ^ L))) ((va0 + i * (256 * 32 ^ L) + 256 * 32 ^ L : Nat) : Int)) R → Ev (fun k => impl_Leaves.l0 k m root acc ((va0 + i * (256 * 32 ^ L) : Nat) : Int)) R) :
    ∀ (d i : Nat) (acc R : List S52), i + d = 32 → acc.length ≤ (va0 + i * (256 * 32 ^ L)) / 256 → Ev (fun k => impl_Leaves.l0 k m root (acc ++ rowsV (entL m L T va0 bl) d i) ((va0 + 32 * (256 * 32 ^ L) : Nat) : Int)) R → Ev (fun k => impl_Leaves.l0 k m root acc ((va0 + i * (256 * 32 ^ L) : Nat) : Int)) R := by
  obtain ⟨hp0, hp1⟩ := pow_le3 hL
  have hS0 : 0 < 256 * 32 ^ L := Nat.mul_pos (by decide) hp0
  intro d
  induction d with
  | zero =>
    intro i acc R h ha hR
    obtain rfl : i = 32 := h
    rw [rowsV, List.append_nil] at hR
    exact hR
  | succ d ih =>
    intro i acc R h hacc hR
    obtain ⟨hc1, hi32, hi33, hi34⟩ := lt32 h
    have hi : i < 32 := hi33
    have hva : va0 + i * (256 * 32 ^ L) + 256 * 32 ^ L ≤ 8388608 := by
      rw [Nat.add_assoc]
      exact Nat.le_trans (Nat.add_le_add_left (row_bound (i := i) (S := 256 * 32 ^ L) hi33) va0) hend
    have hin : ∀ r, r < 256 * 32 ^ L → va0 + i * (256 * 32 ^ L) + r < va0 + 32 * (256 * 32 ^ L) := fun r hr =>
      Nat.lt_of_lt_of_le (Nat.add_lt_add_left hr _) (by rw [Nat.add_assoc]; exact Nat.add_le_add_left (row_bound (i := i) (S := 256 * 32 ^ L) hi33) va0)
    have hdiv : ∀ r, r < 256 * 32 ^ L → (va0 + i * (256 * 32 ^ L) + r) / (256 * 32 ^ L) % 32 = i := fun r hr => by rw [hq]; exact div_row hS0 hi hr
    have ht := hpath (va0 + i * (256 * 32 ^ L)) (Nat.le_add_right _ _) (hin 0 hS0)
    obtain ⟨c0, c1, c2⟩ := stepV_in (m := m) (va := va0 + i * (256 * 32 ^ L)) hT (hdiv 0 hS0) (nt (va0 + i * (256 * 32 ^ L)))
    have hlt : va0 + i * (256 * 32 ^ L) < 8388608 := Nat.lt_of_lt_of_le (Nat.lt_add_of_pos_right hS0) hva
    have hwalk : Ev (fun k => impl_translate.f k m root ((va0 + i * (256 * 32 ^ L) : Nat) : Int) 0 true) (trV m (va0 + i * (256 * 32 ^ L)) 0 true 2 root) := impl_walk_ev hb hl hlt 0 true 2 (by decide) root
    rw [ht] at hwalk
    have hent : rowsV (entL m L T va0 bl) (d + 1) i = entL m L T va0 bl i ++ rowsV (entL m L T va0 bl) d (i + 1) := rfl
    rw [hent, ← List.append_assoc] at hR
    have hn := fun acc' => ih (i + 1) acc' R hi34
    rw [row_step] at hn
    have hw := word_ev hb hl (in_table hT h)
    unfold entL at hR
    by_cases k0 : kindV (wordAt m (T * 256 + i * 8) 8) L = 0
    · rw [if_pos k0] at hR
      have hL0 : 0 < L := Nat.pos_of_ne_zero (fun h0 => by subst h0; exact kindV_zero k0)
      refine hrec hL0 _ i acc R hi (fun va h1 h2 => ?_) hacc (hn _ ?_ hR)
      · obtain ⟨r, rfl⟩ := Nat.exists_eq_add_of_le h1
        have hr : r < 256 * 32 ^ L := Nat.lt_of_add_lt_add_left h2
        rw [hpath _ (Nat.le_trans (Nat.le_add_right _ _) h1) (hin r hr)]
        exact (stepV_in (m := m) hT (hdiv r hr) _).1 k0
      · rw [List.length_append]; exact len_step hacc (hbl _ _)
    · rw [if_neg k0] at hR
      by_cases k1 : kindV (wordAt m (T * 256 + i * 8) 8) L = 1
      · rw [if_pos k1] at hR
        obtain ⟨f, pa, en, he, hf⟩ := c1 k1
        rw [he] at hwalk
        exact leaf_push hL hva hwalk hf hw (len_cap hacc (Nat.le_of_lt hlt)) (hn _ (by rw [List.length_append, List.length_singleton]; exact len_step hacc hp0) hR)
      · rw [if_neg k1, List.append_nil] at hR
        obtain ⟨f, he, hf⟩ := c2 k0 k1
        rw [he] at hwalk
        exact leaf_skip hL hva hwalk hf (hn _ (len_step (b := 0) hacc (Nat.zero_le _)) hR)
theorem up_eq (P : Nat) : 256 * (P * 32) = 32 * (256 * P) := by omega
theorem base_eq (s q i : Nat) : (32 * s) * (32 * q) + i * (32 * s) = s * (32 * (32 * q + i)) := by
  simp only [Nat.mul_add, Nat.mul_comm, Nat.mul_left_comm, Nat.mul_assoc]
theorem trV_out {m : List Int} {va : Nat} {L : Nat} {t : Int} (h : t < 0 ∨ t ≥ (m.length : Int) / 256) : trV m va 0 true L t = (3, (L : Int), 0, 0, 0) := by
  cases L with
  | zero => unfold trV stepV; rw [if_pos h]
  | succ L => unfold trV stepV; rw [if_pos h]
theorem belowV_out {m : List Int} {va L : Nat} {t : Int} (h : t < 0 ∨ t ≥ (m.length : Int) / 256) : belowV m L t va = [] := by
  cases L with
  | zero => unfold belowV; rw [if_pos h]
  | succ L => unfold belowV; rw [if_pos h]
theorem belowV_zero {m : List Int} {va T : Nat} (h : ¬ ((T : Int) < 0 ∨ (T : Int) ≥ (m.length : Int) / 256)) : belowV m 0 (T : Int) va = rowsV (entL m 0 T va (fun _ _ => [])) 32 0 := by
  unfold belowV; rw [if_neg h, Int.toNat_natCast]
theorem belowV_succ {m : List Int} {va T L : Nat} (h : ¬ ((T : Int) < 0 ∨ (T : Int) ≥ (m.length : Int) / 256)) : belowV m (L + 1) (T : Int) va = rowsV (entL m (L + 1) T va (belowV m L)) 32 0 := by
  rw [belowV, if_neg h, Int.toNat_natCast]
theorem start_eq (a S : Nat) : a + 0 * S = a := by rw [Nat.zero_mul, Nat.add_zero]
theorem leaf_main {m : List Int} (hb : Bytes m) (hl : m.length ≤ 262144) (root : Int) : ∀ (L : Nat), L ≤ 2 → ∀ (t : Int) (va0 q : Nat) (acc R : List S52), va0 = (256 * 32 ^ L) * (32 * q) → va0 + 32 * (256 * 32 ^ L) ≤ 8388608 →
    (∀ va, va0 ≤ va → va < va0 + 32 * (256 * 32 ^ L) → trV m va 0 true 2 root = trV m va 0 true L t) → (L = 2 → ¬ (t < 0 ∨ t ≥ (m.length : Int) / 256)) → acc.length ≤ va0 / 256 →
    Ev (fun k => impl_Leaves.l0 k m root (acc ++ belowV m L t va0) ((va0 + 32 * (256 * 32 ^ L) : Nat) : Int)) R → Ev (fun k => impl_Leaves.l0 k m root acc (va0 : Int)) R := by
  intro L
  induction L with
  | zero =>
    intro hL t va0 q acc R hq hend hpath h2 hacc hR
    by_cases ho : t < 0 ∨ t ≥ (m.length : Int) / 256
    · rw [belowV_out ho, List.append_nil] at hR
      have hlt : va0 < 8388608 := by omega
      have hwalk : Ev (fun k => impl_translate.f k m root (va0 : Int) 0 true) (trV m va0 0 true 2 root) := impl_walk_ev hb hl hlt 0 true 2 (by decide) root
      rw [hpath va0 (Nat.le_refl _) (by omega), trV_out ho] at hwalk
      exact leaf_out (by decide) hend hwalk hR
    · obtain ⟨T, rfl⟩ : ∃ T : Nat, t = (T : Int) := ⟨t.toNat, by omega⟩
      rw [belowV_zero ho] at hR
      have h := leaf_table hb hl root hL (T := T) (by omega) hq hend (fun _ _ => (0, 0, 0, 0, 0)) (fun _ _ => []) (fun _ _ => Nat.zero_le _) hpath (fun h => absurd h (by decide)) 32 0 acc R rfl
      rw [start_eq] at h
      exact h hacc hR
  | succ L ih =>
    intro hL t va0 q acc R hq hend hpath h2 hacc hR
    have hS0 : 0 < 256 * 32 ^ (L + 1) := Nat.mul_pos (by decide) (Nat.pow_pos (by decide))
    have hlt : va0 < 8388608 := Nat.lt_of_lt_of_le (Nat.lt_add_of_pos_right (Nat.mul_pos (by decide) hS0)) hend
    by_cases ho : t < 0 ∨ t ≥ (m.length : Int) / 256
    · rw [belowV_out ho, List.append_nil] at hR
      have hwalk : Ev (fun k => impl_translate.f k m root (va0 : Int) 0 true) (trV m va0 0 true 2 root) := impl_walk_ev hb hl hlt 0 true 2 (by decide) root
      rw [hpath va0 (Nat.le_refl _) (Nat.lt_add_of_pos_right (Nat.mul_pos (by decide) hS0)), trV_out ho] at hwalk
      refine leaf_out (Nat.lt_of_le_of_ne hL (fun h => h2 h ho)) hend hwalk hR
    · obtain ⟨T, rfl⟩ : ∃ T : Nat, t = (T : Int) := ⟨t.toNat, by omega⟩
      rw [belowV_succ ho] at hR
      have hT : T < m.length / 256 := by omega
      have h := leaf_table hb hl root hL (T := T) hT hq hend (fun va F => trV m va 0 true L F) (belowV m L) (fun F va => belowV_len m L F va) hpath (fun _ F i acc R hi hp ha hr => by
        have e : 256 * 32 ^ (L + 1) = 32 * (256 * 32 ^ L) := by rw [Nat.pow_succ]; exact up_eq _
        rw [e] at hp ha hr hend ⊢
        rw [e] at hq
        refine ih (Nat.le_of_succ_le hL) F _ (32 * q + i) acc R (by rw [hq]; exact base_eq _ _ _) ?_ hp (fun h => absurd hL (by omega)) ha hr
        rw [Nat.add_assoc]
        exact Nat.le_trans (Nat.add_le_add_left (row_bound (i := i) (S := 32 * (256 * 32 ^ L)) hi) va0) hend) 32 0 acc R rfl
      rw [start_eq] at h
      exact h hacc hR
def leavesV (m : List Int) (root : Int) : List S52 := if ((m.length : Int) % 256) = 0 ∧ m.length ≤ 262144 then belowV m 2 root 0 else []
theorem impl_Leaves_ev {m : List Int} (hb : Bytes m) (root : Int) : Ev (fun k => impl_Leaves.f k m root) (leavesV m root) := by
  have hm : impl_memOk.f m = some (decide (((m.length : Int) % 256) = 0 ∧ m.length ≤ 262144)) := by
    unfold impl_memOk.f
    by_cases h : ((m.length : Int) % 256) = 0
    · rw [if_pos h]; congr 1; exact decide_eq_decide.2 ⟨fun h2 => ⟨h, by omega⟩, fun h2 => by omega⟩
    · rw [if_neg h]; congr 1; exact (decide_eq_false (fun h2 => h h2.1)).symm
  unfold impl_Leaves.f leavesV
  refine ev_bind0 hm ?_
  by_cases h : ((m.length : Int) % 256) = 0 ∧ m.length ≤ 262144
  · rw [if_pos h]
    refine ev_pos (decide_eq_true h) ?_
    by_cases ho : root < 0 ∨ root ≥ (m.length : Int) / 256
    · have hwalk : Ev (fun k => impl_translate.f k m root ((0 : Nat) : Int) 0 true) (trV m 0 0 true 2 root) := impl_walk_ev hb h.2 (by decide) 0 true 2 (by decide) root
      rw [trV_out ho] at hwalk
      rw [belowV_out ho]
      exact leaf_head (by decide) (by decide) hwalk (Ev.step (fun _ => impl_Leaves.j1.eq_2 ..) (ev_neg (by decide) (Ev.step (fun _ => impl_Leaves.j2.eq_2 ..) (ev_pos rfl (ev_pos rfl (ev_ret rfl))))))
    · refine leaf_main hb h.2 root 2 (by decide) root 0 0 [] _ (Nat.mul_zero _).symm (by decide) (fun _ _ _ => rfl) (fun _ => ho) (Nat.zero_le _) ?_
      rw [List.nil_append]
      exact Ev.step (fun _ => impl_Leaves.l0.eq_2 ..) (ev_neg (by decide) (ev_ret rfl))
  · rw [if_neg h]; exact ev_neg (by rw [decide_eq_false h]; decide) (ev_ret rfl)
theorem spec_Leaves_ev {m : List Int} (hb : Bytes m) (root : Int) : Ev (fun k => spec_Leaves.f k m root) (leavesV m root) := by
  have hm : spec_l6MemOk.f m = some (decide (((m.length : Int) % 256) = 0 ∧ m.length ≤ 262144)) := by
    unfold spec_l6MemOk.f
    by_cases h : ((m.length : Int) % 256) = 0
    · rw [if_pos h]; congr 1; exact decide_eq_decide.2 ⟨fun h2 => ⟨h, by omega⟩, fun h2 => by omega⟩
    · rw [if_neg h]; congr 1; exact (decide_eq_false (fun h2 => h h2.1)).symm
  unfold spec_Leaves.f leavesV
  refine ev_bind0 hm ?_
  by_cases h : ((m.length : Int) % 256) = 0 ∧ m.length ≤ 262144
  · rw [if_pos h]
    exact ev_pos (decide_eq_true h) (Ev.bind (spec_below_ev hb h.2 2 (by decide) root 0 (by decide)) (ev_ret rfl))
  · rw [if_neg h]; exact ev_neg (by rw [decide_eq_false h]; decide) (ev_ret rfl)
theorem leavesV_len (m : List Int) (root : Int) : (leavesV m root).length ≤ 32768 := by
  unfold leavesV
  split
  · exact belowV_len m 2 root 0
  · exact Nat.zero_le _
def lend (x : S52) : Int := x.f0 + ((256 * 32 ^ x.f1.toNat : Nat) : Int)
def inLeaf (x : S52) (va : Nat) : Prop := x.f0 ≤ (va : Int) ∧ (va : Int) < lend x
theorem lend_mk (v L : Nat) (w : Int) : lend (⟨(v : Int), (L : Int), w⟩ : S52) = ((v + 256 * 32 ^ L : Nat) : Int) := by
  unfold lend; simp only [Int.toNat_natCast]; rw [Int.natCast_add]
def badF (f : Int) : Prop := f = 3 ∨ f = 4 ∨ f = 5 ∨ f = 6
def LfAt (m : List Int) (root : Int) (v L A w : Nat) (en : Int) : Prop :=
  L ≤ 2 ∧ v % (256 * 32 ^ L) = 0 ∧ v + 256 * 32 ^ L ≤ 8388608 ∧ w < 1048576 ∧ w.testBit 0 = true ∧ ∀ va, v ≤ va → va < v + 256 * 32 ^ L → trV m va 0 false 2 root = (if w.testBit 1 = true then ((0 : Int), (L : Int), (A : Int), ((w / 256 % 4096 * 256 + va % (256 * 32 ^ L) : Nat) : Int), en) else (8, (L : Int), (A : Int), 0, 0))
def Leafy (m : List Int) (root : Int) (a b : Nat) (x : S52) : Prop :=
  ∃ (v L A w : Nat) (en : Int), x = ⟨(v : Int), (L : Int), (w : Int)⟩ ∧ LfAt m root v L A w en ∧ a ≤ v ∧ v + 256 * 32 ^ L ≤ b
theorem Leafy.mono {m : List Int} {root : Int} {a b a' b' : Nat} {x : S52} (h : Leafy m root a b x) (h1 : a' ≤ a) (h2 : b ≤ b') : Leafy m root a' b' x := by
  obtain ⟨v, L, A, w, en, e, l, p, q⟩ := h
  exact ⟨v, L, A, w, en, e, l, Nat.le_trans h1 p, Nat.le_trans q h2⟩
theorem Leafy.start {m : List Int} {root : Int} {a b : Nat} {x : S52} (h : Leafy m root a b x) : (a : Int) ≤ x.f0 := by
  obtain ⟨v, L, A, w, en, rfl, l, p, q⟩ := h
  exact Int.ofNat_le.2 p
theorem Leafy.stop {m : List Int} {root : Int} {a b : Nat} {x : S52} (h : Leafy m root a b x) : lend x ≤ (b : Int) := by
  obtain ⟨v, L, A, w, en, rfl, l, p, q⟩ := h
  rw [lend_mk]; exact Int.ofNat_le.2 q
def Cover (m : List Int) (root : Int) (a b : Nat) (l : List S52) : Prop :=
  a ≤ b ∧ (∀ x ∈ l, Leafy m root a b x) ∧ l.Pairwise (fun x y => lend x ≤ y.f0) ∧ ∀ va, a ≤ va → va < b → (∀ x ∈ l, ¬ inLeaf x va) → badF (trV m va 0 false 2 root).1
theorem cover_app {m : List Int} {root : Int} {a b c : Nat} {l1 l2 : List S52} (h1 : Cover m root a b l1) (h2 : Cover m root b c l2) : Cover m root a c (l1 ++ l2) := by
  obtain ⟨ab, f1, p1, g1⟩ := h1
  obtain ⟨bc, f2, p2, g2⟩ := h2
  refine ⟨Nat.le_trans ab bc, ?_, ?_, ?_⟩
  · intro x hx
    rcases List.mem_append.1 hx with h | h
    · exact (f1 x h).mono (Nat.le_refl _) bc
    · exact (f2 x h).mono ab (Nat.le_refl _)
  · refine List.pairwise_append.2 ⟨p1, p2, fun x hx y hy => ?_⟩
    exact Int.le_trans (f1 x hx).stop (f2 y hy).start
  · intro va h1 h2 h3
    by_cases h : va < b
    · exact g1 va h1 h (fun x hx => h3 x (List.mem_append.2 (.inl hx)))
    · exact g2 va (Nat.le_of_not_lt h) h2 (fun x hx => h3 x (List.mem_append.2 (.inr hx)))
theorem cover_nil {m : List Int} {root : Int} {a b : Nat} (hab : a ≤ b) (h : ∀ va, a ≤ va → va < b → badF (trV m va 0 false 2 root).1) : Cover m root a b [] :=
  ⟨hab, fun _ h => absurd h List.not_mem_nil, List.Pairwise.nil, fun va h1 h2 _ => h va h1 h2⟩
theorem cover_leaf {m : List Int} {root : Int} {v L A w : Nat} {en : Int} (h : LfAt m root v L A w en) : Cover m root v (v + 256 * 32 ^ L) [(⟨(v : Int), (L : Int), (w : Int)⟩ : S52)] := by
  refine ⟨Nat.le_add_right _ _, ?_, List.pairwise_singleton _ _, ?_⟩
  · intro x hx
    obtain rfl := List.mem_singleton.1 hx
    exact ⟨v, L, A, w, en, rfl, h, Nat.le_refl _, Nat.le_refl _⟩
  · intro va h1 h2 h3
    refine absurd ?_ (h3 _ (List.mem_singleton.2 rfl))
    unfold inLeaf
    rw [lend_mk]
    exact ⟨Int.ofNat_le.2 h1, Int.ofNat_lt.2 h2⟩
def enV (x : Nat) : Int := (putV [true, x.testBit 1, x.testBit 2, x.testBit 3, x.testBit 4, true, x.testBit 6 || decide ((0 : Int) = 1), x.testBit 7] ((x / 256 % 4096 : Nat) : Int)).1
theorem goodV_rd {L A va x : Nat} : goodV L A va (x / 256 % 4096) 0 (x.testBit 1) (x.testBit 2) (x.testBit 3) (x.testBit 4) (x.testBit 6) (x.testBit 7) = (0, (L : Int), (A : Int), ((x / 256 % 4096 * 256 + va % (256 * 32 ^ L) : Nat) : Int), enV x) := by
  unfold goodV enV
  rfl
theorem stepV_rd {m : List Int} {va L T i : Nat} (hT : T < m.length / 256) (hi : va / (256 * 32 ^ L) % 32 = i) (nx : Int → R5) :
    (kindV (wordAt m (T * 256 + i * 8) 8) L = 0 → stepV m va 0 false L (T : Int) nx = nx ((wordAt m (T * 256 + i * 8) 8 / 256 % 4096 : Nat) : Int)) ∧
    (kindV (wordAt m (T * 256 + i * 8) 8) L = 1 → stepV m va 0 false L (T : Int) nx = (if (wordAt m (T * 256 + i * 8) 8).testBit 1 = true then ((0 : Int), (L : Int), ((T * 256 + i * 8 : Nat) : Int), ((wordAt m (T * 256 + i * 8) 8 / 256 % 4096 * 256 + va % (256 * 32 ^ L) : Nat) : Int), enV (wordAt m (T * 256 + i * 8) 8)) else (8, (L : Int), ((T * 256 + i * 8 : Nat) : Int), 0, 0))) ∧
    (kindV (wordAt m (T * 256 + i * 8) 8) L ≠ 0 → kindV (wordAt m (T * 256 + i * 8) 8) L ≠ 1 → ∃ f : Int, stepV m va 0 false L (T : Int) nx = (f, (L : Int), ((T * 256 + i * 8 : Nat) : Int), 0, 0) ∧ (f = 4 ∨ f = 5 ∨ f = 6)) := by
  have hr : ¬ ((T : Int) < 0 ∨ (T : Int) ≥ (m.length : Int) / 256) := by omega
  unfold stepV kindV
  rw [if_neg hr, Int.toNat_natCast, hi]
  simp only
  generalize wordAt m (T * 256 + i * 8) 8 = x
  by_cases k0 : x.testBit 0 = false
  · rw [if_pos k0, if_pos k0]; exact ⟨fun h => absurd h (by decide), fun h => absurd h (by decide), fun _ _ => ⟨4, rfl, .inl rfl⟩⟩
  rw [if_neg k0, if_neg k0]
  by_cases k1 : x ≥ 1048576 ∨ (x.testBit 2 = true ∧ x.testBit 1 = false)
  · rw [if_pos k1, if_pos k1]; exact ⟨fun h => absurd h (by decide), fun h => absurd h (by decide), fun _ _ => ⟨5, rfl, .inr (.inl rfl)⟩⟩
  rw [if_neg k1, if_neg k1]
  by_cases k2 : x.testBit 1 = false ∧ x.testBit 2 = false ∧ x.testBit 3 = false
  · rw [if_pos k2, if_pos k2]
    by_cases k3 : x.testBit 4 = true ∨ x.testBit 5 = true ∨ x.testBit 6 = true ∨ L = 0
    · rw [if_pos k3, if_pos k3]; exact ⟨fun h => absurd h (by decide), fun h => absurd h (by decide), fun _ _ => ⟨5, rfl, .inr (.inl rfl)⟩⟩
    · rw [if_neg k3, if_neg k3]; exact ⟨fun _ => rfl, fun h => absurd h (by decide), fun h => absurd rfl h⟩
  rw [if_neg k2, if_neg k2]
  by_cases k4 : x / 256 % 4096 % 32 ^ L = 0
  · rw [if_pos k4, if_neg (not_not_intro k4)]
    refine ⟨fun h => absurd h (by decide), fun _ => ?_, fun _ h => absurd rfl h⟩
    have h7 : ¬ (false = true ∧ x.testBit 4 = false) := fun h => absurd h.1 (by decide)
    rw [if_neg h7]
    by_cases hb1 : x.testBit 1 = true
    · have h8 : ¬ ¬ accV 0 (x.testBit 1) (x.testBit 2) (x.testBit 3) := not_not_intro (Or.inl ⟨rfl, hb1⟩)
      rw [if_neg h8, if_pos hb1]
      exact goodV_rd
    · have h8 : ¬ accV 0 (x.testBit 1) (x.testBit 2) (x.testBit 3) := by
        intro h
        rcases h with h | h | h
        · exact hb1 h.2
        · exact absurd h.1 (by decide)
        · exact absurd h.1 (by decide)
      rw [if_pos h8, if_neg hb1]
  · rw [if_neg k4, if_pos k4]; exact ⟨fun h => absurd h (by decide), fun h => absurd h (by decide), fun _ _ => ⟨6, rfl, .inr (.inr rfl)⟩⟩
theorem kind_one {x L : Nat} (h : kindV x L = 1) : x < 1048576 ∧ x.testBit 0 = true := by
  unfold kindV at h
  split at h
  · exact absurd h (by decide)
  · rename_i h0
    split at h
    · exact absurd h (by decide)
    · rename_i h1
      exact ⟨Nat.lt_of_not_le (fun g => h1 (.inl g)), by simpa using h0⟩
theorem row_mod (s q i : Nat) : (s * (32 * q) + i * s) % s = 0 := by
  have e : s * (32 * q) + i * s = s * (32 * q + i) := by rw [Nat.mul_add, Nat.mul_comm i s]
  rw [e]; exact Nat.mul_mod_right _ _
theorem cover_rows {m : List Int} {root : Int} {L T : Nat} (hL : L ≤ 2) (hT : T < m.length / 256) {va0 q : Nat} (hq : va0 = (256 * 32 ^ L) * (32 * q)) (hend : va0 + 32 * (256 * 32 ^ L) ≤ 8388608)
    (nt : Nat → Int → R5) (bl : Int → Nat → List S52)
    (hpath : ∀ va, va0 ≤ va → va < va0 + 32 * (256 * 32 ^ L) → trV m va 0 false 2 root = stepV m va 0 false L (T : Int) (nt va))
    (hrec : 0 < L → ∀ (F : Int) (i : Nat), i < 32 → (∀ va, va0 + i * (256 * 32 ^ L) ≤ va → va < va0 + i * (256 * 32 ^ L) + 256 * 32 ^ L → trV m va 0 false 2 root = nt va F) → Cover m root (va0 + i * (256 * 32 ^ L)) (va0 + i * (256 * 32 ^ L) + 256 * 32 ^ L) (bl F (va0 + i * (256 * 32 ^ L)))) :
    ∀ (d i : Nat), i + d = 32 → Cover m root (va0 + i * (256 * 32 ^ L)) (va0 + 32 * (256 * 32 ^ L)) (rowsV (entL m L T va0 bl) d i) := by
  obtain ⟨hp0, hp1⟩ := pow_le3 hL
  have hS0 : 0 < 256 * 32 ^ L := Nat.mul_pos (by decide) hp0
  intro d
  induction d with
  | zero =>
    intro i h
    obtain rfl : i = 32 := h
    exact cover_nil (Nat.le_refl _) (fun va h1 h2 => absurd h1 (Nat.not_le_of_lt h2))
  | succ d ih =>
    intro i h
    have hi : i < 32 := by omega
    have hn := ih (i + 1) (by omega)
    rw [row_step] at hn
    refine cover_app ?_ hn
    have hle : va0 + i * (256 * 32 ^ L) + 256 * 32 ^ L ≤ va0 + 32 * (256 * 32 ^ L) := by
      rw [Nat.add_assoc]; exact Nat.add_le_add_left (row_bound (i := i) (S := 256 * 32 ^ L) hi) va0
    have hdiv : ∀ va, va0 + i * (256 * 32 ^ L) ≤ va → va < va0 + i * (256 * 32 ^ L) + 256 * 32 ^ L → va / (256 * 32 ^ L) % 32 = i := by
      intro va h1 h2
      obtain ⟨r, rfl⟩ := Nat.exists_eq_add_of_le h1
      rw [hq]
      exact div_row hS0 hi (Nat.lt_of_add_lt_add_left h2)
    have hp2 : ∀ va, va0 + i * (256 * 32 ^ L) ≤ va → va < va0 + i * (256 * 32 ^ L) + 256 * 32 ^ L → trV m va 0 false 2 root = stepV m va 0 false L (T : Int) (nt va) := fun va h1 h2 =>
      hpath va (Nat.le_trans (Nat.le_add_right _ _) h1) (Nat.lt_of_lt_of_le h2 hle)
    unfold entL
    by_cases k0 : kindV (wordAt m (T * 256 + i * 8) 8) L = 0
    · rw [if_pos k0]
      have hL0 : 0 < L := Nat.pos_of_ne_zero (fun h0 => by subst h0; exact kindV_zero k0)
      refine hrec hL0 _ i hi (fun va h1 h2 => ?_)
      rw [hp2 va h1 h2]
      exact (stepV_rd (m := m) hT (hdiv va h1 h2) _).1 k0
    · rw [if_neg k0]
      by_cases k1 : kindV (wordAt m (T * 256 + i * 8) 8) L = 1
      · rw [if_pos k1]
        obtain ⟨w1, w2⟩ := kind_one k1
        refine cover_leaf (A := T * 256 + i * 8) (en := enV (wordAt m (T * 256 + i * 8) 8)) ⟨hL, by rw [hq]; exact row_mod _ _ _, Nat.le_trans hle hend, w1, w2, fun va h1 h2 => ?_⟩
        rw [hp2 va h1 h2]
        exact (stepV_rd (m := m) hT (hdiv va h1 h2) _).2.1 k1
      · rw [if_neg k1]
        refine cover_nil (Nat.le_add_right _ _) (fun va h1 h2 => ?_)
        rw [hp2 va h1 h2]
        obtain ⟨f, er, hf⟩ := (stepV_rd (m := m) hT (hdiv va h1 h2) (nt va)).2.2 k0 k1
        rw [er]
        exact .inr hf
theorem trV_out0 {m : List Int} {va : Nat} {L : Nat} {t : Int} (h : t < 0 ∨ t ≥ (m.length : Int) / 256) : trV m va 0 false L t = (3, (L : Int), 0, 0, 0) := by
  cases L with
  | zero => unfold trV stepV; rw [if_pos h]
  | succ L => unfold trV stepV; rw [if_pos h]
theorem cover_below {m : List Int} {root : Int} : ∀ (L : Nat), L ≤ 2 → ∀ (t : Int) (va0 q : Nat), va0 = (256 * 32 ^ L) * (32 * q) → va0 + 32 * (256 * 32 ^ L) ≤ 8388608 →
    (∀ va, va0 ≤ va → va < va0 + 32 * (256 * 32 ^ L) → trV m va 0 false 2 root = trV m va 0 false L t) → Cover m root va0 (va0 + 32 * (256 * 32 ^ L)) (belowV m L t va0) := by
  intro L
  induction L with
  | zero =>
    intro hL t va0 q hq hend hpath
    by_cases ho : t < 0 ∨ t ≥ (m.length : Int) / 256
    · rw [belowV_out ho]
      refine cover_nil (Nat.le_add_right _ _) (fun va h1 h2 => ?_)
      rw [hpath va h1 h2, trV_out0 ho]; exact .inl rfl
    · obtain ⟨T, rfl⟩ : ∃ T : Nat, t = (T : Int) := ⟨t.toNat, by omega⟩
      rw [belowV_zero ho]
      have h := cover_rows (root := root) hL (T := T) (m := m) (by omega) hq hend (fun _ _ => (0, 0, 0, 0, 0)) (fun _ _ => []) hpath (fun h => absurd h (by decide)) 32 0 rfl
      rw [start_eq] at h
      exact h
  | succ L ih =>
    intro hL t va0 q hq hend hpath
    by_cases ho : t < 0 ∨ t ≥ (m.length : Int) / 256
    · rw [belowV_out ho]
      refine cover_nil (Nat.le_add_right _ _) (fun va h1 h2 => ?_)
      rw [hpath va h1 h2, trV_out0 ho]; exact .inl rfl
    · obtain ⟨T, rfl⟩ : ∃ T : Nat, t = (T : Int) := ⟨t.toNat, by omega⟩
      rw [belowV_succ ho]
      have hT : T < m.length / 256 := by omega
      have h := cover_rows (root := root) hL (T := T) hT hq hend (fun va F => trV m va 0 false L F) (belowV m L) hpath (fun _ F i hi hp => by
        have e : 256 * 32 ^ (L + 1) = 32 * (256 * 32 ^ L) := by rw [Nat.pow_succ]; exact up_eq _
        rw [e] at hp hend ⊢
        rw [e] at hq
        refine ih (Nat.le_of_succ_le hL) F _ (32 * q + i) (by rw [hq]; exact base_eq _ _ _) ?_ hp
        rw [Nat.add_assoc]
        exact Nat.le_trans (Nat.add_le_add_left (row_bound (i := i) (S := 32 * (256 * 32 ^ L)) hi) va0) hend) 32 0 rfl
      rw [start_eq] at h
      exact h
theorem cover_all (m : List Int) (root : Int) : Cover m root 0 8388608 (belowV m 2 root 0) := by
  have h := cover_below (m := m) (root := root) 2 (by decide) root 0 0 (Nat.mul_zero _).symm (by decide) (fun _ _ _ => rfl)
  exact h
def memOkF (l : List Int) : Bool := if ((l.length : Int) % 256) = 0 then decide ((l.length : Int) ≤ 262144) else false
theorem impl_memOkF (l : List Int) : impl_memOk.f l = some (memOkF l) := by unfold impl_memOk.f memOkF; split <;> rfl
def translateF (m : List Int) (root : Int) (va : Nat) (ac : Int) (us : Bool) : R5 :=
  if memOkF m = false ∨ ac < 0 ∨ ac > 2 then (1, 0, 0, 0, 0) else if va ≥ 8388608 then (2, 0, 0, 0, 0) else trV m va ac us 2 root
theorem memOkF_len {l : List Int} (h : memOkF l = true) : l.length ≤ 262144 := by
  unfold memOkF at h
  split at h
  · have := of_decide_eq_true h; omega
  · cases h
theorem impl_TranslateF_ev {m : List Int} (hb : Bytes m) (root : Int) (va : Nat) (ac : Int) (us : Bool) : Ev (fun k => impl_Translate.f k m root (va : Int) ac us) (translateF m root va ac us) := by
  have bad : ∀ b : Bool, b = true → Ev (fun k => impl_Translate.j0 k m root (va : Int) ac us b) ((1, 0, 0, 0, 0) : R5) := by
    intro b h; subst h
    exact Ev.step (fun _ => impl_Translate.j0.eq_2 ..) (ev_pos rfl (ev_ret rfl))
  unfold impl_Translate.f translateF
  refine ev_bind0 (impl_memOkF m) ?_
  cases hm : memOkF m
  · rw [if_pos (Or.inl rfl)]; exact ev_neg (by decide) (bad true rfl)
  refine ev_pos rfl ?_
  by_cases h0 : ac < 0
  · rw [if_pos (Or.inr (Or.inl h0))]; exact ev_pos h0 (bad true rfl)
  refine ev_neg h0 ?_
  by_cases h1 : ac > 2
  · rw [if_pos (Or.inr (Or.inr h1))]; exact bad _ (decide_eq_true h1)
  rw [if_neg (by simp; omega), decide_eq_false h1]
  refine Ev.step (fun _ => impl_Translate.j0.eq_2 ..) (ev_neg (by decide) ?_)
  by_cases h2 : va ≥ 8388608
  · rw [if_pos h2]; exact ev_pos (by omega) (ev_ret rfl)
  · rw [if_neg h2]
    have hw : Ev (fun k => impl_translate.f k m root (va : Int) ac us) (trV m va ac us 2 root) := impl_walk_ev hb (memOkF_len hm) (by omega) ac us 2 (by decide) root
    exact ev_neg (by omega) (Ev.bind hw (ev_ret rfl))
theorem ev_ret0 {α : Type} {x : Option α} {a : α} (h : x = some a) : Ev (fun _ => x) a := by rw [h]; exact Ev.now a
theorem tr_ev {m : List Int} {root : Int} (hb : Bytes m) (hm : memOkF m = true) {va : Nat} (hv : va < 8388608) : Ev (fun k => impl_Translate.f k m root (IntKind.u64.wrap (va : Int)) 0 false) (trV m va 0 false 2 root) := by
  have h := impl_TranslateF_ev hb root va 0 false
  unfold translateF at h
  rw [if_neg (by simp [hm]), if_neg (Nat.not_le_of_lt hv)] at h
  rw [u64w_id (by omega) (by omega)]
  exact h
theorem found_j5 {m : List Int} {root : Int} {l : List S52} {i e nx : Nat} (hb : Bytes m) (hm : memOkF m = true) (hi : i < 32768) (he : e ≤ nx) (hnx : nx ≤ 8388608) (hbad : e < nx → badF (trV m e 0 false 2 root).1) (h : Ev (fun k => laws_FnLeavesFound.l0 k m root l ((i + 1 : Nat) : Int)) true) :
    Ev (fun k => laws_FnLeavesFound.j5 k m root l (i : Int) (e : Int) (nx : Int)) true := by
  have e1 : wrap64 ((i : Int) + 1) = ((i + 1 : Nat) : Int) := by rw [w64_id (by omega) (by omega)]; omega
  refine Ev.step (fun _ => laws_FnLeavesFound.j5.eq_2 ..) (ev_neg (by omega) ?_)
  rw [e1]
  by_cases hlt : e < nx
  · have hbd := hbad hlt
    refine ev_pos (by omega) (Ev.bind (tr_ev hb hm (by omega)) ?_)
    generalize trV m e 0 false 2 root = r at hbd
    unfold badF at hbd
    exact ev_neg (by omega) (ev_neg (by omega) (ev_neg (by omega) h))
  · exact ev_neg (by omega) h
theorem rd_leaf {l : List S52} {i : Nat} (hi : i < l.length) : rd_T52 l (i : Int) = l[i] := getD_nat _ hi
theorem found_j4 {m : List Int} {root : Int} {l : List S52} (hb : Bytes m) (hm : memOkF m = true) (hc : Cover m root 0 8388608 l) {i : Nat} (hi : i < l.length) (hlen : l.length ≤ 32768) {v L : Nat} (h0 : l[i].f0 = (v : Int)) (h1 : l[i].f1 = (L : Int)) (h2 : v + 256 * 32 ^ L ≤ 8388608)
    (h : Ev (fun k => laws_FnLeavesFound.l0 k m root l ((i + 1 : Nat) : Int)) true) : Ev (fun k => laws_FnLeavesFound.j4 k m root l (i : Int) ((256 * 32 ^ L : Nat) : Int) false) true := by
  obtain ⟨_, f1, p1, g1⟩ := hc
  have e1 : wrap64 ((i : Int) + 1) = ((i + 1 : Nat) : Int) := by rw [w64_id (by omega) (by omega)]; omega
  have hend : lend l[i] = ((v + 256 * 32 ^ L : Nat) : Int) := by unfold lend; rw [h0, h1, Int.toNat_natCast, Int.natCast_add]
  have hw : wrap64 ((rd_T52 l (i : Int)).f0 + ((256 * 32 ^ L : Nat) : Int)) = ((v + 256 * 32 ^ L : Nat) : Int) := by
    rw [rd_leaf hi, h0]
    generalize 256 * 32 ^ L = S at h2 ⊢
    rw [w64_id (by omega) (by omega)]; omega
  have hpw := List.pairwise_iff_getElem.1 p1
  have before : ∀ j (hj : j < l.length), j ≤ i → lend l[j] ≤ ((v + 256 * 32 ^ L : Nat) : Int) := by
    intro j hj hji
    by_cases hjj : j = i
    · subst hjj; rw [hend]; exact Int.le_refl _
    · have := hpw j i hj hi (by omega)
      rw [h0] at this
      refine Int.le_trans this (Int.ofNat_le.2 (Nat.le_add_right _ _))
  refine Ev.step (fun _ => laws_FnLeavesFound.j4.eq_2 ..) (ev_neg (by decide) (ev_pos (by omega) (ev_pos (by omega) ?_)))
  rw [e1, hw]
  by_cases hn : i + 1 < l.length
  · refine ev_pos (by omega) (ev_pos (by omega) ?_)
    rw [rd_leaf hn]
    have hx := f1 l[i + 1] (List.getElem_mem hn)
    have h3 := hpw i (i + 1) hi hn (by omega)
    obtain ⟨v2, L2, A2, w2, en2, hx2, hl2, _, hle2⟩ := hx
    have h4 : l[i + 1].f0 = (v2 : Int) := by rw [hx2]
    have h5 : lend l[i + 1] = ((v2 + 256 * 32 ^ L2 : Nat) : Int) := by rw [hx2]; exact lend_mk _ _ _
    rw [hend, h4] at h3
    rw [h4]
    refine found_j5 hb hm (by omega) (Int.ofNat_le.1 h3) (Nat.le_trans (Nat.le_add_right _ _) hle2) (fun hlt => g1 _ (Nat.zero_le _) (Nat.lt_of_lt_of_le hlt (Nat.le_trans (Nat.le_add_right _ _) hle2)) (fun x hx hin => ?_)) h
    obtain ⟨j, hj, rfl⟩ := List.getElem_of_mem hx
    obtain ⟨ha, hb2⟩ := hin
    by_cases hji : j ≤ i
    · exact absurd hb2 (Int.not_lt.2 (before j hj hji))
    · by_cases hjj : j = i + 1
      · subst hjj; rw [h4] at ha; exact absurd (Int.ofNat_le.1 ha) (Nat.not_le_of_lt hlt)
      · have h6 := hpw (i + 1) j hn hj (by omega)
        rw [h5] at h6
        have h7 := Int.ofNat_le.1 (Int.le_trans h6 ha)
        exact absurd (Nat.le_trans (Nat.le_add_right _ _) h7) (Nat.not_le_of_lt hlt)
  · refine ev_neg (by omega) ?_
    refine found_j5 (nx := 8388608) hb hm (by omega) h2 (Nat.le_refl _) (fun hlt => g1 _ (Nat.zero_le _) hlt (fun x hx hin => ?_)) h
    obtain ⟨j, hj, rfl⟩ := List.getElem_of_mem hx
    exact absurd hin.2 (Int.not_lt.2 (before j hj (by omega)))
theorem found_l1 {m : List Int} {root : Int} {l : List S52} {i : Nat} (hi : i < l.length) {L : Nat} (hL : L ≤ 2) (h1 : l[i].f1 = (L : Int)) (h : Ev (fun k => laws_FnLeavesFound.l1 k m root l (i : Int) ((256 * 32 ^ L : Nat) : Int) (L : Int)) true) :
    ∀ d j : Nat, j + d = L → Ev (fun k => laws_FnLeavesFound.l1 k m root l (i : Int) ((256 * 32 ^ j : Nat) : Int) (j : Int)) true := by
  intro d
  induction d with
  | zero => intro j hj; obtain rfl : j = L := hj; exact h
  | succ d ih =>
    intro j hj
    have hn := ih (j + 1) (by omega)
    obtain ⟨hp0, hp1⟩ := pow_le3 (show j ≤ 2 by omega)
    have e : wrap64 (((256 * 32 ^ j : Nat) : Int) * 32) = ((256 * 32 ^ (j + 1) : Nat) : Int) := by
      rw [Nat.pow_succ]
      generalize 32 ^ j = P at hp1 ⊢
      rw [w64_id (by omega) (by omega)]; omega
    have e1 : wrap64 ((j : Int) + 1) = ((j + 1 : Nat) : Int) := by rw [w64_id (by omega) (by omega)]; omega
    refine Ev.step (fun _ => laws_FnLeavesFound.l1.eq_2 ..) (ev_pos (by omega) (ev_pos (by omega) (ev_pos (by rw [rd_leaf hi, h1]; omega) ?_)))
    rw [e, e1]
    exact hn
theorem lt_a {v S : Nat} (h : v + S ≤ 8388608) (h0 : 0 < S) : v < 8388608 := by omega
theorem lt_b {v S : Nat} (h : v + S ≤ 8388608) (h0 : 0 < S) : v + (S - 1) < 8388608 := by omega
theorem lt_c {v S : Nat} (h0 : 0 < S) : v + (S - 1) < v + S := by omega
theorem found_l0 {m : List Int} {root : Int} {l : List S52} (hb : Bytes m) (hm : memOkF m = true) (hc : Cover m root 0 8388608 l) (hlen : l.length ≤ 32768) : ∀ d i : Nat, i + d = l.length → Ev (fun k => laws_FnLeavesFound.l0 k m root l (i : Int)) true := by
  intro d
  induction d with
  | zero => intro i h; exact Ev.step (fun _ => laws_FnLeavesFound.l0.eq_2 ..) (ev_neg (by omega) (ev_ret rfl))
  | succ d ih =>
    intro i h
    have hi : i < l.length := by omega
    have hn := ih (i + 1) (by omega)
    obtain ⟨v, L, A, w, en, hx, ⟨hL, hmod, h2, hw, hw0, htr⟩, _, _⟩ := hc.2.1 l[i] (List.getElem_mem hi)
    have h0 : l[i].f0 = (v : Int) := by rw [hx]
    have h1 : l[i].f1 = (L : Int) := by rw [hx]
    have h3 : l[i].f2 = (w : Int) := by rw [hx]
    have H4 := found_j4 hb hm hc hi hlen h0 h1 h2 hn
    refine Ev.step (fun _ => laws_FnLeavesFound.l0.eq_2 ..) (ev_pos (by omega) ?_)
    refine found_l1 hi hL h1 ?_ L 0 (Nat.zero_add _)
    have hS0 : 0 < 256 * 32 ^ L := Nat.mul_pos (by decide) (Nat.pow_pos (by decide))
    have hS1 : 256 * 32 ^ L ≤ 262144 := Nat.mul_le_mul_left 256 (pow_le3 hL).2
    generalize 256 * 32 ^ L = S at hmod h2 htr H4 hS0 hS1 ⊢
    refine Ev.step (fun _ => laws_FnLeavesFound.l1.eq_2 ..) (ev_pos (by omega) (ev_pos (by omega) (ev_neg (by rw [rd_leaf hi, h1]; omega) ?_)))
    rw [rd_leaf hi, h0, h1, h3]
    have hlast : wrap64 (wrap64 ((v : Int) + (S : Int)) - 1) = ((v + (S - 1) : Nat) : Int) := by
      rw [w64_id (x := (v : Int) + (S : Int)) (by omega) (by omega), w64_id (by omega) (by omega)]; omega
    have hg : Ev (fun _ => impl_GetEntry.f (w : Int)) (getV w) := ev_ret0 (impl_GetEntry_eq (by omega))
    have ht1 := tr_ev (root := root) hb hm (lt_a h2 hS0)
    have ht2 := tr_ev (root := root) hb hm (lt_b h2 hS0)
    rw [htr v (Nat.le_refl _) (Nat.lt_add_of_pos_right hS0)] at ht1
    rw [htr (v + (S - 1)) (Nat.le_add_right _ _) (lt_c hS0)] at ht2
    have hq1 : v % (S) = 0 := hmod
    have hq2 : (v + (S - 1)) % (S) = S - 1 := by
      rw [Nat.add_mod, hmod, Nat.zero_add, Nat.mod_mod]; exact Nat.mod_eq_of_lt (by omega)
    rw [hq1] at ht1
    rw [hq2] at ht2
    unfold getV at hg
    rw [if_neg (by omega)] at hg
    rw [hlast]
    refine Ev.bind hg (Ev.bind ht1 (Ev.bind ht2 ?_))
    cases hb1 : w.testBit 1
    · rw [if_neg (by decide), if_neg (by decide)]
      refine ev_pos rfl (ev_pos hw0 (ev_pos rfl (ev_pos rfl (ev_pos rfl ?_))))
      refine Ev.step (fun _ => laws_FnLeavesFound.j2.eq_2 ..) (ev_neg (by simp) (ev_neg (by simp) ?_))
      refine Ev.step (fun _ => laws_FnLeavesFound.j3.eq_2 ..) (ev_neg (by simp) (ev_neg (by simp) ?_))
      exact H4
    · rw [if_pos rfl, if_pos rfl]
      have hF : w / 256 % 4096 < 4096 := Nat.mod_lt _ (by decide)
      have eF : wrap64 (((w / 256 % 4096 : Nat) : Int) * 256) = ((w / 256 % 4096 * 256 + 0 : Nat) : Int) := by rw [w64_id (by omega) (by omega)]; omega
      have eL : (((w / 256 % 4096 * 256 + (S - 1) : Nat) : Int) != wrap64 (wrap64 (((w / 256 % 4096 * 256 + 0 : Nat) : Int) + (S : Int)) - 1)) = false := by
        generalize w / 256 % 4096 = F at hF ⊢
        rw [w64_id (x := ((F * 256 + 0 : Nat) : Int) + (S : Int)) (by omega) (by omega), w64_id (by omega) (by omega)]
        simp only [bne_eq_false_iff_eq]; omega
      refine ev_pos rfl (ev_pos hw0 (ev_pos rfl (ev_pos rfl (ev_pos rfl ?_))))
      refine Ev.step (fun _ => laws_FnLeavesFound.j2.eq_2 ..) (ev_neg (by simp) (ev_pos rfl (ev_pos rfl (ev_pos eF.symm ?_))))
      rw [eL]
      refine Ev.step (fun _ => laws_FnLeavesFound.j3.eq_2 ..) (ev_neg (by simp) (ev_pos rfl ?_))
      exact H4
def EvP {α : Type} (g : Nat → Option α) (P : α → Prop) : Prop := ∃ r, Ev g r ∧ P r
theorem EvP.step {α : Type} {g h : Nat → Option α} {P : α → Prop} (e : ∀ k, g (k + 1) = h k) (p : EvP h P) : EvP g P := by
  obtain ⟨r, hr, hp⟩ := p
  exact ⟨r, Ev.step e hr, hp⟩
theorem evp_pos {α : Type} {c : Prop} [Decidable c] {A B : Nat → Option α} {P : α → Prop} (h : c) (k : EvP A P) : EvP (fun n => if c then A n else B n) P := by
  obtain ⟨r, hr, hp⟩ := k
  exact ⟨r, ev_pos h hr, hp⟩
theorem evp_neg {α : Type} {c : Prop} [Decidable c] {A B : Nat → Option α} {P : α → Prop} (h : ¬ c) (k : EvP B P) : EvP (fun n => if c then A n else B n) P := by
  obtain ⟨r, hr, hp⟩ := k
  exact ⟨r, ev_neg h hr, hp⟩
theorem evp_if {α : Type} {c : Prop} [Decidable c] {A B : Nat → Option α} {P : α → Prop} (k : c → EvP A P) (l : ¬ c → EvP B P) : EvP (fun n => if c then A n else B n) P := by
  by_cases h : c
  · exact evp_pos h (k h)
  · exact evp_neg h (l h)
theorem evp_bind {α β : Type} {x : Nat → Option α} {a : α} {f : Nat → α → Option β} {P : β → Prop} (h : Ev x a) (k : EvP (fun n => f n a) P) : EvP (fun n => (x n).bind (f n)) P := by
  obtain ⟨r, hr, hp⟩ := k
  exact ⟨r, Ev.bind h hr, hp⟩
theorem evp_bind0 {α β : Type} {x : Option α} {a : α} {f : Nat → α → Option β} {P : β → Prop} (h : x = some a) (k : EvP (fun n => f n a) P) : EvP (fun n => x.bind (f n)) P := by
  obtain ⟨r, hr, hp⟩ := k
  exact ⟨r, ev_bind0 h hr, hp⟩
theorem evp_ret {α : Type} {x : α} {P : α → Prop} (h : P x) : EvP (fun _ => some x) P := ⟨x, ev_ret rfl, h⟩
theorem and255 (x : Int) : 0 ≤ Go.bits .and .i64 x 255 ∧ Go.bits .and .i64 x 255 ≤ 255 := by
  have e : Go.bits .and .i64 x 255 = IntKind.i64.wrap ((BitVec.ofInt 64 x &&& BitVec.ofInt 64 255).toNat : Int) := rfl
  have h : (BitVec.ofInt 64 x &&& BitVec.ofInt 64 255).toNat ≤ 255 := by
    rw [BitVec.toNat_and]
    exact Nat.le_trans Nat.and_le_right (by decide)
  rw [e]
  generalize (BitVec.ofInt 64 x &&& BitVec.ofInt 64 255).toNat = n at h
  have w : IntKind.i64.wrap (n : Int) = (n : Int) := by rw [i64_w]; exact w64_id (by omega) (by omega)
  rw [w]
  omega
theorem byte_ok {s : List Int} (hl : s.length ≤ 1048576) {i h : Int} (h0 : 0 ≤ i) : ∃ b i' h', spec_l1Byte.f s i h = some (b, i', h') ∧ 0 ≤ b ∧ b ≤ 255 ∧ 0 ≤ i' := by
  unfold spec_l1Byte.f
  by_cases hi : i < (s.length : Int)
  · rw [if_pos hi, if_pos h0]
    exact ⟨_, _, _, rfl, (and255 _).1, (and255 _).2, by rw [w64_id (by omega) (by omega)]; omega⟩
  · rw [if_neg hi]
    exact ⟨_, _, _, rfl, (and255 _).1, (and255 _).2, h0⟩
theorem below_ok {s : List Int} (hl : s.length ≤ 1048576) {i h : Int} (h0 : 0 ≤ i) {n : Int} (hn : 0 < n) : ∃ x i' h', spec_l1Below.f s i h n = some (x, i', h') ∧ 0 ≤ x ∧ x < n ∧ 0 ≤ i' := by
  unfold spec_l1Below.f
  rw [if_neg (by omega)]
  obtain ⟨b, i1, h1, e1, b0, b1, p1⟩ := byte_ok hl (h := h) h0
  by_cases h2 : n ≤ 256
  · rw [if_pos h2, e1, Option.bind_some, if_neg (by omega)]
    refine ⟨_, _, _, rfl, ?_, ?_, p1⟩
    · simp only [Int.tmod_eq_emod_of_nonneg b0]; exact Int.emod_nonneg _ (by omega)
    · simp only [Int.tmod_eq_emod_of_nonneg b0]; exact Int.emod_lt_of_pos _ hn
  · obtain ⟨c, i2, h2', e2, c0, c1, p2⟩ := byte_ok hl (h := h1) p1
    obtain ⟨d, i3, h3, e3, d0, d1, p3⟩ := byte_ok hl (h := h2') p2
    rw [if_neg h2, e1, Option.bind_some, e2, Option.bind_some, e3, Option.bind_some, if_neg (by omega)]
    have w : wrap64 (wrap64 (wrap64 (b * 65536) + wrap64 (c * 256)) + d) = b * 65536 + c * 256 + d := by
      rw [w64_id (x := b * 65536) (by omega) (by omega), w64_id (x := c * 256) (by omega) (by omega), w64_id (x := b * 65536 + c * 256) (by omega) (by omega), w64_id (by omega) (by omega)]
    refine ⟨_, _, _, rfl, ?_, ?_, p3⟩
    · simp only [w, Int.tmod_eq_emod_of_nonneg (show 0 ≤ b * 65536 + c * 256 + d by omega)]; exact Int.emod_nonneg _ (by omega)
    · simp only [w, Int.tmod_eq_emod_of_nonneg (show 0 ≤ b * 65536 + c * 256 + d by omega)]; exact Int.emod_lt_of_pos _ hn
theorem once_ok {s : List Int} (hl : s.length ≤ 1048576) {i h : Int} (h0 : 0 ≤ i) {n : Int} (hn : 0 < n) : ∃ b i' h', spec_l1Once.f s i h n = some (b, i', h') ∧ 0 ≤ i' := by
  obtain ⟨x, i1, h1, e1, _, _, p1⟩ := below_ok hl (h := h) h0 hn
  unfold spec_l1Once.f
  rw [e1, Option.bind_some]
  exact ⟨_, _, _, rfl, p1⟩
theorem entry_ok {s : List Int} (hl : s.length ≤ 1048576) {i h : Int} (h0 : 0 ≤ i) : ∃ b0 b1 b2 b3 b4 b5 b6 b7 F i' h', spec_l6DrawEntry.f s i h = some (b0, b1, b2, b3, b4, b5, b6, b7, F, i', h') ∧ 0 ≤ i' := by
  unfold spec_l6DrawEntry.f
  obtain ⟨x1, i1, h1, e1, _, _, p1⟩ := below_ok hl (h := h) h0 (n := 256) (by decide)
  obtain ⟨x2, i2, h2, e2, _, _, p2⟩ := below_ok hl (h := h1) p1 (n := 16) (by decide)
  obtain ⟨b, i3, h3, e3, p3⟩ := once_ok hl (h := h2) p2 (n := 6) (by decide)
  obtain ⟨x4, i4, h4, e4, l4, u4, p4⟩ := below_ok hl (h := h3) p3 (n := 7) (by decide)
  rw [e1, Option.bind_some, e2, Option.bind_some, e3, Option.bind_some]
  cases b
  · rw [if_neg (by simp)]
    exact ⟨_, _, _, _, _, _, _, _, _, _, _, rfl, p3⟩
  · rw [if_pos rfl, Option.bind_some, e4, Option.bind_some, if_pos l4]
    exact ⟨_, _, _, _, _, _, _, _, _, _, _, (if_pos u4).trans rfl, p4⟩
theorem bytes_set {m : List Int} (hb : Bytes m) (n : Nat) (x : Int) : Bytes (m.set n (x % 256)) := by
  intro y hy
  rcases List.mem_or_eq_of_mem_set hy with h | h
  · exact hb y h
  · subst h; exact ⟨Int.emod_nonneg _ (by decide), Int.emod_lt_of_pos _ (by decide)⟩
theorem set_l0 {at_ N : Nat} (ha : at_ + 8 ≤ N) (hN : N ≤ 262144) : ∀ (d j : Nat) (m : List Int) (x : Int), j + d = 8 → Bytes m → m.length = N → EvP (fun k => spec_l6Set.l0 k m (at_ : Int) x (j : Int)) (fun r => Bytes r ∧ r.length = N) := by
  intro d
  induction d with
  | zero =>
    intro j m x h hb hm
    exact EvP.step (fun _ => spec_l6Set.l0.eq_2 ..) (evp_neg (by omega) (evp_ret ⟨hb, hm⟩))
  | succ d ih =>
    intro j m x h hb hm
    have e : wrap64 ((at_ : Int) + (j : Int)) = ((at_ + j : Nat) : Int) := by rw [w64_id (by omega) (by omega)]; omega
    have e1 : wrap64 ((j : Int) + 1) = ((j + 1 : Nat) : Int) := by rw [w64_id (by omega) (by omega)]; omega
    refine EvP.step (fun _ => spec_l6Set.l0.eq_2 ..) (evp_pos (by omega) ?_)
    rw [e, e1]
    exact evp_pos (by omega) (evp_pos (by omega) (ih (j + 1) _ _ (by omega) (bytes_set hb _ _) (by rw [List.length_set]; exact hm)))
theorem set_ok {at_ N : Nat} (ha : at_ + 8 ≤ N) (hN : N ≤ 262144) {m : List Int} (x : Int) (hb : Bytes m) (hm : m.length = N) : EvP (fun k => spec_l6Set.f k m (at_ : Int) x) (fun r => Bytes r ∧ r.length = N) :=
  set_l0 ha hN 8 0 m x rfl hb hm
theorem new_l0 {s : List Int} (hl : s.length ≤ 1048576) : ∀ (d i : Nat) (h : Int), i + d = s.length → EvP (fun k => spec_l1New.l0 k s h (i : Int)) (fun r => r.1 = s ∧ r.2.1 = 0) := by
  intro d
  induction d with
  | zero => intro i h hd; exact EvP.step (fun _ => spec_l1New.l0.eq_2 ..) (evp_neg (by omega) (evp_ret ⟨rfl, rfl⟩))
  | succ d ih =>
    intro i h hd
    have e1 : wrap64 ((i : Int) + 1) = ((i + 1 : Nat) : Int) := by rw [w64_id (by omega) (by omega)]; omega
    refine EvP.step (fun _ => spec_l1New.l0.eq_2 ..) (evp_pos (by omega) (evp_pos (by omega) ?_))
    rw [e1]
    exact ih (i + 1) _ (by omega)
def GoodM (n : Nat) (m : List Int) : Prop := Bytes m ∧ m.length = 256 * n
def DrawnR (n : Nat) (r : List Int × List Int × Int × Int) : Prop := GoodM n r.1 ∧ 0 ≤ r.2.2.1
/-- What is assumed of a draw's next table and of its next address. -/
def NextT (s : List Int) (n : Nat) (vas : List Int) (x7 va L1 : Int) : Prop := ∀ (m : List Int) (t : Nat) (i h : Int), GoodM n m → t < n → 0 ≤ i → EvP (fun k => spec_l6DrawTables.l1 k (n : Int) m vas x7 va (t : Int) L1 s i h) (DrawnR n)
def NextA (s : List Int) (n : Nat) (vas : List Int) (x7 va : Int) : Prop := ∀ (m : List Int) (i h : Int), GoodM n m → 0 ≤ i → EvP (fun k => spec_l6DrawTables.l0 k (n : Int) m (vas ++ [va]) (wrap64 (x7 + 1)) s i h) (DrawnR n)
theorem draw_end {s : List Int} {n : Nat} {vas : List Int} {x7 va L1 : Int} (hv : vas.length ≤ 16) (ka : NextA s n vas x7 va) (kt : NextT s n vas x7 va L1) {m : List Int} {i h nx : Int} {leaf : Bool} (hm : GoodM n m) (h0 : 0 ≤ i) (hnx : 0 ≤ nx) :
    EvP (fun k => if leaf = true then (if vas.length < 17592186044416 then (spec_l6DrawTables.l0 k (n : Int) m (vas ++ [va]) (wrap64 (x7 + 1)) s i h) else (none)) else (if nx ≥ (n : Int) then (if vas.length < 17592186044416 then (spec_l6DrawTables.l0 k (n : Int) m (vas ++ [va]) (wrap64 (x7 + 1)) s i h) else (none)) else (spec_l6DrawTables.l1 k (n : Int) m vas x7 va nx L1 s i h))) (DrawnR n) := by
  refine evp_if (fun _ => evp_pos (by omega) (ka m i h hm h0)) (fun _ => evp_if (fun _ => evp_pos (by omega) (ka m i h hm h0)) (fun hlt => ?_))
  obtain ⟨t, rfl⟩ : ∃ t : Nat, nx = (t : Int) := ⟨nx.toNat, by omega⟩
  exact kt m t i h hm (by omega) h0
theorem draw_j10 {s : List Int} {n : Nat} (hn : n ≤ 16) {vas : List Int} {x7 va : Int} {L : Nat} (hL : L ≤ 2) (hv : vas.length ≤ 16) (ka : NextA s n vas x7 va) (kt : NextT s n vas x7 va (wrap64 ((L : Int) - 1))) {m : List Int} {i h nx x16 : Int} {leaf b : Bool} {at_ old : Nat} (hm : GoodM n m) (h0 : 0 ≤ i) (hnx : 0 ≤ nx) (hat : at_ + 8 ≤ 256 * n) (ho : old < 2 ^ 64) :
    EvP (fun k => spec_l6DrawTables.j10 k (n : Int) m vas x7 va (L : Int) (at_ : Int) leaf nx x16 (old : Int) b s i h) (DrawnR n) := by
  refine EvP.step (fun _ => spec_l6DrawTables.j10.eq_2 ..) (evp_if (fun _ => ?_) (fun _ => ?_))
  · obtain ⟨m2, e2, g2⟩ := set_ok hat (by omega) x16 hm.1 hm.2
    exact evp_bind e2 (draw_end hv ka kt g2 h0 hnx)
  · refine evp_bind (spec_l6Kind_ev ho hL) (evp_if (fun _ => ?_) (fun _ => draw_end hv ka kt hm h0 hnx))
    refine evp_bind (spec_GetEntry_ev ho) (draw_end hv ka kt hm h0 ?_)
    unfold getV
    split
    · exact Int.le_refl 0
    · exact Int.natCast_nonneg _
theorem draw_j9 {s : List Int} (hs : s.length ≤ 1048576) {n : Nat} (hn : n ≤ 16) {vas : List Int} {x7 va : Int} {L : Nat} (hL : L ≤ 2) (hv : vas.length ≤ 16) (ka : NextA s n vas x7 va) (kt : NextT s n vas x7 va (wrap64 ((L : Int) - 1))) {m : List Int} {i h nx x16 : Int} {leaf : Bool} {at_ : Nat} (hm : GoodM n m) (h0 : 0 ≤ i) (hnx : 0 ≤ nx) (hat : at_ + 8 ≤ 256 * n) :
    EvP (fun k => spec_l6DrawTables.j9 k (n : Int) m vas x7 va (L : Int) (at_ : Int) leaf nx x16 s i h) (DrawnR n) := by
  have hw : Ev (fun k => spec_LoadWord.f k m (at_ : Int) 8 false) (((wordAt m at_ 8 : Nat) : Int), true) := by
    have h2 := hm.2
    refine ev_eq ?_ (spec_LoadWord_ev hm.1 (by omega) (at_ : Int) 8 false)
    unfold loadV
    rw [if_pos ⟨by decide, by omega, by omega⟩, if_neg (by decide)]; rfl
  have ho : wordAt m at_ 8 < 2 ^ 64 := wordAt_lt hm.1 (by decide)
  refine EvP.step (fun _ => spec_l6DrawTables.j9.eq_2 ..) (evp_bind hw (evp_if (fun _ => draw_j10 hn hL hv ka kt hm h0 hnx hat ho) (fun _ => ?_)))
  obtain ⟨b, i2, h2, e2, p2⟩ := once_ok hs (h := h) h0 (n := 6) (by decide)
  exact evp_bind0 e2 (draw_j10 hn hL hv ka kt hm p2 hnx hat ho)
theorem draw_j8 {s : List Int} (hs : s.length ≤ 1048576) {n : Nat} (hn : n ≤ 16) {vas : List Int} {x7 va : Int} {L : Nat} (hL : L ≤ 2) (hv : vas.length ≤ 16) (ka : NextA s n vas x7 va) (kt : NextT s n vas x7 va (wrap64 ((L : Int) - 1))) {m : List Int} {i h nx F : Int} {leaf b0 b1 b2 b3 b4 b5 b6 b7 : Bool} {at_ : Nat} (hm : GoodM n m) (h0 : 0 ≤ i) (hnx : 0 ≤ nx) (hat : at_ + 8 ≤ 256 * n) :
    EvP (fun k => spec_l6DrawTables.j8 k (n : Int) m vas x7 va (L : Int) (at_ : Int) leaf nx s i h b0 b1 b2 b3 b4 b5 b6 b7 F) (DrawnR n) := by
  obtain ⟨b, i2, h2, e2, p2⟩ := once_ok hs (h := h) h0 (n := 20) (by decide)
  refine EvP.step (fun _ => spec_l6DrawTables.j8.eq_2 ..) (evp_bind (spec_PutEntry_ev ..) (evp_bind0 e2 (evp_if (fun _ => ?_) (fun _ => draw_j9 hs hn hL hv ka kt hm p2 hnx hat))))
  obtain ⟨x, i3, h3, e3, l3, u3, p3⟩ := below_ok hs (h := h2) p2 (n := 64) (by decide)
  obtain ⟨y, rfl⟩ : ∃ y : Nat, x = (y : Int) := ⟨x.toNat, by omega⟩
  exact evp_bind0 e3 (evp_bind (spec_l1Pow_ev (n := y) (by omega)) (draw_j9 hs hn hL hv ka kt hm p3 hnx hat))
theorem draw_j7 {s : List Int} (hs : s.length ≤ 1048576) {n : Nat} (hn : n ≤ 16) (hn0 : 0 < n) {vas : List Int} {x7 va : Int} {L : Nat} (hL : L ≤ 2) (hv : vas.length ≤ 16) (ka : NextA s n vas x7 va) (kt : NextT s n vas x7 va (wrap64 ((L : Int) - 1))) {m : List Int} {i h F : Int} {leaf b0 b1 b2 b3 b4 b5 b6 b7 : Bool} {at_ : Nat} (hm : GoodM n m) (h0 : 0 ≤ i) (hat : at_ + 8 ≤ 256 * n) :
    EvP (fun k => spec_l6DrawTables.j7 k (n : Int) m vas x7 va (L : Int) (at_ : Int) leaf s i h b0 b1 b2 b3 b4 b5 b6 b7 F) (DrawnR n) := by
  obtain ⟨x, i1, h1, e1, l1, u1, p1⟩ := below_ok hs (h := h) h0 (n := (n : Int)) (by omega)
  have hx : 0 ≤ wrap64 (1 + x) := by rw [w64_id (by omega) (by omega)]; omega
  refine EvP.step (fun _ => spec_l6DrawTables.j7.eq_2 ..) (evp_bind0 e1 (evp_if (fun _ => draw_j8 hs hn hL hv ka kt hm p1 hx hat) (fun _ => ?_)))
  obtain ⟨b, i2, h2, e2, p2⟩ := once_ok hs (h := h1) p1 (n := 20) (by decide)
  exact evp_bind0 e2 (evp_if (fun _ => draw_j8 hs hn hL hv ka kt hm p2 hx hat) (fun _ => draw_j8 hs hn hL hv ka kt hm p2 hx hat))
theorem draw_j6 {s : List Int} (hs : s.length ≤ 1048576) {n : Nat} (hn : n ≤ 16) (hn0 : 0 < n) {vas : List Int} {x7 va : Int} {L : Nat} (hL : L ≤ 2) (hv : vas.length ≤ 16) (ka : NextA s n vas x7 va) (kt : NextT s n vas x7 va (wrap64 ((L : Int) - 1))) {m : List Int} {i h F : Int} {leaf b b0 b1 b2 b3 b4 b5 b6 b7 : Bool} {at_ : Nat} (hm : GoodM n m) (h0 : 0 ≤ i) (hat : at_ + 8 ≤ 256 * n) (hb : b = true → 0 < L) :
    EvP (fun k => spec_l6DrawTables.j6 k (n : Int) m vas x7 va (L : Int) (at_ : Int) leaf b s i h b0 b1 b2 b3 b4 b5 b6 b7 F) (DrawnR n) := by
  refine EvP.step (fun _ => spec_l6DrawTables.j6.eq_2 ..) (evp_if (fun hbt => ?_) (fun _ => draw_j7 hs hn hn0 hL hv ka kt hm h0 hat))
  have hL0 := hb hbt
  obtain ⟨x, i1, h1, e1, l1, u1, p1⟩ := below_ok hs (h := h) h0 (n := 5) (by decide)
  have hp := spec_l6Pages_ev (L - 1) (by omega)
  rw [show ((L - 1 : Nat) : Int) = wrap64 ((L : Int) - 1) by rw [w64_id (by omega) (by omega)]; omega] at hp
  exact evp_bind0 rfl (evp_bind0 e1 (evp_pos l1 (evp_pos u1 (evp_bind hp (evp_if (fun _ => draw_j7 hs hn hn0 hL hv ka kt hm p1 hat) (fun _ => draw_j7 hs hn hn0 hL hv ka kt hm p1 hat))))))
theorem draw_j5 {s : List Int} (hs : s.length ≤ 1048576) {n : Nat} (hn : n ≤ 16) (hn0 : 0 < n) {vas : List Int} {x7 va : Int} {L : Nat} (hL : L ≤ 2) (hv : vas.length ≤ 16) (ka : NextA s n vas x7 va) (kt : NextT s n vas x7 va (wrap64 ((L : Int) - 1))) {m : List Int} {i h F : Int} {leaf b0 b1 b2 b3 b4 b5 b6 b7 : Bool} {at_ : Nat} (hm : GoodM n m) (h0 : 0 ≤ i) (hat : at_ + 8 ≤ 256 * n) :
    EvP (fun k => spec_l6DrawTables.j5 k (n : Int) m vas x7 va (L : Int) (at_ : Int) leaf s i h b0 b1 b2 b3 b4 b5 b6 b7 F) (DrawnR n) := by
  have J := fun (b : Bool) (i h : Int) (h0 : 0 ≤ i) (hb : b = true → 0 < L) => draw_j6 (b := b) (i := i) (h := h) (F := F) (leaf := leaf) (b0 := b0) (b1 := b1) (b2 := b2) (b3 := b3) (b4 := b4) (b5 := b5) (b6 := b6) (b7 := b7) hs hn hn0 hL hv ka kt hm h0 hat hb
  refine EvP.step (fun _ => spec_l6DrawTables.j5.eq_2 ..) (evp_if (fun _ => evp_if (fun hl => ?_) (fun _ => J false i h h0 (fun h => absurd h (by decide)))) (fun _ => J false i h h0 (fun h => absurd h (by decide))))
  obtain ⟨b, i2, h2, e2, p2⟩ := once_ok hs (h := h) h0 (n := 4) (by decide)
  exact evp_bind0 e2 (J _ _ _ p2 (fun _ => by omega))
theorem draw_j3 {s : List Int} (hs : s.length ≤ 1048576) {n : Nat} (hn : n ≤ 16) (hn0 : 0 < n) {vas : List Int} {x7 va : Int} {L : Nat} (hL : L ≤ 2) (hv : vas.length ≤ 16) (ka : NextA s n vas x7 va) (kt : NextT s n vas x7 va (wrap64 ((L : Int) - 1))) {m : List Int} {i h : Int} {leaf : Bool} {at_ : Nat} (hm : GoodM n m) (h0 : 0 ≤ i) (hat : at_ + 8 ≤ 256 * n) :
    EvP (fun k => spec_l6DrawTables.j3 k (n : Int) m vas x7 va (L : Int) (at_ : Int) leaf s i h) (DrawnR n) := by
  obtain ⟨b0, b1, b2, b3, b4, b5, b6, b7, F, i1, h1, e1, p1⟩ := entry_ok hs (h := h) h0
  have J : ∀ (b b0 b1 b2 b3 b4 b5 b6 b7 : Bool) (F i h : Int), 0 ≤ i → EvP (fun k => spec_l6DrawTables.j4 k (n : Int) m vas x7 va (L : Int) (at_ : Int) leaf b s i h b0 b1 b2 b3 b4 b5 b6 b7 F) (DrawnR n) := fun b b0 b1 b2 b3 b4 b5 b6 b7 F i h h0 =>
    EvP.step (fun _ => spec_l6DrawTables.j4.eq_2 ..) (evp_if (fun _ => draw_j5 hs hn hn0 hL hv ka kt hm h0 hat) (fun _ => draw_j5 hs hn hn0 hL hv ka kt hm h0 hat))
  exact EvP.step (fun _ => spec_l6DrawTables.j3.eq_2 ..) (evp_bind0 e1 (evp_if (fun _ => evp_if (fun _ => J _ _ _ _ _ _ _ _ _ _ _ _ p1) (fun _ => J _ _ _ _ _ _ _ _ _ _ _ _ p1)) (fun _ => J _ _ _ _ _ _ _ _ _ _ _ _ p1)))
theorem draw_l1 {s : List Int} (hs : s.length ≤ 1048576) {n : Nat} (hn : n ≤ 16) (hn0 : 0 < n) {vas : List Int} {x7 : Int} {va : Nat} (hva : va ≤ 8388608) (hv : vas.length ≤ 16) (ka : NextA s n vas x7 (va : Int)) : ∀ c : Nat, c ≤ 3 → NextT s n vas x7 (va : Int) (wrap64 ((c : Int) - 1)) := by
  intro c
  induction c with
  | zero =>
    intro _ m t i h hm ht h0
    refine EvP.step (fun _ => spec_l6DrawTables.l1.eq_2 ..) (evp_neg ?_ (evp_pos (by omega) (ka m i h hm h0)))
    rw [w64_id (by omega) (by omega)]; omega
  | succ L ih =>
    intro hc m t i h hm ht h0
    have hL : L ≤ 2 := by omega
    have kt := ih (by omega)
    rw [show wrap64 (((L + 1 : Nat) : Int) - 1) = (L : Int) by rw [w64_id (by omega) (by omega)]; omega]
    have hp := spec_l6Pages_ev L hL
    obtain ⟨hp0, hp1⟩ := pow_le3 hL
    have hm2 := hm.2
    generalize 32 ^ L = P at hp hp0 hp1
    have hS : wrap64 (256 * (P : Int)) = ((256 * P : Nat) : Int) := by rw [w64_id (by omega) (by omega)]; omega
    have hat : wrap64 (wrap64 ((t : Int) * 256) + wrap64 (8 * Int.tmod (wrap64 (Int.tdiv (va : Int) ((256 * P : Nat) : Int))) 32)) = ((t * 256 + va / (256 * P) % 32 * 8 : Nat) : Int) := by
      have hq : va / (256 * P) ≤ va := Nat.div_le_self _ _
      rw [tdiv_nat]
      generalize va / (256 * P) = q at hq ⊢
      rw [w64_id (x := (q : Int)) (by omega) (by omega), show (32 : Int) = ((32 : Nat) : Int) from rfl, tmod_nat, w64_id (x := (t : Int) * 256) (by omega) (by omega), w64_id (x := 8 * ((q % 32 : Nat) : Int)) (by omega) (by omega), w64_id (by omega) (by omega)]
      omega
    have hA : t * 256 + va / (256 * P) % 32 * 8 + 8 ≤ 256 * n := by omega
    refine EvP.step (fun _ => spec_l6DrawTables.l1.eq_2 ..) (evp_pos (by omega) (evp_bind hp ?_))
    rw [hS, hat]
    refine evp_neg (by omega) (evp_if (fun _ => draw_j3 hs hn hn0 hL hv ka kt hm h0 hA) (fun _ => ?_))
    obtain ⟨b, i2, h2, e2, p2⟩ := once_ok hs (h := h) h0 (n := 6) (by decide)
    exact evp_bind0 e2 (draw_j3 hs hn hn0 hL hv ka kt hm p2 hA)
theorem draw_l0 {s : List Int} (hs : s.length ≤ 1048576) {n : Nat} (hn : n ≤ 16) (hn0 : 0 < n) : ∀ (d x7 : Nat) (m vas : List Int) (i h : Int), x7 + d = 9 → GoodM n m → vas.length ≤ x7 → 0 ≤ i → EvP (fun k => spec_l6DrawTables.l0 k (n : Int) m vas (x7 : Int) s i h) (DrawnR n) := by
  intro d
  induction d with
  | zero =>
    intro x7 m vas i h hd hm hv h0
    obtain ⟨x, i1, h1, e1, l1, u1, p1⟩ := below_ok hs (h := h) h0 (n := 8) (by decide)
    refine EvP.step (fun _ => spec_l6DrawTables.l0.eq_2 ..) (evp_bind0 e1 (evp_neg ?_ (evp_ret ⟨hm, p1⟩)))
    rw [w64_id (by omega) (by omega)]; omega
  | succ d ih =>
    intro x7 m vas i h hd hm hv h0
    have ka : ∀ va : Int, NextA s n vas (x7 : Int) va := by
      intro va m2 i2 h2 g2 p2
      rw [show wrap64 ((x7 : Int) + 1) = ((x7 + 1 : Nat) : Int) by rw [w64_id (by omega) (by omega)]; omega]
      exact ih (x7 + 1) m2 _ i2 h2 (by omega) g2 (by rw [List.length_append, List.length_singleton]; omega) p2
    have J : ∀ (va i h : Int), 0 ≤ va → va ≤ 8388608 → 0 ≤ i → EvP (fun k => spec_l6DrawTables.j1 k (n : Int) m vas (x7 : Int) va s i h) (DrawnR n) := by
      intro va i h l u p
      obtain ⟨v, rfl⟩ : ∃ v : Nat, va = (v : Int) := ⟨va.toNat, by omega⟩
      have := draw_l1 hs hn hn0 (vas := vas) (x7 := (x7 : Int)) (va := v) (by omega) (by omega) (ka _) 3 (by decide) m 0 i h hm hn0 p
      rw [show wrap64 (((3 : Nat) : Int) - 1) = 2 from by rw [w64_id (by omega) (by omega)]; rfl] at this
      exact EvP.step (fun _ => spec_l6DrawTables.j1.eq_2 ..) this
    obtain ⟨x, i1, h1, e1, l1, u1, p1⟩ := below_ok hs (h := h) h0 (n := 8) (by decide)
    refine EvP.step (fun _ => spec_l6DrawTables.l0.eq_2 ..) (evp_bind0 e1 (evp_if (fun _ => ?_) (fun _ => evp_ret ⟨hm, p1⟩)))
    obtain ⟨v, i2, h2, e2, l2, u2, p2⟩ := below_ok hs (h := h1) p1 (n := 8388608) (by decide)
    obtain ⟨b, i3, h3, e3, p3⟩ := once_ok hs (h := h2) p2 (n := 2) (by decide)
    refine evp_bind0 e2 (evp_bind0 e3 (evp_if (fun _ => ?_) (fun _ => J v i3 h3 l2 (by omega) p3)))
    obtain ⟨a, i4, h4, e4, l4, u4, p4⟩ := below_ok hs (h := h3) p3 (n := 3) (by decide)
    obtain ⟨c, i5, h5, e5, l5, u5, p5⟩ := below_ok hs (h := h4) p4 (n := 3) (by decide)
    obtain ⟨e, i6, h6, e6, l6, u6, p6⟩ := below_ok hs (h := h5) p5 (n := 1024) (by decide)
    have w : wrap64 (wrap64 (wrap64 (wrap64 (a * 256) * 1024) + wrap64 (wrap64 (c * 256) * 32)) + e) = a * 262144 + c * 8192 + e := by
      rw [w64_id (x := a * 256) (by omega) (by omega), w64_id (x := c * 256) (by omega) (by omega), w64_id (x := a * 256 * 1024) (by omega) (by omega), w64_id (x := c * 256 * 32) (by omega) (by omega), w64_id (x := a * 256 * 1024 + c * 256 * 32) (by omega) (by omega), w64_id (by omega) (by omega)]; omega
    refine evp_bind0 e4 (evp_bind0 e5 (evp_bind0 e6 ?_))
    rw [w]
    exact J _ i6 h6 (by omega) (by omega) p6
theorem draw_ok {s : List Int} (hs : s.length ≤ 1048576) {i h : Int} (h0 : 0 ≤ i) : EvP (fun k => spec_l6DrawTables.f k s i h) (fun r => ∃ n : Nat, n ≤ 16 ∧ DrawnR n r) := by
  obtain ⟨x, i1, h1, e1, l1, u1, p1⟩ := below_ok hs (h := h) h0 (n := 10) (by decide)
  obtain ⟨y, rfl⟩ : ∃ y : Nat, x = (y : Int) := ⟨x.toNat, by omega⟩
  have w1 : wrap64 (4 + (y : Int)) = ((4 + y : Nat) : Int) := by rw [w64_id (by omega) (by omega)]; omega
  have w2 : wrap64 (((4 + y : Nat) : Int) * 256) = ((256 * (4 + y) : Nat) : Int) := by rw [w64_id (by omega) (by omega)]; omega
  have hg : GoodM (4 + y) (List.replicate (256 * (4 + y)) 0) := ⟨fun z hz => by obtain rfl := List.eq_of_mem_replicate hz; decide, List.length_replicate⟩
  obtain ⟨r, er, pr⟩ := draw_l0 hs (n := 4 + y) (by omega) (by omega) 9 0 _ [] i1 h1 rfl hg (Nat.le_refl _) p1
  refine ⟨r, ?_, 4 + y, by omega, pr⟩
  unfold spec_l6DrawTables.f
  refine ev_bind0 e1 ?_
  simp only
  rw [w1, w2, Int.toNat_natCast]
  exact ev_pos (by omega) (ev_pos (by omega) er)
theorem drawL_ok {s : List Int} (hs : s.length ≤ 1048576) : EvP (fun k => spec_DrawLeaves.f k s) (fun r => ∃ n : Nat, n ≤ 16 ∧ GoodM n r.1) := by
  unfold spec_DrawLeaves.f
  obtain ⟨⟨s1, i1, h1⟩, e1, q1, q2⟩ := new_l0 hs s.length 0 (wrap64 (76543 + (s.length : Int))) (Nat.zero_add _)
  obtain rfl : s1 = s := q1
  obtain rfl : i1 = 0 := q2
  obtain ⟨⟨m, vas, i2, h2⟩, e2, n, hn, g2, p2⟩ := draw_ok hs (i := 0) (h := h1) (Int.le_refl 0)
  obtain ⟨b, i3, h3, e3, p3⟩ := once_ok hs (h := h2) p2 (n := 12) (by decide)
  obtain ⟨x, i4, h4, e4, l4, u4, p4⟩ := below_ok hs (h := h3) p3 (n := 30) (by decide)
  have e1' : Ev (fun k => spec_l1New.f k s1) (s1, 0, h1) := e1
  exact evp_bind e1' (evp_bind e2 (evp_bind0 e3 (evp_if (fun _ => evp_bind0 e4 (evp_ret ⟨n, hn, g2⟩)) (fun _ => evp_ret ⟨n, hn, g2⟩))))
theorem FnLeavesFound : laws_FnLeavesFound.Pure := by
  intro l0 h1 h2 h3
  refine Ev.rounds ?_
  unfold laws_FnLeavesFound.f laws_big.f
  refine ev_bind0 rfl ?_
  by_cases hbig : (l0.length : Int) > 1048576
  · exact ev_pos (decide_eq_true hbig) (ev_ret rfl)
  refine ev_neg (by rw [decide_eq_false hbig]; decide) ?_
  obtain ⟨⟨m, root⟩, e1, n, hn, hb, hlen⟩ := drawL_ok (s := l0) (by omega)
  have hlen : m.length = 256 * n := hlen
  have hb : Bytes m := hb
  have hm : memOkF m = true := by
    unfold memOkF
    rw [if_pos (by omega)]
    exact decide_eq_true (by omega)
  have hT : Ev (fun k => impl_Translate.f k ([1] : List Int) 0 0 0 true) ((1, 0, 0, 0, 0) : R5) := by
    refine ev_eq ?_ (impl_TranslateF_ev (m := [1]) (fun x hx => by obtain rfl := List.mem_singleton.1 hx; decide) 0 0 0 true)
    unfold translateF
    exact if_pos (.inl rfl)
  have hl : leavesV m root = belowV m 2 root 0 := by
    unfold leavesV
    exact if_pos ⟨by omega, by omega⟩
  refine Ev.bind e1 (Ev.bind (impl_Leaves_ev hb root) (Ev.bind hT (ev_pos rfl (Ev.bind (spec_Leaves_ev hb root) (ev_pos rfl ?_)))))
  have hlv := leavesV_len m root
  rw [hl] at hlv ⊢
  exact found_l0 hb hm (cover_all m root) hlv _ 0 (Nat.zero_add _)
end Go.Proofs.Ytdhafphhkokniaa.Pure
