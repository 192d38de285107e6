/- For every input that the row lets in, FnExactLoadWord answers true; this text proves the plain law that is left when the machine's side is done. -/
import Derived.Test.YtnncefankndkaabPFnExactLoadWordx2
import Derived.Test.YtnncefankndkaabBase
set_option linter.unusedVariables false
set_option linter.unusedSimpArgs false
namespace Go.Proofs.Ytnncefankndkaab.Pure
open Go.RowKit Go.Proofs.Ytnncefankndkaab.PFnExactLoadWord Go.Proofs.YtnncefankndkaabW.PrintWords Go.Proofs.YtnncefankndkaabW.PrintLast Go.Proofs.YtnncefankndkaabW.PrintMore Go.Proofs.Ytnncefankndkaab.Base

theorem spec_l1Pow_l0 : ∀ (d : Nat) (a i n : Int), i + d = n → 0 ≤ i → n ≤ 64 → 0 ≤ a → a < 18446744073709551616 → Ev (fun k => spec_l1Pow.l0 k n a i) ((a * 2 ^ d) % 18446744073709551616) := by
  intro d
  induction d with
  | zero =>
    intro a i n h h0 h1 h2 h3
    refine Ev.step (fun _ => spec_l1Pow.l0.eq_2 ..) ?_
    refine ev_neg (by omega) (ev_ret ?_)
    rw [Int.pow_zero, Int.mul_one]; omega
  | succ d ih =>
    intro a i n h h0 h1 h2 h3
    refine Ev.step (fun _ => spec_l1Pow.l0.eq_2 ..) ?_
    refine ev_pos (by omega) ?_
    rw [w64_id (x := i + 1) (by omega) (by omega), u64w]
    refine ev_eq ?_ (ih (a * 2 % 18446744073709551616) (i + 1) n (by omega) (by omega) h1 (by omega) (by omega))
    rw [Int.mul_emod, Int.emod_emod_of_dvd _ (Int.dvd_refl _), ← Int.mul_emod, Int.pow_succ, Int.mul_comm (2 ^ d) 2, ← Int.mul_assoc]
theorem spec_l1Pow_ev {n : Nat} (h : n ≤ 63) : Ev (fun k => spec_l1Pow.f k (n : Int)) ((2 ^ n : Nat) : Int) := by
  have := spec_l1Pow_l0 n 1 0 (n : Int) (by omega) (by omega) (by omega) (by omega) (by omega)
  refine Ev.congr (fun k => rfl) (ev_eq ?_ this)
  have h2 : 2 ^ n ≤ 2 ^ 63 := Nat.pow_le_pow_right (by decide) h
  have e : ((2 : Int) ^ n) = ((2 ^ n : Nat) : Int) := by simp
  rw [Int.one_mul, e]
  have h3 : 2 ^ n ≤ 9223372036854775808 := h2
  generalize 2 ^ n = q at *
  omega
theorem spec_l1Pow_64 : Ev (fun k => spec_l1Pow.f k 64) 0 := by
  have := spec_l1Pow_l0 64 1 0 64 (by omega) (by omega) (by omega) (by omega) (by omega)
  exact Ev.congr (fun k => rfl) (ev_eq (by decide) this)
theorem spec_l1Bit_ev {a i : Nat} (ha : a < 2 ^ 64) (h : i ≤ 63) : Ev (fun k => spec_l1Bit.f k (a : Int) (i : Int)) ((a.testBit i).toNat : Int) := by
  unfold spec_l1Bit.f
  refine Ev.bind (spec_l1Pow_ev h) ?_
  have hp : 0 < 2 ^ i := Nat.two_pow_pos i
  refine ev_neg (by omega) (ev_ret ?_)
  rw [tdiv_nat, u64w]
  have h1 : a / 2 ^ i ≤ a := Nat.div_le_self _ _
  have h2 : a < 18446744073709551616 := ha
  have e : (((a / 2 ^ i : Nat) : Int) % 18446744073709551616) = ((a / 2 ^ i : Nat) : Int) := by
    clear hp
    generalize a / 2 ^ i = q at *
    omega
  rw [e, show (2 : Int) = ((2 : Nat) : Int) from rfl, tmod_nat, bit_div]
def extBit (x n : Nat) (j : Nat) : Bool := if j < n then x.testBit j else x.testBit (n - 1)
def ext (x n : Nat) : Nat := hor (extBit x n) 64
theorem ext_lt (x n : Nat) : ext x n < 2 ^ 64 := hor_lt _ _
theorem spec_Extend_l0 (x n : Nat) (hx : x < 2 ^ 64) (h1 : 1 ≤ n) (hn : n ≤ 64) : ∀ (m acc : Nat) (i : Int), i = (m : Int) - 1 → m ≤ 64 → acc < 2 ^ (64 - m) → Ev (fun k => spec_Extend.l0 k (x : Int) (n : Int) (acc : Int) i) ((acc * 2 ^ m + hor (extBit x n) m : Nat) : Int) := by
  intro m
  induction m with
  | zero =>
    intro acc i hi hm ha
    refine Ev.step (fun _ => spec_Extend.l0.eq_2 ..) ?_
    exact ev_neg (by omega) (ev_ret (by simp [hor]))
  | succ m ih =>
    intro acc i hi hm ha
    obtain rfl : i = (m : Int) := by omega
    refine Ev.step (fun _ => spec_Extend.l0.eq_2 ..) ?_
    refine ev_pos (by omega) ?_
    have e2 : wrap64 ((m : Int) - 1) = (m : Int) - 1 := w64_id (by omega) (by omega)
    have e3 : wrap64 ((n : Int) - 1) = ((n - 1 : Nat) : Int) := by rw [w64_id (by omega) (by omega)]; omega
    rw [e2, e3]
    by_cases hc : m < n
    · refine ev_pos (by omega) ?_
      refine Ev.bind (spec_l1Bit_ev hx (by omega)) ?_
      have eb : x.testBit m = extBit x n m := by unfold extBit; rw [if_pos hc]
      rw [eb]
      have hr := hor_room (bool_le (extBit x n m)) (by omega) ha
      rw [u64_hor (hor_top hr)]
      exact ev_eq (by rw [hor_step]) (ih _ _ rfl (by omega) hr)
    · refine ev_neg (by omega) ?_
      refine Ev.bind (spec_l1Bit_ev hx (by omega)) ?_
      have eb : x.testBit (n - 1) = extBit x n m := by unfold extBit; rw [if_neg hc]
      rw [eb]
      have hr := hor_room (bool_le (extBit x n m)) (by omega) ha
      rw [u64_hor (hor_top hr)]
      exact ev_eq (by rw [hor_step]) (ih _ _ rfl (by omega) hr)
def extV (x : Nat) (n : Int) : Int := if 1 ≤ n ∧ n ≤ 64 then (ext x n.toNat : Int) else 0
theorem spec_Extend_ev {x : Nat} (hx : x < 2 ^ 64) (n : Int) : Ev (fun k => spec_Extend.f k (x : Int) n) (extV x n) := by
  unfold spec_Extend.f extV
  by_cases h1 : n < 1
  · rw [if_neg (by omega)]
    refine ev_pos h1 ?_
    refine Ev.step (fun _ => spec_Extend.j0.eq_2 ..) ?_
    exact ev_pos rfl (ev_ret rfl)
  · refine ev_neg h1 ?_
    refine Ev.step (fun _ => spec_Extend.j0.eq_2 ..) ?_
    by_cases h2 : n > 64
    · rw [if_neg (by omega)]
      exact ev_pos (by simpa using h2) (ev_ret rfl)
    · rw [if_pos (by omega)]
      refine ev_neg (by simpa using h2) ?_
      obtain ⟨m, rfl, hm⟩ := to_nat (a := n) (m := 65) (by omega) (by omega)
      refine ev_eq ?_ (spec_Extend_l0 x m hx (by omega) (by omega) 64 0 63 (by omega) (by omega) (by simp))
      simp [ext]
theorem ext_sum (x n : Nat) (h1 : 1 ≤ n) (hn : n ≤ 64) : ext x n = x % 2 ^ n + (if x.testBit (n - 1) then 2 ^ 64 - 2 ^ n else 0) := by
  have key : 2 ^ 64 - 2 ^ n = (2 ^ (64 - n) - 1) <<< n := by
    rw [Nat.shiftLeft_eq, Nat.sub_mul, ← Nat.pow_add, Nat.one_mul, Nat.sub_add_cancel hn]
  have hl : x % 2 ^ n < 2 ^ n := Nat.mod_lt _ (Nat.two_pow_pos n)
  apply Nat.eq_of_testBit_eq
  intro j
  unfold ext
  rw [hor_testBit]
  unfold extBit
  by_cases hb : x.testBit (n - 1) = true
  · rw [if_pos hb, key, Nat.add_comm, Nat.shiftLeft_add_eq_or_of_lt hl, Nat.testBit_or, Nat.testBit_shiftLeft, Nat.testBit_two_pow_sub_one, Nat.testBit_mod_two_pow, hb]
    by_cases hj : j < n
    · have : j < 64 := by omega
      have h3 : ¬ j ≥ n := by omega
      simp [hj, this, h3]
    · have h3 : j ≥ n := by omega
      rw [if_neg hj]
      by_cases h4 : j < 64
      · have : j - n < 64 - n := by omega
        simp [hj, h3, h4, this]
      · have : ¬ j - n < 64 - n := by omega
        simp [hj, h4, this]
  · rw [if_neg hb, Nat.add_zero, Nat.testBit_mod_two_pow]
    have hb' : x.testBit (n - 1) = false := by simpa using hb
    by_cases hj : j < n
    · have : j < 64 := by omega
      simp [hj, this]
    · rw [if_neg hj, hb']; simp [hj]
theorem impl_Extend_eq {x : Nat} (hx : x < 2 ^ 64) (n : Int) : impl_Extend.f (x : Int) n = some (extV x n) := by
  unfold impl_Extend.f extV
  by_cases h1 : n < 1
  · rw [if_pos h1, if_neg (by omega)]
  · rw [if_neg h1]
    by_cases h2 : n > 64
    · rw [if_pos h2, if_neg (by omega)]
    · rw [if_neg h2, if_pos (show 1 ≤ n ∧ n ≤ 64 by omega)]
      obtain ⟨m, rfl, hm⟩ := to_nat (a := n) (m := 65) (by omega) (by omega)
      have e : IntKind.u64.wrap (wrap64 (64 - (m : Int))) = ((64 - m : Nat) : Int) := by rw [w64_id (by omega) (by omega), u64w_id (by omega) (by omega)]; omega
      rw [e, if_pos (by omega), shl_nat, Int.toNat_natCast, ext_sum x m (by omega) (by omega)]
      congr 1
      obtain ⟨s, hs⟩ : ∃ s, s = 64 - m := ⟨_, rfl⟩
      rw [← hs]
      have hm2 : m = 64 - s := by omega
      have hs2 : s ≤ 63 := by omega
      have hv : (x <<< s) % 2 ^ 64 = (x % 2 ^ m) * 2 ^ s := by
        rw [Nat.shiftLeft_eq, show (2 : Nat) ^ 64 = 2 ^ m * 2 ^ s by rw [← Nat.pow_add]; congr 1; omega, Nat.mul_mod_mul_right]
      have hpm : x % 2 ^ m < 2 ^ m := Nat.mod_lt _ (Nat.two_pow_pos m)
      have hsp : 0 < 2 ^ s := Nat.two_pow_pos s
      have hps : (2 : Nat) ^ m * 2 ^ s = 18446744073709551616 := by rw [← Nat.pow_add, show m + s = 64 by omega]
      have hbit : x.testBit (m - 1) = decide (2 ^ (m - 1) ≤ x % 2 ^ m) := by
        have : (x % 2 ^ m).testBit (m - 1) = x.testBit (m - 1) := by
          rw [Nat.testBit_mod_two_pow]; simp; omega
        rw [← this]
        by_cases hle : 2 ^ (m - 1) ≤ x % 2 ^ m
        · rw [Nat.testBit_eq_decide_div_mod_eq]
          have e2 : (2 : Nat) ^ m = 2 ^ (m - 1) * 2 := by rw [← Nat.pow_succ]; congr 1; omega
          have : x % 2 ^ m / 2 ^ (m - 1) = 1 := by
            apply Nat.div_eq_of_lt_le
            · omega
            · omega
          rw [this]; simp [hle]
        · rw [Nat.testBit_lt_two_pow (by omega)]; simp [hle]
      have hhalf : (2 : Nat) ^ (m - 1) * 2 ^ s = 9223372036854775808 := by rw [← Nat.pow_add, show m - 1 + s = 63 by omega]
      rw [hv]
      unfold shr
      rw [Int.toNat_natCast, u64w]
      show (wrap64 _ / 2 ^ min s 64) % _ = _
      rw [Nat.min_eq_left (by omega)]
      have ep : ((2 : Int) ^ s) = ((2 ^ s : Nat) : Int) := by simp
      rw [ep]
      generalize hy : x % 2 ^ m = y at *
      generalize hP : (2 : Nat) ^ s = P at *
      generalize hQ : (2 : Nat) ^ m = Q at *
      generalize hR : (2 : Nat) ^ (m - 1) = R at *
      rw [hbit]
      by_cases hle : R ≤ y
      · have h5 : R * P ≤ y * P := Nat.mul_le_mul_right _ hle
        have h6 : (y + 1) * P ≤ Q * P := Nat.mul_le_mul_right _ hpm
        rw [Nat.succ_mul] at h6
        have hw : wrap64 ((y * P : Nat) : Int) = ((y : Int) - Q) * P := by
          rw [Int.sub_mul]
          have : ((Q : Int) * (P : Int)) = 18446744073709551616 := by rw [← Int.natCast_mul, hps]; rfl
          rw [this]
          have : ((y * P : Nat) : Int) = (y : Int) * P := by simp
          rw [← this]
          unfold wrap64; omega
        rw [hw, Int.mul_ediv_cancel _ (by omega)]
        simp only [hle, decide_true, if_true]
        have hQ64 : Q ≤ 18446744073709551616 := by
          have := Nat.le_mul_of_pos_right Q hsp; omega
        omega
      · have h5 : (y + 1) * P ≤ R * P := Nat.mul_le_mul_right _ (by omega)
        rw [Nat.succ_mul] at h5
        have hw : wrap64 ((y * P : Nat) : Int) = (y : Int) * P := by
          have : ((y * P : Nat) : Int) = (y : Int) * P := by simp
          rw [← this]
          unfold wrap64; omega
        rw [hw, Int.mul_ediv_cancel _ (by omega)]
        simp only [hle, decide_false]
        have hQ64 : Q ≤ 18446744073709551616 := by
          have := Nat.le_mul_of_pos_right Q hsp; omega
        simp
        omega
theorem laws_toByteS_l0 (xs : List Int) (hl : xs.length ≤ 4611686018427387904) : ∀ (d i : Nat) (ys : List Int), i + d = xs.length → ys.length = xs.length → (∀ j, j < i → ys[j]? = xs[j]?) → Ev (fun k => laws_toByteS.l0 k xs ys (i : Int)) xs := by
  intro d
  induction d with
  | zero =>
    intro i ys h hy he
    refine Ev.step (fun _ => laws_toByteS.l0.eq_2 ..) ?_
    refine ev_neg (by omega) (ev_ret ?_)
    apply List.ext_getElem?
    intro j
    by_cases hj : j < i
    · exact he j hj
    · rw [List.getElem?_eq_none (by omega), List.getElem?_eq_none (by omega)]
  | succ d ih =>
    intro i ys h hy he
    refine Ev.step (fun _ => laws_toByteS.l0.eq_2 ..) ?_
    refine ev_pos (by omega) (ev_pos (by omega) (ev_pos (by omega) ?_))
    have e : wrap64 ((i : Int) + 1) = ((i + 1 : Nat) : Int) := by rw [w64_id (by omega) (by omega)]; omega
    rw [e, rd_nat (by omega), Int.toNat_natCast]
    refine ih (i + 1) _ (by omega) (by rw [List.length_set]; exact hy) ?_
    intro j hj
    by_cases hji : j = i
    · subst hji
      rw [List.getElem?_set_self (by omega), List.getElem?_eq_getElem (by omega)]
    · rw [List.getElem?_set_ne (by omega)]
      exact he j (by omega)
theorem laws_toByteS_ev {xs : List Int} (hl : xs.length ≤ 281474976710656) : Ev (fun k => laws_toByteS.f k xs) xs := by
  unfold laws_toByteS.f
  refine ev_pos (by omega) (ev_pos (by omega) ?_)
  exact laws_toByteS_l0 xs (by omega) xs.length 0 _ (by omega) (by simp) (fun j hj => by omega)
theorem laws_eqByteS_l0 (xs : List Int) (hl : xs.length ≤ 4611686018427387904) : ∀ (d i : Nat), i + d = xs.length → Ev (fun k => laws_eqByteS.l0 k xs xs (i : Int)) true := by
  intro d
  induction d with
  | zero =>
    intro i h
    refine Ev.step (fun _ => laws_eqByteS.l0.eq_2 ..) ?_
    exact ev_neg (by omega) (ev_ret rfl)
  | succ d ih =>
    intro i h
    refine Ev.step (fun _ => laws_eqByteS.l0.eq_2 ..) ?_
    refine ev_pos (by omega) (ev_pos (by omega) (ev_pos (by omega) (ev_pos rfl ?_)))
    have e : wrap64 ((i : Int) + 1) = ((i + 1 : Nat) : Int) := by rw [w64_id (by omega) (by omega)]; omega
    rw [e]
    exact ih (i + 1) (by omega)
theorem laws_eqByteS_ev {xs : List Int} (hl : xs.length ≤ 281474976710656) : Ev (fun k => laws_eqByteS.f k xs xs) true := by
  unfold laws_eqByteS.f
  exact ev_pos rfl (laws_eqByteS_l0 xs (by omega) xs.length 0 (by omega))
def sizeOk (n : Int) : Bool := decide (n = 1 ∨ n = 2 ∨ n = 4 ∨ n = 8)
theorem spec_l1SizeOk_eq (n : Int) : spec_l1SizeOk.f n = some (sizeOk n) := by
  unfold spec_l1SizeOk.f sizeOk
  by_cases h1 : n = 1
  · simp [h1]
  · by_cases h2 : n = 2
    · simp [h2]
    · by_cases h3 : n = 4
      · simp [h3]
      · rw [if_neg h1, if_neg h2, if_neg h3]
        by_cases h4 : n = 8 <;> simp [h1, h2, h3, h4]
theorem impl_sizeOk_eq (n : Int) : impl_sizeOk.f n = some (sizeOk n) := spec_l1SizeOk_eq n
theorem sizeOk_le {n : Int} (h : sizeOk n = true) : 1 ≤ n ∧ n ≤ 8 := by
  have := of_decide_eq_true h
  omega
def insideV (n at_ size : Int) : Bool := decide (0 ≤ at_ ∧ 0 ≤ size ∧ at_ ≤ n ∧ size ≤ n - at_)
theorem impl_inside_eq (n at_ size : Int) (h0 : 0 ≤ n) (h1 : n ≤ 4611686018427387904) : impl_inside.f n at_ size = some (insideV n at_ size) := by
  unfold impl_inside.f insideV
  by_cases h2 : at_ ≥ 0
  · rw [if_pos h2]
    by_cases h3 : size ≥ 0
    · rw [if_pos h3]
      by_cases h4 : at_ ≤ n
      · rw [if_pos h4, w64_id (by omega) (by omega)]
        simp only [Option.some.injEq, decide_eq_decide]; omega
      · rw [if_neg h4]; simp only [Option.some.injEq]; symm; simp only [decide_eq_false_iff_not]; omega
    · rw [if_neg h3]; simp only [Option.some.injEq]; symm; simp only [decide_eq_false_iff_not]; omega
  · rw [if_neg h2]; simp only [Option.some.injEq]; symm; simp only [decide_eq_false_iff_not]; omega
/-- The number that some bytes make, the lowest first. -/
def wordN (f : Nat → Nat) : Nat → Nat
  | 0 => 0
  | m + 1 => f m * 256 ^ m + wordN f m
theorem wordN_lt {f : Nat → Nat} : ∀ m, (∀ j, j < m → f j < 256) → wordN f m < 256 ^ m
  | 0, _ => by simp [wordN]
  | m + 1, h => by
    have h1 := wordN_lt m (fun j hj => h j (by omega))
    have h2 := h m (by omega)
    have h3 : f m * 256 ^ m ≤ 255 * 256 ^ m := Nat.mul_le_mul_right _ (by omega)
    simp only [wordN, Nat.pow_succ]
    omega
theorem wordN_step (f : Nat → Nat) (m acc : Nat) : (acc * 256 + f m) * 256 ^ m + wordN f m = acc * 256 ^ (m + 1) + wordN f (m + 1) := by
  simp only [wordN]
  rw [Nat.add_mul, Nat.pow_succ, Nat.mul_assoc, Nat.mul_comm 256 (256 ^ m), Nat.add_assoc]
theorem word_room {acc m b : Nat} (hb : b < 256) (hm : m + 1 ≤ 8) (h : acc < 256 ^ (8 - (m + 1))) : acc * 256 + b < 256 ^ (8 - m) := by
  have e : 8 - m = (8 - (m + 1)) + 1 := by omega
  rw [e, Nat.pow_succ]; omega
theorem word_top {acc m : Nat} (h : acc < 256 ^ (8 - m)) : acc < 2 ^ 64 := by
  have : 256 ^ (8 - m) ≤ 256 ^ 8 := Nat.pow_le_pow_right (by decide) (by omega)
  exact Nat.lt_of_lt_of_le h this
def byteAt (xs : List Int) (at_ : Nat) (j : Nat) : Nat := (xs.getD (at_ + j) 0).toNat
def wordAt (xs : List Int) (at_ size : Nat) : Nat := wordN (byteAt xs at_) size
theorem byteAt_lt {xs : List Int} (hb : Bytes xs) (at_ j : Nat) : byteAt xs at_ j < 256 := by
  unfold byteAt
  rw [List.getD_eq_getElem?_getD]
  by_cases h : at_ + j < xs.length
  · rw [List.getElem?_eq_getElem h]
    have := hb _ (List.getElem_mem h)
    simp only [Option.getD_some]; omega
  · rw [List.getElem?_eq_none (by omega)]; simp
theorem wordAt_lt {xs : List Int} (hb : Bytes xs) {at_ size : Nat} (h : size ≤ 8) : wordAt xs at_ size < 2 ^ 64 := by
  have h1 := wordN_lt size (f := byteAt xs at_) (fun j _ => byteAt_lt hb at_ j)
  exact Nat.lt_of_lt_of_le h1 (Nat.le_trans (Nat.pow_le_pow_right (by decide) h) (by decide))
theorem rd_byte {xs : List Int} (hb : Bytes xs) {at_ j : Nat} : rd xs ((at_ + j : Nat) : Int) = (byteAt xs at_ j : Int) := by
  unfold rd byteAt
  rw [Int.toNat_natCast, List.getD_eq_getElem?_getD]
  by_cases h : at_ + j < xs.length
  · rw [List.getElem?_eq_getElem h]
    have := hb _ (List.getElem_mem h)
    simp only [Option.getD_some]; omega
  · rw [List.getElem?_eq_none (by omega)]; rfl
def loadV (xs : List Int) (at_ size : Int) (sg : Bool) : Int × Bool :=
  if sizeOk size = true ∧ 0 ≤ at_ ∧ at_ ≤ xs.length - size then (if sg then (extV (wordAt xs at_.toNat size.toNat) (8 * size), true) else ((wordAt xs at_.toNat size.toNat : Int), true)) else (0, false)
theorem spec_LoadWord_l0 (xs : List Int) (hb : Bytes xs) (hl : xs.length ≤ 4611686018427387904) (at_ size : Nat) (sg : Bool) (hs : size ≤ 8) (h : at_ + size ≤ xs.length) : ∀ (m acc : Nat) (i : Int), i = (m : Int) - 1 → m ≤ size → acc < 256 ^ (8 - m) →
    Ev (fun k => spec_LoadWord.l0 k xs (at_ : Int) (size : Int) sg (acc : Int) i) (if sg then (extV (acc * 256 ^ m + wordN (byteAt xs at_) m) (8 * (size : Int)), true) else (((acc * 256 ^ m + wordN (byteAt xs at_) m : Nat) : Int), true)) := by
  intro m
  induction m with
  | zero =>
    intro acc i hi hm ha
    refine Ev.step (fun _ => spec_LoadWord.l0.eq_2 ..) ?_
    refine ev_neg (by omega) ?_
    have e0 : acc * 256 ^ 0 + wordN (byteAt xs at_) 0 = acc := by simp [wordN]
    rw [e0]
    cases sg with
    | true =>
      refine ev_pos rfl ?_
      rw [w64_id (x := 8 * (size : Int)) (by omega) (by omega)]
      exact Ev.bind (spec_Extend_ev (word_top ha) _) (ev_ret rfl)
    | false => exact ev_neg (by decide) (ev_ret rfl)
  | succ m ih =>
    intro acc i hi hm ha
    refine Ev.step (fun _ => spec_LoadWord.l0.eq_2 ..) ?_
    refine ev_pos (by omega) ?_
    have e1 : wrap64 ((at_ : Int) + i) = ((at_ + m : Nat) : Int) := by rw [w64_id (by omega) (by omega)]; omega
    have e2 : wrap64 (i - 1) = (m : Int) - 1 := by rw [w64_id (by omega) (by omega)]; omega
    rw [e1, e2]
    refine ev_pos (by omega) (ev_pos (by omega) ?_)
    have hbb := byteAt_lt hb at_ m
    have hr := word_room hbb (by omega) ha
    have hr2 : acc * 256 + byteAt xs at_ m < 18446744073709551616 := word_top hr
    rw [rd_byte hb, u64w_id (x := (byteAt xs at_ m : Int)) (by omega) (by omega), u64w_id (x := (acc : Int) * 256) (by omega) (by omega), u64w_id (by omega) (by omega)]
    have e3 : (acc : Int) * 256 + (byteAt xs at_ m : Int) = ((acc * 256 + byteAt xs at_ m : Nat) : Int) := by simp
    rw [e3]
    refine ev_eq ?_ (ih _ _ rfl (by omega) hr)
    rw [wordN_step]
theorem spec_LoadWord_ev {xs : List Int} (hb : Bytes xs) (hl : xs.length ≤ 281474976710656) (at_ size : Int) (sg : Bool) : Ev (fun k => spec_LoadWord.f k xs at_ size sg) (loadV xs at_ size sg) := by
  unfold spec_LoadWord.f
  refine ev_bind0 (spec_l1SizeOk_eq size) ?_
  have bad : ¬ (sizeOk size = true ∧ 0 ≤ at_ ∧ at_ ≤ xs.length - size) → Ev (fun k => spec_LoadWord.j0 k xs at_ size sg true) (loadV xs at_ size sg) := by
    intro hc
    unfold loadV
    rw [if_neg hc]
    refine Ev.step (fun _ => spec_LoadWord.j0.eq_2 ..) ?_
    exact ev_pos rfl (ev_ret rfl)
  by_cases h1 : sizeOk size = true
  · refine ev_pos h1 ?_
    have hs := sizeOk_le h1
    by_cases h2 : at_ < 0
    · exact ev_pos h2 (bad (by omega))
    · refine ev_neg h2 ?_
      rw [w64_id (x := (xs.length : Int) - size) (by omega) (by omega)]
      by_cases h3 : at_ > xs.length - size
      · rw [decide_eq_true h3]
        exact bad (by omega)
      · rw [decide_eq_false h3]
        unfold loadV
        rw [if_pos ⟨h1, by omega, by omega⟩]
        obtain ⟨a, rfl⟩ := Int.eq_ofNat_of_zero_le (show 0 ≤ at_ by omega)
        obtain ⟨s, rfl⟩ := Int.eq_ofNat_of_zero_le (show 0 ≤ size by omega)
        refine Ev.step (fun _ => spec_LoadWord.j0.eq_2 ..) ?_
        refine ev_neg (by decide) ?_
        rw [w64_id (x := (s : Int) - 1) (by omega) (by omega)]
        refine ev_eq ?_ (spec_LoadWord_l0 xs hb (by omega) a s sg (by omega) (by omega) s 0 _ rfl (Nat.le_refl _) (Nat.pow_pos (by decide)))
        simp [wordAt]
  · refine ev_neg h1 ?_
    exact bad (fun h => h1 h.1)
theorem or_byte {acc b : Nat} (hb : b < 256) (ha : acc * 256 + b < 2 ^ 64) : Go.bits .or .u64 (IntKind.u64.wrap ((acc : Int) * 256)) (b : Int) = ((acc * 256 + b : Nat) : Int) := by
  have h1 : acc * 256 + b < 18446744073709551616 := ha
  rw [u64w_id (x := (acc : Int) * 256) (by omega) (by omega)]
  have e : (acc : Int) * 256 = ((acc * 256 : Nat) : Int) := by simp
  rw [e, or_nat (Nat.lt_of_le_of_lt (Nat.le_add_right _ _) ha) (Nat.lt_of_le_of_lt (Nat.le_add_left _ _) ha)]
  have h3 : 256 * acc + b = 256 * acc ||| b := Nat.two_pow_add_eq_or_of_lt (i := 8) hb acc
  rw [Nat.mul_comm acc 256, h3]
theorem impl_LoadWord_l0 (xs : List Int) (hb : Bytes xs) (hl : xs.length ≤ 4611686018427387904) (at_ size : Nat) (sg : Bool) (hs : size ≤ 8) (h : at_ + size ≤ xs.length) : ∀ (m acc : Nat) (i : Int), i = (m : Int) - 1 → m ≤ size → acc < 256 ^ (8 - m) →
    Ev (fun k => impl_LoadWord.l0 k xs (at_ : Int) (size : Int) sg (acc : Int) i) (if sg then (extV (acc * 256 ^ m + wordN (byteAt xs at_) m) (8 * (size : Int)), true) else (((acc * 256 ^ m + wordN (byteAt xs at_) m : Nat) : Int), true)) := by
  intro m
  induction m with
  | zero =>
    intro acc i hi hm ha
    refine Ev.step (fun _ => impl_LoadWord.l0.eq_2 ..) ?_
    refine ev_neg (by omega) ?_
    have e0 : acc * 256 ^ 0 + wordN (byteAt xs at_) 0 = acc := by simp [wordN]
    rw [e0]
    cases sg with
    | true =>
      refine ev_pos rfl ?_
      rw [w64_id (x := 8 * (size : Int)) (by omega) (by omega)]
      exact ev_bind0 (impl_Extend_eq (word_top ha) _) (ev_ret rfl)
    | false => exact ev_neg (by decide) (ev_ret rfl)
  | succ m ih =>
    intro acc i hi hm ha
    refine Ev.step (fun _ => impl_LoadWord.l0.eq_2 ..) ?_
    refine ev_pos (by omega) ?_
    have e1 : wrap64 ((at_ : Int) + i) = ((at_ + m : Nat) : Int) := by rw [w64_id (by omega) (by omega)]; omega
    have e2 : wrap64 (i - 1) = (m : Int) - 1 := by rw [w64_id (by omega) (by omega)]; omega
    rw [e1, e2]
    refine ev_pos (by omega) (ev_pos (by omega) ?_)
    have hbb := byteAt_lt hb at_ m
    have hr := word_room hbb (by omega) ha
    rw [rd_byte hb, u64w_id (x := (byteAt xs at_ m : Int)) (by omega) (by omega), or_byte hbb (word_top hr)]
    refine ev_eq ?_ (ih _ _ rfl (by omega) hr)
    rw [wordN_step]
theorem impl_LoadWord_ev {xs : List Int} (hb : Bytes xs) (hl : xs.length ≤ 281474976710656) (at_ size : Int) (sg : Bool) : Ev (fun k => impl_LoadWord.f k xs at_ size sg) (loadV xs at_ size sg) := by
  unfold impl_LoadWord.f
  refine ev_bind0 (impl_sizeOk_eq size) ?_
  have bad : ¬ (sizeOk size = true ∧ 0 ≤ at_ ∧ at_ ≤ xs.length - size) → Ev (fun k => impl_LoadWord.j0 k xs at_ size sg true) (loadV xs at_ size sg) := by
    intro hc
    unfold loadV
    rw [if_neg hc]
    refine Ev.step (fun _ => impl_LoadWord.j0.eq_2 ..) ?_
    exact ev_pos rfl (ev_ret rfl)
  by_cases h1 : sizeOk size = true
  · refine ev_pos h1 ?_
    have hs := sizeOk_le h1
    refine ev_bind0 (impl_inside_eq _ _ _ (by omega) (by omega)) ?_
    by_cases h2 : insideV xs.length at_ size = true
    · have h3 := of_decide_eq_true h2
      rw [h2]
      unfold loadV
      rw [if_pos ⟨h1, by omega, by omega⟩]
      obtain ⟨a, rfl⟩ := Int.eq_ofNat_of_zero_le (show 0 ≤ at_ by omega)
      obtain ⟨s, rfl⟩ := Int.eq_ofNat_of_zero_le (show 0 ≤ size by omega)
      refine Ev.step (fun _ => impl_LoadWord.j0.eq_2 ..) ?_
      refine ev_neg (by decide) ?_
      rw [w64_id (x := (s : Int) - 1) (by omega) (by omega)]
      refine ev_eq ?_ (impl_LoadWord_l0 xs hb (by omega) a s sg (by omega) (by omega) s 0 _ rfl (Nat.le_refl _) (Nat.pow_pos (by decide)))
      simp [wordAt]
    · have h3 : insideV xs.length at_ size = false := by simpa using h2
      rw [h3]
      exact bad (fun h => h2 (decide_eq_true (by omega)))
  · refine ev_neg h1 ?_
    exact bad (fun h => h1 h.1)
theorem FnExactLoadWord : laws_FnExactLoadWord.Pure := by
  intro xs a1 a2 a3 hm hs hw h1 h2
  have hb := bytes_wf hw
  refine Ev.rounds ?_
  unfold laws_FnExactLoadWord.f
  by_cases hbig : (xs.length : Int) > 1048576
  · exact ev_pos hbig (ev_ret rfl)
  · refine ev_neg hbig ?_
    have hl : xs.length ≤ 281474976710656 := by omega
    refine Ev.bind (laws_toByteS_ev hl) (Ev.bind (spec_LoadWord_ev hb hl a1 a2 a3) (Ev.bind (laws_toByteS_ev hl) (Ev.bind (impl_LoadWord_ev hb hl a1 a2 a3) (ev_pos rfl ?_))))
    simp only [bne_self_eq_false]
    refine Ev.step (fun _ => laws_FnExactLoadWord.j0.eq_2 ..) ?_
    exact ev_neg (by decide) (Ev.bind (laws_toByteS_ev hl) (Ev.bind (laws_eqByteS_ev hl) (ev_pos rfl (ev_ret rfl))))
end Go.Proofs.Ytnncefankndkaab.Pure
