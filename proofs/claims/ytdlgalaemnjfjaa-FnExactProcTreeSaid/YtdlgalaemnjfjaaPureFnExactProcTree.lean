/- For every input that the row lets in, FnExactProcTree answers true; this text proves the plain law that is left when the machine's side is done. -/
import Derived.Test.YtdlgalaemnjfjaaPFnExactProcTreex9
import Derived.Test.YtdlgalaemnjfjaaVBase
set_option linter.unusedVariables false
set_option linter.unusedSimpArgs false
namespace Go.Proofs.Ytdlgalaemnjfjaa.Pure
open Go.RowKit Go.Proofs.Ytdlgalaemnjfjaa.PFnExactProcTree Go.Proofs.YtdlgalaemnjfjaaW.PrintWords Go.Proofs.YtdlgalaemnjfjaaW.PrintLast Go.Proofs.YtdlgalaemnjfjaaW.PrintMore Go.Proofs.Ytdlgalaemnjfjaa.Base

theorem spec_l1Pow_l0 : ∀ (d : Nat) (a i n : Int), i + d = n → 0 ≤ i → n ≤ 64 → 0 ≤ a → a < 18446744073709551616 → Ev (fun k => spec_l1Pow.l0 k n a i) ((a * 2 ^ d) % 18446744073709551616) := by
  intro d
  induction d with
  | zero =>
    intro a i n h h0 h1 h2 h3
    refine Ev.step (fun _ => spec_l1Pow.l0.eq_2 ..) ?_
    refine ev_neg (by omega) (ev_ret ?_)
    rw [Int.pow_zero, Int.mul_one]; omega
  | succ d ih =>
    intro a i n h h0 h1 h2 h3
    refine Ev.step (fun _ => spec_l1Pow.l0.eq_2 ..) ?_
    refine ev_pos (by omega) ?_
    rw [w64_id (x := i + 1) (by omega) (by omega), u64w]
    refine ev_eq ?_ (ih (a * 2 % 18446744073709551616) (i + 1) n (by omega) (by omega) h1 (by omega) (by omega))
    rw [Int.mul_emod, Int.emod_emod_of_dvd _ (Int.dvd_refl _), ← Int.mul_emod, Int.pow_succ, Int.mul_comm (2 ^ d) 2, ← Int.mul_assoc]
theorem spec_l1Pow_ev {n : Nat} (h : n ≤ 63) : Ev (fun k => spec_l1Pow.f k (n : Int)) ((2 ^ n : Nat) : Int) := by
  have := spec_l1Pow_l0 n 1 0 (n : Int) (by omega) (by omega) (by omega) (by omega) (by omega)
  refine Ev.congr (fun k => rfl) (ev_eq ?_ this)
  have h2 : 2 ^ n ≤ 2 ^ 63 := Nat.pow_le_pow_right (by decide) h
  have e : ((2 : Int) ^ n) = ((2 ^ n : Nat) : Int) := by simp
  rw [Int.one_mul, e]
  have h3 : 2 ^ n ≤ 9223372036854775808 := h2
  generalize 2 ^ n = q at *
  omega
theorem spec_l1Pow_64 : Ev (fun k => spec_l1Pow.f k 64) 0 := by
  have := spec_l1Pow_l0 64 1 0 64 (by omega) (by omega) (by omega) (by omega) (by omega)
  exact Ev.congr (fun k => rfl) (ev_eq (by decide) this)
def cProc (x : S111) : S87 := ⟨x.f0, x.f1, x.f2, x.f3, x.f4, x.f5, x.f6, x.f7, x.f8, x.f9⟩
theorem laws_toProcS_l0 (xs : List S111) (hl : xs.length ≤ 4611686018427387904) : ∀ (d i : Nat) (ys : List S87), i + d = xs.length → ys.length = xs.length → (∀ j, j < i → ys[j]? = (xs.map cProc)[j]?) → Ev (fun k => laws_toProcS.l0 k xs ys (i : Int)) (xs.map cProc) := by
  intro d
  induction d with
  | zero =>
    intro i ys h hy he
    refine Ev.step (fun _ => laws_toProcS.l0.eq_2 ..) (ev_neg (by omega) (ev_ret ?_))
    apply List.ext_getElem?
    intro j
    by_cases hj : j < i
    · exact he j hj
    · rw [List.getElem?_eq_none (by omega), List.getElem?_eq_none (by rw [List.length_map]; omega)]
  | succ d ih =>
    intro i ys h hy he
    have hi : i < xs.length := by omega
    have er : rd_T111 xs (i : Int) = xs[i] := getD_nat _ hi
    refine Ev.step (fun _ => laws_toProcS.l0.eq_2 ..) (ev_pos (by omega) (ev_pos (by omega) (ev_bind0 rfl (ev_pos (by omega) ?_))))
    rw [w64_succ hi hl, er, Int.toNat_natCast]
    refine ih (i + 1) _ (by omega) (by rw [List.length_set]; exact hy) ?_
    intro j hj
    by_cases hji : j = i
    · subst hji
      rw [List.getElem?_set_self (by omega), List.getElem?_map, List.getElem?_eq_getElem hi]; rfl
    · rw [List.getElem?_set_ne (by omega)]
      exact he j (by omega)
theorem laws_toProcS_ev {xs : List S111} (hl : xs.length ≤ 1099511627776) : Ev (fun k => laws_toProcS.f k xs) (xs.map cProc) := by
  unfold laws_toProcS.f
  refine ev_pos (by omega) (ev_pos (by omega) ?_)
  exact laws_toProcS_l0 xs (by omega) xs.length 0 _ (by omega) (by simp) (fun j hj => by omega)
theorem laws_eqProc_self (a0 a1 a2 a3 a4 a5 a6 a7 a8 a9 : Int) : laws_eqProc.f a0 a1 a2 a3 a4 a5 a6 a7 a8 a9 a0 a1 a2 a3 a4 a5 a6 a7 a8 a9 = some true := by
  unfold laws_eqProc.f
  simp
theorem laws_eqProcS_l0 (xs : List S87) (hl : xs.length ≤ 4611686018427387904) : ∀ (d i : Nat), i + d = xs.length → Ev (fun k => laws_eqProcS.l0 k xs xs (i : Int)) true := by
  intro d
  induction d with
  | zero =>
    intro i h
    exact Ev.step (fun _ => laws_eqProcS.l0.eq_2 ..) (ev_neg (by omega) (ev_ret rfl))
  | succ d ih =>
    intro i h
    refine Ev.step (fun _ => laws_eqProcS.l0.eq_2 ..) (ev_pos (by omega) (ev_pos (by omega) (ev_pos (by omega) (ev_bind0 (laws_eqProc_self ..) (ev_pos rfl ?_)))))
    rw [w64_succ (n := xs.length) (by omega) hl]
    exact ih (i + 1) (by omega)
theorem laws_eqProcS_ev {xs : List S87} (hl : xs.length ≤ 1099511627776) : Ev (fun k => laws_eqProcS.f k xs xs) true := by
  unfold laws_eqProcS.f
  exact ev_pos rfl (laws_eqProcS_l0 xs (by omega) xs.length 0 (by omega))
theorem laws_szProcS_eq {xs : List S111} (hl : xs.length ≤ maxLen) {n : Int} (h0 : 0 ≤ n) (h1 : n ≤ 1048576) : laws_szProcS.f xs n = some (if n < xs.length then -1 else n - xs.length) := by
  have hl2 := wf_le hl
  unfold laws_szProcS.f
  rw [w64_id (x := n - (xs.length : Int)) (by omega) (by omega)]
  by_cases h : n < xs.length
  · rw [if_pos (by omega), if_pos h]
  · rw [if_neg (by omega), if_neg h]
theorem laws_eqInt64S_l0 (xs : List Int) (hl : xs.length ≤ 4611686018427387904) : ∀ (d i : Nat), i + d = xs.length → Ev (fun k => laws_eqInt64S.l0 k xs xs (i : Int)) true := by
  intro d
  induction d with
  | zero =>
    intro i h
    refine Ev.step (fun _ => laws_eqInt64S.l0.eq_2 ..) ?_
    exact ev_neg (by omega) (ev_ret rfl)
  | succ d ih =>
    intro i h
    refine Ev.step (fun _ => laws_eqInt64S.l0.eq_2 ..) ?_
    refine ev_pos (by omega) (ev_pos (by omega) (ev_pos (by omega) (ev_pos rfl ?_)))
    have e : wrap64 ((i : Int) + 1) = ((i + 1 : Nat) : Int) := by rw [w64_id (by omega) (by omega)]; omega
    rw [e]
    exact ih (i + 1) (by omega)
theorem laws_eqInt64S_ev {xs : List Int} (hl : xs.length ≤ 1099511627776) : Ev (fun k => laws_eqInt64S.f k xs xs) true := by
  unfold laws_eqInt64S.f
  exact ev_pos rfl (laws_eqInt64S_l0 xs (by omega) xs.length 0 (by omega))
/-- A whole number of 64 bits as its bits say it. -/
def nn (x : Int) : Nat := (x % 18446744073709551616).toNat
theorem nn_lt (x : Int) : nn x < 2 ^ 64 := by unfold nn; omega
theorem nn_ofInt (x : Int) : BitVec.ofInt 64 x = BitVec.ofNat 64 (nn x) := by
  apply BitVec.eq_of_toNat_eq
  rw [BitVec.toNat_ofInt, BitVec.toNat_ofNat]
  unfold nn
  omega
theorem nn_pos {x : Int} (h0 : 0 ≤ x) (h1 : x < 9223372036854775808) : ((nn x : Nat) : Int) = x := by unfold nn; omega
theorem nn_small {x : Int} (h0 : -9223372036854775808 ≤ x) (h1 : x < 9223372036854775808) (h : nn x < 65536) : ((nn x : Nat) : Int) = x := by unfold nn at *; omega
theorem nn_wrap (n : Nat) (h : n < 2 ^ 64) : nn (IntKind.i64.wrap (n : Int)) = n := by
  rw [IntKind.wrap_i64]; unfold nn; omega
theorem wrap_zero {n : Nat} (h : n < 2 ^ 64) : IntKind.i64.wrap (n : Int) = 0 ↔ n = 0 := by
  rw [IntKind.wrap_i64]; omega
theorem bits_i64 (op : BinOp) (x y : Int) : Go.bits op .i64 x y = IntKind.i64.wrap (((match op with
    | .and => BitVec.ofNat 64 (nn x) &&& BitVec.ofNat 64 (nn y)
    | .or => BitVec.ofNat 64 (nn x) ||| BitVec.ofNat 64 (nn y)
    | .xor => BitVec.ofNat 64 (nn x) ^^^ BitVec.ofNat 64 (nn y)
    | _ => BitVec.ofNat 64 (nn x) &&& ~~~ BitVec.ofNat 64 (nn y)) : BitVec 64).toNat : Int) := by
  unfold Go.bits
  simp only [IntKind.bits]
  rw [nn_ofInt x, nn_ofInt y]
  cases op <;> rfl
theorem nn_or (x y : Int) : nn (Go.bits .or .i64 x y) = nn x ||| nn y := by
  rw [bits_i64]
  show nn (IntKind.i64.wrap (((BitVec.ofNat 64 (nn x) ||| BitVec.ofNat 64 (nn y)).toNat : Nat) : Int)) = _
  rw [nn_wrap _ (BitVec.isLt _)]
  simp [Nat.mod_eq_of_lt (nn_lt x), Nat.mod_eq_of_lt (nn_lt y)]
theorem or_zero (x y : Int) : Go.bits .or .i64 x y = 0 ↔ nn x ||| nn y = 0 := by
  rw [bits_i64]
  show IntKind.i64.wrap (((BitVec.ofNat 64 (nn x) ||| BitVec.ofNat 64 (nn y)).toNat : Nat) : Int) = 0 ↔ _
  rw [wrap_zero (BitVec.isLt _)]
  simp [Nat.mod_eq_of_lt (nn_lt x), Nat.mod_eq_of_lt (nn_lt y)]
theorem and_zero (x y : Int) : Go.bits .and .i64 x y = 0 ↔ nn x &&& nn y = 0 := by
  rw [bits_i64]
  show IntKind.i64.wrap (((BitVec.ofNat 64 (nn x) &&& BitVec.ofNat 64 (nn y)).toNat : Nat) : Int) = 0 ↔ _
  rw [wrap_zero (BitVec.isLt _)]
  simp [Nat.mod_eq_of_lt (nn_lt x), Nat.mod_eq_of_lt (nn_lt y)]
theorem andNot_zero (x y : Int) : Go.bits .andNot .i64 x y = 0 ↔ nn x &&& nn y = nn x := by
  rw [bits_i64]
  show IntKind.i64.wrap (((BitVec.ofNat 64 (nn x) &&& ~~~ BitVec.ofNat 64 (nn y)).toNat : Nat) : Int) = 0 ↔ _
  rw [wrap_zero (BitVec.isLt _)]
  have e : (BitVec.ofNat 64 (nn x) &&& ~~~ BitVec.ofNat 64 (nn y)) = (BitVec.ofNat 64 (nn x) ^^^ (BitVec.ofNat 64 (nn x) &&& BitVec.ofNat 64 (nn y))) := by
    apply BitVec.eq_of_getLsbD_eq
    intro i hi
    simp only [BitVec.getLsbD_and, BitVec.getLsbD_not, BitVec.getLsbD_xor, hi, decide_true, Bool.true_and]
    cases (BitVec.ofNat 64 (nn x)).getLsbD i <;> cases (BitVec.ofNat 64 (nn y)).getLsbD i <;> rfl
  rw [e]
  have e2 : (BitVec.ofNat 64 (nn x) ^^^ (BitVec.ofNat 64 (nn x) &&& BitVec.ofNat 64 (nn y))).toNat = nn x ^^^ (nn x &&& nn y) := by
    simp [Nat.mod_eq_of_lt (nn_lt x), Nat.mod_eq_of_lt (nn_lt y)]
  rw [e2]
  constructor
  · intro h
    apply Nat.eq_of_testBit_eq
    intro i
    have := congrArg (fun n => Nat.testBit n i) h
    simp only [Nat.testBit_xor, Nat.testBit_and, Nat.zero_testBit] at this
    rw [Nat.testBit_and]
    cases hx : (nn x).testBit i <;> cases hy : (nn y).testBit i <;> simp_all
  · intro h; rw [h, Nat.xor_self]
/-- The bits of the one are among the other's. -/
def sub (n m : Nat) : Prop := n &&& m = n
theorem sub_iff {n m : Nat} : sub n m ↔ ∀ i, n.testBit i = true → m.testBit i = true := by
  unfold sub
  constructor
  · intro h i hi
    have := congrArg (fun k => Nat.testBit k i) h
    simp only [Nat.testBit_and, hi, Bool.true_and] at this
    exact this
  · intro h
    apply Nat.eq_of_testBit_eq
    intro i
    rw [Nat.testBit_and]
    cases hn : n.testBit i
    · rfl
    · rw [h i hn]; rfl
instance (n m : Nat) : Decidable (sub n m) := by unfold sub; exact inferInstance
theorem sub_or {a b m : Nat} : sub (a ||| b) m ↔ sub a m ∧ sub b m := by
  rw [sub_iff, sub_iff, sub_iff]
  constructor
  · intro h
    exact ⟨fun i hi => h i (by rw [Nat.testBit_or, hi]; rfl), fun i hi => h i (by rw [Nat.testBit_or, hi, Bool.or_true])⟩
  · intro h i hi
    rw [Nat.testBit_or] at hi
    cases ha : a.testBit i
    · rw [ha, Bool.false_or] at hi; exact h.2 i hi
    · exact h.1 i ha
theorem sub_le {n m : Nat} (h : sub n m) : n ≤ m := by
  unfold sub at h
  rw [← h]; exact Nat.and_le_right
theorem sub_even {n : Nat} : sub n 65534 ↔ n < 65536 ∧ n % 2 = 0 := by
  constructor
  · intro h
    refine ⟨by have := sub_le h; omega, ?_⟩
    have h0 : n.testBit 0 = false := by
      cases hb : n.testBit 0
      · rfl
      · have := sub_iff.1 h 0 hb
        exact absurd this (by decide)
    rw [Nat.testBit_zero] at h0
    have := Nat.mod_two_eq_zero_or_one n
    rcases this with h1 | h1
    · exact h1
    · rw [h1] at h0; exact absurd h0 (by decide)
  · rintro ⟨h1, h2⟩
    rw [sub_iff]
    intro i hi
    have hi16 : i < 16 := by
      rcases Nat.lt_or_ge i 16 with h | h
      · exact h
      · have := Nat.testBit_lt_two_pow (x := n) (i := i) (Nat.lt_of_lt_of_le h1 (show 65536 ≤ 2 ^ i from Nat.le_trans (by decide : 65536 ≤ 2 ^ 16) (Nat.pow_le_pow_right (by decide) h)))
        rw [this] at hi; cases hi
    have hi0 : i ≠ 0 := by
      rintro rfl
      rw [Nat.testBit_zero, h2] at hi
      cases hi
    exact (by decide : ∀ i, i < 16 → i ≠ 0 → Nat.testBit 65534 i = true) i hi16 hi0
theorem sub_soft {n : Nat} : sub n 60926 ↔ sub n 65534 ∧ n.testBit 9 = false ∧ n.testBit 12 = false := by
  constructor
  · intro h
    refine ⟨sub_iff.2 fun i hi => ?_, ?_, ?_⟩
    · have h1 := sub_iff.1 h i hi
      have hi16 : i < 16 := by
        rcases Nat.lt_or_ge i 16 with h | h
        · exact h
        · have := Nat.testBit_lt_two_pow (x := 60926) (i := i) (Nat.lt_of_lt_of_le (by decide : 60926 < 2 ^ 16) (Nat.pow_le_pow_right (by decide) h))
          rw [this] at h1; cases h1
      exact (by decide : ∀ i, i < 16 → Nat.testBit 60926 i = true → Nat.testBit 65534 i = true) i hi16 h1
    · cases hb : n.testBit 9
      · rfl
      · exact absurd (sub_iff.1 h 9 hb) (by decide)
    · cases hb : n.testBit 12
      · rfl
      · exact absurd (sub_iff.1 h 12 hb) (by decide)
  · rintro ⟨h1, h9, h12⟩
    rw [sub_iff]
    intro i hi
    have h2 := sub_iff.1 h1 i hi
    have hi16 : i < 16 := by
      rcases Nat.lt_or_ge i 16 with h | h
      · exact h
      · have := Nat.testBit_lt_two_pow (x := 65534) (i := i) (Nat.lt_of_lt_of_le (by decide : 65534 < 2 ^ 16) (Nat.pow_le_pow_right (by decide) h))
        rw [this] at h2; cases h2
    have n9 : i ≠ 9 := by rintro rfl; rw [h9] at hi; cases hi
    have n12 : i ≠ 12 := by rintro rfl; rw [h12] at hi; cases hi
    exact (by decide : ∀ i, i < 16 → i ≠ 9 → i ≠ 12 → Nat.testBit 65534 i = true → Nat.testBit 60926 i = true) i hi16 n9 n12 h2
theorem or_eq_zero {a b : Nat} : a ||| b = 0 ↔ a = 0 ∧ b = 0 := by
  constructor
  · intro h
    have h1 : a ≤ a ||| b := Nat.left_le_or
    have h2 : b ≤ a ||| b := Nat.right_le_or
    omega
  · rintro ⟨rfl, rfl⟩; rfl
/-- No place from s on, for d places, at which both have a bit. -/
def apB (a b : Nat) : Nat → Nat → Bool
  | 0, _ => true
  | d + 1, s => !(a.testBit s && b.testBit s) && apB a b d (s + 1)
theorem apB_iff (a b : Nat) : ∀ d s, apB a b d s = true ↔ ∀ t, s ≤ t → t < s + d → ¬ (a.testBit t = true ∧ b.testBit t = true)
  | 0, s => ⟨fun _ t h1 h2 => by omega, fun _ => rfl⟩
  | d + 1, s => by
    rw [apB, Bool.and_eq_true, apB_iff a b d (s + 1)]
    constructor
    · rintro ⟨h1, h2⟩ t h3 h4
      rcases Nat.eq_or_lt_of_le h3 with rfl | h3
      · revert h1
        cases a.testBit s <;> cases b.testBit s <;> simp
      · exact h2 t (by omega) (by omega)
    · intro h
      refine ⟨?_, fun t h3 h4 => h t (by omega) (by omega)⟩
      have := h s (Nat.le_refl _) (by omega)
      revert this
      cases a.testBit s <;> cases b.testBit s <;> simp
theorem and_apart {a b : Nat} (ha : sub a 65534) : a &&& b = 0 ↔ ∀ s, 1 ≤ s → s ≤ 15 → ¬ (a.testBit s = true ∧ b.testBit s = true) := by
  constructor
  · intro h s _ _ ⟨h1, h2⟩
    have := congrArg (fun n => Nat.testBit n s) h
    simp [h1, h2] at this
  · intro h
    apply Nat.eq_of_testBit_eq
    intro i
    rw [Nat.testBit_and, Nat.zero_testBit]
    cases h1 : a.testBit i
    · rfl
    · cases h2 : b.testBit i
      · rfl
      · exfalso
        have h3 := sub_iff.1 ha i h1
        have hi16 : i < 16 := by
          rcases Nat.lt_or_ge i 16 with h | h
          · exact h
          · have := Nat.testBit_lt_two_pow (x := 65534) (i := i) (Nat.lt_of_lt_of_le (by decide : 65534 < 2 ^ 16) (Nat.pow_le_pow_right (by decide) h))
            rw [this] at h3; cases h3
        have hi0 : i ≠ 0 := by rintro rfl; exact absurd h3 (by decide)
        exact h i (by omega) (by omega) ⟨h1, h2⟩
/-! A way up in a table: from i to P i, to the place 0. -/
def reachB (P : Nat → Nat) : Nat → Nat → Bool
  | 0, i => i == 0
  | m + 1, i => i == 0 || reachB P m (P i)
theorem reachB_zero (P : Nat → Nat) : ∀ m, reachB P m 0 = true
  | 0 => rfl
  | m + 1 => rfl
theorem reachB_succ (P : Nat → Nat) : ∀ m i, reachB P m i = true → reachB P (m + 1) i = true
  | 0, i, h => by
    have h0 : (i == 0) = true := h
    show (i == 0 || reachB P 0 (P i)) = true
    rw [h0]; rfl
  | m + 1, i, h => by
    rw [reachB, Bool.or_eq_true] at h ⊢
    exact h.imp id (reachB_succ P m _)
theorem reachB_mono (P : Nat → Nat) {m n i : Nat} (h : m ≤ n) (hr : reachB P m i = true) : reachB P n i = true := by
  induction h with
  | refl => exact hr
  | step _ ih => exact reachB_succ P _ _ ih
theorem countP_lt {α : Type} {p q : α → Bool} (hpq : ∀ x, p x = true → q x = true) : ∀ (l : List α) (a : α), a ∈ l → q a = true → p a = false → l.countP p < l.countP q
  | [], _, h, _, _ => by cases h
  | x :: xs, a, h, hq, hp => by
    have hm : xs.countP p ≤ xs.countP q := List.countP_mono_left (fun y _ hy => hpq y hy)
    rw [List.countP_cons, List.countP_cons]
    rcases List.mem_cons.1 h with rfl | h
    · rw [hq, hp]; simp; omega
    · have := countP_lt hpq xs a h hq hp
      by_cases hx : p x = true
      · rw [if_pos hx, if_pos (hpq x hx)]; omega
      · rw [if_neg hx]; omega
theorem reach_stable (P : Nat → Nat) (N : Nat) (hP : ∀ i, i < N → P i < N) {m : Nat} (hs : ∀ i, i < N → reachB P (m + 1) i = true → reachB P m i = true) : ∀ k i, i < N → reachB P (m + k) i = true → reachB P m i = true
  | 0, i, _, h => h
  | k + 1, i, hi, h => by
    refine hs i hi ?_
    rw [show m + (k + 1) = (m + k) + 1 by omega, reachB, Bool.or_eq_true] at h
    rw [reachB, Bool.or_eq_true]
    exact h.imp id (fun h => reach_stable P N hP hs k _ (hP i hi) h)
theorem reach_count (P : Nat → Nat) (N : Nat) (hN : 0 < N) : ∀ m, (∃ m', m' ≤ m ∧ ∀ i, i < N → reachB P (m' + 1) i = true → reachB P m' i = true) ∨ m + 1 ≤ (List.range N).countP (reachB P m)
  | 0 => .inr (by
    have : 0 < (List.range N).countP (reachB P 0) := List.countP_pos_iff.2 ⟨0, List.mem_range.2 hN, rfl⟩
    omega)
  | m + 1 => by
    rcases reach_count P N hN m with ⟨m', h1, h2⟩ | h
    · exact .inl ⟨m', by omega, h2⟩
    · by_cases hs : ∀ i, i < N → reachB P (m + 1) i = true → reachB P m i = true
      · exact .inl ⟨m, by omega, hs⟩
      · simp only [Classical.not_forall] at hs
        obtain ⟨i, hi, h3, h4⟩ := hs
        have := countP_lt (p := reachB P m) (q := reachB P (m + 1)) (fun x hx => reachB_succ P m x hx) (List.range N) i (List.mem_range.2 hi) h3 (by simpa using h4)
        exact .inr (by omega)
/-- Who comes to the place 0 at all comes there in as many steps as there are places. -/
theorem reach_short (P : Nat → Nat) (N : Nat) (hP : ∀ i, i < N → P i < N) {m i : Nat} (hi : i < N) (h : reachB P m i = true) : reachB P N i = true := by
  rcases reach_count P N (by omega) N with ⟨m', h1, h2⟩ | h3
  · refine reachB_mono P h1 ?_
    rcases Nat.le_total m m' with h4 | h4
    · exact reachB_mono P h4 h
    · obtain ⟨k, rfl⟩ := Nat.exists_eq_add_of_le h4
      exact reach_stable P N hP h2 k i hi h
  · have := List.countP_le_length (p := reachB P N) (l := List.range N)
    rw [List.length_range] at this
    omega
theorem pidx_some (id : Int) : ∀ (xs : List S87) (i j : Nat), impl_Procs_at.idx id xs i = some j → i ≤ j ∧ ∃ y, xs[j - i]? = some y ∧ y.f0 = id
  | [], _, _, h => by cases h
  | x :: xs, i, j, h => by
    rw [impl_Procs_at.idx] at h
    split at h
    · rename_i hx
      obtain rfl := Option.some.inj h
      exact ⟨Nat.le_refl _, x, by simp, hx⟩
    · obtain ⟨h1, y, h2, h3⟩ := pidx_some id xs (i + 1) j h
      refine ⟨by omega, y, ?_, h3⟩
      rw [show j - i = (j - (i + 1)) + 1 by omega, List.getElem?_cons_succ]
      exact h2
theorem pidx_none (id : Int) : ∀ (xs : List S87) (i : Nat), impl_Procs_at.idx id xs i = none → ∀ x ∈ xs, x.f0 ≠ id
  | [], _, _ => fun _ h => by cases h
  | x :: xs, i, h => by
    rw [impl_Procs_at.idx] at h
    split at h
    · cases h
    · rename_i hx
      intro y hy
      rcases List.mem_cons.1 hy with rfl | hy
      · exact hx
      · exact pidx_none id xs (i + 1) h y hy
def findV (id : Int) (o : Option Nat) : Int := match o with | some j => (j : Int) | none => -1
theorem spec_l16Find_l0 (id : Int) (l : List S87) (hl : l.length ≤ 4611686018427387904) : ∀ (d i : Nat), i + d = l.length → Ev (fun k => spec_l16Find.l0 k id (i : Int) l) (findV id (impl_Procs_at.idx id (l.drop i) i)) := by
  intro d
  induction d with
  | zero =>
    intro i h
    rw [List.drop_eq_nil_of_le (by omega)]
    exact Ev.step (fun _ => spec_l16Find.l0.eq_2 ..) (ev_neg (by omega) (ev_ret rfl))
  | succ d ih =>
    intro i h
    have hi : i < l.length := by omega
    have er : rd_T87 l (i : Int) = l[i] := getD_nat _ hi
    rw [List.drop_eq_getElem_cons hi, impl_Procs_at.idx]
    refine Ev.step (fun _ => spec_l16Find.l0.eq_2 ..) (ev_pos (by omega) (ev_pos (by omega) ?_))
    rw [er, w64_succ hi hl]
    by_cases hb : l[i].f0 = id
    · rw [if_pos hb]
      exact ev_pos hb (ev_ret rfl)
    · rw [if_neg hb]
      exact ev_neg hb (ih (i + 1) (by omega))
theorem spec_l16Find_ev (id : Int) {l : List S87} (hl : l.length ≤ 1099511627776) : Ev (fun k => spec_l16Find.f k l id) (findV id (impl_Procs_at.idx id l 0)) := by
  unfold spec_l16Find.f
  exact spec_l16Find_l0 id l (by omega) l.length 0 (by omega)
theorem spec_l16Pow_ev {n : Nat} (h : n ≤ 62) : Ev (fun k => spec_l16Pow.f k (n : Int)) ((2 ^ n : Nat) : Int) := by
  unfold spec_l16Pow.f
  refine Ev.bind (spec_l1Pow_ev (by omega)) (ev_ret ?_)
  have h1 : 2 ^ n ≤ 2 ^ 62 := Nat.pow_le_pow_right (by decide) h
  have h2 : (2 : Nat) ^ 62 = 4611686018427387904 := by decide
  generalize 2 ^ n = p at *
  rw [w64_id (by omega) (by omega)]
theorem spec_l16Set_ev {x : Int} (h0 : -9223372036854775808 ≤ x) (h1 : x < 9223372036854775808) : Ev (fun k => spec_l16Set.f k x) (decide (sub (nn x) 65534)) := by
  unfold spec_l16Set.f
  by_cases hx : x ≥ 0
  · refine ev_pos hx (Ev.bind (spec_l16Pow_ev (n := 16) (by decide)) ?_)
    have e := nn_pos hx h1
    by_cases h2 : x < 65536
    · refine ev_pos (by simpa using h2) (ev_ret ?_)
      have e2 : Int.tmod x 2 = x % 2 := Int.tmod_eq_emod_of_nonneg hx
      rw [e2]
      by_cases h3 : x % 2 = 0
      · rw [h3, decide_eq_true (sub_even.2 ⟨by omega, by omega⟩)]; rfl
      · rw [decide_eq_false (fun h_ => h3 (by have := (sub_even.1 h_).2; omega)), show x % 2 = 1 by omega]; rfl
    · refine ev_neg (by simpa using h2) (ev_ret ?_)
      rw [decide_eq_false (fun h_ => h2 (by have := (sub_even.1 h_).1; omega))]
  · refine ev_neg hx (ev_ret ?_)
    rw [decide_eq_false (fun h_ => by
      have h3 := (sub_even.1 h_).1
      have := nn_small h0 h1 h3
      omega)]
theorem spec_l16Has_ev {x : Int} (h0 : 0 ≤ x) (h1 : x < 65536) {s : Nat} (hs : s ≤ 62) : Ev (fun k => spec_l16Has.f k x (s : Int)) ((nn x).testBit s) := by
  unfold spec_l16Has.f
  have hp : 0 < 2 ^ s := Nat.two_pow_pos s
  have e := nn_pos h0 (by omega)
  refine Ev.bind (spec_l16Pow_ev hs) (ev_neg (by omega) (ev_ret ?_))
  have e1 : Int.tdiv x ((2 ^ s : Nat) : Int) = ((nn x / 2 ^ s : Nat) : Int) := by
    have h2 := tdiv_nat (nn x) (2 ^ s)
    rw [e] at h2
    exact h2
  have hle : nn x / 2 ^ s ≤ nn x := Nat.div_le_self _ _
  have e2 : wrap64 ((nn x / 2 ^ s : Nat) : Int) = ((nn x / 2 ^ s : Nat) : Int) := by
    generalize nn x / 2 ^ s = q at hle
    exact w64_id (by omega) (by omega)
  rw [e1, e2]
  have e3 : Int.tmod ((nn x / 2 ^ s : Nat) : Int) 2 = ((nn x / 2 ^ s % 2 : Nat) : Int) := tmod_nat (nn x / 2 ^ s) 2
  rw [e3, bit_div (nn x) s]
  cases (nn x).testBit s <;> rfl
theorem spec_l16Soft_ev {x : Int} (h0 : -9223372036854775808 ≤ x) (h1 : x < 9223372036854775808) : Ev (fun k => spec_l16Soft.f k x) (decide (sub (nn x) 60926)) := by
  unfold spec_l16Soft.f
  refine Ev.bind (spec_l16Set_ev h0 h1) ?_
  by_cases hs : sub (nn x) 65534
  · have hlt := (sub_even.1 hs).1
    have e := nn_small h0 h1 hlt
    refine ev_pos (decide_eq_true hs) (Ev.bind (spec_l16Has_ev (s := 9) (by omega) (by omega) (by decide)) ?_)
    cases h9 : (nn x).testBit 9 with
    | true =>
      refine ev_pos rfl (ev_ret ?_)
      rw [decide_eq_false (fun h_ => by rw [(sub_soft.1 h_).2.1] at h9; cases h9)]
    | false =>
      refine ev_neg (by decide) (Ev.bind (spec_l16Has_ev (s := 12) (by omega) (by omega) (by decide)) (ev_ret ?_))
      cases h12 : (nn x).testBit 12 with
      | true => rw [decide_eq_false (fun h_ => by rw [(sub_soft.1 h_).2.2] at h12; cases h12)]; rfl
      | false => rw [decide_eq_true (sub_soft.2 ⟨hs, h9, h12⟩)]; rfl
  · refine ev_neg (by simpa using hs) (ev_ret ?_)
    rw [decide_eq_false (fun h_ => hs (sub_soft.1 h_).1)]
/-- What is asked of one process by itself, but that its number is none below 1. -/
def one1 (x : S87) : Bool :=
  decide (x.f0 ≤ 32) && (decide (1 ≤ x.f2) && (decide (x.f2 ≤ 32) && (decide (0 ≤ x.f3) && (decide (x.f3 ≤ 255) && (decide (1 ≤ x.f4) && (decide (x.f4 ≤ 3) && (decide (0 ≤ x.f5) && (decide (x.f5 ≤ 255) && (decide (x.f4 = 3 ∨ x.f5 = 0) &&
  (decide (sub (nn x.f6) 65534) && (decide (sub (nn x.f7) 60926) && (decide (sub (nn x.f8) 60926) && (decide (sub (nn x.f9) 60926) && (decide (nn x.f8 &&& nn x.f9 = 0) && decide (x.f4 = 3 → nn x.f6 = 0 ∧ nn x.f7 = 0 ∧ nn x.f8 = 0 ∧ nn x.f9 = 0)))))))))))))))
def oneOk (x : S87) : Bool := decide (1 ≤ x.f0) && one1 x
structure ProcWf (x : S87) : Prop where
  l6 : -9223372036854775808 ≤ x.f6
  u6 : x.f6 < 9223372036854775808
  l7 : -9223372036854775808 ≤ x.f7
  u7 : x.f7 < 9223372036854775808
  l8 : -9223372036854775808 ≤ x.f8
  u8 : x.f8 < 9223372036854775808
  l9 : -9223372036854775808 ≤ x.f9
  u9 : x.f9 < 9223372036854775808
theorem and_false_r (b : Bool) : (b && false) = false := by cases b <;> rfl
theorem spec_l16One_l0 {f0 f1 f2 f3 f4 f5 f6 f7 f8 f9 : Int} (n6 : nn f6 < 65536) (n7 : nn f7 < 65536) (n8 : nn f8 < 65536) (n9 : nn f9 < 65536) (b6 : ((nn f6 : Nat) : Int) = f6) (b7 : ((nn f7 : Nat) : Int) = f7) (b8 : ((nn f8 : Nat) : Int) = f8) (b9 : ((nn f9 : Nat) : Int) = f9) :
    ∀ (d s : Nat), s + d = 16 → 1 ≤ s → Ev (fun k => spec_l16One.l0 k (s : Int) f0 f1 f2 f3 f4 f5 f6 f7 f8 f9) (apB (nn f8) (nn f9) d s && decide (f4 = 3 → nn f6 = 0 ∧ nn f7 = 0 ∧ nn f8 = 0 ∧ nn f9 = 0)) := by
  intro d
  induction d with
  | zero =>
    intro s h hs
    refine Ev.step (fun _ => spec_l16One.l0.eq_2 ..) (ev_neg (by omega) ?_)
    rw [apB, Bool.true_and]
    by_cases h3 : f4 = 3
    · refine ev_pos h3 (ev_ret ?_)
      rw [w64_id (x := f6 + f7) (by omega) (by omega), w64_id (x := f6 + f7 + f8) (by omega) (by omega), w64_id (by omega) (by omega)]
      by_cases hz : nn f6 = 0 ∧ nn f7 = 0 ∧ nn f8 = 0 ∧ nn f9 = 0
      · rw [decide_eq_true (fun _ => hz)]
        exact beq_iff_eq.2 (by omega)
      · rw [decide_eq_false (fun h_ => hz (h_ h3))]
        exact beq_eq_false_iff_ne.2 (by omega)
    · refine ev_neg h3 (ev_ret ?_)
      rw [decide_eq_true (fun h_ => absurd h_ h3)]
  | succ d ih =>
    intro s h hs
    have p8 : 0 ≤ f8 ∧ f8 < 65536 := by clear ih h hs; omega
    have p9 : 0 ≤ f9 ∧ f9 < 65536 := by clear ih h hs; omega
    clear n6 n7 n8 n9 b6 b7 b8 b9
    have hle : (s : Int) ≤ 15 := by omega
    have hs62 : s ≤ 62 := by omega
    have e1 : wrap64 ((s : Int) + 1) = ((s + 1 : Nat) : Int) := by rw [w64_id (by omega) (by omega)]; omega
    refine Ev.step (fun _ => spec_l16One.l0.eq_2 ..) (ev_pos hle ?_)
    rw [e1, apB]
    refine Ev.bind (spec_l16Has_ev p8.1 p8.2 hs62) ?_
    cases h8s : (nn f8).testBit s with
    | true =>
      refine ev_pos rfl (Ev.bind (spec_l16Has_ev p9.1 p9.2 hs62) ?_)
      cases h9s : (nn f9).testBit s with
      | true => exact ev_pos rfl (ev_ret rfl)
      | false =>
        refine ev_neg (by decide) ?_
        rw [Bool.and_false, Bool.not_false, Bool.true_and]
        exact ih (s + 1) (by omega) (by omega)
    | false =>
      refine ev_neg (by decide) ?_
      rw [Bool.false_and, Bool.not_false, Bool.true_and]
      exact ih (s + 1) (by omega) (by omega)
theorem spec_l16One_j2 {x : S87} (w : ProcWf x) (h6 : sub (nn x.f6) 65534) (h7 : sub (nn x.f7) 60926) (h8 : sub (nn x.f8) 60926) (h9 : sub (nn x.f9) 60926) :
    Ev (fun k => spec_l16One.j2 k false x.f0 x.f1 x.f2 x.f3 x.f4 x.f5 x.f6 x.f7 x.f8 x.f9) (decide (nn x.f8 &&& nn x.f9 = 0) && decide (x.f4 = 3 → nn x.f6 = 0 ∧ nn x.f7 = 0 ∧ nn x.f8 = 0 ∧ nn x.f9 = 0)) := by
  refine Ev.step (fun _ => spec_l16One.j2.eq_2 ..) (ev_neg (by decide) ?_)
  have n6 := (sub_even.1 h6).1
  have n7 := (sub_even.1 (sub_soft.1 h7).1).1
  have n8 := (sub_even.1 (sub_soft.1 h8).1).1
  have n9 := (sub_even.1 (sub_soft.1 h9).1).1
  have := spec_l16One_l0 (f0 := x.f0) (f1 := x.f1) (f2 := x.f2) (f3 := x.f3) (f4 := x.f4) (f5 := x.f5) n6 n7 n8 n9 (nn_small w.l6 w.u6 n6) (nn_small w.l7 w.u7 n7) (nn_small w.l8 w.u8 n8) (nn_small w.l9 w.u9 n9) 15 1 rfl (Nat.le_refl _)
  refine ev_eq ?_ this
  congr 1
  rw [Bool.eq_iff_iff, decide_eq_true_eq, apB_iff, and_apart (sub_soft.1 h8).1]
  exact ⟨fun h t h1 h2 => h t h1 (by omega), fun h t h1 h2 => h t h1 (by omega)⟩
theorem spec_l16One_bad (x : S87) : Ev (fun k => spec_l16One.j2 k true x.f0 x.f1 x.f2 x.f3 x.f4 x.f5 x.f6 x.f7 x.f8 x.f9) false := Ev.step (fun _ => spec_l16One.j2.eq_2 ..) (ev_pos rfl (ev_ret rfl))
theorem spec_l16One_j1 {x : S87} (w : ProcWf x) : Ev (fun k => spec_l16One.j1 k false x.f0 x.f1 x.f2 x.f3 x.f4 x.f5 x.f6 x.f7 x.f8 x.f9) (decide (sub (nn x.f6) 65534) && (decide (sub (nn x.f7) 60926) && (decide (sub (nn x.f8) 60926) && (decide (sub (nn x.f9) 60926) && (decide (nn x.f8 &&& nn x.f9 = 0) && decide (x.f4 = 3 → nn x.f6 = 0 ∧ nn x.f7 = 0 ∧ nn x.f8 = 0 ∧ nn x.f9 = 0)))))) := by
  refine Ev.step (fun _ => spec_l16One.j1.eq_2 ..) (ev_neg (by decide) (Ev.bind (spec_l16Set_ev w.l6 w.u6) ?_))
  by_cases h6 : sub (nn x.f6) 65534
  · rw [decide_eq_true h6]
    refine ev_pos rfl (Ev.bind (spec_l16Soft_ev w.l7 w.u7) ?_)
    by_cases h7 : sub (nn x.f7) 60926
    · rw [decide_eq_true h7]
      refine ev_pos rfl (Ev.bind (spec_l16Soft_ev w.l8 w.u8) ?_)
      by_cases h8 : sub (nn x.f8) 60926
      · rw [decide_eq_true h8]
        refine ev_pos rfl (Ev.bind (spec_l16Soft_ev w.l9 w.u9) ?_)
        by_cases h9 : sub (nn x.f9) 60926
        · rw [decide_eq_true h9]
          exact spec_l16One_j2 w h6 h7 h8 h9
        · rw [decide_eq_false h9]
          exact spec_l16One_bad x
      · rw [decide_eq_false h8]
        exact ev_neg (by decide) (spec_l16One_bad x)
    · rw [decide_eq_false h7]
      exact ev_neg (by decide) (spec_l16One_bad x)
  · rw [decide_eq_false h6]
    exact ev_neg (by decide) (spec_l16One_bad x)
theorem spec_l16One_bad1 (x : S87) : Ev (fun k => spec_l16One.j1 k true x.f0 x.f1 x.f2 x.f3 x.f4 x.f5 x.f6 x.f7 x.f8 x.f9) false := Ev.step (fun _ => spec_l16One.j1.eq_2 ..) (ev_pos rfl (ev_ret rfl))
theorem spec_l16One_bad0 (x : S87) : Ev (fun k => spec_l16One.j0 k true x.f0 x.f1 x.f2 x.f3 x.f4 x.f5 x.f6 x.f7 x.f8 x.f9) false := Ev.step (fun _ => spec_l16One.j0.eq_2 ..) (ev_pos rfl (ev_ret rfl))
theorem spec_l16One_j0 {x : S87} (w : ProcWf x) (a0 : 1 ≤ x.f0) (a1 : x.f0 ≤ 32) (a2 : 1 ≤ x.f2) (a3 : x.f2 ≤ 32) (a4 : 0 ≤ x.f3) (a5 : x.f3 ≤ 255) : Ev (fun k => spec_l16One.j0 k false x.f0 x.f1 x.f2 x.f3 x.f4 x.f5 x.f6 x.f7 x.f8 x.f9) (oneOk x) := by
  unfold oneOk one1
  rw [decide_eq_true a0, decide_eq_true a1, decide_eq_true a2, decide_eq_true a3, decide_eq_true a4, decide_eq_true a5]
  simp only [Bool.true_and]
  refine Ev.step (fun _ => spec_l16One.j0.eq_2 ..) (ev_neg (by decide) ?_)
  by_cases c1 : x.f4 < 1
  · rw [decide_eq_false (show ¬ 1 ≤ x.f4 by omega)]
    exact ev_pos c1 (spec_l16One_bad1 x)
  rw [decide_eq_true (show 1 ≤ x.f4 by omega), Bool.true_and]
  refine ev_neg c1 ?_
  by_cases c2 : x.f4 > 3
  · rw [decide_eq_false (show ¬ x.f4 ≤ 3 by omega)]
    exact ev_pos c2 (spec_l16One_bad1 x)
  rw [decide_eq_true (show x.f4 ≤ 3 by omega), Bool.true_and]
  refine ev_neg c2 ?_
  by_cases c3 : x.f5 < 0
  · rw [decide_eq_false (show ¬ 0 ≤ x.f5 by omega)]
    exact ev_pos c3 (spec_l16One_bad1 x)
  rw [decide_eq_true (show 0 ≤ x.f5 by omega), Bool.true_and]
  refine ev_neg c3 ?_
  by_cases c4 : x.f5 > 255
  · rw [decide_eq_false (show ¬ x.f5 ≤ 255 by omega)]
    exact ev_pos c4 (spec_l16One_bad1 x)
  rw [decide_eq_true (show x.f5 ≤ 255 by omega), Bool.true_and]
  refine ev_neg c4 ?_
  by_cases c5 : x.f4 = 3
  · rw [decide_eq_true (show x.f4 = 3 ∨ x.f5 = 0 from .inl c5), Bool.true_and]
    exact ev_pos c5 (spec_l16One_j1 w)
  · refine ev_neg c5 ?_
    by_cases c6 : x.f5 = 0
    · rw [decide_eq_true (show x.f4 = 3 ∨ x.f5 = 0 from .inr c6), Bool.true_and, show (x.f5 != 0) = false by simp [c6]]
      exact spec_l16One_j1 w
    · rw [decide_eq_false (show ¬ (x.f4 = 3 ∨ x.f5 = 0) from fun h_ => h_.elim c5 c6), show (x.f5 != 0) = true by simp [c6]]
      exact spec_l16One_bad1 x
theorem oneOk_parts {x : S87} (h : ¬ (1 ≤ x.f0 ∧ x.f0 ≤ 32 ∧ 1 ≤ x.f2 ∧ x.f2 ≤ 32 ∧ 0 ≤ x.f3 ∧ x.f3 ≤ 255)) : oneOk x = false := by
  cases hb : oneOk x with
  | false => rfl
  | true =>
    unfold oneOk one1 at hb
    simp only [Bool.and_eq_true, decide_eq_true_eq] at hb
    exact absurd ⟨hb.1, hb.2.1, hb.2.2.1, hb.2.2.2.1, hb.2.2.2.2.1, hb.2.2.2.2.2.1⟩ h
theorem spec_l16One_ev {l : List S87} (hl : l.length ≤ 1099511627776) {i : Nat} (hi : i < l.length) (w : ProcWf (rd_T87 l (i : Int))) :
    Ev (fun k => spec_l16One.f k l (i : Int)) (oneOk (rd_T87 l (i : Int)) && decide (i = 0 ∨ (rd_T87 l ((i - 1 : Nat) : Int)).f0 < (rd_T87 l (i : Int)).f0)) := by
  unfold spec_l16One.f
  refine ev_pos (by omega) (ev_pos (by omega) ?_)
  generalize hx : rd_T87 l (i : Int) = x at *
  have bad : oneOk x = false → Ev (fun k => spec_l16One.j0 k true x.f0 x.f1 x.f2 x.f3 x.f4 x.f5 x.f6 x.f7 x.f8 x.f9) (oneOk x && decide (i = 0 ∨ (rd_T87 l ((i - 1 : Nat) : Int)).f0 < x.f0)) := fun h => by
    rw [h, Bool.false_and]; exact spec_l16One_bad0 x
  by_cases c1 : x.f0 < 1
  · exact ev_pos c1 (bad (oneOk_parts (by omega)))
  refine ev_neg c1 ?_
  by_cases c2 : x.f0 > 32
  · exact ev_pos c2 (bad (oneOk_parts (by omega)))
  refine ev_neg c2 ?_
  have rest : decide (i = 0 ∨ (rd_T87 l ((i - 1 : Nat) : Int)).f0 < x.f0) = true → ∀ (A : Nat → Option Bool), (∀ k, A k = (if x.f2 < 1 then spec_l16One.j0 k true x.f0 x.f1 x.f2 x.f3 x.f4 x.f5 x.f6 x.f7 x.f8 x.f9 else if x.f2 > 32 then spec_l16One.j0 k true x.f0 x.f1 x.f2 x.f3 x.f4 x.f5 x.f6 x.f7 x.f8 x.f9 else if x.f3 < 0 then spec_l16One.j0 k true x.f0 x.f1 x.f2 x.f3 x.f4 x.f5 x.f6 x.f7 x.f8 x.f9 else spec_l16One.j0 k (decide (x.f3 > 255)) x.f0 x.f1 x.f2 x.f3 x.f4 x.f5 x.f6 x.f7 x.f8 x.f9)) → Ev A (oneOk x && decide (i = 0 ∨ (rd_T87 l ((i - 1 : Nat) : Int)).f0 < x.f0)) := by
    intro hd A hA
    refine Ev.congr hA ?_
    by_cases c3 : x.f2 < 1
    · exact ev_pos c3 (bad (oneOk_parts (by omega)))
    refine ev_neg c3 ?_
    by_cases c4 : x.f2 > 32
    · exact ev_pos c4 (bad (oneOk_parts (by omega)))
    refine ev_neg c4 ?_
    by_cases c5 : x.f3 < 0
    · exact ev_pos c5 (bad (oneOk_parts (by omega)))
    refine ev_neg c5 ?_
    by_cases c6 : x.f3 > 255
    · rw [decide_eq_true c6]; exact bad (oneOk_parts (by omega))
    · rw [decide_eq_false c6, hd, Bool.and_true]
      exact spec_l16One_j0 w (by omega) (by omega) (by omega) (by omega) (by omega) (by omega)
  by_cases c3 : (i : Int) > 0
  · have ew : wrap64 ((i : Int) - 1) = ((i - 1 : Nat) : Int) := by rw [w64_id (by omega) (by omega)]; omega
    refine ev_pos c3 ?_
    rw [ew]
    refine ev_pos (by omega) (ev_pos (by omega) ?_)
    by_cases c4 : (rd_T87 l ((i - 1 : Nat) : Int)).f0 ≥ x.f0
    · refine ev_pos c4 ?_
      rw [decide_eq_false (show ¬ (i = 0 ∨ (rd_T87 l ((i - 1 : Nat) : Int)).f0 < x.f0) by omega), and_false_r]
      exact spec_l16One_bad0 x
    · exact ev_neg c4 (rest (decide_eq_true (by omega)) _ (fun _ => rfl))
  · exact ev_neg c3 (rest (decide_eq_true (by omega)) _ (fun _ => rfl))
def liveV (l : List S87) (id : Int) : Bool := match impl_Procs_at.idx id l 0 with
  | some j => (rd_T87 l (j : Int)).f4 != 3
  | none => false
theorem spec_l16Lives_ev (id : Int) {l : List S87} (hl : l.length ≤ 1099511627776) : Ev (fun k => spec_l16Lives.f k l id) (liveV l id) := by
  unfold spec_l16Lives.f liveV
  refine Ev.bind (spec_l16Find_ev id hl) ?_
  cases hj : impl_Procs_at.idx id l 0 with
  | none => exact ev_neg (by simp [findV]) (ev_ret rfl)
  | some j =>
    have hlt := impl_Procs_at.idx_lt _ _ _ _ hj
    simp only [findV]
    exact ev_pos (by omega) (ev_pos (by omega) (ev_pos (by omega) (ev_ret rfl)))
def allB (p : Nat → Bool) : Nat → Nat → Bool
  | 0, _ => true
  | d + 1, i => p i && allB p d (i + 1)
theorem allB_iff (p : Nat → Bool) : ∀ d i, allB p d i = true ↔ ∀ t, i ≤ t → t < i + d → p t = true
  | 0, i => ⟨fun _ t h1 h2 => by omega, fun _ => rfl⟩
  | d + 1, i => by
    rw [allB, Bool.and_eq_true, allB_iff p d (i + 1)]
    constructor
    · rintro ⟨h1, h2⟩ t h3 h4
      rcases Nat.eq_or_lt_of_le h3 with rfl | h3
      · exact h1
      · exact h2 t (by omega) (by omega)
    · intro h
      exact ⟨h i (Nat.le_refl _) (by omega), fun t h3 h4 => h t (by omega) (by omega)⟩
theorem reach_self (P : Nat → Nat) {i : Nat} (h : P i = i) (h0 : i ≠ 0) : ∀ m, reachB P m i = false
  | 0 => by rw [reachB]; simpa using h0
  | m + 1 => by rw [reachB, h, reach_self P h h0 m]; simpa using h0
/-- The place of a process's parent. -/
def parV (l : List S87) (i : Nat) : Nat := match impl_Procs_at.idx (rd_T87 l (i : Int)).f1 l 0 with
  | some j => j
  | none => l.length
structure Good (l : List S87) : Prop where
  pos : 0 < l.length
  len : l.length ≤ 32
  first : (rd_T87 l ((0 : Nat) : Int)).f0 = 1
  ord : ∀ i, 0 < i → i < l.length → (rd_T87 l ((i - 1 : Nat) : Int)).f0 < (rd_T87 l (i : Int)).f0
  par : ∀ i, 0 < i → i < l.length → impl_Procs_at.idx (rd_T87 l (i : Int)).f1 l 0 = some (parV l i)
theorem Good.lt {l : List S87} (g : Good l) : ∀ d i, i + (d + 1) < l.length → (rd_T87 l (i : Int)).f0 < (rd_T87 l ((i + (d + 1) : Nat) : Int)).f0
  | 0, i, h => by
    have := g.ord (i + 1) (by omega) h
    rw [show i + 1 - 1 = i by omega] at this
    exact this
  | d + 1, i, h => by
    have h1 := Good.lt g d i (by omega)
    have h2 := g.ord (i + (d + 1 + 1)) (by omega) h
    rw [show i + (d + 1 + 1) - 1 = i + (d + 1) by omega] at h2
    omega
theorem Good.one {l : List S87} (g : Good l) {i : Nat} (h : i < l.length) : (rd_T87 l (i : Int)).f0 = 1 ↔ i = 0 := by
  constructor
  · intro h1
    rcases Nat.eq_zero_or_pos i with h0 | h0
    · exact h0
    · obtain ⟨d, rfl⟩ : ∃ d, i = 0 + (d + 1) := ⟨i - 1, by omega⟩
      have := g.lt d 0 h
      have := g.first
      omega
  · rintro rfl; exact g.first
theorem Good.pos1 {l : List S87} (g : Good l) {i : Nat} (h : i < l.length) : 1 ≤ (rd_T87 l (i : Int)).f0 := by
  rcases Nat.eq_zero_or_pos i with rfl | h0
  · have := g.first; omega
  · obtain ⟨d, rfl⟩ : ∃ d, i = 0 + (d + 1) := ⟨i - 1, by omega⟩
    have := g.lt d 0 h
    have := g.first
    omega
theorem Good.inj {l : List S87} (g : Good l) {i j : Nat} (hi : i < l.length) (hj : j < l.length) (h : (rd_T87 l (i : Int)).f0 = (rd_T87 l (j : Int)).f0) : i = j := by
  rcases Nat.lt_trichotomy i j with h1 | h1 | h1
  · obtain ⟨d, rfl⟩ : ∃ d, j = i + (d + 1) := ⟨j - i - 1, by omega⟩
    have := g.lt d i hj
    omega
  · exact h1
  · obtain ⟨d, rfl⟩ : ∃ d, i = j + (d + 1) := ⟨i - j - 1, by omega⟩
    have := g.lt d j hi
    omega
theorem rd_idx {l : List S87} {id : Int} {j : Nat} (h : impl_Procs_at.idx id l 0 = some j) : j < l.length ∧ (rd_T87 l (j : Int)).f0 = id := by
  have h1 := impl_Procs_at.idx_lt _ _ _ _ h
  obtain ⟨_, y, h2, h3⟩ := pidx_some _ _ _ _ h
  have hj : j < l.length := by omega
  refine ⟨hj, ?_⟩
  have er : rd_T87 l (j : Int) = l[j] := getD_nat _ hj
  rw [er]
  rw [Nat.sub_zero, List.getElem?_eq_getElem hj] at h2
  rw [Option.some.inj h2]
  exact h3
theorem Good.idx {l : List S87} (g : Good l) {i : Nat} (h : i < l.length) : impl_Procs_at.idx (rd_T87 l (i : Int)).f0 l 0 = some i := by
  cases hj : impl_Procs_at.idx (rd_T87 l (i : Int)).f0 l 0 with
  | none =>
    have er : rd_T87 l (i : Int) = l[i] := getD_nat _ h
    exact absurd (by rw [er]) (pidx_none _ _ _ hj l[i] (List.getElem_mem h))
  | some j =>
    obtain ⟨h1, h2⟩ := rd_idx hj
    rw [g.inj h1 h h2]
theorem Good.parlt {l : List S87} (g : Good l) {i : Nat} (h0 : 0 < i) (h : i < l.length) : parV l i < l.length ∧ (rd_T87 l ((parV l i : Nat) : Int)).f0 = (rd_T87 l (i : Int)).f1 := rd_idx (g.par i h0 h)
/-- The first loop's test. -/
def sOne (l : List S87) (i : Nat) : Bool := oneOk (rd_T87 l (i : Int)) && decide (i = 0 ∨ (rd_T87 l ((i - 1 : Nat) : Int)).f0 < (rd_T87 l (i : Int)).f0) && (decide (i = 0) || liveV l (rd_T87 l (i : Int)).f1)
theorem spec_ProcsOk_l2 {l : List S87} (g : Good l) {i : Nat} (hi : i < l.length) {cont : Bool} (hc : Ev (fun k => spec_ProcsOk.l1 k ((i + 1 : Nat) : Int) l) cont) :
    ∀ (e n c : Nat), n + e = l.length + 1 → c < l.length → Ev (fun k => spec_ProcsOk.l2 k (i : Int) (rd_T87 l (c : Int)).f0 (n : Int) l) (reachB (parV l) e c && cont) := by
  have hlen := g.len
  have ew : wrap64 ((i : Int) + 1) = ((i + 1 : Nat) : Int) := by rw [w64_id (by omega) (by omega)]; omega
  intro e
  induction e with
  | zero =>
    intro n c h hcl
    refine Ev.step (fun _ => spec_ProcsOk.l2.eq_2 ..) (ev_neg (by omega) ?_)
    rw [ew]
    by_cases h0 : c = 0
    · rw [reachB, show (c == 0) = true by simp [h0], Bool.true_and]
      exact ev_pos ((g.one hcl).2 h0) hc
    · rw [reachB, show (c == 0) = false by simp [h0], Bool.false_and]
      exact ev_neg (fun h1 => h0 ((g.one hcl).1 h1)) (ev_ret rfl)
  | succ e ih =>
    intro n c h hcl
    have en : wrap64 ((n : Int) + 1) = ((n + 1 : Nat) : Int) := by rw [w64_id (by omega) (by omega)]; omega
    refine Ev.step (fun _ => spec_ProcsOk.l2.eq_2 ..) (ev_pos (by omega) ?_)
    rw [ew, en]
    by_cases h0 : c = 0
    · rw [reachB, show (c == 0) = true by simp [h0], Bool.true_or, Bool.true_and]
      exact ev_pos ((g.one hcl).2 h0) hc
    · rw [reachB, show (c == 0) = false by simp [h0], Bool.false_or]
      refine ev_neg (fun h1 => h0 ((g.one hcl).1 h1)) (Ev.bind (spec_l16Find_ev _ (by omega)) ?_)
      rw [g.idx hcl]
      obtain ⟨p1, p2⟩ := g.parlt (by omega : 0 < c) hcl
      refine ev_pos (by simp only [findV]; omega) (ev_pos (by simp only [findV]; omega) ?_)
      simp only [findV]
      rw [← p2]
      exact ih (n + 1) (parV l c) (by omega) p1
theorem spec_ProcsOk_l1 {l : List S87} (g : Good l) : ∀ (d i : Nat), i + d = l.length → Ev (fun k => spec_ProcsOk.l1 k (i : Int) l) (allB (fun i => reachB (parV l) (l.length + 1) i) d i) := by
  have hlen := g.len
  intro d
  induction d with
  | zero =>
    intro i h
    exact Ev.step (fun _ => spec_ProcsOk.l1.eq_2 ..) (ev_neg (by omega) (ev_ret rfl))
  | succ d ih =>
    intro i h
    have hi : i < l.length := by omega
    rw [allB]
    refine Ev.step (fun _ => spec_ProcsOk.l1.eq_2 ..) (ev_pos (by omega) (ev_pos (by omega) ?_))
    exact spec_ProcsOk_l2 g hi (ih (i + 1) (by omega)) (l.length + 1) 0 i (by omega) hi
theorem spec_ProcsOk_l0 {l : List S87} (hl : l.length ≤ 32) (hw : ∀ x ∈ l, ProcWf x) {W : Bool} (hW : allB (sOne l) l.length 0 = true → Ev (fun k => spec_ProcsOk.l1 k 0 l) W) : ∀ (d i : Nat), i + d = l.length → (allB (sOne l) d i = true → allB (sOne l) l.length 0 = true) → Ev (fun k => spec_ProcsOk.l0 k (i : Int) l) (allB (sOne l) d i && W) := by
  intro d
  induction d with
  | zero =>
    intro i h hp
    rw [allB, Bool.true_and]
    exact Ev.step (fun _ => spec_ProcsOk.l0.eq_2 ..) (ev_neg (by omega) (hW (hp rfl)))
  | succ d ih =>
    intro i h hp
    have hi : i < l.length := by omega
    have ew : wrap64 ((i : Int) + 1) = ((i + 1 : Nat) : Int) := by rw [w64_id (by omega) (by omega)]; omega
    have er : rd_T87 l (i : Int) = l[i] := getD_nat _ hi
    have wf : ProcWf (rd_T87 l (i : Int)) := by rw [er]; exact hw _ (List.getElem_mem hi)
    refine Ev.step (fun _ => spec_ProcsOk.l0.eq_2 ..) (ev_pos (by omega) (Ev.bind (spec_l16One_ev (by omega) hi wf) ?_))
    rw [ew]
    rw [allB] at hp ⊢
    cases h1 : (oneOk (rd_T87 l (i : Int)) && decide (i = 0 ∨ (rd_T87 l ((i - 1 : Nat) : Int)).f0 < (rd_T87 l (i : Int)).f0)) with
    | false =>
      have hs : sOne l i = false := by unfold sOne; rw [h1]; rfl
      rw [hs, Bool.false_and, Bool.false_and]
      exact ev_neg (by decide) (ev_ret rfl)
    | true =>
      refine ev_pos rfl ?_
      by_cases h0 : i = 0
      · have hs : sOne l i = true := by unfold sOne; rw [h1, decide_eq_true h0]; rfl
        rw [hs, Bool.true_and] at hp ⊢
        exact ev_neg (by omega) (ih (i + 1) (by omega) hp)
      · refine ev_pos (by omega) (ev_pos (by omega) (Ev.bind (spec_l16Lives_ev _ (by omega)) ?_))
        cases h2 : liveV l (rd_T87 l (i : Int)).f1 with
        | true =>
          have hs : sOne l i = true := by unfold sOne; rw [h1, h2, Bool.or_true]; rfl
          rw [hs, Bool.true_and] at hp ⊢
          exact ev_pos rfl (ih (i + 1) (by omega) hp)
        | false =>
          have hs : sOne l i = false := by unfold sOne; rw [h1, h2, decide_eq_false h0]; rfl
          rw [hs, Bool.false_and, Bool.false_and]
          exact ev_neg (by decide) (ev_ret rfl)
/-- What the first loop and what is ahead of it ask. -/
def firstV (l : List S87) : Bool := decide (0 < l.length) && (decide (l.length ≤ 32) && (decide ((rd_T87 l ((0 : Nat) : Int)).f0 = 1) && (decide ((rd_T87 l ((0 : Nat) : Int)).f1 = 0) && (!((rd_T87 l ((0 : Nat) : Int)).f4 == 3) && allB (sOne l) l.length 0))))
def okS (l : List S87) : Bool := firstV l && allB (fun i => reachB (parV l) (l.length + 1) i) l.length 0
theorem good_of {l : List S87} (h : firstV l = true) : Good l := by
  unfold firstV at h
  simp only [Bool.and_eq_true, decide_eq_true_eq] at h
  obtain ⟨h1, h2, h3, h4, h5, h6⟩ := h
  have h7 := (allB_iff _ _ _).1 h6
  refine ⟨h1, h2, h3, fun i hi0 hi => ?_, fun i hi0 hi => ?_⟩
  · have := h7 i (by omega) (by omega)
    unfold sOne at this
    simp only [Bool.and_eq_true, decide_eq_true_eq] at this
    exact this.1.2.resolve_left (by omega)
  · have := h7 i (by omega) (by omega)
    unfold sOne at this
    simp only [Bool.and_eq_true] at this
    have h8 := this.2
    rw [decide_eq_false (by omega : ¬ i = 0), Bool.false_or] at h8
    unfold liveV at h8
    unfold parV
    split at h8
    · rename_i j hj
      rw [hj]
    · cases h8
theorem spec_ProcsOk_ev {l : List S87} (hw : ∀ x ∈ l, ProcWf x) : Ev (fun k => spec_ProcsOk.f k l) (okS l) := by
  unfold spec_ProcsOk.f
  have bad : firstV l = false → Ev (fun k => spec_ProcsOk.j0 k true l) (okS l) := fun h => by
    unfold okS; rw [h, Bool.false_and]
    exact Ev.step (fun _ => spec_ProcsOk.j0.eq_2 ..) (ev_pos rfl (ev_ret rfl))
  have no : ∀ {P : Prop}, (firstV l = true → P) → ¬ P → firstV l = false := fun h1 h2 => by
    cases hf : firstV l with
    | false => rfl
    | true => exact absurd (h1 hf) h2
  have parts : firstV l = true → 0 < l.length ∧ l.length ≤ 32 ∧ (rd_T87 l ((0 : Nat) : Int)).f0 = 1 ∧ (rd_T87 l ((0 : Nat) : Int)).f1 = 0 := fun h => by
    unfold firstV at h
    simp only [Bool.and_eq_true, decide_eq_true_eq] at h
    exact ⟨h.1, h.2.1, h.2.2.1, h.2.2.2.1⟩
  by_cases c1 : (l.length : Int) = 0
  · exact ev_pos c1 (bad (no (fun h => (parts h).1) (by omega)))
  refine ev_neg c1 ?_
  by_cases c2 : (l.length : Int) > 32
  · exact ev_pos c2 (bad (no (fun h => (parts h).2.1) (by omega)))
  refine ev_neg c2 (ev_pos (by omega) ?_)
  by_cases c3 : (rd_T87 l 0).f0 = 1
  · refine ev_pos c3 ?_
    by_cases c4 : (rd_T87 l 0).f1 = 0
    · refine ev_pos c4 ?_
      refine Ev.step (fun _ => spec_ProcsOk.j0.eq_2 ..) ?_
      cases c5 : ((rd_T87 l 0).f4 == 3) with
      | true =>
        refine ev_pos rfl (ev_ret ?_)
        unfold okS
        rw [show firstV l = false from by unfold firstV; rw [show ((rd_T87 l ((0 : Nat) : Int)).f4 == 3) = true from c5]; simp]
        rfl
      | false =>
        refine ev_neg (by decide) ?_
        have hf : firstV l = allB (sOne l) l.length 0 := by
          unfold firstV
          rw [decide_eq_true (show 0 < l.length by omega), decide_eq_true (show l.length ≤ 32 by omega), decide_eq_true (show (rd_T87 l ((0 : Nat) : Int)).f0 = 1 from c3), decide_eq_true (show (rd_T87 l ((0 : Nat) : Int)).f1 = 0 from c4), show ((rd_T87 l ((0 : Nat) : Int)).f4 == 3) = false from c5]
          rfl
        unfold okS
        rw [hf]
        exact spec_ProcsOk_l0 (by omega) hw (fun ha => spec_ProcsOk_l1 (good_of (hf.trans ha)) l.length 0 (by omega)) l.length 0 (by omega) (fun h => h)
    · exact ev_neg c4 (bad (no (fun h => (parts h).2.2.2) c4))
  · exact ev_neg c3 (bad (no (fun h => (parts h).2.2.1) c3))
theorem iff_step {c : Prop} [Decidable c] {b : Bool} : ((if c then false else b) = true) ↔ ¬ c ∧ b = true := by
  by_cases h : c <;> simp [h]
theorem bits_b1 (x : Int) : ¬ (Go.bits .andNot .i64 x 65534 ≠ 0) ↔ sub (nn x) 65534 := by
  rw [Decidable.not_not, andNot_zero]
  have : nn 65534 = 65534 := by decide
  rw [this]; rfl
theorem bits_b2 (x y z : Int) : ¬ (Go.bits .andNot .i64 (Go.bits .or .i64 (Go.bits .or .i64 x y) z) 60926 ≠ 0) ↔ sub (nn x) 60926 ∧ sub (nn y) 60926 ∧ sub (nn z) 60926 := by
  rw [Decidable.not_not, andNot_zero, nn_or, nn_or]
  have : nn 60926 = 60926 := by decide
  rw [this]
  show sub _ _ ↔ _
  rw [sub_or, sub_or]
  exact ⟨fun h => ⟨h.1.1, h.1.2, h.2⟩, fun h => ⟨⟨h.1, h.2.1⟩, h.2.2⟩⟩
theorem bits_b3 (x y : Int) : ¬ (Go.bits .and .i64 x y ≠ 0) ↔ nn x &&& nn y = 0 := by
  rw [Decidable.not_not, and_zero]
theorem bits_b4 (x y z u : Int) : Go.bits .or .i64 (Go.bits .or .i64 (Go.bits .or .i64 x y) z) u ≠ 0 ↔ ¬ (nn x = 0 ∧ nn y = 0 ∧ nn z = 0 ∧ nn u = 0) := by
  rw [ne_eq, or_zero, nn_or, nn_or, or_eq_zero, or_eq_zero, or_eq_zero]
  exact not_congr ⟨fun h => ⟨h.1.1.1, h.1.1.2, h.1.2, h.2⟩, fun h => ⟨⟨⟨h.1, h.2.1⟩, h.2.2.1⟩, h.2.2.2⟩⟩
/-- What the program asks of a process's place. -/
def placeV (l : List S87) (i : Nat) (x : S87) : Bool :=
  if i = 0 then (if x.f0 ≠ 1 then false else if x.f4 = 3 then false else if x.f1 ≠ 0 then false else true) else
  match impl_Procs_at.idx x.f1 l 0 with
  | none => false
  | some j => if (rd_T87 l (j : Int)).f0 = x.f0 then false else if (rd_T87 l (j : Int)).f4 = 3 then false else true
theorem impl_one (l : List S87) (last : Int) (i : Nat) (x : S87) : impl_ProcsOk.one l last i x = true ↔ last < x.f0 ∧ one1 x = true ∧ placeV l i x = true := by
  have e : impl_ProcsOk.one l last i x = true ↔ (¬ x.f0 ≤ last ∧ ¬ 32 < x.f0 ∧ ¬ x.f2 < 1 ∧ ¬ 32 < x.f2 ∧ ¬ x.f3 < 0 ∧ ¬ 255 < x.f3 ∧ ¬ x.f4 < 1 ∧ ¬ 3 < x.f4 ∧ ¬ x.f5 < 0 ∧ ¬ 255 < x.f5 ∧ ¬ (x.f4 ≠ 3 ∧ x.f5 ≠ 0) ∧ sub (nn x.f6) 65534 ∧ (sub (nn x.f7) 60926 ∧ sub (nn x.f8) 60926 ∧ sub (nn x.f9) 60926) ∧ nn x.f8 &&& nn x.f9 = 0 ∧ ¬ (x.f4 = 3 ∧ ¬ (nn x.f6 = 0 ∧ nn x.f7 = 0 ∧ nn x.f8 = 0 ∧ nn x.f9 = 0)) ∧ placeV l i x = true) := by
    unfold impl_ProcsOk.one
    rw [iff_step, iff_step, iff_step, iff_step, iff_step, iff_step, iff_step, iff_step, iff_step, iff_step, iff_step, iff_step, iff_step, iff_step, iff_step, bits_b1, bits_b2, bits_b3, bits_b4]
    rfl
  rw [e]
  unfold one1
  simp only [Bool.and_eq_true, decide_eq_true_eq]
  constructor
  · rintro ⟨h0, h1, h2, h3, h4, h5, h6, h7, h8, h9, h10, h11, ⟨h12, h13, h14⟩, h15, h16, h17⟩
    refine ⟨by omega, ⟨by omega, by omega, by omega, by omega, by omega, by omega, by omega, by omega, by omega, ?_, h11, h12, h13, h14, h15, ?_⟩, h17⟩
    · by_cases h : x.f4 = 3
      · exact .inl h
      · exact .inr (Decidable.byContradiction fun h2 => h10 ⟨h, h2⟩)
    · exact fun h => Decidable.byContradiction fun h2 => h16 ⟨h, h2⟩
  · rintro ⟨h0, ⟨h1, h2, h3, h4, h5, h6, h7, h8, h9, h10, h11, h12, h13, h14, h15, h16⟩, h17⟩
    exact ⟨by omega, by omega, by omega, by omega, by omega, by omega, by omega, by omega, by omega, by omega, fun h => h10.elim h.1 h.2, h11, ⟨h12, h13, h14⟩, h15, fun h => h.2 (h16 h.1), h17⟩
/-- The number ahead of a process. -/
def prevV (l : List S87) (i : Nat) : Int := if i = 0 then 0 else (rd_T87 l ((i - 1 : Nat) : Int)).f0
def iOne (l : List S87) (i : Nat) : Bool := impl_ProcsOk.one l (prevV l i) i (rd_T87 l (i : Int))
theorem impl_ok1 (l : List S87) : ∀ (d i : Nat), i + d = l.length → impl_ProcsOk.ok1 l (prevV l i) i (l.drop i) = allB (iOne l) d i
  | 0, i, h => by rw [List.drop_eq_nil_of_le (by omega)]; rfl
  | d + 1, i, h => by
    have hi : i < l.length := by omega
    have hx := List.getElem?_eq_getElem hi
    have er : rd_T87 l (i : Int) = l[i] := getD_nat _ hi
    rw [impl_ProcsOk.ok1_at _ hx, allB, ← impl_ok1 l d (i + 1) (by omega)]
    have e1 : prevV l (i + 1) = l[i].f0 := by unfold prevV; rw [if_neg (by omega), Nat.add_sub_cancel, er]
    rw [e1]
    unfold iOne
    rw [er]
theorem Good.way {l : List S87} (g : Good l) : ∀ (m c : Nat), c < l.length → impl_ProcsOk.way l (m + 1) (rd_T87 l (c : Int)) = reachB (parV l) m c
  | 0, c, hc => by
    rw [impl_ProcsOk.way, reachB]
    by_cases h0 : c = 0
    · rw [if_pos ((g.one hc).2 h0)]; simp [h0]
    · rw [if_neg (fun h => h0 ((g.one hc).1 h)), g.par c (by omega) hc]
      simp [h0]
  | m + 1, c, hc => by
    rw [impl_ProcsOk.way, reachB]
    by_cases h0 : c = 0
    · rw [if_pos ((g.one hc).2 h0)]; simp [h0]
    · rw [if_neg (fun h => h0 ((g.one hc).1 h)), g.par c (by omega) hc]
      simp only
      rw [if_neg (by omega), Good.way g m _ (g.parlt (by omega) hc).1]
      simp [h0]
theorem ok2_iff {l : List S87} (g : Good l) : impl_ProcsOk.ok2 l l = true ↔ ∀ i, i < l.length → reachB (parV l) 33 i = true := by
  unfold impl_ProcsOk.ok2
  rw [List.all_eq_true]
  constructor
  · intro h i hi
    have er : rd_T87 l (i : Int) = l[i] := getD_nat _ hi
    rw [← g.way 33 i hi, er]
    exact h _ (List.getElem_mem hi)
  · intro h x hx
    obtain ⟨i, hi, rfl⟩ := List.getElem_of_mem hx
    have er : rd_T87 l (i : Int) = l[i] := getD_nat _ hi
    rw [← er, g.way 33 i hi]
    exact h i hi
theorem parV_lt {l : List S87} (g : Good l) : ∀ i, i < l.length → (if i = 0 then 0 else parV l i) < l.length := fun i hi => by
  by_cases h : i = 0
  · rw [if_pos h]; exact g.pos
  · rw [if_neg h]; exact (g.parlt (by omega) hi).1
theorem reach_same (P : Nat → Nat) : ∀ m i, reachB (fun i => if i = 0 then 0 else P i) m i = reachB P m i
  | 0, i => rfl
  | m + 1, i => by
    rw [reachB, reachB]
    by_cases h : i = 0
    · rw [show (i == 0) = true by simp [h], Bool.true_or, Bool.true_or]
    · simp only [if_neg h]
      rw [reach_same P m]
theorem ok_eq (l : List S87) : impl_ProcsOk.ok l = okS l := by
  rw [Bool.eq_iff_iff]
  constructor
  · intro h
    unfold impl_ProcsOk.ok at h
    simp only [Bool.and_eq_true, decide_eq_true_eq] at h
    obtain ⟨⟨⟨h1, h2⟩, h3⟩, h4⟩ := h
    have h3' : allB (iOne l) l.length 0 = true := by
      rw [← impl_ok1 l l.length 0 (by omega), List.drop_zero]; exact h3
    have h5 := (allB_iff _ _ _).1 h3'
    have h6 : ∀ i, i < l.length → prevV l i < (rd_T87 l (i : Int)).f0 ∧ one1 (rd_T87 l (i : Int)) = true ∧ placeV l i (rd_T87 l (i : Int)) = true := fun i hi => (impl_one ..).1 (h5 i (by omega) (by omega))
    have h7 : ∀ i, i < l.length → 1 ≤ (rd_T87 l (i : Int)).f0 := by
      intro i
      induction i with
      | zero => intro hi; have := (h6 0 hi).1; unfold prevV at this; rw [if_pos rfl] at this; omega
      | succ i ih =>
        intro hi
        have h8 := (h6 (i + 1) hi).1
        unfold prevV at h8
        rw [if_neg (by omega), Nat.add_sub_cancel] at h8
        have := ih (by omega)
        omega
    have h0 := (h6 0 (by omega)).2.2
    unfold placeV at h0
    rw [if_pos rfl, iff_step, iff_step, iff_step] at h0
    obtain ⟨p1, p2, p3, _⟩ := h0
    have hf : firstV l = true := by
      unfold firstV
      simp only [Bool.and_eq_true, decide_eq_true_eq, Bool.not_eq_true', beq_eq_false_iff_ne]
      refine ⟨by omega, h2, Decidable.byContradiction p1, Decidable.byContradiction p3, p2, (allB_iff _ _ _).2 fun i _ hi => ?_⟩
      have hi : i < l.length := by omega
      obtain ⟨q1, q2, q3⟩ := h6 i hi
      unfold sOne oneOk
      rw [decide_eq_true (h7 i hi), q2]
      simp only [Bool.true_and, Bool.and_eq_true, decide_eq_true_eq, Bool.or_eq_true]
      by_cases hi0 : i = 0
      · exact ⟨.inl hi0, .inl hi0⟩
      · unfold prevV at q1
        rw [if_neg hi0] at q1
        refine ⟨.inr q1, .inr ?_⟩
        unfold placeV at q3
        rw [if_neg hi0] at q3
        unfold liveV
        split at q3
        · cases q3
        · rename_i j hj
          rw [iff_step, iff_step] at q3
          rw [hj]
          simpa using q3.2.1
    have g := good_of hf
    unfold okS
    rw [hf, Bool.true_and]
    refine (allB_iff _ _ _).2 fun i _ hi => ?_
    have hi : i < l.length := by omega
    have h9 := (ok2_iff g).1 h4 i hi
    rw [← reach_same] at h9
    have h10 := reach_short _ l.length (parV_lt g) hi h9
    rw [reach_same] at h10
    exact reachB_succ _ _ _ h10
  · intro h
    unfold okS at h
    rw [Bool.and_eq_true] at h
    obtain ⟨hf, hr⟩ := h
    have g := good_of hf
    have hr := (allB_iff _ _ _).1 hr
    unfold firstV at hf
    simp only [Bool.and_eq_true, decide_eq_true_eq, Bool.not_eq_true', beq_eq_false_iff_ne] at hf
    obtain ⟨f1, f2, f3, f4, f5, f6⟩ := hf
    have f6 := (allB_iff _ _ _).1 f6
    unfold impl_ProcsOk.ok
    simp only [Bool.and_eq_true, decide_eq_true_eq]
    refine ⟨⟨⟨by omega, f2⟩, ?_⟩, (ok2_iff g).2 fun i hi => reachB_mono _ (by omega : l.length + 1 ≤ 33) (hr i (by omega) (by omega))⟩
    have e := impl_ok1 l l.length 0 (by omega)
    rw [List.drop_zero] at e
    show impl_ProcsOk.ok1 l (prevV l 0) 0 l = true
    rw [e]
    refine (allB_iff _ _ _).2 fun i _ hi => ?_
    have hi : i < l.length := by omega
    have hs := f6 i (by omega) (by omega)
    unfold sOne oneOk at hs
    simp only [Bool.and_eq_true, decide_eq_true_eq, Bool.or_eq_true] at hs
    obtain ⟨⟨⟨s1, s2⟩, s3⟩, s4⟩ := hs
    refine (impl_one ..).2 ⟨?_, s2, ?_⟩
    · unfold prevV
      by_cases hi0 : i = 0
      · rw [if_pos hi0]; omega
      · rw [if_neg hi0]; exact s3.resolve_left hi0
    · unfold placeV
      by_cases hi0 : i = 0
      · rw [if_pos hi0, iff_step, iff_step, iff_step]
        subst hi0
        exact ⟨fun h => h f3, f5, fun h => h f4, rfl⟩
      · rw [if_neg hi0, g.par i (by omega) hi]
        simp only
        rw [iff_step, iff_step]
        obtain ⟨p1, p2⟩ := g.parlt (by omega) hi
        refine ⟨fun h => ?_, ?_, rfl⟩
        · have h1 := g.inj p1 hi h
          have h2 := hr i (by omega) (by omega)
          rw [reach_self _ h1 hi0] at h2
          cases h2
        · have s5 := s4.resolve_left hi0
          unfold liveV at s5
          rw [g.par i (by omega) hi] at s5
          simpa using s5
theorem impl_ProcsOk_eq (l : List S87) : impl_ProcsOk.f l = some (okS l) := by unfold impl_ProcsOk.f; rw [ok_eq]
theorem laws_toProcs_ev {xs : List S111} (hl : xs.length ≤ 1099511627776) : Ev (fun k => laws_toProcs.f k xs) (xs.map cProc) := by
  unfold laws_toProcs.f
  exact Ev.bind (laws_toProcS_ev hl) (ev_ret rfl)
theorem laws_eqProcs_ev {xs : List S87} (hl : xs.length ≤ 1099511627776) : Ev (fun k => laws_eqProcs.f k xs xs) true := by
  unfold laws_eqProcs.f
  exact Ev.bind (laws_eqProcS_ev hl) (ev_pos rfl (ev_ret rfl))
theorem laws_szProcs_eq {xs : List S111} (hl : xs.length ≤ maxLen) : laws_szProcs.f xs 1048576 = some (if (1048576 : Int) < xs.length then (-1 : Int) else 1048576 - (xs.length : Int)) := by
  unfold laws_szProcs.f
  rw [laws_szProcS_eq hl (by omega) (by omega), Option.bind_some]
  by_cases h : (1048576 : Int) < xs.length
  · rw [if_pos h]; rfl
  · rw [if_neg h, if_neg (by omega)]
def markJ (k0 : Int) (n : Nat) : List Int := (List.range n).map fun j : Nat => k0 + (j : Int)
theorem markJ_len (k0 : Int) (n : Nat) : (markJ k0 n).length = n := by simp [markJ]
theorem markJ_get (k0 : Int) {n j : Nat} (h : j < n) : (markJ k0 n)[j]? = some (k0 + (j : Int)) := by simp [markJ, List.getElem?_range h]
theorem markJ_l0 (n : Nat) (k0 : Int) (hk : 0 ≤ k0) (hk2 : k0 + n ≤ 4611686018427387904) : ∀ (d i : Nat) (xs : List Int), i + d = n → xs.length = n → (∀ j, j < i → xs[j]? = (markJ k0 n)[j]?) → Ev (fun k => laws_markInt64S.l0 k xs (k0 + i) (i : Int)) (k0 + n, markJ k0 n) := by
  intro d
  induction d with
  | zero =>
    intro i xs h hx he
    refine Ev.step (fun _ => laws_markInt64S.l0.eq_2 ..) (ev_neg (by omega) (ev_ret ?_))
    refine Prod.ext (by simp only; omega) ?_
    apply List.ext_getElem?
    intro j
    by_cases hj : j < n
    · exact he j (by omega)
    · rw [List.getElem?_eq_none (show xs.length ≤ j by omega), List.getElem?_eq_none (by rw [markJ_len]; omega)]
  | succ d ih =>
    intro i xs h hx he
    have e1 : wrap64 ((i : Int) + 1) = ((i + 1 : Nat) : Int) := by rw [w64_id (by omega) (by omega)]; omega
    have e2 : wrap64 (k0 + (i : Int) + 1) = k0 + ((i + 1 : Nat) : Int) := by rw [w64_id (by omega) (by omega)]; omega
    refine Ev.step (fun _ => laws_markInt64S.l0.eq_2 ..) (ev_pos (by omega) (ev_pos (by omega) ?_))
    rw [e1, e2, Int.toNat_natCast]
    refine ih (i + 1) _ (by omega) (by rw [List.length_set]; exact hx) ?_
    intro j hj
    by_cases hji : j = i
    · subst hji
      rw [List.getElem?_set_self (by omega), markJ_get k0 (by omega)]
    · rw [List.getElem?_set_ne (by omega)]
      exact he j (by omega)
theorem markJ_ev (xs : List Int) {k0 : Int} (hk : 0 ≤ k0) (hk2 : k0 + xs.length ≤ 4611686018427387904) : Ev (fun k => laws_markInt64S.f k xs k0) (k0 + xs.length, markJ k0 xs.length) := by
  unfold laws_markInt64S.f
  have := markJ_l0 xs.length k0 hk hk2 xs.length 0 xs (by omega) rfl (fun j hj => by omega)
  rw [show k0 + ((0 : Nat) : Int) = k0 by omega] at this
  exact this
theorem heldJ_l0 (n : Nat) (k0 : Int) (hk : 0 ≤ k0) (hk2 : k0 + n ≤ 4611686018427387904) : ∀ (d i : Nat), i + d = n → Ev (fun k => laws_heldInt64S.l0 k (markJ k0 n) (k0 + i) (i : Int)) (k0 + n) := by
  intro d
  induction d with
  | zero => intro i h; exact Ev.step (fun _ => laws_heldInt64S.l0.eq_2 ..) (ev_neg (by rw [markJ_len]; omega) (ev_ret (by omega)))
  | succ d ih =>
    intro i h
    have e1 : wrap64 ((i : Int) + 1) = ((i + 1 : Nat) : Int) := by rw [w64_id (by omega) (by omega)]; omega
    have e2 : wrap64 (k0 + (i : Int) + 1) = k0 + ((i + 1 : Nat) : Int) := by rw [w64_id (by omega) (by omega)]; omega
    have hl : i < (markJ k0 n).length := by rw [markJ_len]; omega
    have e3 : (markJ k0 n)[i] = k0 + (i : Int) := by
      have := markJ_get k0 (n := n) (j := i) (by omega)
      rw [List.getElem?_eq_getElem hl] at this
      exact Option.some.inj this
    refine Ev.step (fun _ => laws_heldInt64S.l0.eq_2 ..) (ev_pos (by omega) (ev_pos (by omega) ?_))
    rw [rd_nat hl, e1, e2]
    exact ev_pos e3 (ih (i + 1) (by omega))
theorem heldJ_ev (n : Nat) {k0 : Int} (hk : 0 ≤ k0) (hk2 : k0 + n ≤ 4611686018427387904) : Ev (fun k => laws_heldInt64S.f k (markJ k0 n) k0) (k0 + n) := by
  unfold laws_heldInt64S.f
  have := heldJ_l0 n k0 hk hk2 n 0 (by omega)
  rw [show k0 + ((0 : Nat) : Int) = k0 by omega] at this
  exact this
theorem ex_step {α γ : Type} {g h : Nat → Option (α × γ)} {r : α} (e : ∀ k, g (k + 1) = h k) (k : ∃ z, Ev h (r, z)) : ∃ z, Ev g (r, z) := k.imp fun _ hz => Ev.step e hz
theorem ex_pos {α γ : Type} {c : Prop} [Decidable c] {A B : Nat → Option (α × γ)} {r : α} (h : c) (k : ∃ z, Ev A (r, z)) : ∃ z, Ev (fun n => if c then A n else B n) (r, z) := k.imp fun _ hz => ev_pos h hz
theorem ex_bind {δ α γ : Type} {y : δ} {f : Nat → δ → Option (α × γ)} {r : α} (p : δ → Prop) (hy : p y) (h : ∀ y, p y → ∃ z, Ev (fun n => f n y) (r, z)) : ∃ z, Ev (fun n => (some y).bind (f n)) (r, z) := (h y hy).imp fun _ hz => ev_bind0 rfl hz
theorem markProcS_ev {n : Nat} (hn : n ≤ 1099511627776) : ∀ (d i : Nat) (xs : List S87) (k0 : Int), i + d = n → xs.length = n → 0 ≤ k0 → k0 + 10 * d ≤ 4611686018427387904 → ∃ zs, Ev (fun k => laws_markProcS.l0 k xs k0 (i : Int)) (k0 + 10 * (d : Int), zs) := by
  intro d
  induction d with
  | zero =>
    intro i xs k0 h hx h0 h1
    exact ⟨xs, Ev.step (fun _ => laws_markProcS.l0.eq_2 ..) (ev_neg (by omega) (ev_ret (by simp)))⟩
  | succ d ih =>
    intro i xs k0 h hx h0 h1
    have ei : wrap64 ((i : Int) + 1) = ((i + 1 : Nat) : Int) := by rw [w64_id (by omega) (by omega)]; omega
    have ek : wrap64 (wrap64 (wrap64 (wrap64 (wrap64 (wrap64 (wrap64 (wrap64 (wrap64 (wrap64 (k0 + 1) + 1) + 1) + 1) + 1) + 1) + 1) + 1) + 1) + 1) = k0 + 10 := by
      rw [w64_id (x := k0 + 1) (by omega) (by omega), w64_id (x := k0 + 1 + 1) (by omega) (by omega), w64_id (x := k0 + 1 + 1 + 1) (by omega) (by omega), w64_id (x := k0 + 1 + 1 + 1 + 1) (by omega) (by omega), w64_id (x := k0 + 1 + 1 + 1 + 1 + 1) (by omega) (by omega), w64_id (x := k0 + 1 + 1 + 1 + 1 + 1 + 1) (by omega) (by omega), w64_id (x := k0 + 1 + 1 + 1 + 1 + 1 + 1 + 1) (by omega) (by omega), w64_id (x := k0 + 1 + 1 + 1 + 1 + 1 + 1 + 1 + 1) (by omega) (by omega), w64_id (x := k0 + 1 + 1 + 1 + 1 + 1 + 1 + 1 + 1 + 1) (by omega) (by omega), w64_id (by omega) (by omega)]
      omega
    have step : ∀ ys : List S87, ys.length = n → ∃ zs, Ev (fun k => laws_markProcS.l0 k ys (k0 + 10) ((i + 1 : Nat) : Int)) (k0 + 10 * ((d + 1 : Nat) : Int), zs) := fun ys hy => by
      obtain ⟨zs, hz⟩ := ih (i + 1) ys (k0 + 10) (by omega) hy (by omega) (by omega)
      exact ⟨zs, ev_eq (by rw [show k0 + 10 + 10 * (d : Int) = k0 + 10 * ((d + 1 : Nat) : Int) by omega]) hz⟩
    refine ex_step (fun _ => laws_markProcS.l0.eq_2 ..) (ex_pos (by omega) (ex_pos (by omega) ?_))
    refine ex_bind (fun y => y.length = n) (by rw [List.length_set]; exact hx) (fun y1 l1 => ?_)
    refine ex_bind (fun y => y.length = n) (by rw [List.length_set]; exact l1) (fun y2 l2 => ?_)
    refine ex_bind (fun y => y.length = n) (by rw [List.length_set]; exact l2) (fun y3 l3 => ?_)
    refine ex_bind (fun y => y.length = n) (by rw [List.length_set]; exact l3) (fun y4 l4 => ?_)
    refine ex_bind (fun y => y.length = n) (by rw [List.length_set]; exact l4) (fun y5 l5 => ?_)
    refine ex_bind (fun y => y.length = n) (by rw [List.length_set]; exact l5) (fun y6 l6 => ?_)
    refine ex_bind (fun y => y.length = n) (by rw [List.length_set]; exact l6) (fun y7 l7 => ?_)
    refine ex_bind (fun y => y.length = n) (by rw [List.length_set]; exact l7) (fun y8 l8 => ?_)
    refine ex_bind (fun y => y.length = n) (by rw [List.length_set]; exact l8) (fun y9 l9 => ?_)
    rw [ek, ei]
    exact step _ (by rw [List.length_set]; exact l9)
theorem laws_markProcs_ev {xs : List S87} (hl : xs.length ≤ 1099511627776) : ∃ zs, Ev (fun k => laws_markProcs.f k xs 1) (1 + 10 * (xs.length : Int), zs) := by
  obtain ⟨zs, hz⟩ := markProcS_ev (n := xs.length) hl xs.length 0 xs 1 (by omega) rfl (by omega) (by omega)
  refine ⟨zs, ?_⟩
  unfold laws_markProcs.f laws_markProcS.f
  exact Ev.bind hz (ev_ret rfl)
/-- Is one of these on the way from c to the place 0? -/
def pathB (P : Nat → Nat) (f : Nat → Bool) : Nat → Nat → Bool
  | 0, c => f c
  | m + 1, c => f c || (!(c == 0) && pathB P f m (P c))
def isP (l : List S87) (id : Int) (c : Nat) : Bool := decide ((rd_T87 l (c : Int)).f0 = id)
theorem pathB_none {l : List S87} (g : Good l) {id : Int} (h : ∀ c, c < l.length → isP l id c = false) : ∀ m c, c < l.length → pathB (parV l) (isP l id) m c = false
  | 0, c, hc => h c hc
  | m + 1, c, hc => by
    rw [pathB, h c hc, Bool.false_or]
    by_cases h0 : c = 0
    · rw [h0]; rfl
    · rw [pathB_none g h m _ (g.parlt (by omega) hc).1, Bool.and_false]
def treeL (l : List S87) (id : Int) : Nat → Nat → List Int
  | 0, _ => []
  | d + 1, i => if pathB (parV l) (isP l id) (l.length + 1) i = true then (rd_T87 l (i : Int)).f0 :: treeL l id d (i + 1) else treeL l id d (i + 1)
theorem treeL_len (l : List S87) (id : Int) : ∀ d i, (treeL l id d i).length ≤ d
  | 0, _ => by simp [treeL]
  | d + 1, i => by
    have := treeL_len l id d (i + 1)
    rw [treeL]
    split
    · rw [List.length_cons]; omega
    · omega
theorem treeL_none {l : List S87} (g : Good l) {id : Int} (h : ∀ c, c < l.length → isP l id c = false) : ∀ d i, i + d = l.length → treeL l id d i = []
  | 0, _, _ => rfl
  | d + 1, i, hd => by
    rw [treeL, if_neg (by rw [pathB_none g h _ _ (by omega)]; decide)]
    exact treeL_none g h d (i + 1) (by omega)
theorem spec_ProcTree_l1 {l : List S87} (g : Good l) {id : Int} {x5 : List Int} (hx : x5.length ≤ 32) {i : Nat} (hi : i < l.length) {R : List Int} : ∀ (m c : Nat), c < l.length → reachB (parV l) m c = true →
    (pathB (parV l) (isP l id) m c = true → Ev (fun k => spec_ProcTree.l0 k id (x5 ++ [(rd_T87 l (i : Int)).f0]) ((i + 1 : Nat) : Int) l) R) → (pathB (parV l) (isP l id) m c = false → Ev (fun k => spec_ProcTree.l0 k id x5 ((i + 1 : Nat) : Int) l) R) →
    Ev (fun k => spec_ProcTree.l1 k id x5 (i : Int) (rd_T87 l (c : Int)).f0 l) R := by
  have hlen := g.len
  have ew : wrap64 ((i : Int) + 1) = ((i + 1 : Nat) : Int) := by rw [w64_id (by omega) (by omega)]; omega
  intro m
  induction m with
  | zero =>
    intro c hc hr ha hb
    obtain rfl : c = 0 := by simpa [reachB] using hr
    refine Ev.step (fun _ => spec_ProcTree.l1.eq_2 ..) ?_
    rw [ew]
    by_cases h1 : (rd_T87 l ((0 : Nat) : Int)).f0 = id
    · exact ev_pos h1 (ev_pos (by omega) (ev_pos (by omega) (ev_pos (by omega) (ha (decide_eq_true h1)))))
    · have := g.first
      exact ev_neg h1 (ev_neg (by omega) (hb (decide_eq_false h1)))
  | succ m ih =>
    intro c hc hr ha hb
    refine Ev.step (fun _ => spec_ProcTree.l1.eq_2 ..) ?_
    rw [ew]
    by_cases h1 : (rd_T87 l (c : Int)).f0 = id
    · exact ev_pos h1 (ev_pos (by omega) (ev_pos (by omega) (ev_pos (by omega) (ha (by rw [pathB, show isP l id c = true from decide_eq_true h1]; rfl)))))
    · refine ev_neg h1 ?_
      rw [pathB, show isP l id c = false from decide_eq_false h1, Bool.false_or] at ha hb
      by_cases h0 : c = 0
      · subst h0
        have := g.first
        exact ev_neg (by omega) (hb rfl)
      · obtain ⟨p1, p2⟩ := g.parlt (by omega : 0 < c) hc
        have h2 := g.pos1 hc
        have h3 : (rd_T87 l (c : Int)).f0 ≠ 1 := fun h => h0 ((g.one hc).1 h)
        rw [show (c == 0) = false by simp [h0], Bool.not_false, Bool.true_and] at ha hb
        rw [reachB, show (c == 0) = false by simp [h0], Bool.false_or] at hr
        refine ev_pos (by omega) (Ev.bind (spec_l16Find_ev _ (by omega)) ?_)
        rw [g.idx hc]
        refine ev_pos (by simp only [findV]; omega) (ev_pos (by simp only [findV]; omega) ?_)
        simp only [findV]
        rw [← p2]
        exact ih _ p1 hr ha hb
theorem spec_ProcTree_l0 {l : List S87} (g : Good l) {id : Int} (hr : ∀ i, i < l.length → reachB (parV l) (l.length + 1) i = true) : ∀ (d i : Nat) (x5 : List Int), i + d = l.length → x5.length ≤ i → Ev (fun k => spec_ProcTree.l0 k id x5 (i : Int) l) (x5 ++ treeL l id d i) := by
  have hlen := g.len
  intro d
  induction d with
  | zero =>
    intro i x5 h hx
    exact Ev.step (fun _ => spec_ProcTree.l0.eq_2 ..) (ev_neg (by omega) (ev_ret (by rw [treeL, List.append_nil])))
  | succ d ih =>
    intro i x5 h hx
    have hi : i < l.length := by omega
    refine Ev.step (fun _ => spec_ProcTree.l0.eq_2 ..) (ev_pos (by omega) (ev_pos (by omega) ?_))
    rw [treeL]
    refine spec_ProcTree_l1 g (by omega) hi (l.length + 1) i hi (hr i hi) (fun h1 => ?_) (fun h1 => ?_)
    · rw [if_pos h1]
      refine ev_eq ?_ (ih (i + 1) _ (by omega) (by rw [List.length_append, List.length_singleton]; omega))
      rw [List.append_assoc, List.singleton_append]
    · rw [if_neg (by rw [h1]; decide)]
      exact ih (i + 1) _ (by omega) (by omega)
def treeOut (l : List S87) (id : Int) : List Int := if okS l = true then treeL l id l.length 0 else []
theorem okS_parts {l : List S87} (h : okS l = true) : Good l ∧ (∀ i, i < l.length → reachB (parV l) (l.length + 1) i = true) ∧ (rd_T87 l ((0 : Nat) : Int)).f1 = 0 := by
  unfold okS at h
  rw [Bool.and_eq_true] at h
  refine ⟨good_of h.1, fun i hi => (allB_iff _ _ _).1 h.2 i (by omega) (by omega), ?_⟩
  have hf := h.1
  unfold firstV at hf
  simp only [Bool.and_eq_true, decide_eq_true_eq] at hf
  exact hf.2.2.2.1
theorem treeOut_len (l : List S87) (id : Int) : (treeOut l id).length ≤ 32 := by
  unfold treeOut
  split
  · rename_i h
    have := (okS_parts h).1.len
    have := treeL_len l id l.length 0
    omega
  · simp
theorem spec_ProcTree_ev {l : List S87} (hw : ∀ x ∈ l, ProcWf x) (id : Int) : Ev (fun k => spec_ProcTree.f k l id) (treeOut l id) := by
  unfold spec_ProcTree.f treeOut
  refine ev_bind0 rfl (Ev.bind (spec_ProcsOk_ev hw) ?_)
  by_cases h : okS l = true
  · rw [if_pos h]
    obtain ⟨g, hr, _⟩ := okS_parts h
    refine ev_pos h ?_
    have := spec_ProcTree_l0 g (id := id) hr l.length 0 [] (by omega) (by simp)
    rw [List.nil_append] at this
    exact this
  · rw [if_neg h]
    exact ev_neg h (ev_ret rfl)
theorem impl_tree_way {l : List S87} (g : Good l) (hz : (rd_T87 l ((0 : Nat) : Int)).f1 = 0) (id : Int) : ∀ (m c : Nat), c < l.length → reachB (parV l) m c = true → Ev (fun k => impl_ProcTree.way l id k (rd_T87 l (c : Int))) (pathB (parV l) (isP l id) m c) := by
  have root : ¬ (rd_T87 l ((0 : Nat) : Int)).f0 = id → Ev (fun k => impl_ProcTree.way l id k (rd_T87 l ((0 : Nat) : Int))) false := fun h1 => by
    refine Ev.step (fun _ => impl_ProcTree.way.eq_2 ..) (ev_neg h1 ?_)
    rw [hz]
    cases hj : impl_Procs_at.idx 0 l 0 with
    | none => exact ev_ret rfl
    | some j =>
      obtain ⟨h2, h3⟩ := rd_idx hj
      have := g.pos1 h2
      omega
  intro m
  induction m with
  | zero =>
    intro c hc hr
    obtain rfl : c = 0 := by simpa [reachB] using hr
    by_cases h1 : (rd_T87 l ((0 : Nat) : Int)).f0 = id
    · rw [show pathB (parV l) (isP l id) 0 0 = true from decide_eq_true h1]
      exact Ev.step (fun _ => impl_ProcTree.way.eq_2 ..) (ev_pos h1 (ev_ret rfl))
    · rw [show pathB (parV l) (isP l id) 0 0 = false from decide_eq_false h1]
      exact root h1
  | succ m ih =>
    intro c hc hr
    rw [pathB]
    by_cases h1 : (rd_T87 l (c : Int)).f0 = id
    · rw [show isP l id c = true from decide_eq_true h1, Bool.true_or]
      exact Ev.step (fun _ => impl_ProcTree.way.eq_2 ..) (ev_pos h1 (ev_ret rfl))
    · rw [show isP l id c = false from decide_eq_false h1, Bool.false_or]
      by_cases h0 : c = 0
      · subst h0
        rw [show ((0 : Nat) == 0) = true from rfl, Bool.not_true, Bool.false_and]
        exact root h1
      · rw [show (c == 0) = false by simp [h0], Bool.not_false, Bool.true_and]
        rw [reachB, show (c == 0) = false by simp [h0], Bool.false_or] at hr
        refine Ev.step (fun _ => impl_ProcTree.way.eq_2 ..) (ev_neg h1 ?_)
        rw [g.par c (by omega) hc]
        exact ih _ (g.parlt (by omega) hc).1 hr
theorem impl_tree_go {l : List S87} (g : Good l) (hz : (rd_T87 l ((0 : Nat) : Int)).f1 = 0) (id : Int) (hr : ∀ i, i < l.length → reachB (parV l) (l.length + 1) i = true) : ∀ (d i : Nat) (acc : List Int), i + d = l.length → Ev (fun k => impl_ProcTree.go l id k (l.drop i) acc) (acc ++ treeL l id d i)
  | 0, i, acc, h => by
    rw [List.drop_eq_nil_of_le (by omega), treeL, List.append_nil]
    exact ev_ret rfl
  | d + 1, i, acc, h => by
    have hi : i < l.length := by omega
    have er : rd_T87 l (i : Int) = l[i] := getD_nat _ hi
    rw [List.drop_eq_getElem_cons hi, treeL]
    refine Ev.congr (fun k => by rw [impl_ProcTree.go]) ?_
    have hw := impl_tree_way g hz id (l.length + 1) i hi (hr i hi)
    rw [er] at hw ⊢
    refine Ev.bind hw ?_
    cases hp : pathB (parV l) (isP l id) (l.length + 1) i with
    | true =>
      refine ev_pos rfl ?_
      rw [if_pos rfl]
      refine ev_eq ?_ (impl_tree_go g hz id hr d (i + 1) _ (by omega))
      rw [List.append_assoc, List.singleton_append]
    | false =>
      refine ev_neg (by decide) ?_
      rw [if_neg (by decide)]
      exact impl_tree_go g hz id hr d (i + 1) _ (by omega)
theorem impl_ProcTree_ev (l : List S87) (id : Int) : Ev (fun k => impl_ProcTree.f k l id) (treeOut l id) := by
  unfold impl_ProcTree.f treeOut
  by_cases h : okS l = true
  · rw [if_pos h]
    obtain ⟨g, hr, hz⟩ := okS_parts h
    refine ev_neg (by rw [ok_eq, h]; decide) ?_
    by_cases hi : impl_Procs_at.idx id l 0 = none
    · refine ev_pos hi (ev_ret ?_)
      refine (treeL_none g (fun c hc => ?_) l.length 0 (by omega)).symm
      have er : rd_T87 l (c : Int) = l[c] := getD_nat _ hc
      exact decide_eq_false (by rw [er]; exact pidx_none _ _ _ hi _ (List.getElem_mem hc))
    · refine ev_neg hi ?_
      have := impl_tree_go g hz id hr l.length 0 [] (by omega)
      rw [List.drop_zero, List.nil_append] at this
      exact this
  · rw [if_neg h]
    exact ev_pos (by rw [ok_eq]; simpa using h) (ev_ret rfl)
theorem FnExactProcTree : laws_FnExactProcTree.Pure := by
  intro xs id hq _
  have hm : xs.length ≤ maxLen := hq.1
  have hw : ∀ x ∈ xs.map cProc, ProcWf x := fun x hx => by
    obtain ⟨y, hy, rfl⟩ := List.mem_map.1 hx
    have h := hq.2 y hy
    obtain ⟨_, _, _, _, _, _, h6, h7, h8, h9⟩ := h
    exact ⟨(wf_i64 h6).1, (wf_i64 h6).2, (wf_i64 h7).1, (wf_i64 h7).2, (wf_i64 h8).1, (wf_i64 h8).2, (wf_i64 h9).1, (wf_i64 h9).2⟩
  refine Ev.rounds ?_
  unfold laws_FnExactProcTree.f
  refine ev_bind0 (laws_szProcs_eq hm) ?_
  by_cases h : (1048576 : Int) < xs.length
  · rw [if_pos h]
    exact ev_pos (by omega) (ev_ret rfl)
  · rw [if_neg h]
    refine ev_neg (by omega) ?_
    have hl : xs.length ≤ 1099511627776 := by omega
    have hl2 : (xs.map cProc).length ≤ 1099511627776 := by rw [List.length_map]; exact hl
    have tof := laws_toProcs_ev hl
    have eqf := laws_eqProcs_ev hl2
    obtain ⟨zs, mkf⟩ := laws_markProcs_ev hl2
    have hs := spec_ProcTree_ev hw id
    have hi := impl_ProcTree_ev (xs.map cProc) id
    have hr := treeOut_len (xs.map cProc) id
    generalize treeOut (xs.map cProc) id = r at *
    have eqr := laws_eqInt64S_ev (xs := r) (by omega)
    have mkr := markJ_ev r (k0 := 1) (by omega) (by omega)
    have her := heldJ_ev r.length (k0 := 1) (by omega) (by omega)
    refine Ev.bind tof (Ev.bind hs (Ev.bind tof (Ev.bind hi (Ev.bind eqr (ev_pos rfl (Ev.bind tof (Ev.bind eqf (ev_pos rfl (Ev.bind mkf (ev_neg (by simp only; omega) (Ev.bind eqr ?_)))))))))))
    refine Ev.step (fun _ => laws_FnExactProcTree.j0.eq_2 ..) (ev_neg (by decide) (Ev.bind mkr (Ev.bind her (ev_neg (by omega) (ev_pos rfl (Ev.bind tof (Ev.bind hi (Ev.bind eqr (ev_pos rfl (Ev.bind her (ev_neg (by omega) (ev_pos rfl (ev_ret rfl)))))))))))))
end Go.Proofs.Ytdlgalaemnjfjaa.Pure
