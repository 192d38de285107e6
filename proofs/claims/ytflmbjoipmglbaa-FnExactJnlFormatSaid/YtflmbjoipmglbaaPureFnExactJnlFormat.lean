/- For every input that the row lets in, FnExactJnlFormat answers true; this text proves the plain law that is left when the machine's side is done. -/
import Derived.Test.YtflmbjoipmglbaaPFnExactJnlFormatx2
import Derived.Test.YtflmbjoipmglbaaBase
set_option linter.unusedVariables false
set_option linter.unusedSimpArgs false
namespace Go.Proofs.Ytflmbjoipmglbaa.Pure
open Go.RowKit Go.Proofs.Ytflmbjoipmglbaa.PFnExactJnlFormat Go.Proofs.YtflmbjoipmglbaaW.PrintWords Go.Proofs.YtflmbjoipmglbaaW.PrintLast Go.Proofs.YtflmbjoipmglbaaW.PrintMore Go.Proofs.Ytflmbjoipmglbaa.Base

theorem laws_eqByteS_l0 (xs : List Int) (hl : xs.length ≤ 4611686018427387904) : ∀ (d i : Nat), i + d = xs.length → Ev (fun k => laws_eqByteS.l0 k xs xs (i : Int)) true := by
  intro d
  induction d with
  | zero =>
    intro i h
    refine Ev.step (fun _ => laws_eqByteS.l0.eq_2 ..) ?_
    exact ev_neg (by omega) (ev_ret rfl)
  | succ d ih =>
    intro i h
    refine Ev.step (fun _ => laws_eqByteS.l0.eq_2 ..) ?_
    refine ev_pos (by omega) (ev_pos (by omega) (ev_pos (by omega) (ev_pos rfl ?_)))
    have e : wrap64 ((i : Int) + 1) = ((i + 1 : Nat) : Int) := by rw [w64_id (by omega) (by omega)]; omega
    rw [e]
    exact ih (i + 1) (by omega)
theorem laws_eqByteS_ev {xs : List Int} (hl : xs.length ≤ 281474976710656) : Ev (fun k => laws_eqByteS.f k xs xs) true := by
  unfold laws_eqByteS.f
  exact ev_pos rfl (laws_eqByteS_l0 xs (by omega) xs.length 0 (by omega))
def crcBit (r : Nat) : Nat := if r % 2 = 1 then (r / 2) ^^^ 3988292384 else r / 2
def crcN (r : Nat) : Nat → Nat
  | 0 => r
  | d + 1 => crcN (crcBit r) d
def crcAll (r : Nat) : List Int → Nat
  | [] => r
  | b :: bs => crcAll (crcN (r ^^^ b.toNat) 8) bs
def crcV (xs : List Int) : Nat := crcAll 4294967295 xs ^^^ 4294967295
theorem crcBit_lt {r : Nat} (h : r < 2 ^ 32) : crcBit r < 2 ^ 32 := by
  unfold crcBit
  split
  · exact Nat.xor_lt_two_pow (Nat.lt_of_le_of_lt (Nat.div_le_self _ _) h) (by decide)
  · exact Nat.lt_of_le_of_lt (Nat.div_le_self _ _) h
theorem crcN_lt : ∀ (d : Nat) {r : Nat}, r < 2 ^ 32 → crcN r d < 2 ^ 32
  | 0, _, h => h
  | d + 1, _, h => crcN_lt d (crcBit_lt h)
theorem crcAll_lt : ∀ (xs : List Int) {r : Nat}, r < 2 ^ 32 → Bytes xs → crcAll r xs < 2 ^ 32
  | [], _, h, _ => h
  | b :: bs, r, h, hb => by
    refine crcAll_lt bs (crcN_lt 8 (Nat.xor_lt_two_pow h ?_)) (fun x hx => hb x (List.mem_cons_of_mem _ hx))
    have h0 := hb b List.mem_cons_self
    have : b.toNat < 256 := by omega
    exact Nat.lt_trans this (by decide)
theorem crcV_lt {xs : List Int} (hb : Bytes xs) : crcV xs < 2 ^ 32 := Nat.xor_lt_two_pow (crcAll_lt xs (by decide) hb) (by decide)
theorem lt32_64 {r : Nat} (h : r < 2 ^ 32) : r < 2 ^ 64 := Nat.lt_trans h (by decide)
theorem spec_Crc_l1 (xs : List Int) (i : Int) (R : Int) : ∀ (d r : Nat) (j : Int), j + d = 8 → 0 ≤ j → r < 2 ^ 32 → Ev (fun k => spec_Crc.l0 k xs (crcN r d : Int) (wrap64 (i + 1))) R → Ev (fun k => spec_Crc.l1 k xs (r : Int) i j) R := by
  intro d
  induction d with
  | zero =>
    intro r j h h0 hr H
    refine Ev.step (fun _ => spec_Crc.l1.eq_2 ..) ?_
    exact ev_neg (by omega) H
  | succ d ih =>
    intro r j h h0 hr H
    refine Ev.step (fun _ => spec_Crc.l1.eq_2 ..) ?_
    refine ev_pos (by omega) ?_
    have e1 : wrap64 (j + 1) = j + 1 := w64_id (by omega) (by omega)
    have hr2 : r / 2 < 2 ^ 32 := Nat.lt_of_le_of_lt (Nat.div_le_self _ _) hr
    have hr3 : r < 4294967296 := hr
    have e2 : IntKind.u64.wrap (Int.tdiv (r : Int) 2) = ((r / 2 : Nat) : Int) := by
      rw [show (2 : Int) = ((2 : Nat) : Int) from rfl, tdiv_nat, u64w_id (by omega) (by omega)]
    have e3 : Int.tmod (r : Int) 2 = ((r % 2 : Nat) : Int) := by rw [show (2 : Int) = ((2 : Nat) : Int) from rfl, tmod_nat]
    rw [e1, e2, e3]
    by_cases hc : r % 2 = 1
    · refine ev_pos (by omega) ?_
      rw [show (3988292384 : Int) = ((3988292384 : Nat) : Int) from rfl, xor_nat (lt32_64 hr2) (by decide)]
      have hb : (r / 2) ^^^ 3988292384 = crcBit r := by unfold crcBit; rw [if_pos hc]
      rw [hb]
      exact ih _ _ (by omega) (by omega) (crcBit_lt hr) H
    · refine ev_neg (by omega) ?_
      have hb : r / 2 = crcBit r := by unfold crcBit; rw [if_neg hc]
      rw [hb]
      exact ih _ _ (by omega) (by omega) (crcBit_lt hr) H
theorem spec_Crc_l0 (xs : List Int) (hb : Bytes xs) (hl : xs.length ≤ 4611686018427387904) : ∀ (d i r : Nat), i + d = xs.length → r < 2 ^ 32 → Ev (fun k => spec_Crc.l0 k xs (r : Int) (i : Int)) ((crcAll r (xs.drop i) ^^^ 4294967295 : Nat) : Int) := by
  intro d
  induction d with
  | zero =>
    intro i r h hr
    refine Ev.step (fun _ => spec_Crc.l0.eq_2 ..) ?_
    refine ev_neg (by omega) (ev_ret ?_)
    rw [List.drop_eq_nil_of_le (by omega)]
    show _ = ((r ^^^ 4294967295 : Nat) : Int)
    rw [show (4294967295 : Int) = ((4294967295 : Nat) : Int) from rfl]
    exact xor_nat (lt32_64 hr) (by decide)
  | succ d ih =>
    intro i r h hr
    refine Ev.step (fun _ => spec_Crc.l0.eq_2 ..) ?_
    refine ev_pos (by omega) (ev_pos (by omega) ?_)
    obtain ⟨b, hbe, hb2⟩ := hb.get (n := i) (by omega)
    have hb3 : b < 2 ^ 32 := Nat.lt_trans hb2 (by decide)
    rw [rd_nat (by omega), hbe, u64w_id (x := (b : Int)) (by omega) (by omega), xor_nat (lt32_64 hr) (lt32_64 hb3)]
    refine spec_Crc_l1 xs _ _ 8 _ 0 (by omega) (by omega) (Nat.xor_lt_two_pow hr hb3) ?_
    have e : wrap64 ((i : Int) + 1) = ((i + 1 : Nat) : Int) := by rw [w64_id (by omega) (by omega)]; omega
    rw [e, List.drop_eq_getElem_cons (by omega : i < xs.length)]
    refine ev_eq ?_ (ih (i + 1) _ (by omega) (crcN_lt 8 (Nat.xor_lt_two_pow hr hb3)))
    show _ = ((crcAll (crcN (r ^^^ xs[i].toNat) 8) (xs.drop (i + 1)) ^^^ 4294967295 : Nat) : Int)
    rw [hbe, Int.toNat_natCast]
theorem spec_Crc_ev {xs : List Int} (hb : Bytes xs) (hl : xs.length ≤ 281474976710656) : Ev (fun k => spec_Crc.f k xs) (crcV xs : Int) := by
  unfold spec_Crc.f
  exact spec_Crc_l0 xs hb (by omega) xs.length 0 4294967295 (by omega) (by decide)
theorem impl_Crc_l1 (xs : List Int) (n i : Int) (R : Int) : ∀ (d r : Nat) (j : Int), j + d = 8 → 0 ≤ j → r < 2 ^ 32 → Ev (fun k => impl_Crc.l0 k (crcN r d : Int) xs n (wrap64 (i + 1))) R → Ev (fun k => impl_Crc.l1 k (r : Int) xs n i j) R := by
  intro d
  induction d with
  | zero =>
    intro r j h h0 hr H
    refine Ev.step (fun _ => impl_Crc.l1.eq_2 ..) ?_
    exact ev_neg (by omega) H
  | succ d ih =>
    intro r j h h0 hr H
    refine Ev.step (fun _ => impl_Crc.l1.eq_2 ..) ?_
    refine ev_pos (by omega) ?_
    have e1 : wrap64 (j + 1) = j + 1 := w64_id (by omega) (by omega)
    have hr2 : r / 2 < 2 ^ 32 := Nat.lt_of_le_of_lt (Nat.div_le_self _ _) hr
    have e2 : (r : Int) / 2 = ((r / 2 : Nat) : Int) := by omega
    have e3 : Go.bits .and .u64 (r : Int) 1 = ((r % 2 : Nat) : Int) := by rw [show (1 : Int) = ((1 : Nat) : Int) from rfl, and_nat (lt32_64 hr) (by decide), Nat.and_one_is_mod]
    rw [e1, e2, e3]
    by_cases hc : r % 2 = 1
    · refine ev_pos (by omega) ?_
      rw [show (3988292384 : Int) = ((3988292384 : Nat) : Int) from rfl, xor_nat (lt32_64 hr2) (by decide)]
      have hb : (r / 2) ^^^ 3988292384 = crcBit r := by unfold crcBit; rw [if_pos hc]
      rw [hb]
      exact ih _ _ (by omega) (by omega) (crcBit_lt hr) H
    · refine ev_neg (by omega) ?_
      have hb : r / 2 = crcBit r := by unfold crcBit; rw [if_neg hc]
      rw [hb]
      exact ih _ _ (by omega) (by omega) (crcBit_lt hr) H
theorem impl_Crc_l0 (xs : List Int) (hb : Bytes xs) (hl : xs.length ≤ 4611686018427387904) : ∀ (d i r : Nat), i + d = xs.length → r < 2 ^ 32 → Ev (fun k => impl_Crc.l0 k (r : Int) xs (xs.length : Int) (i : Int)) ((crcAll r (xs.drop i) ^^^ 4294967295 : Nat) : Int) := by
  intro d
  induction d with
  | zero =>
    intro i r h hr
    refine Ev.step (fun _ => impl_Crc.l0.eq_2 ..) ?_
    refine ev_neg (by omega) (ev_ret ?_)
    rw [List.drop_eq_nil_of_le (by omega)]
    show _ = ((r ^^^ 4294967295 : Nat) : Int)
    rw [show (4294967295 : Int) = ((4294967295 : Nat) : Int) from rfl]
    exact xor_nat (lt32_64 hr) (by decide)
  | succ d ih =>
    intro i r h hr
    refine Ev.step (fun _ => impl_Crc.l0.eq_2 ..) ?_
    refine ev_pos (by omega) (ev_pos (by omega) (ev_pos (by omega) ?_))
    obtain ⟨b, hbe, hb2⟩ := hb.get (n := i) (by omega)
    have hb3 : b < 2 ^ 32 := Nat.lt_trans hb2 (by decide)
    rw [rd_nat (by omega), hbe, u64w_id (x := (b : Int)) (by omega) (by omega), xor_nat (lt32_64 hr) (lt32_64 hb3)]
    refine impl_Crc_l1 xs _ _ _ 8 _ 0 (by omega) (by omega) (Nat.xor_lt_two_pow hr hb3) ?_
    have e : wrap64 ((i : Int) + 1) = ((i + 1 : Nat) : Int) := by rw [w64_id (by omega) (by omega)]; omega
    rw [e, List.drop_eq_getElem_cons (by omega : i < xs.length)]
    refine ev_eq ?_ (ih (i + 1) _ (by omega) (crcN_lt 8 (Nat.xor_lt_two_pow hr hb3)))
    show _ = ((crcAll (crcN (r ^^^ xs[i].toNat) 8) (xs.drop (i + 1)) ^^^ 4294967295 : Nat) : Int)
    rw [hbe, Int.toNat_natCast]
theorem impl_Crc_ev {xs : List Int} (hb : Bytes xs) (hl : xs.length ≤ 281474976710656) : Ev (fun k => impl_Crc.f k xs) (crcV xs : Int) := by
  unfold impl_Crc.f
  exact impl_Crc_l0 xs hb (by omega) xs.length 0 4294967295 (by omega) (by decide)
/-- What marking leaves: the numbers from k on, as bytes. -/
def markL (k : Int) (n : Nat) : List Int := (List.range n).map fun j : Nat => (k + (j : Int)) % 256
theorem markL_len (k : Int) (n : Nat) : (markL k n).length = n := by simp [markL]
theorem markL_get (k : Int) {n j : Nat} (h : j < n) : (markL k n)[j]? = some ((k + (j : Int)) % 256) := by
  simp [markL, List.getElem?_range h]
theorem laws_markByteS_l0 (n : Nat) (k0 : Int) (hk : 0 ≤ k0) (hk2 : k0 + n ≤ 4611686018427387904) : ∀ (d i : Nat) (xs : List Int), i + d = n → xs.length = n → (∀ j, j < i → xs[j]? = (markL k0 n)[j]?) → Ev (fun k => laws_markByteS.l0 k xs (k0 + i) (i : Int)) (k0 + n, markL k0 n) := by
  intro d
  induction d with
  | zero =>
    intro i xs h hx he
    refine Ev.step (fun _ => laws_markByteS.l0.eq_2 ..) ?_
    refine ev_neg (by omega) (ev_ret ?_)
    refine Prod.ext (by simp only; omega) ?_
    apply List.ext_getElem?
    intro j
    by_cases hj : j < n
    · exact he j (by omega)
    · rw [List.getElem?_eq_none (show xs.length ≤ j by omega), List.getElem?_eq_none (by rw [markL_len]; omega)]
  | succ d ih =>
    intro i xs h hx he
    refine Ev.step (fun _ => laws_markByteS.l0.eq_2 ..) ?_
    have e1 : wrap64 ((i : Int) + 1) = ((i + 1 : Nat) : Int) := by rw [w64_id (by omega) (by omega)]; omega
    have e2 : wrap64 (k0 + (i : Int) + 1) = k0 + ((i + 1 : Nat) : Int) := by rw [w64_id (by omega) (by omega)]; omega
    refine ev_pos (by omega) (ev_pos (by omega) ?_)
    rw [e1, e2, Int.toNat_natCast]
    refine ih (i + 1) _ (by omega) (by rw [List.length_set]; exact hx) ?_
    intro j hj
    by_cases hji : j = i
    · subst hji
      rw [List.getElem?_set_self (by omega), markL_get k0 (by omega)]
    · rw [List.getElem?_set_ne (by omega)]
      exact he j (by omega)
theorem laws_markByteS_ev (xs : List Int) {k0 : Int} (hk : 0 ≤ k0) (hk2 : k0 + xs.length ≤ 4611686018427387904) : Ev (fun k => laws_markByteS.f k xs k0) (k0 + xs.length, markL k0 xs.length) := by
  unfold laws_markByteS.f
  have := laws_markByteS_l0 xs.length k0 hk hk2 xs.length 0 xs (by omega) rfl (fun j hj => by omega)
  rw [show k0 + ((0 : Nat) : Int) = k0 by omega] at this
  exact this
theorem laws_heldByteS_l0 (n : Nat) (k0 : Int) (hk : 0 ≤ k0) (hk2 : k0 + n ≤ 4611686018427387904) : ∀ (d i : Nat), i + d = n → Ev (fun k => laws_heldByteS.l0 k (markL k0 n) (k0 + i) (i : Int)) (k0 + n) := by
  intro d
  induction d with
  | zero =>
    intro i h
    refine Ev.step (fun _ => laws_heldByteS.l0.eq_2 ..) ?_
    refine ev_neg (by rw [markL_len]; omega) (ev_ret (by omega))
  | succ d ih =>
    intro i h
    refine Ev.step (fun _ => laws_heldByteS.l0.eq_2 ..) ?_
    have e1 : wrap64 ((i : Int) + 1) = ((i + 1 : Nat) : Int) := by rw [w64_id (by omega) (by omega)]; omega
    have e2 : wrap64 (k0 + (i : Int) + 1) = k0 + ((i + 1 : Nat) : Int) := by rw [w64_id (by omega) (by omega)]; omega
    have hl : i < (markL k0 n).length := by rw [markL_len]; omega
    have e3 : (markL k0 n)[i] = (k0 + (i : Int)) % 256 := by
      have := markL_get k0 (n := n) (j := i) (by omega)
      rw [List.getElem?_eq_getElem hl] at this
      exact Option.some.inj this
    refine ev_pos (by omega) (ev_pos (by omega) ?_)
    rw [rd_nat hl, e1, e2]
    exact ev_pos e3 (ih (i + 1) (by omega))
theorem laws_heldByteS_ev (n : Nat) {k0 : Int} (hk : 0 ≤ k0) (hk2 : k0 + n ≤ 4611686018427387904) : Ev (fun k => laws_heldByteS.f k (markL k0 n) k0) (k0 + n) := by
  unfold laws_heldByteS.f
  have := laws_heldByteS_l0 n k0 hk hk2 n 0 (by omega)
  rw [show k0 + ((0 : Nat) : Int) = k0 by omega] at this
  exact this
/-- The eight bytes of a word, the lowest first (d of them). -/
def dig : Nat → Nat → List Int
  | 0, _ => []
  | d + 1, x => ((x % 256 : Nat) : Int) :: dig d (x / 256)
theorem dig_len : ∀ (d x : Nat), (dig d x).length = d := by
  intro d
  induction d with
  | zero => intro x; rfl
  | succ d ih => intro x; rw [dig, List.length_cons, ih]
theorem spec_l13Num_l0 : ∀ (d i x : Nat) (acc : List Int), i + d = 8 → x < 2 ^ 64 → acc.length ≤ 1024 + i → Ev (fun k => spec_l13Num.l0 k (x : Int) acc (i : Int)) (acc ++ dig d x) := by
  intro d
  induction d with
  | zero =>
    intro i x acc h hx ha
    rw [dig, List.append_nil]
    exact Ev.step (fun _ => spec_l13Num.l0.eq_2 ..) (ev_neg (by omega) (ev_ret rfl))
  | succ d ih =>
    intro i x acc h hx ha
    have e1 : wrap64 ((i : Int) + 1) = ((i + 1 : Nat) : Int) := by rw [w64_id (by omega) (by omega)]; omega
    have e2 : IntKind.u64.wrap (Int.tdiv (x : Int) 256) = ((x / 256 : Nat) : Int) := by
      rw [show (256 : Int) = ((256 : Nat) : Int) from rfl, tdiv_nat, u64w_id (by omega) (by omega)]
    have e3 : (Int.tmod (x : Int) 256) % 256 = ((x % 256 : Nat) : Int) := by
      rw [show (256 : Int) = ((256 : Nat) : Int) from rfl, tmod_nat]; omega
    refine Ev.step (fun _ => spec_l13Num.l0.eq_2 ..) (ev_pos (by omega) (ev_pos (by omega) ?_))
    rw [e1, e2, e3]
    refine ev_eq ?_ (ih (i + 1) (x / 256) (acc ++ [((x % 256 : Nat) : Int)]) (by omega) (by omega) (by rw [List.length_append, List.length_singleton]; omega))
    rw [dig, List.append_assoc, List.singleton_append]
theorem spec_l13Num_ev {x : Nat} (hx : x < 2 ^ 64) : Ev (fun k => spec_l13Num.f k (x : Int)) (dig 8 x) := spec_l13Num_l0 8 0 x [] (by omega) hx (by simp)
theorem spec_l13Fill_l0 : ∀ (d : Nat) (xs : List Int), xs.length + d = 128 → Ev (fun k => spec_l13Fill.l0 k xs) (xs ++ List.replicate d 0) := by
  intro d
  induction d with
  | zero =>
    intro xs h
    rw [List.replicate_zero, List.append_nil]
    refine Ev.step (g := fun k => spec_l13Fill.l0 k xs) (fun k => by unfold spec_l13Fill.l0; rfl) (ev_neg (by omega) (ev_ret rfl))
  | succ d ih =>
    intro xs h
    refine Ev.step (g := fun k => spec_l13Fill.l0 k xs) (fun k => by unfold spec_l13Fill.l0; rfl) (ev_pos (by omega) (ev_pos (by omega) ?_))
    refine ev_eq ?_ (ih (xs ++ [0]) (by rw [List.length_append, List.length_singleton]; omega))
    rw [List.append_assoc, List.singleton_append, List.replicate_succ]
def putRun : List Int → Nat → List Int → List Int
  | xs, _, [] => xs
  | xs, a, v :: vs => putRun (xs.set a v) (a + 1) vs
theorem impl_put8_l0 (x a : Nat) (hx : x < 2 ^ 64) : ∀ (d i : Nat) (xs : List Int), i + d = 8 → a + 8 ≤ xs.length → xs.length ≤ 1048576 → Ev (fun k => impl_put8.l0 k xs (a : Int) (x : Int) (i : Int)) (putRun xs (a + i) (dig d (x / 256 ^ i))) := by
  intro d
  induction d with
  | zero => intro i xs h ha hl; exact Ev.step (fun _ => impl_put8.l0.eq_2 ..) (ev_neg (by omega) (ev_ret rfl))
  | succ d ih =>
    intro i xs h ha hl
    have e1 : wrap64 ((i : Int) + 1) = ((i + 1 : Nat) : Int) := by rw [w64_id (by omega) (by omega)]; omega
    have e2 : wrap64 (8 * (i : Int)) = ((8 * i : Nat) : Int) := by rw [w64_id (by omega) (by omega)]; omega
    have e3 : wrap64 ((a : Int) + (i : Int)) = ((a + i : Nat) : Int) := by rw [w64_id (by omega) (by omega)]; omega
    have e4 : (shr .u64 (x : Int) ((8 * i : Nat) : Int)) % 256 = ((x / 256 ^ i % 256 : Nat) : Int) := by
      rw [shr_nat _ _ hx, Nat.shiftRight_eq_div_pow, Nat.pow_mul]
      show ((x / (2 ^ 8) ^ i : Nat) : Int) % 256 = _
      rw [show (2 : Nat) ^ 8 = 256 from rfl]; omega
    refine Ev.step (fun _ => impl_put8.l0.eq_2 ..) (ev_pos (by omega) ?_)
    rw [e1, e2, e3, e4, Int.toNat_natCast]
    have hlt : a + i < xs.length := by omega
    refine ev_pos (Int.natCast_nonneg _) ?_
    refine ev_pos (Int.natCast_nonneg _) ?_
    refine ev_pos (Int.ofNat_lt.2 hlt) ?_
    rw [dig, putRun]
    refine ev_eq ?_ (ih (i + 1) (xs.set (a + i) ((x / 256 ^ i % 256 : Nat) : Int)) (by omega) (by rw [List.length_set]; exact ha) (by rw [List.length_set]; exact hl))
    rw [Nat.pow_succ, ← Nat.div_div_eq_div_mul, Nat.add_assoc]
theorem impl_put8_ev {x a : Nat} (hx : x < 2 ^ 64) {xs : List Int} (ha : a + 8 ≤ xs.length) (hl : xs.length ≤ 1048576) : Ev (fun k => impl_put8.f k xs (a : Int) (x : Int)) (putRun xs a (dig 8 x)) := by
  have := impl_put8_l0 x a hx 8 0 xs (by omega) ha hl
  rw [Nat.pow_zero, Nat.div_one, Nat.add_zero] at this
  exact this
def jnl40 : List Int := [75, 74, 78, 76] ++ List.replicate 36 0
def jnlHd (c : Nat) : List Int := (jnl40 ++ dig 8 c) ++ List.replicate 80 0
theorem jnl40_bytes : Bytes jnl40 := by
  intro x hx
  rcases List.mem_append.1 hx with h | h
  · simp at h; omega
  · have := (List.mem_replicate.1 h).2; omega
theorem jnl40_len : jnl40.length = 40 := rfl
theorem crc_nil : crcV [] = 0 := by decide
theorem jnlHd_len (c : Nat) : (jnlHd c).length = 128 := by
  unfold jnlHd
  rw [List.length_append, List.length_append, dig_len, jnl40_len, List.length_replicate]
theorem spec_l13Head_ev : Ev (fun k => spec_l13Head.f k 0 0 ((crcV [] : Nat) : Int)) (jnlHd (crcV jnl40)) := by
  unfold spec_l13Head.f
  have hc := lt32_64 (crcV_lt jnl40_bytes)
  have z := spec_l13Num_ev (x := 0) (by decide)
  have ez : IntKind.u64.wrap (0 : Int) = ((0 : Nat) : Int) := by rw [u64w_id (by omega) (by omega)]; rfl
  rw [crc_nil]
  refine ev_bind0 rfl (ev_pos (by decide) (ev_bind0 rfl ?_))
  refine Ev.bind z (ev_pos (by decide) (ev_bind0 rfl ?_))
  rw [ez]
  refine Ev.bind z (ev_pos (by decide) (ev_bind0 rfl ?_))
  refine Ev.bind z (ev_pos (by decide) (ev_bind0 rfl ?_))
  have e40 : ((([75, 74, 78, 76] ++ List.replicate 12 0 : List Int) ++ dig 8 0) ++ dig 8 0) ++ dig 8 0 = jnl40 := by decide
  rw [e40]
  refine Ev.bind (spec_Crc_ev jnl40_bytes (by decide)) (Ev.bind (spec_l13Num_ev hc) (ev_pos (by rw [dig_len, jnl40_len]; omega) ?_))
  unfold spec_l13Fill.f
  exact Ev.bind (spec_l13Fill_l0 80 _ (by rw [List.length_append, dig_len, jnl40_len])) (ev_ret rfl)
def jnl0 : List Int := [75, 74, 78, 76] ++ List.replicate 124 0
theorem impl_jnlHead_ev : Ev (fun k => impl_jnlHead.f k 0 ([] : List Int) 0) (jnlHd (crcV jnl40)) := by
  unfold impl_jnlHead.f
  have hc := lt32_64 (crcV_lt jnl40_bytes)
  have ez : IntKind.u64.wrap (0 : Int) = ((0 : Nat) : Int) := by rw [u64w_id (by omega) (by omega)]; rfl
  have ew : wrap64 (16 * 0) = 0 := by unfold wrap64; omega
  have hcopy : copyS.f (List.replicate 128 0) (⟨#[75, 74, 78, 76]⟩ : ByteArray) = some jnl0 := by
    unfold copyS.f
    rw [if_pos (by rw [List.length_replicate]; decide)]
    rfl
  have jl : jnl0.length = 128 := by unfold jnl0; rw [List.length_append, List.length_replicate]; rfl
  have p16 : putRun jnl0 16 (dig 8 0) = jnl0 := by decide
  have p24 : putRun jnl0 24 (dig 8 0) = jnl0 := by decide
  have p32 : putRun jnl0 32 (dig 8 0) = jnl0 := by decide
  have p40 : ∀ c, putRun jnl0 40 (dig 8 c) = jnlHd c := fun c => rfl
  have t40 : jnl0.take 40 = jnl40 := by decide
  have b16 := impl_put8_ev (x := 0) (a := 16) (by decide) (xs := jnl0) (by rw [jl]; omega) (by rw [jl]; omega)
  have b24 := impl_put8_ev (x := 0) (a := 24) (by decide) (xs := jnl0) (by rw [jl]; omega) (by rw [jl]; omega)
  have b32 := impl_put8_ev (x := 0) (a := 32) (by decide) (xs := jnl0) (by rw [jl]; omega) (by rw [jl]; omega)
  have b40 := impl_put8_ev (x := crcV jnl40) (a := 40) hc (xs := jnl0) (by rw [jl]; omega) (by rw [jl]; omega)
  rw [p16] at b16
  rw [p24] at b24
  rw [p32] at b32
  rw [p40] at b40
  have c0 := impl_Crc_ev (xs := []) (fun x hx => by cases hx) (by decide)
  rw [crc_nil] at c0
  refine ev_pos (by decide) (ev_bind0 rfl (ev_bind0 hcopy (Ev.bind b16 ?_)))
  rw [ez, ew]
  refine Ev.bind b24 (ev_pos (by decide) (ev_pos (by decide) (Ev.bind c0 (Ev.bind b32 (ev_pos (by rw [List.length_replicate]; decide) ?_)))))
  rw [t40]
  exact Ev.bind (impl_Crc_ev jnl40_bytes (by decide)) (Ev.bind b40 (ev_ret rfl))
def jnlF (a : Int) : List Int := if a ≤ 20 ∨ a > 1024 then [] else jnlHd (crcV jnl40) ++ List.replicate ((a - 1) * 128).toNat 0
theorem spec_JnlFormat_ev (a : Int) : Ev (fun k => spec_JnlFormat.f k a) (jnlF a) := by
  unfold spec_JnlFormat.f jnlF
  have bad : Ev (fun k => spec_JnlFormat.j0 k a true) ([] : List Int) := Ev.step (fun _ => spec_JnlFormat.j0.eq_2 ..) (ev_pos rfl (ev_ret rfl))
  by_cases h : a ≤ 20 ∨ a > 1024
  · rw [if_pos h]
    refine ev_split (fun _ => bad) (fun h1 => ?_)
    rw [decide_eq_true (by omega)]; exact bad
  · rw [if_neg h]
    refine ev_neg (by omega) ?_
    rw [decide_eq_false (by omega)]
    have e : wrap64 ((wrap64 (a - 1)) * 128) = (a - 1) * 128 := by rw [w64_id (x := a - 1) (by omega) (by omega), w64_id (by omega) (by omega)]
    refine Ev.step (fun _ => spec_JnlFormat.j0.eq_2 ..) (ev_neg (by decide) (Ev.bind (spec_Crc_ev (xs := []) (fun x hx => by cases hx) (by decide)) (Ev.bind spec_l13Head_ev ?_)))
    rw [e]
    exact ev_pos (by omega) (ev_pos (by rw [jnlHd_len]; omega) (ev_ret rfl))
theorem impl_JnlFormat_ev (a : Int) : Ev (fun k => impl_JnlFormat.f k a) (jnlF a) := by
  unfold impl_JnlFormat.f jnlF
  have bad : Ev (fun k => impl_JnlFormat.j0 k a true) ([] : List Int) := Ev.step (fun _ => impl_JnlFormat.j0.eq_2 ..) (ev_pos rfl (ev_ret rfl))
  by_cases h : a ≤ 20 ∨ a > 1024
  · rw [if_pos h]
    refine ev_split (fun _ => bad) (fun h1 => ?_)
    rw [decide_eq_true (by omega)]; exact bad
  · rw [if_neg h]
    refine ev_neg (by omega) ?_
    rw [decide_eq_false (by omega)]
    have e : wrap64 (a * 128) = a * 128 := by rw [w64_id (by omega) (by omega)]
    refine Ev.step (fun _ => impl_JnlFormat.j0.eq_2 ..) (ev_neg (by decide) ?_)
    rw [e]
    refine ev_pos (by omega) (ev_pos (by omega) (Ev.bind impl_jnlHead_ev (ev_bind0 rfl (ev_ret ?_))))
    rw [List.length_replicate, jnlHd_len, List.take_of_length_le (by rw [jnlHd_len]; omega), List.drop_replicate, show (a * 128).toNat - 128 = ((a - 1) * 128).toNat by omega]
theorem jnlF_len (a : Int) : (jnlF a).length ≤ 1048576 := by
  unfold jnlF
  split
  · simp
  · rw [List.length_append, jnlHd_len, List.length_replicate]; omega
theorem FnExactJnlFormat : laws_FnExactJnlFormat.Pure := by
  intro a0 ha
  refine Ev.rounds ?_
  unfold laws_FnExactJnlFormat.f
  have hl := jnlF_len a0
  have h1 := impl_JnlFormat_ev a0
  have h2 := spec_JnlFormat_ev a0
  generalize jnlF a0 = r at *
  have eq1 := laws_eqByteS_ev (xs := r) (by omega)
  have mk := laws_markByteS_ev r (k0 := 1) (by omega) (by omega)
  have hd := laws_heldByteS_ev r.length (k0 := 1) (by omega) (by omega)
  exact Ev.bind h2 (Ev.bind h1 (Ev.bind eq1 (ev_pos rfl (Ev.bind mk (Ev.bind hd (ev_neg (by omega) (ev_pos rfl (Ev.bind h1 (Ev.bind eq1 (ev_pos rfl (Ev.bind hd (ev_neg (by omega) (ev_pos rfl (ev_ret rfl))))))))))))))
end Go.Proofs.Ytflmbjoipmglbaa.Pure
