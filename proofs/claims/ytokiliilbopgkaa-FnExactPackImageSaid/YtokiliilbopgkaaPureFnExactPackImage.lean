/- For every input that the row lets in, FnExactPackImage answers true; this text proves the plain law that is left when the machine's side is done. -/
import Derived.Test.YtokiliilbopgkaaPFnExactPackImagex8
import Derived.Test.YtokiliilbopgkaaVBase
set_option linter.unusedVariables false
set_option linter.unusedSimpArgs false
namespace Go.Proofs.Ytokiliilbopgkaa.Pure
open Go.RowKit Go.Proofs.Ytokiliilbopgkaa.PFnExactPackImage Go.Proofs.YtokiliilbopgkaaW.PrintWords Go.Proofs.YtokiliilbopgkaaW.PrintLast Go.Proofs.YtokiliilbopgkaaW.PrintMore Go.Proofs.Ytokiliilbopgkaa.Base

theorem laws_toByteS_l0 (xs : List Int) (hl : xs.length ≤ 4611686018427387904) : ∀ (d i : Nat) (ys : List Int), i + d = xs.length → ys.length = xs.length → (∀ j, j < i → ys[j]? = xs[j]?) → Ev (fun k => laws_toByteS.l0 k xs ys (i : Int)) xs := by
  intro d
  induction d with
  | zero =>
    intro i ys h hy he
    refine Ev.step (fun _ => laws_toByteS.l0.eq_2 ..) ?_
    refine ev_neg (by omega) (ev_ret ?_)
    apply List.ext_getElem?
    intro j
    by_cases hj : j < i
    · exact he j hj
    · rw [List.getElem?_eq_none (by omega), List.getElem?_eq_none (by omega)]
  | succ d ih =>
    intro i ys h hy he
    refine Ev.step (fun _ => laws_toByteS.l0.eq_2 ..) ?_
    refine ev_pos (by omega) (ev_pos (by omega) (ev_pos (by omega) ?_))
    have e : wrap64 ((i : Int) + 1) = ((i + 1 : Nat) : Int) := by rw [w64_id (by omega) (by omega)]; omega
    rw [e, rd_nat (by omega), Int.toNat_natCast]
    refine ih (i + 1) _ (by omega) (by rw [List.length_set]; exact hy) ?_
    intro j hj
    by_cases hji : j = i
    · subst hji
      rw [List.getElem?_set_self (by omega), List.getElem?_eq_getElem (by omega)]
    · rw [List.getElem?_set_ne (by omega)]
      exact he j (by omega)
theorem laws_toByteS_ev {xs : List Int} (hl : xs.length ≤ 281474976710656) : Ev (fun k => laws_toByteS.f k xs) xs := by
  unfold laws_toByteS.f
  refine ev_pos (by omega) (ev_pos (by omega) ?_)
  exact laws_toByteS_l0 xs (by omega) xs.length 0 _ (by omega) (by simp) (fun j hj => by omega)
theorem laws_eqByteS_l0 (xs : List Int) (hl : xs.length ≤ 4611686018427387904) : ∀ (d i : Nat), i + d = xs.length → Ev (fun k => laws_eqByteS.l0 k xs xs (i : Int)) true := by
  intro d
  induction d with
  | zero =>
    intro i h
    refine Ev.step (fun _ => laws_eqByteS.l0.eq_2 ..) ?_
    exact ev_neg (by omega) (ev_ret rfl)
  | succ d ih =>
    intro i h
    refine Ev.step (fun _ => laws_eqByteS.l0.eq_2 ..) ?_
    refine ev_pos (by omega) (ev_pos (by omega) (ev_pos (by omega) (ev_pos rfl ?_)))
    have e : wrap64 ((i : Int) + 1) = ((i + 1 : Nat) : Int) := by rw [w64_id (by omega) (by omega)]; omega
    rw [e]
    exact ih (i + 1) (by omega)
theorem laws_eqByteS_ev {xs : List Int} (hl : xs.length ≤ 281474976710656) : Ev (fun k => laws_eqByteS.f k xs xs) true := by
  unfold laws_eqByteS.f
  exact ev_pos rfl (laws_eqByteS_l0 xs (by omega) xs.length 0 (by omega))
def crcBit (r : Nat) : Nat := if r % 2 = 1 then (r / 2) ^^^ 3988292384 else r / 2
def crcN (r : Nat) : Nat → Nat
  | 0 => r
  | d + 1 => crcN (crcBit r) d
def crcAll (r : Nat) : List Int → Nat
  | [] => r
  | b :: bs => crcAll (crcN (r ^^^ b.toNat) 8) bs
def crcV (xs : List Int) : Nat := crcAll 4294967295 xs ^^^ 4294967295
theorem crcBit_lt {r : Nat} (h : r < 2 ^ 32) : crcBit r < 2 ^ 32 := by
  unfold crcBit
  split
  · exact Nat.xor_lt_two_pow (Nat.lt_of_le_of_lt (Nat.div_le_self _ _) h) (by decide)
  · exact Nat.lt_of_le_of_lt (Nat.div_le_self _ _) h
theorem crcN_lt : ∀ (d : Nat) {r : Nat}, r < 2 ^ 32 → crcN r d < 2 ^ 32
  | 0, _, h => h
  | d + 1, _, h => crcN_lt d (crcBit_lt h)
theorem crcAll_lt : ∀ (xs : List Int) {r : Nat}, r < 2 ^ 32 → Bytes xs → crcAll r xs < 2 ^ 32
  | [], _, h, _ => h
  | b :: bs, r, h, hb => by
    refine crcAll_lt bs (crcN_lt 8 (Nat.xor_lt_two_pow h ?_)) (fun x hx => hb x (List.mem_cons_of_mem _ hx))
    have h0 := hb b List.mem_cons_self
    have : b.toNat < 256 := by omega
    exact Nat.lt_trans this (by decide)
theorem crcV_lt {xs : List Int} (hb : Bytes xs) : crcV xs < 2 ^ 32 := Nat.xor_lt_two_pow (crcAll_lt xs (by decide) hb) (by decide)
theorem lt32_64 {r : Nat} (h : r < 2 ^ 32) : r < 2 ^ 64 := Nat.lt_trans h (by decide)
theorem spec_Crc_l1 (xs : List Int) (i : Int) (R : Int) : ∀ (d r : Nat) (j : Int), j + d = 8 → 0 ≤ j → r < 2 ^ 32 → Ev (fun k => spec_Crc.l0 k xs (crcN r d : Int) (wrap64 (i + 1))) R → Ev (fun k => spec_Crc.l1 k xs (r : Int) i j) R := by
  intro d
  induction d with
  | zero =>
    intro r j h h0 hr H
    refine Ev.step (fun _ => spec_Crc.l1.eq_2 ..) ?_
    exact ev_neg (by omega) H
  | succ d ih =>
    intro r j h h0 hr H
    refine Ev.step (fun _ => spec_Crc.l1.eq_2 ..) ?_
    refine ev_pos (by omega) ?_
    have e1 : wrap64 (j + 1) = j + 1 := w64_id (by omega) (by omega)
    have hr2 : r / 2 < 2 ^ 32 := Nat.lt_of_le_of_lt (Nat.div_le_self _ _) hr
    have hr3 : r < 4294967296 := hr
    have e2 : IntKind.u64.wrap (Int.tdiv (r : Int) 2) = ((r / 2 : Nat) : Int) := by
      rw [show (2 : Int) = ((2 : Nat) : Int) from rfl, tdiv_nat, u64w_id (by omega) (by omega)]
    have e3 : Int.tmod (r : Int) 2 = ((r % 2 : Nat) : Int) := by rw [show (2 : Int) = ((2 : Nat) : Int) from rfl, tmod_nat]
    rw [e1, e2, e3]
    by_cases hc : r % 2 = 1
    · refine ev_pos (by omega) ?_
      rw [show (3988292384 : Int) = ((3988292384 : Nat) : Int) from rfl, xor_nat (lt32_64 hr2) (by decide)]
      have hb : (r / 2) ^^^ 3988292384 = crcBit r := by unfold crcBit; rw [if_pos hc]
      rw [hb]
      exact ih _ _ (by omega) (by omega) (crcBit_lt hr) H
    · refine ev_neg (by omega) ?_
      have hb : r / 2 = crcBit r := by unfold crcBit; rw [if_neg hc]
      rw [hb]
      exact ih _ _ (by omega) (by omega) (crcBit_lt hr) H
theorem spec_Crc_l0 (xs : List Int) (hb : Bytes xs) (hl : xs.length ≤ 4611686018427387904) : ∀ (d i r : Nat), i + d = xs.length → r < 2 ^ 32 → Ev (fun k => spec_Crc.l0 k xs (r : Int) (i : Int)) ((crcAll r (xs.drop i) ^^^ 4294967295 : Nat) : Int) := by
  intro d
  induction d with
  | zero =>
    intro i r h hr
    refine Ev.step (fun _ => spec_Crc.l0.eq_2 ..) ?_
    refine ev_neg (by omega) (ev_ret ?_)
    rw [List.drop_eq_nil_of_le (by omega)]
    show _ = ((r ^^^ 4294967295 : Nat) : Int)
    rw [show (4294967295 : Int) = ((4294967295 : Nat) : Int) from rfl]
    exact xor_nat (lt32_64 hr) (by decide)
  | succ d ih =>
    intro i r h hr
    refine Ev.step (fun _ => spec_Crc.l0.eq_2 ..) ?_
    refine ev_pos (by omega) (ev_pos (by omega) ?_)
    obtain ⟨b, hbe, hb2⟩ := hb.get (n := i) (by omega)
    have hb3 : b < 2 ^ 32 := Nat.lt_trans hb2 (by decide)
    rw [rd_nat (by omega), hbe, u64w_id (x := (b : Int)) (by omega) (by omega), xor_nat (lt32_64 hr) (lt32_64 hb3)]
    refine spec_Crc_l1 xs _ _ 8 _ 0 (by omega) (by omega) (Nat.xor_lt_two_pow hr hb3) ?_
    have e : wrap64 ((i : Int) + 1) = ((i + 1 : Nat) : Int) := by rw [w64_id (by omega) (by omega)]; omega
    rw [e, List.drop_eq_getElem_cons (by omega : i < xs.length)]
    refine ev_eq ?_ (ih (i + 1) _ (by omega) (crcN_lt 8 (Nat.xor_lt_two_pow hr hb3)))
    show _ = ((crcAll (crcN (r ^^^ xs[i].toNat) 8) (xs.drop (i + 1)) ^^^ 4294967295 : Nat) : Int)
    rw [hbe, Int.toNat_natCast]
theorem spec_Crc_ev {xs : List Int} (hb : Bytes xs) (hl : xs.length ≤ 281474976710656) : Ev (fun k => spec_Crc.f k xs) (crcV xs : Int) := by
  unfold spec_Crc.f
  exact spec_Crc_l0 xs hb (by omega) xs.length 0 4294967295 (by omega) (by decide)
theorem impl_Crc_l1 (xs : List Int) (n i : Int) (R : Int) : ∀ (d r : Nat) (j : Int), j + d = 8 → 0 ≤ j → r < 2 ^ 32 → Ev (fun k => impl_Crc.l0 k (crcN r d : Int) xs n (wrap64 (i + 1))) R → Ev (fun k => impl_Crc.l1 k (r : Int) xs n i j) R := by
  intro d
  induction d with
  | zero =>
    intro r j h h0 hr H
    refine Ev.step (fun _ => impl_Crc.l1.eq_2 ..) ?_
    exact ev_neg (by omega) H
  | succ d ih =>
    intro r j h h0 hr H
    refine Ev.step (fun _ => impl_Crc.l1.eq_2 ..) ?_
    refine ev_pos (by omega) ?_
    have e1 : wrap64 (j + 1) = j + 1 := w64_id (by omega) (by omega)
    have hr2 : r / 2 < 2 ^ 32 := Nat.lt_of_le_of_lt (Nat.div_le_self _ _) hr
    have e2 : (r : Int) / 2 = ((r / 2 : Nat) : Int) := by omega
    have e3 : Go.bits .and .u64 (r : Int) 1 = ((r % 2 : Nat) : Int) := by rw [show (1 : Int) = ((1 : Nat) : Int) from rfl, and_nat (lt32_64 hr) (by decide), Nat.and_one_is_mod]
    rw [e1, e2, e3]
    by_cases hc : r % 2 = 1
    · refine ev_pos (by omega) ?_
      rw [show (3988292384 : Int) = ((3988292384 : Nat) : Int) from rfl, xor_nat (lt32_64 hr2) (by decide)]
      have hb : (r / 2) ^^^ 3988292384 = crcBit r := by unfold crcBit; rw [if_pos hc]
      rw [hb]
      exact ih _ _ (by omega) (by omega) (crcBit_lt hr) H
    · refine ev_neg (by omega) ?_
      have hb : r / 2 = crcBit r := by unfold crcBit; rw [if_neg hc]
      rw [hb]
      exact ih _ _ (by omega) (by omega) (crcBit_lt hr) H
theorem impl_Crc_l0 (xs : List Int) (hb : Bytes xs) (hl : xs.length ≤ 4611686018427387904) : ∀ (d i r : Nat), i + d = xs.length → r < 2 ^ 32 → Ev (fun k => impl_Crc.l0 k (r : Int) xs (xs.length : Int) (i : Int)) ((crcAll r (xs.drop i) ^^^ 4294967295 : Nat) : Int) := by
  intro d
  induction d with
  | zero =>
    intro i r h hr
    refine Ev.step (fun _ => impl_Crc.l0.eq_2 ..) ?_
    refine ev_neg (by omega) (ev_ret ?_)
    rw [List.drop_eq_nil_of_le (by omega)]
    show _ = ((r ^^^ 4294967295 : Nat) : Int)
    rw [show (4294967295 : Int) = ((4294967295 : Nat) : Int) from rfl]
    exact xor_nat (lt32_64 hr) (by decide)
  | succ d ih =>
    intro i r h hr
    refine Ev.step (fun _ => impl_Crc.l0.eq_2 ..) ?_
    refine ev_pos (by omega) (ev_pos (by omega) (ev_pos (by omega) ?_))
    obtain ⟨b, hbe, hb2⟩ := hb.get (n := i) (by omega)
    have hb3 : b < 2 ^ 32 := Nat.lt_trans hb2 (by decide)
    rw [rd_nat (by omega), hbe, u64w_id (x := (b : Int)) (by omega) (by omega), xor_nat (lt32_64 hr) (lt32_64 hb3)]
    refine impl_Crc_l1 xs _ _ _ 8 _ 0 (by omega) (by omega) (Nat.xor_lt_two_pow hr hb3) ?_
    have e : wrap64 ((i : Int) + 1) = ((i + 1 : Nat) : Int) := by rw [w64_id (by omega) (by omega)]; omega
    rw [e, List.drop_eq_getElem_cons (by omega : i < xs.length)]
    refine ev_eq ?_ (ih (i + 1) _ (by omega) (crcN_lt 8 (Nat.xor_lt_two_pow hr hb3)))
    show _ = ((crcAll (crcN (r ^^^ xs[i].toNat) 8) (xs.drop (i + 1)) ^^^ 4294967295 : Nat) : Int)
    rw [hbe, Int.toNat_natCast]
theorem impl_Crc_ev {xs : List Int} (hb : Bytes xs) (hl : xs.length ≤ 281474976710656) : Ev (fun k => impl_Crc.f k xs) (crcV xs : Int) := by
  unfold impl_Crc.f
  exact impl_Crc_l0 xs hb (by omega) xs.length 0 4294967295 (by omega) (by decide)
/-- What marking leaves: the numbers from k on, as bytes. -/
def markL (k : Int) (n : Nat) : List Int := (List.range n).map fun j : Nat => (k + (j : Int)) % 256
theorem markL_len (k : Int) (n : Nat) : (markL k n).length = n := by simp [markL]
theorem markL_get (k : Int) {n j : Nat} (h : j < n) : (markL k n)[j]? = some ((k + (j : Int)) % 256) := by
  simp [markL, List.getElem?_range h]
theorem laws_markByteS_l0 (n : Nat) (k0 : Int) (hk : 0 ≤ k0) (hk2 : k0 + n ≤ 4611686018427387904) : ∀ (d i : Nat) (xs : List Int), i + d = n → xs.length = n → (∀ j, j < i → xs[j]? = (markL k0 n)[j]?) → Ev (fun k => laws_markByteS.l0 k xs (k0 + i) (i : Int)) (k0 + n, markL k0 n) := by
  intro d
  induction d with
  | zero =>
    intro i xs h hx he
    refine Ev.step (fun _ => laws_markByteS.l0.eq_2 ..) ?_
    refine ev_neg (by omega) (ev_ret ?_)
    refine Prod.ext (by simp only; omega) ?_
    apply List.ext_getElem?
    intro j
    by_cases hj : j < n
    · exact he j (by omega)
    · rw [List.getElem?_eq_none (show xs.length ≤ j by omega), List.getElem?_eq_none (by rw [markL_len]; omega)]
  | succ d ih =>
    intro i xs h hx he
    refine Ev.step (fun _ => laws_markByteS.l0.eq_2 ..) ?_
    have e1 : wrap64 ((i : Int) + 1) = ((i + 1 : Nat) : Int) := by rw [w64_id (by omega) (by omega)]; omega
    have e2 : wrap64 (k0 + (i : Int) + 1) = k0 + ((i + 1 : Nat) : Int) := by rw [w64_id (by omega) (by omega)]; omega
    refine ev_pos (by omega) (ev_pos (by omega) ?_)
    rw [e1, e2, Int.toNat_natCast]
    refine ih (i + 1) _ (by omega) (by rw [List.length_set]; exact hx) ?_
    intro j hj
    by_cases hji : j = i
    · subst hji
      rw [List.getElem?_set_self (by omega), markL_get k0 (by omega)]
    · rw [List.getElem?_set_ne (by omega)]
      exact he j (by omega)
theorem laws_markByteS_ev (xs : List Int) {k0 : Int} (hk : 0 ≤ k0) (hk2 : k0 + xs.length ≤ 4611686018427387904) : Ev (fun k => laws_markByteS.f k xs k0) (k0 + xs.length, markL k0 xs.length) := by
  unfold laws_markByteS.f
  have := laws_markByteS_l0 xs.length k0 hk hk2 xs.length 0 xs (by omega) rfl (fun j hj => by omega)
  rw [show k0 + ((0 : Nat) : Int) = k0 by omega] at this
  exact this
theorem laws_heldByteS_l0 (n : Nat) (k0 : Int) (hk : 0 ≤ k0) (hk2 : k0 + n ≤ 4611686018427387904) : ∀ (d i : Nat), i + d = n → Ev (fun k => laws_heldByteS.l0 k (markL k0 n) (k0 + i) (i : Int)) (k0 + n) := by
  intro d
  induction d with
  | zero =>
    intro i h
    refine Ev.step (fun _ => laws_heldByteS.l0.eq_2 ..) ?_
    refine ev_neg (by rw [markL_len]; omega) (ev_ret (by omega))
  | succ d ih =>
    intro i h
    refine Ev.step (fun _ => laws_heldByteS.l0.eq_2 ..) ?_
    have e1 : wrap64 ((i : Int) + 1) = ((i + 1 : Nat) : Int) := by rw [w64_id (by omega) (by omega)]; omega
    have e2 : wrap64 (k0 + (i : Int) + 1) = k0 + ((i + 1 : Nat) : Int) := by rw [w64_id (by omega) (by omega)]; omega
    have hl : i < (markL k0 n).length := by rw [markL_len]; omega
    have e3 : (markL k0 n)[i] = (k0 + (i : Int)) % 256 := by
      have := markL_get k0 (n := n) (j := i) (by omega)
      rw [List.getElem?_eq_getElem hl] at this
      exact Option.some.inj this
    refine ev_pos (by omega) (ev_pos (by omega) ?_)
    rw [rd_nat hl, e1, e2]
    exact ev_pos e3 (ih (i + 1) (by omega))
theorem laws_heldByteS_ev (n : Nat) {k0 : Int} (hk : 0 ≤ k0) (hk2 : k0 + n ≤ 4611686018427387904) : Ev (fun k => laws_heldByteS.f k (markL k0 n) k0) (k0 + n) := by
  unfold laws_heldByteS.f
  have := laws_heldByteS_l0 n k0 hk hk2 n 0 (by omega)
  rw [show k0 + ((0 : Nat) : Int) = k0 by omega] at this
  exact this
theorem laws_szByteS_eq {xs : List Int} (hl : xs.length ≤ maxLen) {n : Int} (h0 : 0 ≤ n) (h1 : n ≤ 1048576) : laws_szByteS.f xs n = some (if n < xs.length then (-1 : Int) else n - (xs.length : Int)) := by
  have hl2 := wf_le hl
  unfold laws_szByteS.f
  rw [w64_id (x := n - (xs.length : Int)) (by omega) (by omega)]
  by_cases h : n < xs.length
  · rw [if_pos (by omega), if_pos h]
  · rw [if_neg (by omega), if_neg h]
def cSeg (x : S78) : S58 := ⟨x.f0, x.f1, x.f2, x.f3⟩
theorem laws_toSeg_ev (a b c : Int) {l : List Int} (hl : l.length ≤ 281474976710656) : Ev (fun k => laws_toSeg.f k a b c l) (a, b, c, l) := by
  unfold laws_toSeg.f
  exact Ev.bind (laws_toByteS_ev hl) (ev_ret rfl)
theorem laws_toSegS_l0 (xs : List S78) (hl : xs.length ≤ 4611686018427387904) (hd : ∀ s ∈ xs, s.f3.length ≤ 281474976710656) : ∀ (d i : Nat) (ys : List S58), i + d = xs.length → ys.length = xs.length → (∀ j, j < i → ys[j]? = (xs.map cSeg)[j]?) → Ev (fun k => laws_toSegS.l0 k xs ys (i : Int)) (xs.map cSeg) := by
  intro d
  induction d with
  | zero =>
    intro i ys h hy he
    refine Ev.step (fun _ => laws_toSegS.l0.eq_2 ..) (ev_neg (by omega) (ev_ret ?_))
    apply List.ext_getElem?
    intro j
    by_cases hj : j < i
    · exact he j hj
    · rw [List.getElem?_eq_none (by omega), List.getElem?_eq_none (by rw [List.length_map]; omega)]
  | succ d ih =>
    intro i ys h hy he
    have hi : i < xs.length := by omega
    have er : rd_T78 xs (i : Int) = xs[i] := getD_nat _ hi
    refine Ev.step (fun _ => laws_toSegS.l0.eq_2 ..) (ev_pos (by omega) (ev_pos (by omega) ?_))
    rw [w64_succ hi hl, er, Int.toNat_natCast]
    refine Ev.bind (laws_toSeg_ev _ _ _ (hd _ (List.getElem_mem hi))) (ev_pos (by omega) ?_)
    refine ih (i + 1) _ (by omega) (by rw [List.length_set]; exact hy) ?_
    intro j hj
    by_cases hji : j = i
    · subst hji
      rw [List.getElem?_set_self (by omega), List.getElem?_map, List.getElem?_eq_getElem hi]; rfl
    · rw [List.getElem?_set_ne (by omega)]
      exact he j (by omega)
theorem laws_toSegS_ev {xs : List S78} (hl : xs.length ≤ 1099511627776) (hd : ∀ s ∈ xs, s.f3.length ≤ 281474976710656) : Ev (fun k => laws_toSegS.f k xs) (xs.map cSeg) := by
  unfold laws_toSegS.f
  refine ev_pos (by omega) (ev_pos (by omega) ?_)
  exact laws_toSegS_l0 xs (by omega) hd xs.length 0 _ (by omega) (by simp) (fun j hj => by omega)
theorem laws_toImage_ev (n : Int) {xs : List S78} (hl : xs.length ≤ 1099511627776) (hd : ∀ s ∈ xs, s.f3.length ≤ 281474976710656) : Ev (fun k => laws_toImage.f k n xs) (n, xs.map cSeg) := by
  unfold laws_toImage.f
  exact Ev.bind (laws_toSegS_ev hl hd) (ev_ret rfl)
theorem laws_eqSeg_ev (a b c : Int) {l : List Int} (hl : l.length ≤ 281474976710656) : Ev (fun k => laws_eqSeg.f k a b c l a b c l) true := by
  unfold laws_eqSeg.f
  exact ev_pos rfl (ev_pos rfl (ev_pos rfl (Ev.bind (laws_eqByteS_ev hl) (ev_pos rfl (ev_ret rfl)))))
theorem laws_eqSegS_l0 (xs : List S58) (hl : xs.length ≤ 4611686018427387904) (hd : ∀ s ∈ xs, s.f3.length ≤ 281474976710656) : ∀ (d i : Nat), i + d = xs.length → Ev (fun k => laws_eqSegS.l0 k xs xs (i : Int)) true := by
  intro d
  induction d with
  | zero =>
    intro i h
    exact Ev.step (fun _ => laws_eqSegS.l0.eq_2 ..) (ev_neg (by omega) (ev_ret rfl))
  | succ d ih =>
    intro i h
    have hi : i < xs.length := by omega
    have er : rd_T58 xs (i : Int) = xs[i] := getD_nat _ hi
    refine Ev.step (fun _ => laws_eqSegS.l0.eq_2 ..) (ev_pos (by omega) (ev_pos (by omega) (ev_pos (by omega) ?_)))
    rw [w64_succ hi hl, er]
    exact Ev.bind (laws_eqSeg_ev _ _ _ (hd _ (List.getElem_mem hi))) (ev_pos rfl (ih (i + 1) (by omega)))
theorem laws_eqSegS_ev {xs : List S58} (hl : xs.length ≤ 1099511627776) (hd : ∀ s ∈ xs, s.f3.length ≤ 281474976710656) : Ev (fun k => laws_eqSegS.f k xs xs) true := by
  unfold laws_eqSegS.f
  exact ev_pos rfl (laws_eqSegS_l0 xs (by omega) hd xs.length 0 (by omega))
theorem laws_eqImage_ev (n : Int) {xs : List S58} (hl : xs.length ≤ 1099511627776) (hd : ∀ s ∈ xs, s.f3.length ≤ 281474976710656) : Ev (fun k => laws_eqImage.f k n xs n xs) true := by
  unfold laws_eqImage.f
  exact ev_pos rfl (Ev.bind (laws_eqSegS_ev hl hd) (ev_pos rfl (ev_ret rfl)))
theorem laws_szSeg_eq (a b c : Int) {l : List Int} (hl : l.length ≤ maxLen) {n : Int} (h0 : 0 ≤ n) (h1 : n ≤ 1048576) : laws_szSeg.f a b c l n = some (if n < l.length then (-1 : Int) else n - (l.length : Int)) := by
  unfold laws_szSeg.f
  rw [laws_szByteS_eq hl h0 h1, Option.bind_some]
  by_cases h : n < l.length
  · rw [if_pos h]; rfl
  · rw [if_neg h, if_neg (by omega)]
theorem laws_szSegS_l0 (xs : List S78) (hl : xs.length ≤ 1048576) (hd : ∀ s ∈ xs, s.f3.length ≤ maxLen) : ∀ (d i : Nat) (n : Int), i + d = xs.length → 0 ≤ n → n ≤ 1048576 →
    Ev (fun k => laws_szSegS.l0 k xs n (i : Int)) (-1) ∨ ∃ v, 0 ≤ v ∧ v ≤ n ∧ Ev (fun k => laws_szSegS.l0 k xs n (i : Int)) v ∧ ∀ s ∈ xs.drop i, (s.f3.length : Int) ≤ 1048576 := by
  intro d
  induction d with
  | zero =>
    intro i n h h0 h1
    refine .inr ⟨n, h0, Int.le_refl _, Ev.step (fun _ => laws_szSegS.l0.eq_2 ..) (ev_neg (by omega) (ev_ret rfl)), ?_⟩
    rw [List.drop_eq_nil_of_le (by omega)]
    intro s hs
    cases hs
  | succ d ih =>
    intro i n h h0 h1
    have hi : i < xs.length := by omega
    have er : rd_T78 xs (i : Int) = xs[i] := getD_nat _ hi
    have hx := hd _ (List.getElem_mem hi)
    have st : ∀ r, Ev (fun k => (laws_szSeg.f xs[i].f0 xs[i].f1 xs[i].f2 xs[i].f3 n).bind fun t => (if t < 0 then (some (-1)) else (laws_szSegS.l0 k xs t ((i + 1 : Nat) : Int)))) r → Ev (fun k => laws_szSegS.l0 k xs n (i : Int)) r := by
      intro r hr
      refine Ev.step (fun _ => laws_szSegS.l0.eq_2 ..) (ev_pos (by omega) (ev_pos (by omega) ?_))
      rw [er, w64_succ hi (by omega)]
      exact hr
    by_cases hc : n < xs[i].f3.length
    · exact .inl (st _ (ev_bind0 (by rw [laws_szSeg_eq _ _ _ hx h0 h1, if_pos hc]) (ev_pos (by decide) (ev_ret rfl))))
    · have e1 := laws_szSeg_eq xs[i].f0 xs[i].f1 xs[i].f2 hx h0 h1
      rw [if_neg hc] at e1
      rcases ih (i + 1) (n - xs[i].f3.length) (by omega) (by omega) (by omega) with hr | ⟨v, v0, v1, hv, hall⟩
      · exact .inl (st _ (ev_bind0 e1 (ev_neg (by omega) hr)))
      · refine .inr ⟨v, v0, by omega, st _ (ev_bind0 e1 (ev_neg (by omega) hv)), ?_⟩
        rw [List.drop_eq_getElem_cons hi]
        intro s hs
        rcases List.mem_cons.1 hs with rfl | hs
        · omega
        · exact hall s hs
theorem laws_szSegS_ev {xs : List S78} (hm : xs.length ≤ maxLen) (hd : ∀ s ∈ xs, s.f3.length ≤ maxLen) {n : Int} (h0 : 0 ≤ n) (h1 : n ≤ 1048576) :
    Ev (fun k => laws_szSegS.f k xs n) (-1) ∨ ∃ v, 0 ≤ v ∧ v ≤ n ∧ Ev (fun k => laws_szSegS.f k xs n) v ∧ xs.length ≤ 1048576 ∧ ∀ s ∈ xs, (s.f3.length : Int) ≤ 1048576 := by
  have hm2 := wf_le hm
  unfold laws_szSegS.f
  rw [w64_id (x := n - (xs.length : Int)) (by omega) (by omega)]
  by_cases h : n < xs.length
  · exact .inl (ev_pos (by omega) (ev_ret rfl))
  · rcases laws_szSegS_l0 xs (by omega) hd xs.length 0 (n - xs.length) (by omega) (by omega) (by omega) with hr | ⟨v, v0, v1, hv, hall⟩
    · exact .inl (ev_neg (by omega) hr)
    · exact .inr ⟨v, v0, by omega, ev_neg (by omega) hv, by omega, hall⟩
theorem laws_szImage_ev (e : Int) {xs : List S78} (hm : xs.length ≤ maxLen) (hd : ∀ s ∈ xs, s.f3.length ≤ maxLen) {n : Int} (h0 : 0 ≤ n) (h1 : n ≤ 1048576) :
    Ev (fun k => laws_szImage.f k e xs n) (-1) ∨ ∃ v, 0 ≤ v ∧ v ≤ n ∧ Ev (fun k => laws_szImage.f k e xs n) v ∧ xs.length ≤ 1048576 ∧ ∀ s ∈ xs, (s.f3.length : Int) ≤ 1048576 := by
  unfold laws_szImage.f
  rcases laws_szSegS_ev hm hd h0 h1 with hr | ⟨v, v0, v1, hv, hall⟩
  · exact .inl (Ev.bind hr (ev_pos (by decide) (ev_ret rfl)))
  · exact .inr ⟨v, v0, v1, Ev.bind hv (ev_neg (by omega) (ev_ret rfl)), hall⟩
def protOkV (p : Int) : Bool := decide (p = 1 ∨ p = 3 ∨ p = 5)
theorem spec_l5ProtOk_eq (p : Int) : spec_l5ProtOk.f p = some (protOkV p) := by
  unfold spec_l5ProtOk.f protOkV
  by_cases h1 : p = 1
  · simp [h1]
  · by_cases h2 : p = 3
    · simp [h2]
    · rw [if_neg h1, if_neg h2]
      by_cases h3 : p = 5 <;> simp [h1, h2, h3]
def pgUp (n : Int) : Int := (n + 255) / 256 * 256
theorem tmod_pos {a b : Int} (h : 0 ≤ a) : Int.tmod a b = a % b := Int.tmod_eq_emod_of_nonneg h
theorem spec_l5PageUp_l0 : ∀ (d : Nat) (x : Int), 0 ≤ x → x ≤ 1099511627776 → pgUp x - x = d → Ev (fun k => spec_l5PageUp.l0 k x) (pgUp x) := by
  intro d
  induction d with
  | zero =>
    intro x h0 h1 hd
    unfold pgUp at *
    refine Ev.step (fun _ => spec_l5PageUp.l0.eq_2 ..) (ev_pos ?_ (ev_ret (by omega)))
    rw [tmod_pos h0]; omega
  | succ d ih =>
    intro x h0 h1 hd
    have e : pgUp (x + 1) = pgUp x := by unfold pgUp at *; omega
    refine Ev.step (fun _ => spec_l5PageUp.l0.eq_2 ..) (ev_neg ?_ ?_)
    · rw [tmod_pos h0]; unfold pgUp at hd; omega
    · rw [w64_id (by omega) (by omega), ← e]
      exact ih (x + 1) (by omega) (by unfold pgUp at *; omega) (by rw [e]; omega)
theorem spec_l5PageUp_ev {x : Int} (h0 : 0 ≤ x) (h1 : x ≤ 1099511627000) : Ev (fun k => spec_l5PageUp.f k x) (pgUp x) := by
  unfold spec_l5PageUp.f
  have hp : x ≤ pgUp x ∧ pgUp x ≤ x + 255 := by unfold pgUp; omega
  exact spec_l5PageUp_l0 (pgUp x - x).toNat x h0 (by omega) (by omega)
def segBad (e : Int) (s : S58) : Prop := ¬ Int.tmod s.f0 256 = 0 ∨ s.f0 < e ∨ s.f0 > 4194304 ∨ s.f2 < 1 ∨ s.f2 > 65536 ∨ s.f0 + s.f2 > 4194304 ∨ (s.f3.length : Int) > s.f2 ∨ (¬ s.f1 = 1 ∧ ¬ s.f1 = 3 ∧ ¬ s.f1 = 5)
instance (e : Int) (s : S58) : Decidable (segBad e s) := by unfold segBad; exact inferInstance
def segHit (en : Int) (s : S58) : Prop := s.f1 = 5 ∧ en ≥ s.f0 ∧ en < s.f0 + s.f2
instance (en : Int) (s : S58) : Decidable (segHit en s) := by unfold segHit; exact inferInstance
def segsOk (en : Int) : Int → Bool → List S58 → Bool
  | _, got, [] => got
  | e, got, s :: ss => if segBad e s then false else segsOk en (s.f0 + pgUp s.f2) (got || decide (segHit en s)) ss
def imageOk (en : Int) (l : List S58) : Bool := if (l.length : Int) < 1 ∨ (l.length : Int) > 8 ∨ ¬ Int.tmod en 4 = 0 then false else segsOk en 256 false l
theorem spec_ImageOk_l0 (en : Int) (l : List S58) (hl : l.length ≤ 8) : ∀ (d i : Nat) (e : Int) (got : Bool), i + d = l.length → 256 ≤ e → e ≤ 4259840 → (∀ h : 0 < i, ∀ hi : i - 1 < l.length, e = pgUp (l[i - 1].f0 + l[i - 1].f2) ∧ 256 ≤ l[i - 1].f0 + l[i - 1].f2 ∧ l[i - 1].f0 + l[i - 1].f2 ≤ 4194304) → (i = 0 → e = 256) →
    Ev (fun k => spec_ImageOk.l0 k (l.length : Int) got (i : Int) en l) (segsOk en e got (l.drop i)) := by
  intro d
  induction d with
  | zero =>
    intro i e got h h0 h1 hp hz
    rw [List.drop_eq_nil_of_le (by omega)]
    exact Ev.step (fun _ => spec_ImageOk.l0.eq_2 ..) (ev_neg (by omega) (ev_ret rfl))
  | succ d ih =>
    intro i e got h h0 h1 hp hz
    have hi : i < l.length := by omega
    have er : rd_T58 l (i : Int) = l[i] := getD_nat _ hi
    rw [List.drop_eq_getElem_cons hi, segsOk]
    refine Ev.step (fun _ => spec_ImageOk.l0.eq_2 ..) (ev_pos (by omega) (ev_pos (by omega) (ev_pos (by omega) ?_)))
    rw [er]
    have next : ∀ (s : S58) (g : Bool), s = l[i] → ¬ segBad e s → Ev (fun k => spec_ImageOk.l0 k (l.length : Int) g ((i + 1 : Nat) : Int) en l) (segsOk en (s.f0 + pgUp s.f2) g (l.drop (i + 1))) := by
      intro s g hs hb
      unfold segBad at hb
      have ht : Int.tmod s.f0 256 = s.f0 % 256 := tmod_pos (by omega)
      rw [ht] at hb
      refine ih (i + 1) _ g (by omega) (by unfold pgUp; omega) (by unfold pgUp; omega) ?_ (by omega)
      intro _ hi2
      have e1 : l[i + 1 - 1]'hi2 = s := by rw [hs]; rfl
      rw [e1]
      unfold pgUp
      omega
    have bad : ∀ (g : Bool) (a b c : Int) (dl : List Int), Ev (fun k => spec_ImageOk.j2 k (l.length : Int) g (i : Int) true en l a b c dl) false := fun g a b c dl => Ev.step (fun _ => spec_ImageOk.j2.eq_2 ..) (ev_pos rfl (ev_ret rfl))
    obtain ⟨s, hs⟩ : ∃ s, s = l[i] := ⟨_, rfl⟩
    have next2 := next s
    rw [← hs]
    by_cases hg : ¬ s.f0 < 256 ∧ ¬ s.f0 > 4194304 ∧ Int.tmod s.f0 256 = 0 ∧ ¬ s.f2 < 1 ∧ ¬ s.f2 > 65536 ∧ s.f0 + s.f2 ≤ 4194304 ∧ (s.f3.length : Int) ≤ s.f2 ∧ protOkV s.f1 = true
    · obtain ⟨a1, a2, a3, a4, a5, a6, a7, a8⟩ := hg
      refine ev_neg a1 (ev_neg a2 (ev_pos a3 (ev_neg a4 (ev_neg a5 ?_))))
      rw [w64_id (x := s.f0 + s.f2) (by omega) (by omega)]
      refine ev_neg (by omega) (ev_neg (by omega) (ev_bind0 (spec_l5ProtOk_eq _) ?_))
      rw [a8]
      refine Ev.step (fun _ => spec_ImageOk.j2.eq_2 ..) (ev_neg (by decide) ?_)
      have a8' := of_decide_eq_true a8
      have bad_iff : segBad e s ↔ s.f0 < e := by unfold segBad; constructor <;> intro h <;> omega
      -- behind the look at the place ahead
      have last : ∀ b : Bool, b = decide (s.f0 < e) → Ev (fun k => spec_ImageOk.j3 k (l.length : Int) got (i : Int) b en l s.f0 s.f1 s.f2 s.f3) (if segBad e s then false else segsOk en (s.f0 + pgUp s.f2) (got || decide (segHit en s)) (l.drop (i + 1))) := by
        intro b hb
        refine Ev.step (fun _ => spec_ImageOk.j3.eq_2 ..) ?_
        by_cases hlt : s.f0 < e
        · rw [if_pos (bad_iff.2 hlt)]
          exact ev_pos (by rw [hb]; exact decide_eq_true hlt) (ev_ret rfl)
        · have hnb : ¬ segBad e s := fun h => hlt (bad_iff.1 h)
          rw [if_neg hnb]
          refine ev_neg (by rw [hb]; simpa using hlt) ?_
          rw [w64_succ hi (by omega), w64_id (x := s.f0 + s.f2) (by omega) (by omega)]
          by_cases hh : segHit en s
          · have hh2 := hh
            unfold segHit at hh2
            refine ev_pos hh2.1 (ev_pos hh2.2.1 (ev_pos hh2.2.2 ?_))
            have := next2 true hs hnb
            rw [show (got || decide (segHit en s)) = true by rw [decide_eq_true hh]; simp]
            exact this
          · have hh2 := hh
            unfold segHit at hh2
            have nx := next2 got hs hnb
            rw [show (got || decide (segHit en s)) = got by rw [decide_eq_false hh]; simp]
            exact ev_split (fun b1 => ev_split (fun b2 => ev_neg (by omega) nx) (fun _ => nx)) (fun _ => nx)
      by_cases hi0 : 0 < i
      · obtain ⟨q1, q2, q3⟩ := hp hi0 (by omega)
        have ep : rd_T58 l ((i - 1 : Nat) : Int) = l[i - 1]'(by omega) := getD_nat _ (by omega)
        refine ev_pos (by omega) ?_
        rw [w64_id (x := (i : Int) - 1) (by omega) (by omega), show (i : Int) - 1 = ((i - 1 : Nat) : Int) by omega, ep]
        rw [w64_id (x := (l[i - 1]'(by omega)).f0 + (l[i - 1]'(by omega)).f2) (by omega) (by omega)]
        refine ev_pos (by omega) (ev_pos (by omega) (Ev.bind (spec_l5PageUp_ev (by omega) (by omega)) ?_))
        exact last _ (by rw [q1])
      · refine ev_neg (by omega) (last _ ?_)
        rw [decide_eq_false]
        have := hz (by omega)
        omega
    · have hb : segBad e s := by
        unfold segBad
        by_cases hpr : protOkV s.f1 = true
        · simp only [hpr, and_true] at hg
          omega
        · have := of_decide_eq_false (by simpa using hpr : protOkV s.f1 = false)
          omega
      rw [if_pos hb]
      refine ev_split (fun _ => bad ..) (fun a1 => ev_split (fun _ => bad ..) (fun a2 => ev_split (fun a3 => ev_split (fun _ => bad ..) (fun a4 => ev_split (fun _ => bad ..) (fun a5 => ?_))) (fun _ => bad ..)))
      rw [w64_id (x := s.f0 + s.f2) (by omega) (by omega)]
      refine ev_split (fun _ => bad ..) (fun a6 => ev_split (fun _ => bad ..) (fun a7 => ev_bind0 (spec_l5ProtOk_eq _) ?_))
      have a8 : protOkV s.f1 = false := by
        cases hq : protOkV s.f1 with
        | false => rfl
        | true => exact absurd ⟨a1, a2, a3, a4, a5, by omega, by omega, hq⟩ hg
      rw [a8]
      exact bad ..
theorem spec_ImageOk_ev (en : Int) (l : List S58) : Ev (fun k => spec_ImageOk.f k en l) (imageOk en l) := by
  unfold spec_ImageOk.f imageOk
  have bad : ∀ n : Int, Ev (fun k => spec_ImageOk.j0 k n true en l) false := fun n => Ev.step (fun _ => spec_ImageOk.j0.eq_2 ..) (ev_pos rfl (ev_ret rfl))
  by_cases hb : (l.length : Int) < 1 ∨ (l.length : Int) > 8 ∨ ¬ Int.tmod en 4 = 0
  · rw [if_pos hb]
    refine ev_split (fun _ => bad _) (fun h1 => ev_split (fun _ => bad _) (fun h2 => ?_))
    rw [show (Int.tmod en 4 != 0) = true by simp; omega]
    exact bad _
  · rw [if_neg hb]
    refine ev_neg (by omega) (ev_neg (by omega) ?_)
    rw [show (Int.tmod en 4 != 0) = false by simp; omega]
    refine Ev.step (fun _ => spec_ImageOk.j0.eq_2 ..) (ev_neg (by decide) ?_)
    exact spec_ImageOk_l0 en l (by omega) l.length 0 256 false (by omega) (by omega) (by omega) (by omega) (by omega)
theorem impl_pages_eq {n : Int} (h0 : 0 ≤ n) (h1 : n ≤ 1099511627776) : impl_pages.f n = some (pgUp n) := by
  unfold impl_pages.f pgUp
  rw [w64_id (x := n + 256) (by omega) (by omega), w64_id (x := n + 256 - 1) (by omega) (by omega), show Int.tdiv (n + 256 - 1) 256 = (n + 255) / 256 by rw [Int.tdiv_eq_ediv_of_nonneg (by omega)]; omega, w64_id (x := (n + 255) / 256) (by omega) (by omega), w64_id (by omega) (by omega)]
theorem impl_ImageOk_l0 (en : Int) (l l' : List S58) (hl : l.length ≤ 8) : ∀ (d i : Nat) (e : Int) (got : Bool), i + d = l.length → 256 ≤ e → e ≤ 4259840 →
    Ev (fun k => impl_ImageOk.l0 k e got l (l.length : Int) (i : Int) en l') (segsOk en e got (l.drop i)) := by
  intro d
  induction d with
  | zero =>
    intro i e got h h0 h1
    rw [List.drop_eq_nil_of_le (by omega)]
    exact Ev.step (fun _ => impl_ImageOk.l0.eq_2 ..) (ev_neg (by omega) (ev_ret rfl))
  | succ d ih =>
    intro i e got h h0 h1
    have hi : i < l.length := by omega
    have er : rd_T58 l (i : Int) = l[i] := getD_nat _ hi
    rw [List.drop_eq_getElem_cons hi, segsOk]
    refine Ev.step (fun _ => impl_ImageOk.l0.eq_2 ..) (ev_pos (by omega) (ev_pos (by omega) (ev_pos (by omega) ?_)))
    rw [er, w64_succ hi (by omega)]
    generalize l[i] = s
    by_cases hb : segBad e s
    · rw [if_pos hb]
      unfold segBad at hb
      refine ev_split (fun a1 => ev_split (fun _ => ev_ret rfl) (fun a2 => ev_split (fun _ => ev_ret rfl) (fun a3 => ev_split (fun _ => ev_ret rfl) (fun a4 => ev_split (fun _ => ev_ret rfl) (fun a5 => ?_))))) (fun _ => ev_ret rfl)
      rw [w64_id (x := s.f0 + s.f2) (by omega) (by omega)]
      exact ev_split (fun _ => ev_ret rfl) (fun a6 => ev_split (fun _ => ev_ret rfl) (fun a7 => ev_neg (by omega) (ev_neg (by omega) (ev_neg (by omega) (ev_ret rfl)))))
    · rw [if_neg hb]
      have hb2 := hb
      unfold segBad at hb
      refine ev_pos (by omega) (ev_neg (by omega) (ev_neg (by omega) (ev_neg (by omega) (ev_neg (by omega) ?_))))
      have hpb : 0 ≤ pgUp s.f2 ∧ pgUp s.f2 ≤ 65536 := by unfold pgUp; omega
      have next := fun (g : Bool) => ih (i + 1) (s.f0 + pgUp s.f2) g (by omega) (by omega) (by omega)
      have pe := impl_pages_eq (n := s.f2) (by omega) (by omega)
      rw [w64_id (x := s.f0 + s.f2) (by omega) (by omega)]
      have wf : wrap64 (s.f0 + pgUp s.f2) = s.f0 + pgUp s.f2 := w64_id (by omega) (by omega)
      refine ev_neg (by omega) (ev_neg (by omega) ?_)
      have nt : got = true → Ev (fun k => impl_ImageOk.l0 k (wrap64 (s.f0 + pgUp s.f2)) true l (l.length : Int) ((i + 1 : Nat) : Int) en l') (segsOk en (s.f0 + pgUp s.f2) (got || decide (segHit en s)) (l.drop (i + 1))) := by
        intro hg
        rw [wf, hg, Bool.true_or]
        exact next true
      have nd : ¬ got = true → ∀ b : Bool, b = decide (segHit en s) → Ev (fun k => impl_ImageOk.l0 k (wrap64 (s.f0 + pgUp s.f2)) b l (l.length : Int) ((i + 1 : Nat) : Int) en l') (segsOk en (s.f0 + pgUp s.f2) (got || decide (segHit en s)) (l.drop (i + 1))) := by
        intro hg b hbb
        rw [wf, show got = false by simpa using hg, Bool.false_or, ← hbb]
        exact next b
      have hno : ¬ s.f1 = 5 → false = decide (segHit en s) := fun h5 => by rw [decide_eq_false]; unfold segHit; omega
      refine ev_split (fun p1 => ev_bind0 pe (ev_split nt (fun hg => ev_neg (by omega) (nd hg _ (hno (by omega)))))) (fun p1 => ev_split (fun p3 => ev_bind0 pe (ev_split nt (fun hg => ev_neg (by omega) (nd hg _ (hno (by omega)))))) (fun p3 => ev_pos (by omega) (ev_bind0 pe (ev_split nt (fun hg => ev_split (fun q => nd hg _ ?_) (fun q => nd hg _ ?_))))))
      · rw [decide_eq_decide]; unfold segHit; omega
      · rw [decide_eq_false]; unfold segHit; omega
theorem impl_ImageOk_ev (en : Int) (l : List S58) : Ev (fun k => impl_ImageOk.f k en l) (imageOk en l) := by
  unfold impl_ImageOk.f imageOk
  have bad : Ev (fun k => impl_ImageOk.j0 k true en l) false := Ev.step (fun _ => impl_ImageOk.j0.eq_2 ..) (ev_pos rfl (ev_ret rfl))
  by_cases hb : (l.length : Int) < 1 ∨ (l.length : Int) > 8 ∨ ¬ Int.tmod en 4 = 0
  · rw [if_pos hb]
    refine ev_split (fun _ => bad) (fun h1 => ev_split (fun _ => bad) (fun h2 => ?_))
    rw [show (Int.tmod en 4 != 0) = true by simp; omega]
    exact bad
  · rw [if_neg hb]
    refine ev_neg (by omega) (ev_neg (by omega) ?_)
    rw [show (Int.tmod en 4 != 0) = false by simp; omega]
    refine Ev.step (fun _ => impl_ImageOk.j0.eq_2 ..) (ev_neg (by decide) ?_)
    exact impl_ImageOk_l0 en l l (by omega) l.length 0 256 false (by omega) (by omega) (by omega)
/-- The bytes of a number, the lowest first. -/
def digN : Nat → Nat → List Int
  | 0, _ => []
  | d + 1, x => ((x % 256 : Nat) : Int) :: digN d (x / 256)
theorem digN_len : ∀ (d x : Nat), (digN d x).length = d := by
  intro d
  induction d with
  | zero => intro x; rfl
  | succ d ih => intro x; rw [digN, List.length_cons, ih]
theorem digN_bytes : ∀ (d x : Nat), Bytes (digN d x) := by
  intro d
  induction d with
  | zero => intro x y hy; cases hy
  | succ d ih =>
    intro x y hy
    rw [digN] at hy
    rcases List.mem_cons.1 hy with rfl | h
    · omega
    · exact ih _ y h
/-- The word that a number is told as. -/
def wordV (a : Int) : Nat := (a % 18446744073709551616).toNat
theorem wordV_lt (a : Int) : wordV a < 2 ^ 64 := by unfold wordV; omega
theorem wordV_eq (a : Int) : IntKind.u64.wrap a = (wordV a : Int) := by rw [u64w]; unfold wordV; omega
def numV (n : Nat) (a : Int) : List Int := digN n (wordV a)
theorem numV_len (n : Nat) (a : Int) : (numV n a).length = n := digN_len n _
theorem numV_bytes (n : Nat) (a : Int) : Bytes (numV n a) := digN_bytes n _
theorem bytes_add {xs ys : List Int} (h : Bytes xs) (k : Bytes ys) : Bytes (xs ++ ys) := fun x hx => (List.mem_append.1 hx).elim (h x) (k x)
theorem spec_l5Num_l0 (n : Nat) (hn : n ≤ 8) : ∀ (d i x : Nat) (acc : List Int), i + d = n → x < 2 ^ 64 → acc.length ≤ 1024 + i → Ev (fun k => spec_l5Num.l0 k (n : Int) acc (x : Int) (i : Int)) (acc ++ digN d x) := by
  intro d
  induction d with
  | zero =>
    intro i x acc h hx ha
    rw [digN, List.append_nil]
    exact Ev.step (fun _ => spec_l5Num.l0.eq_2 ..) (ev_neg (by omega) (ev_ret rfl))
  | succ d ih =>
    intro i x acc h hx ha
    have e1 : wrap64 ((i : Int) + 1) = ((i + 1 : Nat) : Int) := by rw [w64_id (by omega) (by omega)]; omega
    have e2 : IntKind.u64.wrap (Int.tdiv (x : Int) 256) = ((x / 256 : Nat) : Int) := by
      rw [show (256 : Int) = ((256 : Nat) : Int) from rfl, tdiv_nat, u64w_id (by omega) (by omega)]
    have e3 : (Int.tmod (x : Int) 256) % 256 = ((x % 256 : Nat) : Int) := by
      rw [show (256 : Int) = ((256 : Nat) : Int) from rfl, tmod_nat]; omega
    refine Ev.step (fun _ => spec_l5Num.l0.eq_2 ..) (ev_pos (by omega) (ev_pos (by omega) ?_))
    rw [e1, e2, e3]
    refine ev_eq ?_ (ih (i + 1) (x / 256) (acc ++ [((x % 256 : Nat) : Int)]) (by omega) (by omega) (by rw [List.length_append, List.length_singleton]; omega))
    rw [digN, List.append_assoc, List.singleton_append]
theorem spec_l5Num_ev (n : Nat) (hn : n ≤ 8) (a : Int) : Ev (fun k => spec_l5Num.f k a (n : Int)) (numV n a) := by
  unfold spec_l5Num.f
  rw [wordV_eq]
  exact spec_l5Num_l0 n hn n 0 (wordV a) [] (by omega) (wordV_lt a) (by simp)
theorem impl_num_l0 (n v : Nat) (hn : n ≤ 8) (hv : v < 2 ^ 64) : ∀ (d : Nat) (A : List Int), A.length + d = n → Ev (fun k => impl_poke.l0 k (A ++ List.replicate d 0) 0 (v : Int) (n : Int) (A.length : Int)) (A ++ digN d (v / 256 ^ A.length)) := by
  intro d
  induction d with
  | zero =>
    intro A h
    refine Ev.step (fun _ => impl_poke.l0.eq_2 ..) (ev_neg (by omega) (ev_ret ?_))
    rfl
  | succ d ih =>
    intro A h
    have e1 : wrap64 ((0 : Int) + A.length) = (A.length : Int) := by rw [w64_id (by omega) (by omega)]; omega
    have e2 : wrap64 ((A.length : Int) + 1) = ((A ++ [((v / 256 ^ A.length % 256 : Nat) : Int)]).length : Int) := by rw [w64_id (by omega) (by omega), List.length_append, List.length_singleton]; omega
    have e3 : wrap64 (8 * (A.length : Int)) = ((8 * A.length : Nat) : Int) := by rw [w64_id (by omega) (by omega)]; omega
    have e4 : ((v >>> (8 * A.length) : Nat) : Int) % 256 = ((v / 256 ^ A.length % 256 : Nat) : Int) := by
      rw [Nat.shiftRight_eq_div_pow, Nat.pow_mul]
      generalize v / (2 ^ 8) ^ A.length = q
      omega
    have hs : (A ++ List.replicate (d + 1) (0 : Int)).set A.length ((v / 256 ^ A.length % 256 : Nat) : Int) = (A ++ [((v / 256 ^ A.length % 256 : Nat) : Int)]) ++ List.replicate d 0 := by
      rw [List.set_append_right _ _ (Nat.le_refl _), Nat.sub_self, List.replicate_succ, List.set_cons_zero, List.append_assoc]; rfl
    refine Ev.step (fun _ => impl_poke.l0.eq_2 ..) ?_
    rw [e1, e2, e3, shr_nat _ _ hv, Int.toNat_natCast, e4, hs]
    refine ev_pos (by omega) (ev_pos (by omega) (ev_pos (by omega) (ev_pos (by rw [List.length_append, List.length_replicate]; omega) ?_)))
    refine ev_eq ?_ (ih (A ++ [((v / 256 ^ A.length % 256 : Nat) : Int)]) (by rw [List.length_append, List.length_singleton]; omega))
    rw [digN, List.append_assoc, List.singleton_append, List.length_append, List.length_singleton, Nat.pow_succ, Nat.div_div_eq_div_mul]
theorem impl_num_ev (n : Nat) (hn : n ≤ 8) (a : Int) : Ev (fun k => impl_num.f k a (n : Int)) (numV n a) := by
  unfold impl_num.f impl_poke.f
  rw [wordV_eq]
  refine ev_pos (by omega) (ev_pos (by rw [Int.toNat_natCast]; omega) ?_)
  rw [Int.toNat_natCast]
  have h := impl_num_l0 n (wordV a) hn (wordV_lt a) n [] (by simp)
  refine Ev.bind (ev_eq ?_ h) (ev_ret rfl)
  rw [List.nil_append, List.length_nil, Nat.pow_zero, Nat.div_one]; rfl
def segB (s : S58) : List Int := numV 4 s.f0 ++ (numV 4 s.f2 ++ (numV 4 (s.f3.length : Int) ++ [s.f1 % 256, 0, 0, 0]))
theorem segB_len (s : S58) : (segB s).length = 16 := by unfold segB; simp only [List.length_append, numV_len, List.length_cons, List.length_nil]
theorem bytes_end (x : Int) : Bytes [x % 256, 0, 0, 0] := by
  intro y hy
  simp only [List.mem_cons, List.not_mem_nil, or_false] at hy
  omega
theorem segB_bytes (s : S58) : Bytes (segB s) := bytes_add (numV_bytes _ _) (bytes_add (numV_bytes _ _) (bytes_add (numV_bytes _ _) (bytes_end _)))
def crcT (B : List Int) : List Int × Bool := (B ++ numV 4 (crcV B : Int), true)
def dataB (l : List S58) : List Int := l.flatMap fun s => s.f3
def headB (l : List S58) : List Int := l.flatMap segB
theorem dataB_cons (s : S58) (l : List S58) : dataB (s :: l) = s.f3 ++ dataB l := by unfold dataB; rw [List.flatMap_cons]
theorem headB_cons (s : S58) (l : List S58) : headB (s :: l) = segB s ++ headB l := by unfold headB; rw [List.flatMap_cons]
theorem rd_seg {l : List S58} {n : Nat} (h : n < l.length) : rd_T58 l (n : Int) = l[n] := getD_nat _ h
def packB (en : Int) (l : List S58) : List Int := ([75, 73, 77, 71] ++ [1, (l.length : Int) % 256, 0, 0]) ++ numV 8 en
theorem packB_len (en : Int) (l : List S58) : (packB en l).length = 16 := by unfold packB; simp only [List.length_append, numV_len, List.length_cons, List.length_nil]
theorem packB_bytes (en : Int) (l : List S58) : Bytes (packB en l) := by
  refine bytes_add (fun y hy => ?_) (numV_bytes _ _)
  simp only [List.mem_append, List.mem_cons, List.not_mem_nil, or_false] at hy
  omega
def packV (en : Int) (l : List S58) : List Int × Bool := if imageOk en l = true then crcT ((packB en l ++ headB l) ++ dataB l) else ([], false)
theorem imageOk_len {en : Int} {l : List S58} (h : imageOk en l = true) : l.length ≤ 8 := by
  unfold imageOk at h
  by_cases hb : (l.length : Int) < 1 ∨ (l.length : Int) > 8 ∨ ¬ Int.tmod en 4 = 0
  · rw [if_pos hb] at h; cases h
  · omega
theorem headB_len : ∀ l : List S58, (headB l).length = 16 * l.length := by
  intro l
  induction l with
  | nil => rfl
  | cons s l ih => unfold headB at *; rw [List.flatMap_cons, List.length_append, segB_len, ih, List.length_cons]; omega
theorem dataB_len : ∀ l : List S58, (∀ s ∈ l, s.f3.length ≤ 1048576) → (dataB l).length ≤ 1048576 * l.length := by
  intro l
  induction l with
  | nil => intro _; exact Nat.le_refl _
  | cons s l ih =>
    intro h
    have h1 := h s (List.mem_cons_self ..)
    have h2 := ih (fun x hx => h x (List.mem_cons_of_mem _ hx))
    unfold dataB at *
    rw [List.flatMap_cons, List.length_append, List.length_cons]; omega
theorem packV_len {en : Int} {l : List S58} (hd : ∀ s ∈ l, s.f3.length ≤ 1048576) : (packV en l).1.length ≤ 16777216 := by
  unfold packV
  split
  · rename_i h
    have h1 := imageOk_len h
    have h2 := dataB_len l hd
    unfold crcT
    simp only [List.length_append, packB_len, headB_len, numV_len]; omega
  · exact Nat.zero_le _
theorem spec_PackImage_l1 (en : Int) (l : List S58) (hl : l.length ≤ 8) (hd : ∀ s ∈ l, s.f3.length ≤ 1048576) (hb : ∀ s ∈ l, Bytes s.f3) : ∀ (d i : Nat) (acc : List Int), i + d = l.length → Bytes acc → acc.length ≤ 1024 + 1048576 * i → Ev (fun k => spec_PackImage.l1 k acc (i : Int) en l) (crcT (acc ++ dataB (l.drop i))) := by
  intro d
  induction d with
  | zero =>
    intro i acc h hB ha
    have hc := crcV_lt hB
    rw [List.drop_of_length_le (by omega), show dataB [] = [] from rfl, List.append_nil]
    refine Ev.step (fun _ => spec_PackImage.l1.eq_2 ..) (ev_neg (by omega) (Ev.bind (spec_Crc_ev hB (by omega)) ?_))
    rw [w64_id (by omega) (by omega)]
    exact Ev.bind (spec_l5Num_ev 4 (by decide) _) (ev_pos (by rw [numV_len]; omega) (ev_ret rfl))
  | succ d ih =>
    intro i acc h hB ha
    have hi : i < l.length := by omega
    have hm : l[i] ∈ l := List.getElem_mem hi
    have hdi := hd _ hm
    have e1 : wrap64 ((i : Int) + 1) = ((i + 1 : Nat) : Int) := by rw [w64_id (by omega) (by omega)]; omega
    refine Ev.step (fun _ => spec_PackImage.l1.eq_2 ..) (ev_pos (by omega) (ev_pos (by omega) ?_))
    rw [rd_seg hi, e1]
    refine ev_pos (by omega) (ev_eq ?_ (ih (i + 1) (acc ++ l[i].f3) (by omega) (bytes_add hB (hb _ hm)) (by rw [List.length_append]; omega)))
    rw [List.drop_eq_getElem_cons hi, dataB_cons, List.append_assoc]
theorem spec_PackImage_l0 (en : Int) (l : List S58) (hl : l.length ≤ 8) (hd : ∀ s ∈ l, s.f3.length ≤ 1048576) (hb : ∀ s ∈ l, Bytes s.f3) : ∀ (d i : Nat) (acc : List Int), i + d = l.length → Bytes acc → acc.length ≤ 16 + 16 * i → Ev (fun k => spec_PackImage.l0 k acc (i : Int) en l) (crcT ((acc ++ headB (l.drop i)) ++ dataB l)) := by
  intro d
  induction d with
  | zero =>
    intro i acc h hB ha
    rw [List.drop_of_length_le (by omega), show headB [] = [] from rfl, List.append_nil]
    exact Ev.step (fun _ => spec_PackImage.l0.eq_2 ..) (ev_neg (by omega) (spec_PackImage_l1 en l hl hd hb l.length 0 acc (by omega) hB (by omega)))
  | succ d ih =>
    intro i acc h hB ha
    have hi : i < l.length := by omega
    have e1 : wrap64 ((i : Int) + 1) = ((i + 1 : Nat) : Int) := by rw [w64_id (by omega) (by omega)]; omega
    have n4 : ∀ a : Int, Ev (fun k => spec_l5Num.f k a 4) (numV 4 a) := fun a => spec_l5Num_ev 4 (by decide) a
    refine Ev.step (fun _ => spec_PackImage.l0.eq_2 ..) (ev_pos (by omega) (ev_pos (by omega) ?_))
    rw [rd_seg hi, e1]
    refine Ev.bind (n4 _) (ev_pos (by rw [numV_len]; omega) (ev_bind0 rfl (Ev.bind (n4 _) (ev_pos (by simp only [List.length_append, numV_len]; omega) (ev_bind0 rfl (Ev.bind (n4 _) (ev_pos (by simp only [List.length_append, numV_len]; omega) (ev_bind0 rfl (ev_bind0 rfl (ev_pos (by simp only [List.length_append, numV_len, List.length_cons, List.length_nil]; omega) ?_))))))))))
    have e : (((acc ++ numV 4 l[i].f0) ++ numV 4 l[i].f2) ++ numV 4 (l[i].f3.length : Int)) ++ [l[i].f1 % 256, 0, 0, 0] = acc ++ segB l[i] := by simp only [segB, List.append_assoc]
    rw [e]
    refine ev_eq ?_ (ih (i + 1) (acc ++ segB l[i]) (by omega) (bytes_add hB (segB_bytes _)) (by rw [List.length_append, segB_len]; omega))
    rw [List.drop_eq_getElem_cons hi, headB_cons, ← List.append_assoc]
theorem spec_PackImage_ev (en : Int) (l : List S58) (hd : ∀ s ∈ l, s.f3.length ≤ 1048576) (hb : ∀ s ∈ l, Bytes s.f3) : Ev (fun k => spec_PackImage.f k en l) (packV en l) := by
  unfold spec_PackImage.f packV
  have ok := spec_ImageOk_ev en l
  cases hi : imageOk en l with
  | false => rw [hi] at ok; exact Ev.bind ok (ev_neg (by decide) (ev_ret rfl))
  | true =>
    rw [hi] at ok
    have n8 : Ev (fun k => spec_l5Num.f k en 8) (numV 8 en) := spec_l5Num_ev 8 (by decide) en
    refine Ev.bind ok (ev_pos rfl (ev_bind0 rfl (ev_bind0 rfl (ev_pos (by simp only [List.length_cons, List.length_nil]; omega) (ev_bind0 rfl (Ev.bind n8 (ev_pos (by rw [numV_len]; simp only [List.length_append, List.length_cons, List.length_nil]; omega) ?_)))))))
    exact spec_PackImage_l0 en l (imageOk_len hi) hd hb l.length 0 (packB en l) (by omega) (packB_bytes _ _) (by rw [packB_len]; omega)
theorem impl_PackImage_l1 (l : List S58) (hl : l.length ≤ 8) (hd : ∀ s ∈ l, s.f3.length ≤ 1048576) (hb : ∀ s ∈ l, Bytes s.f3) : ∀ (d i : Nat) (acc : List Int), i + d = l.length → Bytes acc → acc.length ≤ 1024 + 1048576 * i → Ev (fun k => impl_PackImage.l1 k acc l (l.length : Int) (i : Int)) (crcT (acc ++ dataB (l.drop i))) := by
  intro d
  induction d with
  | zero =>
    intro i acc h hB ha
    have hc := crcV_lt hB
    rw [List.drop_of_length_le (by omega), show dataB [] = [] from rfl, List.append_nil]
    refine Ev.step (fun _ => impl_PackImage.l1.eq_2 ..) (ev_neg (by omega) (Ev.bind (impl_Crc_ev hB (by omega)) ?_))
    rw [w64_id (by omega) (by omega)]
    exact Ev.bind (impl_num_ev 4 (by decide) _) (ev_pos (by rw [numV_len]; omega) (ev_ret rfl))
  | succ d ih =>
    intro i acc h hB ha
    have hi : i < l.length := by omega
    have hm : l[i] ∈ l := List.getElem_mem hi
    have hdi := hd _ hm
    have e1 : wrap64 ((i : Int) + 1) = ((i + 1 : Nat) : Int) := by rw [w64_id (by omega) (by omega)]; omega
    refine Ev.step (fun _ => impl_PackImage.l1.eq_2 ..) (ev_pos (by omega) (ev_pos (by omega) (ev_pos (by omega) ?_)))
    rw [rd_seg hi, e1]
    refine ev_pos (by omega) (ev_eq ?_ (ih (i + 1) (acc ++ l[i].f3) (by omega) (bytes_add hB (hb _ hm)) (by rw [List.length_append]; omega)))
    rw [List.drop_eq_getElem_cons hi, dataB_cons, List.append_assoc]
theorem impl_PackImage_l0 (en : Int) (l : List S58) (hl : l.length ≤ 8) (hd : ∀ s ∈ l, s.f3.length ≤ 1048576) (hb : ∀ s ∈ l, Bytes s.f3) : ∀ (d i : Nat) (acc : List Int), i + d = l.length → Bytes acc → acc.length ≤ 16 + 16 * i → Ev (fun k => impl_PackImage.l0 k acc l (l.length : Int) (i : Int) en l) (crcT ((acc ++ headB (l.drop i)) ++ dataB l)) := by
  intro d
  induction d with
  | zero =>
    intro i acc h hB ha
    rw [List.drop_of_length_le (by omega), show headB [] = [] from rfl, List.append_nil]
    exact Ev.step (fun _ => impl_PackImage.l0.eq_2 ..) (ev_neg (by omega) (impl_PackImage_l1 l hl hd hb l.length 0 acc (by omega) hB (by omega)))
  | succ d ih =>
    intro i acc h hB ha
    have hi : i < l.length := by omega
    have e1 : wrap64 ((i : Int) + 1) = ((i + 1 : Nat) : Int) := by rw [w64_id (by omega) (by omega)]; omega
    have n4 : ∀ a : Int, Ev (fun k => impl_num.f k a 4) (numV 4 a) := fun a => impl_num_ev 4 (by decide) a
    refine Ev.step (fun _ => impl_PackImage.l0.eq_2 ..) (ev_pos (by omega) (ev_pos (by omega) (ev_pos (by omega) ?_)))
    rw [rd_seg hi, e1]
    refine Ev.bind (n4 _) (ev_pos (by rw [numV_len]; omega) (ev_bind0 rfl (Ev.bind (n4 _) (ev_pos (by simp only [List.length_append, numV_len]; omega) (ev_bind0 rfl (Ev.bind (n4 _) (ev_pos (by simp only [List.length_append, numV_len]; omega) (ev_bind0 rfl (ev_bind0 rfl (ev_pos (by simp only [List.length_append, numV_len, List.length_cons, List.length_nil]; omega) ?_))))))))))
    have e : (((acc ++ numV 4 l[i].f0) ++ numV 4 l[i].f2) ++ numV 4 (l[i].f3.length : Int)) ++ [l[i].f1 % 256, 0, 0, 0] = acc ++ segB l[i] := by simp only [segB, List.append_assoc]
    rw [e]
    refine ev_eq ?_ (ih (i + 1) (acc ++ segB l[i]) (by omega) (bytes_add hB (segB_bytes _)) (by rw [List.length_append, segB_len]; omega))
    rw [List.drop_eq_getElem_cons hi, headB_cons, ← List.append_assoc]
theorem impl_PackImage_ev (en : Int) (l : List S58) (hd : ∀ s ∈ l, s.f3.length ≤ 1048576) (hb : ∀ s ∈ l, Bytes s.f3) : Ev (fun k => impl_PackImage.f k en l) (packV en l) := by
  unfold impl_PackImage.f packV
  have ok := impl_ImageOk_ev en l
  cases hi : imageOk en l with
  | false => rw [hi] at ok; exact Ev.bind ok (ev_neg (by decide) (ev_ret rfl))
  | true =>
    rw [hi] at ok
    have n8 : Ev (fun k => impl_num.f k en 8) (numV 8 en) := impl_num_ev 8 (by decide) en
    refine Ev.bind ok (ev_pos rfl (ev_bind0 rfl (ev_bind0 rfl (ev_pos (by simp only [List.length_cons, List.length_nil]; omega) (ev_bind0 rfl (Ev.bind n8 (ev_pos (by rw [numV_len]; simp only [List.length_append, List.length_cons, List.length_nil]; omega) ?_)))))))
    exact impl_PackImage_l0 en l (imageOk_len hi) hd hb l.length 0 (packB en l) (by omega) (packB_bytes _ _) (by rw [packB_len]; omega)
theorem rd_seg1 {l : List S58} {n : Nat} (h : n < l.length) : rd_T58 l (n : Int) = l[n] := getD_nat _ h
theorem laws_markSegS_l0 : ∀ (ds : List S58) (xs : List S58) (i : Nat) (k0 B : Int), xs.drop i = ds → i + ds.length = xs.length → xs.length ≤ 1048576 → (∀ y ∈ ds, y.f3.length ≤ 1048576) → 0 ≤ k0 → k0 + 2097152 * ds.length ≤ B → B ≤ 4611686018427387904 → ∃ r L, Ev (fun k => laws_markSegS.l0 k xs k0 (i : Int)) (r, L) ∧ 0 ≤ r := by
  intro ds
  induction ds with
  | nil =>
    intro xs i k0 B h hl hX hm h0 hB hB2
    rw [List.length_nil] at hl
    exact ⟨k0, xs, Ev.step (fun _ => laws_markSegS.l0.eq_2 ..) (ev_neg (by omega) (ev_ret rfl)), h0⟩
  | cons d ds ih =>
    intro xs i k0 B h hl hX hm h0 hB hB2
    rw [List.length_cons] at hl hB
    have hi : i < xs.length := by omega
    rw [List.drop_eq_getElem_cons hi] at h
    obtain ⟨hd, ht⟩ := List.cons.inj h
    have hmd := hm d (List.mem_cons_self ..)
    have e1 : wrap64 (k0 + 1) = k0 + 1 := w64_id (by omega) (by omega)
    have e1b : wrap64 (k0 + 1 + 1) = k0 + 2 := by rw [w64_id (by omega) (by omega)]; omega
    have e1c : wrap64 (k0 + 2 + 1) = k0 + 3 := by rw [w64_id (by omega) (by omega)]; omega
    have e2 : wrap64 ((i : Int) + 1) = ((i + 1 : Nat) : Int) := by rw [w64_id (by omega) (by omega)]; omega
    have hmk := laws_markByteS_ev d.f3 (k0 := k0 + 3) (by omega) (by omega)
    obtain ⟨r, L, hr, h0r⟩ := ih (xs.set i ⟨k0, k0 + 1, k0 + 2, markL (k0 + 3) d.f3.length⟩) (i + 1) (k0 + 3 + d.f3.length) B (by rw [List.drop_set_of_lt (by omega)]; exact ht) (by rw [List.length_set]; omega) (by rw [List.length_set]; exact hX) (fun y hy => hm y (List.mem_cons_of_mem _ hy)) (by omega) (by omega) hB2
    refine ⟨r, L, Ev.step (fun _ => laws_markSegS.l0.eq_2 ..) (ev_pos (by omega) (ev_pos (by omega) ?_)), h0r⟩
    rw [show rd_T58 xs (i : Int) = d from (rd_seg1 hi).trans hd, e1, e1b, e1c, e2, Int.toNat_natCast]
    exact Ev.bind hmk hr
theorem laws_markImage_ev (en : Int) (xs : List S58) (hm : ∀ y ∈ xs, y.f3.length ≤ 1048576) (hw : xs.length ≤ 1048576) : ∃ r L, Ev (fun k => laws_markImage.f k en xs 1) (r, L) ∧ 0 ≤ r := by
  obtain ⟨r, L, hr, h0⟩ := laws_markSegS_l0 xs xs 0 1 4611686018427387904 rfl (Nat.zero_add _) hw hm (by decide) (by omega) (by decide)
  have hr' : Ev (fun k => laws_markSegS.f k xs 1) (r, L) := hr
  exact ⟨r, L, Ev.bind hr' (ev_ret rfl), h0⟩
theorem FnExactPackImage : laws_FnExactPackImage.Pure := by
  intro n xs hq
  have hm : xs.length ≤ maxLen := hq.2.1
  have hd : ∀ s ∈ xs, s.f3.length ≤ maxLen := fun s hs => (hq.2.2 s hs).2.2.2.1
  have hby : ∀ s ∈ xs, Bytes s.f3 := fun s hs => bytes_wf (hq.2.2 s hs).2.2.2.2
  refine Ev.rounds ?_
  unfold laws_FnExactPackImage.f
  rcases laws_szImage_ev n hm hd (n := 1048576) (by omega) (by omega) with hr | ⟨v, v0, v1, hv, hl0, hall⟩
  · exact Ev.bind hr (ev_pos (by decide) (ev_ret rfl))
  · refine Ev.bind hv (ev_neg (by omega) ?_)
    have hl : xs.length ≤ 1099511627776 := by omega
    have hd2 : ∀ s ∈ xs, s.f3.length ≤ 281474976710656 := fun s hs => by have := hall s hs; omega
    have hl2 : (xs.map cSeg).length ≤ 1099511627776 := by rw [List.length_map]; exact hl
    have hd4 : ∀ s ∈ xs.map cSeg, s.f3.length ≤ 1048576 := by
      intro s hs
      obtain ⟨s', hs', rfl⟩ := List.mem_map.1 hs
      have := hall s' hs'
      unfold cSeg; simp only; omega
    have hd3 : ∀ s ∈ xs.map cSeg, s.f3.length ≤ 281474976710656 := fun s hs => Nat.le_trans (hd4 s hs) (by decide)
    have hb3 : ∀ s ∈ xs.map cSeg, Bytes s.f3 := by
      intro s hs
      obtain ⟨s', hs', rfl⟩ := List.mem_map.1 hs
      exact hby s' hs'
    have toI := laws_toImage_ev n hl hd2
    have sp := spec_PackImage_ev n (xs.map cSeg) hd4 hb3
    have im := impl_PackImage_ev n (xs.map cSeg) hd4 hb3
    have eqI := laws_eqImage_ev n hl2 hd3
    obtain ⟨q, L, mkI, hq0⟩ := laws_markImage_ev n (xs.map cSeg) hd4 (by rw [List.length_map]; omega)
    have hrl := packV_len (en := n) hd4
    generalize packV n (xs.map cSeg) = R at *
    obtain ⟨r, c⟩ := R
    simp only at hrl
    have eqr := laws_eqByteS_ev (xs := r) (by omega)
    have mkr := laws_markByteS_ev r (k0 := 1) (by omega) (by omega)
    have hdr := laws_heldByteS_ev r.length (k0 := 1) (by omega) (by omega)
    have hc : (c != c) = false := bne_eq_false_iff_eq.2 rfl
    refine Ev.bind toI (Ev.bind sp (Ev.bind toI (Ev.bind im (Ev.bind eqr (ev_pos rfl ?_)))))
    simp only [hc]
    refine Ev.step (fun _ => laws_FnExactPackImage.j0.eq_2 ..) (ev_neg (by decide) (Ev.bind toI (Ev.bind eqI (ev_pos rfl (Ev.bind mkI (ev_neg (by simp only; omega) (Ev.bind eqr (ev_pos rfl ?_))))))))
    simp only [hc]
    refine Ev.step (fun _ => laws_FnExactPackImage.j1.eq_2 ..) (ev_neg (by decide) (Ev.bind mkr (Ev.bind hdr (ev_neg (by omega) (ev_pos rfl (Ev.bind toI (Ev.bind im (Ev.bind eqr (ev_pos rfl ?_)))))))))
    simp only [hc]
    exact Ev.step (fun _ => laws_FnExactPackImage.j2.eq_2 ..) (ev_neg (by decide) (Ev.bind hdr (ev_neg (by omega) (ev_pos rfl (ev_ret rfl)))))
end Go.Proofs.Ytokiliilbopgkaa.Pure
