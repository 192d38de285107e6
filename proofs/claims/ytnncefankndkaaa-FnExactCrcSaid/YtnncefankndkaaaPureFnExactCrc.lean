/- For every input that the row lets in, FnExactCrc answers true; this text proves the plain law that is left when the machine's side is done. -/
import Derived.Test.YtnncefankndkaaaPFnExactCrcx1
import Derived.Test.YtnncefankndkaaaBase
set_option linter.unusedVariables false
set_option linter.unusedSimpArgs false
namespace Go.Proofs.Ytnncefankndkaaa.Pure
open Go.RowKit Go.Proofs.Ytnncefankndkaaa.PFnExactCrc Go.Proofs.YtnncefankndkaaaW.PrintWords Go.Proofs.YtnncefankndkaaaW.PrintLast Go.Proofs.YtnncefankndkaaaW.PrintMore Go.Proofs.Ytnncefankndkaaa.Base

theorem laws_toByteS_l0 (xs : List Int) (hl : xs.length ≤ 4611686018427387904) : ∀ (d i : Nat) (ys : List Int), i + d = xs.length → ys.length = xs.length → (∀ j, j < i → ys[j]? = xs[j]?) → Ev (fun k => laws_toByteS.l0 k xs ys (i : Int)) xs := by
  intro d
  induction d with
  | zero =>
    intro i ys h hy he
    refine Ev.step (fun _ => laws_toByteS.l0.eq_2 ..) ?_
    refine ev_neg (by omega) (ev_ret ?_)
    apply List.ext_getElem?
    intro j
    by_cases hj : j < i
    · exact he j hj
    · rw [List.getElem?_eq_none (by omega), List.getElem?_eq_none (by omega)]
  | succ d ih =>
    intro i ys h hy he
    refine Ev.step (fun _ => laws_toByteS.l0.eq_2 ..) ?_
    refine ev_pos (by omega) (ev_pos (by omega) (ev_pos (by omega) ?_))
    have e : wrap64 ((i : Int) + 1) = ((i + 1 : Nat) : Int) := by rw [w64_id (by omega) (by omega)]; omega
    rw [e, rd_nat (by omega), Int.toNat_natCast]
    refine ih (i + 1) _ (by omega) (by rw [List.length_set]; exact hy) ?_
    intro j hj
    by_cases hji : j = i
    · subst hji
      rw [List.getElem?_set_self (by omega), List.getElem?_eq_getElem (by omega)]
    · rw [List.getElem?_set_ne (by omega)]
      exact he j (by omega)
theorem laws_toByteS_ev {xs : List Int} (hl : xs.length ≤ 281474976710656) : Ev (fun k => laws_toByteS.f k xs) xs := by
  unfold laws_toByteS.f
  refine ev_pos (by omega) (ev_pos (by omega) ?_)
  exact laws_toByteS_l0 xs (by omega) xs.length 0 _ (by omega) (by simp) (fun j hj => by omega)
theorem laws_eqByteS_l0 (xs : List Int) (hl : xs.length ≤ 4611686018427387904) : ∀ (d i : Nat), i + d = xs.length → Ev (fun k => laws_eqByteS.l0 k xs xs (i : Int)) true := by
  intro d
  induction d with
  | zero =>
    intro i h
    refine Ev.step (fun _ => laws_eqByteS.l0.eq_2 ..) ?_
    exact ev_neg (by omega) (ev_ret rfl)
  | succ d ih =>
    intro i h
    refine Ev.step (fun _ => laws_eqByteS.l0.eq_2 ..) ?_
    refine ev_pos (by omega) (ev_pos (by omega) (ev_pos (by omega) (ev_pos rfl ?_)))
    have e : wrap64 ((i : Int) + 1) = ((i + 1 : Nat) : Int) := by rw [w64_id (by omega) (by omega)]; omega
    rw [e]
    exact ih (i + 1) (by omega)
theorem laws_eqByteS_ev {xs : List Int} (hl : xs.length ≤ 281474976710656) : Ev (fun k => laws_eqByteS.f k xs xs) true := by
  unfold laws_eqByteS.f
  exact ev_pos rfl (laws_eqByteS_l0 xs (by omega) xs.length 0 (by omega))
def crcBit (r : Nat) : Nat := if r % 2 = 1 then (r / 2) ^^^ 3988292384 else r / 2
def crcN (r : Nat) : Nat → Nat
  | 0 => r
  | d + 1 => crcN (crcBit r) d
def crcAll (r : Nat) : List Int → Nat
  | [] => r
  | b :: bs => crcAll (crcN (r ^^^ b.toNat) 8) bs
def crcV (xs : List Int) : Nat := crcAll 4294967295 xs ^^^ 4294967295
theorem crcBit_lt {r : Nat} (h : r < 2 ^ 32) : crcBit r < 2 ^ 32 := by
  unfold crcBit
  split
  · exact Nat.xor_lt_two_pow (Nat.lt_of_le_of_lt (Nat.div_le_self _ _) h) (by decide)
  · exact Nat.lt_of_le_of_lt (Nat.div_le_self _ _) h
theorem crcN_lt : ∀ (d : Nat) {r : Nat}, r < 2 ^ 32 → crcN r d < 2 ^ 32
  | 0, _, h => h
  | d + 1, _, h => crcN_lt d (crcBit_lt h)
theorem crcAll_lt : ∀ (xs : List Int) {r : Nat}, r < 2 ^ 32 → Bytes xs → crcAll r xs < 2 ^ 32
  | [], _, h, _ => h
  | b :: bs, r, h, hb => by
    refine crcAll_lt bs (crcN_lt 8 (Nat.xor_lt_two_pow h ?_)) (fun x hx => hb x (List.mem_cons_of_mem _ hx))
    have h0 := hb b List.mem_cons_self
    have : b.toNat < 256 := by omega
    exact Nat.lt_trans this (by decide)
theorem crcV_lt {xs : List Int} (hb : Bytes xs) : crcV xs < 2 ^ 32 := Nat.xor_lt_two_pow (crcAll_lt xs (by decide) hb) (by decide)
theorem lt32_64 {r : Nat} (h : r < 2 ^ 32) : r < 2 ^ 64 := Nat.lt_trans h (by decide)
theorem spec_Crc_l1 (xs : List Int) (i : Int) (R : Int) : ∀ (d r : Nat) (j : Int), j + d = 8 → 0 ≤ j → r < 2 ^ 32 → Ev (fun k => spec_Crc.l0 k xs (crcN r d : Int) (wrap64 (i + 1))) R → Ev (fun k => spec_Crc.l1 k xs (r : Int) i j) R := by
  intro d
  induction d with
  | zero =>
    intro r j h h0 hr H
    refine Ev.step (fun _ => spec_Crc.l1.eq_2 ..) ?_
    exact ev_neg (by omega) H
  | succ d ih =>
    intro r j h h0 hr H
    refine Ev.step (fun _ => spec_Crc.l1.eq_2 ..) ?_
    refine ev_pos (by omega) ?_
    have e1 : wrap64 (j + 1) = j + 1 := w64_id (by omega) (by omega)
    have hr2 : r / 2 < 2 ^ 32 := Nat.lt_of_le_of_lt (Nat.div_le_self _ _) hr
    have hr3 : r < 4294967296 := hr
    have e2 : IntKind.u64.wrap (Int.tdiv (r : Int) 2) = ((r / 2 : Nat) : Int) := by
      rw [show (2 : Int) = ((2 : Nat) : Int) from rfl, tdiv_nat, u64w_id (by omega) (by omega)]
    have e3 : Int.tmod (r : Int) 2 = ((r % 2 : Nat) : Int) := by rw [show (2 : Int) = ((2 : Nat) : Int) from rfl, tmod_nat]
    rw [e1, e2, e3]
    by_cases hc : r % 2 = 1
    · refine ev_pos (by omega) ?_
      rw [show (3988292384 : Int) = ((3988292384 : Nat) : Int) from rfl, xor_nat (lt32_64 hr2) (by decide)]
      have hb : (r / 2) ^^^ 3988292384 = crcBit r := by unfold crcBit; rw [if_pos hc]
      rw [hb]
      exact ih _ _ (by omega) (by omega) (crcBit_lt hr) H
    · refine ev_neg (by omega) ?_
      have hb : r / 2 = crcBit r := by unfold crcBit; rw [if_neg hc]
      rw [hb]
      exact ih _ _ (by omega) (by omega) (crcBit_lt hr) H
theorem spec_Crc_l0 (xs : List Int) (hb : Bytes xs) (hl : xs.length ≤ 4611686018427387904) : ∀ (d i r : Nat), i + d = xs.length → r < 2 ^ 32 → Ev (fun k => spec_Crc.l0 k xs (r : Int) (i : Int)) ((crcAll r (xs.drop i) ^^^ 4294967295 : Nat) : Int) := by
  intro d
  induction d with
  | zero =>
    intro i r h hr
    refine Ev.step (fun _ => spec_Crc.l0.eq_2 ..) ?_
    refine ev_neg (by omega) (ev_ret ?_)
    rw [List.drop_eq_nil_of_le (by omega)]
    show _ = ((r ^^^ 4294967295 : Nat) : Int)
    rw [show (4294967295 : Int) = ((4294967295 : Nat) : Int) from rfl]
    exact xor_nat (lt32_64 hr) (by decide)
  | succ d ih =>
    intro i r h hr
    refine Ev.step (fun _ => spec_Crc.l0.eq_2 ..) ?_
    refine ev_pos (by omega) (ev_pos (by omega) ?_)
    obtain ⟨b, hbe, hb2⟩ := hb.get (n := i) (by omega)
    have hb3 : b < 2 ^ 32 := Nat.lt_trans hb2 (by decide)
    rw [rd_nat (by omega), hbe, u64w_id (x := (b : Int)) (by omega) (by omega), xor_nat (lt32_64 hr) (lt32_64 hb3)]
    refine spec_Crc_l1 xs _ _ 8 _ 0 (by omega) (by omega) (Nat.xor_lt_two_pow hr hb3) ?_
    have e : wrap64 ((i : Int) + 1) = ((i + 1 : Nat) : Int) := by rw [w64_id (by omega) (by omega)]; omega
    rw [e, List.drop_eq_getElem_cons (by omega : i < xs.length)]
    refine ev_eq ?_ (ih (i + 1) _ (by omega) (crcN_lt 8 (Nat.xor_lt_two_pow hr hb3)))
    show _ = ((crcAll (crcN (r ^^^ xs[i].toNat) 8) (xs.drop (i + 1)) ^^^ 4294967295 : Nat) : Int)
    rw [hbe, Int.toNat_natCast]
theorem spec_Crc_ev {xs : List Int} (hb : Bytes xs) (hl : xs.length ≤ 281474976710656) : Ev (fun k => spec_Crc.f k xs) (crcV xs : Int) := by
  unfold spec_Crc.f
  exact spec_Crc_l0 xs hb (by omega) xs.length 0 4294967295 (by omega) (by decide)
theorem impl_Crc_l1 (xs : List Int) (n i : Int) (R : Int) : ∀ (d r : Nat) (j : Int), j + d = 8 → 0 ≤ j → r < 2 ^ 32 → Ev (fun k => impl_Crc.l0 k (crcN r d : Int) xs n (wrap64 (i + 1))) R → Ev (fun k => impl_Crc.l1 k (r : Int) xs n i j) R := by
  intro d
  induction d with
  | zero =>
    intro r j h h0 hr H
    refine Ev.step (fun _ => impl_Crc.l1.eq_2 ..) ?_
    exact ev_neg (by omega) H
  | succ d ih =>
    intro r j h h0 hr H
    refine Ev.step (fun _ => impl_Crc.l1.eq_2 ..) ?_
    refine ev_pos (by omega) ?_
    have e1 : wrap64 (j + 1) = j + 1 := w64_id (by omega) (by omega)
    have hr2 : r / 2 < 2 ^ 32 := Nat.lt_of_le_of_lt (Nat.div_le_self _ _) hr
    have e2 : (r : Int) / 2 = ((r / 2 : Nat) : Int) := by omega
    have e3 : Go.bits .and .u64 (r : Int) 1 = ((r % 2 : Nat) : Int) := by rw [show (1 : Int) = ((1 : Nat) : Int) from rfl, and_nat (lt32_64 hr) (by decide), Nat.and_one_is_mod]
    rw [e1, e2, e3]
    by_cases hc : r % 2 = 1
    · refine ev_pos (by omega) ?_
      rw [show (3988292384 : Int) = ((3988292384 : Nat) : Int) from rfl, xor_nat (lt32_64 hr2) (by decide)]
      have hb : (r / 2) ^^^ 3988292384 = crcBit r := by unfold crcBit; rw [if_pos hc]
      rw [hb]
      exact ih _ _ (by omega) (by omega) (crcBit_lt hr) H
    · refine ev_neg (by omega) ?_
      have hb : r / 2 = crcBit r := by unfold crcBit; rw [if_neg hc]
      rw [hb]
      exact ih _ _ (by omega) (by omega) (crcBit_lt hr) H
theorem impl_Crc_l0 (xs : List Int) (hb : Bytes xs) (hl : xs.length ≤ 4611686018427387904) : ∀ (d i r : Nat), i + d = xs.length → r < 2 ^ 32 → Ev (fun k => impl_Crc.l0 k (r : Int) xs (xs.length : Int) (i : Int)) ((crcAll r (xs.drop i) ^^^ 4294967295 : Nat) : Int) := by
  intro d
  induction d with
  | zero =>
    intro i r h hr
    refine Ev.step (fun _ => impl_Crc.l0.eq_2 ..) ?_
    refine ev_neg (by omega) (ev_ret ?_)
    rw [List.drop_eq_nil_of_le (by omega)]
    show _ = ((r ^^^ 4294967295 : Nat) : Int)
    rw [show (4294967295 : Int) = ((4294967295 : Nat) : Int) from rfl]
    exact xor_nat (lt32_64 hr) (by decide)
  | succ d ih =>
    intro i r h hr
    refine Ev.step (fun _ => impl_Crc.l0.eq_2 ..) ?_
    refine ev_pos (by omega) (ev_pos (by omega) (ev_pos (by omega) ?_))
    obtain ⟨b, hbe, hb2⟩ := hb.get (n := i) (by omega)
    have hb3 : b < 2 ^ 32 := Nat.lt_trans hb2 (by decide)
    rw [rd_nat (by omega), hbe, u64w_id (x := (b : Int)) (by omega) (by omega), xor_nat (lt32_64 hr) (lt32_64 hb3)]
    refine impl_Crc_l1 xs _ _ _ 8 _ 0 (by omega) (by omega) (Nat.xor_lt_two_pow hr hb3) ?_
    have e : wrap64 ((i : Int) + 1) = ((i + 1 : Nat) : Int) := by rw [w64_id (by omega) (by omega)]; omega
    rw [e, List.drop_eq_getElem_cons (by omega : i < xs.length)]
    refine ev_eq ?_ (ih (i + 1) _ (by omega) (crcN_lt 8 (Nat.xor_lt_two_pow hr hb3)))
    show _ = ((crcAll (crcN (r ^^^ xs[i].toNat) 8) (xs.drop (i + 1)) ^^^ 4294967295 : Nat) : Int)
    rw [hbe, Int.toNat_natCast]
theorem impl_Crc_ev {xs : List Int} (hb : Bytes xs) (hl : xs.length ≤ 281474976710656) : Ev (fun k => impl_Crc.f k xs) (crcV xs : Int) := by
  unfold impl_Crc.f
  exact impl_Crc_l0 xs hb (by omega) xs.length 0 4294967295 (by omega) (by decide)
theorem FnExactCrc : laws_FnExactCrc.Pure := by
  intro xs hm hs hw
  have hb := bytes_wf hw
  refine Ev.rounds ?_
  unfold laws_FnExactCrc.f
  by_cases hbig : (xs.length : Int) > 1048576
  · exact ev_pos hbig (ev_ret rfl)
  · refine ev_neg hbig ?_
    have hl : xs.length ≤ 281474976710656 := by omega
    refine Ev.bind (laws_toByteS_ev hl) (Ev.bind (spec_Crc_ev hb hl) (Ev.bind (laws_toByteS_ev hl) (Ev.bind (impl_Crc_ev hb hl) (ev_pos rfl (Ev.bind (laws_toByteS_ev hl) (Ev.bind (laws_eqByteS_ev hl) (ev_pos rfl (ev_ret rfl))))))))
end Go.Proofs.Ytnncefankndkaaa.Pure
