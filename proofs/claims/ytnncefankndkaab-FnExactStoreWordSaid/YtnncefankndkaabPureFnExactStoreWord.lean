/- For every input that the row lets in, FnExactStoreWord answers true; this text proves the plain law that is left when the machine's side is done. -/
import Derived.Test.YtnncefankndkaabPFnExactStoreWordx3
import Derived.Test.YtnncefankndkaabBase
set_option linter.unusedVariables false
set_option linter.unusedSimpArgs false
namespace Go.Proofs.Ytnncefankndkaab.Pure
open Go.RowKit Go.Proofs.Ytnncefankndkaab.PFnExactStoreWord Go.Proofs.YtnncefankndkaabW.PrintWords Go.Proofs.YtnncefankndkaabW.PrintLast Go.Proofs.YtnncefankndkaabW.PrintMore Go.Proofs.Ytnncefankndkaab.Base

theorem laws_toByteS_l0 (xs : List Int) (hl : xs.length ≤ 4611686018427387904) : ∀ (d i : Nat) (ys : List Int), i + d = xs.length → ys.length = xs.length → (∀ j, j < i → ys[j]? = xs[j]?) → Ev (fun k => laws_toByteS.l0 k xs ys (i : Int)) xs := by
  intro d
  induction d with
  | zero =>
    intro i ys h hy he
    refine Ev.step (fun _ => laws_toByteS.l0.eq_2 ..) ?_
    refine ev_neg (by omega) (ev_ret ?_)
    apply List.ext_getElem?
    intro j
    by_cases hj : j < i
    · exact he j hj
    · rw [List.getElem?_eq_none (by omega), List.getElem?_eq_none (by omega)]
  | succ d ih =>
    intro i ys h hy he
    refine Ev.step (fun _ => laws_toByteS.l0.eq_2 ..) ?_
    refine ev_pos (by omega) (ev_pos (by omega) (ev_pos (by omega) ?_))
    have e : wrap64 ((i : Int) + 1) = ((i + 1 : Nat) : Int) := by rw [w64_id (by omega) (by omega)]; omega
    rw [e, rd_nat (by omega), Int.toNat_natCast]
    refine ih (i + 1) _ (by omega) (by rw [List.length_set]; exact hy) ?_
    intro j hj
    by_cases hji : j = i
    · subst hji
      rw [List.getElem?_set_self (by omega), List.getElem?_eq_getElem (by omega)]
    · rw [List.getElem?_set_ne (by omega)]
      exact he j (by omega)
theorem laws_toByteS_ev {xs : List Int} (hl : xs.length ≤ 281474976710656) : Ev (fun k => laws_toByteS.f k xs) xs := by
  unfold laws_toByteS.f
  refine ev_pos (by omega) (ev_pos (by omega) ?_)
  exact laws_toByteS_l0 xs (by omega) xs.length 0 _ (by omega) (by simp) (fun j hj => by omega)
theorem laws_eqByteS_l0 (xs : List Int) (hl : xs.length ≤ 4611686018427387904) : ∀ (d i : Nat), i + d = xs.length → Ev (fun k => laws_eqByteS.l0 k xs xs (i : Int)) true := by
  intro d
  induction d with
  | zero =>
    intro i h
    refine Ev.step (fun _ => laws_eqByteS.l0.eq_2 ..) ?_
    exact ev_neg (by omega) (ev_ret rfl)
  | succ d ih =>
    intro i h
    refine Ev.step (fun _ => laws_eqByteS.l0.eq_2 ..) ?_
    refine ev_pos (by omega) (ev_pos (by omega) (ev_pos (by omega) (ev_pos rfl ?_)))
    have e : wrap64 ((i : Int) + 1) = ((i + 1 : Nat) : Int) := by rw [w64_id (by omega) (by omega)]; omega
    rw [e]
    exact ih (i + 1) (by omega)
theorem laws_eqByteS_ev {xs : List Int} (hl : xs.length ≤ 281474976710656) : Ev (fun k => laws_eqByteS.f k xs xs) true := by
  unfold laws_eqByteS.f
  exact ev_pos rfl (laws_eqByteS_l0 xs (by omega) xs.length 0 (by omega))
def sizeOk (n : Int) : Bool := decide (n = 1 ∨ n = 2 ∨ n = 4 ∨ n = 8)
theorem spec_l1SizeOk_eq (n : Int) : spec_l1SizeOk.f n = some (sizeOk n) := by
  unfold spec_l1SizeOk.f sizeOk
  by_cases h1 : n = 1
  · simp [h1]
  · by_cases h2 : n = 2
    · simp [h2]
    · by_cases h3 : n = 4
      · simp [h3]
      · rw [if_neg h1, if_neg h2, if_neg h3]
        by_cases h4 : n = 8 <;> simp [h1, h2, h3, h4]
theorem impl_sizeOk_eq (n : Int) : impl_sizeOk.f n = some (sizeOk n) := spec_l1SizeOk_eq n
theorem sizeOk_le {n : Int} (h : sizeOk n = true) : 1 ≤ n ∧ n ≤ 8 := by
  have := of_decide_eq_true h
  omega
def insideV (n at_ size : Int) : Bool := decide (0 ≤ at_ ∧ 0 ≤ size ∧ at_ ≤ n ∧ size ≤ n - at_)
theorem impl_inside_eq (n at_ size : Int) (h0 : 0 ≤ n) (h1 : n ≤ 4611686018427387904) : impl_inside.f n at_ size = some (insideV n at_ size) := by
  unfold impl_inside.f insideV
  by_cases h2 : at_ ≥ 0
  · rw [if_pos h2]
    by_cases h3 : size ≥ 0
    · rw [if_pos h3]
      by_cases h4 : at_ ≤ n
      · rw [if_pos h4, w64_id (by omega) (by omega)]
        simp only [Option.some.injEq, decide_eq_decide]; omega
      · rw [if_neg h4]; simp only [Option.some.injEq]; symm; simp only [decide_eq_false_iff_not]; omega
    · rw [if_neg h3]; simp only [Option.some.injEq]; symm; simp only [decide_eq_false_iff_not]; omega
  · rw [if_neg h2]; simp only [Option.some.injEq]; symm; simp only [decide_eq_false_iff_not]; omega
/-- What marking leaves: the numbers from k on, as bytes. -/
def markL (k : Int) (n : Nat) : List Int := (List.range n).map fun j : Nat => (k + (j : Int)) % 256
theorem markL_len (k : Int) (n : Nat) : (markL k n).length = n := by simp [markL]
theorem markL_get (k : Int) {n j : Nat} (h : j < n) : (markL k n)[j]? = some ((k + (j : Int)) % 256) := by
  simp [markL, List.getElem?_range h]
theorem laws_markByteS_l0 (n : Nat) (k0 : Int) (hk : 0 ≤ k0) (hk2 : k0 + n ≤ 4611686018427387904) : ∀ (d i : Nat) (xs : List Int), i + d = n → xs.length = n → (∀ j, j < i → xs[j]? = (markL k0 n)[j]?) → Ev (fun k => laws_markByteS.l0 k xs (k0 + i) (i : Int)) (k0 + n, markL k0 n) := by
  intro d
  induction d with
  | zero =>
    intro i xs h hx he
    refine Ev.step (fun _ => laws_markByteS.l0.eq_2 ..) ?_
    refine ev_neg (by omega) (ev_ret ?_)
    refine Prod.ext (by simp only; omega) ?_
    apply List.ext_getElem?
    intro j
    by_cases hj : j < n
    · exact he j (by omega)
    · rw [List.getElem?_eq_none (show xs.length ≤ j by omega), List.getElem?_eq_none (by rw [markL_len]; omega)]
  | succ d ih =>
    intro i xs h hx he
    refine Ev.step (fun _ => laws_markByteS.l0.eq_2 ..) ?_
    have e1 : wrap64 ((i : Int) + 1) = ((i + 1 : Nat) : Int) := by rw [w64_id (by omega) (by omega)]; omega
    have e2 : wrap64 (k0 + (i : Int) + 1) = k0 + ((i + 1 : Nat) : Int) := by rw [w64_id (by omega) (by omega)]; omega
    refine ev_pos (by omega) (ev_pos (by omega) ?_)
    rw [e1, e2, Int.toNat_natCast]
    refine ih (i + 1) _ (by omega) (by rw [List.length_set]; exact hx) ?_
    intro j hj
    by_cases hji : j = i
    · subst hji
      rw [List.getElem?_set_self (by omega), markL_get k0 (by omega)]
    · rw [List.getElem?_set_ne (by omega)]
      exact he j (by omega)
theorem laws_markByteS_ev (xs : List Int) {k0 : Int} (hk : 0 ≤ k0) (hk2 : k0 + xs.length ≤ 4611686018427387904) : Ev (fun k => laws_markByteS.f k xs k0) (k0 + xs.length, markL k0 xs.length) := by
  unfold laws_markByteS.f
  have := laws_markByteS_l0 xs.length k0 hk hk2 xs.length 0 xs (by omega) rfl (fun j hj => by omega)
  rw [show k0 + ((0 : Nat) : Int) = k0 by omega] at this
  exact this
theorem laws_heldByteS_l0 (n : Nat) (k0 : Int) (hk : 0 ≤ k0) (hk2 : k0 + n ≤ 4611686018427387904) : ∀ (d i : Nat), i + d = n → Ev (fun k => laws_heldByteS.l0 k (markL k0 n) (k0 + i) (i : Int)) (k0 + n) := by
  intro d
  induction d with
  | zero =>
    intro i h
    refine Ev.step (fun _ => laws_heldByteS.l0.eq_2 ..) ?_
    refine ev_neg (by rw [markL_len]; omega) (ev_ret (by omega))
  | succ d ih =>
    intro i h
    refine Ev.step (fun _ => laws_heldByteS.l0.eq_2 ..) ?_
    have e1 : wrap64 ((i : Int) + 1) = ((i + 1 : Nat) : Int) := by rw [w64_id (by omega) (by omega)]; omega
    have e2 : wrap64 (k0 + (i : Int) + 1) = k0 + ((i + 1 : Nat) : Int) := by rw [w64_id (by omega) (by omega)]; omega
    have hl : i < (markL k0 n).length := by rw [markL_len]; omega
    have e3 : (markL k0 n)[i] = (k0 + (i : Int)) % 256 := by
      have := markL_get k0 (n := n) (j := i) (by omega)
      rw [List.getElem?_eq_getElem hl] at this
      exact Option.some.inj this
    refine ev_pos (by omega) (ev_pos (by omega) ?_)
    rw [rd_nat hl, e1, e2]
    exact ev_pos e3 (ih (i + 1) (by omega))
theorem laws_heldByteS_ev (n : Nat) {k0 : Int} (hk : 0 ≤ k0) (hk2 : k0 + n ≤ 4611686018427387904) : Ev (fun k => laws_heldByteS.f k (markL k0 n) k0) (k0 + n) := by
  unfold laws_heldByteS.f
  have := laws_heldByteS_l0 n k0 hk hk2 n 0 (by omega)
  rw [show k0 + ((0 : Nat) : Int) = k0 by omega] at this
  exact this
/-- Some bytes of a number, the lowest first, laid into a list. -/
def pokeL (xs : List Int) (at_ v : Nat) : Nat → List Int
  | 0 => xs
  | i + 1 => (pokeL xs at_ v i).set (at_ + i) ((v >>> (8 * i) % 256 : Nat) : Int)
theorem pokeL_len (xs : List Int) (at_ v : Nat) : ∀ i, (pokeL xs at_ v i).length = xs.length
  | 0 => rfl
  | i + 1 => by rw [pokeL, List.length_set, pokeL_len]
theorem pokeL_bytes {xs : List Int} (h : Bytes xs) (at_ v : Nat) : ∀ i, Bytes (pokeL xs at_ v i)
  | 0 => h
  | i + 1 => by
    intro x hx
    rcases List.mem_or_eq_of_mem_set hx with hx | rfl
    · exact pokeL_bytes h at_ v i x hx
    · omega
def storeV (xs : List Int) (at_ size : Int) (v : Nat) : List Int × Bool :=
  if sizeOk size = true ∧ 0 ≤ at_ ∧ at_ ≤ xs.length - size then (pokeL xs at_.toNat v size.toNat, true) else ([], false)
theorem spec_StoreWord_l0 (xs : List Int) (at_ size v : Nat) (hv : v < 2 ^ 64) (hl : xs.length ≤ 4611686018427387904) (h : at_ + size ≤ xs.length) : ∀ (d i : Nat), i + d = size →
    Ev (fun k => spec_StoreWord.l0 k (at_ : Int) (size : Int) ((v >>> (8 * i) : Nat) : Int) (pokeL xs at_ v i) (i : Int)) (pokeL xs at_ v size, true) := by
  intro d
  induction d with
  | zero =>
    intro i hi
    obtain rfl : i = size := by omega
    refine Ev.step (fun _ => spec_StoreWord.l0.eq_2 ..) ?_
    exact ev_neg (by omega) (ev_ret rfl)
  | succ d ih =>
    intro i hi
    refine Ev.step (fun _ => spec_StoreWord.l0.eq_2 ..) ?_
    have e1 : wrap64 ((at_ : Int) + i) = ((at_ + i : Nat) : Int) := by rw [w64_id (by omega) (by omega)]; omega
    have e2 : wrap64 ((i : Int) + 1) = ((i + 1 : Nat) : Int) := by rw [w64_id (by omega) (by omega)]; omega
    have hv2 : v >>> (8 * i) < 18446744073709551616 := shr_lt hv
    have e3 : IntKind.u64.wrap (Int.tdiv ((v >>> (8 * i) : Nat) : Int) 256) = ((v >>> (8 * (i + 1)) : Nat) : Int) := by
      have hq : ∀ q : Nat, q < 18446744073709551616 → IntKind.u64.wrap (Int.tdiv (q : Int) 256) = ((q / 256 : Nat) : Int) := by
        intro q hq
        rw [show (256 : Int) = ((256 : Nat) : Int) from rfl, tdiv_nat, u64w_id (by omega) (by omega)]
      rw [hq _ hv2, show 8 * (i + 1) = 8 * i + 8 by omega, Nat.shiftRight_add, Nat.shiftRight_eq_div_pow (v >>> (8 * i)) 8]
    have e4 : Int.tmod ((v >>> (8 * i) : Nat) : Int) 256 % 256 = ((v >>> (8 * i) % 256 : Nat) : Int) := by
      rw [show (256 : Int) = ((256 : Nat) : Int) from rfl, tmod_nat]
      generalize v >>> (8 * i) = q
      omega
    rw [e1, e2, e3, e4, Int.toNat_natCast]
    exact ev_pos (by omega) (ev_pos (by omega) (ev_pos (by rw [pokeL_len]; omega) (ih (i + 1) (by omega))))
theorem spec_StoreWord_ev {xs : List Int} (hl : xs.length ≤ 1099511627776) (at_ size : Int) {v : Nat} (hv : v < 2 ^ 64) : Ev (fun k => spec_StoreWord.f k xs at_ size (v : Int)) (storeV xs at_ size v) := by
  unfold spec_StoreWord.f
  refine ev_bind0 (spec_l1SizeOk_eq size) ?_
  have bad : ¬ (sizeOk size = true ∧ 0 ≤ at_ ∧ at_ ≤ xs.length - size) → Ev (fun k => spec_StoreWord.j0 k xs at_ size (v : Int) true) (storeV xs at_ size v) := by
    intro hc
    unfold storeV
    rw [if_neg hc]
    refine Ev.step (fun _ => spec_StoreWord.j0.eq_2 ..) ?_
    exact ev_pos rfl (ev_ret rfl)
  by_cases h1 : sizeOk size = true
  · refine ev_pos h1 ?_
    have hs := sizeOk_le h1
    by_cases h2 : at_ < 0
    · exact ev_pos h2 (bad (by omega))
    · refine ev_neg h2 ?_
      rw [w64_id (x := (xs.length : Int) - size) (by omega) (by omega)]
      by_cases h3 : at_ > xs.length - size
      · rw [decide_eq_true h3]
        exact bad (by omega)
      · rw [decide_eq_false h3]
        unfold storeV
        rw [if_pos ⟨h1, by omega, by omega⟩]
        obtain ⟨a, rfl⟩ := Int.eq_ofNat_of_zero_le (show 0 ≤ at_ by omega)
        obtain ⟨s, rfl⟩ := Int.eq_ofNat_of_zero_le (show 0 ≤ size by omega)
        refine Ev.step (fun _ => spec_StoreWord.j0.eq_2 ..) ?_
        refine ev_neg (by decide) ?_
        refine ev_bind0 rfl (ev_pos (by simp only [List.length_nil]; omega) ?_)
        exact spec_StoreWord_l0 xs a s v hv (by omega) (by omega) s 0 (by omega)
  · refine ev_neg h1 ?_
    exact bad (fun h => h1 h.1)
theorem impl_poke_l0 (xs : List Int) (at_ size v : Nat) (hv : v < 2 ^ 64) (hs : size ≤ 1152921504606846975) (hl : xs.length ≤ 4611686018427387904) (h : at_ + size ≤ xs.length) : ∀ (d i : Nat), i + d = size →
    Ev (fun k => impl_poke.l0 k (pokeL xs at_ v i) (at_ : Int) (v : Int) (size : Int) (i : Int)) (pokeL xs at_ v size) := by
  intro d
  induction d with
  | zero =>
    intro i hi
    obtain rfl : i = size := by omega
    refine Ev.step (fun _ => impl_poke.l0.eq_2 ..) ?_
    exact ev_neg (by omega) (ev_ret rfl)
  | succ d ih =>
    intro i hi
    refine Ev.step (fun _ => impl_poke.l0.eq_2 ..) ?_
    have e1 : wrap64 ((at_ : Int) + i) = ((at_ + i : Nat) : Int) := by rw [w64_id (by omega) (by omega)]; omega
    have e2 : wrap64 ((i : Int) + 1) = ((i + 1 : Nat) : Int) := by rw [w64_id (by omega) (by omega)]; omega
    have e3 : wrap64 (8 * (i : Int)) = ((8 * i : Nat) : Int) := by rw [w64_id (by omega) (by omega)]; omega
    rw [e1, e2, e3, shr_nat _ _ hv, Int.toNat_natCast]
    have e4 : ((v >>> (8 * i) : Nat) : Int) % 256 = ((v >>> (8 * i) % 256 : Nat) : Int) := by
      generalize v >>> (8 * i) = q
      omega
    rw [e4]
    exact ev_pos (by omega) (ev_pos (by omega) (ev_pos (by omega) (ev_pos (by rw [pokeL_len]; omega) (ih (i + 1) (by omega)))))
theorem impl_poke_ev {xs : List Int} (hl : xs.length ≤ 1099511627776) {at_ size v : Nat} (hv : v < 2 ^ 64) (h : at_ + size ≤ xs.length) : Ev (fun k => impl_poke.f k xs (at_ : Int) (size : Int) (v : Int)) (pokeL xs at_ v size) := by
  unfold impl_poke.f
  exact impl_poke_l0 xs at_ size v hv (by omega) (by omega) h size 0 (by omega)
theorem impl_copied_eq {xs : List Int} (hl : xs.length ≤ 1099511627776) : impl_copied.f xs = some xs := by
  unfold impl_copied.f
  rw [if_pos (by simp only [List.length_nil]; omega)]; rfl
theorem impl_StoreWord_ev {xs : List Int} (hl : xs.length ≤ 1099511627776) (at_ size : Int) {v : Nat} (hv : v < 2 ^ 64) : Ev (fun k => impl_StoreWord.f k xs at_ size (v : Int)) (storeV xs at_ size v) := by
  unfold impl_StoreWord.f
  refine ev_bind0 (impl_sizeOk_eq size) ?_
  have bad : ¬ (sizeOk size = true ∧ 0 ≤ at_ ∧ at_ ≤ xs.length - size) → Ev (fun k => impl_StoreWord.j0 k xs at_ size (v : Int) true) (storeV xs at_ size v) := by
    intro hc
    unfold storeV
    rw [if_neg hc]
    refine Ev.step (fun _ => impl_StoreWord.j0.eq_2 ..) ?_
    exact ev_pos rfl (ev_ret rfl)
  by_cases h1 : sizeOk size = true
  · refine ev_pos h1 ?_
    have hs := sizeOk_le h1
    refine ev_bind0 (impl_inside_eq _ _ _ (by omega) (by omega)) ?_
    by_cases h2 : insideV xs.length at_ size = true
    · have h3 := of_decide_eq_true h2
      rw [h2]
      unfold storeV
      rw [if_pos ⟨h1, by omega, by omega⟩]
      obtain ⟨a, rfl⟩ := Int.eq_ofNat_of_zero_le (show 0 ≤ at_ by omega)
      obtain ⟨s, rfl⟩ := Int.eq_ofNat_of_zero_le (show 0 ≤ size by omega)
      refine Ev.step (fun _ => impl_StoreWord.j0.eq_2 ..) ?_
      refine ev_neg (by decide) ?_
      exact ev_bind0 (impl_copied_eq hl) (Ev.bind (impl_poke_ev hl hv (by omega)) (ev_ret rfl))
    · have h3 : insideV xs.length at_ size = false := by simpa using h2
      rw [h3]
      exact bad (fun h => h2 (decide_eq_true (by omega)))
  · refine ev_neg h1 ?_
    exact bad (fun h => h1 h.1)
theorem storeV_len (xs : List Int) (at_ size : Int) (v : Nat) : (storeV xs at_ size v).1.length ≤ xs.length := by
  unfold storeV
  split
  · rw [pokeL_len]; exact Nat.le_refl _
  · exact Nat.zero_le _
theorem FnExactStoreWord : laws_FnExactStoreWord.Pure := by
  intro xs a1 a2 a3 hm hs hw h1 h2 h3
  obtain ⟨v, rfl, hv⟩ := to_nat (m := 2 ^ 64) (wf_u64 h3).1 (wf_u64 h3).2
  refine Ev.rounds ?_
  unfold laws_FnExactStoreWord.f
  by_cases hbig : (xs.length : Int) > 1048576
  · exact ev_pos hbig (ev_ret rfl)
  · refine ev_neg hbig ?_
    have hl : xs.length ≤ 281474976710656 := by omega
    have hl2 : xs.length ≤ 1099511627776 := by omega
    have hr := storeV_len xs a1 a2 v
    obtain ⟨r, hre⟩ : ∃ r, r = storeV xs a1 a2 v := ⟨_, rfl⟩
    have hsp := spec_StoreWord_ev hl2 a1 a2 hv
    have him := impl_StoreWord_ev hl2 a1 a2 hv
    rw [← hre] at hsp him hr
    have hrl : r.1.length ≤ 281474976710656 := by omega
    refine Ev.bind (laws_toByteS_ev hl) (Ev.bind hsp (Ev.bind (laws_toByteS_ev hl) (Ev.bind him (Ev.bind (laws_eqByteS_ev hrl) (ev_pos rfl ?_)))))
    simp only [bne_self_eq_false]
    refine Ev.step (fun _ => laws_FnExactStoreWord.j0.eq_2 ..) (ev_neg (by decide) ?_)
    refine Ev.bind (laws_toByteS_ev hl) (Ev.bind (laws_eqByteS_ev hl) (ev_pos rfl ?_))
    refine Ev.bind (laws_markByteS_ev xs (k0 := 1) (by omega) (by omega)) (ev_neg (by simp only; omega) ?_)
    refine Ev.bind (laws_eqByteS_ev hrl) (ev_pos rfl ?_)
    simp only [bne_self_eq_false]
    refine Ev.step (fun _ => laws_FnExactStoreWord.j1.eq_2 ..) (ev_neg (by decide) ?_)
    refine Ev.bind (laws_markByteS_ev r.1 (k0 := 1) (by omega) (by omega)) ?_
    refine Ev.bind (laws_heldByteS_ev r.1.length (k0 := 1) (by omega) (by omega)) (ev_neg (by omega) (ev_pos rfl ?_))
    refine Ev.bind (laws_toByteS_ev hl) (Ev.bind him (Ev.bind (laws_eqByteS_ev hrl) (ev_pos rfl ?_)))
    simp only [bne_self_eq_false]
    refine Ev.step (fun _ => laws_FnExactStoreWord.j2.eq_2 ..) (ev_neg (by decide) ?_)
    exact Ev.bind (laws_heldByteS_ev r.1.length (k0 := 1) (by omega) (by omega)) (ev_neg (by omega) (ev_pos rfl (ev_ret rfl)))
end Go.Proofs.Ytnncefankndkaab.Pure
