/- For every input that the row lets in, FnExactCrash answers true; this text proves the plain law that is left when the machine's side is done. -/
import Derived.Test.YtflmbjoipmglbaaPFnExactCrashx6
import Derived.Test.YtflmbjoipmglbaaBase
set_option linter.unusedVariables false
set_option linter.unusedSimpArgs false
namespace Go.Proofs.Ytflmbjoipmglbaa.Pure
open Go.RowKit Go.Proofs.Ytflmbjoipmglbaa.PFnExactCrash Go.Proofs.YtflmbjoipmglbaaW.PrintWords Go.Proofs.YtflmbjoipmglbaaW.PrintLast Go.Proofs.YtflmbjoipmglbaaW.PrintMore Go.Proofs.Ytflmbjoipmglbaa.Base

theorem laws_toByteS_l0 (xs : List Int) (hl : xs.length ≤ 4611686018427387904) : ∀ (d i : Nat) (ys : List Int), i + d = xs.length → ys.length = xs.length → (∀ j, j < i → ys[j]? = xs[j]?) → Ev (fun k => laws_toByteS.l0 k xs ys (i : Int)) xs := by
  intro d
  induction d with
  | zero =>
    intro i ys h hy he
    refine Ev.step (fun _ => laws_toByteS.l0.eq_2 ..) ?_
    refine ev_neg (by omega) (ev_ret ?_)
    apply List.ext_getElem?
    intro j
    by_cases hj : j < i
    · exact he j hj
    · rw [List.getElem?_eq_none (by omega), List.getElem?_eq_none (by omega)]
  | succ d ih =>
    intro i ys h hy he
    refine Ev.step (fun _ => laws_toByteS.l0.eq_2 ..) ?_
    refine ev_pos (by omega) (ev_pos (by omega) (ev_pos (by omega) ?_))
    have e : wrap64 ((i : Int) + 1) = ((i + 1 : Nat) : Int) := by rw [w64_id (by omega) (by omega)]; omega
    rw [e, rd_nat (by omega), Int.toNat_natCast]
    refine ih (i + 1) _ (by omega) (by rw [List.length_set]; exact hy) ?_
    intro j hj
    by_cases hji : j = i
    · subst hji
      rw [List.getElem?_set_self (by omega), List.getElem?_eq_getElem (by omega)]
    · rw [List.getElem?_set_ne (by omega)]
      exact he j (by omega)
theorem laws_toByteS_ev {xs : List Int} (hl : xs.length ≤ 281474976710656) : Ev (fun k => laws_toByteS.f k xs) xs := by
  unfold laws_toByteS.f
  refine ev_pos (by omega) (ev_pos (by omega) ?_)
  exact laws_toByteS_l0 xs (by omega) xs.length 0 _ (by omega) (by simp) (fun j hj => by omega)
theorem laws_eqByteS_l0 (xs : List Int) (hl : xs.length ≤ 4611686018427387904) : ∀ (d i : Nat), i + d = xs.length → Ev (fun k => laws_eqByteS.l0 k xs xs (i : Int)) true := by
  intro d
  induction d with
  | zero =>
    intro i h
    refine Ev.step (fun _ => laws_eqByteS.l0.eq_2 ..) ?_
    exact ev_neg (by omega) (ev_ret rfl)
  | succ d ih =>
    intro i h
    refine Ev.step (fun _ => laws_eqByteS.l0.eq_2 ..) ?_
    refine ev_pos (by omega) (ev_pos (by omega) (ev_pos (by omega) (ev_pos rfl ?_)))
    have e : wrap64 ((i : Int) + 1) = ((i + 1 : Nat) : Int) := by rw [w64_id (by omega) (by omega)]; omega
    rw [e]
    exact ih (i + 1) (by omega)
theorem laws_eqByteS_ev {xs : List Int} (hl : xs.length ≤ 281474976710656) : Ev (fun k => laws_eqByteS.f k xs xs) true := by
  unfold laws_eqByteS.f
  exact ev_pos rfl (laws_eqByteS_l0 xs (by omega) xs.length 0 (by omega))
/-- What marking leaves: the numbers from k on, as bytes. -/
def markL (k : Int) (n : Nat) : List Int := (List.range n).map fun j : Nat => (k + (j : Int)) % 256
theorem markL_len (k : Int) (n : Nat) : (markL k n).length = n := by simp [markL]
theorem markL_get (k : Int) {n j : Nat} (h : j < n) : (markL k n)[j]? = some ((k + (j : Int)) % 256) := by
  simp [markL, List.getElem?_range h]
theorem laws_markByteS_l0 (n : Nat) (k0 : Int) (hk : 0 ≤ k0) (hk2 : k0 + n ≤ 4611686018427387904) : ∀ (d i : Nat) (xs : List Int), i + d = n → xs.length = n → (∀ j, j < i → xs[j]? = (markL k0 n)[j]?) → Ev (fun k => laws_markByteS.l0 k xs (k0 + i) (i : Int)) (k0 + n, markL k0 n) := by
  intro d
  induction d with
  | zero =>
    intro i xs h hx he
    refine Ev.step (fun _ => laws_markByteS.l0.eq_2 ..) ?_
    refine ev_neg (by omega) (ev_ret ?_)
    refine Prod.ext (by simp only; omega) ?_
    apply List.ext_getElem?
    intro j
    by_cases hj : j < n
    · exact he j (by omega)
    · rw [List.getElem?_eq_none (show xs.length ≤ j by omega), List.getElem?_eq_none (by rw [markL_len]; omega)]
  | succ d ih =>
    intro i xs h hx he
    refine Ev.step (fun _ => laws_markByteS.l0.eq_2 ..) ?_
    have e1 : wrap64 ((i : Int) + 1) = ((i + 1 : Nat) : Int) := by rw [w64_id (by omega) (by omega)]; omega
    have e2 : wrap64 (k0 + (i : Int) + 1) = k0 + ((i + 1 : Nat) : Int) := by rw [w64_id (by omega) (by omega)]; omega
    refine ev_pos (by omega) (ev_pos (by omega) ?_)
    rw [e1, e2, Int.toNat_natCast]
    refine ih (i + 1) _ (by omega) (by rw [List.length_set]; exact hx) ?_
    intro j hj
    by_cases hji : j = i
    · subst hji
      rw [List.getElem?_set_self (by omega), markL_get k0 (by omega)]
    · rw [List.getElem?_set_ne (by omega)]
      exact he j (by omega)
theorem laws_markByteS_ev (xs : List Int) {k0 : Int} (hk : 0 ≤ k0) (hk2 : k0 + xs.length ≤ 4611686018427387904) : Ev (fun k => laws_markByteS.f k xs k0) (k0 + xs.length, markL k0 xs.length) := by
  unfold laws_markByteS.f
  have := laws_markByteS_l0 xs.length k0 hk hk2 xs.length 0 xs (by omega) rfl (fun j hj => by omega)
  rw [show k0 + ((0 : Nat) : Int) = k0 by omega] at this
  exact this
theorem laws_heldByteS_l0 (n : Nat) (k0 : Int) (hk : 0 ≤ k0) (hk2 : k0 + n ≤ 4611686018427387904) : ∀ (d i : Nat), i + d = n → Ev (fun k => laws_heldByteS.l0 k (markL k0 n) (k0 + i) (i : Int)) (k0 + n) := by
  intro d
  induction d with
  | zero =>
    intro i h
    refine Ev.step (fun _ => laws_heldByteS.l0.eq_2 ..) ?_
    refine ev_neg (by rw [markL_len]; omega) (ev_ret (by omega))
  | succ d ih =>
    intro i h
    refine Ev.step (fun _ => laws_heldByteS.l0.eq_2 ..) ?_
    have e1 : wrap64 ((i : Int) + 1) = ((i + 1 : Nat) : Int) := by rw [w64_id (by omega) (by omega)]; omega
    have e2 : wrap64 (k0 + (i : Int) + 1) = k0 + ((i + 1 : Nat) : Int) := by rw [w64_id (by omega) (by omega)]; omega
    have hl : i < (markL k0 n).length := by rw [markL_len]; omega
    have e3 : (markL k0 n)[i] = (k0 + (i : Int)) % 256 := by
      have := markL_get k0 (n := n) (j := i) (by omega)
      rw [List.getElem?_eq_getElem hl] at this
      exact Option.some.inj this
    refine ev_pos (by omega) (ev_pos (by omega) ?_)
    rw [rd_nat hl, e1, e2]
    exact ev_pos e3 (ih (i + 1) (by omega))
theorem laws_heldByteS_ev (n : Nat) {k0 : Int} (hk : 0 ≤ k0) (hk2 : k0 + n ≤ 4611686018427387904) : Ev (fun k => laws_heldByteS.f k (markL k0 n) k0) (k0 + n) := by
  unfold laws_heldByteS.f
  have := laws_heldByteS_l0 n k0 hk hk2 n 0 (by omega)
  rw [show k0 + ((0 : Nat) : Int) = k0 by omega] at this
  exact this
/-- What a disk holds after writes; nothing where one of them is not right. -/
def afterV : List Int → List S70 → Option (List Int)
  | cur, [] => some cur
  | cur, w :: ws => if 0 ≤ w.f0 ∧ w.f0 < (cur.length : Int) / 128 ∧ w.f1.length = 128 then afterV (cur.take (w.f0.toNat * 128) ++ (w.f1 ++ cur.drop (w.f0.toNat * 128 + 128))) ws else none
def outV : Option (List Int) → List Int × Bool
  | none => ([], false)
  | some r => (r, true)
theorem afterV_nil (cur : List Int) : afterV cur [] = some cur := rfl
theorem afterV_ok {cur : List Int} {w : S70} {ws : List S70} (h : 0 ≤ w.f0 ∧ w.f0 < (cur.length : Int) / 128 ∧ w.f1.length = 128) : afterV cur (w :: ws) = afterV (cur.take (w.f0.toNat * 128) ++ (w.f1 ++ cur.drop (w.f0.toNat * 128 + 128))) ws := if_pos h
theorem afterV_bad {cur : List Int} {w : S70} {ws : List S70} (h : ¬ (0 ≤ w.f0 ∧ w.f0 < (cur.length : Int) / 128 ∧ w.f1.length = 128)) : afterV cur (w :: ws) = none := if_neg h
theorem afterV_room {cur d : List Int} {s : Nat} (h : s * 128 + 128 ≤ cur.length) (hd : d.length = 128) : (cur.take (s * 128) ++ (d ++ cur.drop (s * 128 + 128))).length = cur.length := by
  rw [List.length_append, List.length_append, List.length_take, List.length_drop, hd]; omega
theorem afterV_len : ∀ (ws : List S70) (cur r : List Int), afterV cur ws = some r → r.length = cur.length := by
  intro ws
  induction ws with
  | nil => intro cur r h; rw [afterV_nil] at h; rw [Option.some.inj h]
  | cons w ws ih =>
    intro cur r h
    by_cases hv : 0 ≤ w.f0 ∧ w.f0 < (cur.length : Int) / 128 ∧ w.f1.length = 128
    · rw [afterV_ok hv] at h
      rw [ih _ _ h]
      exact afterV_room (by omega) hv.2.2
    · rw [afterV_bad hv] at h; cases h
theorem set_step {A d T : List Int} {j : Nat} (hj : j < d.length) (hT : j < T.length) : (A ++ (d.take j ++ T.drop j)).set (A.length + j) d[j] = A ++ (d.take (j + 1) ++ T.drop (j + 1)) := by
  rw [List.set_append_right _ _ (Nat.le_add_right _ _), Nat.add_sub_cancel_left, List.set_append_right _ _ (by rw [List.length_take]; omega), List.length_take, Nat.min_eq_left (by omega), Nat.sub_self, List.drop_eq_getElem_cons hT, List.set_cons_zero, List.take_succ_eq_append_getElem hj, List.append_assoc]
  try rfl
theorem rd_W {xs : List S70} {n : Nat} (h : n < xs.length) : rd_T70 xs (n : Int) = xs[n] := by
  unfold rd_T70
  rw [Int.toNat_natCast, List.getD_eq_getElem?_getD, List.getElem?_eq_getElem h]; rfl
theorem spec_l12Disk_eq (D : List Int) : spec_l12Disk.f D = some (decide (D.length % 128 = 0 ∧ D.length ≤ 131072)) := by
  unfold spec_l12Disk.f
  by_cases h1 : D.length % 128 = 0
  · rw [if_pos (by omega)]; simp only [Option.some.injEq, decide_eq_decide]; omega
  · rw [if_neg (by omega), decide_eq_false (fun h => h1 h.1)]
theorem impl_diskOk_eq (D : List Int) : impl_diskOk.f D = some (decide (D.length % 128 = 0 ∧ D.length ≤ 131072)) := by
  unfold impl_diskOk.f
  by_cases h1 : D.length % 128 = 0
  · rw [if_pos (by omega)]; simp only [Option.some.injEq, decide_eq_decide]; omega
  · rw [if_neg (by omega), decide_eq_false (fun h => h1 h.1)]
theorem spec_l12Is_eq {D : List Int} (hl : D.length ≤ 131072) (x : Int) : spec_l12Is.f D x = some (decide (0 ≤ x ∧ x < (D.length : Int) / 128)) := by
  unfold spec_l12Is.f
  rw [w64_id (by omega) (by omega)]
  by_cases h : x ≥ 0
  · rw [if_pos h]; simp only [Option.some.injEq, decide_eq_decide]; omega
  · rw [if_neg h, decide_eq_false (fun k => h k.1)]
theorem spec_DiskAfter_l1 (x0 : List Int) (ws : List S70) (i : Int) {A T d : List Int} {s : Nat} (hA : A.length = s * 128) (hd : d.length = 128) (hT : 128 ≤ T.length) (hn : A.length + T.length ≤ 131072) {R : List Int × Bool} (hk : Ev (fun k => spec_DiskAfter.l0 k x0 ws (A ++ (d ++ T.drop 128)) (wrap64 (i + 1))) R) : ∀ (e j : Nat), j + e = 128 → Ev (fun k => spec_DiskAfter.l1 k x0 ws (A ++ (d.take j ++ T.drop j)) i (j : Int) (s : Int) d) R := by
  intro e
  induction e with
  | zero =>
    intro j h
    have : j = 128 := by omega
    subst this
    rw [List.take_of_length_le (by omega)]
    exact Ev.step (fun _ => spec_DiskAfter.l1.eq_2 ..) (ev_neg (by omega) hk)
  | succ e ih =>
    intro j h
    have e1 : wrap64 (wrap64 ((s : Int) * 128) + (j : Int)) = ((A.length + j : Nat) : Int) := by
      rw [w64_id (x := (s : Int) * 128) (by omega) (by omega), w64_id (by omega) (by omega)]; omega
    have e2 : wrap64 ((j : Int) + 1) = ((j + 1 : Nat) : Int) := by rw [w64_id (by omega) (by omega)]; omega
    have hlen : (A ++ (d.take j ++ T.drop j)).length = A.length + T.length := by
      rw [List.length_append, List.length_append, List.length_take, List.length_drop]; omega
    refine Ev.step (fun _ => spec_DiskAfter.l1.eq_2 ..) (ev_pos (by omega) (ev_pos (by omega) (ev_pos (by omega) ?_)))
    rw [e1, e2, rd_nat (show j < d.length by omega), Int.toNat_natCast, set_step (by omega) (by omega)]
    exact ev_pos (by omega) (ev_pos (by rw [hlen]; omega) (ih (j + 1) (by omega)))
theorem spec_DiskAfter_l0 (x0 : List Int) (ws : List S70) (hw : ws.length ≤ 4611686018427387904) (hd : x0.length % 128 = 0) (hl : x0.length ≤ 131072) : ∀ (e i : Nat) (cur : List Int), i + e = ws.length → cur.length = x0.length → Ev (fun k => spec_DiskAfter.l0 k x0 ws cur (i : Int)) (outV (afterV cur (ws.drop i))) := by
  intro e
  induction e with
  | zero =>
    intro i cur h hc
    rw [List.drop_eq_nil_of_le (by omega), afterV_nil]
    exact Ev.step (fun _ => spec_DiskAfter.l0.eq_2 ..) (ev_neg (by omega) (ev_ret rfl))
  | succ e ih =>
    intro i cur h hc
    have hi : i < ws.length := by omega
    rw [List.drop_eq_getElem_cons hi]
    refine Ev.step (fun _ => spec_DiskAfter.l0.eq_2 ..) (ev_pos (by omega) (ev_pos (by omega) ?_))
    rw [rd_W hi]
    generalize ws[i] = w
    refine ev_bind0 (spec_l12Is_eq hl w.f0) ?_
    have e2 : wrap64 ((i : Int) + 1) = ((i + 1 : Nat) : Int) := by rw [w64_id (by omega) (by omega)]; omega
    by_cases hs : 0 ≤ w.f0 ∧ w.f0 < (x0.length : Int) / 128
    · refine ev_pos (decide_eq_true hs) ?_
      by_cases hf : w.f1.length = 128
      · have hb : ((w.f1.length : Int) != 128) = false := bne_eq_false_iff_eq.2 (by omega)
        rw [afterV_ok ⟨hs.1, by omega, hf⟩, hb]
        have hsn : ((w.f0.toNat : Nat) : Int) = w.f0 := Int.toNat_of_nonneg hs.1
        refine Ev.step (fun _ => spec_DiskAfter.j1.eq_2 ..) (ev_neg (by decide) ?_)
        have hlt : (cur.take (w.f0.toNat * 128)).length = w.f0.toNat * 128 := by rw [List.length_take]; omega
        have hrest := ih (i + 1) (cur.take (w.f0.toNat * 128) ++ (w.f1 ++ cur.drop (w.f0.toNat * 128 + 128))) (by omega) ((afterV_room (by omega) hf).trans hc)
        rw [← e2, ← List.drop_drop] at hrest
        have := spec_DiskAfter_l1 x0 ws (i : Int) (A := cur.take (w.f0.toNat * 128)) (T := cur.drop (w.f0.toNat * 128)) (d := w.f1) (s := w.f0.toNat) hlt hf (by rw [List.length_drop]; omega) (by rw [List.length_drop, hlt]; omega) hrest 128 0 rfl
        rw [List.take_zero, List.nil_append, List.drop_zero, List.take_append_drop, hsn, List.drop_drop] at this
        exact this
      · have hb : ((w.f1.length : Int) != 128) = true := bne_iff_ne.2 (by omega)
        rw [afterV_bad (fun h => hf h.2.2), hb]
        exact Ev.step (fun _ => spec_DiskAfter.j1.eq_2 ..) (ev_pos rfl (ev_ret rfl))
    · rw [afterV_bad (fun h => hs ⟨h.1, by have := h.2.1; omega⟩)]
      exact ev_neg (by rw [decide_eq_false hs]; decide) (Ev.step (fun _ => spec_DiskAfter.j1.eq_2 ..) (ev_pos rfl (ev_ret rfl)))
def afterR (D : List Int) (ws : List S70) : List Int × Bool := if D.length % 128 = 0 ∧ D.length ≤ 131072 then outV (afterV D ws) else ([], false)
theorem afterR_len (D : List Int) (ws : List S70) : (afterR D ws).1.length ≤ D.length := by
  unfold afterR
  split
  · cases h : afterV D ws with
    | none => exact Nat.zero_le _
    | some r => exact Nat.le_of_eq (afterV_len ws D r h)
  · exact Nat.zero_le _
theorem spec_DiskAfter_ev (D : List Int) {ws : List S70} (hw : ws.length ≤ 4611686018427387904) (hl : D.length ≤ 1048576) : Ev (fun k => spec_DiskAfter.f k D ws) (afterR D ws) := by
  unfold spec_DiskAfter.f afterR
  refine ev_bind0 (spec_l12Disk_eq D) ?_
  by_cases hd : D.length % 128 = 0 ∧ D.length ≤ 131072
  · rw [if_pos hd]
    refine ev_pos (decide_eq_true hd) (ev_bind0 rfl (ev_pos (by rw [List.length_nil]; omega) ?_))
    exact spec_DiskAfter_l0 D ws hw hd.1 hd.2 ws.length 0 D (Nat.zero_add _) rfl
  · rw [if_neg hd]
    exact ev_neg (by rw [decide_eq_false hd]; decide) (ev_ret rfl)
theorem impl_DiskAfter_l0 (ws : List S70) (hw : ws.length ≤ 4611686018427387904) : ∀ (e i : Nat) (cur : List Int), i + e = ws.length → cur.length % 128 = 0 → cur.length ≤ 131072 → Ev (fun k => impl_DiskAfter.l0 k cur ws (ws.length : Int) (i : Int)) (outV (afterV cur (ws.drop i))) := by
  intro e
  induction e with
  | zero =>
    intro i cur h hc hl
    rw [List.drop_eq_nil_of_le (by omega), afterV_nil]
    exact Ev.step (fun _ => impl_DiskAfter.l0.eq_2 ..) (ev_neg (by omega) (ev_ret rfl))
  | succ e ih =>
    intro i cur h hc hl
    have hi : i < ws.length := by omega
    rw [List.drop_eq_getElem_cons hi]
    refine Ev.step (fun _ => impl_DiskAfter.l0.eq_2 ..) (ev_pos (by omega) (ev_pos (by omega) (ev_pos (by omega) ?_)))
    rw [rd_W hi]
    generalize ws[i] = w
    have e2 : wrap64 ((i : Int) + 1) = ((i + 1 : Nat) : Int) := by rw [w64_id (by omega) (by omega)]; omega
    have e3 : wrap64 ((cur.length : Int) / 128) = (cur.length : Int) / 128 := w64_id (by omega) (by omega)
    rw [e3]
    by_cases h0 : w.f0 < 0
    · rw [afterV_bad (fun h => by omega)]; exact ev_pos h0 (ev_ret rfl)
    · refine ev_neg h0 ?_
      by_cases h1 : w.f0 ≥ (cur.length : Int) / 128
      · rw [afterV_bad (fun h => by omega)]; exact ev_pos h1 (ev_ret rfl)
      · refine ev_neg h1 ?_
        by_cases hf : w.f1.length = 128
        · rw [afterV_ok ⟨by omega, by omega, hf⟩]
          have e4 : wrap64 (w.f0 * 128) = ((w.f0.toNat * 128 : Nat) : Int) := by rw [w64_id (by omega) (by omega)]; omega
          rw [e4, e2]
          have hroom : w.f0.toNat * 128 + 128 ≤ cur.length := by omega
          have hcp : copyC.f cur ((w.f0.toNat * 128 : Nat) : Int) (cur.length : Int) w.f1 = some (cur.take (w.f0.toNat * 128) ++ (w.f1 ++ cur.drop (w.f0.toNat * 128 + 128))) := by
            unfold copyC.f
            rw [if_pos ⟨by omega, by omega, by omega⟩, Int.toNat_natCast, Int.toNat_natCast, List.take_of_length_le (l := w.f1) (by omega), hf, Nat.min_eq_left (by omega), List.append_assoc]
          have hlen := afterV_room hroom hf
          exact ev_pos (by omega) (ev_pos (by omega) (ev_pos (by omega) (ev_bind0 hcp (ih (i + 1) _ (by omega) (by rw [hlen]; exact hc) (by rw [hlen]; exact hl)))))
        · rw [afterV_bad (fun h => hf h.2.2)]
          exact ev_neg (by omega) (ev_ret rfl)
theorem impl_DiskAfter_ev (D : List Int) {ws : List S70} (hw : ws.length ≤ 4611686018427387904) (hl : D.length ≤ 1048576) : Ev (fun k => impl_DiskAfter.f k D ws) (afterR D ws) := by
  unfold impl_DiskAfter.f afterR
  refine ev_bind0 (impl_diskOk_eq D) ?_
  by_cases hd : D.length % 128 = 0 ∧ D.length ≤ 131072
  · rw [if_pos hd]
    refine ev_pos (decide_eq_true hd) (ev_pos (by rw [List.length_nil]; omega) ?_)
    rw [List.nil_append]
    exact impl_DiskAfter_l0 ws hw ws.length 0 D (Nat.zero_add _) hd.1 hd.2
  · rw [if_neg hd]
    exact ev_neg (by rw [decide_eq_false hd]; decide) (ev_ret rfl)
theorem laws_szByteS_eq {xs : List Int} (hl : xs.length ≤ maxLen) {n : Int} (h0 : 0 ≤ n) (h1 : n ≤ 1048576) : laws_szByteS.f xs n = some (if n < xs.length then (-1 : Int) else n - (xs.length : Int)) := by
  have hl2 := wf_le hl
  unfold laws_szByteS.f
  rw [w64_id (x := n - (xs.length : Int)) (by omega) (by omega)]
  by_cases h : n < xs.length
  · rw [if_pos (by omega), if_pos h]
  · rw [if_neg (by omega), if_neg h]
def sumW (ws : List S69) : Nat := (ws.map fun w => w.f1.length).sum
theorem sumW_cons (w : S69) (ws : List S69) : sumW (w :: ws) = w.f1.length + sumW ws := rfl
theorem rd_W9 {xs : List S69} {n : Nat} (h : n < xs.length) : rd_T69 xs (n : Int) = xs[n] := getD_nat _ h
theorem laws_szDiskWriteS_l0 (ws : List S69) (hm : ∀ y ∈ ws, y.f1.length ≤ maxLen) (hw : ws.length ≤ maxLen) : ∀ (e i : Nat) (a : Int), i + e = ws.length → 0 ≤ a → a ≤ 1048576 → Ev (fun k => laws_szDiskWriteS.l0 k ws a (i : Int)) (if a < (sumW (ws.drop i) : Nat) then (-1 : Int) else a - (sumW (ws.drop i) : Nat)) := by
  have hML := wf_le hw
  intro e
  induction e with
  | zero =>
    intro i a h h0 h1
    rw [List.drop_eq_nil_of_le (by omega)]
    have : sumW [] = 0 := rfl
    rw [this, if_neg (by omega)]
    exact Ev.step (fun _ => laws_szDiskWriteS.l0.eq_2 ..) (ev_neg (by omega) (ev_ret (by omega)))
  | succ e ih =>
    intro i a h h0 h1
    have hi : i < ws.length := by omega
    have hmi := hm _ (List.getElem_mem hi)
    have e2 : wrap64 ((i : Int) + 1) = ((i + 1 : Nat) : Int) := by rw [w64_id (by omega) (by omega)]; omega
    rw [List.drop_eq_getElem_cons hi, sumW_cons]
    refine Ev.step (fun _ => laws_szDiskWriteS.l0.eq_2 ..) (ev_pos (by omega) (ev_pos (by omega) ?_))
    rw [rd_W9 hi, e2]
    generalize ws[i] = w at hmi ⊢
    have hsw : laws_szDiskWrite.f w.f0 w.f1 a = some (if a < (w.f1.length : Int) then (-1 : Int) else a - (w.f1.length : Int)) := by
      unfold laws_szDiskWrite.f
      rw [laws_szByteS_eq hmi h0 h1, Option.bind_some]
      by_cases hx : a < (w.f1.length : Int)
      · rw [if_pos hx, if_pos (by decide)]
      · rw [if_neg hx, if_neg (by omega)]
    refine ev_bind0 hsw ?_
    by_cases hx : a < (w.f1.length : Int)
    · rw [if_pos (show a < ((w.f1.length + sumW (ws.drop (i + 1)) : Nat) : Int) by omega)]
      simp only [if_pos hx]
      exact ev_pos (by decide) (ev_ret rfl)
    · simp only [if_neg hx]
      refine ev_neg (by omega) ?_
      refine ev_eq ?_ (ih (i + 1) (a - (w.f1.length : Int)) (by omega) (by omega) (by omega))
      by_cases hy : a - (w.f1.length : Int) < (sumW (ws.drop (i + 1)) : Nat)
      · rw [if_pos hy, if_pos (by omega)]
      · rw [if_neg hy, if_neg (by omega)]; omega
theorem laws_szDiskWriteS_ev (ws : List S69) (hm : ∀ y ∈ ws, y.f1.length ≤ maxLen) (hw : ws.length ≤ maxLen) : ∃ t, Ev (fun k => laws_szDiskWriteS.f k ws 1048576) t ∧ (t < 0 ∨ 0 ≤ t ∧ ws.length + sumW ws ≤ 1048576) := by
  have hML := wf_le hw
  have ew : wrap64 (1048576 - (ws.length : Int)) = 1048576 - (ws.length : Int) := w64_id (by omega) (by omega)
  unfold laws_szDiskWriteS.f
  rw [ew]
  by_cases h : 1048576 - (ws.length : Int) < 0
  · exact ⟨-1, ev_pos h (ev_ret rfl), .inl (by decide)⟩
  · have := laws_szDiskWriteS_l0 ws hm hw ws.length 0 (1048576 - (ws.length : Int)) (Nat.zero_add _) (by omega) (by omega)
    rw [List.drop_zero] at this
    refine ⟨_, ev_neg h this, ?_⟩
    by_cases hy : 1048576 - (ws.length : Int) < (sumW ws : Nat)
    · rw [if_pos hy]; exact .inl (by decide)
    · rw [if_neg hy]; exact .inr ⟨by omega, by omega⟩
theorem sumW_mem : ∀ (ws : List S69) (y : S69), y ∈ ws → y.f1.length ≤ sumW ws := by
  intro ws
  induction ws with
  | nil => intro y hy; cases hy
  | cons w ws ih =>
    intro y hy
    rw [sumW_cons]
    rcases List.mem_cons.1 hy with e | e
    · subst e; omega
    · have := ih y e; omega
def cvW (w : S69) : S70 := ⟨w.f0, w.f1⟩
theorem rd_W8 {xs : List S69} {n : Nat} (h : n < xs.length) : rd_T69 xs (n : Int) = xs[n] := getD_nat _ h
theorem laws_toDiskWriteS_l0 (ws : List S69) (hm : ∀ y ∈ ws, y.f1.length ≤ 1048576) (hw : ws.length ≤ 1048576) : ∀ (e i : Nat) (xs : List S70), i + e = ws.length → xs.length = ws.length → (∀ j, j < i → xs[j]? = (ws.map cvW)[j]?) → Ev (fun k => laws_toDiskWriteS.l0 k ws xs (i : Int)) (ws.map cvW) := by
  intro e
  induction e with
  | zero =>
    intro i xs h hx he
    refine Ev.step (fun _ => laws_toDiskWriteS.l0.eq_2 ..) (ev_neg (by omega) (ev_ret ?_))
    apply List.ext_getElem?
    intro j
    by_cases hj : j < ws.length
    · exact he j (by omega)
    · rw [List.getElem?_eq_none (show xs.length ≤ j by omega), List.getElem?_eq_none (by rw [List.length_map]; omega)]
  | succ e ih =>
    intro i xs h hx he
    have hi : i < ws.length := by omega
    have hmi := hm _ (List.getElem_mem hi)
    have e2 : wrap64 ((i : Int) + 1) = ((i + 1 : Nat) : Int) := by rw [w64_id (by omega) (by omega)]; omega
    refine Ev.step (fun _ => laws_toDiskWriteS.l0.eq_2 ..) (ev_pos (by omega) (ev_pos (by omega) ?_))
    rw [rd_W8 hi, e2, Int.toNat_natCast]
    have hto : Ev (fun k => laws_toDiskWrite.f k ws[i].f0 ws[i].f1) (ws[i].f0, ws[i].f1) := by
      unfold laws_toDiskWrite.f
      exact Ev.bind (laws_toByteS_ev (by omega)) (ev_ret rfl)
    refine Ev.bind hto (ev_pos (by omega) (ih (i + 1) _ (by omega) (by rw [List.length_set]; exact hx) ?_))
    intro j hj
    by_cases hji : j = i
    · subst hji
      rw [List.getElem?_set_self (by omega), List.getElem?_map, List.getElem?_eq_getElem hi]; rfl
    · rw [List.getElem?_set_ne (by omega)]
      exact he j (by omega)
theorem laws_toDiskWriteS_ev (ws : List S69) (hm : ∀ y ∈ ws, y.f1.length ≤ 1048576) (hw : ws.length ≤ 1048576) : Ev (fun k => laws_toDiskWriteS.f k ws) (ws.map cvW) := by
  unfold laws_toDiskWriteS.f
  refine ev_pos (by omega) (ev_pos (by rw [Int.toNat_natCast]; omega) ?_)
  rw [Int.toNat_natCast]
  exact laws_toDiskWriteS_l0 ws hm hw ws.length 0 _ (Nat.zero_add _) List.length_replicate (fun j hj => by omega)
theorem rd_W7 {xs : List S70} {n : Nat} (h : n < xs.length) : rd_T70 xs (n : Int) = xs[n] := getD_nat _ h
theorem laws_eqDiskWriteS_l0 (xs : List S70) (hm : ∀ y ∈ xs, y.f1.length ≤ 1048576) (hw : xs.length ≤ 1048576) : ∀ (e i : Nat), i + e = xs.length → Ev (fun k => laws_eqDiskWriteS.l0 k xs xs (i : Int)) true := by
  intro e
  induction e with
  | zero => intro i h; exact Ev.step (fun _ => laws_eqDiskWriteS.l0.eq_2 ..) (ev_neg (by omega) (ev_ret rfl))
  | succ e ih =>
    intro i h
    have hi : i < xs.length := by omega
    have hmi := hm _ (List.getElem_mem hi)
    have e2 : wrap64 ((i : Int) + 1) = ((i + 1 : Nat) : Int) := by rw [w64_id (by omega) (by omega)]; omega
    refine Ev.step (fun _ => laws_eqDiskWriteS.l0.eq_2 ..) (ev_pos (by omega) (ev_pos (by omega) (ev_pos (by omega) ?_)))
    rw [rd_W7 hi, e2]
    have heq : Ev (fun k => laws_eqDiskWrite.f k xs[i].f0 xs[i].f1 xs[i].f0 xs[i].f1) true := by
      unfold laws_eqDiskWrite.f
      exact ev_pos rfl (Ev.bind (laws_eqByteS_ev (by omega)) (ev_pos rfl (ev_ret rfl)))
    exact Ev.bind heq (ev_pos rfl (ih (i + 1) (by omega)))
theorem laws_eqDiskWriteS_ev (xs : List S70) (hm : ∀ y ∈ xs, y.f1.length ≤ 1048576) (hw : xs.length ≤ 1048576) : Ev (fun k => laws_eqDiskWriteS.f k xs xs) true := by
  unfold laws_eqDiskWriteS.f
  exact ev_pos rfl (laws_eqDiskWriteS_l0 xs hm hw xs.length 0 (Nat.zero_add _))
theorem laws_markDiskWriteS_l0 : ∀ (ds : List S70) (xs : List S70) (i : Nat) (k0 B : Int), xs.drop i = ds → i + ds.length = xs.length → xs.length ≤ 1048576 → (∀ y ∈ ds, y.f1.length ≤ 1048576) → 0 ≤ k0 → k0 + 2097152 * ds.length ≤ B → B ≤ 4611686018427387904 → ∃ r L, Ev (fun k => laws_markDiskWriteS.l0 k xs k0 (i : Int)) (r, L) ∧ 0 ≤ r := by
  intro ds
  induction ds with
  | nil =>
    intro xs i k0 B h hl hX hm h0 hB hB2
    rw [List.length_nil] at hl
    exact ⟨k0, xs, Ev.step (fun _ => laws_markDiskWriteS.l0.eq_2 ..) (ev_neg (by omega) (ev_ret rfl)), h0⟩
  | cons d ds ih =>
    intro xs i k0 B h hl hX hm h0 hB hB2
    rw [List.length_cons] at hl hB
    have hi : i < xs.length := by omega
    rw [List.drop_eq_getElem_cons hi] at h
    obtain ⟨hd, ht⟩ := List.cons.inj h
    have hmd := hm d (List.mem_cons_self ..)
    have e1 : wrap64 (k0 + 1) = k0 + 1 := w64_id (by omega) (by omega)
    have e2 : wrap64 ((i : Int) + 1) = ((i + 1 : Nat) : Int) := by rw [w64_id (by omega) (by omega)]; omega
    have hmk := laws_markByteS_ev d.f1 (k0 := k0 + 1) (by omega) (by omega)
    obtain ⟨r, L, hr, h0r⟩ := ih (xs.set i ⟨k0, markL (k0 + 1) d.f1.length⟩) (i + 1) (k0 + 1 + d.f1.length) B (by rw [List.drop_set_of_lt (by omega)]; exact ht) (by rw [List.length_set]; omega) (by rw [List.length_set]; exact hX) (fun y hy => hm y (List.mem_cons_of_mem _ hy)) (by omega) (by omega) hB2
    refine ⟨r, L, Ev.step (fun _ => laws_markDiskWriteS.l0.eq_2 ..) (ev_pos (by omega) (ev_pos (by omega) ?_)), h0r⟩
    rw [show rd_T70 xs (i : Int) = d from (getD_nat _ hi).trans hd, e1, e2, Int.toNat_natCast]
    exact Ev.bind hmk hr
theorem laws_markDiskWriteS_ev (xs : List S70) (hm : ∀ y ∈ xs, y.f1.length ≤ 1048576) (hw : xs.length ≤ 1048576) {k0 : Int} (h0 : 0 ≤ k0) (h1 : k0 ≤ 1099511627776) : ∃ r L, Ev (fun k => laws_markDiskWriteS.f k xs k0) (r, L) ∧ 0 ≤ r :=
  laws_markDiskWriteS_l0 xs xs 0 k0 4611686018427387904 rfl (Nat.zero_add _) hw hm h0 (by omega) (by decide)
theorem afterR_true {D : List Int} {ws : List S70} (h : (afterR D ws).2 = true) : D.length % 128 = 0 ∧ D.length ≤ 131072 ∧ ∃ r, afterV D ws = some r := by
  unfold afterR at h
  by_cases hd : D.length % 128 = 0 ∧ D.length ≤ 131072
  · rw [if_pos hd] at h
    cases hr : afterV D ws with
    | none => rw [hr] at h; cases h
    | some r => exact ⟨hd.1, hd.2, r, rfl⟩
  · rw [if_neg hd] at h; cases h
theorem afterV_part : ∀ (ws : List S70) (D r : List Int) (n : Nat), afterV D ws = some r → n ≤ ws.length → ∃ A, afterV D (ws.take n) = some A ∧ A.length = D.length ∧ ∀ h : n < ws.length, 0 ≤ ws[n].f0 ∧ ws[n].f0 < (D.length : Int) / 128 ∧ ws[n].f1.length = 128 := by
  intro ws
  induction ws with
  | nil => intro D r n h hn; exact ⟨D, by rw [List.take_nil, afterV_nil], rfl, fun h => absurd h (Nat.not_lt_zero _)⟩
  | cons w ws ih =>
    intro D r n h hn
    by_cases hv : 0 ≤ w.f0 ∧ w.f0 < (D.length : Int) / 128 ∧ w.f1.length = 128
    · cases n with
      | zero => exact ⟨D, by rw [List.take_zero, afterV_nil], rfl, fun _ => hv⟩
      | succ n =>
        rw [afterV_ok hv] at h
        have hlen := afterV_room (cur := D) (d := w.f1) (s := w.f0.toNat) (by omega) hv.2.2
        obtain ⟨A, hA, hl, hx⟩ := ih _ r n h (by rw [List.length_cons] at hn; omega)
        refine ⟨A, ?_, hl.trans hlen, fun hlt => ?_⟩
        · rw [List.take_succ_cons, afterV_ok hv]; exact hA
        · have := hx (by rw [List.length_cons] at hlt; omega)
          rw [hlen] at this
          exact this
    · rw [afterV_bad hv] at h; cases h
def tornV (A : List Int) (ws : List S70) (n t : Nat) : List Int := if h : n < ws.length then A.take (ws[n].f0.toNat * 128) ++ (ws[n].f1.take t ++ A.drop (ws[n].f0.toNat * 128 + t)) else A
def crashR (D : List Int) (ws : List S70) (a2 a3 : Int) : List Int × Bool := if (afterR D ws).2 = true ∧ 0 ≤ a2 ∧ a2 ≤ (ws.length : Int) ∧ 0 ≤ a3 ∧ a3 ≤ 128 then (tornV (afterR D (ws.take a2.toNat)).1 ws a2.toNat a3.toNat, true) else ([], false)
theorem crashR_len (D : List Int) (ws : List S70) (a2 a3 : Int) : (crashR D ws a2 a3).1.length ≤ D.length := by
  unfold crashR
  by_cases h : (afterR D ws).2 = true ∧ 0 ≤ a2 ∧ a2 ≤ (ws.length : Int) ∧ 0 ≤ a3 ∧ a3 ≤ 128
  · rw [if_pos h]
    obtain ⟨hd1, hd2, r, hr⟩ := afterR_true h.1
    obtain ⟨A, hA, hl, hx⟩ := afterV_part ws D r a2.toNat hr (by omega)
    have hAA : (afterR D (ws.take a2.toNat)).1 = A := by unfold afterR; rw [if_pos ⟨hd1, hd2⟩, hA]; rfl
    simp only [hAA]
    unfold tornV
    by_cases hn : a2.toNat < ws.length
    · rw [dif_pos hn]
      have := hx hn
      simp only [List.length_append, List.length_take, List.length_drop]; omega
    · rw [dif_neg hn]; omega
  · rw [if_neg h]; exact Nat.zero_le _
theorem spec_Crash_l0 {A T d : List Int} {s t : Nat} (hA : A.length = s * 128) (hd : t ≤ d.length) (hT : t ≤ T.length) (ht : t ≤ 128) (hn : A.length + T.length ≤ 131072) : ∀ (e j : Nat), j + e = t → Ev (fun k => spec_Crash.l0 k (t : Int) (A ++ (d.take j ++ T.drop j)) (j : Int) (s : Int) d) (A ++ (d.take t ++ T.drop t), true) := by
  intro e
  induction e with
  | zero =>
    intro j h
    have : j = t := by omega
    subst this
    exact Ev.step (fun _ => spec_Crash.l0.eq_2 ..) (ev_neg (by omega) (ev_ret rfl))
  | succ e ih =>
    intro j h
    have e1 : wrap64 (wrap64 ((s : Int) * 128) + (j : Int)) = ((A.length + j : Nat) : Int) := by
      rw [w64_id (x := (s : Int) * 128) (by omega) (by omega), w64_id (by omega) (by omega)]; omega
    have e2 : wrap64 ((j : Int) + 1) = ((j + 1 : Nat) : Int) := by rw [w64_id (by omega) (by omega)]; omega
    have hlen : (A ++ (d.take j ++ T.drop j)).length = A.length + T.length := by
      rw [List.length_append, List.length_append, List.length_take, List.length_drop]; omega
    refine Ev.step (fun _ => spec_Crash.l0.eq_2 ..) (ev_pos (by omega) (ev_pos (by omega) (ev_pos (by omega) ?_)))
    rw [e1, e2, rd_nat (show j < d.length by omega), Int.toNat_natCast, set_step (by omega) (by omega)]
    exact ev_pos (by omega) (ev_pos (by rw [hlen]; omega) (ih (j + 1) (by omega)))
theorem spec_Crash_ev (D : List Int) {ws : List S70} (hw : ws.length ≤ 4611686018427387904) (hl : D.length ≤ 1048576) (a2 a3 : Int) : Ev (fun k => spec_Crash.f k D ws a2 a3) (crashR D ws a2 a3) := by
  unfold spec_Crash.f
  have bad : Ev (fun k => spec_Crash.j0 k D ws a2 a3 true) (([], false) : List Int × Bool) := Ev.step (fun _ => spec_Crash.j0.eq_2 ..) (ev_pos rfl (ev_ret rfl))
  refine Ev.bind (spec_DiskAfter_ev D hw hl) ?_
  by_cases h : (afterR D ws).2 = true ∧ 0 ≤ a2 ∧ a2 ≤ (ws.length : Int) ∧ 0 ≤ a3 ∧ a3 ≤ 128
  · have hcr : crashR D ws a2 a3 = (tornV (afterR D (ws.take a2.toNat)).1 ws a2.toNat a3.toNat, true) := by unfold crashR; rw [if_pos h]
    rw [hcr]
    obtain ⟨hR, h20, h2n, h30, h31⟩ := h
    refine ev_pos hR (ev_neg (by omega) (ev_neg (by omega) (ev_neg (by omega) ?_)))
    rw [decide_eq_false (by omega)]
    obtain ⟨hd1, hd2, r, hr⟩ := afterR_true hR
    obtain ⟨A, hA, hAl, hx⟩ := afterV_part ws D r a2.toNat hr (by omega)
    have hRA : afterR D (ws.take a2.toNat) = (A, true) := by unfold afterR; rw [if_pos ⟨hd1, hd2⟩, hA]; rfl
    have hsp := spec_DiskAfter_ev D (ws := ws.take a2.toNat) (by rw [List.length_take]; omega) hl
    rw [hRA] at hsp ⊢
    refine Ev.step (fun _ => spec_Crash.j0.eq_2 ..) (ev_neg (by decide) (ev_pos h20 (ev_pos h2n (Ev.bind hsp ?_))))
    unfold tornV
    by_cases hn : a2.toNat < ws.length
    · rw [dif_pos hn]
      refine ev_pos (by omega) ?_
      have hv := hx hn
      have hrd : rd_T70 ws a2 = ws[a2.toNat] := by
        have := rd_W hn
        rw [Int.toNat_of_nonneg h20] at this
        exact this
      rw [hrd]
      generalize ws[a2.toNat] = w at hv ⊢
      have hsn : ((w.f0.toNat : Nat) : Int) = w.f0 := Int.toNat_of_nonneg hv.1
      have htn : ((a3.toNat : Nat) : Int) = a3 := Int.toNat_of_nonneg h30
      have hlt : (A.take (w.f0.toNat * 128)).length = w.f0.toNat * 128 := by rw [List.length_take]; omega
      have := spec_Crash_l0 (A := A.take (w.f0.toNat * 128)) (T := A.drop (w.f0.toNat * 128)) (d := w.f1) (s := w.f0.toNat) (t := a3.toNat) hlt (by omega) (by rw [List.length_drop]; omega) (by omega) (by rw [List.length_drop, hlt]; omega) a3.toNat 0 (Nat.zero_add _)
      rw [List.take_zero, List.nil_append, List.drop_zero, List.take_append_drop, hsn, htn, List.drop_drop] at this
      exact this
    · rw [dif_neg hn]
      exact ev_neg (by omega) (ev_ret rfl)
  · have hcr : crashR D ws a2 a3 = ([], false) := by unfold crashR; rw [if_neg h]
    rw [hcr]
    refine ev_split (fun hR => ev_split (fun _ => bad) (fun h2 => ev_split (fun _ => bad) (fun h2n => ev_split (fun _ => bad) (fun h3 => ?_)))) (fun _ => bad)
    rw [decide_eq_true (show a3 > 128 from by
      apply Decidable.byContradiction
      intro hh
      exact h ⟨hR, by omega, by omega, by omega, by omega⟩)]
    exact bad
theorem impl_Crash_ev (D : List Int) {ws : List S70} (hw : ws.length ≤ 4611686018427387904) (hl : D.length ≤ 1048576) (a2 a3 : Int) : Ev (fun k => impl_Crash.f k D ws a2 a3) (crashR D ws a2 a3) := by
  unfold impl_Crash.f
  have bad : Ev (fun k => impl_Crash.j0 k D ws a2 a3 true) (([], false) : List Int × Bool) := Ev.step (fun _ => impl_Crash.j0.eq_2 ..) (ev_pos rfl (ev_ret rfl))
  refine Ev.bind (impl_DiskAfter_ev D hw hl) ?_
  by_cases h : (afterR D ws).2 = true ∧ 0 ≤ a2 ∧ a2 ≤ (ws.length : Int) ∧ 0 ≤ a3 ∧ a3 ≤ 128
  · have hcr : crashR D ws a2 a3 = (tornV (afterR D (ws.take a2.toNat)).1 ws a2.toNat a3.toNat, true) := by unfold crashR; rw [if_pos h]
    rw [hcr]
    obtain ⟨hR, h20, h2n, h30, h31⟩ := h
    refine ev_pos hR (ev_neg (by omega) (ev_neg (by omega) (ev_neg (by omega) ?_)))
    rw [decide_eq_false (by omega)]
    obtain ⟨hd1, hd2, r, hr⟩ := afterR_true hR
    obtain ⟨A, hA, hAl, hx⟩ := afterV_part ws D r a2.toNat hr (by omega)
    have hRA : afterR D (ws.take a2.toNat) = (A, true) := by unfold afterR; rw [if_pos ⟨hd1, hd2⟩, hA]; rfl
    have hsp := impl_DiskAfter_ev D (ws := ws.take a2.toNat) (by rw [List.length_take]; omega) hl
    rw [hRA] at hsp ⊢
    refine Ev.step (fun _ => impl_Crash.j0.eq_2 ..) (ev_neg (by decide) (ev_pos h20 (ev_pos h2n (Ev.bind hsp ?_))))
    unfold tornV
    by_cases hn : a2.toNat < ws.length
    · rw [dif_pos hn]
      refine ev_pos (by omega) ?_
      have hv := hx hn
      have hrd : rd_T70 ws a2 = ws[a2.toNat] := by
        have := rd_W hn
        rw [Int.toNat_of_nonneg h20] at this
        exact this
      rw [hrd]
      generalize ws[a2.toNat] = w at hv ⊢
      have e4 : wrap64 (w.f0 * 128) = ((w.f0.toNat * 128 : Nat) : Int) := by rw [w64_id (by omega) (by omega)]; omega
      rw [e4]
      have hcp : copyC.f A ((w.f0.toNat * 128 : Nat) : Int) (A.length : Int) (w.f1.take a3.toNat) = some (A.take (w.f0.toNat * 128) ++ (w.f1.take a3.toNat ++ A.drop (w.f0.toNat * 128 + a3.toNat))) := by
        unfold copyC.f
        have hlt : (w.f1.take a3.toNat).length = a3.toNat := by rw [List.length_take]; omega
        rw [if_pos ⟨by omega, by omega, by omega⟩, Int.toNat_natCast, Int.toNat_natCast, List.take_of_length_le (l := w.f1.take a3.toNat) (by omega), hlt, Nat.min_eq_left (by omega), List.append_assoc]
      exact ev_pos (by omega) (ev_pos (by simp only; omega) (ev_pos (by omega) (ev_pos (by omega) (ev_bind0 hcp (ev_ret rfl)))))
    · rw [dif_neg hn]
      exact ev_neg (by omega) (ev_ret rfl)
  · have hcr : crashR D ws a2 a3 = ([], false) := by unfold crashR; rw [if_neg h]
    rw [hcr]
    refine ev_split (fun hR => ev_split (fun _ => bad) (fun h2 => ev_split (fun _ => bad) (fun h2n => ev_split (fun _ => bad) (fun h3 => ?_)))) (fun _ => bad)
    rw [decide_eq_true (show a3 > 128 from by
      apply Decidable.byContradiction
      intro hh
      exact h ⟨hR, by omega, by omega, by omega, by omega⟩)]
    exact bad
theorem FnExactCrash : laws_FnExactCrash.Pure := by
  intro l0 l1 a2 a3 hm hsz hwf hw1 hwa2 hwa3
  refine Ev.rounds ?_
  unfold laws_FnExactCrash.f
  by_cases h1 : (l0.length : Int) > 1048576
  · exact ev_pos h1 (ev_ret rfl)
  refine ev_neg h1 ?_
  have hl : l0.length ≤ 1048576 := by omega
  have tob := laws_toByteS_ev (xs := l0) (by omega)
  obtain ⟨t, hsz1, ht⟩ := laws_szDiskWriteS_ev l1 (fun y hy => (hw1.2 y hy).2.1) hw1.1
  refine Ev.bind hsz1 ?_
  rcases ht with ht | ⟨h0t, hsum⟩
  · exact ev_pos ht (ev_ret rfl)
  refine ev_neg (by omega) ?_
  have hm1 : ∀ y ∈ l1, y.f1.length ≤ 1048576 := fun y hy => by have := sumW_mem l1 y hy; omega
  have tow := laws_toDiskWriteS_ev l1 hm1 (by omega)
  have hm2 : ∀ y ∈ l1.map cvW, y.f1.length ≤ 1048576 := by
    intro y hy
    obtain ⟨z, hz, rfl⟩ := List.mem_map.1 hy
    exact hm1 z hz
  have hlw : (l1.map cvW).length ≤ 1048576 := by rw [List.length_map]; omega
  generalize l1.map cvW = ws at *
  have sp := spec_Crash_ev l0 (ws := ws) (by omega) hl a2 a3
  have im := impl_Crash_ev l0 (ws := ws) (by omega) hl a2 a3
  have hrl := Nat.le_trans (crashR_len l0 ws a2 a3) hl
  generalize crashR l0 ws a2 a3 = R at *
  obtain ⟨r, b⟩ := R
  simp only at hrl
  have eqr := laws_eqByteS_ev (xs := r) (by omega)
  have eqb := laws_eqByteS_ev (xs := l0) (by omega)
  have eqw := laws_eqDiskWriteS_ev ws hm2 hlw
  have mkb := laws_markByteS_ev l0 (k0 := 1) (by omega) (by omega)
  obtain ⟨kr, L, mkw, hkr⟩ := laws_markDiskWriteS_ev ws hm2 hlw (k0 := 1 + (l0.length : Int)) (by omega) (by omega)
  have mkr := laws_markByteS_ev r (k0 := 1) (by omega) (by omega)
  have hdr := laws_heldByteS_ev r.length (k0 := 1) (by omega) (by omega)
  have hc : (b != b) = false := by cases b <;> rfl
  refine Ev.bind tob (Ev.bind tow (Ev.bind sp (Ev.bind tob (Ev.bind tow (Ev.bind im (Ev.bind eqr (ev_pos rfl ?_)))))))
  simp only [hc]
  refine Ev.step (fun _ => laws_FnExactCrash.j0.eq_2 ..) (ev_neg (by decide) (Ev.bind tob (Ev.bind eqb (ev_pos rfl (Ev.bind tow (Ev.bind eqw (ev_pos rfl (Ev.bind mkb (Ev.bind mkw (ev_neg (by simp only; omega) (Ev.bind eqr (ev_pos rfl ?_))))))))))))
  simp only [hc]
  refine Ev.step (fun _ => laws_FnExactCrash.j1.eq_2 ..) (ev_neg (by decide) (Ev.bind mkr (Ev.bind hdr (ev_neg (by omega) (ev_pos rfl (Ev.bind tob (Ev.bind tow (Ev.bind im (Ev.bind eqr (ev_pos rfl ?_))))))))))
  simp only [hc]
  exact Ev.step (fun _ => laws_FnExactCrash.j2.eq_2 ..) (ev_neg (by decide) (Ev.bind hdr (ev_neg (by omega) (ev_pos rfl (ev_ret rfl)))))
end Go.Proofs.Ytflmbjoipmglbaa.Pure
