/- For every input that the row lets in, FnExactPoolOk answers true; this text proves the plain law that is left when the machine's side is done. -/
import Derived.Test.YtmjdmaomakkhgaaPFnExactPoolOkx5
import Derived.Test.YtmjdmaomakkhgaaBase
set_option linter.unusedVariables false
set_option linter.unusedSimpArgs false
namespace Go.Proofs.Ytmjdmaomakkhgaa.Pure
open Go.RowKit Go.Proofs.Ytmjdmaomakkhgaa.PFnExactPoolOk Go.Proofs.YtmjdmaomakkhgaaW.PrintWords Go.Proofs.YtmjdmaomakkhgaaW.PrintLast Go.Proofs.YtmjdmaomakkhgaaW.PrintMore Go.Proofs.Ytmjdmaomakkhgaa.Base

theorem laws_toByteS_l0 (xs : List Int) (hl : xs.length ≤ 4611686018427387904) : ∀ (d i : Nat) (ys : List Int), i + d = xs.length → ys.length = xs.length → (∀ j, j < i → ys[j]? = xs[j]?) → Ev (fun k => laws_toByteS.l0 k xs ys (i : Int)) xs := by
  intro d
  induction d with
  | zero =>
    intro i ys h hy he
    refine Ev.step (fun _ => laws_toByteS.l0.eq_2 ..) ?_
    refine ev_neg (by omega) (ev_ret ?_)
    apply List.ext_getElem?
    intro j
    by_cases hj : j < i
    · exact he j hj
    · rw [List.getElem?_eq_none (by omega), List.getElem?_eq_none (by omega)]
  | succ d ih =>
    intro i ys h hy he
    refine Ev.step (fun _ => laws_toByteS.l0.eq_2 ..) ?_
    refine ev_pos (by omega) (ev_pos (by omega) (ev_pos (by omega) ?_))
    have e : wrap64 ((i : Int) + 1) = ((i + 1 : Nat) : Int) := by rw [w64_id (by omega) (by omega)]; omega
    rw [e, rd_nat (by omega), Int.toNat_natCast]
    refine ih (i + 1) _ (by omega) (by rw [List.length_set]; exact hy) ?_
    intro j hj
    by_cases hji : j = i
    · subst hji
      rw [List.getElem?_set_self (by omega), List.getElem?_eq_getElem (by omega)]
    · rw [List.getElem?_set_ne (by omega)]
      exact he j (by omega)
theorem laws_toByteS_ev {xs : List Int} (hl : xs.length ≤ 281474976710656) : Ev (fun k => laws_toByteS.f k xs) xs := by
  unfold laws_toByteS.f
  refine ev_pos (by omega) (ev_pos (by omega) ?_)
  exact laws_toByteS_l0 xs (by omega) xs.length 0 _ (by omega) (by simp) (fun j hj => by omega)
theorem laws_eqByteS_l0 (xs : List Int) (hl : xs.length ≤ 4611686018427387904) : ∀ (d i : Nat), i + d = xs.length → Ev (fun k => laws_eqByteS.l0 k xs xs (i : Int)) true := by
  intro d
  induction d with
  | zero =>
    intro i h
    refine Ev.step (fun _ => laws_eqByteS.l0.eq_2 ..) ?_
    exact ev_neg (by omega) (ev_ret rfl)
  | succ d ih =>
    intro i h
    refine Ev.step (fun _ => laws_eqByteS.l0.eq_2 ..) ?_
    refine ev_pos (by omega) (ev_pos (by omega) (ev_pos (by omega) (ev_pos rfl ?_)))
    have e : wrap64 ((i : Int) + 1) = ((i + 1 : Nat) : Int) := by rw [w64_id (by omega) (by omega)]; omega
    rw [e]
    exact ih (i + 1) (by omega)
theorem laws_eqByteS_ev {xs : List Int} (hl : xs.length ≤ 281474976710656) : Ev (fun k => laws_eqByteS.f k xs xs) true := by
  unfold laws_eqByteS.f
  exact ev_pos rfl (laws_eqByteS_l0 xs (by omega) xs.length 0 (by omega))
def cBlock (x : S129) : S73 := ⟨x.f0, x.f1⟩
theorem laws_toBlockS_l0 (xs : List S129) (hl : xs.length ≤ 4611686018427387904) : ∀ (d i : Nat) (ys : List S73), i + d = xs.length → ys.length = xs.length → (∀ j, j < i → ys[j]? = (xs.map cBlock)[j]?) → Ev (fun k => laws_toBlockS.l0 k xs ys (i : Int)) (xs.map cBlock) := by
  intro d
  induction d with
  | zero =>
    intro i ys h hy he
    refine Ev.step (fun _ => laws_toBlockS.l0.eq_2 ..) (ev_neg (by omega) (ev_ret ?_))
    apply List.ext_getElem?
    intro j
    by_cases hj : j < i
    · exact he j hj
    · rw [List.getElem?_eq_none (by omega), List.getElem?_eq_none (by rw [List.length_map]; omega)]
  | succ d ih =>
    intro i ys h hy he
    have hi : i < xs.length := by omega
    have er : rd_T129 xs (i : Int) = xs[i] := getD_nat _ hi
    refine Ev.step (fun _ => laws_toBlockS.l0.eq_2 ..) (ev_pos (by omega) (ev_pos (by omega) (ev_bind0 rfl (ev_pos (by omega) ?_))))
    rw [w64_succ hi hl, er, Int.toNat_natCast]
    refine ih (i + 1) _ (by omega) (by rw [List.length_set]; exact hy) ?_
    intro j hj
    by_cases hji : j = i
    · subst hji
      rw [List.getElem?_set_self (by omega), List.getElem?_map, List.getElem?_eq_getElem hi]; rfl
    · rw [List.getElem?_set_ne (by omega)]
      exact he j (by omega)
theorem laws_toBlockS_ev {xs : List S129} (hl : xs.length ≤ 1099511627776) : Ev (fun k => laws_toBlockS.f k xs) (xs.map cBlock) := by
  unfold laws_toBlockS.f
  refine ev_pos (by omega) (ev_pos (by omega) ?_)
  exact laws_toBlockS_l0 xs (by omega) xs.length 0 _ (by omega) (by simp) (fun j hj => by omega)
theorem laws_eqBlock_self (a0 a1 : Int) : laws_eqBlock.f a0 a1 a0 a1 = some true := by
  unfold laws_eqBlock.f
  simp
theorem laws_eqBlockS_l0 (xs : List S73) (hl : xs.length ≤ 4611686018427387904) : ∀ (d i : Nat), i + d = xs.length → Ev (fun k => laws_eqBlockS.l0 k xs xs (i : Int)) true := by
  intro d
  induction d with
  | zero =>
    intro i h
    exact Ev.step (fun _ => laws_eqBlockS.l0.eq_2 ..) (ev_neg (by omega) (ev_ret rfl))
  | succ d ih =>
    intro i h
    refine Ev.step (fun _ => laws_eqBlockS.l0.eq_2 ..) (ev_pos (by omega) (ev_pos (by omega) (ev_pos (by omega) (ev_bind0 (laws_eqBlock_self ..) (ev_pos rfl ?_)))))
    rw [w64_succ (n := xs.length) (by omega) hl]
    exact ih (i + 1) (by omega)
theorem laws_eqBlockS_ev {xs : List S73} (hl : xs.length ≤ 1099511627776) : Ev (fun k => laws_eqBlockS.f k xs xs) true := by
  unfold laws_eqBlockS.f
  exact ev_pos rfl (laws_eqBlockS_l0 xs (by omega) xs.length 0 (by omega))
theorem laws_szBlockS_eq {xs : List S129} (hl : xs.length ≤ maxLen) {n : Int} (h0 : 0 ≤ n) (h1 : n ≤ 1048576) : laws_szBlockS.f xs n = some (if n < xs.length then -1 else n - xs.length) := by
  have hl2 := wf_le hl
  unfold laws_szBlockS.f
  rw [w64_id (x := n - (xs.length : Int)) (by omega) (by omega)]
  by_cases h : n < xs.length
  · rw [if_pos (by omega), if_pos h]
  · rw [if_neg (by omega), if_neg h]
theorem laws_toFrames_ev (n : Int) {xs : List S129} (hl : xs.length ≤ 1099511627776) : Ev (fun k => laws_toFrames.f k n xs) (n, xs.map cBlock) := by
  unfold laws_toFrames.f
  exact Ev.bind (laws_toBlockS_ev hl) (ev_ret rfl)
theorem laws_eqFrames_ev (n : Int) {xs : List S73} (hl : xs.length ≤ 1099511627776) : Ev (fun k => laws_eqFrames.f k n xs n xs) true := by
  unfold laws_eqFrames.f
  exact ev_pos rfl (Ev.bind (laws_eqBlockS_ev hl) (ev_pos rfl (ev_ret rfl)))
theorem laws_szFrames_eq (n : Int) {xs : List S129} (hl : xs.length ≤ maxLen) {m : Int} (h0 : 0 ≤ m) (h1 : m ≤ 1048576) : laws_szFrames.f n xs m = some (if m < xs.length then (-1 : Int) else m - (xs.length : Int)) := by
  unfold laws_szFrames.f
  rw [laws_szBlockS_eq hl h0 h1, Option.bind_some]
  by_cases h : m < xs.length
  · rw [if_pos h]; rfl
  · rw [if_neg h, if_neg (by omega)]
def p2 (o : Int) : Int := ((2 ^ o.toNat : Nat) : Int)
theorem p2_bd {o : Int} (h0 : 0 ≤ o) (h1 : o ≤ 11) : 1 ≤ p2 o ∧ p2 o ≤ 2048 := by
  unfold p2
  have h2 : o.toNat ≤ 11 := by omega
  have := Nat.pow_le_pow_right (n := 2) (by decide) h2
  have h3 := Nat.two_pow_pos o.toNat
  have h4 : (2 : Nat) ^ 11 = 2048 := by decide
  omega
theorem p2_succ {o : Int} (h0 : 0 ≤ o) : p2 (o + 1) = 2 * p2 o := by
  unfold p2
  rw [show (o + 1).toNat = o.toNat + 1 by omega, Nat.pow_succ]
  omega
theorem spec_l8Len_l0 (o : Int) (h1 : o ≤ 11) : ∀ (d : Nat) (i : Int), i + d = o → 0 ≤ i → Ev (fun k => spec_l8Len.l0 k o (p2 i) i) (p2 o) := by
  intro d
  induction d with
  | zero =>
    intro i h h0
    obtain rfl : i = o := by omega
    exact Ev.step (fun _ => spec_l8Len.l0.eq_2 ..) (ev_neg (by omega) (ev_ret rfl))
  | succ d ih =>
    intro i h h0
    have hb := p2_bd (o := i) h0 (by omega)
    refine Ev.step (fun _ => spec_l8Len.l0.eq_2 ..) (ev_pos (by omega) ?_)
    rw [w64_id (x := p2 i * 2) (by omega) (by omega), w64_id (x := i + 1) (by omega) (by omega), show p2 i * 2 = p2 (i + 1) by rw [p2_succ h0]; omega]
    exact ih (i + 1) (by omega) (by omega)
theorem spec_l8Len_ev {o : Int} (h0 : 0 ≤ o) (h1 : o ≤ 11) : Ev (fun k => spec_l8Len.f k o) (p2 o) := by
  unfold spec_l8Len.f
  have := spec_l8Len_l0 o h1 o.toNat 0 (by omega) (by omega)
  exact this
def blkOk (total at_ o : Int) : Bool := decide (0 ≤ o ∧ o ≤ 10 ∧ 0 ≤ at_ ∧ at_ < total ∧ Int.tmod at_ (p2 o) = 0 ∧ at_ + p2 o ≤ total)
theorem blkOk_iff {total at_ o : Int} : blkOk total at_ o = true ↔ 0 ≤ o ∧ o ≤ 10 ∧ 0 ≤ at_ ∧ at_ < total ∧ Int.tmod at_ (p2 o) = 0 ∧ at_ + p2 o ≤ total := decide_eq_true_iff
theorem blkOk_false {total at_ o : Int} (h : ¬ (0 ≤ o ∧ o ≤ 10 ∧ 0 ≤ at_ ∧ at_ < total ∧ Int.tmod at_ (p2 o) = 0 ∧ at_ + p2 o ≤ total)) : false = blkOk total at_ o := (decide_eq_false h).symm
theorem spec_l8Block_ev {total at_ o : Int} (ht : total ≤ 4611686018427387904) : Ev (fun k => spec_l8Block.f k total at_ o) (blkOk total at_ o) := by
  unfold spec_l8Block.f
  refine ev_split (fun h => ev_ret (blkOk_false (by omega))) (fun h1 => ev_split (fun h => ev_ret (blkOk_false (by omega))) (fun h2 => ?_))
  have hb := p2_bd (o := o) (by omega) (by omega)
  refine Ev.bind (spec_l8Len_ev (by omega) (by omega)) (ev_split (fun h3 => ev_split (fun h4 => ev_neg (by omega) (ev_split (fun h5 => ev_ret ?_) (fun h => ev_ret (blkOk_false (by omega))))) (fun h => ev_ret (blkOk_false (by omega)))) (fun h => ev_ret (blkOk_false (by omega))))
  rw [w64_id (by omega) (by omega)]
  unfold blkOk
  rw [decide_eq_decide]
  omega
theorem shl_p2 {o : Int} (h0 : 0 ≤ o) (h1 : o ≤ 11) : shl .i64 1 o = p2 o := by
  have hb := p2_bd h0 h1
  unfold shl
  rw [Int.one_mul, Nat.min_eq_left (show o.toNat ≤ IntKind.i64.bits by show o.toNat ≤ 64; omega)]
  have e : ((2 : Int) ^ o.toNat) = p2 o := by unfold p2; simp
  rw [e, IntKind.wrap_i64]
  omega
theorem impl_blockOk_eq {total at_ o : Int} (ht : total ≤ 4611686018427387904) : impl_blockOk.f total at_ o = some (blkOk total at_ o) := by
  unfold impl_blockOk.f
  by_cases h1 : o < 0
  · rw [if_pos h1]; exact congrArg some (blkOk_false (by omega))
  · rw [if_neg h1]
    by_cases h2 : o > 10
    · rw [if_pos h2]; exact congrArg some (blkOk_false (by omega))
    · rw [if_neg h2]
      have hb := p2_bd (o := o) (by omega) (by omega)
      by_cases h3 : at_ < 0
      · rw [if_pos h3]; exact congrArg some (blkOk_false (by omega))
      · rw [if_neg h3]
        by_cases h4 : at_ ≥ total
        · rw [if_pos h4]; exact congrArg some (blkOk_false (by omega))
        · rw [if_neg h4, if_pos (by omega), shl_p2 (by omega) (by omega), if_neg (by omega)]
          by_cases h5 : Int.tmod at_ (p2 o) = 0
          · rw [if_pos h5, w64_id (by omega) (by omega)]
            unfold blkOk
            rw [Option.some.injEq, decide_eq_decide]
            omega
          · rw [if_neg h5]; exact congrArg some (blkOk_false (by omega))
def blkJoin (p : Option S73) (e : Int) (b : S73) : Prop := ∃ c, p = some c ∧ c.f1 = b.f1 ∧ b.f1 < 10 ∧ b.f0 = e ∧ Int.tmod c.f0 (2 * p2 b.f1) = 0
instance (p : Option S73) (e : Int) (b : S73) : Decidable (blkJoin p e b) :=
  match p with
  | none => isFalse (by rintro ⟨c, h, _⟩; cases h)
  | some c => decidable_of_iff (c.f1 = b.f1 ∧ b.f1 < 10 ∧ b.f0 = e ∧ Int.tmod c.f0 (2 * p2 b.f1) = 0) ⟨fun h => ⟨c, rfl, h⟩, by rintro ⟨c', h, h2⟩; cases h; exact h2⟩
def blksOk (total : Int) : Option S73 → Int → List S73 → Bool
  | _, _, [] => true
  | p, e, b :: bs => if blkOk total b.f0 b.f1 = true ∧ ¬ b.f0 < e then (if blkJoin p e b then false else blksOk total (some b) (b.f0 + p2 b.f1) bs) else false
def framesOk (total : Int) (l : List S73) : Bool := if total < 0 ∨ total > 1024 then false else blksOk total none 0 l
def prevOf (l : List S73) (i : Nat) : Option S73 := if i = 0 then none else l[i - 1]?
theorem prev_some {l : List S73} {i : Nat} (h : 0 < i) (hl : i ≤ l.length) : prevOf l i = some (l[i - 1]'(by omega)) := by
  unfold prevOf
  rw [if_neg (by omega), List.getElem?_eq_getElem (by omega)]
theorem prev_succ {l : List S73} {i : Nat} (h : i < l.length) : prevOf l (i + 1) = some l[i] := by
  rw [prev_some (by omega) (by omega)]; rfl
theorem spec_FramesOk_l0 (total : Int) (ht0 : 0 ≤ total) (ht : total ≤ 1024) (l : List S73) (hl : l.length ≤ 1099511627776) : ∀ (d i : Nat) (e : Int), i + d = l.length → 0 ≤ e → e ≤ 2048 → Ev (fun k => spec_FramesOk.l0 k e (i : Int) total l) (blksOk total (prevOf l i) e (l.drop i)) := by
  intro d
  induction d with
  | zero =>
    intro i e h he he2
    rw [List.drop_eq_nil_of_le (by omega)]
    exact Ev.step (fun _ => spec_FramesOk.l0.eq_2 ..) (ev_neg (by omega) (ev_ret rfl))
  | succ d ih =>
    intro i e h he he2
    have hi : i < l.length := by omega
    have er : rd_T73 l (i : Int) = l[i] := getD_nat _ hi
    rw [List.drop_eq_getElem_cons hi, blksOk]
    refine Ev.step (fun _ => spec_FramesOk.l0.eq_2 ..) (ev_pos (by omega) (ev_pos (by omega) ?_))
    rw [er]
    have hps : prevOf l (i + 1) = some l[i] := prev_succ hi
    obtain ⟨b, hbe⟩ : ∃ b, b = l[i] := ⟨_, rfl⟩
    rw [← hbe] at hps ⊢
    clear hbe er
    refine Ev.bind (spec_l8Block_ev (by omega)) ?_
    by_cases hb : blkOk total b.f0 b.f1 = true
    · refine ev_pos hb ?_
      by_cases hlt : b.f0 < e
      · rw [decide_eq_true hlt, if_neg (fun h => h.2 hlt)]
        exact Ev.step (fun _ => spec_FramesOk.j2.eq_2 ..) (ev_pos rfl (ev_ret rfl))
      · rw [decide_eq_false hlt, if_pos ⟨hb, hlt⟩]
        have hbb := blkOk_iff.1 hb
        have hpb := p2_bd (o := b.f1) (by omega) (by omega)
        refine Ev.step (fun _ => spec_FramesOk.j2.eq_2 ..) (ev_neg (by decide) (Ev.bind (spec_l8Len_ev (by omega) (by omega)) ?_))
        rw [w64_id (x := b.f0 + p2 b.f1) (by omega) (by omega), w64_id (x := 2 * p2 b.f1) (by omega) (by omega), w64_succ hi (by omega)]
        have next := ih (i + 1) (b.f0 + p2 b.f1) (by omega) (by omega) (by omega)
        rw [hps] at next
        by_cases hi0 : 0 < i
        · refine ev_pos (by omega) ?_
          rw [w64_id (x := (i : Int) - 1) (by omega) (by omega), show (i : Int) - 1 = ((i - 1 : Nat) : Int) by omega]
          have ep : rd_T73 l ((i - 1 : Nat) : Int) = l[i - 1] := getD_nat _ (by omega)
          have hpr := prev_some hi0 (show i ≤ l.length by omega)
          rw [ep, hpr]
          generalize l[i - 1] = c
          refine ev_pos (by omega) (ev_pos (by omega) ?_)
          by_cases hj : blkJoin (some c) e b
          · rw [if_pos hj]
            obtain ⟨c', hc', j1, j2, j3, j4⟩ := hj
            cases hc'
            exact ev_pos j1 (ev_pos j2 (ev_pos j3 (ev_neg (by omega) (ev_pos j4 (ev_ret rfl)))))
          · rw [if_neg hj]
            refine ev_split (fun j1 => ev_split (fun j2 => ev_split (fun j3 => ev_neg (by omega) (ev_neg (fun j4 => hj ⟨c, rfl, j1, j2, j3, j4⟩) next)) (fun _ => next)) (fun _ => next)) (fun _ => next)
        · refine ev_neg (by omega) ?_
          rw [if_neg (by rintro ⟨c, hc, _⟩; unfold prevOf at hc; rw [if_pos (by omega)] at hc; cases hc)]
          exact next
    · refine ev_neg hb ?_
      rw [if_neg (fun h => hb h.1)]
      exact Ev.step (fun _ => spec_FramesOk.j2.eq_2 ..) (ev_pos rfl (ev_ret rfl))
theorem spec_FramesOk_ev (total : Int) {l : List S73} (hl : l.length ≤ 1099511627776) : Ev (fun k => spec_FramesOk.f k total l) (framesOk total l) := by
  unfold spec_FramesOk.f framesOk
  have bad : Ev (fun k => spec_FramesOk.j0 k true total l) false := Ev.step (fun _ => spec_FramesOk.j0.eq_2 ..) (ev_pos rfl (ev_ret rfl))
  by_cases h : total < 0 ∨ total > 1024
  · rw [if_pos h]
    refine ev_split (fun _ => bad) (fun h1 => ?_)
    rw [decide_eq_true (by omega)]; exact bad
  · rw [if_neg h]
    refine ev_neg (by omega) ?_
    rw [decide_eq_false (by omega)]
    exact Ev.step (fun _ => spec_FramesOk.j0.eq_2 ..) (ev_neg (by decide) (spec_FramesOk_l0 total (by omega) (by omega) l hl l.length 0 0 (by omega) (by omega) (by omega)))
theorem impl_FramesOk_l0 (total : Int) (ht0 : 0 ≤ total) (ht : total ≤ 1024) (l : List S73) (hl : l.length ≤ 1099511627776) : ∀ (d i : Nat) (e : Int), i + d = l.length → 0 ≤ e → e ≤ 2048 → (∀ c, prevOf l i = some c → e = c.f0 + p2 c.f1) → Ev (fun k => impl_FramesOk.l0 k e l (l.length : Int) (i : Int) total l) (blksOk total (prevOf l i) e (l.drop i)) := by
  intro d
  induction d with
  | zero =>
    intro i e h he he2 hpe
    rw [List.drop_eq_nil_of_le (by omega)]
    exact Ev.step (fun _ => impl_FramesOk.l0.eq_2 ..) (ev_neg (by omega) (ev_ret rfl))
  | succ d ih =>
    intro i e h he he2 hpe
    have hi : i < l.length := by omega
    have er : rd_T73 l (i : Int) = l[i] := getD_nat _ hi
    rw [List.drop_eq_getElem_cons hi, blksOk]
    refine Ev.step (fun _ => impl_FramesOk.l0.eq_2 ..) (ev_pos (by omega) (ev_pos (by omega) (ev_pos (by omega) ?_)))
    rw [er]
    have hps : prevOf l (i + 1) = some l[i] := prev_succ hi
    obtain ⟨b, hbe⟩ : ∃ b, b = l[i] := ⟨_, rfl⟩
    rw [← hbe] at hps ⊢
    clear hbe er
    refine ev_bind0 (impl_blockOk_eq (by omega)) ?_
    by_cases hb : blkOk total b.f0 b.f1 = true
    · refine ev_pos hb ?_
      by_cases hlt : b.f0 < e
      · rw [decide_eq_true hlt, if_neg (fun h => h.2 hlt)]
        exact Ev.step (fun _ => impl_FramesOk.j2.eq_2 ..) (ev_pos rfl (ev_ret rfl))
      · rw [decide_eq_false hlt, if_pos ⟨hb, hlt⟩]
        have hbb := blkOk_iff.1 hb
        have hpb := p2_bd (o := b.f1) (by omega) (by omega)
        refine Ev.step (fun _ => impl_FramesOk.j2.eq_2 ..) (ev_neg (by decide) (ev_pos (by omega) ?_))
        rw [shl_p2 (by omega) (by omega), w64_id (x := b.f0 + p2 b.f1) (by omega) (by omega), w64_id (x := 2 * p2 b.f1) (by omega) (by omega), w64_succ hi (by omega), w64_id (x := b.f0 - p2 b.f1) (by omega) (by omega)]
        have next := ih (i + 1) (b.f0 + p2 b.f1) (by omega) (by omega) (by omega) (by rw [hps]; rintro c hc; cases hc; rfl)
        rw [hps] at next
        by_cases hi0 : 0 < i
        · refine ev_pos (by omega) ?_
          rw [w64_id (x := (i : Int) - 1) (by omega) (by omega), show (i : Int) - 1 = ((i - 1 : Nat) : Int) by omega]
          have ep : rd_T73 l ((i - 1 : Nat) : Int) = l[i - 1] := getD_nat _ (by omega)
          have hpr := prev_some hi0 (show i ≤ l.length by omega)
          have hpe2 := hpe _ hpr
          rw [ep, hpr]
          generalize l[i - 1] = c at *
          refine ev_pos (by omega) (ev_pos (by omega) ?_)
          by_cases hj : blkJoin (some c) e b
          · rw [if_pos hj]
            obtain ⟨c', hc', j1, j2, j3, j4⟩ := hj
            cases hc'
            rw [j1] at hpe2
            exact ev_pos j1 (ev_pos j2 (ev_pos (by omega) (ev_neg (by omega) (ev_pos j4 (ev_ret rfl)))))
          · rw [if_neg hj]
            refine ev_split (fun j1 => ev_split (fun j2 => ev_split (fun j3 => ev_neg (by omega) (ev_neg (fun j4 => hj ⟨c, rfl, j1, j2, by rw [j1] at hpe2; omega, j4⟩) next)) (fun _ => next)) (fun _ => next)) (fun _ => next)
        · refine ev_neg (by omega) ?_
          rw [if_neg (by rintro ⟨c, hc, _⟩; unfold prevOf at hc; rw [if_pos (by omega)] at hc; cases hc)]
          exact next
    · refine ev_neg hb ?_
      rw [if_neg (fun h => hb h.1)]
      exact Ev.step (fun _ => impl_FramesOk.j2.eq_2 ..) (ev_pos rfl (ev_ret rfl))
theorem impl_FramesOk_ev (total : Int) {l : List S73} (hl : l.length ≤ 1099511627776) : Ev (fun k => impl_FramesOk.f k total l) (framesOk total l) := by
  unfold impl_FramesOk.f framesOk
  have bad : Ev (fun k => impl_FramesOk.j0 k true total l) false := Ev.step (fun _ => impl_FramesOk.j0.eq_2 ..) (ev_pos rfl (ev_ret rfl))
  by_cases h : total < 0 ∨ total > 1024
  · rw [if_pos h]
    refine ev_split (fun _ => bad) (fun h1 => ?_)
    rw [decide_eq_true (by omega)]; exact bad
  · rw [if_neg h]
    refine ev_neg (by omega) ?_
    rw [decide_eq_false (by omega)]
    exact Ev.step (fun _ => impl_FramesOk.j0.eq_2 ..) (ev_neg (by decide) (impl_FramesOk_l0 total (by omega) (by omega) l hl l.length 0 0 (by omega) (by omega) (by omega) (by intro c hc; unfold prevOf at hc; rw [if_pos rfl] at hc; cases hc)))
theorem laws_szByteS_eq {xs : List Int} (hl : xs.length ≤ maxLen) {n : Int} (h0 : 0 ≤ n) (h1 : n ≤ 1048576) : laws_szByteS.f xs n = some (if n < xs.length then (-1 : Int) else n - (xs.length : Int)) := by
  have hl2 := wf_le hl
  unfold laws_szByteS.f
  rw [w64_id (x := n - (xs.length : Int)) (by omega) (by omega)]
  by_cases h : n < xs.length
  · rw [if_pos (by omega), if_pos h]
  · rw [if_neg (by omega), if_neg h]
def memOkV (l : List Int) : Bool := if ((l.length : Int) % 256) = 0 then decide ((l.length : Int) ≤ 262144) else false
theorem spec_l6MemOk_eq (l : List Int) : spec_l6MemOk.f l = some (memOkV l) := by
  unfold spec_l6MemOk.f memOkV; split <;> rfl
def poolOkV (mem : List Int) (total : Int) (l : List S73) : Bool := memOkV mem && framesOk total l && (total == wrap64 ((mem.length : Int) / 256))
theorem spec_PoolOk_ev (mem : List Int) (total : Int) {l : List S73} (hl : l.length ≤ 1099511627776) : Ev (fun k => spec_PoolOk.f k mem total l) (poolOkV mem total l) := by
  unfold spec_PoolOk.f poolOkV
  refine ev_bind0 (spec_l6MemOk_eq mem) (ev_split (fun h => Ev.bind (spec_FramesOk_ev total hl) (ev_split (fun h2 => ev_ret (by simp [h, h2])) (fun h2 => ev_ret (by simp [h2])))) (fun h => ev_ret (by simp [h])))
theorem impl_memOk_eq (l : List Int) : impl_memOk.f l = some (memOkV l) := by
  unfold impl_memOk.f memOkV; split <;> rfl
theorem impl_PoolOk_ev (mem : List Int) (total : Int) {l : List S73} (hl : l.length ≤ 1099511627776) : Ev (fun k => impl_PoolOk.f k mem total l) (poolOkV mem total l) := by
  unfold impl_PoolOk.f poolOkV
  refine ev_bind0 (impl_memOk_eq mem) (ev_split (fun h => Ev.bind (impl_FramesOk_ev total hl) (ev_split (fun h2 => ev_ret (by simp [h, h2])) (fun h2 => ev_ret (by simp [h2])))) (fun h => ev_ret (by simp [h])))
theorem FnExactPoolOk : laws_FnExactPoolOk.Pure := by
  intro mem n xs hq
  have hm0 : mem.length ≤ maxLen := hq.1.1
  have hm : xs.length ≤ maxLen := hq.2.2.1
  refine Ev.rounds ?_
  unfold laws_FnExactPoolOk.f
  have sz : laws_szPool.f mem n xs 1048576 = some (-1) ∨ ∃ v, 0 ≤ v ∧ laws_szPool.f mem n xs 1048576 = some v ∧ mem.length ≤ 1048576 ∧ xs.length ≤ 1048576 := by
    unfold laws_szPool.f
    rw [laws_szByteS_eq hm0 (by omega) (by omega), Option.bind_some]
    by_cases h : (1048576 : Int) < mem.length
    · rw [if_pos h]; exact .inl rfl
    · rw [if_neg h, if_neg (by omega), laws_szFrames_eq n hm (by omega) (by omega), Option.bind_some]
      by_cases h2 : (1048576 : Int) - mem.length < xs.length
      · rw [if_pos h2]; exact .inl rfl
      · rw [if_neg h2, if_neg (by omega)]; exact .inr ⟨_, by omega, rfl, by omega, by omega⟩
  rcases sz with sz | ⟨v, hv, sz, h1, h2⟩
  · exact ev_bind0 sz (ev_pos (by decide) (ev_ret rfl))
  · refine ev_bind0 sz (ev_neg (by omega) ?_)
    have hl0 : mem.length ≤ 281474976710656 := by omega
    have hl : xs.length ≤ 1099511627776 := by omega
    have hl2 : (xs.map cBlock).length ≤ 1099511627776 := by rw [List.length_map]; exact hl
    have tp : Ev (fun k => laws_toPool.f k mem n xs) (mem, n, xs.map cBlock) := by
      unfold laws_toPool.f
      exact Ev.bind (laws_toByteS_ev hl0) (Ev.bind (laws_toFrames_ev n hl) (ev_ret rfl))
    have eqp : Ev (fun k => laws_eqPool.f k mem n (xs.map cBlock) mem n (xs.map cBlock)) true := by
      unfold laws_eqPool.f
      exact Ev.bind (laws_eqByteS_ev hl0) (ev_pos rfl (Ev.bind (laws_eqFrames_ev n hl2) (ev_pos rfl (ev_ret rfl))))
    exact Ev.bind tp (Ev.bind (spec_PoolOk_ev mem n hl2) (Ev.bind tp (Ev.bind (impl_PoolOk_ev mem n hl2) (ev_neg (by simp) (Ev.bind tp (Ev.bind eqp (ev_pos rfl (ev_ret rfl))))))))
end Go.Proofs.Ytmjdmaomakkhgaa.Pure
