/- For every input that the row lets in, FnExactFramesTake answers true; this text proves the plain law that is left when the machine's side is done. -/
import Derived.Test.YtmjdmaomakkhgaaPFnExactFramesTakex8
import Derived.Test.YtmjdmaomakkhgaaVBase
set_option linter.unusedVariables false
set_option linter.unusedSimpArgs false
namespace Go.Proofs.Ytmjdmaomakkhgaa.Pure
open Go.RowKit Go.Proofs.Ytmjdmaomakkhgaa.PFnExactFramesTake Go.Proofs.YtmjdmaomakkhgaaW.PrintWords Go.Proofs.YtmjdmaomakkhgaaW.PrintLast Go.Proofs.YtmjdmaomakkhgaaW.PrintMore Go.Proofs.Ytmjdmaomakkhgaa.Base

def cBlock (x : S129) : S73 := ⟨x.f0, x.f1⟩
theorem laws_toBlockS_l0 (xs : List S129) (hl : xs.length ≤ 4611686018427387904) : ∀ (d i : Nat) (ys : List S73), i + d = xs.length → ys.length = xs.length → (∀ j, j < i → ys[j]? = (xs.map cBlock)[j]?) → Ev (fun k => laws_toBlockS.l0 k xs ys (i : Int)) (xs.map cBlock) := by
  intro d
  induction d with
  | zero =>
    intro i ys h hy he
    refine Ev.step (fun _ => laws_toBlockS.l0.eq_2 ..) (ev_neg (by omega) (ev_ret ?_))
    apply List.ext_getElem?
    intro j
    by_cases hj : j < i
    · exact he j hj
    · rw [List.getElem?_eq_none (by omega), List.getElem?_eq_none (by rw [List.length_map]; omega)]
  | succ d ih =>
    intro i ys h hy he
    have hi : i < xs.length := by omega
    have er : rd_T129 xs (i : Int) = xs[i] := getD_nat _ hi
    refine Ev.step (fun _ => laws_toBlockS.l0.eq_2 ..) (ev_pos (by omega) (ev_pos (by omega) (ev_bind0 rfl (ev_pos (by omega) ?_))))
    rw [w64_succ hi hl, er, Int.toNat_natCast]
    refine ih (i + 1) _ (by omega) (by rw [List.length_set]; exact hy) ?_
    intro j hj
    by_cases hji : j = i
    · subst hji
      rw [List.getElem?_set_self (by omega), List.getElem?_map, List.getElem?_eq_getElem hi]; rfl
    · rw [List.getElem?_set_ne (by omega)]
      exact he j (by omega)
theorem laws_toBlockS_ev {xs : List S129} (hl : xs.length ≤ 1099511627776) : Ev (fun k => laws_toBlockS.f k xs) (xs.map cBlock) := by
  unfold laws_toBlockS.f
  refine ev_pos (by omega) (ev_pos (by omega) ?_)
  exact laws_toBlockS_l0 xs (by omega) xs.length 0 _ (by omega) (by simp) (fun j hj => by omega)
theorem laws_eqBlock_self (a0 a1 : Int) : laws_eqBlock.f a0 a1 a0 a1 = some true := by
  unfold laws_eqBlock.f
  simp
theorem laws_eqBlockS_l0 (xs : List S73) (hl : xs.length ≤ 4611686018427387904) : ∀ (d i : Nat), i + d = xs.length → Ev (fun k => laws_eqBlockS.l0 k xs xs (i : Int)) true := by
  intro d
  induction d with
  | zero =>
    intro i h
    exact Ev.step (fun _ => laws_eqBlockS.l0.eq_2 ..) (ev_neg (by omega) (ev_ret rfl))
  | succ d ih =>
    intro i h
    refine Ev.step (fun _ => laws_eqBlockS.l0.eq_2 ..) (ev_pos (by omega) (ev_pos (by omega) (ev_pos (by omega) (ev_bind0 (laws_eqBlock_self ..) (ev_pos rfl ?_)))))
    rw [w64_succ (n := xs.length) (by omega) hl]
    exact ih (i + 1) (by omega)
theorem laws_eqBlockS_ev {xs : List S73} (hl : xs.length ≤ 1099511627776) : Ev (fun k => laws_eqBlockS.f k xs xs) true := by
  unfold laws_eqBlockS.f
  exact ev_pos rfl (laws_eqBlockS_l0 xs (by omega) xs.length 0 (by omega))
theorem laws_szBlockS_eq {xs : List S129} (hl : xs.length ≤ maxLen) {n : Int} (h0 : 0 ≤ n) (h1 : n ≤ 1048576) : laws_szBlockS.f xs n = some (if n < xs.length then -1 else n - xs.length) := by
  have hl2 := wf_le hl
  unfold laws_szBlockS.f
  rw [w64_id (x := n - (xs.length : Int)) (by omega) (by omega)]
  by_cases h : n < xs.length
  · rw [if_pos (by omega), if_pos h]
  · rw [if_neg (by omega), if_neg h]
theorem laws_toFrames_ev (n : Int) {xs : List S129} (hl : xs.length ≤ 1099511627776) : Ev (fun k => laws_toFrames.f k n xs) (n, xs.map cBlock) := by
  unfold laws_toFrames.f
  exact Ev.bind (laws_toBlockS_ev hl) (ev_ret rfl)
theorem laws_eqFrames_ev (n : Int) {xs : List S73} (hl : xs.length ≤ 1099511627776) : Ev (fun k => laws_eqFrames.f k n xs n xs) true := by
  unfold laws_eqFrames.f
  exact ev_pos rfl (Ev.bind (laws_eqBlockS_ev hl) (ev_pos rfl (ev_ret rfl)))
theorem laws_szFrames_eq (n : Int) {xs : List S129} (hl : xs.length ≤ maxLen) {m : Int} (h0 : 0 ≤ m) (h1 : m ≤ 1048576) : laws_szFrames.f n xs m = some (if m < xs.length then (-1 : Int) else m - (xs.length : Int)) := by
  unfold laws_szFrames.f
  rw [laws_szBlockS_eq hl h0 h1, Option.bind_some]
  by_cases h : m < xs.length
  · rw [if_pos h]; rfl
  · rw [if_neg h, if_neg (by omega)]
def p2 (o : Int) : Int := ((2 ^ o.toNat : Nat) : Int)
theorem p2_bd {o : Int} (h0 : 0 ≤ o) (h1 : o ≤ 11) : 1 ≤ p2 o ∧ p2 o ≤ 2048 := by
  unfold p2
  have h2 : o.toNat ≤ 11 := by omega
  have := Nat.pow_le_pow_right (n := 2) (by decide) h2
  have h3 := Nat.two_pow_pos o.toNat
  have h4 : (2 : Nat) ^ 11 = 2048 := by decide
  omega
theorem p2_succ {o : Int} (h0 : 0 ≤ o) : p2 (o + 1) = 2 * p2 o := by
  unfold p2
  rw [show (o + 1).toNat = o.toNat + 1 by omega, Nat.pow_succ]
  omega
theorem spec_l8Len_l0 (o : Int) (h1 : o ≤ 11) : ∀ (d : Nat) (i : Int), i + d = o → 0 ≤ i → Ev (fun k => spec_l8Len.l0 k o (p2 i) i) (p2 o) := by
  intro d
  induction d with
  | zero =>
    intro i h h0
    obtain rfl : i = o := by omega
    exact Ev.step (fun _ => spec_l8Len.l0.eq_2 ..) (ev_neg (by omega) (ev_ret rfl))
  | succ d ih =>
    intro i h h0
    have hb := p2_bd (o := i) h0 (by omega)
    refine Ev.step (fun _ => spec_l8Len.l0.eq_2 ..) (ev_pos (by omega) ?_)
    rw [w64_id (x := p2 i * 2) (by omega) (by omega), w64_id (x := i + 1) (by omega) (by omega), show p2 i * 2 = p2 (i + 1) by rw [p2_succ h0]; omega]
    exact ih (i + 1) (by omega) (by omega)
theorem spec_l8Len_ev {o : Int} (h0 : 0 ≤ o) (h1 : o ≤ 11) : Ev (fun k => spec_l8Len.f k o) (p2 o) := by
  unfold spec_l8Len.f
  have := spec_l8Len_l0 o h1 o.toNat 0 (by omega) (by omega)
  exact this
def blkOk (total at_ o : Int) : Bool := decide (0 ≤ o ∧ o ≤ 10 ∧ 0 ≤ at_ ∧ at_ < total ∧ Int.tmod at_ (p2 o) = 0 ∧ at_ + p2 o ≤ total)
theorem blkOk_iff {total at_ o : Int} : blkOk total at_ o = true ↔ 0 ≤ o ∧ o ≤ 10 ∧ 0 ≤ at_ ∧ at_ < total ∧ Int.tmod at_ (p2 o) = 0 ∧ at_ + p2 o ≤ total := decide_eq_true_iff
theorem blkOk_false {total at_ o : Int} (h : ¬ (0 ≤ o ∧ o ≤ 10 ∧ 0 ≤ at_ ∧ at_ < total ∧ Int.tmod at_ (p2 o) = 0 ∧ at_ + p2 o ≤ total)) : false = blkOk total at_ o := (decide_eq_false h).symm
theorem spec_l8Block_ev {total at_ o : Int} (ht : total ≤ 4611686018427387904) : Ev (fun k => spec_l8Block.f k total at_ o) (blkOk total at_ o) := by
  unfold spec_l8Block.f
  refine ev_split (fun h => ev_ret (blkOk_false (by omega))) (fun h1 => ev_split (fun h => ev_ret (blkOk_false (by omega))) (fun h2 => ?_))
  have hb := p2_bd (o := o) (by omega) (by omega)
  refine Ev.bind (spec_l8Len_ev (by omega) (by omega)) (ev_split (fun h3 => ev_split (fun h4 => ev_neg (by omega) (ev_split (fun h5 => ev_ret ?_) (fun h => ev_ret (blkOk_false (by omega))))) (fun h => ev_ret (blkOk_false (by omega)))) (fun h => ev_ret (blkOk_false (by omega))))
  rw [w64_id (by omega) (by omega)]
  unfold blkOk
  rw [decide_eq_decide]
  omega
theorem shl_p2 {o : Int} (h0 : 0 ≤ o) (h1 : o ≤ 11) : shl .i64 1 o = p2 o := by
  have hb := p2_bd h0 h1
  unfold shl
  rw [Int.one_mul, Nat.min_eq_left (show o.toNat ≤ IntKind.i64.bits by show o.toNat ≤ 64; omega)]
  have e : ((2 : Int) ^ o.toNat) = p2 o := by unfold p2; simp
  rw [e, IntKind.wrap_i64]
  omega
theorem impl_blockOk_eq {total at_ o : Int} (ht : total ≤ 4611686018427387904) : impl_blockOk.f total at_ o = some (blkOk total at_ o) := by
  unfold impl_blockOk.f
  by_cases h1 : o < 0
  · rw [if_pos h1]; exact congrArg some (blkOk_false (by omega))
  · rw [if_neg h1]
    by_cases h2 : o > 10
    · rw [if_pos h2]; exact congrArg some (blkOk_false (by omega))
    · rw [if_neg h2]
      have hb := p2_bd (o := o) (by omega) (by omega)
      by_cases h3 : at_ < 0
      · rw [if_pos h3]; exact congrArg some (blkOk_false (by omega))
      · rw [if_neg h3]
        by_cases h4 : at_ ≥ total
        · rw [if_pos h4]; exact congrArg some (blkOk_false (by omega))
        · rw [if_neg h4, if_pos (by omega), shl_p2 (by omega) (by omega), if_neg (by omega)]
          by_cases h5 : Int.tmod at_ (p2 o) = 0
          · rw [if_pos h5, w64_id (by omega) (by omega)]
            unfold blkOk
            rw [Option.some.injEq, decide_eq_decide]
            omega
          · rw [if_neg h5]; exact congrArg some (blkOk_false (by omega))
def blkJoin (p : Option S73) (e : Int) (b : S73) : Prop := ∃ c, p = some c ∧ c.f1 = b.f1 ∧ b.f1 < 10 ∧ b.f0 = e ∧ Int.tmod c.f0 (2 * p2 b.f1) = 0
instance (p : Option S73) (e : Int) (b : S73) : Decidable (blkJoin p e b) :=
  match p with
  | none => isFalse (by rintro ⟨c, h, _⟩; cases h)
  | some c => decidable_of_iff (c.f1 = b.f1 ∧ b.f1 < 10 ∧ b.f0 = e ∧ Int.tmod c.f0 (2 * p2 b.f1) = 0) ⟨fun h => ⟨c, rfl, h⟩, by rintro ⟨c', h, h2⟩; cases h; exact h2⟩
def blksOk (total : Int) : Option S73 → Int → List S73 → Bool
  | _, _, [] => true
  | p, e, b :: bs => if blkOk total b.f0 b.f1 = true ∧ ¬ b.f0 < e then (if blkJoin p e b then false else blksOk total (some b) (b.f0 + p2 b.f1) bs) else false
def framesOk (total : Int) (l : List S73) : Bool := if total < 0 ∨ total > 1024 then false else blksOk total none 0 l
def prevOf (l : List S73) (i : Nat) : Option S73 := if i = 0 then none else l[i - 1]?
theorem prev_some {l : List S73} {i : Nat} (h : 0 < i) (hl : i ≤ l.length) : prevOf l i = some (l[i - 1]'(by omega)) := by
  unfold prevOf
  rw [if_neg (by omega), List.getElem?_eq_getElem (by omega)]
theorem prev_succ {l : List S73} {i : Nat} (h : i < l.length) : prevOf l (i + 1) = some l[i] := by
  rw [prev_some (by omega) (by omega)]; rfl
theorem spec_FramesOk_l0 (total : Int) (ht0 : 0 ≤ total) (ht : total ≤ 1024) (l : List S73) (hl : l.length ≤ 1099511627776) : ∀ (d i : Nat) (e : Int), i + d = l.length → 0 ≤ e → e ≤ 2048 → Ev (fun k => spec_FramesOk.l0 k e (i : Int) total l) (blksOk total (prevOf l i) e (l.drop i)) := by
  intro d
  induction d with
  | zero =>
    intro i e h he he2
    rw [List.drop_eq_nil_of_le (by omega)]
    exact Ev.step (fun _ => spec_FramesOk.l0.eq_2 ..) (ev_neg (by omega) (ev_ret rfl))
  | succ d ih =>
    intro i e h he he2
    have hi : i < l.length := by omega
    have er : rd_T73 l (i : Int) = l[i] := getD_nat _ hi
    rw [List.drop_eq_getElem_cons hi, blksOk]
    refine Ev.step (fun _ => spec_FramesOk.l0.eq_2 ..) (ev_pos (by omega) (ev_pos (by omega) ?_))
    rw [er]
    have hps : prevOf l (i + 1) = some l[i] := prev_succ hi
    obtain ⟨b, hbe⟩ : ∃ b, b = l[i] := ⟨_, rfl⟩
    rw [← hbe] at hps ⊢
    clear hbe er
    refine Ev.bind (spec_l8Block_ev (by omega)) ?_
    by_cases hb : blkOk total b.f0 b.f1 = true
    · refine ev_pos hb ?_
      by_cases hlt : b.f0 < e
      · rw [decide_eq_true hlt, if_neg (fun h => h.2 hlt)]
        exact Ev.step (fun _ => spec_FramesOk.j2.eq_2 ..) (ev_pos rfl (ev_ret rfl))
      · rw [decide_eq_false hlt, if_pos ⟨hb, hlt⟩]
        have hbb := blkOk_iff.1 hb
        have hpb := p2_bd (o := b.f1) (by omega) (by omega)
        refine Ev.step (fun _ => spec_FramesOk.j2.eq_2 ..) (ev_neg (by decide) (Ev.bind (spec_l8Len_ev (by omega) (by omega)) ?_))
        rw [w64_id (x := b.f0 + p2 b.f1) (by omega) (by omega), w64_id (x := 2 * p2 b.f1) (by omega) (by omega), w64_succ hi (by omega)]
        have next := ih (i + 1) (b.f0 + p2 b.f1) (by omega) (by omega) (by omega)
        rw [hps] at next
        by_cases hi0 : 0 < i
        · refine ev_pos (by omega) ?_
          rw [w64_id (x := (i : Int) - 1) (by omega) (by omega), show (i : Int) - 1 = ((i - 1 : Nat) : Int) by omega]
          have ep : rd_T73 l ((i - 1 : Nat) : Int) = l[i - 1] := getD_nat _ (by omega)
          have hpr := prev_some hi0 (show i ≤ l.length by omega)
          rw [ep, hpr]
          generalize l[i - 1] = c
          refine ev_pos (by omega) (ev_pos (by omega) ?_)
          by_cases hj : blkJoin (some c) e b
          · rw [if_pos hj]
            obtain ⟨c', hc', j1, j2, j3, j4⟩ := hj
            cases hc'
            exact ev_pos j1 (ev_pos j2 (ev_pos j3 (ev_neg (by omega) (ev_pos j4 (ev_ret rfl)))))
          · rw [if_neg hj]
            refine ev_split (fun j1 => ev_split (fun j2 => ev_split (fun j3 => ev_neg (by omega) (ev_neg (fun j4 => hj ⟨c, rfl, j1, j2, j3, j4⟩) next)) (fun _ => next)) (fun _ => next)) (fun _ => next)
        · refine ev_neg (by omega) ?_
          rw [if_neg (by rintro ⟨c, hc, _⟩; unfold prevOf at hc; rw [if_pos (by omega)] at hc; cases hc)]
          exact next
    · refine ev_neg hb ?_
      rw [if_neg (fun h => hb h.1)]
      exact Ev.step (fun _ => spec_FramesOk.j2.eq_2 ..) (ev_pos rfl (ev_ret rfl))
theorem spec_FramesOk_ev (total : Int) {l : List S73} (hl : l.length ≤ 1099511627776) : Ev (fun k => spec_FramesOk.f k total l) (framesOk total l) := by
  unfold spec_FramesOk.f framesOk
  have bad : Ev (fun k => spec_FramesOk.j0 k true total l) false := Ev.step (fun _ => spec_FramesOk.j0.eq_2 ..) (ev_pos rfl (ev_ret rfl))
  by_cases h : total < 0 ∨ total > 1024
  · rw [if_pos h]
    refine ev_split (fun _ => bad) (fun h1 => ?_)
    rw [decide_eq_true (by omega)]; exact bad
  · rw [if_neg h]
    refine ev_neg (by omega) ?_
    rw [decide_eq_false (by omega)]
    exact Ev.step (fun _ => spec_FramesOk.j0.eq_2 ..) (ev_neg (by decide) (spec_FramesOk_l0 total (by omega) (by omega) l hl l.length 0 0 (by omega) (by omega) (by omega)))
theorem impl_FramesOk_l0 (total : Int) (ht0 : 0 ≤ total) (ht : total ≤ 1024) (l : List S73) (hl : l.length ≤ 1099511627776) : ∀ (d i : Nat) (e : Int), i + d = l.length → 0 ≤ e → e ≤ 2048 → (∀ c, prevOf l i = some c → e = c.f0 + p2 c.f1) → Ev (fun k => impl_FramesOk.l0 k e l (l.length : Int) (i : Int) total l) (blksOk total (prevOf l i) e (l.drop i)) := by
  intro d
  induction d with
  | zero =>
    intro i e h he he2 hpe
    rw [List.drop_eq_nil_of_le (by omega)]
    exact Ev.step (fun _ => impl_FramesOk.l0.eq_2 ..) (ev_neg (by omega) (ev_ret rfl))
  | succ d ih =>
    intro i e h he he2 hpe
    have hi : i < l.length := by omega
    have er : rd_T73 l (i : Int) = l[i] := getD_nat _ hi
    rw [List.drop_eq_getElem_cons hi, blksOk]
    refine Ev.step (fun _ => impl_FramesOk.l0.eq_2 ..) (ev_pos (by omega) (ev_pos (by omega) (ev_pos (by omega) ?_)))
    rw [er]
    have hps : prevOf l (i + 1) = some l[i] := prev_succ hi
    obtain ⟨b, hbe⟩ : ∃ b, b = l[i] := ⟨_, rfl⟩
    rw [← hbe] at hps ⊢
    clear hbe er
    refine ev_bind0 (impl_blockOk_eq (by omega)) ?_
    by_cases hb : blkOk total b.f0 b.f1 = true
    · refine ev_pos hb ?_
      by_cases hlt : b.f0 < e
      · rw [decide_eq_true hlt, if_neg (fun h => h.2 hlt)]
        exact Ev.step (fun _ => impl_FramesOk.j2.eq_2 ..) (ev_pos rfl (ev_ret rfl))
      · rw [decide_eq_false hlt, if_pos ⟨hb, hlt⟩]
        have hbb := blkOk_iff.1 hb
        have hpb := p2_bd (o := b.f1) (by omega) (by omega)
        refine Ev.step (fun _ => impl_FramesOk.j2.eq_2 ..) (ev_neg (by decide) (ev_pos (by omega) ?_))
        rw [shl_p2 (by omega) (by omega), w64_id (x := b.f0 + p2 b.f1) (by omega) (by omega), w64_id (x := 2 * p2 b.f1) (by omega) (by omega), w64_succ hi (by omega), w64_id (x := b.f0 - p2 b.f1) (by omega) (by omega)]
        have next := ih (i + 1) (b.f0 + p2 b.f1) (by omega) (by omega) (by omega) (by rw [hps]; rintro c hc; cases hc; rfl)
        rw [hps] at next
        by_cases hi0 : 0 < i
        · refine ev_pos (by omega) ?_
          rw [w64_id (x := (i : Int) - 1) (by omega) (by omega), show (i : Int) - 1 = ((i - 1 : Nat) : Int) by omega]
          have ep : rd_T73 l ((i - 1 : Nat) : Int) = l[i - 1] := getD_nat _ (by omega)
          have hpr := prev_some hi0 (show i ≤ l.length by omega)
          have hpe2 := hpe _ hpr
          rw [ep, hpr]
          generalize l[i - 1] = c at *
          refine ev_pos (by omega) (ev_pos (by omega) ?_)
          by_cases hj : blkJoin (some c) e b
          · rw [if_pos hj]
            obtain ⟨c', hc', j1, j2, j3, j4⟩ := hj
            cases hc'
            rw [j1] at hpe2
            exact ev_pos j1 (ev_pos j2 (ev_pos (by omega) (ev_neg (by omega) (ev_pos j4 (ev_ret rfl)))))
          · rw [if_neg hj]
            refine ev_split (fun j1 => ev_split (fun j2 => ev_split (fun j3 => ev_neg (by omega) (ev_neg (fun j4 => hj ⟨c, rfl, j1, j2, by rw [j1] at hpe2; omega, j4⟩) next)) (fun _ => next)) (fun _ => next)) (fun _ => next)
        · refine ev_neg (by omega) ?_
          rw [if_neg (by rintro ⟨c, hc, _⟩; unfold prevOf at hc; rw [if_pos (by omega)] at hc; cases hc)]
          exact next
    · refine ev_neg hb ?_
      rw [if_neg (fun h => hb h.1)]
      exact Ev.step (fun _ => impl_FramesOk.j2.eq_2 ..) (ev_pos rfl (ev_ret rfl))
theorem impl_FramesOk_ev (total : Int) {l : List S73} (hl : l.length ≤ 1099511627776) : Ev (fun k => impl_FramesOk.f k total l) (framesOk total l) := by
  unfold impl_FramesOk.f framesOk
  have bad : Ev (fun k => impl_FramesOk.j0 k true total l) false := Ev.step (fun _ => impl_FramesOk.j0.eq_2 ..) (ev_pos rfl (ev_ret rfl))
  by_cases h : total < 0 ∨ total > 1024
  · rw [if_pos h]
    refine ev_split (fun _ => bad) (fun h1 => ?_)
    rw [decide_eq_true (by omega)]; exact bad
  · rw [if_neg h]
    refine ev_neg (by omega) ?_
    rw [decide_eq_false (by omega)]
    exact Ev.step (fun _ => impl_FramesOk.j0.eq_2 ..) (ev_neg (by decide) (impl_FramesOk_l0 total (by omega) (by omega) l hl l.length 0 0 (by omega) (by omega) (by omega) (by intro c hc; unfold prevOf at hc; rw [if_pos rfl] at hc; cases hc)))
theorem whole_mono {m : List Bool} {a n k : Nat} (h : impl_framesOf.whole m a n) (hk : k ≤ n) : impl_framesOf.whole m a k := ⟨by have := h.1; omega, fun i hi => h.2 i (by omega)⟩
def ordG (m : List Bool) (a : Nat) : Nat → Nat → Nat
  | 0, k => k
  | d + 1, k => if a % 2 ^ (k + 1) = 0 ∧ impl_framesOf.whole m a (2 ^ (k + 1)) then ordG m a d (k + 1) else k
theorem ordG_le (m : List Bool) (a : Nat) : ∀ (d k : Nat), k ≤ ordG m a d k ∧ ordG m a d k ≤ k + d := by
  intro d
  induction d with
  | zero => intro k; exact ⟨Nat.le_refl _, Nat.le_refl _⟩
  | succ d ih =>
    intro k
    rw [ordG]
    by_cases h : a % 2 ^ (k + 1) = 0 ∧ impl_framesOf.whole m a (2 ^ (k + 1))
    · rw [if_pos h]; have := ih (k + 1); omega
    · rw [if_neg h]; omega
theorem ordG_eq {m : List Bool} {a o : Nat} (ho : o ≤ 10) (al : a % 2 ^ o = 0) (w : impl_framesOf.whole m a (2 ^ o)) (st : o = 10 ∨ ¬ (a % 2 ^ (o + 1) = 0 ∧ impl_framesOf.whole m a (2 ^ (o + 1)))) : ∀ (d k : Nat), d + k = 10 → k ≤ o → ordG m a d k = o := by
  intro d
  induction d with
  | zero => intro k h hk; rw [ordG]; omega
  | succ d ih =>
    intro k h hk
    rw [ordG]
    by_cases e : k = o
    · subst e; exact if_neg (st.resolve_left (by omega))
    · have hd : (2 : Nat) ^ (k + 1) ∣ 2 ^ o := Nat.pow_dvd_pow 2 (by omega)
      rw [if_pos ⟨Nat.mod_eq_zero_of_dvd (Nat.dvd_trans hd (Nat.dvd_of_mod_eq_zero al)), whole_mono w (Nat.le_of_dvd (Nat.two_pow_pos o) hd)⟩]
      exact ih (k + 1) (by omega) (by omega)
theorem ordG_whole {m : List Bool} {a : Nat} : ∀ (d k : Nat), impl_framesOf.whole m a (2 ^ k) → impl_framesOf.whole m a (2 ^ ordG m a d k) := by
  intro d
  induction d with
  | zero => intro k h; exact h
  | succ d ih =>
    intro k h
    rw [ordG]
    by_cases c : a % 2 ^ (k + 1) = 0 ∧ impl_framesOf.whole m a (2 ^ (k + 1))
    · rw [if_pos c]; exact ih _ c.2
    · rw [if_neg c]; exact h
def listG (m : List Bool) (a : Nat) : List S73 :=
  if h : a < m.length then
    if m[a] = true then ⟨(a : Int), (ordG m a 10 0 : Nat)⟩ :: listG m (a + 2 ^ ordG m a 10 0) else listG m (a + 1)
  else []
termination_by m.length - a
decreasing_by
  · have := Nat.two_pow_pos (ordG m a 10 0); omega
  · omega
theorem listG_end {m : List Bool} {a : Nat} (h : m.length ≤ a) : listG m a = [] := by rw [listG]; exact dif_neg (by omega)
theorem listG_whole {m : List Bool} {a o : Nat} (ha : a < m.length) (ho : o ≤ 10) (al : a % 2 ^ o = 0) (w : impl_framesOf.whole m a (2 ^ o)) (st : o = 10 ∨ ¬ (a % 2 ^ (o + 1) = 0 ∧ impl_framesOf.whole m a (2 ^ (o + 1)))) : listG m a = ⟨(a : Int), (o : Nat)⟩ :: listG m (a + 2 ^ o) := by
  have e := ordG_eq ho al w st 10 0 rfl (by omega)
  have t := (w.2 0 (Nat.two_pow_pos o))
  rw [Nat.add_zero, List.getElem?_eq_getElem ha] at t
  rw [listG, dif_pos ha, if_pos (Option.some.inj t), e]
theorem listG_walk (m : List Bool) : ∀ (o a : Nat), o ≤ 10 → a % 2 ^ o = 0 → (o = 10 ∨ ¬ (a % 2 ^ (o + 1) = 0 ∧ impl_framesOf.whole m a (2 ^ (o + 1)))) → listG m a = impl_framesOf.walk m o a ++ listG m (a + 2 ^ o) := by
  intro o
  induction o with
  | zero =>
    intro a ho al st
    rw [impl_framesOf.walk]
    by_cases h : m.length ≤ a
    · rw [if_pos h, listG_end h, listG_end (by omega)]; rfl
    · rw [if_neg h]
      by_cases w : impl_framesOf.whole m a (2 ^ 0)
      · rw [if_pos w, listG_whole (by omega) ho al w st]; rfl
      · rw [if_neg w, List.nil_append, listG, dif_pos (by omega), if_neg (fun t => w ⟨by omega, fun i hi => by
          obtain rfl : i = 0 := by omega
          rw [Nat.add_zero, List.getElem?_eq_getElem (by omega), t]⟩)]
  | succ o ih =>
    intro a ho al st
    rw [impl_framesOf.walk]
    have hp : 2 ^ (o + 1) = 2 ^ o * 2 := Nat.pow_succ 2 o
    have h0 := Nat.two_pow_pos o
    by_cases h : m.length ≤ a
    · rw [if_pos h, listG_end h, listG_end (by omega)]; rfl
    · rw [if_neg h]
      by_cases w : impl_framesOf.whole m a (2 ^ (o + 1))
      · rw [if_pos w, listG_whole (by omega) ho al w st]; rfl
      · rw [if_neg w]
        have hd := Nat.dvd_of_mod_eq_zero al
        have hdo : 2 ^ o ∣ a := Nat.dvd_trans ⟨2, hp⟩ hd
        have hna : ¬ (a + 2 ^ o) % 2 ^ (o + 1) = 0 := by
          intro hh
          have := (Nat.dvd_add_right hd).1 (Nat.dvd_of_mod_eq_zero hh)
          have := Nat.le_of_dvd h0 this
          omega
        rw [ih a (by omega) (Nat.mod_eq_zero_of_dvd hdo) (Or.inr (fun hh => w hh.2)), ih (a + 2 ^ o) (by omega) (Nat.mod_eq_zero_of_dvd (Nat.dvd_add hdo (Nat.dvd_refl _))) (Or.inr (fun hh => hna hh.1)), List.append_assoc, show a + 2 ^ o + 2 ^ o = a + 2 ^ (o + 1) by omega]
theorem listG_all {m : List Bool} (h : m.length ≤ 1024) : listG m 0 = impl_framesOf.walk m 10 0 := by
  rw [listG_walk m 10 0 (by omega) (Nat.zero_mod _) (Or.inl rfl), listG_end (by omega), List.append_nil]
theorem impl_framesOf_eq {m : List Bool} (h : m.length ≤ 1024) : impl_framesOf.f m = some ((m.length : Int), listG m 0) := by
  unfold impl_framesOf.f; rw [if_pos h, listG_all h]
theorem rdb_nat {m : List Bool} {n : Nat} (h : n < m.length) : rdOf false m (n : Int) = m[n] := getD_nat false h
/-- Positions a, a + 1, .. (n of them) set to v. -/
def setRun (v : Bool) : List Bool → Nat → Nat → List Bool
  | m, _, 0 => m
  | m, a, n + 1 => setRun v (m.set a v) (a + 1) n
theorem setRun_len (v : Bool) : ∀ (n a : Nat) (m : List Bool), (setRun v m a n).length = m.length := by
  intro n
  induction n with
  | zero => intro a m; rfl
  | succ n ih => intro a m; rw [setRun, ih, List.length_set]
theorem spec_l8Whole_l0 {m : List Bool} {a n : Nat} (hb : a + n ≤ m.length) (hm : m.length ≤ 1048576) : ∀ (d i : Nat), i + d = n → (∀ j, j < i → m[a + j]? = some true) → Ev (fun k => spec_l8Whole.l0 k m (a : Int) (n : Int) (i : Int)) (decide (impl_framesOf.whole m a n)) := by
  intro d
  induction d with
  | zero =>
    intro i h hi
    exact Ev.step (fun _ => spec_l8Whole.l0.eq_2 ..) (ev_neg (by omega) (ev_ret (decide_eq_true (show impl_framesOf.whole m a n from ⟨hb, fun j hj => hi j (by omega)⟩)).symm))
  | succ d ih =>
    intro i h hi
    have hl : a + i < m.length := by omega
    have e : wrap64 ((a : Int) + (i : Int)) = ((a + i : Nat) : Int) := by rw [w64_id (by omega) (by omega)]; omega
    have e1 : wrap64 ((i : Int) + 1) = ((i + 1 : Nat) : Int) := by rw [w64_id (by omega) (by omega)]; omega
    refine Ev.step (fun _ => spec_l8Whole.l0.eq_2 ..) (ev_pos (by omega) ?_)
    rw [e, e1]
    refine ev_pos (by omega) (ev_pos (by omega) ?_)
    rw [rdb_nat hl]
    by_cases hc : m[a + i] = true
    · refine ev_pos hc (ih (i + 1) (by omega) (fun j hj => ?_))
      by_cases e2 : j = i
      · subst e2; rw [List.getElem?_eq_getElem hl, hc]
      · exact hi j (by omega)
    · refine ev_neg hc (ev_ret (decide_eq_false (fun w => hc ?_)).symm)
      have := w.2 i (by omega)
      rw [List.getElem?_eq_getElem hl] at this
      exact Option.some.inj this
theorem spec_l8Whole_ev {m : List Bool} {a n : Nat} (hm : m.length ≤ 1048576) (ha : a + n ≤ 1048576) : Ev (fun k => spec_l8Whole.f k m (a : Int) (n : Int)) (decide (impl_framesOf.whole m a n)) := by
  unfold spec_l8Whole.f
  have e : wrap64 ((a : Int) + (n : Int)) = ((a + n : Nat) : Int) := by rw [w64_id (by omega) (by omega)]; omega
  rw [e]
  by_cases h : a + n ≤ m.length
  · exact ev_neg (by omega) (spec_l8Whole_l0 h hm n 0 (by omega) (fun j hj => by omega))
  · exact ev_pos (by omega) (ev_ret (decide_eq_false (fun w => h w.1)).symm)
theorem p2_nat (o : Nat) : p2 (o : Int) = ((2 ^ o : Nat) : Int) := rfl
theorem pow_le_1024 {o : Nat} (h : o ≤ 10) : 2 ^ o ≤ 1024 := by
  have := Nat.pow_le_pow_right (n := 2) (by decide) h
  have h4 : (2 : Nat) ^ 10 = 1024 := by decide
  omega
theorem spec_l8List_l1 {m : List Bool} (hm : m.length ≤ 1024) {a : Nat} (ha : a ≤ 1024) {total : Int} {acc : List S73} (hacc : acc.length ≤ 1024) {r : Int × List S73} : ∀ (d o : Nat), d + o = 10 →
    Ev (fun k => spec_l8List.l0 k m ((a + 2 ^ ordG m a d o : Nat) : Int) total (acc ++ [(⟨(a : Int), ((ordG m a d o : Nat) : Int)⟩ : S73)])) r → Ev (fun k => spec_l8List.l1 k m (a : Int) (o : Int) total acc) r := by
  intro d
  induction d with
  | zero =>
    intro o h hr
    obtain rfl : o = 10 := by omega
    have hp := pow_le_1024 (show 10 ≤ 10 by omega)
    refine Ev.step (fun _ => spec_l8List.l1.eq_2 ..) (ev_neg (by omega) (ev_pos (by omega) ?_))
    refine Ev.bind (spec_l8Len_ev (o := ((10 : Nat) : Int)) (by omega) (by omega)) ?_
    rw [p2_nat, w64_id (by omega) (by omega), ← Int.natCast_add]
    exact hr
  | succ d ih =>
    intro o h hr
    have e1 : wrap64 ((o : Int) + 1) = ((o + 1 : Nat) : Int) := by rw [w64_id (by omega) (by omega)]; omega
    have hp0 := Nat.two_pow_pos (o + 1)
    have hp1 := pow_le_1024 (show o + 1 ≤ 10 by omega)
    have hpo := pow_le_1024 (show o ≤ 10 by omega)
    have stop : (¬ (a % 2 ^ (o + 1) = 0 ∧ impl_framesOf.whole m a (2 ^ (o + 1)))) → Ev (fun k => if acc.length < 8796093022208 then ((spec_l8Len.f k (o : Int)).bind fun t158 => (spec_l8List.l0 k m (wrap64 ((a : Int) + t158)) total (acc ++ [(⟨(a : Int), (o : Int)⟩ : S73)]))) else none) r := by
      intro hn
      rw [ordG, if_neg hn] at hr
      refine ev_pos (by omega) (Ev.bind (spec_l8Len_ev (o := (o : Int)) (by omega) (by omega)) ?_)
      rw [p2_nat, w64_id (by omega) (by omega), ← Int.natCast_add]
      exact hr
    refine Ev.step (fun _ => spec_l8List.l1.eq_2 ..) (ev_pos (by omega) ?_)
    rw [e1]
    refine Ev.bind (spec_l8Len_ev (o := ((o + 1 : Nat) : Int)) (by omega) (by omega)) (ev_neg (by rw [p2_nat]; omega) ?_)
    rw [p2_nat, tmod_nat]
    by_cases c1 : a % 2 ^ (o + 1) = 0
    · refine ev_pos (by rw [c1]; rfl) (Ev.bind (spec_l8Len_ev (o := ((o + 1 : Nat) : Int)) (by omega) (by omega)) ?_)
      rw [p2_nat]
      refine Ev.bind (spec_l8Whole_ev (by omega) (by omega)) ?_
      by_cases c2 : impl_framesOf.whole m a (2 ^ (o + 1))
      · rw [decide_eq_true c2]
        rw [ordG, if_pos ⟨c1, c2⟩] at hr
        exact ev_pos rfl (ih (o + 1) (by omega) hr)
      · rw [decide_eq_false c2]
        exact ev_neg (by decide) (stop (fun h => c2 h.2))
    · exact ev_neg (by omega) (stop (fun h => c1 h.1))
theorem spec_l8List_l0 {m : List Bool} (hm : m.length ≤ 1024) {total : Int} : ∀ (d a : Nat) (acc : List S73), m.length ≤ a + d → a ≤ 1024 + 1024 → acc.length ≤ a → Ev (fun k => spec_l8List.l0 k m (a : Int) total acc) (total, acc ++ listG m a) := by
  intro d
  induction d with
  | zero =>
    intro a acc h ha hacc
    rw [listG_end (by omega), List.append_nil]
    exact Ev.step (fun _ => spec_l8List.l0.eq_2 ..) (ev_neg (by omega) (ev_ret rfl))
  | succ d ih =>
    intro a acc h ha hacc
    by_cases hl : a < m.length
    · refine Ev.step (fun _ => spec_l8List.l0.eq_2 ..) (ev_pos (by omega) (ev_pos (by omega) ?_))
      rw [rdb_nat hl]
      have ho := ordG_le m a 10 0
      have hp0 := Nat.two_pow_pos (ordG m a 10 0)
      have hp1 := pow_le_1024 (o := ordG m a 10 0) (by omega)
      rw [listG, dif_pos hl]
      by_cases hc : m[a] = true
      · rw [if_pos hc]
        refine ev_pos hc ?_
        have := spec_l8List_l1 (r := (total, acc ++ ⟨(a : Int), ((ordG m a 10 0 : Nat) : Int)⟩ :: listG m (a + 2 ^ ordG m a 10 0))) hm (a := a) (by omega) (total := total) (acc := acc) (by omega) 10 0 (by omega) ?_
        · exact this
        · have h2 := ih (a + 2 ^ ordG m a 10 0) (acc ++ [⟨(a : Int), ((ordG m a 10 0 : Nat) : Int)⟩]) (by omega) (by omega) (by rw [List.length_append, List.length_singleton]; omega)
          rw [List.append_assoc, List.singleton_append] at h2
          exact h2
      · rw [if_neg hc]
        refine ev_neg hc ?_
        rw [show wrap64 ((a : Int) + 1) = ((a + 1 : Nat) : Int) by rw [w64_id (by omega) (by omega)]; omega]
        exact ih (a + 1) acc (by omega) (by omega) (by omega)
    · rw [listG_end (by omega), List.append_nil]
      exact Ev.step (fun _ => spec_l8List.l0.eq_2 ..) (ev_neg (by omega) (ev_ret rfl))
theorem spec_l8List_ev {m : List Bool} (hm : m.length ≤ 1024) : Ev (fun k => spec_l8List.f k m) ((m.length : Int), listG m 0) := by
  unfold spec_l8List.f
  have := spec_l8List_l0 hm (total := (m.length : Int)) m.length 0 [] (by omega) (by omega) (by simp)
  rw [List.nil_append] at this
  exact this
def markB (k : Int) (n : Nat) : List S73 := (List.range n).map fun j : Nat => ⟨k + 2 * (j : Int), k + 2 * (j : Int) + 1⟩
theorem markB_len (k : Int) (n : Nat) : (markB k n).length = n := by simp [markB]
theorem markB_get (k : Int) {n j : Nat} (h : j < n) : (markB k n)[j]? = some ⟨k + 2 * (j : Int), k + 2 * (j : Int) + 1⟩ := by
  simp [markB, List.getElem?_range h]
theorem laws_markBlockS_l0 (n : Nat) (k0 : Int) (hk : 0 ≤ k0) (hk2 : k0 + 2 * n ≤ 4611686018427387904) : ∀ (d i : Nat) (xs : List S73), i + d = n → xs.length = n → (∀ j, j < i → xs[j]? = (markB k0 n)[j]?) → Ev (fun k => laws_markBlockS.l0 k xs (k0 + 2 * (i : Int)) (i : Int)) (k0 + 2 * (n : Int), markB k0 n) := by
  intro d
  induction d with
  | zero =>
    intro i xs h hx he
    refine Ev.step (fun _ => laws_markBlockS.l0.eq_2 ..) ?_
    refine ev_neg (by omega) (ev_ret ?_)
    refine Prod.ext (by simp only; omega) ?_
    apply List.ext_getElem?
    intro j
    by_cases hj : j < n
    · exact he j (by omega)
    · rw [List.getElem?_eq_none (show xs.length ≤ j by omega), List.getElem?_eq_none (by rw [markB_len]; omega)]
  | succ d ih =>
    intro i xs h hx he
    refine Ev.step (fun _ => laws_markBlockS.l0.eq_2 ..) ?_
    have e1 : wrap64 ((i : Int) + 1) = ((i + 1 : Nat) : Int) := by rw [w64_id (by omega) (by omega)]; omega
    have e2 : wrap64 (k0 + 2 * (i : Int) + 1) = k0 + 2 * (i : Int) + 1 := by rw [w64_id (by omega) (by omega)]
    have e3 : wrap64 (k0 + 2 * (i : Int) + 1 + 1) = k0 + 2 * ((i + 1 : Nat) : Int) := by rw [w64_id (by omega) (by omega)]; omega
    refine ev_pos (by omega) (ev_pos (by omega) (Ev.bind (Ev.now _) ?_))
    rw [e1, e2, e3, Int.toNat_natCast]
    have er : rd_T73 (xs.set i (⟨k0 + 2 * (i : Int), (rd_T73 xs (i : Int)).f1⟩ : S73)) (i : Int) = ⟨k0 + 2 * (i : Int), (rd_T73 xs (i : Int)).f1⟩ := getD_set _ _ (by omega)
    rw [er, List.set_set]
    refine ih (i + 1) _ (by omega) (by rw [List.length_set]; exact hx) ?_
    intro j hj
    by_cases hji : j = i
    · subst hji
      rw [List.getElem?_set_self (by omega), markB_get k0 (by omega)]
    · rw [List.getElem?_set_ne (by omega)]
      exact he j (by omega)
theorem laws_markBlockS_ev (xs : List S73) {k0 : Int} (hk : 0 ≤ k0) (hk2 : k0 + 2 * (xs.length : Int) ≤ 4611686018427387904) : Ev (fun k => laws_markBlockS.f k xs k0) (k0 + 2 * (xs.length : Int), markB k0 xs.length) := by
  unfold laws_markBlockS.f
  have := laws_markBlockS_l0 xs.length k0 hk hk2 xs.length 0 xs (by omega) rfl (fun j hj => by omega)
  rw [show k0 + 2 * ((0 : Nat) : Int) = k0 by omega] at this
  exact this
theorem laws_heldBlockS_l0 (n : Nat) (k0 : Int) (hk : 0 ≤ k0) (hk2 : k0 + 2 * n ≤ 4611686018427387904) : ∀ (d i : Nat), i + d = n → Ev (fun k => laws_heldBlockS.l0 k (markB k0 n) (k0 + 2 * (i : Int)) (i : Int)) (k0 + 2 * (n : Int)) := by
  intro d
  induction d with
  | zero =>
    intro i h
    refine Ev.step (fun _ => laws_heldBlockS.l0.eq_2 ..) ?_
    refine ev_neg (by rw [markB_len]; omega) (ev_ret (by omega))
  | succ d ih =>
    intro i h
    refine Ev.step (fun _ => laws_heldBlockS.l0.eq_2 ..) ?_
    have e1 : wrap64 ((i : Int) + 1) = ((i + 1 : Nat) : Int) := by rw [w64_id (by omega) (by omega)]; omega
    have e2 : wrap64 (k0 + 2 * (i : Int) + 1) = k0 + 2 * (i : Int) + 1 := by rw [w64_id (by omega) (by omega)]
    have e3 : wrap64 (k0 + 2 * (i : Int) + 1 + 1) = k0 + 2 * ((i + 1 : Nat) : Int) := by rw [w64_id (by omega) (by omega)]; omega
    have hl : i < (markB k0 n).length := by rw [markB_len]; omega
    have e4 : (markB k0 n)[i] = ⟨k0 + 2 * (i : Int), k0 + 2 * (i : Int) + 1⟩ := by
      have := markB_get k0 (n := n) (j := i) (by omega)
      rw [List.getElem?_eq_getElem hl] at this
      exact Option.some.inj this
    have er : rd_T73 (markB k0 n) (i : Int) = ⟨k0 + 2 * (i : Int), k0 + 2 * (i : Int) + 1⟩ := (getD_nat _ hl).trans e4
    rw [er, e1, e2, e3]
    exact ev_pos (by omega) (ev_pos (by omega) (ev_pos rfl (ev_pos rfl (ih (i + 1) (by omega)))))
theorem laws_heldBlockS_ev (n : Nat) {k0 : Int} (hk : 0 ≤ k0) (hk2 : k0 + 2 * n ≤ 4611686018427387904) : Ev (fun k => laws_heldBlockS.f k (markB k0 n) k0) (k0 + 2 * (n : Int)) := by
  unfold laws_heldBlockS.f
  have := laws_heldBlockS_l0 n k0 hk hk2 n 0 (by omega)
  rw [show k0 + 2 * ((0 : Nat) : Int) = k0 by omega] at this
  exact this
theorem laws_markFrames_ev (n : Int) {xs : List S73} (hl : xs.length ≤ 1099511627776) : Ev (fun k => laws_markFrames.f k n xs 1) (1 + 2 * (xs.length : Int), markB 1 xs.length) := by
  unfold laws_markFrames.f
  exact Ev.bind (laws_markBlockS_ev xs (by omega) (by omega)) (ev_ret rfl)
theorem laws_heldFrames_ev (n : Int) {m : Nat} (hl : m ≤ 1099511627776) : Ev (fun k => laws_heldFrames.f k n (markB 1 m) 1) (1 + 2 * (m : Int)) := by
  unfold laws_heldFrames.f
  exact Ev.bind (laws_heldBlockS_ev m (by omega) (by omega)) (ev_neg (by omega) (ev_ret rfl))
theorem listG_len {m : List Bool} : ∀ (d a : Nat), m.length ≤ a + d → (listG m a).length ≤ d := by
  intro d
  induction d with
  | zero => intro a h; rw [listG_end (by omega)]; exact Nat.le_refl _
  | succ d ih =>
    intro a h
    by_cases hl : a < m.length
    · rw [listG, dif_pos hl]
      have hp0 := Nat.two_pow_pos (ordG m a 10 0)
      split
      · have := ih (a + 2 ^ ordG m a 10 0) (by omega)
        rw [List.length_cons]; omega
      · have := ih (a + 1) (by omega)
        omega
    · rw [listG_end (by omega)]; exact Nat.zero_le _
theorem listG_short {m : List Bool} (h : m.length ≤ 1024) : (listG m 0).length ≤ 1099511627776 := by
  have := listG_len (m := m) 1024 0 (by omega)
  omega
/-- A block that lies in a set of that many frames. -/
def fits (n : Nat) (b : S73) : Prop := ∃ a o : Nat, b = ⟨(a : Int), (o : Int)⟩ ∧ o ≤ 10 ∧ a + 2 ^ o ≤ n
theorem blkOk_fits {total a o : Int} (h : blkOk total a o = true) : fits total.toNat ⟨a, o⟩ := by
  have hb := blkOk_iff.1 h
  refine ⟨a.toNat, o.toNat, ?_, by omega, ?_⟩
  · rw [show ((a.toNat : Nat) : Int) = a by omega, show ((o.toNat : Nat) : Int) = o by omega]
  · have : p2 o = ((2 ^ o.toNat : Nat) : Int) := rfl
    omega
theorem blksOk_fits {total : Int} : ∀ (l : List S73) (p : Option S73) (e : Int), blksOk total p e l = true → ∀ b ∈ l, fits total.toNat b := by
  intro l
  induction l with
  | nil => intro p e _ b hb; cases hb
  | cons c l ih =>
    intro p e h b hb
    rw [blksOk] at h
    by_cases h1 : blkOk total c.f0 c.f1 = true ∧ ¬ c.f0 < e
    · rw [if_pos h1] at h
      by_cases h2 : blkJoin p e c
      · rw [if_pos h2] at h; exact absurd h (by decide)
      · rw [if_neg h2] at h
        rcases List.mem_cons.1 hb with rfl | hb
        · exact blkOk_fits h1.1
        · exact ih _ _ h b hb
    · rw [if_neg h1] at h; exact absurd h (by decide)
theorem framesOk_fits {total : Int} {l : List S73} (h : framesOk total l = true) : ∃ n : Nat, total = (n : Int) ∧ n ≤ 1024 ∧ ∀ b ∈ l, fits n b := by
  unfold framesOk at h
  by_cases hb : total < 0 ∨ total > 1024
  · rw [if_pos hb] at h; exact absurd h (by decide)
  · rw [if_neg hb] at h
    exact ⟨total.toNat, by omega, by omega, blksOk_fits _ _ _ h⟩
def setAll : List Bool → List S73 → List Bool
  | m, [] => m
  | m, b :: bs => setAll (setRun true m b.f0.toNat (2 ^ b.f1.toNat)) bs
theorem setAll_len : ∀ (l : List S73) (m : List Bool), (setAll m l).length = m.length := by
  intro l
  induction l with
  | nil => intro m; rfl
  | cons b l ih => intro m; rw [setAll, ih, setRun_len]
def mapOf (n : Nat) (l : List S73) : List Bool := setAll (List.replicate n false) l
theorem mapOf_len (n : Nat) (l : List S73) : (mapOf n l).length = n := by rw [mapOf, setAll_len, List.length_replicate]
theorem pow_1024 {o : Nat} (h : o ≤ 10) : 2 ^ o ≤ 1024 := by
  have := Nat.pow_le_pow_right (n := 2) (by decide) h
  have h4 : (2 : Nat) ^ 10 = 1024 := by decide
  omega
/-- All of a run hold v. -/
def allv (v : Bool) (m : List Bool) (a n : Nat) : Prop := ∀ i, i < n → m[a + i]? = some v
instance (v : Bool) (m : List Bool) (a n : Nat) : Decidable (allv v m a n) := by unfold allv; exact inferInstance
theorem whole_allv {m : List Bool} {a n : Nat} (h : a + n ≤ m.length) : impl_framesOf.whole m a n ↔ allv true m a n := ⟨fun w => w.2, fun w => ⟨h, w⟩⟩
theorem allv_zero (v : Bool) (m : List Bool) (a : Nat) : allv v m a 0 := fun i hi => absurd hi (Nat.not_lt_zero i)
theorem allv_succ {v : Bool} {m : List Bool} {a n : Nat} : allv v m a (n + 1) ↔ m[a]? = some v ∧ allv v m (a + 1) n := by
  constructor
  · intro h
    refine ⟨h 0 (by omega), fun i hi => ?_⟩
    have := h (i + 1) (by omega)
    rw [show a + 1 + i = a + (i + 1) by omega]; exact this
  · intro h i hi
    cases i with
    | zero => exact h.1
    | succ i => have := h.2 i (by omega); rw [show a + (i + 1) = a + 1 + i by omega]; exact this
theorem allv_set {v u : Bool} {m : List Bool} {a n : Nat} : allv v (m.set a u) (a + 1) n ↔ allv v m (a + 1) n := by
  constructor
  · intro h i hi
    have := h i hi
    rw [List.getElem?_set_ne (by omega)] at this
    exact this
  · intro h i hi
    rw [List.getElem?_set_ne (by omega)]
    exact h i hi
theorem spec_l8Set_l1 {n : Nat} (hn : n ≤ 1024) {l : List S73} (hl : l.length ≤ 1099511627776) {i a o : Nat} (hi : i < l.length) (hb : l[i] = ⟨(a : Int), (o : Int)⟩) (ho : o ≤ 10) (hao : a + 2 ^ o ≤ n) {tot : Int} {r : List Bool} : ∀ (d j : Nat) (m : List Bool), j + d = 2 ^ o → m.length = n →
    Ev (fun k => spec_l8Set.l0 k (setRun true m (a + j) d) ((i + 1 : Nat) : Int) tot l) r → Ev (fun k => spec_l8Set.l1 k m (i : Int) (j : Int) tot l) r := by
  intro d
  have er : rd_T73 l (i : Int) = ⟨(a : Int), (o : Int)⟩ := (getD_nat _ hi).trans hb
  induction d with
  | zero =>
    intro j m h hm hr
    refine Ev.step (fun _ => spec_l8Set.l1.eq_2 ..) (ev_pos (by omega) (ev_pos (by omega) ?_))
    rw [er, w64_succ hi (by omega)]
    refine Ev.bind (spec_l8Len_ev (o := (o : Int)) (by omega) (by omega)) (ev_neg (by show ¬ (j : Int) < ((2 ^ o : Nat) : Int); omega) hr)
  | succ d ih =>
    intro j m h hm hr
    have e : wrap64 ((a : Int) + (j : Int)) = ((a + j : Nat) : Int) := by rw [w64_id (by omega) (by omega)]; omega
    have e1 : wrap64 ((j : Int) + 1) = ((j + 1 : Nat) : Int) := by rw [w64_id (by omega) (by omega)]; omega
    refine Ev.step (fun _ => spec_l8Set.l1.eq_2 ..) (ev_pos (by omega) (ev_pos (by omega) ?_))
    rw [er, w64_succ hi (by omega)]
    refine Ev.bind (spec_l8Len_ev (o := (o : Int)) (by omega) (by omega)) (ev_pos (by show (j : Int) < ((2 ^ o : Nat) : Int); omega) ?_)
    rw [e, e1, Int.toNat_natCast]
    have hlt : a + j < m.length := by omega
    refine ev_pos (Int.natCast_nonneg _) ?_
    refine ev_pos (Int.ofNat_lt.2 hlt) ?_
    rw [setRun] at hr
    exact ih (j + 1) (m.set (a + j) true) (by omega) (by rw [List.length_set]; exact hm) hr
theorem spec_l8Set_l0 {n : Nat} (hn : n ≤ 1024) {l : List S73} (hl : l.length ≤ 1099511627776) (hf : ∀ b ∈ l, fits n b) {tot : Int} : ∀ (d i : Nat) (m : List Bool), i + d = l.length → m.length = n → Ev (fun k => spec_l8Set.l0 k m (i : Int) tot l) (setAll m (l.drop i)) := by
  intro d
  induction d with
  | zero =>
    intro i m h hm
    rw [List.drop_eq_nil_of_le (by omega)]
    exact Ev.step (fun _ => spec_l8Set.l0.eq_2 ..) (ev_neg (by omega) (ev_ret rfl))
  | succ d ih =>
    intro i m h hm
    have hi : i < l.length := by omega
    obtain ⟨a, o, hb, ho, hao⟩ := hf _ (List.getElem_mem hi)
    rw [List.drop_eq_getElem_cons hi, setAll, hb]
    refine Ev.step (fun _ => spec_l8Set.l0.eq_2 ..) (ev_pos (by omega) ?_)
    refine spec_l8Set_l1 hn hl hi hb ho hao (2 ^ o) 0 m (by omega) hm ?_
    exact ih (i + 1) _ (by omega) (by rw [setRun_len]; exact hm)
theorem spec_l8Set_ev {n : Nat} (hn : n ≤ 1024) {l : List S73} (hl : l.length ≤ 1099511627776) (hf : ∀ b ∈ l, fits n b) : Ev (fun k => spec_l8Set.f k (n : Int) l) (mapOf n l) := by
  unfold spec_l8Set.f
  refine ev_pos (by omega) (ev_pos (by omega) ?_)
  have := spec_l8Set_l0 hn hl hf (tot := (n : Int)) l.length 0 (List.replicate n false) (by omega) (by simp)
  rw [List.drop_zero] at this
  rw [Int.toNat_natCast]
  exact this
theorem impl_freeMap_l1 {n : Nat} (hn : n ≤ 1024) {l : List S73} (hl : l.length ≤ 1099511627776) {i a o : Nat} (hi : i < l.length) (ho : o ≤ 10) (hao : a + 2 ^ o ≤ n) {y : Int} {r : List Bool} : ∀ (d j : Nat) (m : List Bool), j + d = 2 ^ o → m.length = n →
    Ev (fun k => impl_freeMap.l0 k (setRun true m (a + j) d) l (l.length : Int) ((i + 1 : Nat) : Int)) r → Ev (fun k => impl_freeMap.l1 k m l (l.length : Int) (i : Int) ((2 ^ o : Nat) : Int) (j : Int) (a : Int) y) r := by
  intro d
  induction d with
  | zero =>
    intro j m h hm hr
    refine Ev.step (fun _ => impl_freeMap.l1.eq_2 ..) (ev_neg (by omega) ?_)
    rw [w64_succ hi (by omega)]
    exact hr
  | succ d ih =>
    intro j m h hm hr
    have hp := pow_1024 ho
    have e : wrap64 ((a : Int) + (j : Int)) = ((a + j : Nat) : Int) := by rw [w64_id (by omega) (by omega)]; omega
    have e1 : wrap64 ((j : Int) + 1) = ((j + 1 : Nat) : Int) := by rw [w64_id (by omega) (by omega)]; omega
    refine Ev.step (fun _ => impl_freeMap.l1.eq_2 ..) (ev_pos (by omega) ?_)
    rw [e, e1, Int.toNat_natCast]
    have hlt : a + j < m.length := by omega
    refine ev_pos (Int.natCast_nonneg _) ?_
    refine ev_pos (Int.ofNat_lt.2 hlt) ?_
    rw [setRun] at hr
    exact ih (j + 1) (m.set (a + j) true) (by omega) (by rw [List.length_set]; exact hm) hr
theorem impl_freeMap_l0 {n : Nat} (hn : n ≤ 1024) {l : List S73} (hl : l.length ≤ 1099511627776) (hf : ∀ b ∈ l, fits n b) : ∀ (d i : Nat) (m : List Bool), i + d = l.length → m.length = n → Ev (fun k => impl_freeMap.l0 k m l (l.length : Int) (i : Int)) (setAll m (l.drop i)) := by
  intro d
  induction d with
  | zero =>
    intro i m h hm
    rw [List.drop_eq_nil_of_le (by omega)]
    exact Ev.step (fun _ => impl_freeMap.l0.eq_2 ..) (ev_neg (by omega) (ev_ret rfl))
  | succ d ih =>
    intro i m h hm
    have hi : i < l.length := by omega
    obtain ⟨a, o, hb, ho, hao⟩ := hf _ (List.getElem_mem hi)
    have er : rd_T73 l (i : Int) = ⟨(a : Int), (o : Int)⟩ := (getD_nat _ hi).trans hb
    rw [List.drop_eq_getElem_cons hi, setAll, hb]
    refine Ev.step (fun _ => impl_freeMap.l0.eq_2 ..) (ev_pos (by omega) (ev_pos (by omega) (ev_pos (by omega) ?_)))
    rw [er]
    refine ev_pos (by show (0 : Int) ≤ (o : Int); omega) ?_
    show Ev (fun k => impl_freeMap.l1 k m l (l.length : Int) (i : Int) (shl .i64 1 (o : Int)) 0 (a : Int) (o : Int)) _
    rw [shl_p2 (o := (o : Int)) (by omega) (by omega)]
    exact impl_freeMap_l1 hn hl hi ho hao (2 ^ o) 0 m (by omega) hm (ih (i + 1) _ (by omega) (by rw [setRun_len]; exact hm))
theorem impl_freeMap_ev {n : Nat} (hn : n ≤ 1024) {l : List S73} (hl : l.length ≤ 1099511627776) (hf : ∀ b ∈ l, fits n b) : Ev (fun k => impl_freeMap.f k (n : Int) l) (mapOf n l) := by
  unfold impl_freeMap.f
  refine ev_pos (by omega) (ev_pos (by omega) ?_)
  have := impl_freeMap_l0 hn hl hf l.length 0 (List.replicate n false) (by omega) (by simp)
  rw [List.drop_zero] at this
  rw [Int.toNat_natCast]
  exact this
theorem spec_l8Mark_l0 (v : Bool) {a n : Nat} : ∀ (d i : Nat) (m : List Bool), i + d = n → a + n ≤ m.length → m.length ≤ 1048576 → Ev (fun k => spec_l8Mark.l0 k m (a : Int) (n : Int) v (i : Int)) (setRun v m (a + i) d) := by
  intro d
  induction d with
  | zero => intro i m h hm hm2; exact Ev.step (fun _ => spec_l8Mark.l0.eq_2 ..) (ev_neg (by omega) (ev_ret rfl))
  | succ d ih =>
    intro i m h hm hm2
    have e : wrap64 ((a : Int) + (i : Int)) = ((a + i : Nat) : Int) := by rw [w64_id (by omega) (by omega)]; omega
    have e1 : wrap64 ((i : Int) + 1) = ((i + 1 : Nat) : Int) := by rw [w64_id (by omega) (by omega)]; omega
    refine Ev.step (fun _ => spec_l8Mark.l0.eq_2 ..) (ev_pos (by omega) ?_)
    rw [e, e1, Int.toNat_natCast]
    have hlt : a + i < m.length := by omega
    refine ev_pos (Int.natCast_nonneg _) ?_
    refine ev_pos (Int.ofNat_lt.2 hlt) ?_
    rw [setRun]
    exact ih (i + 1) _ (by omega) (by rw [List.length_set]; exact hm) (by rw [List.length_set]; exact hm2)
theorem spec_l8Mark_ev (v : Bool) {a n : Nat} {m : List Bool} (h : a + n ≤ m.length) (hm : m.length ≤ 1048576) : Ev (fun k => spec_l8Mark.f k m (a : Int) (n : Int) v) (setRun v m a n) := spec_l8Mark_l0 v n 0 m (by omega) h hm
theorem spec_l8Same_eq (t : Int) {l : List S73} (h : l.length ≤ 1099511627776) : spec_l8Same.f t l = some (t, l) := by
  unfold spec_l8Same.f
  rw [Option.bind_some, if_pos (by simp; omega), List.nil_append]
theorem impl_copyFrames_eq (t : Int) {l : List S73} (h : l.length ≤ 1099511627776) : impl_copyFrames.f t l = some (t, l) := by
  unfold impl_copyFrames.f
  rw [if_pos (by simp; omega), List.nil_append]
def bestGo (o : Int) (l : List S73) : List S73 → Nat → Int → Int
  | [], _, best => best
  | b :: bs, i, best => bestGo o l bs (i + 1) (if b.f1 ≥ o ∧ (best < 0 ∨ b.f1 < (rd_T73 l best).f1) then (i : Int) else best)
/-- No place yet, or the place of a block that is large enough. -/
def bestOk (o : Int) (l : List S73) (i : Nat) (best : Int) : Prop := best = -1 ∨ (0 ≤ best ∧ best < (i : Int) ∧ (rd_T73 l best).f1 ≥ o)
theorem bestOk_next {o : Int} {l : List S73} {i : Nat} {best : Int} (hi : i < l.length) (h : bestOk o l i best) : bestOk o l (i + 1) (if l[i].f1 ≥ o ∧ (best < 0 ∨ l[i].f1 < (rd_T73 l best).f1) then (i : Int) else best) := by
  split
  · rename_i hc
    have er : rd_T73 l (i : Int) = l[i] := getD_nat _ hi
    exact .inr ⟨by omega, by omega, by rw [er]; exact hc.1⟩
  · rcases h with h | h
    · exact .inl h
    · exact .inr ⟨h.1, by omega, h.2.2⟩
theorem bestGo_ok {o : Int} {l : List S73} : ∀ (d i : Nat) (best : Int), i + d = l.length → bestOk o l i best → bestOk o l l.length (bestGo o l (l.drop i) i best) := by
  intro d
  induction d with
  | zero =>
    intro i best h hb
    rw [List.drop_eq_nil_of_le (by omega), show l.length = i by omega]
    exact hb
  | succ d ih =>
    intro i best h hb
    have hi : i < l.length := by omega
    rw [List.drop_eq_getElem_cons hi, bestGo]
    exact ih (i + 1) _ (by omega) (bestOk_next hi hb)
def takeEnd (total : Int) (l : List S73) (o best : Int) : Int × List S73 × Int :=
  if best < 0 then (total, l, -1) else (total, listG (setRun false (mapOf total.toNat l) (rd_T73 l best).f0.toNat (2 ^ o.toNat)) 0, (rd_T73 l best).f0)
def takeV (total : Int) (l : List S73) (o : Int) : Int × List S73 × Int :=
  if framesOk total l = true ∧ 0 ≤ o ∧ o ≤ 10 then takeEnd total l o (bestGo o l l 0 (-1)) else (0, [], -1)
theorem best_fits {t : Nat} {l : List S73} (hf : ∀ b ∈ l, fits t b) {o : Nat} {best : Int} (h : bestOk (o : Int) l l.length best) (h0 : ¬ best < 0) : ∃ a p : Nat, rd_T73 l best = ⟨(a : Int), (p : Int)⟩ ∧ a + 2 ^ o ≤ t ∧ o ≤ p ∧ 0 ≤ best ∧ best < (l.length : Int) := by
  rcases h with h | ⟨h1, h2, h3⟩
  · omega
  · obtain ⟨b, rfl, hb⟩ := to_nat h1 h2
    have er : rd_T73 l (b : Int) = l[b] := getD_nat _ hb
    obtain ⟨a, p, he, hp, hap⟩ := hf _ (List.getElem_mem hb)
    rw [er, he] at h3 ⊢
    have h3' : (p : Int) ≥ (o : Int) := h3
    refine ⟨a, p, rfl, ?_, by omega, h1, h2⟩
    have := Nat.pow_le_pow_right (n := 2) (by decide) (show o ≤ p by omega)
    omega
theorem spec_FramesTake_l0 {t o : Nat} (ht : t ≤ 1024) (ho : o ≤ 10) {l : List S73} (hl : l.length ≤ 1099511627776) (hf : ∀ b ∈ l, fits t b) : ∀ (d i : Nat) (best : Int), i + d = l.length → bestOk (o : Int) l i best →
    Ev (fun k => spec_FramesTake.l0 k (o : Int) best (i : Int) (t : Int) l) (takeEnd (t : Int) l (o : Int) (bestGo (o : Int) l (l.drop i) i best)) := by
  intro d
  induction d with
  | zero =>
    intro i best h hb
    have e : i = l.length := by omega
    subst e
    rw [List.drop_eq_nil_of_le (Nat.le_refl _), bestGo, takeEnd]
    refine Ev.step (fun _ => spec_FramesTake.l0.eq_2 ..) (ev_neg (by omega) ?_)
    by_cases h0 : best < 0
    · rw [if_pos h0]
      exact ev_pos h0 (ev_bind0 (spec_l8Same_eq _ hl) (ev_ret rfl))
    · rw [if_neg h0]
      obtain ⟨a, p, he, hap, hop, hb1, hb2⟩ := best_fits hf hb h0
      rw [he]
      simp only [Int.toNat_natCast]
      refine ev_neg h0 (Ev.bind (spec_l8Set_ev ht hl hf) (ev_pos hb1 (ev_pos hb2 (Ev.bind (spec_l8Len_ev (o := (o : Int)) (by omega) (by omega)) ?_))))
      have hp2 : p2 (o : Int) = ((2 ^ o : Nat) : Int) := rfl
      have hm : (mapOf t l).length = t := mapOf_len t l
      rw [hp2]
      refine Ev.bind (spec_l8Mark_ev false (by omega) (by omega)) (Ev.bind (spec_l8List_ev (by rw [setRun_len]; omega)) (ev_ret ?_))
      rw [setRun_len, hm]
  | succ d ih =>
    intro i best h hb
    have hi : i < l.length := by omega
    have er : rd_T73 l (i : Int) = l[i] := getD_nat _ hi
    have hn := bestOk_next hi hb
    rw [List.drop_eq_getElem_cons hi, bestGo]
    refine Ev.step (fun _ => spec_FramesTake.l0.eq_2 ..) (ev_pos (by omega) (ev_pos (by omega) ?_))
    rw [er, w64_succ hi (by omega)]
    have next := fun bb hbb => ih (i + 1) bb (by omega) hbb
    by_cases c1 : l[i].f1 ≥ (o : Int)
    · refine ev_pos c1 ?_
      by_cases c2 : best < 0
      · rw [if_pos ⟨c1, .inl c2⟩] at hn ⊢
        exact ev_pos c2 (next _ hn)
      · obtain ⟨hb1, hb2, hb3⟩ := hb.resolve_left (by omega)
        refine ev_neg c2 (ev_pos hb1 (ev_pos (by omega) ?_))
        by_cases c3 : l[i].f1 < (rd_T73 l best).f1
        · rw [if_pos ⟨c1, .inr c3⟩] at hn ⊢
          exact ev_pos c3 (next _ hn)
        · rw [if_neg (fun h => h.2.elim c2 c3)] at hn ⊢
          exact ev_neg c3 (next _ hn)
    · rw [if_neg (fun h => c1 h.1)] at hn ⊢
      exact ev_neg c1 (next _ hn)
theorem spec_FramesTake_ev (total o : Int) {l : List S73} (hl : l.length ≤ 1099511627776) : Ev (fun k => spec_FramesTake.f k total l o) (takeV total l o) := by
  unfold spec_FramesTake.f
  have bad : Ev (fun k => spec_FramesTake.j0 k o true total l) ((0, [], -1) : Int × List S73 × Int) := Ev.step (fun _ => spec_FramesTake.j0.eq_2 ..) (ev_pos rfl (ev_ret rfl))
  refine Ev.bind (spec_FramesOk_ev total hl) ?_
  by_cases hk : framesOk total l = true
  · refine ev_pos hk ?_
    by_cases ho : 0 ≤ o ∧ o ≤ 10
    · rw [takeV, if_pos ⟨hk, ho⟩]
      obtain ⟨t, rfl, ht, hf⟩ := framesOk_fits hk
      obtain ⟨o, rfl, _⟩ := to_nat (a := o) (m := 11) (by omega) (by omega)
      refine ev_neg (by omega) ?_
      rw [decide_eq_false (by omega)]
      exact Ev.step (fun _ => spec_FramesTake.j0.eq_2 ..) (ev_neg (by decide) (spec_FramesTake_l0 ht (by omega) hl hf l.length 0 (-1) (by omega) (.inl rfl)))
    · rw [takeV, if_neg (fun h => ho h.2)]
      refine ev_split (fun _ => bad) (fun c => ?_)
      rw [decide_eq_true (by omega)]
      exact bad
  · rw [takeV, if_neg (fun h => hk h.1)]
    exact ev_neg hk bad
theorem impl_FramesTake_l1 {t a n : Nat} (ht : t ≤ 1024) (han : a + n ≤ t) {y : Int} : ∀ (d i : Nat) (m : List Bool), i + d = n → m.length = t →
    Ev (fun k => impl_FramesTake.l1 k m (n : Int) (i : Int) (a : Int) y) ((t : Int), listG (setRun false m (a + i) d) 0, (a : Int)) := by
  intro d
  induction d with
  | zero =>
    intro i m h hm
    refine Ev.step (fun _ => impl_FramesTake.l1.eq_2 ..) (ev_neg (by omega) (ev_bind0 (impl_framesOf_eq (by omega)) (ev_ret ?_)))
    rw [hm]; rfl
  | succ d ih =>
    intro i m h hm
    have e : wrap64 ((a : Int) + (i : Int)) = ((a + i : Nat) : Int) := by rw [w64_id (by omega) (by omega)]; omega
    have e1 : wrap64 ((i : Int) + 1) = ((i + 1 : Nat) : Int) := by rw [w64_id (by omega) (by omega)]; omega
    refine Ev.step (fun _ => impl_FramesTake.l1.eq_2 ..) (ev_pos (by omega) ?_)
    rw [e, e1, Int.toNat_natCast]
    have hlt : a + i < m.length := by omega
    refine ev_pos (Int.natCast_nonneg _) ?_
    refine ev_pos (Int.ofNat_lt.2 hlt) ?_
    rw [setRun]
    exact ih (i + 1) _ (by omega) (by rw [List.length_set]; exact hm)
theorem impl_FramesTake_l0 {t o : Nat} (ht : t ≤ 1024) (ho : o ≤ 10) {l : List S73} (hl : l.length ≤ 1099511627776) (hf : ∀ b ∈ l, fits t b) : ∀ (d i : Nat) (best : Int), i + d = l.length → bestOk (o : Int) l i best →
    Ev (fun k => impl_FramesTake.l0 k (o : Int) best l (l.length : Int) (i : Int) (t : Int) l) (takeEnd (t : Int) l (o : Int) (bestGo (o : Int) l (l.drop i) i best)) := by
  intro d
  induction d with
  | zero =>
    intro i best h hb
    have e : i = l.length := by omega
    subst e
    rw [List.drop_eq_nil_of_le (Nat.le_refl _), bestGo, takeEnd]
    refine Ev.step (fun _ => impl_FramesTake.l0.eq_2 ..) (ev_neg (by omega) ?_)
    by_cases h0 : best < 0
    · rw [if_pos h0]
      exact ev_pos h0 (ev_bind0 (impl_copyFrames_eq _ hl) (ev_ret rfl))
    · rw [if_neg h0]
      obtain ⟨a, p, he, hap, hop, hb1, hb2⟩ := best_fits hf hb h0
      rw [he]
      simp only [Int.toNat_natCast]
      refine ev_neg h0 (Ev.bind (impl_freeMap_ev ht hl hf) (ev_pos hb1 (ev_pos hb2 (ev_pos (by omega) ?_))))
      rw [shl_p2 (o := (o : Int)) (by omega) (by omega)]
      exact impl_FramesTake_l1 ht hap (2 ^ o) 0 (mapOf t l) (by omega) (mapOf_len t l)
  | succ d ih =>
    intro i best h hb
    have hi : i < l.length := by omega
    have er : rd_T73 l (i : Int) = l[i] := getD_nat _ hi
    have hn := bestOk_next hi hb
    rw [List.drop_eq_getElem_cons hi, bestGo]
    refine Ev.step (fun _ => impl_FramesTake.l0.eq_2 ..) (ev_pos (by omega) (ev_pos (by omega) (ev_pos (by omega) ?_)))
    rw [er, w64_succ hi (by omega)]
    have next := fun bb hbb => ih (i + 1) bb (by omega) hbb
    by_cases c1 : l[i].f1 ≥ (o : Int)
    · refine ev_pos c1 ?_
      by_cases c2 : best < 0
      · rw [if_pos ⟨c1, .inl c2⟩] at hn ⊢
        exact ev_pos c2 (next _ hn)
      · obtain ⟨hb1, hb2, hb3⟩ := hb.resolve_left (by omega)
        refine ev_neg c2 (ev_pos hb1 (ev_pos (by omega) ?_))
        by_cases c3 : l[i].f1 < (rd_T73 l best).f1
        · rw [if_pos ⟨c1, .inr c3⟩] at hn ⊢
          exact ev_pos c3 (next _ hn)
        · rw [if_neg (fun h => h.2.elim c2 c3)] at hn ⊢
          exact ev_neg c3 (next _ hn)
    · rw [if_neg (fun h => c1 h.1)] at hn ⊢
      exact ev_neg c1 (next _ hn)
theorem impl_FramesTake_ev (total o : Int) {l : List S73} (hl : l.length ≤ 1099511627776) : Ev (fun k => impl_FramesTake.f k total l o) (takeV total l o) := by
  unfold impl_FramesTake.f
  have bad : Ev (fun k => impl_FramesTake.j0 k o true total l) ((0, [], -1) : Int × List S73 × Int) := Ev.step (fun _ => impl_FramesTake.j0.eq_2 ..) (ev_pos rfl (ev_ret rfl))
  refine Ev.bind (impl_FramesOk_ev total hl) ?_
  by_cases hk : framesOk total l = true
  · refine ev_pos hk ?_
    by_cases ho : 0 ≤ o ∧ o ≤ 10
    · rw [takeV, if_pos ⟨hk, ho⟩]
      obtain ⟨t, rfl, ht, hf⟩ := framesOk_fits hk
      obtain ⟨o, rfl, _⟩ := to_nat (a := o) (m := 11) (by omega) (by omega)
      refine ev_neg (by omega) ?_
      rw [decide_eq_false (by omega)]
      exact Ev.step (fun _ => impl_FramesTake.j0.eq_2 ..) (ev_neg (by decide) (impl_FramesTake_l0 ht (by omega) hl hf l.length 0 (-1) (by omega) (.inl rfl)))
    · rw [takeV, if_neg (fun h => ho h.2)]
      refine ev_split (fun _ => bad) (fun c => ?_)
      rw [decide_eq_true (by omega)]
      exact bad
  · rw [takeV, if_neg (fun h => hk h.1)]
    exact ev_neg hk bad
theorem takeV_short {total a : Int} {l : List S73} (hl : l.length ≤ 1099511627776) : (takeV total l a).2.1.length ≤ 1099511627776 := by
  unfold takeV
  split
  · rename_i h
    obtain ⟨t, rfl, ht, hf⟩ := framesOk_fits h.1
    unfold takeEnd
    split
    · exact hl
    · exact listG_short (by rw [setRun_len, mapOf_len]; omega)
  · simp
theorem FnExactFramesTake : laws_FnExactFramesTake.Pure := by
  intro n xs a hq ha
  have hm : xs.length ≤ maxLen := hq.2.1
  refine Ev.rounds ?_
  unfold laws_FnExactFramesTake.f
  refine ev_bind0 (laws_szFrames_eq n hm (by omega) (by omega)) ?_
  by_cases h : (1048576 : Int) < xs.length
  · rw [if_pos h]
    exact ev_pos (by omega) (ev_ret rfl)
  · rw [if_neg h]
    refine ev_neg (by omega) ?_
    have hl : xs.length ≤ 1099511627776 := by omega
    have hl2 : (xs.map cBlock).length ≤ 1099511627776 := by rw [List.length_map]; exact hl
    have tof := laws_toFrames_ev n hl
    have eqf := laws_eqFrames_ev n hl2
    have mkf := laws_markFrames_ev n hl2
    have hs := spec_FramesTake_ev n a hl2
    have hi := impl_FramesTake_ev n a hl2
    have hr := takeV_short (total := n) (a := a) hl2
    generalize takeV n (xs.map cBlock) a = r at *
    obtain ⟨t, zs, b⟩ := r
    have eqz := laws_eqFrames_ev t hr
    have mkz := laws_markFrames_ev t hr
    have hez := laws_heldFrames_ev t (m := zs.length) hr
    have hbb : (b != b) = false := bne_self_eq_false b
    refine Ev.bind tof (Ev.bind hs (Ev.bind tof (Ev.bind hi (Ev.bind eqz (ev_pos rfl ?_)))))
    rw [hbb]
    refine Ev.step (fun _ => laws_FnExactFramesTake.j0.eq_2 ..) (ev_neg (by decide) (Ev.bind tof (Ev.bind eqf (ev_pos rfl (Ev.bind mkf (ev_neg (by simp only; omega) (Ev.bind eqz (ev_pos rfl ?_))))))))
    rw [hbb]
    refine Ev.step (fun _ => laws_FnExactFramesTake.j1.eq_2 ..) (ev_neg (by decide) (Ev.bind mkz (Ev.bind hez (ev_neg (by omega) (ev_pos rfl (Ev.bind tof (Ev.bind hi (Ev.bind eqz (ev_pos rfl ?_)))))))))
    rw [hbb]
    exact Ev.step (fun _ => laws_FnExactFramesTake.j2.eq_2 ..) (ev_neg (by decide) (Ev.bind hez (ev_neg (by omega) (ev_pos rfl (ev_ret rfl)))))
end Go.Proofs.Ytmjdmaomakkhgaa.Pure
