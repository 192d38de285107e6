/- For every input that the row lets in, FnFramesKept answers true; this text proves the plain law that is left when the machine's side is done. -/
import Derived.Test.YtmjdmaomakkhgaaPFnFramesKeptx11
import Derived.Test.YtmjdmaomakkhgaaVBase
set_option linter.unusedVariables false
set_option linter.unusedSimpArgs false
namespace Go.Proofs.Ytmjdmaomakkhgaa.Pure
open Go.RowKit Go.Proofs.Ytmjdmaomakkhgaa.PFnFramesKept Go.Proofs.YtmjdmaomakkhgaaW.PrintWords Go.Proofs.YtmjdmaomakkhgaaW.PrintLast Go.Proofs.YtmjdmaomakkhgaaW.PrintMore Go.Proofs.Ytmjdmaomakkhgaa.Base

def p2 (o : Int) : Int := ((2 ^ o.toNat : Nat) : Int)
theorem p2_bd {o : Int} (h0 : 0 ≤ o) (h1 : o ≤ 11) : 1 ≤ p2 o ∧ p2 o ≤ 2048 := by
  unfold p2
  have h2 : o.toNat ≤ 11 := by omega
  have := Nat.pow_le_pow_right (n := 2) (by decide) h2
  have h3 := Nat.two_pow_pos o.toNat
  have h4 : (2 : Nat) ^ 11 = 2048 := by decide
  omega
theorem p2_succ {o : Int} (h0 : 0 ≤ o) : p2 (o + 1) = 2 * p2 o := by
  unfold p2
  rw [show (o + 1).toNat = o.toNat + 1 by omega, Nat.pow_succ]
  omega
theorem spec_l8Len_l0 (o : Int) (h1 : o ≤ 11) : ∀ (d : Nat) (i : Int), i + d = o → 0 ≤ i → Ev (fun k => spec_l8Len.l0 k o (p2 i) i) (p2 o) := by
  intro d
  induction d with
  | zero =>
    intro i h h0
    obtain rfl : i = o := by omega
    exact Ev.step (fun _ => spec_l8Len.l0.eq_2 ..) (ev_neg (by omega) (ev_ret rfl))
  | succ d ih =>
    intro i h h0
    have hb := p2_bd (o := i) h0 (by omega)
    refine Ev.step (fun _ => spec_l8Len.l0.eq_2 ..) (ev_pos (by omega) ?_)
    rw [w64_id (x := p2 i * 2) (by omega) (by omega), w64_id (x := i + 1) (by omega) (by omega), show p2 i * 2 = p2 (i + 1) by rw [p2_succ h0]; omega]
    exact ih (i + 1) (by omega) (by omega)
theorem spec_l8Len_ev {o : Int} (h0 : 0 ≤ o) (h1 : o ≤ 11) : Ev (fun k => spec_l8Len.f k o) (p2 o) := by
  unfold spec_l8Len.f
  have := spec_l8Len_l0 o h1 o.toNat 0 (by omega) (by omega)
  exact this
def blkOk (total at_ o : Int) : Bool := decide (0 ≤ o ∧ o ≤ 10 ∧ 0 ≤ at_ ∧ at_ < total ∧ Int.tmod at_ (p2 o) = 0 ∧ at_ + p2 o ≤ total)
theorem blkOk_iff {total at_ o : Int} : blkOk total at_ o = true ↔ 0 ≤ o ∧ o ≤ 10 ∧ 0 ≤ at_ ∧ at_ < total ∧ Int.tmod at_ (p2 o) = 0 ∧ at_ + p2 o ≤ total := decide_eq_true_iff
theorem blkOk_false {total at_ o : Int} (h : ¬ (0 ≤ o ∧ o ≤ 10 ∧ 0 ≤ at_ ∧ at_ < total ∧ Int.tmod at_ (p2 o) = 0 ∧ at_ + p2 o ≤ total)) : false = blkOk total at_ o := (decide_eq_false h).symm
theorem spec_l8Block_ev {total at_ o : Int} (ht : total ≤ 4611686018427387904) : Ev (fun k => spec_l8Block.f k total at_ o) (blkOk total at_ o) := by
  unfold spec_l8Block.f
  refine ev_split (fun h => ev_ret (blkOk_false (by omega))) (fun h1 => ev_split (fun h => ev_ret (blkOk_false (by omega))) (fun h2 => ?_))
  have hb := p2_bd (o := o) (by omega) (by omega)
  refine Ev.bind (spec_l8Len_ev (by omega) (by omega)) (ev_split (fun h3 => ev_split (fun h4 => ev_neg (by omega) (ev_split (fun h5 => ev_ret ?_) (fun h => ev_ret (blkOk_false (by omega))))) (fun h => ev_ret (blkOk_false (by omega)))) (fun h => ev_ret (blkOk_false (by omega))))
  rw [w64_id (by omega) (by omega)]
  unfold blkOk
  rw [decide_eq_decide]
  omega
theorem shl_p2 {o : Int} (h0 : 0 ≤ o) (h1 : o ≤ 11) : shl .i64 1 o = p2 o := by
  have hb := p2_bd h0 h1
  unfold shl
  rw [Int.one_mul, Nat.min_eq_left (show o.toNat ≤ IntKind.i64.bits by show o.toNat ≤ 64; omega)]
  have e : ((2 : Int) ^ o.toNat) = p2 o := by unfold p2; simp
  rw [e, IntKind.wrap_i64]
  omega
theorem impl_blockOk_eq {total at_ o : Int} (ht : total ≤ 4611686018427387904) : impl_blockOk.f total at_ o = some (blkOk total at_ o) := by
  unfold impl_blockOk.f
  by_cases h1 : o < 0
  · rw [if_pos h1]; exact congrArg some (blkOk_false (by omega))
  · rw [if_neg h1]
    by_cases h2 : o > 10
    · rw [if_pos h2]; exact congrArg some (blkOk_false (by omega))
    · rw [if_neg h2]
      have hb := p2_bd (o := o) (by omega) (by omega)
      by_cases h3 : at_ < 0
      · rw [if_pos h3]; exact congrArg some (blkOk_false (by omega))
      · rw [if_neg h3]
        by_cases h4 : at_ ≥ total
        · rw [if_pos h4]; exact congrArg some (blkOk_false (by omega))
        · rw [if_neg h4, if_pos (by omega), shl_p2 (by omega) (by omega), if_neg (by omega)]
          by_cases h5 : Int.tmod at_ (p2 o) = 0
          · rw [if_pos h5, w64_id (by omega) (by omega)]
            unfold blkOk
            rw [Option.some.injEq, decide_eq_decide]
            omega
          · rw [if_neg h5]; exact congrArg some (blkOk_false (by omega))
def blkJoin (p : Option S73) (e : Int) (b : S73) : Prop := ∃ c, p = some c ∧ c.f1 = b.f1 ∧ b.f1 < 10 ∧ b.f0 = e ∧ Int.tmod c.f0 (2 * p2 b.f1) = 0
instance (p : Option S73) (e : Int) (b : S73) : Decidable (blkJoin p e b) :=
  match p with
  | none => isFalse (by rintro ⟨c, h, _⟩; cases h)
  | some c => decidable_of_iff (c.f1 = b.f1 ∧ b.f1 < 10 ∧ b.f0 = e ∧ Int.tmod c.f0 (2 * p2 b.f1) = 0) ⟨fun h => ⟨c, rfl, h⟩, by rintro ⟨c', h, h2⟩; cases h; exact h2⟩
def blksOk (total : Int) : Option S73 → Int → List S73 → Bool
  | _, _, [] => true
  | p, e, b :: bs => if blkOk total b.f0 b.f1 = true ∧ ¬ b.f0 < e then (if blkJoin p e b then false else blksOk total (some b) (b.f0 + p2 b.f1) bs) else false
def framesOk (total : Int) (l : List S73) : Bool := if total < 0 ∨ total > 1024 then false else blksOk total none 0 l
def prevOf (l : List S73) (i : Nat) : Option S73 := if i = 0 then none else l[i - 1]?
theorem prev_some {l : List S73} {i : Nat} (h : 0 < i) (hl : i ≤ l.length) : prevOf l i = some (l[i - 1]'(by omega)) := by
  unfold prevOf
  rw [if_neg (by omega), List.getElem?_eq_getElem (by omega)]
theorem prev_succ {l : List S73} {i : Nat} (h : i < l.length) : prevOf l (i + 1) = some l[i] := by
  rw [prev_some (by omega) (by omega)]; rfl
theorem spec_FramesOk_l0 (total : Int) (ht0 : 0 ≤ total) (ht : total ≤ 1024) (l : List S73) (hl : l.length ≤ 1099511627776) : ∀ (d i : Nat) (e : Int), i + d = l.length → 0 ≤ e → e ≤ 2048 → Ev (fun k => spec_FramesOk.l0 k e (i : Int) total l) (blksOk total (prevOf l i) e (l.drop i)) := by
  intro d
  induction d with
  | zero =>
    intro i e h he he2
    rw [List.drop_eq_nil_of_le (by omega)]
    exact Ev.step (fun _ => spec_FramesOk.l0.eq_2 ..) (ev_neg (by omega) (ev_ret rfl))
  | succ d ih =>
    intro i e h he he2
    have hi : i < l.length := by omega
    have er : rd_T73 l (i : Int) = l[i] := getD_nat _ hi
    rw [List.drop_eq_getElem_cons hi, blksOk]
    refine Ev.step (fun _ => spec_FramesOk.l0.eq_2 ..) (ev_pos (by omega) (ev_pos (by omega) ?_))
    rw [er]
    have hps : prevOf l (i + 1) = some l[i] := prev_succ hi
    obtain ⟨b, hbe⟩ : ∃ b, b = l[i] := ⟨_, rfl⟩
    rw [← hbe] at hps ⊢
    clear hbe er
    refine Ev.bind (spec_l8Block_ev (by omega)) ?_
    by_cases hb : blkOk total b.f0 b.f1 = true
    · refine ev_pos hb ?_
      by_cases hlt : b.f0 < e
      · rw [decide_eq_true hlt, if_neg (fun h => h.2 hlt)]
        exact Ev.step (fun _ => spec_FramesOk.j2.eq_2 ..) (ev_pos rfl (ev_ret rfl))
      · rw [decide_eq_false hlt, if_pos ⟨hb, hlt⟩]
        have hbb := blkOk_iff.1 hb
        have hpb := p2_bd (o := b.f1) (by omega) (by omega)
        refine Ev.step (fun _ => spec_FramesOk.j2.eq_2 ..) (ev_neg (by decide) (Ev.bind (spec_l8Len_ev (by omega) (by omega)) ?_))
        rw [w64_id (x := b.f0 + p2 b.f1) (by omega) (by omega), w64_id (x := 2 * p2 b.f1) (by omega) (by omega), w64_succ hi (by omega)]
        have next := ih (i + 1) (b.f0 + p2 b.f1) (by omega) (by omega) (by omega)
        rw [hps] at next
        by_cases hi0 : 0 < i
        · refine ev_pos (by omega) ?_
          rw [w64_id (x := (i : Int) - 1) (by omega) (by omega), show (i : Int) - 1 = ((i - 1 : Nat) : Int) by omega]
          have ep : rd_T73 l ((i - 1 : Nat) : Int) = l[i - 1] := getD_nat _ (by omega)
          have hpr := prev_some hi0 (show i ≤ l.length by omega)
          rw [ep, hpr]
          generalize l[i - 1] = c
          refine ev_pos (by omega) (ev_pos (by omega) ?_)
          by_cases hj : blkJoin (some c) e b
          · rw [if_pos hj]
            obtain ⟨c', hc', j1, j2, j3, j4⟩ := hj
            cases hc'
            exact ev_pos j1 (ev_pos j2 (ev_pos j3 (ev_neg (by omega) (ev_pos j4 (ev_ret rfl)))))
          · rw [if_neg hj]
            refine ev_split (fun j1 => ev_split (fun j2 => ev_split (fun j3 => ev_neg (by omega) (ev_neg (fun j4 => hj ⟨c, rfl, j1, j2, j3, j4⟩) next)) (fun _ => next)) (fun _ => next)) (fun _ => next)
        · refine ev_neg (by omega) ?_
          rw [if_neg (by rintro ⟨c, hc, _⟩; unfold prevOf at hc; rw [if_pos (by omega)] at hc; cases hc)]
          exact next
    · refine ev_neg hb ?_
      rw [if_neg (fun h => hb h.1)]
      exact Ev.step (fun _ => spec_FramesOk.j2.eq_2 ..) (ev_pos rfl (ev_ret rfl))
theorem spec_FramesOk_ev (total : Int) {l : List S73} (hl : l.length ≤ 1099511627776) : Ev (fun k => spec_FramesOk.f k total l) (framesOk total l) := by
  unfold spec_FramesOk.f framesOk
  have bad : Ev (fun k => spec_FramesOk.j0 k true total l) false := Ev.step (fun _ => spec_FramesOk.j0.eq_2 ..) (ev_pos rfl (ev_ret rfl))
  by_cases h : total < 0 ∨ total > 1024
  · rw [if_pos h]
    refine ev_split (fun _ => bad) (fun h1 => ?_)
    rw [decide_eq_true (by omega)]; exact bad
  · rw [if_neg h]
    refine ev_neg (by omega) ?_
    rw [decide_eq_false (by omega)]
    exact Ev.step (fun _ => spec_FramesOk.j0.eq_2 ..) (ev_neg (by decide) (spec_FramesOk_l0 total (by omega) (by omega) l hl l.length 0 0 (by omega) (by omega) (by omega)))
theorem impl_FramesOk_l0 (total : Int) (ht0 : 0 ≤ total) (ht : total ≤ 1024) (l : List S73) (hl : l.length ≤ 1099511627776) : ∀ (d i : Nat) (e : Int), i + d = l.length → 0 ≤ e → e ≤ 2048 → (∀ c, prevOf l i = some c → e = c.f0 + p2 c.f1) → Ev (fun k => impl_FramesOk.l0 k e l (l.length : Int) (i : Int) total l) (blksOk total (prevOf l i) e (l.drop i)) := by
  intro d
  induction d with
  | zero =>
    intro i e h he he2 hpe
    rw [List.drop_eq_nil_of_le (by omega)]
    exact Ev.step (fun _ => impl_FramesOk.l0.eq_2 ..) (ev_neg (by omega) (ev_ret rfl))
  | succ d ih =>
    intro i e h he he2 hpe
    have hi : i < l.length := by omega
    have er : rd_T73 l (i : Int) = l[i] := getD_nat _ hi
    rw [List.drop_eq_getElem_cons hi, blksOk]
    refine Ev.step (fun _ => impl_FramesOk.l0.eq_2 ..) (ev_pos (by omega) (ev_pos (by omega) (ev_pos (by omega) ?_)))
    rw [er]
    have hps : prevOf l (i + 1) = some l[i] := prev_succ hi
    obtain ⟨b, hbe⟩ : ∃ b, b = l[i] := ⟨_, rfl⟩
    rw [← hbe] at hps ⊢
    clear hbe er
    refine ev_bind0 (impl_blockOk_eq (by omega)) ?_
    by_cases hb : blkOk total b.f0 b.f1 = true
    · refine ev_pos hb ?_
      by_cases hlt : b.f0 < e
      · rw [decide_eq_true hlt, if_neg (fun h => h.2 hlt)]
        exact Ev.step (fun _ => impl_FramesOk.j2.eq_2 ..) (ev_pos rfl (ev_ret rfl))
      · rw [decide_eq_false hlt, if_pos ⟨hb, hlt⟩]
        have hbb := blkOk_iff.1 hb
        have hpb := p2_bd (o := b.f1) (by omega) (by omega)
        refine Ev.step (fun _ => impl_FramesOk.j2.eq_2 ..) (ev_neg (by decide) (ev_pos (by omega) ?_))
        rw [shl_p2 (by omega) (by omega), w64_id (x := b.f0 + p2 b.f1) (by omega) (by omega), w64_id (x := 2 * p2 b.f1) (by omega) (by omega), w64_succ hi (by omega), w64_id (x := b.f0 - p2 b.f1) (by omega) (by omega)]
        have next := ih (i + 1) (b.f0 + p2 b.f1) (by omega) (by omega) (by omega) (by rw [hps]; rintro c hc; cases hc; rfl)
        rw [hps] at next
        by_cases hi0 : 0 < i
        · refine ev_pos (by omega) ?_
          rw [w64_id (x := (i : Int) - 1) (by omega) (by omega), show (i : Int) - 1 = ((i - 1 : Nat) : Int) by omega]
          have ep : rd_T73 l ((i - 1 : Nat) : Int) = l[i - 1] := getD_nat _ (by omega)
          have hpr := prev_some hi0 (show i ≤ l.length by omega)
          have hpe2 := hpe _ hpr
          rw [ep, hpr]
          generalize l[i - 1] = c at *
          refine ev_pos (by omega) (ev_pos (by omega) ?_)
          by_cases hj : blkJoin (some c) e b
          · rw [if_pos hj]
            obtain ⟨c', hc', j1, j2, j3, j4⟩ := hj
            cases hc'
            rw [j1] at hpe2
            exact ev_pos j1 (ev_pos j2 (ev_pos (by omega) (ev_neg (by omega) (ev_pos j4 (ev_ret rfl)))))
          · rw [if_neg hj]
            refine ev_split (fun j1 => ev_split (fun j2 => ev_split (fun j3 => ev_neg (by omega) (ev_neg (fun j4 => hj ⟨c, rfl, j1, j2, by rw [j1] at hpe2; omega, j4⟩) next)) (fun _ => next)) (fun _ => next)) (fun _ => next)
        · refine ev_neg (by omega) ?_
          rw [if_neg (by rintro ⟨c, hc, _⟩; unfold prevOf at hc; rw [if_pos (by omega)] at hc; cases hc)]
          exact next
    · refine ev_neg hb ?_
      rw [if_neg (fun h => hb h.1)]
      exact Ev.step (fun _ => impl_FramesOk.j2.eq_2 ..) (ev_pos rfl (ev_ret rfl))
theorem impl_FramesOk_ev (total : Int) {l : List S73} (hl : l.length ≤ 1099511627776) : Ev (fun k => impl_FramesOk.f k total l) (framesOk total l) := by
  unfold impl_FramesOk.f framesOk
  have bad : Ev (fun k => impl_FramesOk.j0 k true total l) false := Ev.step (fun _ => impl_FramesOk.j0.eq_2 ..) (ev_pos rfl (ev_ret rfl))
  by_cases h : total < 0 ∨ total > 1024
  · rw [if_pos h]
    refine ev_split (fun _ => bad) (fun h1 => ?_)
    rw [decide_eq_true (by omega)]; exact bad
  · rw [if_neg h]
    refine ev_neg (by omega) ?_
    rw [decide_eq_false (by omega)]
    exact Ev.step (fun _ => impl_FramesOk.j0.eq_2 ..) (ev_neg (by decide) (impl_FramesOk_l0 total (by omega) (by omega) l hl l.length 0 0 (by omega) (by omega) (by omega) (by intro c hc; unfold prevOf at hc; rw [if_pos rfl] at hc; cases hc)))
def sumBlks : List S73 → Int
  | [] => 0
  | b :: bs => p2 b.f1 + sumBlks bs
theorem blksOk_cons {total e : Int} {p : Option S73} {b : S73} {bs : List S73} (h : blksOk total p e (b :: bs) = true) : blkOk total b.f0 b.f1 = true ∧ e ≤ b.f0 ∧ ¬ blkJoin p e b ∧ blksOk total (some b) (b.f0 + p2 b.f1) bs = true := by
  rw [blksOk] at h
  by_cases h1 : blkOk total b.f0 b.f1 = true ∧ ¬ b.f0 < e
  · rw [if_pos h1] at h
    by_cases h2 : blkJoin p e b
    · rw [if_pos h2] at h; exact absurd h (by decide)
    · rw [if_neg h2] at h; exact ⟨h1.1, by omega, h2, h⟩
  · rw [if_neg h1] at h; exact absurd h (by decide)
def leftV (total : Int) (l : List S73) : Int := if framesOk total l then sumBlks l else 0
theorem framesOk_parts {total : Int} {l : List S73} (h : framesOk total l = true) : 0 ≤ total ∧ total ≤ 1024 ∧ blksOk total none 0 l = true := by
  unfold framesOk at h
  by_cases hb : total < 0 ∨ total > 1024
  · rw [if_pos hb] at h; exact absurd h (by decide)
  · rw [if_neg hb] at h; exact ⟨by omega, by omega, h⟩
theorem impl_FramesLeft_l0 (total : Int) (ht : total ≤ 1024) (l : List S73) (hl : l.length ≤ 1099511627776) : ∀ (d i : Nat) (p : Option S73) (e n : Int), i + d = l.length → 0 ≤ n → n ≤ e → e ≤ 2048 → blksOk total p e (l.drop i) = true → Ev (fun k => impl_FramesLeft.l0 k n l (l.length : Int) (i : Int)) (n + sumBlks (l.drop i)) := by
  intro d
  induction d with
  | zero =>
    intro i p e n h hn hne he hok
    rw [List.drop_eq_nil_of_le (by omega)]
    exact Ev.step (fun _ => impl_FramesLeft.l0.eq_2 ..) (ev_neg (by omega) (ev_ret (by simp [sumBlks])))
  | succ d ih =>
    intro i p e n h hn hne he hok
    have hi : i < l.length := by omega
    have er : rd_T73 l (i : Int) = l[i] := getD_nat _ hi
    rw [List.drop_eq_getElem_cons hi] at hok ⊢
    refine Ev.step (fun _ => impl_FramesLeft.l0.eq_2 ..) (ev_pos (by omega) (ev_pos (by omega) (ev_pos (by omega) ?_)))
    rw [er, w64_succ hi (by omega)]
    generalize l[i] = b at *
    obtain ⟨hb, hbe, _, hr⟩ := blksOk_cons hok
    have hbb := blkOk_iff.1 hb
    have hpb := p2_bd (o := b.f1) (by omega) (by omega)
    rw [shl_p2 (by omega) (by omega), w64_id (by omega) (by omega)]
    refine ev_pos (by omega) (ev_eq ?_ (ih (i + 1) _ _ (n + p2 b.f1) (by omega) (by omega) (by omega) (by omega) hr))
    rw [sumBlks, Int.add_assoc]
theorem impl_FramesLeft_ev (total : Int) {l : List S73} (hl : l.length ≤ 1099511627776) : Ev (fun k => impl_FramesLeft.f k total l) (leftV total l) := by
  unfold impl_FramesLeft.f leftV
  refine Ev.bind (impl_FramesOk_ev total hl) ?_
  by_cases h : framesOk total l = true
  · obtain ⟨h0, h1, h2⟩ := framesOk_parts h
    rw [if_pos h]
    refine ev_pos h (ev_eq ?_ (impl_FramesLeft_l0 total h1 l hl l.length 0 none 0 0 (by omega) (by omega) (by omega) (by omega) h2))
    rw [List.drop_zero, Int.zero_add]
  · rw [if_neg h]
    exact ev_neg h (ev_ret rfl)
theorem whole_mono {m : List Bool} {a n k : Nat} (h : impl_framesOf.whole m a n) (hk : k ≤ n) : impl_framesOf.whole m a k := ⟨by have := h.1; omega, fun i hi => h.2 i (by omega)⟩
def ordG (m : List Bool) (a : Nat) : Nat → Nat → Nat
  | 0, k => k
  | d + 1, k => if a % 2 ^ (k + 1) = 0 ∧ impl_framesOf.whole m a (2 ^ (k + 1)) then ordG m a d (k + 1) else k
theorem ordG_le (m : List Bool) (a : Nat) : ∀ (d k : Nat), k ≤ ordG m a d k ∧ ordG m a d k ≤ k + d := by
  intro d
  induction d with
  | zero => intro k; exact ⟨Nat.le_refl _, Nat.le_refl _⟩
  | succ d ih =>
    intro k
    rw [ordG]
    by_cases h : a % 2 ^ (k + 1) = 0 ∧ impl_framesOf.whole m a (2 ^ (k + 1))
    · rw [if_pos h]; have := ih (k + 1); omega
    · rw [if_neg h]; omega
theorem ordG_eq {m : List Bool} {a o : Nat} (ho : o ≤ 10) (al : a % 2 ^ o = 0) (w : impl_framesOf.whole m a (2 ^ o)) (st : o = 10 ∨ ¬ (a % 2 ^ (o + 1) = 0 ∧ impl_framesOf.whole m a (2 ^ (o + 1)))) : ∀ (d k : Nat), d + k = 10 → k ≤ o → ordG m a d k = o := by
  intro d
  induction d with
  | zero => intro k h hk; rw [ordG]; omega
  | succ d ih =>
    intro k h hk
    rw [ordG]
    by_cases e : k = o
    · subst e; exact if_neg (st.resolve_left (by omega))
    · have hd : (2 : Nat) ^ (k + 1) ∣ 2 ^ o := Nat.pow_dvd_pow 2 (by omega)
      rw [if_pos ⟨Nat.mod_eq_zero_of_dvd (Nat.dvd_trans hd (Nat.dvd_of_mod_eq_zero al)), whole_mono w (Nat.le_of_dvd (Nat.two_pow_pos o) hd)⟩]
      exact ih (k + 1) (by omega) (by omega)
theorem ordG_whole {m : List Bool} {a : Nat} : ∀ (d k : Nat), impl_framesOf.whole m a (2 ^ k) → impl_framesOf.whole m a (2 ^ ordG m a d k) := by
  intro d
  induction d with
  | zero => intro k h; exact h
  | succ d ih =>
    intro k h
    rw [ordG]
    by_cases c : a % 2 ^ (k + 1) = 0 ∧ impl_framesOf.whole m a (2 ^ (k + 1))
    · rw [if_pos c]; exact ih _ c.2
    · rw [if_neg c]; exact h
def listG (m : List Bool) (a : Nat) : List S73 :=
  if h : a < m.length then
    if m[a] = true then ⟨(a : Int), (ordG m a 10 0 : Nat)⟩ :: listG m (a + 2 ^ ordG m a 10 0) else listG m (a + 1)
  else []
termination_by m.length - a
decreasing_by
  · have := Nat.two_pow_pos (ordG m a 10 0); omega
  · omega
theorem listG_end {m : List Bool} {a : Nat} (h : m.length ≤ a) : listG m a = [] := by rw [listG]; exact dif_neg (by omega)
theorem listG_whole {m : List Bool} {a o : Nat} (ha : a < m.length) (ho : o ≤ 10) (al : a % 2 ^ o = 0) (w : impl_framesOf.whole m a (2 ^ o)) (st : o = 10 ∨ ¬ (a % 2 ^ (o + 1) = 0 ∧ impl_framesOf.whole m a (2 ^ (o + 1)))) : listG m a = ⟨(a : Int), (o : Nat)⟩ :: listG m (a + 2 ^ o) := by
  have e := ordG_eq ho al w st 10 0 rfl (by omega)
  have t := (w.2 0 (Nat.two_pow_pos o))
  rw [Nat.add_zero, List.getElem?_eq_getElem ha] at t
  rw [listG, dif_pos ha, if_pos (Option.some.inj t), e]
theorem listG_walk (m : List Bool) : ∀ (o a : Nat), o ≤ 10 → a % 2 ^ o = 0 → (o = 10 ∨ ¬ (a % 2 ^ (o + 1) = 0 ∧ impl_framesOf.whole m a (2 ^ (o + 1)))) → listG m a = impl_framesOf.walk m o a ++ listG m (a + 2 ^ o) := by
  intro o
  induction o with
  | zero =>
    intro a ho al st
    rw [impl_framesOf.walk]
    by_cases h : m.length ≤ a
    · rw [if_pos h, listG_end h, listG_end (by omega)]; rfl
    · rw [if_neg h]
      by_cases w : impl_framesOf.whole m a (2 ^ 0)
      · rw [if_pos w, listG_whole (by omega) ho al w st]; rfl
      · rw [if_neg w, List.nil_append, listG, dif_pos (by omega), if_neg (fun t => w ⟨by omega, fun i hi => by
          obtain rfl : i = 0 := by omega
          rw [Nat.add_zero, List.getElem?_eq_getElem (by omega), t]⟩)]
  | succ o ih =>
    intro a ho al st
    rw [impl_framesOf.walk]
    have hp : 2 ^ (o + 1) = 2 ^ o * 2 := Nat.pow_succ 2 o
    have h0 := Nat.two_pow_pos o
    by_cases h : m.length ≤ a
    · rw [if_pos h, listG_end h, listG_end (by omega)]; rfl
    · rw [if_neg h]
      by_cases w : impl_framesOf.whole m a (2 ^ (o + 1))
      · rw [if_pos w, listG_whole (by omega) ho al w st]; rfl
      · rw [if_neg w]
        have hd := Nat.dvd_of_mod_eq_zero al
        have hdo : 2 ^ o ∣ a := Nat.dvd_trans ⟨2, hp⟩ hd
        have hna : ¬ (a + 2 ^ o) % 2 ^ (o + 1) = 0 := by
          intro hh
          have := (Nat.dvd_add_right hd).1 (Nat.dvd_of_mod_eq_zero hh)
          have := Nat.le_of_dvd h0 this
          omega
        rw [ih a (by omega) (Nat.mod_eq_zero_of_dvd hdo) (Or.inr (fun hh => w hh.2)), ih (a + 2 ^ o) (by omega) (Nat.mod_eq_zero_of_dvd (Nat.dvd_add hdo (Nat.dvd_refl _))) (Or.inr (fun hh => hna hh.1)), List.append_assoc, show a + 2 ^ o + 2 ^ o = a + 2 ^ (o + 1) by omega]
theorem listG_all {m : List Bool} (h : m.length ≤ 1024) : listG m 0 = impl_framesOf.walk m 10 0 := by
  rw [listG_walk m 10 0 (by omega) (Nat.zero_mod _) (Or.inl rfl), listG_end (by omega), List.append_nil]
theorem impl_framesOf_eq {m : List Bool} (h : m.length ≤ 1024) : impl_framesOf.f m = some ((m.length : Int), listG m 0) := by
  unfold impl_framesOf.f; rw [if_pos h, listG_all h]
theorem rdb_nat {m : List Bool} {n : Nat} (h : n < m.length) : rdOf false m (n : Int) = m[n] := getD_nat false h
/-- Positions a, a + 1, .. (n of them) set to v. -/
def setRun (v : Bool) : List Bool → Nat → Nat → List Bool
  | m, _, 0 => m
  | m, a, n + 1 => setRun v (m.set a v) (a + 1) n
theorem setRun_len (v : Bool) : ∀ (n a : Nat) (m : List Bool), (setRun v m a n).length = m.length := by
  intro n
  induction n with
  | zero => intro a m; rfl
  | succ n ih => intro a m; rw [setRun, ih, List.length_set]
theorem spec_l8Whole_l0 {m : List Bool} {a n : Nat} (hb : a + n ≤ m.length) (hm : m.length ≤ 1048576) : ∀ (d i : Nat), i + d = n → (∀ j, j < i → m[a + j]? = some true) → Ev (fun k => spec_l8Whole.l0 k m (a : Int) (n : Int) (i : Int)) (decide (impl_framesOf.whole m a n)) := by
  intro d
  induction d with
  | zero =>
    intro i h hi
    exact Ev.step (fun _ => spec_l8Whole.l0.eq_2 ..) (ev_neg (by omega) (ev_ret (decide_eq_true (show impl_framesOf.whole m a n from ⟨hb, fun j hj => hi j (by omega)⟩)).symm))
  | succ d ih =>
    intro i h hi
    have hl : a + i < m.length := by omega
    have e : wrap64 ((a : Int) + (i : Int)) = ((a + i : Nat) : Int) := by rw [w64_id (by omega) (by omega)]; omega
    have e1 : wrap64 ((i : Int) + 1) = ((i + 1 : Nat) : Int) := by rw [w64_id (by omega) (by omega)]; omega
    refine Ev.step (fun _ => spec_l8Whole.l0.eq_2 ..) (ev_pos (by omega) ?_)
    rw [e, e1]
    refine ev_pos (by omega) (ev_pos (by omega) ?_)
    rw [rdb_nat hl]
    by_cases hc : m[a + i] = true
    · refine ev_pos hc (ih (i + 1) (by omega) (fun j hj => ?_))
      by_cases e2 : j = i
      · subst e2; rw [List.getElem?_eq_getElem hl, hc]
      · exact hi j (by omega)
    · refine ev_neg hc (ev_ret (decide_eq_false (fun w => hc ?_)).symm)
      have := w.2 i (by omega)
      rw [List.getElem?_eq_getElem hl] at this
      exact Option.some.inj this
theorem spec_l8Whole_ev {m : List Bool} {a n : Nat} (hm : m.length ≤ 1048576) (ha : a + n ≤ 1048576) : Ev (fun k => spec_l8Whole.f k m (a : Int) (n : Int)) (decide (impl_framesOf.whole m a n)) := by
  unfold spec_l8Whole.f
  have e : wrap64 ((a : Int) + (n : Int)) = ((a + n : Nat) : Int) := by rw [w64_id (by omega) (by omega)]; omega
  rw [e]
  by_cases h : a + n ≤ m.length
  · exact ev_neg (by omega) (spec_l8Whole_l0 h hm n 0 (by omega) (fun j hj => by omega))
  · exact ev_pos (by omega) (ev_ret (decide_eq_false (fun w => h w.1)).symm)
theorem p2_nat (o : Nat) : p2 (o : Int) = ((2 ^ o : Nat) : Int) := rfl
theorem pow_le_1024 {o : Nat} (h : o ≤ 10) : 2 ^ o ≤ 1024 := by
  have := Nat.pow_le_pow_right (n := 2) (by decide) h
  have h4 : (2 : Nat) ^ 10 = 1024 := by decide
  omega
theorem spec_l8List_l1 {m : List Bool} (hm : m.length ≤ 1024) {a : Nat} (ha : a ≤ 1024) {total : Int} {acc : List S73} (hacc : acc.length ≤ 1024) {r : Int × List S73} : ∀ (d o : Nat), d + o = 10 →
    Ev (fun k => spec_l8List.l0 k m ((a + 2 ^ ordG m a d o : Nat) : Int) total (acc ++ [(⟨(a : Int), ((ordG m a d o : Nat) : Int)⟩ : S73)])) r → Ev (fun k => spec_l8List.l1 k m (a : Int) (o : Int) total acc) r := by
  intro d
  induction d with
  | zero =>
    intro o h hr
    obtain rfl : o = 10 := by omega
    have hp := pow_le_1024 (show 10 ≤ 10 by omega)
    refine Ev.step (fun _ => spec_l8List.l1.eq_2 ..) (ev_neg (by omega) (ev_pos (by omega) ?_))
    refine Ev.bind (spec_l8Len_ev (o := ((10 : Nat) : Int)) (by omega) (by omega)) ?_
    rw [p2_nat, w64_id (by omega) (by omega), ← Int.natCast_add]
    exact hr
  | succ d ih =>
    intro o h hr
    have e1 : wrap64 ((o : Int) + 1) = ((o + 1 : Nat) : Int) := by rw [w64_id (by omega) (by omega)]; omega
    have hp0 := Nat.two_pow_pos (o + 1)
    have hp1 := pow_le_1024 (show o + 1 ≤ 10 by omega)
    have hpo := pow_le_1024 (show o ≤ 10 by omega)
    have stop : (¬ (a % 2 ^ (o + 1) = 0 ∧ impl_framesOf.whole m a (2 ^ (o + 1)))) → Ev (fun k => if acc.length < 8796093022208 then ((spec_l8Len.f k (o : Int)).bind fun t158 => (spec_l8List.l0 k m (wrap64 ((a : Int) + t158)) total (acc ++ [(⟨(a : Int), (o : Int)⟩ : S73)]))) else none) r := by
      intro hn
      rw [ordG, if_neg hn] at hr
      refine ev_pos (by omega) (Ev.bind (spec_l8Len_ev (o := (o : Int)) (by omega) (by omega)) ?_)
      rw [p2_nat, w64_id (by omega) (by omega), ← Int.natCast_add]
      exact hr
    refine Ev.step (fun _ => spec_l8List.l1.eq_2 ..) (ev_pos (by omega) ?_)
    rw [e1]
    refine Ev.bind (spec_l8Len_ev (o := ((o + 1 : Nat) : Int)) (by omega) (by omega)) (ev_neg (by rw [p2_nat]; omega) ?_)
    rw [p2_nat, tmod_nat]
    by_cases c1 : a % 2 ^ (o + 1) = 0
    · refine ev_pos (by rw [c1]; rfl) (Ev.bind (spec_l8Len_ev (o := ((o + 1 : Nat) : Int)) (by omega) (by omega)) ?_)
      rw [p2_nat]
      refine Ev.bind (spec_l8Whole_ev (by omega) (by omega)) ?_
      by_cases c2 : impl_framesOf.whole m a (2 ^ (o + 1))
      · rw [decide_eq_true c2]
        rw [ordG, if_pos ⟨c1, c2⟩] at hr
        exact ev_pos rfl (ih (o + 1) (by omega) hr)
      · rw [decide_eq_false c2]
        exact ev_neg (by decide) (stop (fun h => c2 h.2))
    · exact ev_neg (by omega) (stop (fun h => c1 h.1))
theorem spec_l8List_l0 {m : List Bool} (hm : m.length ≤ 1024) {total : Int} : ∀ (d a : Nat) (acc : List S73), m.length ≤ a + d → a ≤ 1024 + 1024 → acc.length ≤ a → Ev (fun k => spec_l8List.l0 k m (a : Int) total acc) (total, acc ++ listG m a) := by
  intro d
  induction d with
  | zero =>
    intro a acc h ha hacc
    rw [listG_end (by omega), List.append_nil]
    exact Ev.step (fun _ => spec_l8List.l0.eq_2 ..) (ev_neg (by omega) (ev_ret rfl))
  | succ d ih =>
    intro a acc h ha hacc
    by_cases hl : a < m.length
    · refine Ev.step (fun _ => spec_l8List.l0.eq_2 ..) (ev_pos (by omega) (ev_pos (by omega) ?_))
      rw [rdb_nat hl]
      have ho := ordG_le m a 10 0
      have hp0 := Nat.two_pow_pos (ordG m a 10 0)
      have hp1 := pow_le_1024 (o := ordG m a 10 0) (by omega)
      rw [listG, dif_pos hl]
      by_cases hc : m[a] = true
      · rw [if_pos hc]
        refine ev_pos hc ?_
        have := spec_l8List_l1 (r := (total, acc ++ ⟨(a : Int), ((ordG m a 10 0 : Nat) : Int)⟩ :: listG m (a + 2 ^ ordG m a 10 0))) hm (a := a) (by omega) (total := total) (acc := acc) (by omega) 10 0 (by omega) ?_
        · exact this
        · have h2 := ih (a + 2 ^ ordG m a 10 0) (acc ++ [⟨(a : Int), ((ordG m a 10 0 : Nat) : Int)⟩]) (by omega) (by omega) (by rw [List.length_append, List.length_singleton]; omega)
          rw [List.append_assoc, List.singleton_append] at h2
          exact h2
      · rw [if_neg hc]
        refine ev_neg hc ?_
        rw [show wrap64 ((a : Int) + 1) = ((a + 1 : Nat) : Int) by rw [w64_id (by omega) (by omega)]; omega]
        exact ih (a + 1) acc (by omega) (by omega) (by omega)
    · rw [listG_end (by omega), List.append_nil]
      exact Ev.step (fun _ => spec_l8List.l0.eq_2 ..) (ev_neg (by omega) (ev_ret rfl))
theorem spec_l8List_ev {m : List Bool} (hm : m.length ≤ 1024) : Ev (fun k => spec_l8List.f k m) ((m.length : Int), listG m 0) := by
  unfold spec_l8List.f
  have := spec_l8List_l0 hm (total := (m.length : Int)) m.length 0 [] (by omega) (by omega) (by simp)
  rw [List.nil_append] at this
  exact this
theorem listG_len {m : List Bool} : ∀ (d a : Nat), m.length ≤ a + d → (listG m a).length ≤ d := by
  intro d
  induction d with
  | zero => intro a h; rw [listG_end (by omega)]; exact Nat.le_refl _
  | succ d ih =>
    intro a h
    by_cases hl : a < m.length
    · rw [listG, dif_pos hl]
      have hp0 := Nat.two_pow_pos (ordG m a 10 0)
      split
      · have := ih (a + 2 ^ ordG m a 10 0) (by omega)
        rw [List.length_cons]; omega
      · have := ih (a + 1) (by omega)
        omega
    · rw [listG_end (by omega)]; exact Nat.zero_le _
theorem listG_short {m : List Bool} (h : m.length ≤ 1024) : (listG m 0).length ≤ 1099511627776 := by
  have := listG_len (m := m) 1024 0 (by omega)
  omega
def newF (total : Int) : Int × List S73 := if total < 0 ∨ total > 1024 then (0, []) else (total, listG (List.replicate total.toNat true) 0)
theorem fill_next {n i : Nat} (h : i < n) : ((List.replicate i true ++ List.replicate (n - i) false : List Bool)).set i true = List.replicate (i + 1) true ++ List.replicate (n - (i + 1)) false := by
  apply List.ext_getElem?
  intro j
  by_cases e : j = i
  · subst e
    rw [List.getElem?_set_self (by simp; omega), List.getElem?_append_left (by simp), List.getElem?_replicate, if_pos (by omega)]
  · rw [List.getElem?_set_ne (by omega)]
    by_cases h1 : j < i
    · rw [List.getElem?_append_left (by simp; omega), List.getElem?_append_left (by simp; omega), List.getElem?_replicate, List.getElem?_replicate, if_pos h1, if_pos (by omega)]
    · rw [List.getElem?_append_right (by simp; omega), List.getElem?_append_right (by simp; omega), List.length_replicate, List.length_replicate, List.getElem?_replicate, List.getElem?_replicate]
      by_cases h2 : j < n
      · rw [if_pos (by omega), if_pos (by omega)]
      · rw [if_neg (by omega), if_neg (by omega)]
theorem impl_NewFrames_l0 {n : Nat} (hn : n ≤ 1024) : ∀ (d i : Nat), i + d = n → Ev (fun k => impl_NewFrames.l0 k (List.replicate i true ++ List.replicate (n - i) false) (n : Int) (i : Int)) ((n : Int), listG (List.replicate n true) 0) := by
  intro d
  induction d with
  | zero =>
    intro i h
    obtain rfl : i = n := by omega
    refine Ev.step (fun _ => impl_NewFrames.l0.eq_2 ..) (ev_neg (by omega) ?_)
    rw [Nat.sub_self, List.replicate_zero, List.append_nil]
    refine ev_bind0 (impl_framesOf_eq (by simp; omega)) (ev_ret ?_)
    rw [List.length_replicate]
  | succ d ih =>
    intro i h
    refine Ev.step (fun _ => impl_NewFrames.l0.eq_2 ..) (ev_pos (by omega) (ev_pos (by omega) (ev_pos (by simp; omega) ?_)))
    rw [Int.toNat_natCast, fill_next (by omega), w64_succ (n := n) (by omega) (by omega)]
    exact ih (i + 1) (by omega)
theorem impl_NewFrames_ev (total : Int) : Ev (fun k => impl_NewFrames.f k total) (newF total) := by
  unfold impl_NewFrames.f newF
  have bad : Ev (fun k => impl_NewFrames.j0 k total true) ((0, []) : Int × List S73) := Ev.step (fun _ => impl_NewFrames.j0.eq_2 ..) (ev_pos rfl (ev_ret rfl))
  by_cases h : total < 0 ∨ total > 1024
  · rw [if_pos h]
    refine ev_split (fun _ => bad) (fun h1 => ?_)
    rw [decide_eq_true (by omega)]; exact bad
  · rw [if_neg h]
    refine ev_neg (by omega) ?_
    rw [decide_eq_false (by omega)]
    refine Ev.step (fun _ => impl_NewFrames.j0.eq_2 ..) (ev_neg (by decide) (ev_pos (by omega) (ev_pos (by omega) (ev_bind0 rfl ?_))))
    have := impl_NewFrames_l0 (n := total.toNat) (by omega) total.toNat 0 (by omega)
    rw [List.replicate_zero, List.nil_append, Nat.sub_zero, show ((total.toNat : Nat) : Int) = total by omega] at this
    rw [List.length_replicate, show ((total.toNat : Nat) : Int) = total by omega]
    exact this
def EvP {α : Type} (g : Nat → Option α) (P : α → Prop) : Prop := ∃ r, Ev g r ∧ P r
theorem EvP.step {α : Type} {g h : Nat → Option α} {P : α → Prop} (e : ∀ k, g (k + 1) = h k) (p : EvP h P) : EvP g P := by
  obtain ⟨r, hr, hp⟩ := p
  exact ⟨r, Ev.step e hr, hp⟩
theorem evp_pos {α : Type} {c : Prop} [Decidable c] {A B : Nat → Option α} {P : α → Prop} (h : c) (k : EvP A P) : EvP (fun n => if c then A n else B n) P := by
  obtain ⟨r, hr, hp⟩ := k
  exact ⟨r, ev_pos h hr, hp⟩
theorem evp_neg {α : Type} {c : Prop} [Decidable c] {A B : Nat → Option α} {P : α → Prop} (h : ¬ c) (k : EvP B P) : EvP (fun n => if c then A n else B n) P := by
  obtain ⟨r, hr, hp⟩ := k
  exact ⟨r, ev_neg h hr, hp⟩
theorem evp_if {α : Type} {c : Prop} [Decidable c] {A B : Nat → Option α} {P : α → Prop} (k : c → EvP A P) (l : ¬ c → EvP B P) : EvP (fun n => if c then A n else B n) P := by
  by_cases h : c
  · exact evp_pos h (k h)
  · exact evp_neg h (l h)
theorem evp_bind {α β : Type} {x : Nat → Option α} {a : α} {f : Nat → α → Option β} {P : β → Prop} (h : Ev x a) (k : EvP (fun n => f n a) P) : EvP (fun n => (x n).bind (f n)) P := by
  obtain ⟨r, hr, hp⟩ := k
  exact ⟨r, Ev.bind h hr, hp⟩
theorem evp_bind0 {α β : Type} {x : Option α} {a : α} {f : Nat → α → Option β} {P : β → Prop} (h : x = some a) (k : EvP (fun n => f n a) P) : EvP (fun n => x.bind (f n)) P := by
  obtain ⟨r, hr, hp⟩ := k
  exact ⟨r, ev_bind0 h hr, hp⟩
theorem evp_ret {α : Type} {x : α} {P : α → Prop} (h : P x) : EvP (fun _ => some x) P := ⟨x, ev_ret rfl, h⟩
theorem and255 (x : Int) : 0 ≤ Go.bits .and .i64 x 255 ∧ Go.bits .and .i64 x 255 ≤ 255 := by
  have e : Go.bits .and .i64 x 255 = IntKind.i64.wrap ((BitVec.ofInt 64 x &&& BitVec.ofInt 64 255).toNat : Int) := rfl
  have h : (BitVec.ofInt 64 x &&& BitVec.ofInt 64 255).toNat ≤ 255 := by
    rw [BitVec.toNat_and]
    exact Nat.le_trans Nat.and_le_right (by decide)
  rw [e]
  generalize (BitVec.ofInt 64 x &&& BitVec.ofInt 64 255).toNat = n at h
  have w : IntKind.i64.wrap (n : Int) = (n : Int) := by rw [i64_w]; exact w64_id (by omega) (by omega)
  rw [w]
  omega
theorem byte_ok {s : List Int} (hl : s.length ≤ 1048576) {i h : Int} (h0 : 0 ≤ i) : ∃ b i' h', spec_l1Byte.f s i h = some (b, i', h') ∧ 0 ≤ b ∧ b ≤ 255 ∧ 0 ≤ i' := by
  unfold spec_l1Byte.f
  by_cases hi : i < (s.length : Int)
  · rw [if_pos hi, if_pos h0]
    exact ⟨_, _, _, rfl, (and255 _).1, (and255 _).2, by rw [w64_id (by omega) (by omega)]; omega⟩
  · rw [if_neg hi]
    exact ⟨_, _, _, rfl, (and255 _).1, (and255 _).2, h0⟩
theorem below_ok {s : List Int} (hl : s.length ≤ 1048576) {i h : Int} (h0 : 0 ≤ i) {n : Int} (hn : 0 < n) : ∃ x i' h', spec_l1Below.f s i h n = some (x, i', h') ∧ 0 ≤ x ∧ x < n ∧ 0 ≤ i' := by
  unfold spec_l1Below.f
  rw [if_neg (by omega)]
  obtain ⟨b, i1, h1, e1, b0, b1, p1⟩ := byte_ok hl (h := h) h0
  by_cases h2 : n ≤ 256
  · rw [if_pos h2, e1, Option.bind_some, if_neg (by omega)]
    refine ⟨_, _, _, rfl, ?_, ?_, p1⟩
    · simp only [Int.tmod_eq_emod_of_nonneg b0]; exact Int.emod_nonneg _ (by omega)
    · simp only [Int.tmod_eq_emod_of_nonneg b0]; exact Int.emod_lt_of_pos _ hn
  · obtain ⟨c, i2, h2', e2, c0, c1, p2⟩ := byte_ok hl (h := h1) p1
    obtain ⟨d, i3, h3, e3, d0, d1, p3⟩ := byte_ok hl (h := h2') p2
    rw [if_neg h2, e1, Option.bind_some, e2, Option.bind_some, e3, Option.bind_some, if_neg (by omega)]
    have w : wrap64 (wrap64 (wrap64 (b * 65536) + wrap64 (c * 256)) + d) = b * 65536 + c * 256 + d := by
      rw [w64_id (x := b * 65536) (by omega) (by omega), w64_id (x := c * 256) (by omega) (by omega), w64_id (x := b * 65536 + c * 256) (by omega) (by omega), w64_id (by omega) (by omega)]
    refine ⟨_, _, _, rfl, ?_, ?_, p3⟩
    · simp only [w, Int.tmod_eq_emod_of_nonneg (show 0 ≤ b * 65536 + c * 256 + d by omega)]; exact Int.emod_nonneg _ (by omega)
    · simp only [w, Int.tmod_eq_emod_of_nonneg (show 0 ≤ b * 65536 + c * 256 + d by omega)]; exact Int.emod_lt_of_pos _ hn
theorem once_ok {s : List Int} (hl : s.length ≤ 1048576) {i h : Int} (h0 : 0 ≤ i) {n : Int} (hn : 0 < n) : ∃ b i' h', spec_l1Once.f s i h n = some (b, i', h') ∧ 0 ≤ i' := by
  obtain ⟨x, i1, h1, e1, _, _, p1⟩ := below_ok hl (h := h) h0 hn
  unfold spec_l1Once.f
  rw [e1, Option.bind_some]
  exact ⟨_, _, _, rfl, p1⟩
theorem new_l0 {s : List Int} (hl : s.length ≤ 1048576) : ∀ (d i : Nat) (h : Int), i + d = s.length → EvP (fun k => spec_l1New.l0 k s h (i : Int)) (fun r => r.1 = s ∧ r.2.1 = 0) := by
  intro d
  induction d with
  | zero => intro i h hd; exact EvP.step (fun _ => spec_l1New.l0.eq_2 ..) (evp_neg (by omega) (evp_ret ⟨rfl, rfl⟩))
  | succ d ih =>
    intro i h hd
    have e1 : wrap64 ((i : Int) + 1) = ((i + 1 : Nat) : Int) := by rw [w64_id (by omega) (by omega)]; omega
    refine EvP.step (fun _ => spec_l1New.l0.eq_2 ..) (evp_pos (by omega) (evp_pos (by omega) ?_))
    rw [e1]
    exact ih (i + 1) _ (by omega)
/-- A block that lies in a set of that many frames. -/
def fits (n : Nat) (b : S73) : Prop := ∃ a o : Nat, b = ⟨(a : Int), (o : Int)⟩ ∧ o ≤ 10 ∧ a + 2 ^ o ≤ n
theorem blkOk_fits {total a o : Int} (h : blkOk total a o = true) : fits total.toNat ⟨a, o⟩ := by
  have hb := blkOk_iff.1 h
  refine ⟨a.toNat, o.toNat, ?_, by omega, ?_⟩
  · rw [show ((a.toNat : Nat) : Int) = a by omega, show ((o.toNat : Nat) : Int) = o by omega]
  · have : p2 o = ((2 ^ o.toNat : Nat) : Int) := rfl
    omega
theorem blksOk_fits {total : Int} : ∀ (l : List S73) (p : Option S73) (e : Int), blksOk total p e l = true → ∀ b ∈ l, fits total.toNat b := by
  intro l
  induction l with
  | nil => intro p e _ b hb; cases hb
  | cons c l ih =>
    intro p e h b hb
    rw [blksOk] at h
    by_cases h1 : blkOk total c.f0 c.f1 = true ∧ ¬ c.f0 < e
    · rw [if_pos h1] at h
      by_cases h2 : blkJoin p e c
      · rw [if_pos h2] at h; exact absurd h (by decide)
      · rw [if_neg h2] at h
        rcases List.mem_cons.1 hb with rfl | hb
        · exact blkOk_fits h1.1
        · exact ih _ _ h b hb
    · rw [if_neg h1] at h; exact absurd h (by decide)
theorem framesOk_fits {total : Int} {l : List S73} (h : framesOk total l = true) : ∃ n : Nat, total = (n : Int) ∧ n ≤ 1024 ∧ ∀ b ∈ l, fits n b := by
  unfold framesOk at h
  by_cases hb : total < 0 ∨ total > 1024
  · rw [if_pos hb] at h; exact absurd h (by decide)
  · rw [if_neg hb] at h
    exact ⟨total.toNat, by omega, by omega, blksOk_fits _ _ _ h⟩
def setAll : List Bool → List S73 → List Bool
  | m, [] => m
  | m, b :: bs => setAll (setRun true m b.f0.toNat (2 ^ b.f1.toNat)) bs
theorem setAll_len : ∀ (l : List S73) (m : List Bool), (setAll m l).length = m.length := by
  intro l
  induction l with
  | nil => intro m; rfl
  | cons b l ih => intro m; rw [setAll, ih, setRun_len]
def mapOf (n : Nat) (l : List S73) : List Bool := setAll (List.replicate n false) l
theorem mapOf_len (n : Nat) (l : List S73) : (mapOf n l).length = n := by rw [mapOf, setAll_len, List.length_replicate]
theorem pow_1024 {o : Nat} (h : o ≤ 10) : 2 ^ o ≤ 1024 := by
  have := Nat.pow_le_pow_right (n := 2) (by decide) h
  have h4 : (2 : Nat) ^ 10 = 1024 := by decide
  omega
/-- All of a run hold v. -/
def allv (v : Bool) (m : List Bool) (a n : Nat) : Prop := ∀ i, i < n → m[a + i]? = some v
instance (v : Bool) (m : List Bool) (a n : Nat) : Decidable (allv v m a n) := by unfold allv; exact inferInstance
theorem whole_allv {m : List Bool} {a n : Nat} (h : a + n ≤ m.length) : impl_framesOf.whole m a n ↔ allv true m a n := ⟨fun w => w.2, fun w => ⟨h, w⟩⟩
theorem allv_zero (v : Bool) (m : List Bool) (a : Nat) : allv v m a 0 := fun i hi => absurd hi (Nat.not_lt_zero i)
theorem allv_succ {v : Bool} {m : List Bool} {a n : Nat} : allv v m a (n + 1) ↔ m[a]? = some v ∧ allv v m (a + 1) n := by
  constructor
  · intro h
    refine ⟨h 0 (by omega), fun i hi => ?_⟩
    have := h (i + 1) (by omega)
    rw [show a + 1 + i = a + (i + 1) by omega]; exact this
  · intro h i hi
    cases i with
    | zero => exact h.1
    | succ i => have := h.2 i (by omega); rw [show a + (i + 1) = a + 1 + i by omega]; exact this
theorem allv_set {v u : Bool} {m : List Bool} {a n : Nat} : allv v (m.set a u) (a + 1) n ↔ allv v m (a + 1) n := by
  constructor
  · intro h i hi
    have := h i hi
    rw [List.getElem?_set_ne (by omega)] at this
    exact this
  · intro h i hi
    rw [List.getElem?_set_ne (by omega)]
    exact h i hi
theorem spec_l8Set_l1 {n : Nat} (hn : n ≤ 1024) {l : List S73} (hl : l.length ≤ 1099511627776) {i a o : Nat} (hi : i < l.length) (hb : l[i] = ⟨(a : Int), (o : Int)⟩) (ho : o ≤ 10) (hao : a + 2 ^ o ≤ n) {tot : Int} {r : List Bool} : ∀ (d j : Nat) (m : List Bool), j + d = 2 ^ o → m.length = n →
    Ev (fun k => spec_l8Set.l0 k (setRun true m (a + j) d) ((i + 1 : Nat) : Int) tot l) r → Ev (fun k => spec_l8Set.l1 k m (i : Int) (j : Int) tot l) r := by
  intro d
  have er : rd_T73 l (i : Int) = ⟨(a : Int), (o : Int)⟩ := (getD_nat _ hi).trans hb
  induction d with
  | zero =>
    intro j m h hm hr
    refine Ev.step (fun _ => spec_l8Set.l1.eq_2 ..) (ev_pos (by omega) (ev_pos (by omega) ?_))
    rw [er, w64_succ hi (by omega)]
    refine Ev.bind (spec_l8Len_ev (o := (o : Int)) (by omega) (by omega)) (ev_neg (by show ¬ (j : Int) < ((2 ^ o : Nat) : Int); omega) hr)
  | succ d ih =>
    intro j m h hm hr
    have e : wrap64 ((a : Int) + (j : Int)) = ((a + j : Nat) : Int) := by rw [w64_id (by omega) (by omega)]; omega
    have e1 : wrap64 ((j : Int) + 1) = ((j + 1 : Nat) : Int) := by rw [w64_id (by omega) (by omega)]; omega
    refine Ev.step (fun _ => spec_l8Set.l1.eq_2 ..) (ev_pos (by omega) (ev_pos (by omega) ?_))
    rw [er, w64_succ hi (by omega)]
    refine Ev.bind (spec_l8Len_ev (o := (o : Int)) (by omega) (by omega)) (ev_pos (by show (j : Int) < ((2 ^ o : Nat) : Int); omega) ?_)
    rw [e, e1, Int.toNat_natCast]
    have hlt : a + j < m.length := by omega
    refine ev_pos (Int.natCast_nonneg _) ?_
    refine ev_pos (Int.ofNat_lt.2 hlt) ?_
    rw [setRun] at hr
    exact ih (j + 1) (m.set (a + j) true) (by omega) (by rw [List.length_set]; exact hm) hr
theorem spec_l8Set_l0 {n : Nat} (hn : n ≤ 1024) {l : List S73} (hl : l.length ≤ 1099511627776) (hf : ∀ b ∈ l, fits n b) {tot : Int} : ∀ (d i : Nat) (m : List Bool), i + d = l.length → m.length = n → Ev (fun k => spec_l8Set.l0 k m (i : Int) tot l) (setAll m (l.drop i)) := by
  intro d
  induction d with
  | zero =>
    intro i m h hm
    rw [List.drop_eq_nil_of_le (by omega)]
    exact Ev.step (fun _ => spec_l8Set.l0.eq_2 ..) (ev_neg (by omega) (ev_ret rfl))
  | succ d ih =>
    intro i m h hm
    have hi : i < l.length := by omega
    obtain ⟨a, o, hb, ho, hao⟩ := hf _ (List.getElem_mem hi)
    rw [List.drop_eq_getElem_cons hi, setAll, hb]
    refine Ev.step (fun _ => spec_l8Set.l0.eq_2 ..) (ev_pos (by omega) ?_)
    refine spec_l8Set_l1 hn hl hi hb ho hao (2 ^ o) 0 m (by omega) hm ?_
    exact ih (i + 1) _ (by omega) (by rw [setRun_len]; exact hm)
theorem spec_l8Set_ev {n : Nat} (hn : n ≤ 1024) {l : List S73} (hl : l.length ≤ 1099511627776) (hf : ∀ b ∈ l, fits n b) : Ev (fun k => spec_l8Set.f k (n : Int) l) (mapOf n l) := by
  unfold spec_l8Set.f
  refine ev_pos (by omega) (ev_pos (by omega) ?_)
  have := spec_l8Set_l0 hn hl hf (tot := (n : Int)) l.length 0 (List.replicate n false) (by omega) (by simp)
  rw [List.drop_zero] at this
  rw [Int.toNat_natCast]
  exact this
theorem impl_freeMap_l1 {n : Nat} (hn : n ≤ 1024) {l : List S73} (hl : l.length ≤ 1099511627776) {i a o : Nat} (hi : i < l.length) (ho : o ≤ 10) (hao : a + 2 ^ o ≤ n) {y : Int} {r : List Bool} : ∀ (d j : Nat) (m : List Bool), j + d = 2 ^ o → m.length = n →
    Ev (fun k => impl_freeMap.l0 k (setRun true m (a + j) d) l (l.length : Int) ((i + 1 : Nat) : Int)) r → Ev (fun k => impl_freeMap.l1 k m l (l.length : Int) (i : Int) ((2 ^ o : Nat) : Int) (j : Int) (a : Int) y) r := by
  intro d
  induction d with
  | zero =>
    intro j m h hm hr
    refine Ev.step (fun _ => impl_freeMap.l1.eq_2 ..) (ev_neg (by omega) ?_)
    rw [w64_succ hi (by omega)]
    exact hr
  | succ d ih =>
    intro j m h hm hr
    have hp := pow_1024 ho
    have e : wrap64 ((a : Int) + (j : Int)) = ((a + j : Nat) : Int) := by rw [w64_id (by omega) (by omega)]; omega
    have e1 : wrap64 ((j : Int) + 1) = ((j + 1 : Nat) : Int) := by rw [w64_id (by omega) (by omega)]; omega
    refine Ev.step (fun _ => impl_freeMap.l1.eq_2 ..) (ev_pos (by omega) ?_)
    rw [e, e1, Int.toNat_natCast]
    have hlt : a + j < m.length := by omega
    refine ev_pos (Int.natCast_nonneg _) ?_
    refine ev_pos (Int.ofNat_lt.2 hlt) ?_
    rw [setRun] at hr
    exact ih (j + 1) (m.set (a + j) true) (by omega) (by rw [List.length_set]; exact hm) hr
theorem impl_freeMap_l0 {n : Nat} (hn : n ≤ 1024) {l : List S73} (hl : l.length ≤ 1099511627776) (hf : ∀ b ∈ l, fits n b) : ∀ (d i : Nat) (m : List Bool), i + d = l.length → m.length = n → Ev (fun k => impl_freeMap.l0 k m l (l.length : Int) (i : Int)) (setAll m (l.drop i)) := by
  intro d
  induction d with
  | zero =>
    intro i m h hm
    rw [List.drop_eq_nil_of_le (by omega)]
    exact Ev.step (fun _ => impl_freeMap.l0.eq_2 ..) (ev_neg (by omega) (ev_ret rfl))
  | succ d ih =>
    intro i m h hm
    have hi : i < l.length := by omega
    obtain ⟨a, o, hb, ho, hao⟩ := hf _ (List.getElem_mem hi)
    have er : rd_T73 l (i : Int) = ⟨(a : Int), (o : Int)⟩ := (getD_nat _ hi).trans hb
    rw [List.drop_eq_getElem_cons hi, setAll, hb]
    refine Ev.step (fun _ => impl_freeMap.l0.eq_2 ..) (ev_pos (by omega) (ev_pos (by omega) (ev_pos (by omega) ?_)))
    rw [er]
    refine ev_pos (by show (0 : Int) ≤ (o : Int); omega) ?_
    show Ev (fun k => impl_freeMap.l1 k m l (l.length : Int) (i : Int) (shl .i64 1 (o : Int)) 0 (a : Int) (o : Int)) _
    rw [shl_p2 (o := (o : Int)) (by omega) (by omega)]
    exact impl_freeMap_l1 hn hl hi ho hao (2 ^ o) 0 m (by omega) hm (ih (i + 1) _ (by omega) (by rw [setRun_len]; exact hm))
theorem impl_freeMap_ev {n : Nat} (hn : n ≤ 1024) {l : List S73} (hl : l.length ≤ 1099511627776) (hf : ∀ b ∈ l, fits n b) : Ev (fun k => impl_freeMap.f k (n : Int) l) (mapOf n l) := by
  unfold impl_freeMap.f
  refine ev_pos (by omega) (ev_pos (by omega) ?_)
  have := impl_freeMap_l0 hn hl hf l.length 0 (List.replicate n false) (by omega) (by simp)
  rw [List.drop_zero] at this
  rw [Int.toNat_natCast]
  exact this
theorem spec_l8Mark_l0 (v : Bool) {a n : Nat} : ∀ (d i : Nat) (m : List Bool), i + d = n → a + n ≤ m.length → m.length ≤ 1048576 → Ev (fun k => spec_l8Mark.l0 k m (a : Int) (n : Int) v (i : Int)) (setRun v m (a + i) d) := by
  intro d
  induction d with
  | zero => intro i m h hm hm2; exact Ev.step (fun _ => spec_l8Mark.l0.eq_2 ..) (ev_neg (by omega) (ev_ret rfl))
  | succ d ih =>
    intro i m h hm hm2
    have e : wrap64 ((a : Int) + (i : Int)) = ((a + i : Nat) : Int) := by rw [w64_id (by omega) (by omega)]; omega
    have e1 : wrap64 ((i : Int) + 1) = ((i + 1 : Nat) : Int) := by rw [w64_id (by omega) (by omega)]; omega
    refine Ev.step (fun _ => spec_l8Mark.l0.eq_2 ..) (ev_pos (by omega) ?_)
    rw [e, e1, Int.toNat_natCast]
    have hlt : a + i < m.length := by omega
    refine ev_pos (Int.natCast_nonneg _) ?_
    refine ev_pos (Int.ofNat_lt.2 hlt) ?_
    rw [setRun]
    exact ih (i + 1) _ (by omega) (by rw [List.length_set]; exact hm) (by rw [List.length_set]; exact hm2)
theorem spec_l8Mark_ev (v : Bool) {a n : Nat} {m : List Bool} (h : a + n ≤ m.length) (hm : m.length ≤ 1048576) : Ev (fun k => spec_l8Mark.f k m (a : Int) (n : Int) v) (setRun v m a n) := spec_l8Mark_l0 v n 0 m (by omega) h hm
theorem spec_l8Same_eq (t : Int) {l : List S73} (h : l.length ≤ 1099511627776) : spec_l8Same.f t l = some (t, l) := by
  unfold spec_l8Same.f
  rw [Option.bind_some, if_pos (by simp; omega), List.nil_append]
theorem impl_copyFrames_eq (t : Int) {l : List S73} (h : l.length ≤ 1099511627776) : impl_copyFrames.f t l = some (t, l) := by
  unfold impl_copyFrames.f
  rw [if_pos (by simp; omega), List.nil_append]
def giveV (total : Int) (l : List S73) (a o : Int) : Int × List S73 × Bool :=
  if framesOk total l = true ∧ blkOk total a o = true then
    (if allv false (mapOf total.toNat l) a.toNat (2 ^ o.toNat) then (total, listG (setRun true (mapOf total.toNat l) a.toNat (2 ^ o.toNat)) 0, true) else (total, l, false))
  else (0, [], false)
theorem impl_FramesGive_l0 {t a n : Nat} (ht : t ≤ 1024) (han : a + n ≤ t) {l : List S73} (hl : l.length ≤ 1099511627776) : ∀ (d i : Nat) (m : List Bool), i + d = n → m.length = t →
    Ev (fun k => impl_FramesGive.l0 k (a : Int) m (n : Int) (i : Int) (t : Int) l) (if allv false m (a + i) d then ((t : Int), listG (setRun true m (a + i) d) 0, true) else ((t : Int), l, false)) := by
  intro d
  induction d with
  | zero =>
    intro i m h hm
    rw [if_pos (allv_zero _ _ _)]
    refine Ev.step (fun _ => impl_FramesGive.l0.eq_2 ..) (ev_neg (by omega) (ev_bind0 (impl_framesOf_eq (by omega)) (ev_ret ?_)))
    rw [hm]; rfl
  | succ d ih =>
    intro i m h hm
    have hi : a + i < m.length := by omega
    have e : wrap64 ((a : Int) + (i : Int)) = ((a + i : Nat) : Int) := by rw [w64_id (by omega) (by omega)]; omega
    have e1 : wrap64 ((i : Int) + 1) = ((i + 1 : Nat) : Int) := by rw [w64_id (by omega) (by omega)]; omega
    refine Ev.step (fun _ => impl_FramesGive.l0.eq_2 ..) (ev_pos (by omega) ?_)
    rw [e, e1, Int.toNat_natCast]
    refine ev_pos (Int.natCast_nonneg _) ?_
    refine ev_pos (Int.ofNat_lt.2 hi) ?_
    rw [rdb_nat hi]
    by_cases hc : m[a + i] = true
    · rw [if_neg (fun w => absurd ((allv_succ.1 w).1) (by rw [List.getElem?_eq_getElem hi, hc]; decide))]
      exact ev_pos hc (ev_bind0 (impl_copyFrames_eq _ hl) (ev_ret rfl))
    · refine ev_neg hc (ev_eq ?_ (ih (i + 1) (m.set (a + i) true) (by omega) (by rw [List.length_set]; exact hm)))
      have hg : m[a + i]? = some false := by rw [List.getElem?_eq_getElem hi]; exact congrArg some (Bool.eq_false_iff.2 hc)
      have hq : allv false (m.set (a + i) true) (a + (i + 1)) d ↔ allv false m (a + i) (d + 1) := by
        rw [show a + (i + 1) = a + i + 1 by omega, allv_set, allv_succ]
        exact ⟨fun h => ⟨hg, h⟩, fun h => h.2⟩
      by_cases w : allv false m (a + i) (d + 1)
      · rw [if_pos w, if_pos (hq.2 w), setRun, show a + (i + 1) = a + i + 1 by omega]
      · rw [if_neg w, if_neg (fun h => w (hq.1 h))]
theorem impl_FramesGive_ev (total a o : Int) {l : List S73} (hl : l.length ≤ 1099511627776) : Ev (fun k => impl_FramesGive.f k total l a o) (giveV total l a o) := by
  unfold impl_FramesGive.f
  have bad : Ev (fun k => impl_FramesGive.j0 k a o true total l) ((0, [], false) : Int × List S73 × Bool) := Ev.step (fun _ => impl_FramesGive.j0.eq_2 ..) (ev_pos rfl (ev_ret rfl))
  refine Ev.bind (impl_FramesOk_ev total hl) ?_
  by_cases hk : framesOk total l = true
  · obtain ⟨t, rfl, ht, hf⟩ := framesOk_fits hk
    refine ev_pos hk (ev_bind0 (impl_blockOk_eq (by omega)) ?_)
    by_cases hb : blkOk (t : Int) a o = true
    · rw [giveV, if_pos ⟨hk, hb⟩, hb]
      obtain ⟨a1, o1, he, ho, hao⟩ := blkOk_fits hb
      injection he with ea eo
      subst ea eo
      simp only [Int.toNat_natCast] at hao ⊢
      refine Ev.step (fun _ => impl_FramesGive.j0.eq_2 ..) (ev_neg (by decide) (Ev.bind (impl_freeMap_ev ht hl hf) (ev_pos (by omega) ?_)))
      rw [shl_p2 (o := (o1 : Int)) (by omega) (by omega)]
      exact impl_FramesGive_l0 ht hao hl (2 ^ o1) 0 (mapOf t l) (by omega) (mapOf_len t l)
    · rw [giveV, if_neg (fun h => hb h.2), Bool.eq_false_iff.2 hb]
      exact bad
  · rw [giveV, if_neg (fun h => hk h.1)]
    exact ev_neg hk bad
def bestGo (o : Int) (l : List S73) : List S73 → Nat → Int → Int
  | [], _, best => best
  | b :: bs, i, best => bestGo o l bs (i + 1) (if b.f1 ≥ o ∧ (best < 0 ∨ b.f1 < (rd_T73 l best).f1) then (i : Int) else best)
/-- No place yet, or the place of a block that is large enough. -/
def bestOk (o : Int) (l : List S73) (i : Nat) (best : Int) : Prop := best = -1 ∨ (0 ≤ best ∧ best < (i : Int) ∧ (rd_T73 l best).f1 ≥ o)
theorem bestOk_next {o : Int} {l : List S73} {i : Nat} {best : Int} (hi : i < l.length) (h : bestOk o l i best) : bestOk o l (i + 1) (if l[i].f1 ≥ o ∧ (best < 0 ∨ l[i].f1 < (rd_T73 l best).f1) then (i : Int) else best) := by
  split
  · rename_i hc
    have er : rd_T73 l (i : Int) = l[i] := getD_nat _ hi
    exact .inr ⟨by omega, by omega, by rw [er]; exact hc.1⟩
  · rcases h with h | h
    · exact .inl h
    · exact .inr ⟨h.1, by omega, h.2.2⟩
theorem bestGo_ok {o : Int} {l : List S73} : ∀ (d i : Nat) (best : Int), i + d = l.length → bestOk o l i best → bestOk o l l.length (bestGo o l (l.drop i) i best) := by
  intro d
  induction d with
  | zero =>
    intro i best h hb
    rw [List.drop_eq_nil_of_le (by omega), show l.length = i by omega]
    exact hb
  | succ d ih =>
    intro i best h hb
    have hi : i < l.length := by omega
    rw [List.drop_eq_getElem_cons hi, bestGo]
    exact ih (i + 1) _ (by omega) (bestOk_next hi hb)
def takeEnd (total : Int) (l : List S73) (o best : Int) : Int × List S73 × Int :=
  if best < 0 then (total, l, -1) else (total, listG (setRun false (mapOf total.toNat l) (rd_T73 l best).f0.toNat (2 ^ o.toNat)) 0, (rd_T73 l best).f0)
def takeV (total : Int) (l : List S73) (o : Int) : Int × List S73 × Int :=
  if framesOk total l = true ∧ 0 ≤ o ∧ o ≤ 10 then takeEnd total l o (bestGo o l l 0 (-1)) else (0, [], -1)
theorem best_fits {t : Nat} {l : List S73} (hf : ∀ b ∈ l, fits t b) {o : Nat} {best : Int} (h : bestOk (o : Int) l l.length best) (h0 : ¬ best < 0) : ∃ a p : Nat, rd_T73 l best = ⟨(a : Int), (p : Int)⟩ ∧ a + 2 ^ o ≤ t ∧ o ≤ p ∧ 0 ≤ best ∧ best < (l.length : Int) := by
  rcases h with h | ⟨h1, h2, h3⟩
  · omega
  · obtain ⟨b, rfl, hb⟩ := to_nat h1 h2
    have er : rd_T73 l (b : Int) = l[b] := getD_nat _ hb
    obtain ⟨a, p, he, hp, hap⟩ := hf _ (List.getElem_mem hb)
    rw [er, he] at h3 ⊢
    have h3' : (p : Int) ≥ (o : Int) := h3
    refine ⟨a, p, rfl, ?_, by omega, h1, h2⟩
    have := Nat.pow_le_pow_right (n := 2) (by decide) (show o ≤ p by omega)
    omega
theorem spec_FramesTake_l0 {t o : Nat} (ht : t ≤ 1024) (ho : o ≤ 10) {l : List S73} (hl : l.length ≤ 1099511627776) (hf : ∀ b ∈ l, fits t b) : ∀ (d i : Nat) (best : Int), i + d = l.length → bestOk (o : Int) l i best →
    Ev (fun k => spec_FramesTake.l0 k (o : Int) best (i : Int) (t : Int) l) (takeEnd (t : Int) l (o : Int) (bestGo (o : Int) l (l.drop i) i best)) := by
  intro d
  induction d with
  | zero =>
    intro i best h hb
    have e : i = l.length := by omega
    subst e
    rw [List.drop_eq_nil_of_le (Nat.le_refl _), bestGo, takeEnd]
    refine Ev.step (fun _ => spec_FramesTake.l0.eq_2 ..) (ev_neg (by omega) ?_)
    by_cases h0 : best < 0
    · rw [if_pos h0]
      exact ev_pos h0 (ev_bind0 (spec_l8Same_eq _ hl) (ev_ret rfl))
    · rw [if_neg h0]
      obtain ⟨a, p, he, hap, hop, hb1, hb2⟩ := best_fits hf hb h0
      rw [he]
      simp only [Int.toNat_natCast]
      refine ev_neg h0 (Ev.bind (spec_l8Set_ev ht hl hf) (ev_pos hb1 (ev_pos hb2 (Ev.bind (spec_l8Len_ev (o := (o : Int)) (by omega) (by omega)) ?_))))
      have hp2 : p2 (o : Int) = ((2 ^ o : Nat) : Int) := rfl
      have hm : (mapOf t l).length = t := mapOf_len t l
      rw [hp2]
      refine Ev.bind (spec_l8Mark_ev false (by omega) (by omega)) (Ev.bind (spec_l8List_ev (by rw [setRun_len]; omega)) (ev_ret ?_))
      rw [setRun_len, hm]
  | succ d ih =>
    intro i best h hb
    have hi : i < l.length := by omega
    have er : rd_T73 l (i : Int) = l[i] := getD_nat _ hi
    have hn := bestOk_next hi hb
    rw [List.drop_eq_getElem_cons hi, bestGo]
    refine Ev.step (fun _ => spec_FramesTake.l0.eq_2 ..) (ev_pos (by omega) (ev_pos (by omega) ?_))
    rw [er, w64_succ hi (by omega)]
    have next := fun bb hbb => ih (i + 1) bb (by omega) hbb
    by_cases c1 : l[i].f1 ≥ (o : Int)
    · refine ev_pos c1 ?_
      by_cases c2 : best < 0
      · rw [if_pos ⟨c1, .inl c2⟩] at hn ⊢
        exact ev_pos c2 (next _ hn)
      · obtain ⟨hb1, hb2, hb3⟩ := hb.resolve_left (by omega)
        refine ev_neg c2 (ev_pos hb1 (ev_pos (by omega) ?_))
        by_cases c3 : l[i].f1 < (rd_T73 l best).f1
        · rw [if_pos ⟨c1, .inr c3⟩] at hn ⊢
          exact ev_pos c3 (next _ hn)
        · rw [if_neg (fun h => h.2.elim c2 c3)] at hn ⊢
          exact ev_neg c3 (next _ hn)
    · rw [if_neg (fun h => c1 h.1)] at hn ⊢
      exact ev_neg c1 (next _ hn)
theorem spec_FramesTake_ev (total o : Int) {l : List S73} (hl : l.length ≤ 1099511627776) : Ev (fun k => spec_FramesTake.f k total l o) (takeV total l o) := by
  unfold spec_FramesTake.f
  have bad : Ev (fun k => spec_FramesTake.j0 k o true total l) ((0, [], -1) : Int × List S73 × Int) := Ev.step (fun _ => spec_FramesTake.j0.eq_2 ..) (ev_pos rfl (ev_ret rfl))
  refine Ev.bind (spec_FramesOk_ev total hl) ?_
  by_cases hk : framesOk total l = true
  · refine ev_pos hk ?_
    by_cases ho : 0 ≤ o ∧ o ≤ 10
    · rw [takeV, if_pos ⟨hk, ho⟩]
      obtain ⟨t, rfl, ht, hf⟩ := framesOk_fits hk
      obtain ⟨o, rfl, _⟩ := to_nat (a := o) (m := 11) (by omega) (by omega)
      refine ev_neg (by omega) ?_
      rw [decide_eq_false (by omega)]
      exact Ev.step (fun _ => spec_FramesTake.j0.eq_2 ..) (ev_neg (by decide) (spec_FramesTake_l0 ht (by omega) hl hf l.length 0 (-1) (by omega) (.inl rfl)))
    · rw [takeV, if_neg (fun h => ho h.2)]
      refine ev_split (fun _ => bad) (fun c => ?_)
      rw [decide_eq_true (by omega)]
      exact bad
  · rw [takeV, if_neg (fun h => hk h.1)]
    exact ev_neg hk bad
theorem impl_FramesTake_l1 {t a n : Nat} (ht : t ≤ 1024) (han : a + n ≤ t) {y : Int} : ∀ (d i : Nat) (m : List Bool), i + d = n → m.length = t →
    Ev (fun k => impl_FramesTake.l1 k m (n : Int) (i : Int) (a : Int) y) ((t : Int), listG (setRun false m (a + i) d) 0, (a : Int)) := by
  intro d
  induction d with
  | zero =>
    intro i m h hm
    refine Ev.step (fun _ => impl_FramesTake.l1.eq_2 ..) (ev_neg (by omega) (ev_bind0 (impl_framesOf_eq (by omega)) (ev_ret ?_)))
    rw [hm]; rfl
  | succ d ih =>
    intro i m h hm
    have e : wrap64 ((a : Int) + (i : Int)) = ((a + i : Nat) : Int) := by rw [w64_id (by omega) (by omega)]; omega
    have e1 : wrap64 ((i : Int) + 1) = ((i + 1 : Nat) : Int) := by rw [w64_id (by omega) (by omega)]; omega
    refine Ev.step (fun _ => impl_FramesTake.l1.eq_2 ..) (ev_pos (by omega) ?_)
    rw [e, e1, Int.toNat_natCast]
    have hlt : a + i < m.length := by omega
    refine ev_pos (Int.natCast_nonneg _) ?_
    refine ev_pos (Int.ofNat_lt.2 hlt) ?_
    rw [setRun]
    exact ih (i + 1) _ (by omega) (by rw [List.length_set]; exact hm)
theorem impl_FramesTake_l0 {t o : Nat} (ht : t ≤ 1024) (ho : o ≤ 10) {l : List S73} (hl : l.length ≤ 1099511627776) (hf : ∀ b ∈ l, fits t b) : ∀ (d i : Nat) (best : Int), i + d = l.length → bestOk (o : Int) l i best →
    Ev (fun k => impl_FramesTake.l0 k (o : Int) best l (l.length : Int) (i : Int) (t : Int) l) (takeEnd (t : Int) l (o : Int) (bestGo (o : Int) l (l.drop i) i best)) := by
  intro d
  induction d with
  | zero =>
    intro i best h hb
    have e : i = l.length := by omega
    subst e
    rw [List.drop_eq_nil_of_le (Nat.le_refl _), bestGo, takeEnd]
    refine Ev.step (fun _ => impl_FramesTake.l0.eq_2 ..) (ev_neg (by omega) ?_)
    by_cases h0 : best < 0
    · rw [if_pos h0]
      exact ev_pos h0 (ev_bind0 (impl_copyFrames_eq _ hl) (ev_ret rfl))
    · rw [if_neg h0]
      obtain ⟨a, p, he, hap, hop, hb1, hb2⟩ := best_fits hf hb h0
      rw [he]
      simp only [Int.toNat_natCast]
      refine ev_neg h0 (Ev.bind (impl_freeMap_ev ht hl hf) (ev_pos hb1 (ev_pos hb2 (ev_pos (by omega) ?_))))
      rw [shl_p2 (o := (o : Int)) (by omega) (by omega)]
      exact impl_FramesTake_l1 ht hap (2 ^ o) 0 (mapOf t l) (by omega) (mapOf_len t l)
  | succ d ih =>
    intro i best h hb
    have hi : i < l.length := by omega
    have er : rd_T73 l (i : Int) = l[i] := getD_nat _ hi
    have hn := bestOk_next hi hb
    rw [List.drop_eq_getElem_cons hi, bestGo]
    refine Ev.step (fun _ => impl_FramesTake.l0.eq_2 ..) (ev_pos (by omega) (ev_pos (by omega) (ev_pos (by omega) ?_)))
    rw [er, w64_succ hi (by omega)]
    have next := fun bb hbb => ih (i + 1) bb (by omega) hbb
    by_cases c1 : l[i].f1 ≥ (o : Int)
    · refine ev_pos c1 ?_
      by_cases c2 : best < 0
      · rw [if_pos ⟨c1, .inl c2⟩] at hn ⊢
        exact ev_pos c2 (next _ hn)
      · obtain ⟨hb1, hb2, hb3⟩ := hb.resolve_left (by omega)
        refine ev_neg c2 (ev_pos hb1 (ev_pos (by omega) ?_))
        by_cases c3 : l[i].f1 < (rd_T73 l best).f1
        · rw [if_pos ⟨c1, .inr c3⟩] at hn ⊢
          exact ev_pos c3 (next _ hn)
        · rw [if_neg (fun h => h.2.elim c2 c3)] at hn ⊢
          exact ev_neg c3 (next _ hn)
    · rw [if_neg (fun h => c1 h.1)] at hn ⊢
      exact ev_neg c1 (next _ hn)
theorem impl_FramesTake_ev (total o : Int) {l : List S73} (hl : l.length ≤ 1099511627776) : Ev (fun k => impl_FramesTake.f k total l o) (takeV total l o) := by
  unfold impl_FramesTake.f
  have bad : Ev (fun k => impl_FramesTake.j0 k o true total l) ((0, [], -1) : Int × List S73 × Int) := Ev.step (fun _ => impl_FramesTake.j0.eq_2 ..) (ev_pos rfl (ev_ret rfl))
  refine Ev.bind (impl_FramesOk_ev total hl) ?_
  by_cases hk : framesOk total l = true
  · refine ev_pos hk ?_
    by_cases ho : 0 ≤ o ∧ o ≤ 10
    · rw [takeV, if_pos ⟨hk, ho⟩]
      obtain ⟨t, rfl, ht, hf⟩ := framesOk_fits hk
      obtain ⟨o, rfl, _⟩ := to_nat (a := o) (m := 11) (by omega) (by omega)
      refine ev_neg (by omega) ?_
      rw [decide_eq_false (by omega)]
      exact Ev.step (fun _ => impl_FramesTake.j0.eq_2 ..) (ev_neg (by decide) (impl_FramesTake_l0 ht (by omega) hl hf l.length 0 (-1) (by omega) (.inl rfl)))
    · rw [takeV, if_neg (fun h => ho h.2)]
      refine ev_split (fun _ => bad) (fun c => ?_)
      rw [decide_eq_true (by omega)]
      exact bad
  · rw [takeV, if_neg (fun h => hk h.1)]
    exact ev_neg hk bad
theorem ordG_spec {m : List Bool} {a : Nat} : ∀ (d k : Nat), a % 2 ^ k = 0 → impl_framesOf.whole m a (2 ^ k) → a % 2 ^ ordG m a d k = 0 ∧ impl_framesOf.whole m a (2 ^ ordG m a d k) ∧ (ordG m a d k = k + d ∨ ¬ (a % 2 ^ (ordG m a d k + 1) = 0 ∧ impl_framesOf.whole m a (2 ^ (ordG m a d k + 1)))) := by
  intro d
  induction d with
  | zero => intro k h w; exact ⟨h, w, Or.inl rfl⟩
  | succ d ih =>
    intro k h w
    rw [ordG]
    by_cases c : a % 2 ^ (k + 1) = 0 ∧ impl_framesOf.whole m a (2 ^ (k + 1))
    · rw [if_pos c]
      obtain ⟨h1, h2, h3⟩ := ih (k + 1) c.1 c.2
      exact ⟨h1, h2, h3.imp (fun e => by omega) id⟩
    · rw [if_neg c]; exact ⟨h, w, Or.inr c⟩
/-- Block a, o of the list: aligned, free, and its like of the next order isn't. -/
def topG (m : List Bool) (a o : Nat) : Prop := o ≤ 10 ∧ a % 2 ^ o = 0 ∧ impl_framesOf.whole m a (2 ^ o) ∧ (o = 10 ∨ ¬ (a % 2 ^ (o + 1) = 0 ∧ impl_framesOf.whole m a (2 ^ (o + 1))))
theorem topG_ord {m : List Bool} {a : Nat} (ha : a < m.length) (ht : m[a] = true) : topG m a (ordG m a 10 0) := by
  have w : impl_framesOf.whole m a (2 ^ 0) := ⟨by simp; omega, fun i hi => by
    have : i = 0 := by simp at hi; omega
    subst this
    rw [Nat.add_zero, List.getElem?_eq_getElem ha, ht]⟩
  obtain ⟨h1, h2, h3⟩ := ordG_spec (m := m) (a := a) 10 0 (by simp [Nat.mod_one]) w
  exact ⟨by have := (ordG_le m a 10 0).2; omega, h1, h2, h3.imp (fun e => by omega) id⟩
theorem topG_in {m : List Bool} : ∀ (d a : Nat), m.length ≤ a + d → ∀ b ∈ listG m a, ∃ x o : Nat, b = ⟨(x : Int), (o : Int)⟩ ∧ topG m x o := by
  intro d
  induction d with
  | zero => intro a h b hb; rw [listG_end (by omega)] at hb; cases hb
  | succ d ih =>
    intro a h b hb
    by_cases ha : a < m.length
    · rw [listG, dif_pos ha] at hb
      by_cases ht : m[a] = true
      · rw [if_pos ht] at hb
        rcases List.mem_cons.1 hb with rfl | hb
        · exact ⟨a, _, rfl, topG_ord ha ht⟩
        · have := Nat.two_pow_pos (ordG m a 10 0)
          exact ih _ (by omega) b hb
      · rw [if_neg ht] at hb; exact ih _ (by omega) b hb
    · rw [listG_end (by omega)] at hb; cases hb
theorem whole_join {m : List Bool} {a o : Nat} (h : impl_framesOf.whole m a (2 ^ o)) (h2 : impl_framesOf.whole m (a + 2 ^ o) (2 ^ o)) : impl_framesOf.whole m a (2 ^ (o + 1)) := by
  have e : 2 ^ (o + 1) = 2 ^ o + 2 ^ o := by rw [Nat.pow_succ]; omega
  refine ⟨by have := h2.1; omega, fun i hi => ?_⟩
  by_cases c : i < 2 ^ o
  · exact h.2 i c
  · have := h2.2 (i - 2 ^ o) (by omega)
    rwa [show a + 2 ^ o + (i - 2 ^ o) = a + i by omega] at this
theorem tmod_nat0 {a n : Nat} (h : a % n = 0) : Int.tmod (a : Int) (n : Int) = 0 := by rw [Int.tmod_eq_emod_of_nonneg (by omega)]; exact_mod_cast h
theorem nat_tmod0 {a n : Nat} (h : Int.tmod (a : Int) (n : Int) = 0) : a % n = 0 := by rw [Int.tmod_eq_emod_of_nonneg (by omega)] at h; exact_mod_cast h
theorem topG_blkOk {m : List Bool} {a o : Nat} (h : topG m a o) : blkOk (m.length : Int) (a : Int) (o : Int) = true := by
  obtain ⟨h1, h2, h3, _⟩ := h
  have := Nat.two_pow_pos o
  have := h3.1
  rw [blkOk_iff, p2_nat]
  exact ⟨by omega, by omega, by omega, by omega, tmod_nat0 h2, by omega⟩
theorem listG_blksOk {m : List Bool} : ∀ (d a : Nat) (p : Option S73) (e : Nat), m.length ≤ a + d → e ≤ a → (∀ c, p = some c → ∃ x o : Nat, c = ⟨(x : Int), (o : Int)⟩ ∧ topG m x o ∧ e = x + 2 ^ o) → blksOk (m.length : Int) p (e : Int) (listG m a) = true := by
  intro d
  induction d with
  | zero => intro a p e h he hp; rw [listG_end (by omega)]; cases p <;> rfl
  | succ d ih =>
    intro a p e h he hp
    by_cases ha : a < m.length
    · rw [listG, dif_pos ha]
      by_cases ht : m[a] = true
      · rw [if_pos ht]
        have top := topG_ord ha ht
        generalize ordG m a 10 0 = o at top
        rw [blksOk, if_pos ⟨topG_blkOk top, by show ¬ (a : Int) < e; omega⟩, if_neg]
        · have := Nat.two_pow_pos o
          have := ih (a + 2 ^ o) (some ⟨a, o⟩) (a + 2 ^ o) (by omega) (Nat.le_refl _) (fun c hc => ⟨a, o, (Option.some.inj hc).symm, top, rfl⟩)
          rw [show ((a : Int) + p2 (o : Int)) = ((a + 2 ^ o : Nat) : Int) by rw [p2_nat]; omega]
          exact this
        · rintro ⟨c, hc, j1, j2, j3, j4⟩
          obtain ⟨x, q, rfl, tc, rfl⟩ := hp c hc
          dsimp only at j1 j2 j3 j4
          obtain rfl : q = o := by omega
          have e2 : a = x + 2 ^ q := by omega
          subst e2
          rcases tc.2.2.2 with h10 | hn
          · omega
          · refine hn ⟨?_, whole_join tc.2.2.1 top.2.2.1⟩
            rw [p2_nat] at j4
            apply nat_tmod0
            rw [show ((2 ^ (q + 1) : Nat) : Int) = 2 * ((2 ^ q : Nat) : Int) by rw [Nat.pow_succ]; omega]
            exact j4
      · rw [if_neg ht]; exact ih (a + 1) p e (by omega) (by omega) hp
    · rw [listG_end (by omega)]; cases p <;> rfl
theorem framesOk_listG {m : List Bool} (h : m.length ≤ 1024) : framesOk (m.length : Int) (listG m 0) = true := by
  rw [framesOk, if_neg (by omega)]
  exact listG_blksOk m.length 0 none 0 (by omega) (Nat.le_refl _) (fun c hc => by cases hc)
theorem setRun_get (v : Bool) : ∀ (n a : Nat) (m : List Bool) (i : Nat), a + n ≤ m.length → (setRun v m a n)[i]? = if a ≤ i ∧ i < a + n then some v else m[i]? := by
  intro n
  induction n with
  | zero => intro a m i h; rw [setRun, if_neg (by omega)]
  | succ n ih =>
    intro a m i h
    rw [setRun, ih _ _ _ (by rw [List.length_set]; omega)]
    by_cases c : a + 1 ≤ i ∧ i < a + 1 + n
    · rw [if_pos c, if_pos (by omega)]
    · rw [if_neg c]
      by_cases e : a = i
      · subst e; rw [if_pos (by omega), List.getElem?_set_self (by omega)]
      · rw [if_neg (by omega), List.getElem?_set_ne e]
theorem setAll_listG {m : List Bool} : ∀ (d a : Nat) (c : List Bool), m.length ≤ a + d → c.length = m.length → (∀ i, a ≤ i → i < m.length → c[i]? = some false) → ∀ i, (setAll c (listG m a))[i]? = if i < a then c[i]? else m[i]? := by
  intro d
  induction d with
  | zero =>
    intro a c h hc hf i
    rw [listG_end (by omega), setAll]
    by_cases hi : i < a
    · rw [if_pos hi]
    · rw [if_neg hi, List.getElem?_eq_none (by omega), List.getElem?_eq_none (by omega)]
  | succ d ih =>
    intro a c h hc hf i
    by_cases ha : a < m.length
    · rw [listG, dif_pos ha]
      by_cases ht : m[a] = true
      · rw [if_pos ht]
        have top := topG_ord ha ht
        generalize ordG m a 10 0 = o at top
        have := Nat.two_pow_pos o
        have h1 := top.2.2.1.1
        rw [setAll]
        show (setAll (setRun true c a (2 ^ o)) _)[i]? = _
        rw [ih (a + 2 ^ o) _ (by omega) (by rw [setRun_len, hc]) (fun j h2 h3 => by rw [setRun_get _ _ _ _ _ (by omega), if_neg (by omega)]; exact hf j (by omega) h3)]
        by_cases hi : i < a + 2 ^ o
        · rw [if_pos hi, setRun_get _ _ _ _ _ (by omega)]
          by_cases hi2 : i < a
          · rw [if_neg (by omega), if_pos hi2]
          · rw [if_pos (by omega), if_neg hi2]
            have := top.2.2.1.2 (i - a) (by omega)
            rw [show a + (i - a) = i by omega] at this
            exact this.symm
        · rw [if_neg hi, if_neg (by omega)]
      · rw [if_neg ht, ih (a + 1) c (by omega) hc (fun j h2 h3 => hf j (by omega) h3)]
        by_cases e : i = a
        · subst e
          rw [if_pos (by omega), if_neg (by omega), hf i (Nat.le_refl _) ha, List.getElem?_eq_getElem ha]
          simpa using ht
        · by_cases hi : i < a
          · rw [if_pos (by omega), if_pos hi]
          · rw [if_neg (by omega), if_neg hi]
    · rw [listG_end (by omega), setAll]
      by_cases hi : i < a
      · rw [if_pos hi]
      · rw [if_neg hi, List.getElem?_eq_none (by omega), List.getElem?_eq_none (by omega)]
theorem mapOf_listG (m : List Bool) : mapOf m.length (listG m 0) = m := by
  apply List.ext_getElem?
  intro i
  rw [mapOf, setAll_listG m.length 0 _ (by omega) (by rw [List.length_replicate]) (fun i _ hi => by rw [List.getElem?_replicate, if_pos hi]), if_neg (by omega)]
/-- How many of a set from place a on are free. -/
theorem count_setRun {m : List Bool} : ∀ (n a : Nat), impl_framesOf.whole m a n → (setRun false m a n).count true + n = m.count true := by
  intro n
  induction n generalizing m with
  | zero => intro a h; rfl
  | succ n ih =>
    intro a h
    have ha := h.2 0 (by omega)
    have hl := h.1
    rw [Nat.add_zero] at ha
    have h2 : impl_framesOf.whole (m.set a false) (a + 1) n := ⟨by rw [List.length_set]; omega, fun i hi => by rw [List.getElem?_set_ne (by omega), show a + 1 + i = a + (i + 1) by omega]; exact h.2 _ (by omega)⟩
    have := ih (a + 1) h2
    rw [setRun]
    have e : (m.set a false).count true + 1 = m.count true := by
      rw [List.getElem?_eq_getElem (by omega)] at ha
      have ha := Option.some.inj ha
      rw [List.count_set (by omega)]
      have : 0 < m.count true := List.count_pos_iff.2 (ha ▸ List.getElem_mem (by omega))
      simp [ha]
      omega
    omega
theorem sum_listG {m : List Bool} : ∀ (d a : Nat), m.length ≤ a + d → sumBlks (listG m a) = (((m.drop a).count true : Nat) : Int) := by
  intro d
  induction d with
  | zero => intro a h; rw [listG_end (by omega), List.drop_eq_nil_of_le (by omega)]; rfl
  | succ d ih =>
    intro a h
    by_cases ha : a < m.length
    · rw [listG, dif_pos ha]
      by_cases ht : m[a] = true
      · rw [if_pos ht]
        have top := topG_ord ha ht
        generalize ordG m a 10 0 = o at top
        have := Nat.two_pow_pos o
        rw [sumBlks, ih (a + 2 ^ o) (by omega)]
        show p2 (o : Int) + _ = _
        rw [p2_nat]
        have hw := top.2.2.1
        generalize 2 ^ o = n at hw
        have e : m.drop a = List.replicate n true ++ m.drop (a + n) := by
          apply List.ext_getElem?
          intro i
          rw [List.getElem?_drop]
          by_cases hi : i < n
          · rw [List.getElem?_append_left (by rw [List.length_replicate]; exact hi), List.getElem?_replicate, if_pos hi]; exact hw.2 i hi
          · rw [List.getElem?_append_right (by rw [List.length_replicate]; omega), List.length_replicate, List.getElem?_drop, show a + n + (i - n) = a + i by omega]
        rw [e, List.count_append, List.count_replicate_self]
        omega
      · rw [if_neg ht, ih (a + 1) (by omega), List.drop_eq_getElem_cons ha, List.count_cons_of_ne (by simpa using ht)]
    · rw [listG_end (by omega), List.drop_eq_nil_of_le (by omega)]; rfl
/-- Frame i lies in a block that is held. -/
def cov (b : S73) (i : Nat) : Prop := 0 ≤ b.f1 ∧ b.f0 ≤ (i : Int) ∧ (i : Int) < b.f0 + p2 b.f1
def goodB (n : Nat) (b : S73) : Prop := 0 ≤ b.f1 → ∃ a o : Nat, b = ⟨(a : Int), (o : Int)⟩ ∧ o ≤ 10 ∧ a % 2 ^ o = 0 ∧ a + 2 ^ o ≤ n
def KInv (n : Nat) (m : List Bool) (held : List S73) : Prop :=
  m.length = n ∧ (∀ b ∈ held, goodB n b) ∧ (∀ i, i < n → (m[i]? = some false ↔ ∃ b ∈ held, cov b i)) ∧
    (∀ (j k : Nat) (x y : S73) (i : Nat), held[j]? = some x → held[k]? = some y → cov x i → cov y i → j = k)
theorem cov_mk {a o i : Nat} : cov ⟨(a : Int), (o : Int)⟩ i ↔ a ≤ i ∧ i < a + 2 ^ o := by
  unfold cov
  show (0 ≤ (o : Int) ∧ (a : Int) ≤ i ∧ (i : Int) < (a : Int) + p2 (o : Int)) ↔ _
  rw [p2_nat]
  generalize 2 ^ o = n
  omega
theorem kinv_start {n : Nat} : KInv n (List.replicate n true) [] := by
  refine ⟨List.length_replicate, fun b hb => (by cases hb), fun i hi => ?_, fun j k x y i hj => (by cases hj)⟩
  rw [List.getElem?_replicate, if_pos hi]
  exact ⟨fun h => by simp at h, fun ⟨b, hb, _⟩ => by cases hb⟩
theorem kinv_take {n a o : Nat} {m : List Bool} {held : List S73} (h : KInv n m held) (ho : o ≤ 10) (al : a % 2 ^ o = 0) (hn : a + 2 ^ o ≤ n) (hv : allv true m a (2 ^ o)) : KInv n (setRun false m a (2 ^ o)) (held ++ [⟨(a : Int), (o : Int)⟩]) := by
  obtain ⟨h1, h2, h3, h4⟩ := h
  have free : ∀ i, a ≤ i → i < a + 2 ^ o → ¬ ∃ b ∈ held, cov b i := by
    intro i hi1 hi2 hb
    have := (h3 i (by omega)).2 hb
    have t := hv (i - a) (by omega)
    rw [show a + (i - a) = i by omega, this] at t
    cases t
  refine ⟨by rw [setRun_len, h1], ?_, ?_, ?_⟩
  · intro b hb
    rcases List.mem_append.1 hb with hb | hb
    · exact h2 b hb
    · obtain rfl := List.mem_singleton.1 hb
      exact fun _ => ⟨a, o, rfl, ho, al, hn⟩
  · intro i hi
    rw [setRun_get _ _ _ _ _ (by omega)]
    constructor
    · intro hm
      by_cases c : a ≤ i ∧ i < a + 2 ^ o
      · exact ⟨_, List.mem_append.2 (.inr (List.mem_singleton.2 rfl)), cov_mk.2 c⟩
      · rw [if_neg c] at hm
        obtain ⟨b, hb, hc⟩ := (h3 i hi).1 hm
        exact ⟨b, List.mem_append.2 (.inl hb), hc⟩
    · rintro ⟨b, hb, hc⟩
      rcases List.mem_append.1 hb with hb | hb
      · by_cases c : a ≤ i ∧ i < a + 2 ^ o
        · rw [if_pos c]
        · rw [if_neg c]; exact (h3 i hi).2 ⟨b, hb, hc⟩
      · obtain rfl := List.mem_singleton.1 hb
        rw [if_pos (cov_mk.1 hc)]
  · intro j k x y i hj hk hx hy
    have key : ∀ (j k : Nat) (x y : S73), (held ++ [(⟨(a : Int), (o : Int)⟩ : S73)])[j]? = some x → (held ++ [(⟨(a : Int), (o : Int)⟩ : S73)])[k]? = some y → cov x i → cov y i → j < held.length → j = k := by
      intro j k x y hj hk hx hy lj
      rw [List.getElem?_append_left lj] at hj
      by_cases lk : k < held.length
      · rw [List.getElem?_append_left lk] at hk
        exact h4 j k x y i hj hk hx hy
      · rw [List.getElem?_append_right (by omega)] at hk
        obtain ⟨_, e⟩ := List.getElem?_eq_some_iff.1 hk
        rw [List.getElem_singleton] at e
        subst e
        exact absurd ⟨x, List.mem_of_getElem? hj, hx⟩ (free i (cov_mk.1 hy).1 (cov_mk.1 hy).2)
    by_cases lj : j < held.length
    · exact key j k x y hj hk hx hy lj
    · by_cases lk : k < held.length
      · exact (key k j y x hk hj hy hx lk).symm
      · rw [List.getElem?_append_right (by omega)] at hj hk
        obtain ⟨lj', _⟩ := List.getElem?_eq_some_iff.1 hj
        obtain ⟨lk', _⟩ := List.getElem?_eq_some_iff.1 hk
        simp at lj' lk'
        omega
theorem kinv_gone {n a o k : Nat} {m : List Bool} {held : List S73} (h : KInv n m held) (hk : held[k]? = some ⟨(a : Int), (o : Int)⟩) : a + 2 ^ o ≤ n ∧ o ≤ 10 ∧ a % 2 ^ o = 0 ∧ allv false m a (2 ^ o) := by
  obtain ⟨h1, h2, h3, h4⟩ := h
  obtain ⟨a', o', e, g1, g2, g3⟩ := h2 _ (List.mem_of_getElem? hk) (by show (0 : Int) ≤ (o : Int); omega)
  obtain ⟨rfl, rfl⟩ : a = a' ∧ o = o' := by
    have e0 := congrArg S73.f0 e
    have e1 := congrArg S73.f1 e
    dsimp only at e0 e1
    omega
  exact ⟨g3, g1, g2, fun i hi => (h3 _ (by omega)).2 ⟨_, List.mem_of_getElem? hk, cov_mk.2 ⟨by omega, by omega⟩⟩⟩
theorem kinv_give {n a o k : Nat} {m : List Bool} {held : List S73} (h : KInv n m held) (hk : held[k]? = some ⟨(a : Int), (o : Int)⟩) : KInv n (setRun true m a (2 ^ o)) (held.set k ⟨(a : Int), -1⟩) := by
  obtain ⟨g1, _, _, _⟩ := kinv_gone h hk
  obtain ⟨h1, h2, h3, h4⟩ := h
  have lk := (List.getElem?_eq_some_iff.1 hk).1
  have nocov : ∀ i, ¬ cov ⟨(a : Int), -1⟩ i := fun i hc => absurd hc.1 (by show ¬ (0 : Int) ≤ -1; decide)
  have get : ∀ (j : Nat) (x : S73) (i : Nat), (held.set k ⟨(a : Int), -1⟩)[j]? = some x → cov x i → held[j]? = some x ∧ j ≠ k := by
    intro j x i hj hx
    by_cases e : k = j
    · subst e
      rw [List.getElem?_set_self lk] at hj
      obtain rfl := Option.some.inj hj
      exact absurd hx (nocov i)
    · rw [List.getElem?_set_ne e] at hj
      exact ⟨hj, fun e' => e e'.symm⟩
  refine ⟨by rw [setRun_len, h1], ?_, ?_, ?_⟩
  · intro b hb
    rcases List.mem_or_eq_of_mem_set hb with hb | rfl
    · exact h2 b hb
    · exact fun h0 => absurd h0 (by show ¬ (0 : Int) ≤ -1; decide)
  · intro i hi
    rw [setRun_get _ _ _ _ _ (by omega)]
    by_cases c : a ≤ i ∧ i < a + 2 ^ o
    · rw [if_pos c]
      refine ⟨fun t => (by cases t), ?_⟩
      rintro ⟨b, hb, hc⟩
      obtain ⟨j, hj⟩ := List.mem_iff_getElem?.1 hb
      obtain ⟨hj', ne⟩ := get j b i hj hc
      exact absurd (h4 j k _ _ i hj' hk hc (cov_mk.2 c)) ne
    · rw [if_neg c, h3 i hi]
      constructor
      · rintro ⟨b, hb, hc⟩
        obtain ⟨j, hj⟩ := List.mem_iff_getElem?.1 hb
        have ne : k ≠ j := by
          rintro rfl
          rw [hk] at hj
          obtain rfl := Option.some.inj hj
          exact c (cov_mk.1 hc)
        exact ⟨b, List.mem_iff_getElem?.2 ⟨j, by rw [List.getElem?_set_ne ne]; exact hj⟩, hc⟩
      · rintro ⟨b, hb, hc⟩
        obtain ⟨j, hj⟩ := List.mem_iff_getElem?.1 hb
        exact ⟨b, List.mem_of_getElem? (get j b i hj hc).1, hc⟩
  · intro j l x y i hj hl hx hy
    exact h4 j l x y i (get j x i hj hx).1 (get l y i hl hy).1 hx hy
theorem kinv_end {n : Nat} {m : List Bool} {held : List S73} (h : KInv n m held) (ha : ∀ b ∈ held, b.f1 < 0) : m = List.replicate n true := by
  obtain ⟨h1, h2, h3, h4⟩ := h
  apply List.ext_getElem?
  intro i
  rw [List.getElem?_replicate]
  by_cases hi : i < n
  · rw [if_pos hi]
    rw [List.getElem?_eq_getElem (by omega)]
    cases e : m[i] with
    | true => rfl
    | false =>
      obtain ⟨b, hb, hc⟩ := (h3 i hi).1 (by rw [List.getElem?_eq_getElem (by omega), e])
      have := ha b hb
      have := hc.1
      omega
  · rw [if_neg hi, List.getElem?_eq_none (by omega)]
/-- No block that is held meets the one that was free. -/
theorem kinv_apart {n a o : Nat} {m : List Bool} {held : List S73} (h : KInv n m held) (hn : a + 2 ^ o ≤ n) (hv : allv true m a (2 ^ o)) {b : S73} (hb : b ∈ held) (h0 : 0 ≤ b.f1) : ¬ ((a : Int) < b.f0 + p2 b.f1 ∧ b.f0 < (a : Int) + p2 (o : Int)) := by
  obtain ⟨h1, h2, h3, h4⟩ := h
  obtain ⟨x, q, rfl, g1, g2, g3⟩ := h2 b hb h0
  show ¬ ((a : Int) < (x : Int) + p2 (q : Int) ∧ (x : Int) < (a : Int) + p2 (o : Int))
  rw [p2_nat, p2_nat]
  rintro ⟨c1, c2⟩
  have p1 := Nat.two_pow_pos o
  have p2 := Nat.two_pow_pos q
  obtain ⟨i, i1, i2, i3, i4⟩ : ∃ i : Nat, a ≤ i ∧ i < a + 2 ^ o ∧ x ≤ i ∧ i < x + 2 ^ q := ⟨max a x, by omega, by omega, by omega, by omega⟩
  have := (h3 i (by omega)).2 ⟨_, hb, cov_mk.2 ⟨i3, i4⟩⟩
  have t := hv (i - a) (by omega)
  rw [show a + (i - a) = i by omega, this] at t
  cases t
theorem kept_short {m : List Bool} (h : m.length ≤ 1024) : (listG m 0).length ≤ 1024 := listG_len 1024 0 (by omega)
theorem kept_ok {n : Nat} {m : List Bool} (h : m.length = n) (hn : n ≤ 1024) : framesOk (n : Int) (listG m 0) = true := by
  have := framesOk_listG (m := m) (by omega)
  rwa [h] at this
theorem kept_map {n : Nat} {m : List Bool} (h : m.length = n) : mapOf n (listG m 0) = m := by
  have := mapOf_listG m
  rwa [h] at this
theorem kept_left {n : Nat} {m : List Bool} (h : m.length = n) (hn : n ≤ 1024) : leftV (n : Int) (listG m 0) = ((m.count true : Nat) : Int) := by
  unfold leftV
  rw [if_pos (kept_ok h hn), sum_listG m.length 0 (by omega), List.drop_zero]
theorem kept_give {n a o : Nat} {m : List Bool} (h : m.length = n) (hn : n ≤ 1024) (ho : o ≤ 10) (al : a % 2 ^ o = 0) (ha : a + 2 ^ o ≤ n) (hv : allv false m a (2 ^ o)) : giveV (n : Int) (listG m 0) (a : Int) (o : Int) = ((n : Int), listG (setRun true m a (2 ^ o)) 0, true) := by
  have hp := Nat.two_pow_pos o
  have hb : blkOk (n : Int) (a : Int) (o : Int) = true := blkOk_iff.2 ⟨by omega, by omega, by omega, by omega, by rw [p2_nat]; exact tmod_nat0 al, by rw [p2_nat]; omega⟩
  unfold giveV
  rw [if_pos ⟨kept_ok h hn, hb⟩, Int.toNat_natCast, Int.toNat_natCast, Int.toNat_natCast, kept_map h, if_pos hv]
theorem kept_take {n o : Nat} {m : List Bool} (h : m.length = n) (hn : n ≤ 1024) (ho : o ≤ 10) : takeV (n : Int) (listG m 0) (o : Int) = ((n : Int), listG m 0, -1) ∨
    ∃ a : Nat, takeV (n : Int) (listG m 0) (o : Int) = ((n : Int), listG (setRun false m a (2 ^ o)) 0, (a : Int)) ∧ a % 2 ^ o = 0 ∧ a + 2 ^ o ≤ n ∧ allv true m a (2 ^ o) := by
  unfold takeV
  rw [if_pos ⟨kept_ok h hn, by omega, by omega⟩]
  have hb := bestGo_ok (o := (o : Int)) (l := listG m 0) (listG m 0).length 0 (-1) (Nat.zero_add _) (.inl rfl)
  rw [List.drop_zero] at hb
  generalize bestGo (o : Int) (listG m 0) (listG m 0) 0 (-1) = best at hb
  unfold takeEnd
  by_cases h0 : best < 0
  · rw [if_pos h0]; exact .inl rfl
  · rw [if_neg h0]
    right
    rcases hb with hb | ⟨b0, b1, b2⟩
    · omega
    obtain ⟨i, rfl⟩ : ∃ i : Nat, best = (i : Int) := ⟨best.toNat, by omega⟩
    have hi : i < (listG m 0).length := by omega
    have er : rd_T73 (listG m 0) (i : Int) = (listG m 0)[i] := getD_nat _ hi
    rw [er] at b2 ⊢
    obtain ⟨a, p, e, top⟩ := topG_in m.length 0 (by omega) _ (List.getElem_mem hi)
    rw [e] at b2 ⊢
    dsimp only at b2 ⊢
    obtain ⟨t1, t2, t3, _⟩ := top
    have hop : o ≤ p := by omega
    have hd : (2 : Nat) ^ o ∣ 2 ^ p := Nat.pow_dvd_pow 2 hop
    have hle := Nat.le_of_dvd (Nat.two_pow_pos p) hd
    have w := whole_mono t3 hle
    refine ⟨a, by rw [Int.toNat_natCast, Int.toNat_natCast, Int.toNat_natCast, kept_map h], Nat.mod_eq_zero_of_dvd (Nat.dvd_trans hd (Nat.dvd_of_mod_eq_zero t2)), by have := w.1; omega, w.2⟩
theorem kept_l4 (t : Int) {l : List S73} (hl : l.length ≤ 1024) : ∀ (d i : Nat), i + d = l.length → Ev (fun k => laws_FnFramesKept.l4 k (i : Int) t l t l) true := by
  intro d
  induction d with
  | zero => intro i h; exact Ev.step (fun _ => laws_FnFramesKept.l4.eq_2 ..) (ev_neg (by omega) (ev_ret rfl))
  | succ d ih =>
    intro i h
    have hi : i < l.length := by omega
    refine Ev.step (fun _ => laws_FnFramesKept.l4.eq_2 ..) (ev_pos (by omega) (ev_pos (by omega) (ev_pos (by omega) (ev_neg (by simp) ?_))))
    rw [w64_succ hi (by omega)]
    exact ih (i + 1) (by omega)
def negB (b : S73) : Bool := decide (b.f1 < 0)
theorem kept_give_ph {code : List Int} (hc : code.length ≤ 1048576) {n : Nat} (hn : n ≤ 1024) : ∀ (d i : Nat) (held : List S73) (m : List Bool), i + d = held.length → held.length ≤ 60 → held.countP negB = i → KInv n m held → Ev (fun k => laws_FnFramesKept.l2 k code (n : Int) held (i : Int) (n : Int) (listG m 0)) true := by
  intro d
  induction d with
  | zero =>
    intro i held m h hl hcnt inv
    refine Ev.step (fun _ => laws_FnFramesKept.l2.eq_2 ..) (ev_neg (by omega) ?_)
    have hall : ∀ b ∈ held, b.f1 < 0 := by
      have := (List.countP_eq_length (p := negB) (l := held)).1 (by omega)
      exact fun b hb => of_decide_eq_true (this b hb)
    have hm := kinv_end inv hall
    have hN := impl_NewFrames_ev (n : Int)
    have e : newF (n : Int) = ((n : Int), listG m 0) := by
      unfold newF
      rw [if_neg (by omega), Int.toNat_natCast, hm]
    rw [e] at hN
    refine Ev.bind hN (ev_pos rfl ?_)
    have h4 := kept_l4 (n : Int) (kept_short (m := m) (by have := inv.1; omega)) (listG m 0).length 0 (Nat.zero_add _)
    refine Ev.step (fun _ => laws_FnFramesKept.j9.eq_2 ..) (ev_neg (by simp) ?_)
    exact h4
  | succ d ih =>
    intro i held m h hl hcnt inv
    have hlt : i < held.length := by omega
    -- one that is not given back yet
    obtain ⟨t, ht, hpos⟩ : ∃ t, ∃ ht : t < held.length, 0 ≤ (held[t]).f1 := by
      apply Classical.byContradiction
      intro hno
      have : held.countP negB = held.length := (List.countP_eq_length (p := negB) (l := held)).2 (fun b hb => by
        obtain ⟨t, ht, e⟩ := List.getElem_of_mem hb
        subst e
        exact decide_eq_true (Int.not_le.1 (fun h0 => hno ⟨t, ht, h0⟩)))
      omega
    -- giving it
    have give : ∀ j, (hj : j < held.length) → 0 ≤ (held[j]).f1 → Ev (fun k => laws_FnFramesKept.l3 k code (n : Int) held (i : Int) (j : Int) (n : Int) (listG m 0)) true := by
      intro j hj h0
      have er : rd_T73 held (j : Int) = held[j] := getD_nat _ hj
      obtain ⟨a, o, e, g1, g2, g3⟩ := inv.2.1 _ (List.getElem_mem hj) h0
      have hget : held[j]? = some ⟨(a : Int), (o : Int)⟩ := by rw [List.getElem?_eq_getElem hj, e]
      obtain ⟨_, _, _, hv⟩ := kinv_gone inv hget
      refine Ev.step (fun _ => laws_FnFramesKept.l3.eq_2 ..) (ev_pos (by omega) (ev_pos (by omega) ?_))
      rw [er, e]
      have hg := impl_FramesGive_ev (n : Int) (a : Int) (o : Int) (l := listG m 0) (by have := kept_short (m := m) (by have := inv.1; omega); omega)
      rw [kept_give inv.1 hn g1 g2 g3 hv] at hg
      refine ev_neg (by show ¬ (o : Int) < 0; omega) (Ev.bind hg (ev_pos rfl ?_))
      rw [Int.toNat_natCast, w64_succ hlt (by omega)]
      have hcnt2 : (held.set j ⟨(a : Int), -1⟩).countP negB = i + 1 := by
        rw [List.countP_set hj, e]
        have e1 : negB (⟨(a : Int), (o : Int)⟩ : S73) = false := decide_eq_false (by show ¬ (o : Int) < 0; omega)
        have e2 : negB (⟨(a : Int), -1⟩ : S73) = true := decide_eq_true (by show (-1 : Int) < 0; decide)
        rw [e1, e2, hcnt]
        simp
      exact ih (i + 1) _ _ (by rw [List.length_set]; omega) (by rw [List.length_set]; exact hl) hcnt2 (kinv_give inv hget)
    -- looking for it
    have look : ∀ (q j : Nat), (hj : j < held.length) → (j + q) % held.length = t → Ev (fun k => laws_FnFramesKept.l3 k code (n : Int) held (i : Int) (j : Int) (n : Int) (listG m 0)) true := by
      intro q
      induction q with
      | zero =>
        intro j hj e
        rw [Nat.add_zero, Nat.mod_eq_of_lt hj] at e
        subst e
        exact give j hj hpos
      | succ q ihq =>
        intro j hj e
        by_cases h0 : 0 ≤ (held[j]).f1
        · exact give j hj h0
        · have er : rd_T73 held (j : Int) = held[j] := getD_nat _ hj
          refine Ev.step (fun _ => laws_FnFramesKept.l3.eq_2 ..) (ev_pos (by omega) (ev_pos (by omega) ?_))
          rw [er]
          refine ev_pos (by omega) (ev_neg (by omega) ?_)
          rw [w64_succ hj (by omega)]
          have et : Int.tmod ((j + 1 : Nat) : Int) (held.length : Int) = (((j + 1) % held.length : Nat) : Int) := by
            rw [Int.tmod_eq_emod_of_nonneg (by omega)]; rfl
          rw [et]
          exact ihq _ (Nat.mod_lt _ (by omega)) (by rw [← e, Nat.mod_add_mod]; congr 1; omega)
    refine Ev.step (fun _ => laws_FnFramesKept.l2.eq_2 ..) (ev_pos (by omega) (ev_neg (by omega) ?_))
    rw [w64_id (x := (i : Int) * 7) (by omega) (by omega), w64_id (x := (i : Int) * 7 + (code.length : Int)) (by omega) (by omega)]
    have et : Int.tmod ((i : Int) * 7 + (code.length : Int)) (held.length : Int) = (((i * 7 + code.length) % held.length : Nat) : Int) := by
      rw [show (i : Int) * 7 + (code.length : Int) = ((i * 7 + code.length : Nat) : Int) by omega, Int.tmod_eq_emod_of_nonneg (by omega)]; rfl
    rw [et]
    have hs := Nat.mod_lt (i * 7 + code.length) (show 0 < held.length by omega)
    generalize (i * 7 + code.length) % held.length = s at hs
    refine look (t + held.length - s) s hs ?_
    rw [show s + (t + held.length - s) = t + held.length by omega, Nat.add_mod_right, Nat.mod_eq_of_lt ht]
theorem wrap_ord {o : Nat} (h : o ≤ 10) : IntKind.u64.wrap (o : Int) = (o : Int) := by
  rw [u64w]
  omega
theorem kept_take_ph {code : List Int} (hc : code.length ≤ 1048576) {n : Nat} (hn : n ≤ 1024) {ops : List S70} (ho : ops.length ≤ 1048576) : ∀ (d i : Nat) (held : List S73) (m : List Bool) (s : Nat), i + d = 60 → held.length ≤ i → (∀ b ∈ held, 0 ≤ b.f1) → KInv n m held → m.count true + s = n → Ev (fun k => laws_FnFramesKept.l0 k code (n : Int) ops held (s : Int) (i : Int) (n : Int) (listG m 0)) true := by
  have fin : ∀ (i : Nat) (held : List S73) (m : List Bool) (s : Nat), held.length ≤ 60 → (∀ b ∈ held, 0 ≤ b.f1) → KInv n m held → Ev (fun k => laws_FnFramesKept.j3 k code (n : Int) ops held (s : Int) (i : Int) false (n : Int) (listG m 0)) true := by
    intro i held m s hl hp inv
    refine Ev.step (fun _ => laws_FnFramesKept.j3.eq_2 ..) (ev_neg (by simp) ?_)
    have hz : held.countP negB = 0 := List.countP_eq_zero.2 (fun b hb => by
      have := hp b hb
      unfold negB
      simp only [decide_eq_true_eq]
      omega)
    exact kept_give_ph hc hn held.length 0 held m (Nat.zero_add _) hl hz inv
  intro d
  induction d with
  | zero =>
    intro i held m s h hl hp inv hs
    refine Ev.step (fun _ => laws_FnFramesKept.l0.eq_2 ..) (ev_split (fun _ => ?_) (fun _ => fin i held m s (by omega) hp inv))
    rw [decide_eq_false (by omega)]
    exact fin i held m s (by omega) hp inv
  | succ d ih =>
    intro i held m s h hl hp inv hs
    have hlen := inv.1
    refine Ev.step (fun _ => laws_FnFramesKept.l0.eq_2 ..) (ev_split (fun hio => ?_) (fun _ => fin i held m s (by omega) hp inv))
    have hi : i < ops.length := by omega
    rw [decide_eq_true (by omega)]
    have next : Ev (fun k => laws_FnFramesKept.l0 k code (n : Int) ops held (s : Int) (wrap64 ((i : Int) + 1)) (n : Int) (listG m 0)) true := by
      rw [w64_succ hi (by omega)]
      exact ih (i + 1) held m s (by omega) (by omega) hp inv hs
    have skip : Ev (fun k => laws_FnFramesKept.j4 k code (n : Int) ops held (s : Int) (i : Int) true (n : Int) (listG m 0)) true :=
      Ev.step (fun _ => laws_FnFramesKept.j4.eq_2 ..) (ev_pos rfl next)
    have er : rd_T70 ops (i : Int) = ops[i] := getD_nat _ hi
    refine Ev.step (fun _ => laws_FnFramesKept.j3.eq_2 ..) (ev_pos rfl (ev_pos (by omega) (ev_pos (by omega) ?_)))
    rw [er]
    refine ev_split (fun _ => ev_split (fun _ => skip) (fun h0 => ?_)) (fun _ => skip)
    by_cases h10 : (ops[i]).f2 > 10
    · rw [decide_eq_true h10]; exact skip
    rw [decide_eq_false h10]
    obtain ⟨o, eo⟩ : ∃ o : Nat, (ops[i]).f2 = (o : Int) := ⟨(ops[i]).f2.toNat, by omega⟩
    have ho10 : o ≤ 10 := by omega
    refine Ev.step (fun _ => laws_FnFramesKept.j4.eq_2 ..) (ev_neg (by simp) (ev_pos (by omega) (ev_pos (by omega) ?_)))
    rw [er, eo, wrap_ord ho10, shl_p2 (by omega) (by omega), p2_nat]
    have hsh := kept_short (m := m) (by omega)
    have hi1 := impl_FramesTake_ev (n : Int) (o : Int) (l := listG m 0) (by omega)
    have hi2 := spec_FramesTake_ev (n : Int) (o : Int) (l := listG m 0) (by omega)
    have hpo := Nat.two_pow_pos o
    have hpl := pow_le_1024 ho10
    rcases kept_take hlen hn ho10 with e | ⟨a, e, al, ha, hv⟩
    · rw [e] at hi1 hi2
      exact Ev.bind hi1 (Ev.bind hi2 (ev_pos rfl (ev_pos (by show (-1 : Int) < 0; decide) next)))
    · rw [e] at hi1 hi2
      refine Ev.bind hi1 (Ev.bind hi2 (ev_pos rfl (ev_neg (by show ¬ (a : Int) < 0; omega) (ev_pos (by omega) (ev_neg (by omega) (ev_pos (tmod_nat0 al) ?_))))))
      have inv2 := kinv_take inv ho10 al ha hv
      have hlen2 : (setRun false m a (2 ^ o)).length = n := inv2.1
      have hcnt := count_setRun (m := m) (2 ^ o) a ⟨by omega, hv⟩
      dsimp only
      rw [w64_id (x := (a : Int) + ((2 ^ o : Nat) : Int)) (by omega) (by omega), decide_eq_false (by omega)]
      refine Ev.step (fun _ => laws_FnFramesKept.j5.eq_2 ..) (ev_neg (by simp) ?_)
      -- none of those that are held meets it
      have meet : ∀ (q j : Nat), j + q = held.length → Ev (fun k => laws_FnFramesKept.l1 k code (n : Int) ops held (s : Int) (i : Int) (a : Int) ((2 ^ o : Nat) : Int) (j : Int) (n : Int) (listG (setRun false m a (2 ^ o)) 0)) true := by
        intro q
        induction q with
        | zero =>
          intro j hj
          refine Ev.step (fun _ => laws_FnFramesKept.l1.eq_2 ..) (ev_neg (by omega) (ev_pos (by omega) (ev_pos (by omega) (ev_pos (by omega) ?_))))
          have hsh2 := kept_short (m := setRun false m a (2 ^ o)) (by omega)
          have hF := spec_FramesOk_ev (n : Int) (l := listG (setRun false m a (2 ^ o)) 0) (by omega)
          rw [kept_ok hlen2 hn] at hF
          have hL := impl_FramesLeft_ev (n : Int) (l := listG (setRun false m a (2 ^ o)) 0) (by omega)
          rw [kept_left hlen2 hn] at hL
          refine Ev.bind hF (ev_pos rfl (Ev.bind hL ?_))
          rw [w64_id (x := (s : Int) + ((2 ^ o : Nat) : Int)) (by omega) (by omega)]
          refine ev_pos (by rw [w64_id (by omega) (by omega)]; omega) ?_
          rw [w64_succ hi (by omega), er, eo, show (s : Int) + ((2 ^ o : Nat) : Int) = ((s + 2 ^ o : Nat) : Int) by omega]
          refine ih (i + 1) _ _ _ (by omega) (by rw [List.length_append, List.length_singleton]; omega) ?_ inv2 (by omega)
          intro b hb
          rcases List.mem_append.1 hb with hb | hb
          · exact hp b hb
          · obtain rfl := List.mem_singleton.1 hb
            show (0 : Int) ≤ (o : Int)
            omega
        | succ q ihq =>
          intro j hj
          have hjl : j < held.length := by omega
          have ej : rd_T73 held (j : Int) = held[j] := getD_nat _ hjl
          have hmem := List.getElem_mem hjl
          have h0 := hp _ hmem
          have hap := kinv_apart inv ha hv hmem h0
          obtain ⟨x, y, e, g1, g2, g3⟩ := inv.2.1 _ hmem h0
          rw [e] at hap
          refine Ev.step (fun _ => laws_FnFramesKept.l1.eq_2 ..) (ev_pos (by omega) (ev_pos (by omega) ?_))
          rw [ej, e]
          dsimp only at hap ⊢
          have hpy := Nat.two_pow_pos y
          rw [wrap_ord g1, shl_p2 (by omega) (by omega), p2_nat, w64_id (x := (a : Int) + ((2 ^ o : Nat) : Int)) (by omega) (by omega), w64_id (x := (x : Int) + ((2 ^ y : Nat) : Int)) (by omega) (by omega), w64_succ hjl (by omega)]
          rw [p2_nat, p2_nat] at hap
          refine ev_pos (by omega) (ev_split (fun c1 => ev_neg (fun c2 => hap ⟨c1, c2⟩) (ihq (j + 1) (by omega))) (fun _ => ihq (j + 1) (by omega)))
      exact meet held.length 0 (Nat.zero_add _)
theorem below_any {s : List Int} (hl : s.length ≤ 1048576) {i h : Int} (h0 : 0 ≤ i) (n : Int) : ∃ x i' h', spec_l1Below.f s i h n = some (x, i', h') ∧ 0 ≤ x ∧ 0 ≤ i' := by
  by_cases hn : 0 < n
  · obtain ⟨x, i', h', e, l, _, p⟩ := below_ok hl (h := h) h0 hn
    exact ⟨x, i', h', e, l, p⟩
  · unfold spec_l1Below.f
    rw [if_pos (by omega)]
    exact ⟨_, _, _, rfl, Int.le_refl 0, h0⟩
theorem total_ok {s : List Int} (hl : s.length ≤ 1048576) {i h : Int} (h0 : 0 ≤ i) : ∃ x i' h', spec_l8DrawTotal.f s i h = some (x, i', h') ∧ 0 ≤ i' := by
  unfold spec_l8DrawTotal.f
  obtain ⟨x1, i1, h1, e1, l1, u1, p1⟩ := below_ok hl (h := h) h0 (n := 40) (by decide)
  obtain ⟨b, i2, h2, e2, p2⟩ := once_ok hl (h := h1) p1 (n := 8) (by decide)
  obtain ⟨x3, i3, h3, e3, l3, u3, p3⟩ := below_ok hl (h := h2) p2 (n := 7) (by decide)
  rw [e1, Option.bind_some, e2, Option.bind_some]
  cases b
  · rw [if_neg (by simp)]
    exact ⟨_, _, _, rfl, p2⟩
  · rw [if_pos rfl, Option.bind_some, e3, Option.bind_some, if_pos l3]
    exact ⟨_, _, _, (if_pos u3).trans rfl, p3⟩
theorem frameOp_ok {s : List Int} (hl : s.length ≤ 1048576) {i h : Int} (h0 : 0 ≤ i) (t a : Int) : EvP (fun k => spec_l8DrawFrameOp.f k s i h t a) (fun r => 0 ≤ r.2.2.2.1) := by
  have j2 : ∀ (x7 x8 x9 : Int) {i h : Int}, 0 ≤ i → EvP (fun k => spec_l8DrawFrameOp.j2 k x7 x8 x9 s i h) (fun r => 0 ≤ r.2.2.2.1) := by
    intro x7 x8 x9 i h h0
    obtain ⟨b, i1, h1, e1, p1⟩ := once_ok hl (h := h) h0 (n := 20) (by decide)
    obtain ⟨x, i2, h2, e2, l2, u2, p2⟩ := below_ok hl (h := h1) p1 (n := 4) (by decide)
    refine EvP.step (fun _ => spec_l8DrawFrameOp.j2.eq_2 ..) (evp_bind0 e1 (evp_if (fun _ => ?_) (fun _ => evp_ret p1)))
    exact evp_bind0 rfl (evp_bind0 e2 (evp_pos l2 (evp_pos u2 (evp_ret p2))))
  have j1 : ∀ (x7 x8 x9 : Int) {i h : Int}, 0 ≤ i → EvP (fun k => spec_l8DrawFrameOp.j1 k x7 x8 x9 s i h) (fun r => 0 ≤ r.2.2.2.1) := by
    intro x7 x8 x9 i h h0
    obtain ⟨x, i2, h2, e2, l2, u2, p2⟩ := below_ok hl (h := h) h0 (n := 9) (by decide)
    exact EvP.step (fun _ => spec_l8DrawFrameOp.j1.eq_2 ..) (evp_if (fun _ => evp_bind0 e2 (j2 _ _ _ p2)) (fun _ => j2 _ _ _ h0))
  have j0 : ∀ (x7 x8 x9 : Int) (b : Bool) {i h : Int}, 0 ≤ x8 → x8 ≤ 5 → 0 ≤ i → EvP (fun k => spec_l8DrawFrameOp.j0 k x7 x8 x9 b s i h) (fun r => 0 ≤ r.2.2.2.1) := by
    intro x7 x8 x9 b i h hx hx2 h0
    have hb := p2_bd (o := x8) hx (by omega)
    have hL := spec_l8Len_ev (o := x8) hx (by omega)
    exact EvP.step (fun _ => spec_l8DrawFrameOp.j0.eq_2 ..) (evp_if (fun _ => evp_bind hL (evp_neg (by omega) (evp_bind hL (j1 _ _ _ h0)))) (fun _ => j1 _ _ _ h0))
  obtain ⟨x1, i1, h1, e1, l1, u1, p1⟩ := below_ok hl (h := h) h0 (n := 8) (by decide)
  obtain ⟨x2, i2, h2, e2, l2, u2, p2⟩ := below_ok hl (h := h1) p1 (n := 5) (by decide)
  obtain ⟨x3, i3, h3, e3, l3, p3⟩ := below_any hl (h := h2) p2 (wrap64 (t + 1))
  obtain ⟨x4, i4, h4, e4, l4, u4, p4⟩ := below_ok hl (h := h3) p3 (n := 8) (by decide)
  obtain ⟨x5, i5, h5, e5, l5, u5, p5⟩ := below_ok hl (h := h4) p4 (n := 14) (by decide)
  unfold spec_l8DrawFrameOp.f
  refine evp_bind0 rfl (evp_bind0 e1 (evp_pos l1 (evp_pos u1 (evp_bind0 e2 (evp_bind0 e3 (evp_bind0 e4 ?_))))))
  exact evp_if (fun _ => evp_bind0 e5 (j1 _ _ _ p5)) (fun _ => evp_if (fun _ => j1 _ _ _ p4) (fun _ => evp_if (fun _ => j0 _ _ _ _ l2 (by show x2 ≤ 5; omega) p4) (fun _ => evp_if (fun _ => j0 _ _ _ _ l2 (by show x2 ≤ 5; omega) p4) (fun _ => j0 _ _ _ _ l2 (by show x2 ≤ 5; omega) p4))))
theorem framesRun_l0 {s : List Int} (hl : s.length ≤ 1048576) {t : Int} {n : Nat} (hn : n ≤ 4098) : ∀ (d j : Nat) (ops : List S70) {i h : Int}, j + d = n → ops.length = j → 0 ≤ i → EvP (fun k => spec_DrawFramesRun.l0 k t (n : Int) ops (j : Int) s i h) (fun r => r.2.length ≤ 1048576) := by
  intro d
  induction d with
  | zero => intro j ops i h hd ho h0; exact EvP.step (fun _ => spec_DrawFramesRun.l0.eq_2 ..) (evp_neg (by omega) (evp_ret (by show ops.length ≤ 1048576; omega)))
  | succ d ih =>
    intro j ops i h hd ho h0
    obtain ⟨⟨a, b, c, i2, h2⟩, e2, p2⟩ := frameOp_ok hl (h := h) h0 t 0
    refine EvP.step (fun _ => spec_DrawFramesRun.l0.eq_2 ..) (evp_pos (by omega) (evp_bind e2 (evp_pos (by omega) ?_)))
    have e1 : wrap64 ((j : Int) + 1) = ((j + 1 : Nat) : Int) := by rw [w64_id (by omega) (by omega)]; omega
    rw [e1]
    exact ih (j + 1) _ (by omega) (by rw [List.length_append, List.length_singleton, ho]) p2
theorem framesRun_ok {s : List Int} (hl : s.length ≤ 1048576) : EvP (fun k => spec_DrawFramesRun.f k s) (fun r => r.2.length ≤ 1048576) := by
  unfold spec_DrawFramesRun.f
  obtain ⟨⟨s1, i1, h1⟩, e1, q1, q2⟩ := new_l0 hl s.length 0 (wrap64 (76543 + (s.length : Int))) (Nat.zero_add _)
  obtain rfl : s1 = s := q1
  obtain rfl : i1 = 0 := q2
  have e1' : Ev (fun k => spec_l1New.f k s1) (s1, 0, h1) := e1
  obtain ⟨t, i2, h2, e2, p2⟩ := total_ok hl (h := h1) (Int.le_refl 0)
  obtain ⟨n, i3, h3, e3, l3, u3, p3⟩ := below_ok hl (h := h2) p2 (n := 30) (by decide)
  obtain ⟨b, i4, h4, e4, p4⟩ := once_ok hl (h := h3) p3 (n := 30) (by decide)
  obtain ⟨x, i5, h5, e5, l5, u5, p5⟩ := below_ok hl (h := h4) p4 (n := 2) (by decide)
  have J : ∀ (n : Nat) {i h : Int}, n ≤ 4098 → 0 ≤ i → EvP (fun k => spec_DrawFramesRun.j0 k t (n : Int) s1 i h) (fun r => r.2.length ≤ 1048576) :=
    fun n i h hn h0 => EvP.step (fun _ => spec_DrawFramesRun.j0.eq_2 ..) (framesRun_l0 hl hn n 0 [] (Nat.zero_add _) rfl h0)
  refine evp_bind e1' (evp_bind0 e2 (evp_bind0 e3 (evp_bind0 e4 (evp_if (fun _ => evp_bind0 e5 ?_) (fun _ => ?_)))))
  · have := J (4096 + x).toNat (i := i5) (h := h5) (by omega) p5
    rw [show (((4096 + x).toNat : Nat) : Int) = wrap64 (4096 + x) by rw [w64_id (by omega) (by omega)]; omega] at this
    exact this
  · have := J n.toNat (i := i4) (h := h4) (by omega) p4
    rw [show ((n.toNat : Nat) : Int) = n by omega] at this
    exact this
theorem FnFramesKept : laws_FnFramesKept.Pure := by
  intro l0 h1 h2 h3
  refine Ev.rounds ?_
  unfold laws_FnFramesKept.f laws_big.f
  refine ev_bind0 rfl ?_
  by_cases hbig : (l0.length : Int) > 1048576
  · exact ev_pos (decide_eq_true hbig) (ev_ret rfl)
  refine ev_neg (by rw [decide_eq_false hbig]; decide) ?_
  obtain ⟨⟨t, ops⟩, e1, po⟩ := framesRun_ok (s := l0) (by omega)
  refine Ev.bind e1 (Ev.bind (impl_NewFrames_ev t) ?_)
  dsimp only at po ⊢
  have out : t < 0 ∨ t > 1024 → Ev (fun k => laws_FnFramesKept.j0 k l0 t ops true (newF t).1 (newF t).2) true := by
    intro h
    have e : newF t = (0, []) := by unfold newF; rw [if_pos h]
    rw [e]
    exact Ev.step (fun _ => laws_FnFramesKept.j0.eq_2 ..) (ev_pos rfl (ev_pos rfl (ev_ret rfl)))
  refine ev_split (fun h => out (.inl h)) (fun hlo => ?_)
  by_cases hhi : t > 1024
  · rw [decide_eq_true hhi]; exact out (.inr hhi)
  rw [decide_eq_false hhi]
  obtain ⟨n, rfl⟩ : ∃ n : Nat, t = (n : Int) := ⟨t.toNat, by omega⟩
  have hn : n ≤ 1024 := by omega
  have e : newF (n : Int) = ((n : Int), listG (List.replicate n true) 0) := by unfold newF; rw [if_neg (by omega), Int.toNat_natCast]
  rw [e]
  have hlen : (List.replicate n true).length = n := List.length_replicate
  have hsh := kept_short (m := List.replicate n true) (by omega)
  have hF := spec_FramesOk_ev (n : Int) (l := listG (List.replicate n true) 0) (by omega)
  rw [kept_ok hlen hn] at hF
  have hL := impl_FramesLeft_ev (n : Int) (l := listG (List.replicate n true) 0) (by omega)
  rw [kept_left hlen hn, List.count_replicate_self] at hL
  refine Ev.step (fun _ => laws_FnFramesKept.j0.eq_2 ..) (ev_neg (by simp) (Ev.bind hF (ev_pos rfl (Ev.bind hL ?_))))
  refine Ev.step (fun _ => laws_FnFramesKept.j1.eq_2 ..) (ev_neg (by simp) ?_)
  exact kept_take_ph (by omega) hn po 60 0 [] _ 0 rfl (Nat.le_refl _) (fun b hb => by cases hb) kinv_start (by rw [List.count_replicate_self]; omega)
end Go.Proofs.Ytmjdmaomakkhgaa.Pure
