/- For every input that the row lets in, FnExactPlain answers true; this text proves the plain law that is left when the machine's side is done. -/
import Derived.Test.YtmbcihfdfohfcaaPFnExactPlainx6
import Derived.Test.YtmbcihfdfohfcaaBase
set_option linter.unusedVariables false
set_option linter.unusedSimpArgs false
namespace Go.Proofs.Ytmbcihfdfohfcaa.Pure
open Go.RowKit Go.Proofs.Ytmbcihfdfohfcaa.PFnExactPlain Go.Proofs.YtmbcihfdfohfcaaW.PrintWords Go.Proofs.YtmbcihfdfohfcaaW.PrintLast Go.Proofs.YtmbcihfdfohfcaaW.PrintMore Go.Proofs.Ytmbcihfdfohfcaa.Base

/-- The pieces from the i-th byte on, the one at hand begun at f. -/
def splitV (s : ByteArray) (c : Int) : Nat → Nat → Nat → List ByteArray
  | 0, _, _ => []
  | d + 1, f, i => if i = s.size ∨ bt s (i : Int) = c then s.extract f i :: splitV s c d (i + 1) (i + 1) else splitV s c d f (i + 1)
theorem splitV_len (s : ByteArray) (c : Int) : ∀ (d f i : Nat), (splitV s c d f i).length ≤ d := by
  intro d
  induction d with
  | zero => intro f i; simp [splitV]
  | succ d ih =>
    intro f i
    rw [splitV]
    split
    · rw [List.length_cons]; have := ih (i + 1) (i + 1); omega
    · have := ih f (i + 1); omega
theorem splitV_size (s : ByteArray) (c : Int) : ∀ (d f i : Nat), i + d = s.size + 1 → ∀ x ∈ splitV s c d f i, x.size ≤ s.size := by
  intro d
  induction d with
  | zero => intro f i h x hx; simp [splitV] at hx
  | succ d ih =>
    intro f i h x hx
    rw [splitV] at hx
    split at hx
    · rcases List.mem_cons.1 hx with e | e
      · subst e; rw [ByteArray.size_extract]; omega
      · exact ih _ _ (by omega) x e
    · exact ih _ _ (by omega) x hx
theorem spec_l20Split_l0 (s : ByteArray) (c : Int) (hs : s.size ≤ 1000) : ∀ (d f i : Nat) (acc : List ByteArray), i + d = s.size + 1 → f ≤ i → acc.length ≤ i → Ev (fun k => spec_l20Split.l0 k s c acc (f : Int) (i : Int)) (acc ++ splitV s c d f i) := by
  intro d
  induction d with
  | zero =>
    intro f i acc h hf ha
    rw [splitV, List.append_nil]
    exact Ev.step (fun _ => spec_l20Split.l0.eq_2 ..) (ev_neg (by omega) (ev_ret rfl))
  | succ d ih =>
    intro f i acc h hf ha
    have e1 : wrap64 ((i : Int) + 1) = ((i + 1 : Nat) : Int) := by rw [w64_id (by omega) (by omega)]; omega
    have take : Ev (fun k => spec_l20Split.l0 k s c (acc ++ [s.extract f i]) ((i + 1 : Nat) : Int) ((i + 1 : Nat) : Int)) (acc ++ s.extract f i :: splitV s c d (i + 1) (i + 1)) := by
      refine ev_eq ?_ (ih (i + 1) (i + 1) (acc ++ [s.extract f i]) (by omega) (by omega) (by rw [List.length_append, List.length_singleton]; omega))
      rw [List.append_assoc, List.singleton_append]
    refine Ev.step (fun _ => spec_l20Split.l0.eq_2 ..) (ev_pos (by omega) ?_)
    rw [e1, Int.toNat_natCast, Int.toNat_natCast]
    by_cases hi : i = s.size
    · rw [splitV, if_pos (.inl hi)]
      exact ev_pos (by omega) (ev_pos (by omega) (ev_pos (by omega) (ev_pos (by omega) take)))
    · refine ev_neg (by omega) (ev_pos (by omega) (ev_pos (by omega) ?_))
      by_cases hb : bt s (i : Int) = c
      · rw [splitV, if_pos (.inr hb)]
        exact ev_pos hb (ev_pos (by omega) (ev_pos (by omega) (ev_pos (by omega) take)))
      · rw [splitV, if_neg (fun h => h.elim hi hb)]
        exact ev_neg hb (ih f (i + 1) acc (by omega) (by omega) (by omega))
theorem spec_l20Split_ev {s : ByteArray} (c : Int) (hs : s.size ≤ 1000) : Ev (fun k => spec_l20Split.f k s c) (splitV s c (s.size + 1) 0 0) := spec_l20Split_l0 s c hs (s.size + 1) 0 0 [] (by omega) (by omega) (by simp)
theorem impl_lines_l0 (s : ByteArray) (hs : s.size ≤ 1000) : ∀ (d f i : Nat) (acc : List ByteArray), i + d = s.size + 1 → f ≤ i → acc.length ≤ i → Ev (fun k => impl_lines.l0 k s acc (f : Int) (i : Int)) (acc ++ splitV s 10 d f i) := by
  intro d
  induction d with
  | zero =>
    intro f i acc h hf ha
    rw [splitV, List.append_nil]
    exact Ev.step (fun _ => impl_lines.l0.eq_2 ..) (ev_neg (by omega) (ev_ret rfl))
  | succ d ih =>
    intro f i acc h hf ha
    have e1 : wrap64 ((i : Int) + 1) = ((i + 1 : Nat) : Int) := by rw [w64_id (by omega) (by omega)]; omega
    have take : Ev (fun k => impl_lines.l0 k s (acc ++ [s.extract f i]) ((i + 1 : Nat) : Int) ((i + 1 : Nat) : Int)) (acc ++ s.extract f i :: splitV s 10 d (i + 1) (i + 1)) := by
      refine ev_eq ?_ (ih (i + 1) (i + 1) (acc ++ [s.extract f i]) (by omega) (by omega) (by rw [List.length_append, List.length_singleton]; omega))
      rw [List.append_assoc, List.singleton_append]
    refine Ev.step (fun _ => impl_lines.l0.eq_2 ..) (ev_pos (by omega) ?_)
    rw [e1, Int.toNat_natCast, Int.toNat_natCast]
    by_cases hi : i = s.size
    · rw [splitV, if_pos (.inl hi)]
      exact ev_pos (by omega) (ev_pos (by omega) (ev_pos (by omega) (ev_pos (by omega) take)))
    · refine ev_neg (by omega) (ev_pos (by omega) (ev_pos (by omega) ?_))
      by_cases hb : bt s (i : Int) = 10
      · rw [splitV, if_pos (.inr hb)]
        exact ev_pos hb (ev_pos (by omega) (ev_pos (by omega) (ev_pos (by omega) take)))
      · rw [splitV, if_neg (fun h => h.elim hi hb)]
        exact ev_neg hb (ih f (i + 1) acc (by omega) (by omega) (by omega))
theorem impl_lines_ev {s : ByteArray} (hs : s.size ≤ 1000) : Ev (fun k => impl_lines.f k s) (splitV s 10 (s.size + 1) 0 0) := impl_lines_l0 s hs (s.size + 1) 0 0 [] (by omega) (by omega) (by simp)
def full (w : ByteArray) : Bool := decide (0 < w.size)
def wordsV (s : ByteArray) : List ByteArray := (splitV s 32 (s.size + 1) 0 0).filter full
theorem rdOf_nat {α : Type} {xs : List α} {n : Nat} (d : α) (h : n < xs.length) : rdOf d xs (n : Int) = xs[n] := by
  unfold rdOf; exact getD_nat d h
theorem spec_l20Words_l0 (all : List ByteArray) (hl : all.length ≤ 2000) : ∀ (d i : Nat) (acc : List ByteArray), i + d = all.length → acc.length ≤ i → Ev (fun k => spec_l20Words.l0 k acc all (i : Int)) (acc ++ (all.drop i).filter full) := by
  intro d
  induction d with
  | zero =>
    intro i acc h ha
    rw [List.drop_eq_nil_of_le (by omega), List.filter_nil, List.append_nil]
    exact Ev.step (fun _ => spec_l20Words.l0.eq_2 ..) (ev_neg (by omega) (ev_ret rfl))
  | succ d ih =>
    intro i acc h ha
    have hi : i < all.length := by omega
    have e1 : wrap64 ((i : Int) + 1) = ((i + 1 : Nat) : Int) := w64_succ hi (by omega)
    refine Ev.step (fun _ => spec_l20Words.l0.eq_2 ..) (ev_pos (by omega) (ev_pos (by omega) ?_))
    rw [e1, rdOf_nat _ hi, List.drop_eq_getElem_cons hi]
    by_cases hp : 0 < all[i].size
    · rw [List.filter_cons_of_pos (by simp [full, hp])]
      refine ev_pos (by omega) (ev_pos (by omega) ?_)
      refine ev_eq ?_ (ih (i + 1) (acc ++ [all[i]]) (by omega) (by rw [List.length_append, List.length_singleton]; omega))
      rw [List.append_assoc, List.singleton_append]
    · rw [List.filter_cons_of_neg (by simp [full, hp])]
      exact ev_neg (by omega) (ih (i + 1) acc (by omega) (by omega))
theorem spec_l20Words_ev {s : ByteArray} (hs : s.size ≤ 1000) : Ev (fun k => spec_l20Words.f k s) (wordsV s) := by
  unfold spec_l20Words.f
  have hl := splitV_len s 32 (s.size + 1) 0 0
  exact Ev.bind (spec_l20Split_ev 32 hs) (spec_l20Words_l0 _ (by omega) _ 0 [] (Nat.zero_add _) (by simp))
theorem wordsV_len {s : ByteArray} (hs : s.size ≤ 1000) : (wordsV s).length ≤ 1001 := by
  have hl := splitV_len s 32 (s.size + 1) 0 0
  have := List.length_filter_le full (splitV s 32 (s.size + 1) 0 0)
  unfold wordsV; omega
theorem wordsV_full (s : ByteArray) : ∀ w ∈ wordsV s, 0 < w.size := by
  intro w hw
  have := (List.mem_filter.1 hw).2
  simpa [full] using this
theorem wordsV_size {s : ByteArray} (hs : s.size ≤ 1000) : ∀ w ∈ wordsV s, w.size ≤ 1000 := fun w hw => Nat.le_trans (splitV_size s 32 (s.size + 1) 0 0 (by omega) w (List.mem_filter.1 hw).1) hs
theorem is62 (s : ByteArray) : (s.toList == ([62] : List UInt8)) = decide (s = (⟨#[62]⟩ : ByteArray)) := by
  have e : ∀ b : ByteArray, b.toList = b.data.toList := ByteArray.toList_eq
  rw [e]
  by_cases h : s = (⟨#[62]⟩ : ByteArray)
  · subst h; rfl
  · rw [decide_eq_false h]
    refine beq_eq_false_iff_ne.mpr (fun h' => h ?_)
    cases s with
    | mk d => cases d with
      | mk l => simp only at h'; rw [h']
def partsV (l : List ByteArray) : List ByteArray × ByteArray :=
  if 2 ≤ l.length ∧ rdOf ByteArray.empty l ((l.length - 2 : Nat) : Int) = (⟨#[62]⟩ : ByteArray) then (l.take (l.length - 2), rdOf ByteArray.empty l ((l.length - 1 : Nat) : Int)) else (l, (⟨#[]⟩ : ByteArray))
theorem spec_l20Parts_some (l : List ByteArray) : spec_l20Parts.f l = some (partsV l) := by
  unfold spec_l20Parts.f partsV; split <;> rfl
theorem partsV_mem (l : List ByteArray) : ∀ w ∈ (partsV l).1, w ∈ l := by
  intro w hw; unfold partsV at hw; split at hw
  · exact List.mem_of_mem_take hw
  · exact hw
theorem partsV_len (l : List ByteArray) : (partsV l).1.length ≤ l.length := by
  unfold partsV; split
  · rw [List.length_take]; omega
  · exact Nat.le_refl _
theorem partsV_into (l : List ByteArray) : (partsV l).2 = (⟨#[]⟩ : ByteArray) ∨ (partsV l).2 ∈ l := by
  unfold partsV; split
  · next h => right; rw [rdOf_nat _ (by omega)]; exact List.getElem_mem _
  · exact .inl rfl
def chr (c : Int) : Prop := (97 ≤ c ∧ c ≤ 122) ∨ (48 ≤ c ∧ c ≤ 57) ∨ c = 46 ∨ c = 95 ∨ c = 45 ∨ c = 47
instance (c : Int) : Decidable (chr c) := by unfold chr; exact inferInstance
def charsV (w : ByteArray) : Nat → Nat → Bool
  | 0, _ => true
  | d + 1, i => decide (chr (bt w (i : Int))) && charsV w d (i + 1)
def okW (w : ByteArray) : Bool := decide (w.size ≤ 20) && charsV w w.size 0
def wordV (w : ByteArray) : Bool := decide (1 ≤ w.size) && okW w
theorem spec_l20Word_l0 (w : ByteArray) (hs : w.size ≤ 1000) : ∀ (d i : Nat), i + d = w.size → Ev (fun k => spec_l20Word.l0 k w (i : Int)) (charsV w d i) := by
  intro d
  induction d with
  | zero => intro i h; exact Ev.step (fun _ => spec_l20Word.l0.eq_2 ..) (ev_neg (by omega) (ev_ret rfl))
  | succ d ih =>
    intro i h
    have e1 : wrap64 ((i : Int) + 1) = ((i + 1 : Nat) : Int) := by rw [w64_id (by omega) (by omega)]; omega
    refine Ev.step (fun _ => spec_l20Word.l0.eq_2 ..) (ev_pos (by omega) (ev_pos (by omega) ?_))
    rw [e1]
    have hn : chr (bt w (i : Int)) → Ev (fun k => spec_l20Word.l0 k w ((i + 1 : Nat) : Int)) (charsV w (d + 1) i) := by
      intro hc; rw [charsV, decide_eq_true hc, Bool.true_and]; exact ih (i + 1) (by omega)
    have hf : ¬ chr (bt w (i : Int)) → false = charsV w (d + 1) i := by
      intro hc; rw [charsV, decide_eq_false hc, Bool.false_and]
    generalize charsV w (d + 1) i = R at *
    generalize bt w (i : Int) = c at *
    repeat' (first | exact hn (by unfold chr; omega) | exact ev_ret (hf (by unfold chr; omega)) | refine ev_split (fun _ => ?_) (fun _ => ?_))
theorem spec_l20Word_ev {w : ByteArray} (hs : w.size ≤ 1000) : Ev (fun k => spec_l20Word.f k w) (wordV w) := by
  unfold spec_l20Word.f wordV okW
  by_cases h : w.size < 1
  · refine ev_pos (by omega) (Ev.step (fun _ => spec_l20Word.j0.eq_2 ..) (ev_pos rfl (ev_ret ?_)))
    rw [decide_eq_false (by omega), Bool.false_and]
  · refine ev_neg (by omega) (Ev.step (fun _ => spec_l20Word.j0.eq_2 ..) ?_)
    rw [decide_eq_true (show 1 ≤ w.size by omega), Bool.true_and]
    by_cases h2 : w.size ≤ 20
    · rw [decide_eq_true h2, Bool.true_and]
      exact ev_neg (by rw [decide_eq_false (by omega)]; decide) (spec_l20Word_l0 w hs w.size 0 (by omega))
    · rw [decide_eq_false h2, Bool.false_and]
      exact ev_pos (by rw [decide_eq_true (by omega)]) (ev_ret rfl)
def cmdV (l : List ByteArray) (o : ByteArray) : Bool :=
  if l.length = 0 then (o.toList == ([] : List UInt8)) else
  if (rdOf ByteArray.empty l 0).toList = ([101, 99, 104, 111] : List UInt8) then decide (l.length ≤ 9) else
  if (rdOf ByteArray.empty l 0).toList = ([99, 97, 116] : List UInt8) then (decide (2 ≤ l.length) && decide (l.length ≤ 5)) && (l.drop 1).all (fun x => x.toList != o.toList) else
  if (rdOf ByteArray.empty l 0).toList = ([108, 115] : List UInt8) then decide (l.length ≤ 2) else
  if (rdOf ByteArray.empty l 0).toList = ([109, 107, 100, 105, 114] : List UInt8) ∨ (rdOf ByteArray.empty l 0).toList = ([114, 109] : List UInt8) then decide (l.length = 2) && (o.toList == ([] : List UInt8)) else
  if (rdOf ByteArray.empty l 0).toList = ([109, 118] : List UInt8) then decide (l.length = 3) && (o.toList == ([] : List UInt8)) else
  decide (l.length = 1) && (bt (rdOf ByteArray.empty l 0) 0 == 122)
def lineV (s : ByteArray) : Bool := ((((partsV (wordsV s)).2.toList == ([] : List UInt8)) || wordV (partsV (wordsV s)).2) && (partsV (wordsV s)).1.all wordV) && cmdV (partsV (wordsV s)).1 (partsV (wordsV s)).2
theorem spec_l20Line_l1 (l : List ByteArray) (o : ByteArray) (hl : l.length ≤ 2000) : ∀ (d i : Nat), i + d = l.length → Ev (fun k => spec_l20Line.l1 k l o ((l.length - 1 : Nat) : Int) (i : Int)) ((decide (2 ≤ l.length) && decide (l.length ≤ 5)) && (l.drop i).all (fun x => x.toList != o.toList)) := by
  intro d
  induction d with
  | zero =>
    intro i h
    rw [List.drop_eq_nil_of_le (by omega), List.all_nil, Bool.and_true]
    refine Ev.step (fun _ => spec_l20Line.l1.eq_2 ..) (ev_neg (by omega) ?_)
    by_cases h2 : 2 ≤ l.length
    · refine ev_pos (by omega) (ev_ret ?_)
      rw [decide_eq_true h2, Bool.true_and, decide_eq_decide]; omega
    · refine ev_neg (by omega) (ev_ret ?_)
      rw [decide_eq_false h2, Bool.false_and]
  | succ d ih =>
    intro i h
    have hi : i < l.length := by omega
    refine Ev.step (fun _ => spec_l20Line.l1.eq_2 ..) (ev_pos (by omega) (ev_pos (by omega) ?_))
    rw [w64_succ hi (by omega), rdOf_nat _ hi, List.drop_eq_getElem_cons hi, List.all_cons]
    by_cases he : l[i].toList = o.toList
    · refine ev_pos he (ev_ret ?_)
      rw [he, bne_self_eq_false, Bool.false_and, Bool.and_false]
    · refine ev_neg he ?_
      rw [bne_iff_ne.2 he, Bool.true_and]
      exact ih (i + 1) (by omega)
theorem spec_l20Line_j3 (l : List ByteArray) (o : ByteArray) (hl : l.length ≤ 2000) (h0 : 0 < l.length) (hw : 0 < (rdOf ByteArray.empty l 0).size) (b : Bool) (hb : b = decide ((rdOf ByteArray.empty l 0).toList = ([109, 107, 100, 105, 114] : List UInt8) ∨ (rdOf ByteArray.empty l 0).toList = ([114, 109] : List UInt8))) :
    Ev (fun k => spec_l20Line.j3 k l o ((l.length - 1 : Nat) : Int) (rdOf ByteArray.empty l 0) b) (
  if (rdOf ByteArray.empty l 0).toList = ([109, 107, 100, 105, 114] : List UInt8) ∨ (rdOf ByteArray.empty l 0).toList = ([114, 109] : List UInt8) then decide (l.length = 2) && (o.toList == ([] : List UInt8)) else
  if (rdOf ByteArray.empty l 0).toList = ([109, 118] : List UInt8) then decide (l.length = 3) && (o.toList == ([] : List UInt8)) else
  decide (l.length = 1) && (bt (rdOf ByteArray.empty l 0) 0 == 122)) := by
  refine Ev.step (fun _ => spec_l20Line.j3.eq_2 ..) ?_
  subst hb
  by_cases h1 : (rdOf ByteArray.empty l 0).toList = ([109, 107, 100, 105, 114] : List UInt8) ∨ (rdOf ByteArray.empty l 0).toList = ([114, 109] : List UInt8)
  · rw [if_pos h1]
    refine ev_pos (decide_eq_true h1) ?_
    by_cases h2 : l.length = 2
    · exact ev_pos (by omega) (ev_ret (by rw [decide_eq_true h2, Bool.true_and]))
    · exact ev_neg (by omega) (ev_ret (by rw [decide_eq_false h2, Bool.false_and]))
  · rw [if_neg h1]
    refine ev_neg (by rw [decide_eq_false h1]; decide) (ev_ite (fun h3 => ?_) (fun h3 => ?_))
    · by_cases h2 : l.length = 3
      · exact ev_pos (by omega) (ev_ret (by rw [decide_eq_true h2, Bool.true_and]))
      · exact ev_neg (by omega) (ev_ret (by rw [decide_eq_false h2, Bool.false_and]))
    · by_cases h2 : l.length = 1
      · exact ev_pos (by omega) (ev_pos (by omega) (ev_pos (by omega) (ev_ret (by rw [decide_eq_true h2, Bool.true_and]))))
      · exact ev_neg (by omega) (ev_ret (by rw [decide_eq_false h2, Bool.false_and]))
theorem spec_l20Line_end (l : List ByteArray) (o : ByteArray) (hl : l.length ≤ 2000) (hf : ∀ w ∈ l, 0 < w.size) : Ev (fun k => spec_l20Line.l0 k l o ((l.length : Nat) : Int)) (cmdV l o) := by
  refine Ev.step (fun _ => spec_l20Line.l0.eq_2 ..) (ev_neg (by omega) ?_)
  unfold cmdV
  by_cases h0 : l.length = 0
  · rw [if_pos h0]; exact ev_pos (by omega) (ev_ret rfl)
  · rw [if_neg h0]
    have hw : 0 < (rdOf ByteArray.empty l 0).size := by
      have e := rdOf_nat ByteArray.empty (xs := l) (n := 0) (by omega)
      rw [show ((0 : Nat) : Int) = 0 from rfl] at e
      rw [e]; exact hf _ (List.getElem_mem _)
    have e1 : wrap64 ((l.length : Int) - 1) = ((l.length - 1 : Nat) : Int) := by rw [w64_id (by omega) (by omega)]; omega
    refine ev_neg (by omega) (ev_pos (by omega) ?_)
    rw [e1]
    refine ev_ite (fun h1 => ev_ret (by rw [decide_eq_decide]; omega)) (fun h1 => ev_ite (fun h2 => ?_) (fun h2 => ev_ite (fun h3 => ev_ret (by rw [decide_eq_decide]; omega)) (fun h3 => ?_)))
    · have := spec_l20Line_l1 l o hl (l.length - 1) 1 (by omega)
      exact this
    · by_cases h4 : (rdOf ByteArray.empty l 0).toList = ([109, 107, 100, 105, 114] : List UInt8)
      · exact ev_pos h4 (spec_l20Line_j3 l o hl (by omega) hw _ (by rw [decide_eq_true (Or.inl h4)]; exact beq_iff_eq.2 h4))
      · refine ev_neg h4 (spec_l20Line_j3 l o hl (by omega) hw _ ?_)
        by_cases h5 : (rdOf ByteArray.empty l 0).toList = ([114, 109] : List UInt8)
        · rw [decide_eq_true (Or.inr h5)]; exact beq_iff_eq.2 h5
        · rw [decide_eq_false (fun h => h.elim h4 h5)]; exact beq_eq_false_iff_ne.2 h5
theorem spec_l20Line_run (l : List ByteArray) (o : ByteArray) (hl : l.length ≤ 2000) (hf : ∀ w ∈ l, 0 < w.size) (hsz : ∀ w ∈ l, w.size ≤ 1000) : ∀ (d i : Nat), i + d = l.length → Ev (fun k => spec_l20Line.l0 k l o (i : Int)) ((l.drop i).all wordV && cmdV l o) := by
  intro d
  induction d with
  | zero =>
    intro i h
    obtain rfl : i = l.length := by omega
    rw [List.drop_length, List.all_nil, Bool.true_and]
    exact spec_l20Line_end l o hl hf
  | succ d ih =>
    intro i h
    have hi : i < l.length := by omega
    refine Ev.step (fun _ => spec_l20Line.l0.eq_2 ..) (ev_pos (by omega) (ev_pos (by omega) ?_))
    rw [w64_succ hi (by omega), rdOf_nat _ hi, List.drop_eq_getElem_cons hi, List.all_cons]
    refine Ev.bind (spec_l20Word_ev (hsz _ (List.getElem_mem hi))) ?_
    cases hb : wordV l[i] with
    | true => rw [Bool.true_and]; exact ev_pos rfl (ih (i + 1) (by omega))
    | false => rw [Bool.false_and, Bool.false_and]; exact ev_neg (by decide) (ev_ret rfl)
theorem spec_l20Line_ev {s : ByteArray} (hs : s.size ≤ 1000) : Ev (fun k => spec_l20Line.f k s) (lineV s) := by
  unfold spec_l20Line.f lineV
  have hl := wordsV_len hs
  have hp := partsV_len (wordsV s)
  have hf : ∀ w ∈ (partsV (wordsV s)).1, 0 < w.size := fun w hw => wordsV_full s w (partsV_mem _ w hw)
  have hz : ∀ w ∈ (partsV (wordsV s)).1, w.size ≤ 1000 := fun w hw => wordsV_size hs w (partsV_mem _ w hw)
  have ho : (partsV (wordsV s)).2.size ≤ 1000 := by
    rcases partsV_into (wordsV s) with h | h
    · rw [h]; exact Nat.zero_le _
    · exact wordsV_size hs _ h
  refine Ev.bind (spec_l20Words_ev hs) (ev_bind0 (spec_l20Parts_some _) ?_)
  generalize partsV (wordsV s) = p at *
  obtain ⟨l, o⟩ := p
  have run := spec_l20Line_run l o (by simp only at hp; omega) hf hz l.length 0 (Nat.zero_add _)
  rw [List.drop_zero] at run
  show Ev (fun k => if o.toList = ([] : List UInt8) then spec_l20Line.j0 k l o false else (spec_l20Word.f k o).bind fun t => spec_l20Line.j0 k l o (!t)) (((o.toList == ([] : List UInt8)) || wordV o) && l.all wordV && cmdV l o)
  have good : Ev (fun k => spec_l20Line.j0 k l o false) (l.all wordV && cmdV l o) := Ev.step (fun _ => spec_l20Line.j0.eq_2 ..) (ev_neg (by decide) run)
  by_cases he : o.toList = ([] : List UInt8)
  · rw [beq_iff_eq.2 he, Bool.true_or, Bool.true_and]; exact ev_pos he good
  · rw [beq_eq_false_iff_ne.2 he, Bool.false_or]
    refine ev_neg he (Ev.bind (spec_l20Word_ev ho) ?_)
    cases wordV o with
    | true => rw [Bool.true_and]; exact good
    | false => rw [Bool.false_and, Bool.false_and]; exact Ev.step (fun _ => spec_l20Line.j0.eq_2 ..) (ev_pos rfl (ev_ret rfl))
def plainV (s : ByteArray) : Bool := (splitV s 10 (s.size + 1) 0 0).all (fun x => decide (x.size ≤ 80) && lineV x)
theorem spec_Plain_l0 (l : List ByteArray) (hl : l.length ≤ 2000) (hz : ∀ w ∈ l, w.size ≤ 1000) : ∀ (d i : Nat), i + d = l.length → Ev (fun k => spec_Plain.l0 k l (i : Int)) ((l.drop i).all (fun x => decide (x.size ≤ 80) && lineV x)) := by
  intro d
  induction d with
  | zero =>
    intro i h
    rw [List.drop_eq_nil_of_le (by omega)]
    exact Ev.step (fun _ => spec_Plain.l0.eq_2 ..) (ev_neg (by omega) (ev_ret rfl))
  | succ d ih =>
    intro i h
    have hi : i < l.length := by omega
    refine Ev.step (fun _ => spec_Plain.l0.eq_2 ..) (ev_pos (by omega) (ev_pos (by omega) ?_))
    rw [w64_succ hi (by omega), rdOf_nat _ hi, List.drop_eq_getElem_cons hi, List.all_cons]
    by_cases h80 : l[i].size ≤ 80
    · rw [decide_eq_true h80, Bool.true_and]
      refine ev_neg (by omega) (Ev.bind (spec_l20Line_ev (hz _ (List.getElem_mem hi))) ?_)
      cases lineV l[i] with
      | true => rw [Bool.true_and]; exact ev_pos rfl (ih (i + 1) (by omega))
      | false => rw [Bool.false_and]; exact ev_neg (by decide) (ev_ret rfl)
    · rw [decide_eq_false h80, Bool.false_and, Bool.false_and]
      exact ev_pos (by omega) (ev_ret rfl)
def noCmd : List ByteArray × ByteArray × Bool := (([] : List ByteArray), (⟨#[]⟩ : ByteArray), false)
theorem impl_command_l2 (l : List ByteArray) (o w : ByteArray) (Y : List ByteArray) (j : Nat) (hs : w.size ≤ 1000) (R : List ByteArray × ByteArray × Bool) : ∀ (d i : Nat), i + d = w.size → (charsV w d i = true → Ev (fun k => impl_command.l1 k l o Y (Y.length : Int) (wrap64 ((j : Int) + 1))) R) → (charsV w d i = false → noCmd = R) → Ev (fun k => impl_command.l2 k l o w Y (Y.length : Int) (j : Int) (w.size : Int) (i : Int)) R := by
  intro d
  induction d with
  | zero => intro i h ht hf; exact Ev.step (fun _ => impl_command.l2.eq_2 ..) (ev_neg (by omega) (ht rfl))
  | succ d ih =>
    intro i h ht hf
    have e1 : wrap64 ((i : Int) + 1) = ((i + 1 : Nat) : Int) := by rw [w64_id (by omega) (by omega)]; omega
    refine Ev.step (fun _ => impl_command.l2.eq_2 ..) (ev_pos (by omega) (ev_pos (by omega) (ev_pos (by omega) ?_)))
    rw [e1]
    have hn : chr (bt w (i : Int)) → Ev (fun k => impl_command.l2 k l o w Y (Y.length : Int) (j : Int) (w.size : Int) ((i + 1 : Nat) : Int)) R := by
      intro hc
      rw [charsV, decide_eq_true hc, Bool.true_and] at ht hf
      exact ih (i + 1) (by omega) ht hf
    have hx : ¬ chr (bt w (i : Int)) → noCmd = R := by
      intro hc; exact hf (by rw [charsV, decide_eq_false hc, Bool.false_and])
    clear ht hf ih
    generalize bt w (i : Int) = c at *
    repeat' (first | exact hn (by unfold chr; omega) | exact ev_ret (hx (by unfold chr; omega)) | refine ev_split (fun _ => ?_) (fun _ => ?_))
theorem impl_command_l3 (l : List ByteArray) (o : ByteArray) (Y : List ByteArray) (hl : Y.length ≤ 2000) : ∀ (d i : Nat) (b : Bool), i + d = Y.length → Ev (fun k => impl_command.l3 k l o b Y (Y.length : Int) (i : Int)) (l, o, b && (Y.drop i).all (fun x => x.toList != o.toList)) := by
  intro d
  induction d with
  | zero =>
    intro i b h
    rw [List.drop_eq_nil_of_le (by omega), List.all_nil, Bool.and_true]
    exact Ev.step (fun _ => impl_command.l3.eq_2 ..) (ev_neg (by omega) (ev_ret rfl))
  | succ d ih =>
    intro i b h
    have hi : i < Y.length := by omega
    refine Ev.step (fun _ => impl_command.l3.eq_2 ..) (ev_pos (by omega) (ev_pos (by omega) (ev_pos (by omega) ?_)))
    rw [w64_succ hi (by omega), rdOf_nat _ hi, List.drop_eq_getElem_cons hi, List.all_cons]
    cases b with
    | true => rw [Bool.true_and]; exact ev_pos rfl (ih (i + 1) _ (by omega))
    | false => rw [Bool.false_and]; exact ev_neg (by decide) (ev_eq (by rw [Bool.false_and]) (ih (i + 1) false (by omega)))
theorem impl_command_j6 (l : List ByteArray) (o : ByteArray) (b : Bool) (h0 : 0 < l.length) (hl : l.length ≤ 2000) : Ev (fun k => impl_command.j6 k l o b) (l, o, b && (l.drop 1).all (fun x => x.toList != o.toList)) := by
  refine Ev.step (fun _ => impl_command.j6.eq_2 ..) (ev_pos (by omega) (ev_bind0 rfl ?_))
  have := impl_command_l3 l o (l.drop 1) (by rw [List.length_drop]; omega) (l.drop 1).length 0 b (Nat.zero_add _)
  rw [List.drop_zero] at this
  exact this
theorem ev_iteT {α : Type} {l o : α} {β : Type} {c : Prop} [Decidable c] {A B : Nat → Option (α × β × Bool)} {x : α} {y : β} {p q : Bool} (k : c → Ev A (x, y, p)) (m : ¬ c → Ev B (x, y, q)) : Ev (fun n => if c then A n else B n) (x, y, if c then p else q) := by
  by_cases h : c
  · rw [if_pos h]; exact ev_pos h (k h)
  · rw [if_neg h]; exact ev_neg h (m h)
theorem impl_command_j8 (l : List ByteArray) (o : ByteArray) (hl : l.length ≤ 2000) (h0 : 0 < l.length) (hw : 0 < (rdOf ByteArray.empty l 0).size) (b : Bool) (hb : b = decide ((rdOf ByteArray.empty l 0).toList = ([109, 107, 100, 105, 114] : List UInt8) ∨ (rdOf ByteArray.empty l 0).toList = ([114, 109] : List UInt8))) :
    Ev (fun k => impl_command.j8 k l o ((l.length - 1 : Nat) : Int) (rdOf ByteArray.empty l 0) b) (l, o,
  if (rdOf ByteArray.empty l 0).toList = ([109, 107, 100, 105, 114] : List UInt8) ∨ (rdOf ByteArray.empty l 0).toList = ([114, 109] : List UInt8) then decide (l.length = 2) && (o.toList == ([] : List UInt8)) else
  if (rdOf ByteArray.empty l 0).toList = ([109, 118] : List UInt8) then decide (l.length = 3) && (o.toList == ([] : List UInt8)) else
  decide (l.length = 1) && (bt (rdOf ByteArray.empty l 0) 0 == 122)) := by
  refine Ev.step (fun _ => impl_command.j8.eq_2 ..) ?_
  subst hb
  by_cases h1 : (rdOf ByteArray.empty l 0).toList = ([109, 107, 100, 105, 114] : List UInt8) ∨ (rdOf ByteArray.empty l 0).toList = ([114, 109] : List UInt8)
  · rw [if_pos h1]
    refine ev_pos (decide_eq_true h1) ?_
    by_cases h2 : l.length = 2
    · exact ev_pos (by omega) (ev_ret (by rw [decide_eq_true h2, Bool.true_and]))
    · exact ev_neg (by omega) (ev_ret (by rw [decide_eq_false h2, Bool.false_and]))
  · rw [if_neg h1]
    refine ev_neg (by rw [decide_eq_false h1]; decide) (ev_iteT (l := l) (o := l) (fun h3 => ?_) (fun h3 => ?_))
    · by_cases h2 : l.length = 3
      · exact ev_pos (by omega) (ev_ret (by rw [decide_eq_true h2, Bool.true_and]))
      · exact ev_neg (by omega) (ev_ret (by rw [decide_eq_false h2, Bool.false_and]))
    · by_cases h2 : l.length = 1
      · exact ev_pos (by omega) (ev_pos (by omega) (ev_pos (by omega) (ev_ret (by rw [decide_eq_true h2, Bool.true_and]))))
      · exact ev_neg (by omega) (ev_ret (by rw [decide_eq_false h2, Bool.false_and]))
theorem impl_command_end (l : List ByteArray) (o : ByteArray) (Y : List ByteArray) (hl : l.length ≤ 2000) (hf : ∀ w ∈ l, 0 < w.size) : ∃ R, R.2.2 = cmdV l o ∧ Ev (fun k => impl_command.l1 k l o Y (Y.length : Int) ((Y.length : Nat) : Int)) R := by
  unfold cmdV
  by_cases h0 : l.length = 0
  · rw [if_pos h0]; exact ⟨(_, _, _), rfl, Ev.step (fun _ => impl_command.l1.eq_2 ..) (ev_neg (by omega) (ev_pos (by omega) (ev_ret rfl)))⟩
  · rw [if_neg h0]
    have hw : 0 < (rdOf ByteArray.empty l 0).size := by
      have e := rdOf_nat ByteArray.empty (xs := l) (n := 0) (by omega)
      rw [show ((0 : Nat) : Int) = 0 from rfl] at e
      rw [e]; exact hf _ (List.getElem_mem _)
    have e1 : wrap64 ((l.length : Int) - 1) = ((l.length - 1 : Nat) : Int) := by rw [w64_id (by omega) (by omega)]; omega
    refine ⟨(l, o, _), rfl, Ev.step (fun _ => impl_command.l1.eq_2 ..) (ev_neg (by omega) (ev_neg (by omega) (ev_pos (by omega) ?_)))⟩
    rw [e1]
    refine ev_iteT (l := l) (o := l) (fun h1 => ev_ret (by rw [Prod.mk.injEq, Prod.mk.injEq, decide_eq_decide]; exact ⟨rfl, rfl, by omega⟩)) (fun h1 => ev_iteT (l := l) (o := l) (fun h2 => ?_) (fun h2 => ev_iteT (l := l) (o := l) (fun h3 => ev_ret (by rw [Prod.mk.injEq, Prod.mk.injEq, decide_eq_decide]; exact ⟨rfl, rfl, by omega⟩)) (fun h3 => ?_)))
    · by_cases h22 : 2 ≤ l.length
      · refine ev_pos (by omega) ?_
        rw [decide_eq_true h22, Bool.true_and]
        have e5 : decide (((l.length - 1 : Nat) : Int) ≤ 4) = decide (l.length ≤ 5) := by rw [decide_eq_decide]; omega
        rw [e5]
        exact impl_command_j6 l o _ (by omega) hl
      · refine ev_neg (by omega) ?_
        rw [decide_eq_false h22, Bool.false_and]
        exact impl_command_j6 l o _ (by omega) hl
    · by_cases h4 : (rdOf ByteArray.empty l 0).toList = ([109, 107, 100, 105, 114] : List UInt8)
      · exact ev_pos h4 (impl_command_j8 l o hl (by omega) hw _ (by rw [decide_eq_true (Or.inl h4)]; exact beq_iff_eq.2 h4))
      · refine ev_neg h4 (impl_command_j8 l o hl (by omega) hw _ ?_)
        by_cases h5 : (rdOf ByteArray.empty l 0).toList = ([114, 109] : List UInt8)
        · rw [decide_eq_true (Or.inr h5)]; exact beq_iff_eq.2 h5
        · rw [decide_eq_false (fun h => h.elim h4 h5)]; exact beq_eq_false_iff_ne.2 h5
theorem impl_command_l1 (l : List ByteArray) (o : ByteArray) (Y : List ByteArray) (hl : Y.length ≤ 2000) (hz : ∀ w ∈ Y, w.size ≤ 1000) (R : List ByteArray × ByteArray × Bool)
    (hE : Y.all okW = true → Ev (fun k => impl_command.l1 k l o Y (Y.length : Int) ((Y.length : Nat) : Int)) R) (hF : Y.all okW = false → noCmd = R) : ∀ (d i : Nat), i + d = Y.length → (Y.take i).all okW = true → Ev (fun k => impl_command.l1 k l o Y (Y.length : Int) (i : Int)) R := by
  intro d
  induction d with
  | zero =>
    intro i h ht
    obtain rfl : i = Y.length := by omega
    rw [List.take_length] at ht
    exact hE ht
  | succ d ih =>
    intro i h ht
    have hi : i < Y.length := by omega
    have bad : okW Y[i] = false → noCmd = R := fun hb => hF (by
      cases ha : Y.all okW with
      | false => rfl
      | true => have := List.all_eq_true.1 ha _ (List.getElem_mem hi); rw [hb] at this; cases this)
    refine Ev.step (fun _ => impl_command.l1.eq_2 ..) (ev_pos (by omega) (ev_pos (by omega) (ev_pos (by omega) ?_)))
    rw [rdOf_nat _ hi]
    by_cases h20 : Y[i].size ≤ 20
    · refine ev_neg (by omega) (impl_command_l2 l o Y[i] Y i (by omega) R Y[i].size 0 (by omega) (fun hc => ?_) (fun hc => bad ?_))
      · rw [w64_succ hi (by omega)]
        refine ih (i + 1) (by omega) ?_
        rw [List.take_succ_eq_append_getElem hi, List.all_append, ht, Bool.true_and, List.all_cons, List.all_nil, Bool.and_true]
        unfold okW; rw [decide_eq_true h20, Bool.true_and, hc]
      · unfold okW; rw [hc, Bool.and_false]
    · exact ev_pos (by omega) (ev_ret (bad (by unfold okW; rw [decide_eq_false h20, Bool.false_and])))
theorem okW_a : okW ((⟨#[]⟩ : ByteArray) ++ (⟨#[97]⟩ : ByteArray).extract 0 1) = true := by decide
theorem empty_of_toList {o : ByteArray} (h : o.toList = ([] : List UInt8)) : o = (⟨#[]⟩ : ByteArray) := by
  rw [ByteArray.toList_eq] at h
  cases o with
  | mk d => cases d with
    | mk l => simp only at h; rw [h]
theorem impl_command_j3 (l : List ByteArray) (o : ByteArray) (hl : l.length ≤ 1001) (hf : ∀ w ∈ l, 0 < w.size) (hz : ∀ w ∈ l, w.size ≤ 1000) (ho : o.size ≤ 1000) (hof : o = (⟨#[]⟩ : ByteArray) ∨ 0 < o.size) :
    ∃ R, R.2.2 = ((((o.toList == ([] : List UInt8)) || wordV o) && l.all wordV) && cmdV l o) ∧ Ev (fun k => impl_command.j3 k l o) R := by
  have wv : ∀ w : ByteArray, 0 < w.size → wordV w = okW w := fun w h => by unfold wordV; rw [decide_eq_true (by omega), Bool.true_and]
  have la : l.all wordV = l.all okW := by
    clear hl hz
    induction l with
    | nil => rfl
    | cons a t ih => rw [List.all_cons, List.all_cons, ih (fun w hw => hf w (List.mem_cons_of_mem _ hw)), wv a (hf a List.mem_cons_self)]
  -- the word behind > as it is looked at
  obtain ⟨t, ht, ht1, hx, hxz⟩ : ∃ t : Nat, impl_b2i.f (o.toList == ([] : List UInt8)) = some (t : Int) ∧ t ≤ 1 ∧ okW (o ++ (⟨#[97]⟩ : ByteArray).extract 0 t) = ((o.toList == ([] : List UInt8)) || wordV o) ∧ (o ++ (⟨#[97]⟩ : ByteArray).extract 0 t).size ≤ 1000 := by
    rcases hof with rfl | hp
    · have e0 : (⟨#[]⟩ : ByteArray).toList = ([] : List UInt8) := by rw [ByteArray.toList_eq]
      rw [e0]
      exact ⟨1, rfl, by omega, by rw [okW_a]; rfl, by decide⟩
    · have hne : ¬ o.toList = ([] : List UInt8) := fun h => by have := empty_of_toList h; rw [this] at hp; exact absurd hp (by decide)
      have e0 : o ++ (⟨#[97]⟩ : ByteArray).extract 0 0 = o := by
        have : (⟨#[97]⟩ : ByteArray).extract 0 0 = ByteArray.empty := by decide
        rw [this, ByteArray.append_empty]
      refine ⟨0, ?_, by omega, ?_, by rw [e0]; exact ho⟩
      · unfold impl_b2i.f; rw [beq_eq_false_iff_ne.2 hne]; rfl
      · rw [e0, beq_eq_false_iff_ne.2 hne, Bool.false_or, wv o hp]
  have hsz : ((⟨#[97]⟩ : ByteArray).extract 0 ((t : Int)).toNat).size ≤ 1 := by
    rw [ByteArray.size_extract]
    show min _ 1 - 0 ≤ 1
    omega
  obtain ⟨Y, hY⟩ : ∃ Y, Y = (([] : List ByteArray) ++ l) ++ [o ++ (⟨#[97]⟩ : ByteArray).extract 0 t] := ⟨_, rfl⟩
  have hYl : Y.length = l.length + 1 := by rw [hY]; simp
  have hYa : Y.all okW = (((o.toList == ([] : List UInt8)) || wordV o) && l.all wordV) := by
    rw [hY, List.nil_append, List.all_append, List.all_cons, List.all_nil, Bool.and_true, hx, la, Bool.and_comm]
  have hYz : ∀ w ∈ Y, w.size ≤ 1000 := by
    intro w hw
    rw [hY, List.nil_append] at hw
    rcases List.mem_append.1 hw with h | h
    · exact hz w h
    · rw [List.mem_singleton.1 h]; exact hxz
  obtain ⟨R1, hR1, hE⟩ := impl_command_end l o Y (by omega) hf
  have walk : ∀ R, (Y.all okW = true → Ev (fun k => impl_command.l1 k l o Y (Y.length : Int) ((Y.length : Nat) : Int)) R) → (Y.all okW = false → noCmd = R) → Ev (fun k => impl_command.j3 k l o) R := by
    intro R h1 h2
    refine Ev.step (fun _ => impl_command.j3.eq_2 ..) (ev_pos (by simp; omega) (ev_bind0 rfl (ev_bind0 ht (ev_pos (by omega) (ev_pos (by omega) (ev_pos (by omega) (ev_pos (by simp; omega) (ev_bind0 rfl ?_))))))))
    have := impl_command_l1 l o Y (by omega) hYz R h1 h2 Y.length 0 (Nat.zero_add _) (by rw [List.take_zero]; rfl)
    rw [Int.toNat_natCast, ← hY]
    exact this
  cases hb : Y.all okW with
  | true => exact ⟨R1, by rw [← hYa, hb, Bool.true_and]; exact hR1, walk R1 (fun _ => hE) (fun h => by rw [hb] at h; cases h)⟩
  | false => exact ⟨noCmd, by rw [← hYa, hb, Bool.false_and]; rfl, walk noCmd (fun h => by rw [hb] at h; cases h) (fun _ => rfl)⟩
theorem impl_command_l0 (s : ByteArray) (hs : s.size ≤ 1000) (X : List ByteArray) (R : List ByteArray × ByteArray × Bool) (hl : X.length ≤ 1001) (hE : Ev (fun k => impl_command.j3 k (partsV X).1 (partsV X).2) R) : ∀ (d f i : Nat) (acc : List ByteArray), i + d = s.size + 1 → f ≤ i → acc.length ≤ i → acc ++ (splitV s 32 d f i).filter full = X → Ev (fun k => impl_command.l0 k s acc (⟨#[]⟩ : ByteArray) (f : Int) (i : Int)) R := by
  intro d
  induction d with
  | zero =>
    intro f i acc h hf ha hX
    rw [splitV, List.filter_nil, List.append_nil] at hX
    subst hX
    refine Ev.step (fun _ => impl_command.l0.eq_2 ..) (ev_neg (by omega) ?_)
    unfold partsV at hE
    by_cases h2 : 2 ≤ acc.length
    · have e2 : wrap64 ((acc.length : Int) - 2) = ((acc.length - 2 : Nat) : Int) := by rw [w64_id (by omega) (by omega)]; omega
      have e1 : wrap64 ((acc.length : Int) - 1) = ((acc.length - 1 : Nat) : Int) := by rw [w64_id (by omega) (by omega)]; omega
      refine ev_pos (by omega) ?_
      rw [e2, is62]
      refine ev_pos (by omega) (ev_pos (by omega) (Ev.step (fun _ => impl_command.j2.eq_2 ..) ?_))
      rw [e1, e2, Int.toNat_natCast]
      by_cases h3 : rdOf ByteArray.empty acc ((acc.length - 2 : Nat) : Int) = (⟨#[62]⟩ : ByteArray)
      · rw [if_pos ⟨h2, h3⟩] at hE
        exact ev_pos (decide_eq_true h3) (ev_pos (by omega) (ev_pos (by omega) (ev_pos (by omega) (ev_pos (by omega) hE))))
      · rw [if_neg (fun h => h3 h.2)] at hE
        exact ev_neg (by rw [decide_eq_false h3]; decide) hE
    · rw [if_neg (fun h => h2 h.1)] at hE
      exact ev_neg (by omega) (Ev.step (fun _ => impl_command.j2.eq_2 ..) (ev_neg (by decide) hE))
  | succ d ih =>
    intro f i acc h hf ha hX
    have e1 : wrap64 ((i : Int) + 1) = ((i + 1 : Nat) : Int) := by rw [w64_id (by omega) (by omega)]; omega
    have cut : i ≤ s.size → acc ++ (s.extract f i :: splitV s 32 d (i + 1) (i + 1)).filter full = X → Ev (fun k => impl_command.j1 k s acc (⟨#[]⟩ : ByteArray) (f : Int) (i : Int) true) R := by
      intro hi hX2
      refine Ev.step (fun _ => impl_command.j1.eq_2 ..) (ev_pos rfl ?_)
      rw [e1, Int.toNat_natCast, Int.toNat_natCast]
      have hes : (s.extract f i).size = i - f := by rw [ByteArray.size_extract]; omega
      by_cases hp : f < i
      · rw [List.filter_cons_of_pos (by simp only [full, hes]; exact decide_eq_true (by omega))] at hX2
        refine ev_pos (by omega) (ev_pos (by omega) (ev_pos (by omega) (ev_pos (by omega) (ev_pos (by omega) ?_))))
        exact ih (i + 1) (i + 1) (acc ++ [s.extract f i]) (by omega) (by omega) (by rw [List.length_append, List.length_singleton]; omega) (by rw [List.append_assoc, List.singleton_append]; exact hX2)
      · rw [List.filter_cons_of_neg (by simp only [full, hes]; rw [decide_eq_false (by omega)]; decide)] at hX2
        exact ev_neg (by omega) (ih (i + 1) (i + 1) acc (by omega) (by omega) (by omega) hX2)
    refine Ev.step (fun _ => impl_command.l0.eq_2 ..) (ev_pos (by omega) ?_)
    rw [splitV] at hX
    by_cases hi : i = s.size
    · rw [if_pos (.inl hi)] at hX
      exact ev_pos (by omega) (cut (by omega) hX)
    · refine ev_neg (by omega) (ev_pos (by omega) (ev_pos (by omega) ?_))
      by_cases hb : bt s (i : Int) = 32
      · rw [if_pos (.inr hb)] at hX
        rw [beq_iff_eq.2 hb]
        exact cut (by omega) hX
      · rw [if_neg (fun h => h.elim hi hb)] at hX
        rw [beq_eq_false_iff_ne.2 hb]
        refine Ev.step (fun _ => impl_command.j1.eq_2 ..) (ev_neg (by decide) ?_)
        rw [e1]
        exact ih f (i + 1) acc (by omega) (by omega) (by omega) hX
theorem impl_command_ev {s : ByteArray} (hs : s.size ≤ 1000) : ∃ R, R.2.2 = lineV s ∧ Ev (fun k => impl_command.f k s) R := by
  have hl := wordsV_len hs
  have hp := partsV_len (wordsV s)
  have hf : ∀ w ∈ (partsV (wordsV s)).1, 0 < w.size := fun w hw => wordsV_full s w (partsV_mem _ w hw)
  have hz : ∀ w ∈ (partsV (wordsV s)).1, w.size ≤ 1000 := fun w hw => wordsV_size hs w (partsV_mem _ w hw)
  have ho : (partsV (wordsV s)).2.size ≤ 1000 := by
    rcases partsV_into (wordsV s) with h | h
    · rw [h]; exact Nat.zero_le _
    · exact wordsV_size hs _ h
  have hof : (partsV (wordsV s)).2 = (⟨#[]⟩ : ByteArray) ∨ 0 < (partsV (wordsV s)).2.size := (partsV_into (wordsV s)).imp_right (wordsV_full s _)
  obtain ⟨R, hR, hE⟩ := impl_command_j3 _ _ (Nat.le_trans hp hl) hf hz ho hof
  exact ⟨R, hR, impl_command_l0 s hs (wordsV s) R hl hE (s.size + 1) 0 0 [] (by omega) (by omega) (by simp) (List.nil_append _)⟩
theorem impl_Plain_l0 (l : List ByteArray) (hl : l.length ≤ 2000) (hz : ∀ w ∈ l, w.size ≤ 1000) : ∀ (d i : Nat), i + d = l.length → Ev (fun k => impl_Plain.l0 k l (l.length : Int) (i : Int)) ((l.drop i).all (fun x => decide (x.size ≤ 80) && lineV x)) := by
  intro d
  induction d with
  | zero =>
    intro i h
    rw [List.drop_eq_nil_of_le (by omega)]
    exact Ev.step (fun _ => impl_Plain.l0.eq_2 ..) (ev_neg (by omega) (ev_ret rfl))
  | succ d ih =>
    intro i h
    have hi : i < l.length := by omega
    refine Ev.step (fun _ => impl_Plain.l0.eq_2 ..) (ev_pos (by omega) (ev_pos (by omega) (ev_pos (by omega) ?_)))
    rw [w64_succ hi (by omega), rdOf_nat _ hi, List.drop_eq_getElem_cons hi, List.all_cons]
    obtain ⟨R, hR, hE⟩ := impl_command_ev (hz _ (List.getElem_mem hi))
    refine Ev.bind hE ?_
    rw [hR]
    cases lineV l[i] with
    | true =>
      refine ev_pos rfl ?_
      by_cases h80 : l[i].size ≤ 80
      · rw [decide_eq_true h80, Bool.true_and, Bool.true_and]; exact ev_neg (by omega) (ih (i + 1) (by omega))
      · rw [decide_eq_false h80, Bool.false_and, Bool.false_and]; exact ev_pos (by omega) (ev_ret rfl)
    | false => rw [Bool.and_false, Bool.false_and]; exact ev_neg (by decide) (ev_ret rfl)
theorem FnExactPlain : laws_FnExactPlain.Pure := by
  intro a0 ha
  refine Ev.rounds ?_
  unfold laws_FnExactPlain.f
  by_cases h1 : (a0.size : Int) > 1048576
  · exact ev_pos h1 (ev_ret rfl)
  refine ev_neg h1 ?_
  unfold spec_Plain.f impl_Plain.f
  by_cases h4 : (a0.size : Int) > 400
  · exact Ev.bind (ev_pos h4 (ev_ret rfl)) (Ev.bind (ev_pos h4 (ev_ret rfl)) (ev_neg (by decide) (ev_ret rfl)))
  have hs : a0.size ≤ 1000 := by omega
  have hl := splitV_len a0 10 (a0.size + 1) 0 0
  have hz : ∀ w ∈ splitV a0 10 (a0.size + 1) 0 0, w.size ≤ 1000 := fun w hw => Nat.le_trans (splitV_size a0 10 (a0.size + 1) 0 0 (by omega) w hw) hs
  have s1 := spec_Plain_l0 _ (by omega) hz _ 0 (Nat.zero_add _)
  have i1 := impl_Plain_l0 _ (by omega) hz _ 0 (Nat.zero_add _)
  rw [List.drop_zero] at s1 i1
  exact Ev.bind (ev_neg h4 (Ev.bind (spec_l20Split_ev 10 hs) s1)) (Ev.bind (ev_neg h4 (Ev.bind (impl_lines_ev hs) i1)) (ev_neg (by rw [bne_self_eq_false]; decide) (ev_ret rfl)))
end Go.Proofs.Ytmbcihfdfohfcaa.Pure
