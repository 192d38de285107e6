/- How arguments that are structs, or slices of them, are read as plain data. -/
import Derived.Test.YtdlgalaemnjfjaaVMore
import Derived.ChangeArms
import Derived.ChangeSlices
import Derived.DataReads
import Derived.DataElems
set_option linter.unusedVariables false
set_option linter.unusedSimpArgs false
namespace Go.Proofs.Ytdlgalaemnjfjaa.Opens
open Go.RowKit Go.Proofs.YtdlgalaemnjfjaaW.PrintWords Go.Proofs.YtdlgalaemnjfjaaW.PrintLast Go.Proofs.YtdlgalaemnjfjaaW.PrintMore
section
variable {H : Type} {enc : TypeId × Value → H} {P : Program} {w : World} {base : Nat} {spare : Nat → Bool} {held : Bool} {fuel : Nat} {t : TypeId} {cs : List Value} {x : DataW H × List MemPlace}
/-- A whole number that came in. -/
theorem open_k_int {k : IntKind} (ht : P.underlying t = some (.int k)) (h : DataW.trod enc P w base spare held fuel t cs = some x) : ∃ v, (Kd.int k).K w v cs ∧ (Lit.int k v).wf = true := by
  obtain ⟨n, rfl, _, hw⟩ := DataW.trod_int ht h
  exact ⟨n, rfl, hw⟩
theorem open_k_bool (ht : P.underlying t = some .bool) (h : DataW.trod enc P w base spare held fuel t cs = some x) : ∃ v, Kd.bool.K w v cs ∧ True := by
  obtain ⟨b, rfl, _⟩ := DataW.trod_bool ht h
  exact ⟨b, rfl, trivial⟩
theorem open_k_string (ht : P.underlying t = some .string) (h : DataW.trod enc P w base spare held fuel t cs = some x) : ∃ v, Kd.string.K w v cs ∧ v.size ≤ maxLen := by
  obtain ⟨s, rfl, _, hs⟩ := DataW.trod_string ht h
  exact ⟨s, rfl, hs⟩
/-- A slice that came in, its elements being of a kind that can be told. -/
theorem open_k_slice {e : TypeId} {α : Type} {d : Kd α} {wf : α → Prop} (ht : P.underlying t = some (.slice e)) (hc : P.cellsOf e = d.sz)
    (he : ∀ (n : Nat) (cs : List Value) (x : DataW H × List MemPlace), DataW.trod enc P w base spare held n e cs = some x → ∃ v, d.K w v cs ∧ wf v)
    (h : DataW.trod enc P w base spare held fuel t cs = some x) (q : Nat) : ∃ v : List α, (Kd.slice q d).K w v cs ∧ (v.length ≤ maxLen ∧ ∀ y ∈ v, wf y) := by
  rcases DataW.trod_slice ht h with ⟨rfl, _⟩ | ⟨a, len, cap, elems, rest, n, _, rfl, _, _, hl, hm, hn, hel, _⟩
  · exact ⟨[], ⟨none, 0, rfl, Nat.le_refl _, rfl, Nat.zero_le _, fun h => absurd h (Nat.lt_irrefl 0)⟩, Nat.zero_le _, by simp⟩
  · have key : ∀ m, m ≤ len → ∃ v : List α, v.length = m ∧ (∀ y ∈ v, wf y) ∧ ∀ j p, v[j]? = some p → ∃ c, c.length = d.sz ∧ d.K w p c ∧ ∀ i u, c[i]? = some u → w.cell? (a.add (j * d.sz + i)) = some u := by
      intro m
      induction m with
      | zero => exact fun _ => ⟨[], rfl, by simp, by simp⟩
      | succ m ih =>
        intro hm'
        obtain ⟨v, hv, hw, hr⟩ := ih (by omega)
        have h1 := hel m (by omega)
        rw [List.getElem?_eq_getElem (by omega)] at h1
        obtain ⟨c, hcell, htr⟩ := Option.bind_eq_some_iff.1 h1
        obtain ⟨y, hy, hyw⟩ := he _ _ _ htr
        refine ⟨v ++ [y], by rw [List.length_append, hv]; rfl, ?_, ?_⟩
        · intro z hz
          rcases List.mem_append.1 hz with hz | hz
          · exact hw z hz
          · rw [List.mem_singleton.1 hz]; exact hyw
        · intro j p hj
          rcases Nat.lt_or_ge j v.length with hlt | hge
          · rw [List.getElem?_append_left hlt] at hj
            exact hr j p hj
          · have hj' : j = m := by
              have := (List.getElem?_eq_some_iff.1 hj).1
              rw [List.length_append, List.length_singleton] at this
              omega
            subst hj'
            rw [List.getElem?_append_right hge, hv, Nat.sub_self] at hj
            obtain rfl : y = p := by simpa using hj
            refine ⟨c, d.K_len hy, hy, fun i u hu => ?_⟩
            have hi : i < P.cellsOf e := by have h1 := (List.getElem?_eq_some_iff.1 hu).1; have h2 := (World.cells?_some hcell).2.1; omega
            have this := ((World.cells?_some hcell).2.2 i hi).trans hu
            rw [hc] at this
            rwa [Addr.add_add] at this
    obtain ⟨v, hv, hw, hr⟩ := key len (Nat.le_refl _)
    refine ⟨v, ⟨some a, cap, by rw [hv], by omega, by rw [hv], ?_, fun _ => ⟨a, rfl, hr⟩⟩, by omega, hw⟩
    have := hm
    unfold maxLen at this
    omega
theorem ok_struct_cells {r : Reach} {v : Value} {fs : Array Field} (ht : P.underlying t = some (.struct fs)) (h : Value.okWide P w r base t v) : ∃ cs, v = .agg cs := by
  simp only [Value.okWide, ht] at h
  obtain ⟨cs, rfl, _⟩ := h
  exact ⟨cs, rfl⟩
theorem array_of_list {b : Array Value} {l : List Value} (h : (Value.agg b).cells.toList = l) : b = l.toArray := by
  subst h; simp [Value.cells]
theorem slice_of_list {a A : Option Addr} {n m c k : Nat} (h : (Value.slice a n c).cells.toList = [Value.slice A m k]) : A = a ∧ n = m ∧ k = c := by
  simp [Value.cells] at h
  exact ⟨h.1.symm, h.2.1, h.2.2.symm⟩
/-- The fields of a struct, one after the other. -/
theorem pair_K {α β : Type} {a : Kd α} {b : Kd β} {y : α} {z : β} {o s o' : Nat} (ho : o' = o + s) (h0 : a.K w y ((cs.drop o).take s)) (h1 : b.K w z (cs.drop o')) : (Kd.pair a b).K w (y, z) (cs.drop o) := by
  refine ⟨(cs.drop o).take s, cs.drop o', ?_, h0, h1⟩
  rw [ho, ← List.drop_drop, List.take_append_drop]
theorem last_K {α : Type} {a : Kd α} {y : α} {o s : Nat} (hl : cs.length = o + s) (h0 : a.K w y ((cs.drop o).take s)) : a.K w y (cs.drop o) := by
  rwa [List.take_of_length_le (by rw [List.length_drop]; omega)] at h0
end
end Go.Proofs.Ytdlgalaemnjfjaa.Opens
