-- Written by a program of this session out of the translation. Not trusted: Lean checks it.
import Derived.Test.YtmjdmaomakkhgaaPFnExactHeapTakex0
import Derived.Test.YtmjdmaomakkhgaaPFnExactHeapTakex5
import Derived.Shelf.RegionOpenPlain
import Derived.Deep.RegionLaw
import Derived.Lib.SliceRun
import Derived.Lib.Walk
import Derived.Laws.IdiomCopy
import Derived.Lib.Overlaps
import Derived.Lib.JoinLaws
import Derived.Lib.AppendZeros
import Derived.Laws.Externs
import Derived.Shelf.Spec.SlicesInsert
import Derived.Lib.AppendZerosOnto
namespace Go.Proofs.Ytmjdmaomakkhgaa.PFnExactHeapTake
open Go.RowKit Go.Proofs.YtmjdmaomakkhgaaW.PrintWords Go.Proofs.YtmjdmaomakkhgaaW.PrintLast Go.Proofs.YtmjdmaomakkhgaaW.PrintMore
attribute [local go_sem] max2_int min2_int max_two min_two max_three min_three max_four min_four   -- for this text's walks alone
set_option linter.unusedVariables false
set_option linter.unusedSimpArgs false

/-! ### impl_HeapTake: function 28 -/
/-- A state of type 29 at block g of W; it and what its slices lead to came in by w0. -/
def IsB29 (w0 W : World) (g : Nat) (f0 : Int) (f1 : List (S85)) : Prop := ∃ A1 c1, W.heap[g]? = some (.cells #[.int .i64 f0, .slice A1 f1.length c1] 29 (0, 0)) ∧ g < w0.heap.size ∧ Kd.C k85 w0 A1 f1.length f1
theorem IsB29.grown {w0 W : World} {g : Nat} {f0 : Int} {f1 : List (S85)} {W1 : World} {row : Option Nat} (h : IsB29 w0 W g f0 f1) (hw : W.grownBy W1 row) (hne : some g ≠ row) : IsB29 w0 W1 g f0 f1 := by
  obtain ⟨A1, c1, hb, hg, hr1⟩ := h
  exact ⟨A1, c1, blk_grown hb hw hne, hg, hr1⟩
theorem IsB29.own_neN {w0 W : World} {g : Nat} {f0 : Int} {f1 : List (S85)} {α : Type} {d : Kd α} {e : Nat} {base : Nat} {ok : Nat → Prop} {v : Value} {xs : List α} (h : IsB29 w0 W g f0 f1) (ho : Kd.N d e W base ok v xs) (ht : e ≠ 29) : some g ≠ v.ownBlock := by
  obtain ⟨A1, c1, hb, hg, hr1⟩ := h
  exact Kd.N_ne ho hb ht
theorem IsB29.fresh {w0 W : World} {g : Nat} {f0 : Int} {f1 : List (S85)} (h : IsB29 w0 W g f0 f1) : ∀ k, W.heap.size ≤ k → k ≠ g := by
  obtain ⟨A1, c1, hb, hg, hr1⟩ := h
  exact Kd.freshB hb
theorem IsB29.kept {w0 W : World} {g : Nat} {f0 : Int} {f1 : List (S85)} {W1 : World} {S : Nat → Prop} (h : IsB29 w0 W g f0 f1) (hk : Kept W W1 S) (hne : ¬ S g) : IsB29 w0 W1 g f0 f1 := by
  obtain ⟨A1, c1, hb, hg, hr1⟩ := h
  exact ⟨A1, c1, blk_kept hb hk hne, hg, hr1⟩
theorem IsB29.below {w0 W : World} {g : Nat} {f0 : Int} {f1 : List (S85)} {W1 : World} (h : IsB29 w0 W g f0 f1) (hw : Below W.heap.size W W1) : IsB29 w0 W1 g f0 f1 := h.grown (grown_of_below hw none) (by simp)
theorem IsB29.alloc {w0 W : World} {g : Nat} {f0 : Int} {f1 : List (S85)} (h : IsB29 w0 W g f0 f1) (o : Obj) : IsB29 w0 (W.alloc o) g f0 f1 := h.below (below_alloc (Below.refl _ _) o)
theorem IsB29.drewN {w0 W : World} {g : Nat} {f0 : Int} {f1 : List (S85)} (h : IsB29 w0 W g f0 f1) (m : Nat) : IsB29 w0 (W.drewN m) g f0 f1 := h
theorem IsB29.drew {w0 W : World} {g : Nat} {f0 : Int} {f1 : List (S85)} (h : IsB29 w0 W g f0 f1) : IsB29 w0 W.drew g f0 f1 := h
theorem IsB29.at_ {w0 W : World} {g : Nat} {f0 : Int} {f1 : List (S85)} {w' : World} {m : Nat} (hq : W.drewN m = w') (h : IsB29 w0 W g f0 f1) : IsB29 w0 w' g f0 f1 := by subst hq; exact IsB29.drewN h m
theorem IsB29.apart {w0 W : World} {g : Nat} {f0 : Int} {f1 : List (S85)} {α : Type} {d : Kd α} {e : Nat} {base : Nat} {ok : Nat → Prop} {v : Value} {xs : List α} (h : IsB29 w0 W g f0 f1) (ho : d.R e W base ok v xs) (ht : ∀ q, q ∈ e :: d.E → q ≠ 29) : d.R e W base (fun k => ok k ∧ k ≠ g) v xs := by
  obtain ⟨A1, c1, hb, hg, hr1⟩ := h
  exact Kd.R_types ho hb ht
theorem IsB29.own_ne {w0 W : World} {g : Nat} {f0 : Int} {f1 : List (S85)} {α : Type} {d : Kd α} {e : Nat} {base : Nat} {ok : Nat → Prop} {v : Value} {xs : List α} (h : IsB29 w0 W g f0 f1) (ho : d.R e W base ok v xs) (ht : e ≠ 29) : some g ≠ v.ownBlock := by
  obtain ⟨A1, c1, hb, hg, hr1⟩ := h
  exact Kd.R_ne ho hb ht
theorem IsB29.apartQ {w0 W : World} {g : Nat} {f0 : Int} {f1 : List (S85)} {α : Type} {d : Kd α} {e : Nat} {base : Nat} {ok : Nat → Prop} {v : Value} {xs : List α} (h : IsB29 w0 W g f0 f1) (ho : d.Q e W base ok v xs) (ht : ∀ q, q ∈ e :: d.E → q ≠ 29) : d.Q e W base (fun k => ok k ∧ k ≠ g) v xs := by
  obtain ⟨A1, c1, hb, hg, hr1⟩ := h
  exact Kd.Q_types ho hb ht
theorem IsB29.own_neQ {w0 W : World} {g : Nat} {f0 : Int} {f1 : List (S85)} {α : Type} {d : Kd α} {e : Nat} {base : Nat} {ok : Nat → Prop} {v : Value} {xs : List α} (h : IsB29 w0 W g f0 f1) (ho : d.Q e W base ok v xs) (ht : e ≠ 29) : some g ≠ v.ownBlock := by
  obtain ⟨A1, c1, hb, hg, hr1⟩ := h
  exact Kd.Q_ne ho hb ht
theorem IsB29.apartS {w0 W : World} {g : Nat} {f0 : Int} {f1 : List (S85)} {α : Type} {d : Kd α} {e : Nat} {base : Nat} {ok : Nat → Prop} {v : Value} {xs : List α} (h : IsB29 w0 W g f0 f1) (ho : d.S e W base ok v xs) (ht : ∀ q, q ∈ e :: d.E → q ≠ 29) : d.S e W base (fun k => ok k ∧ k ≠ g) v xs := by
  obtain ⟨A1, c1, hb, hg, hr1⟩ := h
  exact Kd.S_types ho hb ht
theorem IsB29.own_neS {w0 W : World} {g : Nat} {f0 : Int} {f1 : List (S85)} {α : Type} {d : Kd α} {e : Nat} {base : Nat} {ok : Nat → Prop} {v : Value} {xs : List α} (h : IsB29 w0 W g f0 f1) (ho : d.S e W base ok v xs) (ht : e ≠ 29) : some g ≠ v.ownBlock := by
  obtain ⟨A1, c1, hb, hg, hr1⟩ := h
  exact Kd.S_ne ho hb ht
theorem IsB29.lt {w0 W : World} {g : Nat} {f0 : Int} {f1 : List (S85)} (h : IsB29 w0 W g f0 f1) : g < W.heap.size := by
  obtain ⟨A1, c1, hb, hg, hr1⟩ := h
  exact blk_lt hb
theorem IsB29.ne_blk {w0 W : World} {g : Nat} {f0 : Int} {f1 : List (S85)} {a : Nat} {cs : Array Value} {t : TypeId} {fr : Nat × Nat} (h : IsB29 w0 W g f0 f1) (hb2 : W.heap[a]? = some (.cells cs t fr)) (ht : t ≠ 29) : g ≠ a := by
  obtain ⟨A1, c1, hb, hg, hr1⟩ := h
  rintro rfl
  rw [hb] at hb2
  injection hb2 with hb2
  injection hb2 with _ ht2
  exact ht ht2.symm
theorem IsB29.far {w0 W : World} {g : Nat} {f0 : Int} {f1 : List (S85)} {p : Addr} (h : IsB29 w0 W g f0 f1) (hne : g ≠ p.block) (u : Value) : IsB29 w0 (W.setCell p u) g f0 f1 := by
  obtain ⟨A1, c1, hb, hg, hr1⟩ := h
  exact ⟨A1, c1, blk_far hb hne u, hg, hr1⟩
theorem cellB29_0 {W : World} {g : Nat} {A1 : Option Addr} {c1 : Nat} {f0 : Int} {f1 : List (S85)} (h : W.heap[g]? = some (.cells #[.int .i64 f0, .slice A1 f1.length c1] 29 (0, 0))) : W.cell? ⟨g, 0, none⟩ = some (.int .i64 f0) := (blk_cell h 0).trans rfl
theorem IsB29.set_0 {w0 W : World} {g : Nat} {f0 : Int} {f1 : List (S85)} (h : IsB29 w0 W g f0 f1) (x : Int) : IsB29 w0 (W.setCell ⟨g, 0, none⟩ (.int .i64 x)) g x f1 := by
  obtain ⟨A1, c1, hb, hg, hr1⟩ := h
  exact ⟨A1, c1, by simpa using blk_set hb 0 (.int .i64 x), hg, hr1⟩
theorem cellB29_1 {W : World} {g : Nat} {A1 : Option Addr} {c1 : Nat} {f0 : Int} {f1 : List (S85)} (h : W.heap[g]? = some (.cells #[.int .i64 f0, .slice A1 f1.length c1] 29 (0, 0))) : W.cell? ⟨g, 1, none⟩ = some (.slice A1 f1.length c1) := (blk_cell h 1).trans rfl/-! ### impl_Heap_room: function 68 -/
def impl_Heap_room.l0 : Nat → Int → Int → List (S85) → Int → Int → Int → List (S85) → Option (Int × Int × Int)
  | 0, _, _, _, _, _, _, _ => none
  | k + 1, x1, x6, x12, x13, x14, x1000, x1001 => if x14 < x13 then (if 0 ≤ x14 then (if x14 < (x12.length : Int) then (if (wrap64 (((rd_T85 x12 x14).f0) - x6)) ≥ x1 then (some (x6, x14, x1000)) else (impl_Heap_room.l0 k x1 (wrap64 (((rd_T85 x12 x14).f0) + ((rd_T85 x12 x14).f1))) x12 x13 (wrap64 (x14 + 1)) x1000 x1001)) else (none)) else (none)) else (if (wrap64 (x1000 - x6)) ≥ x1 then (some (x6, (x1001.length : Int), x1000)) else (some ((-1), 0, x1000)))
def impl_Heap_room.f (k : Nat) (s0_0 : Int) (s0_1 : List (S85)) (a1 : Int) : Option (Int × Int × Int) := impl_Heap_room.l0 k a1 0 s0_1 (s0_1.length : Int) 0 s0_0 s0_1
theorem impl_Heap_room.mono_l : ∀ k, (∀ y0 y1 y2 y3 y4 y5 y6, LeO (impl_Heap_room.l0 k y0 y1 y2 y3 y4 y5 y6) (impl_Heap_room.l0 (k + 1) y0 y1 y2 y3 y4 y5 y6))
  | 0 => fun _ _ _ _ _ _ _ r h => by simp [impl_Heap_room.l0] at h
  | k + 1 => by
    have ih0 := impl_Heap_room.mono_l k
    · intro y0 y1 y2 y3 y4 y5 y6
      unfold impl_Heap_room.l0
      repeat' first
      | (with_reducible exact ih0 _ _ _ _ _ _ _)
      | (with_reducible exact LeO.refl _)
      | (with_reducible exact LeO.none _)
      | (with_reducible refine LeO.ite ?_ ?_)
      | (with_reducible refine LeO.bind ?_ (fun _ => ?_))
      | exact ih0 _ _ _ _ _ _ _
      | exact LeO.none _
      | refine LeO.ite ?_ ?_
      | refine LeO.bind ?_ (fun _ => ?_)
theorem impl_Heap_room.mono : ∀ a0 a1 a2 k, LeO (impl_Heap_room.f k a0 a1 a2) (impl_Heap_room.f (k + 1) a0 a1 a2) := by
  intro a0 a1 a2 k
  have ih0 := impl_Heap_room.mono_l k
  unfold impl_Heap_room.f
  repeat' first
      | (with_reducible exact ih0 _ _ _ _ _ _ _)
      | (with_reducible exact LeO.refl _)
      | (with_reducible exact LeO.none _)
      | (with_reducible refine LeO.ite ?_ ?_)
      | (with_reducible refine LeO.bind ?_ (fun _ => ?_))
      | exact ih0 _ _ _ _ _ _ _
      | exact LeO.none _
      | refine LeO.ite ?_ ?_
      | refine LeO.bind ?_ (fun _ => ?_)
set_option maxHeartbeats 8000000 in
set_option maxRecDepth 100000 in
theorem impl_Heap_room.calls (k : Nat) (g : Nat) (s0_0 : Int) (s0_1 : List (S85)) (a1 : Int) (r1 : Int) (r2 : Int) (r3 : Int) (w0 w : World) (hI : IsB29 w0 w g s0_0 s0_1) (hB : Below w0.heap.size w0 w) (h : impl_Heap_room.f k s0_0 s0_1 a1 = some (r1, r2, r3)) :
    Calls Try.prog 68 #[.pointer (some ⟨g, 0, none⟩), .int .i64 a1] w fun e w' => e = .returned (.tuple #[.int .i64 r1, .int .i64 r2]) ∧ IsB29 w0 w' g r3 s0_1 ∧ Below w0.heap.size w0 w' ∧ KeepBut w w' g none := by
  have hu85 := Try.underlying85
  have HI0 := Aside0.mk hI
  have HK := Aside0.mk (KeepBut.refl w g none)
  have HL := Aside0.mk hB.size
  clear hI
  have HW0 := Aside0.mk hB.size
  have HB := Aside0.mk hB
  clear hB
  have H : (impl_Heap_room.l0 k a1 0 s0_1 (s0_1.length : Int) 0 s0_0 s0_1) = some (r1, r2, r3) := h
  clear h
  have H' := Aside0.mk H
  clear H
  obtain ⟨ASz3_1, cSz3_1, HGz3, hgz3, HSz3_1⟩ := HI0.out
  have hcz3_0 := cellB29_0 HGz3
  have hcz3_1 := cellB29_1 HGz3
  have hfz3_0 := blk_frozen HGz3 0
  clear HGz3 hgz3
  go_enter Try.func68, Try.ntmps68
  go_wp2
  repeat (go_quiet (fail); try go_wp2)
  go_loopg [6, 14] k (fun kq v6 v14 w' => ∃ (x6_1 : Int) (x14_1 : Int), v6 = .int .i64 x6_1 ∧ v14 = .int .i64 x14_1 ∧ Aside0 (impl_Heap_room.l0 kq a1 x6_1 s0_1 (s0_1.length : Int) x14_1 s0_0 s0_1 = some (r1, r2, r3)) ∧ Aside0 (kq ≤ k) ∧ Aside0 (IsB29 w0 w' g s0_0 s0_1) ∧ Aside0 (KeepBut w w' g none) ∧ Aside0 (Below w0.heap.size w0 w'))
  case atStart => exact ⟨(0), (0), (by first | rfl | exact congrArg (Value.int .i64) (i64_w _) | (simp; done) | (simp [*]; done)), (by first | rfl | exact congrArg (Value.int .i64) (i64_w _) | (simp; done) | (simp [*]; done)), H', ⟨Nat.le_refl _⟩, ⟨by repeat (first | (with_reducible first | exact HI0.out | apply IsB29.alloc | apply IsB29.drewN | apply IsB29.drew | apply IsB29.set_0) | exact HI0.out)⟩, ⟨by repeat (first | (with_reducible first | exact HK.out | apply KeepBut.set_ | apply keep_drewN | apply keep_drew | apply keep_alloc) | exact HK.out)⟩, ⟨by repeat (first | (with_reducible first | exact HB.out | apply below_alloc | apply pw_below_drewN | apply below_drew1) | exact HB.out)⟩⟩
  case round =>
    clear H'
    try clear p2
    try clear hcz3_0
    try clear hcz3_1
    try clear hfz3_0
    obtain ⟨x6_1, x14_1, rfl, rfl, HA, HK1, HI0, HK, HB⟩ := hrel
    cases gk with
    | zero => exact absurd HA.out (by simp [impl_Heap_room.l0])
    | succ k1 =>
      have H := HA.out
      clear HA
      simp only [impl_Heap_room.l0] at H
      by_cases c4 : x14_1 < (s0_1.length : Int)
      · rw [if_pos c4] at H
        have c4b0 : decide (x14_1 < (s0_1.length : Int)) = true := decide_eq_true c4
        clear c4
        by_cases c5 : 0 ≤ x14_1
        · rw [if_pos c5] at H
          have c5b0 : decide (0 ≤ x14_1) = true := decide_eq_true c5
          clear c5
          by_cases c6 : x14_1 < (s0_1.length : Int)
          · rw [if_pos c6] at H
            have c6b0 : decide (x14_1 < (s0_1.length : Int)) = true := decide_eq_true c6
            clear c6
            by_cases c7 : (wrap64 (((rd_T85 s0_1 x14_1).f0) - x6_1)) ≥ a1
            · rw [if_pos c7] at H
              have c7b0 : decide (a1 ≤ (wrap64 (((rd_T85 s0_1 x14_1).f0) - x6_1))) = true := decide_eq_true c7
              clear c7
              simp only [Option.some.injEq, Prod.mk.injEq] at H
              obtain ⟨rfl, rfl, rfl⟩ := H
              obtain ⟨ASz8_1, cSz8_1, HGz8, hgz8, HSz8_1⟩ := HI0.out
              have hcz8_0 := cellB29_0 HGz8
              have hcz8_1 := cellB29_1 HGz8
              have hfz8_0 := blk_frozen HGz8 0
              clear HGz8 hgz8
              have p198 : 0 ≤ (x14_1 : Int) := of_decide_eq_true (by first | (with_reducible assumption) | assumption)
              have q198 : x14_1 < (s0_1.length : Int) := of_decide_eq_true (by first | (with_reducible assumption) | assumption)
              obtain ⟨ad198, e198, hx198_0, hx198_1⟩ := at_T85 HSz3_1 x14_1 p198 q198
              cases e198
              replace hx198_0 := pw_cell_below HB.out hx198_0
              replace hx198_1 := pw_cell_below HB.out hx198_1
              replace p198 := eq_true p198
              replace q198 := eq_true q198
              go_wp2_with (first | ((with_reducible refine gate_dst (N := 8) rfl ?_); refine box_event ?hg (N := 8) ?hd (cs := #[.int .i64 0, .int .i64 0]) (t := 85) ?hr ?_; (case hd => rfl); (case hg => rfl); (case hr => first | (go_simp; done) | (go_simp; rfl)); intro gb199 hg w9 hbox hb; have n0_ := Aside0.mk (IsB29.below (by repeat (first | (with_reducible first | exact HI0.out | apply IsB29.alloc | apply IsB29.drewN | apply IsB29.drew | apply IsB29.set_0) | exact HI0.out)) hb); have n1_ := Aside0.mk (KeepBut.trans (by repeat (first | (with_reducible first | exact HK.out | apply KeepBut.set_ | apply keep_drewN | apply keep_drew | apply keep_alloc) | exact HK.out)) (KeepBut.of_below hb g none) (.inl rfl)); have n2_ := Aside0.mk (below_step (by repeat (first | (with_reducible first | exact HB.out | apply below_alloc | apply pw_below_drewN | apply below_drew1) | exact HB.out)) hb); have n3_ := Aside0.mk (hbox); have n4_ := Aside0.mk ((by rw [hg]; exact (keep_size (w := w) (g := g) (row := none) (by repeat (first | (with_reducible first | exact HK.out | apply KeepBut.set_ | apply keep_drewN | apply keep_drew | apply keep_alloc) | exact HK.out))) : w.heap.size ≤ gb199)); have n5_ := Aside0.mk ((Nat.le_trans HW0.out (by rw [hg]; exact (keep_size (w := w) (g := g) (row := none) (by repeat (first | (with_reducible first | exact HK.out | apply KeepBut.set_ | apply keep_drewN | apply keep_drew | apply keep_alloc) | exact HK.out))) : w.heap.size ≤ gb199) : w0.heap.size ≤ gb199)); have n6_ := Aside0.mk ((by rw [hg]; exact Nat.ne_of_lt (IsB29.lt (show IsB29 w0 _ g s0_0 s0_1 from by repeat (first | (with_reducible first | exact HI0.out | apply IsB29.alloc | apply IsB29.drewN | apply IsB29.drew | apply IsB29.set_0) | exact HI0.out))) : g ≠ gb199)); have n7_ := Aside0.mk ((by rw [hg]; exact Nat.ne_of_gt (IsB29.lt (show IsB29 w0 _ g s0_0 s0_1 from by repeat (first | (with_reducible first | exact HI0.out | apply IsB29.alloc | apply IsB29.drewN | apply IsB29.drew | apply IsB29.set_0) | exact HI0.out))) : gb199 ≠ g)); clear HI0; clear HK; clear HB; have HI0 := n0_; have HK := n1_; have HB := n2_; have BK199 := n3_; have GW199 := n4_; have GE199 := n5_; have NB0_199 := n6_; have NB199_0 := n7_; clear n0_ n1_ n2_ n3_ n4_ n5_ n6_ n7_; clear hb hbox hg; have hnb10 := NB199_0.out; have hnc10 := NB0_199.out; have hcz11_0 : w9.cell? ⟨gb199, 0, none⟩ = some (.int .i64 0) := (blk_cell BK199.out 0).trans rfl; have hcz11_1 : w9.cell? ⟨gb199, 1, none⟩ = some (.int .i64 0) := (blk_cell BK199.out 1).trans rfl; have hfz11_0 := blk_frozen BK199.out 0; have hfz11_1 := blk_frozen BK199.out 1))
              repeat (go_quiet (first | ((with_reducible refine gate_dst (N := 8) rfl ?_); refine box_event ?hg (N := 8) ?hd (cs := #[.int .i64 0, .int .i64 0]) (t := 85) ?hr ?_; (case hd => rfl); (case hg => rfl); (case hr => first | (go_simp; done) | (go_simp; rfl)); intro gb199 hg w9 hbox hb; have n0_ := Aside0.mk (IsB29.below (by repeat (first | (with_reducible first | exact HI0.out | apply IsB29.alloc | apply IsB29.drewN | apply IsB29.drew | apply IsB29.set_0) | exact HI0.out)) hb); have n1_ := Aside0.mk (KeepBut.trans (by repeat (first | (with_reducible first | exact HK.out | apply KeepBut.set_ | apply keep_drewN | apply keep_drew | apply keep_alloc) | exact HK.out)) (KeepBut.of_below hb g none) (.inl rfl)); have n2_ := Aside0.mk (below_step (by repeat (first | (with_reducible first | exact HB.out | apply below_alloc | apply pw_below_drewN | apply below_drew1) | exact HB.out)) hb); have n3_ := Aside0.mk (hbox); have n4_ := Aside0.mk ((by rw [hg]; exact (keep_size (w := w) (g := g) (row := none) (by repeat (first | (with_reducible first | exact HK.out | apply KeepBut.set_ | apply keep_drewN | apply keep_drew | apply keep_alloc) | exact HK.out))) : w.heap.size ≤ gb199)); have n5_ := Aside0.mk ((Nat.le_trans HW0.out (by rw [hg]; exact (keep_size (w := w) (g := g) (row := none) (by repeat (first | (with_reducible first | exact HK.out | apply KeepBut.set_ | apply keep_drewN | apply keep_drew | apply keep_alloc) | exact HK.out))) : w.heap.size ≤ gb199) : w0.heap.size ≤ gb199)); have n6_ := Aside0.mk ((by rw [hg]; exact Nat.ne_of_lt (IsB29.lt (show IsB29 w0 _ g s0_0 s0_1 from by repeat (first | (with_reducible first | exact HI0.out | apply IsB29.alloc | apply IsB29.drewN | apply IsB29.drew | apply IsB29.set_0) | exact HI0.out))) : g ≠ gb199)); have n7_ := Aside0.mk ((by rw [hg]; exact Nat.ne_of_gt (IsB29.lt (show IsB29 w0 _ g s0_0 s0_1 from by repeat (first | (with_reducible first | exact HI0.out | apply IsB29.alloc | apply IsB29.drewN | apply IsB29.drew | apply IsB29.set_0) | exact HI0.out))) : gb199 ≠ g)); clear HI0; clear HK; clear HB; have HI0 := n0_; have HK := n1_; have HB := n2_; have BK199 := n3_; have GW199 := n4_; have GE199 := n5_; have NB0_199 := n6_; have NB199_0 := n7_; clear n0_ n1_ n2_ n3_ n4_ n5_ n6_ n7_; clear hb hbox hg; have hnb10 := NB199_0.out; have hnc10 := NB0_199.out; have hcz11_0 : w9.cell? ⟨gb199, 0, none⟩ = some (.int .i64 0) := (blk_cell BK199.out 0).trans rfl; have hcz11_1 : w9.cell? ⟨gb199, 1, none⟩ = some (.int .i64 0) := (blk_cell BK199.out 1).trans rfl; have hfz11_0 := blk_frozen BK199.out 0; have hfz11_1 := blk_frozen BK199.out 1)); try go_wp2_with (first | ((with_reducible refine gate_dst (N := 8) rfl ?_); refine box_event ?hg (N := 8) ?hd (cs := #[.int .i64 0, .int .i64 0]) (t := 85) ?hr ?_; (case hd => rfl); (case hg => rfl); (case hr => first | (go_simp; done) | (go_simp; rfl)); intro gb199 hg w9 hbox hb; have n0_ := Aside0.mk (IsB29.below (by repeat (first | (with_reducible first | exact HI0.out | apply IsB29.alloc | apply IsB29.drewN | apply IsB29.drew | apply IsB29.set_0) | exact HI0.out)) hb); have n1_ := Aside0.mk (KeepBut.trans (by repeat (first | (with_reducible first | exact HK.out | apply KeepBut.set_ | apply keep_drewN | apply keep_drew | apply keep_alloc) | exact HK.out)) (KeepBut.of_below hb g none) (.inl rfl)); have n2_ := Aside0.mk (below_step (by repeat (first | (with_reducible first | exact HB.out | apply below_alloc | apply pw_below_drewN | apply below_drew1) | exact HB.out)) hb); have n3_ := Aside0.mk (hbox); have n4_ := Aside0.mk ((by rw [hg]; exact (keep_size (w := w) (g := g) (row := none) (by repeat (first | (with_reducible first | exact HK.out | apply KeepBut.set_ | apply keep_drewN | apply keep_drew | apply keep_alloc) | exact HK.out))) : w.heap.size ≤ gb199)); have n5_ := Aside0.mk ((Nat.le_trans HW0.out (by rw [hg]; exact (keep_size (w := w) (g := g) (row := none) (by repeat (first | (with_reducible first | exact HK.out | apply KeepBut.set_ | apply keep_drewN | apply keep_drew | apply keep_alloc) | exact HK.out))) : w.heap.size ≤ gb199) : w0.heap.size ≤ gb199)); have n6_ := Aside0.mk ((by rw [hg]; exact Nat.ne_of_lt (IsB29.lt (show IsB29 w0 _ g s0_0 s0_1 from by repeat (first | (with_reducible first | exact HI0.out | apply IsB29.alloc | apply IsB29.drewN | apply IsB29.drew | apply IsB29.set_0) | exact HI0.out))) : g ≠ gb199)); have n7_ := Aside0.mk ((by rw [hg]; exact Nat.ne_of_gt (IsB29.lt (show IsB29 w0 _ g s0_0 s0_1 from by repeat (first | (with_reducible first | exact HI0.out | apply IsB29.alloc | apply IsB29.drewN | apply IsB29.drew | apply IsB29.set_0) | exact HI0.out))) : gb199 ≠ g)); clear HI0; clear HK; clear HB; have HI0 := n0_; have HK := n1_; have HB := n2_; have BK199 := n3_; have GW199 := n4_; have GE199 := n5_; have NB0_199 := n6_; have NB199_0 := n7_; clear n0_ n1_ n2_ n3_ n4_ n5_ n6_ n7_; clear hb hbox hg; have hnb10 := NB199_0.out; have hnc10 := NB0_199.out; have hcz11_0 : w9.cell? ⟨gb199, 0, none⟩ = some (.int .i64 0) := (blk_cell BK199.out 0).trans rfl; have hcz11_1 : w9.cell? ⟨gb199, 1, none⟩ = some (.int .i64 0) := (blk_cell BK199.out 1).trans rfl; have hfz11_0 := blk_frozen BK199.out 0; have hfz11_1 := blk_frozen BK199.out 1)))
              go_ret2
              exact ⟨by first | rfl | (simp [errW_none, errW_some] <;> rfl) | (simp [*, errW_none, errW_some] <;> rfl), by repeat (first | (with_reducible first | exact HI0.out | apply IsB29.alloc | apply IsB29.drewN | apply IsB29.drew | apply IsB29.set_0 | refine IsB29.far ?_ NB0_199.out _) | exact HI0.out), by repeat (first | (with_reducible first | exact HB.out | apply below_alloc | apply pw_below_drewN | apply below_drew1 | refine below_set ?_ GE199.out) | exact HB.out), by repeat (first | (with_reducible first | exact HK.out | apply KeepBut.set_ | apply keep_drewN | apply keep_drew | apply keep_alloc | refine keep_far ?_ GW199.out _) | exact HK.out)⟩
            · rw [if_neg c7] at H
              have c7b0 : decide (a1 ≤ (wrap64 (((rd_T85 s0_1 x14_1).f0) - x6_1))) = false := decide_eq_false c7
              clear c7
              have H' := Aside0.mk H
              clear H
              obtain ⟨ASz12_1, cSz12_1, HGz12, hgz12, HSz12_1⟩ := HI0.out
              have hcz12_0 := cellB29_0 HGz12
              have hcz12_1 := cellB29_1 HGz12
              have hfz12_0 := blk_frozen HGz12 0
              clear HGz12 hgz12
              have p198 : 0 ≤ (x14_1 : Int) := of_decide_eq_true (by first | (with_reducible assumption) | assumption)
              have q198 : x14_1 < (s0_1.length : Int) := of_decide_eq_true (by first | (with_reducible assumption) | assumption)
              obtain ⟨ad198, e198, hx198_0, hx198_1⟩ := at_T85 HSz3_1 x14_1 p198 q198
              cases e198
              replace hx198_0 := pw_cell_below HB.out hx198_0
              replace hx198_1 := pw_cell_below HB.out hx198_1
              replace p198 := eq_true p198
              replace q198 := eq_true q198
              go_wp2_with (first | ((with_reducible refine gate_dst (N := 8) rfl ?_); refine box_event ?hg (N := 8) ?hd (cs := #[.int .i64 0, .int .i64 0]) (t := 85) ?hr ?_; (case hd => rfl); (case hg => rfl); (case hr => first | (go_simp; done) | (go_simp; rfl)); intro gb199 hg w13 hbox hb; have n0_ := Aside0.mk (IsB29.below (by repeat (first | (with_reducible first | exact HI0.out | apply IsB29.alloc | apply IsB29.drewN | apply IsB29.drew | apply IsB29.set_0) | exact HI0.out)) hb); have n1_ := Aside0.mk (KeepBut.trans (by repeat (first | (with_reducible first | exact HK.out | apply KeepBut.set_ | apply keep_drewN | apply keep_drew | apply keep_alloc) | exact HK.out)) (KeepBut.of_below hb g none) (.inl rfl)); have n2_ := Aside0.mk (below_step (by repeat (first | (with_reducible first | exact HB.out | apply below_alloc | apply pw_below_drewN | apply below_drew1) | exact HB.out)) hb); have n3_ := Aside0.mk (hbox); have n4_ := Aside0.mk ((by rw [hg]; exact (keep_size (w := w) (g := g) (row := none) (by repeat (first | (with_reducible first | exact HK.out | apply KeepBut.set_ | apply keep_drewN | apply keep_drew | apply keep_alloc) | exact HK.out))) : w.heap.size ≤ gb199)); have n5_ := Aside0.mk ((Nat.le_trans HW0.out (by rw [hg]; exact (keep_size (w := w) (g := g) (row := none) (by repeat (first | (with_reducible first | exact HK.out | apply KeepBut.set_ | apply keep_drewN | apply keep_drew | apply keep_alloc) | exact HK.out))) : w.heap.size ≤ gb199) : w0.heap.size ≤ gb199)); have n6_ := Aside0.mk ((by rw [hg]; exact Nat.ne_of_lt (IsB29.lt (show IsB29 w0 _ g s0_0 s0_1 from by repeat (first | (with_reducible first | exact HI0.out | apply IsB29.alloc | apply IsB29.drewN | apply IsB29.drew | apply IsB29.set_0) | exact HI0.out))) : g ≠ gb199)); have n7_ := Aside0.mk ((by rw [hg]; exact Nat.ne_of_gt (IsB29.lt (show IsB29 w0 _ g s0_0 s0_1 from by repeat (first | (with_reducible first | exact HI0.out | apply IsB29.alloc | apply IsB29.drewN | apply IsB29.drew | apply IsB29.set_0) | exact HI0.out))) : gb199 ≠ g)); clear HI0; clear HK; clear HB; have HI0 := n0_; have HK := n1_; have HB := n2_; have BK199 := n3_; have GW199 := n4_; have GE199 := n5_; have NB0_199 := n6_; have NB199_0 := n7_; clear n0_ n1_ n2_ n3_ n4_ n5_ n6_ n7_; clear hb hbox hg; have hnb14 := NB199_0.out; have hnc14 := NB0_199.out; have hcz15_0 : w13.cell? ⟨gb199, 0, none⟩ = some (.int .i64 0) := (blk_cell BK199.out 0).trans rfl; have hcz15_1 : w13.cell? ⟨gb199, 1, none⟩ = some (.int .i64 0) := (blk_cell BK199.out 1).trans rfl; have hfz15_0 := blk_frozen BK199.out 0; have hfz15_1 := blk_frozen BK199.out 1))
              repeat (go_quiet (first | ((with_reducible refine gate_dst (N := 8) rfl ?_); refine box_event ?hg (N := 8) ?hd (cs := #[.int .i64 0, .int .i64 0]) (t := 85) ?hr ?_; (case hd => rfl); (case hg => rfl); (case hr => first | (go_simp; done) | (go_simp; rfl)); intro gb199 hg w13 hbox hb; have n0_ := Aside0.mk (IsB29.below (by repeat (first | (with_reducible first | exact HI0.out | apply IsB29.alloc | apply IsB29.drewN | apply IsB29.drew | apply IsB29.set_0) | exact HI0.out)) hb); have n1_ := Aside0.mk (KeepBut.trans (by repeat (first | (with_reducible first | exact HK.out | apply KeepBut.set_ | apply keep_drewN | apply keep_drew | apply keep_alloc) | exact HK.out)) (KeepBut.of_below hb g none) (.inl rfl)); have n2_ := Aside0.mk (below_step (by repeat (first | (with_reducible first | exact HB.out | apply below_alloc | apply pw_below_drewN | apply below_drew1) | exact HB.out)) hb); have n3_ := Aside0.mk (hbox); have n4_ := Aside0.mk ((by rw [hg]; exact (keep_size (w := w) (g := g) (row := none) (by repeat (first | (with_reducible first | exact HK.out | apply KeepBut.set_ | apply keep_drewN | apply keep_drew | apply keep_alloc) | exact HK.out))) : w.heap.size ≤ gb199)); have n5_ := Aside0.mk ((Nat.le_trans HW0.out (by rw [hg]; exact (keep_size (w := w) (g := g) (row := none) (by repeat (first | (with_reducible first | exact HK.out | apply KeepBut.set_ | apply keep_drewN | apply keep_drew | apply keep_alloc) | exact HK.out))) : w.heap.size ≤ gb199) : w0.heap.size ≤ gb199)); have n6_ := Aside0.mk ((by rw [hg]; exact Nat.ne_of_lt (IsB29.lt (show IsB29 w0 _ g s0_0 s0_1 from by repeat (first | (with_reducible first | exact HI0.out | apply IsB29.alloc | apply IsB29.drewN | apply IsB29.drew | apply IsB29.set_0) | exact HI0.out))) : g ≠ gb199)); have n7_ := Aside0.mk ((by rw [hg]; exact Nat.ne_of_gt (IsB29.lt (show IsB29 w0 _ g s0_0 s0_1 from by repeat (first | (with_reducible first | exact HI0.out | apply IsB29.alloc | apply IsB29.drewN | apply IsB29.drew | apply IsB29.set_0) | exact HI0.out))) : gb199 ≠ g)); clear HI0; clear HK; clear HB; have HI0 := n0_; have HK := n1_; have HB := n2_; have BK199 := n3_; have GW199 := n4_; have GE199 := n5_; have NB0_199 := n6_; have NB199_0 := n7_; clear n0_ n1_ n2_ n3_ n4_ n5_ n6_ n7_; clear hb hbox hg; have hnb14 := NB199_0.out; have hnc14 := NB0_199.out; have hcz15_0 : w13.cell? ⟨gb199, 0, none⟩ = some (.int .i64 0) := (blk_cell BK199.out 0).trans rfl; have hcz15_1 : w13.cell? ⟨gb199, 1, none⟩ = some (.int .i64 0) := (blk_cell BK199.out 1).trans rfl; have hfz15_0 := blk_frozen BK199.out 0; have hfz15_1 := blk_frozen BK199.out 1)); try go_wp2_with (first | ((with_reducible refine gate_dst (N := 8) rfl ?_); refine box_event ?hg (N := 8) ?hd (cs := #[.int .i64 0, .int .i64 0]) (t := 85) ?hr ?_; (case hd => rfl); (case hg => rfl); (case hr => first | (go_simp; done) | (go_simp; rfl)); intro gb199 hg w13 hbox hb; have n0_ := Aside0.mk (IsB29.below (by repeat (first | (with_reducible first | exact HI0.out | apply IsB29.alloc | apply IsB29.drewN | apply IsB29.drew | apply IsB29.set_0) | exact HI0.out)) hb); have n1_ := Aside0.mk (KeepBut.trans (by repeat (first | (with_reducible first | exact HK.out | apply KeepBut.set_ | apply keep_drewN | apply keep_drew | apply keep_alloc) | exact HK.out)) (KeepBut.of_below hb g none) (.inl rfl)); have n2_ := Aside0.mk (below_step (by repeat (first | (with_reducible first | exact HB.out | apply below_alloc | apply pw_below_drewN | apply below_drew1) | exact HB.out)) hb); have n3_ := Aside0.mk (hbox); have n4_ := Aside0.mk ((by rw [hg]; exact (keep_size (w := w) (g := g) (row := none) (by repeat (first | (with_reducible first | exact HK.out | apply KeepBut.set_ | apply keep_drewN | apply keep_drew | apply keep_alloc) | exact HK.out))) : w.heap.size ≤ gb199)); have n5_ := Aside0.mk ((Nat.le_trans HW0.out (by rw [hg]; exact (keep_size (w := w) (g := g) (row := none) (by repeat (first | (with_reducible first | exact HK.out | apply KeepBut.set_ | apply keep_drewN | apply keep_drew | apply keep_alloc) | exact HK.out))) : w.heap.size ≤ gb199) : w0.heap.size ≤ gb199)); have n6_ := Aside0.mk ((by rw [hg]; exact Nat.ne_of_lt (IsB29.lt (show IsB29 w0 _ g s0_0 s0_1 from by repeat (first | (with_reducible first | exact HI0.out | apply IsB29.alloc | apply IsB29.drewN | apply IsB29.drew | apply IsB29.set_0) | exact HI0.out))) : g ≠ gb199)); have n7_ := Aside0.mk ((by rw [hg]; exact Nat.ne_of_gt (IsB29.lt (show IsB29 w0 _ g s0_0 s0_1 from by repeat (first | (with_reducible first | exact HI0.out | apply IsB29.alloc | apply IsB29.drewN | apply IsB29.drew | apply IsB29.set_0) | exact HI0.out))) : gb199 ≠ g)); clear HI0; clear HK; clear HB; have HI0 := n0_; have HK := n1_; have HB := n2_; have BK199 := n3_; have GW199 := n4_; have GE199 := n5_; have NB0_199 := n6_; have NB199_0 := n7_; clear n0_ n1_ n2_ n3_ n4_ n5_ n6_ n7_; clear hb hbox hg; have hnb14 := NB199_0.out; have hnc14 := NB0_199.out; have hcz15_0 : w13.cell? ⟨gb199, 0, none⟩ = some (.int .i64 0) := (blk_cell BK199.out 0).trans rfl; have hcz15_1 : w13.cell? ⟨gb199, 1, none⟩ = some (.int .i64 0) := (blk_cell BK199.out 1).trans rfl; have hfz15_0 := blk_frozen BK199.out 0; have hfz15_1 := blk_frozen BK199.out 1)))
              go_roundg k1
              case measure => have := HK1.out; omega
              case rel => exact ⟨(wrap64 (((rd_T85 s0_1 x14_1).f0) + ((rd_T85 s0_1 x14_1).f1))), (wrap64 (x14_1 + 1)), (by first | rfl | exact congrArg (Value.int .i64) (i64_w _) | (simp; done) | (simp [*]; done)), (by first | rfl | exact congrArg (Value.int .i64) (i64_w _) | (simp; done) | (simp [*]; done)), H', ⟨by have := HK1.out; omega⟩, ⟨by repeat (first | (with_reducible first | exact HI0.out | apply IsB29.alloc | apply IsB29.drewN | apply IsB29.drew | apply IsB29.set_0 | refine IsB29.far ?_ NB0_199.out _) | exact HI0.out)⟩, ⟨by repeat (first | (with_reducible first | exact HK.out | apply KeepBut.set_ | apply keep_drewN | apply keep_drew | apply keep_alloc | refine keep_far ?_ GW199.out _) | exact HK.out)⟩, ⟨by repeat (first | (with_reducible first | exact HB.out | apply below_alloc | apply pw_below_drewN | apply below_drew1 | refine below_set ?_ GE199.out) | exact HB.out)⟩⟩
          · rw [if_neg c6] at H
            exact absurd H (by simp)
        · rw [if_neg c5] at H
          exact absurd H (by simp)
      · rw [if_neg c4] at H
        have c4b0 : decide (x14_1 < (s0_1.length : Int)) = false := decide_eq_false c4
        clear c4
        by_cases c16 : (wrap64 (s0_0 - x6_1)) ≥ a1
        · rw [if_pos c16] at H
          have c16b0 : decide (a1 ≤ (wrap64 (s0_0 - x6_1))) = true := decide_eq_true c16
          clear c16
          simp only [Option.some.injEq, Prod.mk.injEq] at H
          obtain ⟨rfl, rfl, rfl⟩ := H
          obtain ⟨ASz17_1, cSz17_1, HGz17, hgz17, HSz17_1⟩ := HI0.out
          have hcz17_0 := cellB29_0 HGz17
          have hcz17_1 := cellB29_1 HGz17
          have hfz17_0 := blk_frozen HGz17 0
          clear HGz17 hgz17
          go_wp2
          repeat (go_quiet (fail); try go_wp2)
          go_ret2
          exact ⟨by first | rfl | (simp [errW_none, errW_some] <;> rfl) | (simp [*, errW_none, errW_some] <;> rfl), by repeat (first | (with_reducible first | exact HI0.out | apply IsB29.alloc | apply IsB29.drewN | apply IsB29.drew | apply IsB29.set_0) | exact HI0.out), by repeat (first | (with_reducible first | exact HB.out | apply below_alloc | apply pw_below_drewN | apply below_drew1) | exact HB.out), by repeat (first | (with_reducible first | exact HK.out | apply KeepBut.set_ | apply keep_drewN | apply keep_drew | apply keep_alloc) | exact HK.out)⟩
        · rw [if_neg c16] at H
          have c16b0 : decide (a1 ≤ (wrap64 (s0_0 - x6_1))) = false := decide_eq_false c16
          clear c16
          simp only [Option.some.injEq, Prod.mk.injEq] at H
          obtain ⟨rfl, rfl, rfl⟩ := H
          obtain ⟨ASz18_1, cSz18_1, HGz18, hgz18, HSz18_1⟩ := HI0.out
          have hcz18_0 := cellB29_0 HGz18
          have hcz18_1 := cellB29_1 HGz18
          have hfz18_0 := blk_frozen HGz18 0
          clear HGz18 hgz18
          go_wp2
          repeat (go_quiet (fail); try go_wp2)
          go_ret2
          exact ⟨by first | rfl | (simp [errW_none, errW_some] <;> rfl) | (simp [*, errW_none, errW_some] <;> rfl), by repeat (first | (with_reducible first | exact HI0.out | apply IsB29.alloc | apply IsB29.drewN | apply IsB29.drew | apply IsB29.set_0) | exact HI0.out), by repeat (first | (with_reducible first | exact HB.out | apply below_alloc | apply pw_below_drewN | apply below_drew1) | exact HB.out), by repeat (first | (with_reducible first | exact HK.out | apply KeepBut.set_ | apply keep_drewN | apply keep_drew | apply keep_alloc) | exact HK.out)⟩
/-- copy of spans: all is read before anything is written. -/
theorem copySpans (w : World) (ty : TypeId) (b o dLen dCap : Nat) (a : Addr) (sLen sCap : Nat) (cs : List Value)
    (hn : cs.length = Nat.min sLen dLen * 2)
    (hsrc : ∀ j v, cs[j]? = some v → w.cell? (a.add j) = some v) (hc : ∀ j, j < cs.length → (w.cell? ⟨b, o + j, none⟩).isSome = true) (hf : ∀ j, j < cs.length → w.frozen? ⟨b, o + j, none⟩ = false) (h1 : ∀ v ∈ cs, v.oneCell' = true) :
    (Builtin.copy_ #[27, 27] ty #[.slice (some ⟨b, o, none⟩) dLen dCap, .slice (some a) sLen sCap]).run Try.prog w = .ok (goInt (Nat.min sLen dLen : Nat)) (w.setCells b o cs) := by
  have hl := run_loadCells_list (P := Try.prog) w a cs hsrc
  have hst := run_storeCells_cells (P := Try.prog) b o cs 0 w (by simpa using hc) (by simpa using hf) h1
  have hs : (Try.prog.info? 85).map (·.size) = some 2 := by kernel_rfl
  cases hq : Try.prog.info? 85 with
  | none => simp [hq] at hs
  | some i =>
    have hi : i.size = 2 := by simpa [hq] using hs
    simp [Builtin.copy_, run_underlying Try.underlying27, Builtin.lenOf, Builtin.firstCells, sizeOf, typeInfo, hq, hi, ← hn, hl, hst]
set_option maxHeartbeats 4000000 in
set_option maxRecDepth 100000 in
/-- slices.Insert at spans: there is room, i < len(s): in place. -/
theorem insert_shift (b n c i vb m vc : Nat) (cs vs : List Value) (w : World) (hi : i < n) (hm : 0 < m) (hroom : n + m ≤ c) (hc63 : c ≤ 9223372036854775807) (hvb : vb ≠ b)
    (hcl : cs.length = n * 2) (hvl : vs.length = m * 2)
    (hcs : ∀ j v, cs[j]? = some v → w.cell? ⟨b, j, none⟩ = some v) (hsp : ∀ j, j < (n + m) * 2 → (w.cell? ⟨b, j, none⟩).isSome = true) (hfz : ∀ j, j < (n + m) * 2 → w.frozen? ⟨b, j, none⟩ = false)
    (hvs : ∀ j v, vs[j]? = some v → w.cell? ⟨vb, j, none⟩ = some v) (h1c : ∀ v ∈ cs, v.oneCell' = true) (h1v : ∀ v ∈ vs, v.oneCell' = true)
    (tA tB : TypeId) (kA kB : Nat) (hsa : w.shape? vb = some (tA, kA)) (hsb : w.shape? b = some (tB, kB)) (hkB : kB ≠ 0) (hfa : w.frozen? ⟨vb, 0, none⟩ = false) (hfe : w.frozen? ⟨vb, kA, none⟩ = false) :
    Calls Try.prog 69 #[.slice (some ⟨b, 0, none⟩) n c, .int .i64 i, .slice (some ⟨vb, 0, none⟩) m vc] w fun e w' =>
      e = .returned (.slice (some ⟨b, 0, none⟩) (n + m) c) ∧ w' = (w.drew.setCells b ((i + m) * 2) (cs.drop (i * 2))).setCells b (i * 2) vs := by
  have hz1 : ¬ ((m : Int) = 0) := by omega
  have hz2 : ¬ ((i : Int) = (n : Int)) := by omega
  have hov : ∀ lb cb, (callFunc 100 #[.slice (some ⟨vb, 0, none⟩) m vc, .slice (some ⟨b, (i + m) * 2, none⟩) lb cb]).run Try.prog w = .ok (.value (.bool false)) w := fun lb cb => by
    rw [run_callFunc_extern Try.func100 (by kernel_rfl) (by kernel_rfl) (by kernel_rfl) (e := Extern.SlicesOverlaps.overlaps #[27, 27] #[4]) (by kernel_rfl),
      Lib.run_overlaps_apart w 27 4 85 Try.underlying27 2 (fun w => by obtain ⟨i0, hi0, _, hz1, _⟩ := info_parts info85; simp [sizeOf, typeInfo, hi0]; exact hz1) ⟨vb, 0, none⟩ ⟨b, (i + m) * 2, none⟩ m vc lb cb hvb tA tB kA kB hsa hsb hkB hfa hfe]
    rfl
  have hdl : (cs.drop (i * 2)).length = (n - i) * 2 := by rw [List.length_drop, hcl]; omega
  have mixed : Try.prog.follows Departure.mixedOrders = true := by kernel_rfl
  have hw1 : IntKind.i64.wrap ((i : Int) + (m : Int)) = (i : Int) + (m : Int) := by rw [IntKind.wrap_i64]; omega
  have hw2 : IntKind.i64.wrap ((n : Int) + (m : Int)) = (n : Int) + (m : Int) := by rw [IntKind.wrap_i64]; omega
  have hb1 : (0 : Int) ≤ (i : Int) + (m : Int) := by omega
  have hin : i ≤ n := by omega
  have htn : ((i : Int) + (m : Int)).toNat = i + m := by omega
  have hb2 : ¬ (c = i + m) := by omega
  have hb3 : (i : Int) ≤ (n : Int) + (m : Int) := by omega
  have hb4 : ¬ (c = i) := by omega
  have hcp1 : ∀ ty dc sc, (Builtin.copy_ #[27, 27] ty #[.slice (some ⟨b, (i + m) * 2, none⟩) (n + m - (i + m)) dc, .slice (some ⟨b, i * 2, none⟩) (n + m - i) sc]).run Try.prog w.drew = .ok (goInt (Nat.min (n + m - i) (n + m - (i + m)) : Nat)) (w.drew.setCells b ((i + m) * 2) (cs.drop (i * 2))) := fun ty dc sc =>
    copySpans w.drew ty b ((i + m) * 2) (n + m - (i + m)) dc ⟨b, i * 2, none⟩ (n + m - i) sc (cs.drop (i * 2)) (by rw [hdl]; simp only [Nat.min_def]; split <;> omega)
      (fun j v hj => by rw [Addr.add_lit]; exact hcs (i * 2 + j) v (by rwa [List.getElem?_drop] at hj))
      (fun j hj => hsp _ (by omega)) (fun j hj => hfz _ (by omega)) (fun v hv => h1c v (List.mem_of_mem_drop hv))
  obtain ⟨W1, hW1⟩ : ∃ W1, W1 = w.drew.setCells b ((i + m) * 2) (cs.drop (i * 2)) := ⟨_, rfl⟩
  have hsp1 : ∀ k, k < (n + m) * 2 → (W1.cell? ⟨b, k, none⟩).isSome = true := fun k hk => by
    rw [hW1]
    exact isSome_setCells b (cs.drop (i * 2)) ((i + m) * 2) w.drew (fun j hj => hsp ((i + m) * 2 + j) (by rw [hdl] at hj; omega)) k (hsp k hk)
  have hcp2 : ∀ (W : World), (∀ x, W.cell? x = W1.cell? x) → (∀ x, W.frozen? x = W1.frozen? x) → ∀ ty dc, (Builtin.copy_ #[27, 27] ty #[.slice (some ⟨b, i * 2, none⟩) (n + m - i) dc, .slice (some ⟨vb, 0, none⟩) m vc]).run Try.prog W = .ok (goInt (Nat.min m (n + m - i) : Nat)) (W.setCells b (i * 2) vs) := fun W hWc hWf ty dc =>
    copySpans W ty b (i * 2) (n + m - i) dc ⟨vb, 0, none⟩ m vc vs (by rw [hvl]; simp only [Nat.min_def]; split <;> omega)
      (fun j v hj => by
        rw [Addr.add_lit, hWc, hW1, World.cell?_setCells_out b _ _ _ _ (fun h _ => absurd h hvb), Nat.zero_add]
        exact hvs j v hj)
      (fun j hj => by rw [hWc]; exact hsp1 _ (by omega)) (fun j hj => by rw [hWf, hW1, World.frozen?_setCells]; exact hfz _ (by omega)) h1v
  rw [← hW1] at hcp1
  go_enter Try.func69, Try.ntmps69
  go_wp2_with (simp only [hov])

  go_region_law_o (refine step_copy_runI rfl _ _ 27 27 rfl _ _ (by simp [Act.eval, Act.put]) (by simp [Act.eval, Act.put]) (hcp1 _ _ _) ?_)

  go_wp2_with (at_builtin; refine wpList_copy_runI _ rfl _ _ 27 27 rfl _ _ rfl rfl (hcp2 _ (fun _ => rfl) (fun _ => rfl) _ _) ?_)
  go_ret
  first | exact ⟨rfl, rfl⟩ | exact ⟨rfl, by rw [hW1]⟩
set_option maxHeartbeats 4000000 in
set_option maxRecDepth 100000 in
/-- slices.Insert at spans: i < len(s), no room: a new row. -/
theorem insert_grow (b n c i vb m vc : Nat) (cs vs : List Value) (w : World) (hi : i < n) (hm : 0 < m) (hnc : n ≤ c) (hroom : c < n + m) (hbig : (n + m) * 16 ≤ 140737488355328)
    (hcl : cs.length = n * 2) (hvl : vs.length = m * 2)
    (hcs : ∀ j v, cs[j]? = some v → w.cell? ⟨b, j, none⟩ = some v)
    (hvs : ∀ j v, vs[j]? = some v → w.cell? ⟨vb, j, none⟩ = some v) (h1c : ∀ v ∈ cs, v.oneCell' = true) (h1v : ∀ v ∈ vs, v.oneCell' = true) :
    Calls Try.prog 69 #[.slice (some ⟨b, 0, none⟩) n c, .int .i64 i, .slice (some ⟨vb, 0, none⟩) m vc] w fun e w' =>
      ∃ G, n + m ≤ G ∧ G ≤ 9223372036854775807 ∧ e = .returned (.slice (some ⟨w.heap.size, 0, none⟩) (n + m) G) ∧
      w' = (((w.alloc (.cells ((cs.take (i * 2)).toArray ++ Builtin.zeroCells (Value.agg #[.int .i64 0, .int .i64 0]).cells (n + m - i) ++ Builtin.zeroCells (Value.agg #[.int .i64 0, .int .i64 0]).cells (G - (n + m))) 85)).drew.setCells w.heap.size (i * 2) vs).drew).setCells w.heap.size ((i + m) * 2) (cs.drop (i * 2)) := by
  obtain ⟨i0, hi0, hz0, hzs, hzb⟩ := info_parts info85
  have hz1 : ¬ ((m : Int) = 0) := by omega
  have hz2 : ¬ ((i : Int) = (n : Int)) := by omega
  have hz3 : (c : Int) < (n : Int) + (m : Int) := by omega
  have hbw : b < w.heap.size := block_lt_of_cell (hcs 0 _ (List.getElem?_eq_getElem (by omega)))
  have hvw : vb < w.heap.size := block_lt_of_cell (hvs 0 _ (List.getElem?_eq_getElem (by omega)))
  have hkk : (n : Int) + (m : Int) - (i : Int) = ((n + m - i : Nat) : Int) := by omega
  have hik : i + (n + m - i) = n + m := by omega
  have hold : (Builtin.firstCells i0.size i (.slice (some ⟨b, 0, none⟩) i c)).run Try.prog w.drew = .ok (cs.take (i * 2)).toArray w.drew := by
    rw [hzs]
    exact run_firstCells_some w.drew 2 i ⟨b, 0, none⟩ i c (cs.take (i * 2)) (by rw [List.length_take]; omega) (fun j v hj => by
      rw [Addr.add_lit, Nat.zero_add]
      rw [List.getElem?_take] at hj
      split at hj
      · exact hcs j v hj
      · cases hj)
  have hrz : ∀ ty, (Builtin.append_ #[27, 3] ty #[.slice (some ⟨b, 0, none⟩) i c, .int .i64 ((n : Int) + (m : Int) - (i : Int))]).run Try.prog w =
      .ok (.slice (some ⟨w.heap.size, 0, none⟩) (n + m) (grownCap w (n + m) c 85)) (w.drew.alloc (.cells ((cs.take (i * 2)).toArray ++ Builtin.zeroCells (Value.agg #[.int .i64 0, .int .i64 0]).cells (n + m - i) ++ Builtin.zeroCells (Value.agg #[.int .i64 0, .int .i64 0]).cells (grownCap w (n + m) c 85 - (n + m))) 85)) := fun ty => by
    have h := Lib.run_append_grow_zeros w 27 3 ty 85 i0 _ .i64 .i64 Try.underlying27 Try.underlying3 hi0 hz0 (some ⟨b, 0, none⟩) i c (cs.take (i * 2)) hold (n + m - i) (by omega) (by omega) (by omega) (by omega) (by rw [hzb]; omega) (by rw [hzb, hik]; exact growslice_fits hroom hbig)
    rw [hik] at h
    rw [hkk]
    exact h
  obtain ⟨G, hG⟩ : ∃ G, G = grownCap w (n + m) c 85 := ⟨_, rfl⟩
  obtain ⟨ROW, hROW⟩ : ∃ ROW : Array Value, ROW = (cs.take (i * 2)).toArray ++ Builtin.zeroCells (Value.agg #[.int .i64 0, .int .i64 0]).cells (n + m - i) ++ Builtin.zeroCells (Value.agg #[.int .i64 0, .int .i64 0]).cells (G - (n + m)) := ⟨_, rfl⟩
  refine Calls.mono (R := fun e w' => e = .returned (.slice (some ⟨w.heap.size, 0, none⟩) (n + m) G) ∧ w' = (((w.alloc (.cells ROW 85)).drew.setCells w.heap.size (i * 2) vs).drew).setCells w.heap.size ((i + m) * 2) (cs.drop (i * 2))) ?_ ?_
  rotate_left
  · rintro e w' ⟨h1, h2⟩
    subst hROW
    exact ⟨G, by rw [hG]; exact grownCap_ge w _ _ _, by rw [hG]; have := grownCap_le_maxLen w (n + m) c 85 (by unfold maxLen; omega); unfold maxLen at this; omega, h1, h2⟩
  rw [← hG] at hrz
  rw [← hROW] at hrz
  have hRl : (n + m) * 2 ≤ ROW.size := by
    rw [hROW]
    simp [Builtin.zeroCells, Value.cells]
    omega
  obtain ⟨W1, hW1⟩ : ∃ W1, W1 = w.drew.alloc (.cells ROW 85) := ⟨_, rfl⟩
  rw [← hW1] at hrz
  have hN : ∀ j, j < (n + m) * 2 → (W1.cell? ⟨w.heap.size, j, none⟩).isSome = true := fun j hj => by
    rw [hW1, World.cell?_alloc_at (w := w.drew) ROW _ w.heap.size j rfl, Array.getElem?_eq_getElem (by omega)]; rfl
  have hNf : ∀ j, W1.frozen? ⟨w.heap.size, j, none⟩ = false := fun j => by rw [hW1]; exact World.frozen?_alloc_at (w := w.drew) ROW _ w.heap.size j rfl
  have hOb : ∀ j v, w.cell? ⟨b, j, none⟩ = some v → W1.cell? ⟨b, j, none⟩ = some v := fun j v h => by rw [hW1, World.cell?_alloc_past (w := w.drew) _ b j hbw]; exact h
  have hOv : ∀ j v, w.cell? ⟨vb, j, none⟩ = some v → W1.cell? ⟨vb, j, none⟩ = some v := fun j v h => by rw [hW1, World.cell?_alloc_past (w := w.drew) _ vb j hvw]; exact h
  have hcpA : ∀ (W : World), (∀ x, W.cell? x = W1.cell? x) → (∀ x, W.frozen? x = W1.frozen? x) → ∀ ty dc, (Builtin.copy_ #[27, 27] ty #[.slice (some ⟨w.heap.size, i * 2, none⟩) (n + m - i) dc, .slice (some ⟨vb, 0, none⟩) m vc]).run Try.prog W = .ok (goInt (Nat.min m (n + m - i) : Nat)) (W.setCells w.heap.size (i * 2) vs) := fun W hWc hWf ty dc =>
    copySpans W ty w.heap.size (i * 2) (n + m - i) dc ⟨vb, 0, none⟩ m vc vs (by rw [hvl]; simp only [Nat.min_def]; split <;> omega)
      (fun j v hj => by rw [Addr.add_lit, hWc, Nat.zero_add]; exact hOv _ v (hvs j v hj))
      (fun j hj => by rw [hWc]; exact hN _ (by omega)) (fun j hj => by rw [hWf]; exact hNf _) h1v
  have hGn : n + m ≤ G := by rw [hG]; exact grownCap_ge w _ _ _
  have hG63 : G ≤ 9223372036854775807 := by
    have := grownCap_le_maxLen w (n + m) c 85 (by unfold maxLen; omega)
    rw [← hG] at this
    unfold maxLen at this
    omega
  have hGi : ¬ (G = i) := by omega
  have hGim : ¬ (G = i + m) := by omega
  have hci : ¬ (c = i) := by omega
  have hbN : b ≠ w.heap.size := by omega
  have hdl : (cs.drop (i * 2)).length = (n - i) * 2 := by rw [List.length_drop, hcl]; omega
  have hcpB : ∀ (W : World), (∀ x, W.cell? x = (W1.setCells w.heap.size (i * 2) vs).cell? x) → (∀ x, W.frozen? x = (W1.setCells w.heap.size (i * 2) vs).frozen? x) → ∀ ty dc sc, (Builtin.copy_ #[27, 27] ty #[.slice (some ⟨w.heap.size, (i + m) * 2, none⟩) (n + m - (i + m)) dc, .slice (some ⟨b, i * 2, none⟩) (n - i) sc]).run Try.prog W = .ok (goInt (Nat.min (n - i) (n + m - (i + m)) : Nat)) (W.setCells w.heap.size ((i + m) * 2) (cs.drop (i * 2))) := fun W hWc hWf ty dc sc =>
    copySpans W ty w.heap.size ((i + m) * 2) (n + m - (i + m)) dc ⟨b, i * 2, none⟩ (n - i) sc (cs.drop (i * 2)) (by rw [hdl]; simp only [Nat.min_def]; split <;> omega)
      (fun j v hj => by
        rw [Addr.add_lit, hWc, World.cell?_setCells_out _ _ _ _ _ (fun h _ => absurd h hbN)]
        exact hOb _ v (hcs (i * 2 + j) v (by rwa [List.getElem?_drop] at hj)))
      (fun j hj => by rw [hWc]; exact isSome_setCells w.heap.size vs (i * 2) W1 (fun t ht => hN _ (by rw [hvl] at ht; omega)) _ (hN _ (by rw [hdl] at hj; omega)))
      (fun j hj => by rw [hWf, World.frozen?_setCells]; exact hNf _) (fun v hv => h1c v (List.mem_of_mem_drop hv))
  subst hW1
  have hE1 : ∀ x, ((w.alloc (.cells ROW 85)).drew).cell? x = (w.drew.alloc (.cells ROW 85)).cell? x := fun x => rfl
  have hE2 : ∀ x, ((w.alloc (.cells ROW 85)).drew).frozen? x = (w.drew.alloc (.cells ROW 85)).frozen? x := fun x => rfl
  have hF1 : ∀ x, (((w.alloc (.cells ROW 85)).drew.setCells w.heap.size (i * 2) vs).drew).cell? x = ((w.drew.alloc (.cells ROW 85)).setCells w.heap.size (i * 2) vs).cell? x := fun x => rfl
  have hF2 : ∀ x, (((w.alloc (.cells ROW 85)).drew.setCells w.heap.size (i * 2) vs).drew).frozen? x = ((w.drew.alloc (.cells ROW 85)).setCells w.heap.size (i * 2) vs).frozen? x := fun x => rfl
  have hw1 : IntKind.i64.wrap ((i : Int) + (m : Int)) = (i : Int) + (m : Int) := by rw [IntKind.wrap_i64]; omega
  have hw2 : IntKind.i64.wrap ((n : Int) + (m : Int)) = (n : Int) + (m : Int) := by rw [IntKind.wrap_i64]; omega
  have hw3 : IntKind.i64.wrap ((n : Int) + (m : Int) - (i : Int)) = (n : Int) + (m : Int) - (i : Int) := by rw [IntKind.wrap_i64]; omega
  have hb1 : (0 : Int) ≤ (i : Int) + (m : Int) := by omega
  have hin : i ≤ n := by omega
  have htn : ((i : Int) + (m : Int)).toNat = i + m := by omega
  have hb3 : (i : Int) ≤ (n : Int) := by omega
  have mixed : Try.prog.follows Departure.mixedOrders = true := by kernel_rfl
  clear hkk hik hold hROW hG hRl
  go_enter Try.func69, Try.ntmps69
  go_wp2_with (first
    | (at_builtin; refine Lib.wpList_append_run _ rfl _ _ _ _ rfl _ _ rfl rfl _ _ (hrz _) ?_)
    | (at_builtin; refine wpList_copy_runI _ rfl _ _ 27 27 rfl _ _ rfl rfl (hcpA _ hE1 hE2 _ _) ?_)
    | (at_builtin; refine wpList_copy_runI _ rfl _ _ 27 27 rfl _ _ rfl rfl (hcpB _ (fun _ => rfl) (fun _ => rfl) _ _ _) ?_))
  go_region_law_o (refine step_copy_runI rfl _ _ 27 27 rfl (.slice (some ⟨w.heap.size, (i + m) * 2, none⟩) (n + m - (i + m)) (G - (i + m))) (.slice (some ⟨b, i * 2, none⟩) (n - i) (c - i)) (by simp [Act.eval, Act.put]) (by simp [Act.eval, Act.put]) (hcpB _ hF1 hF2 3 (G - (i + m)) (c - i)) ?_)
  go_wp2
  go_ret
  exact ⟨rfl, rfl⟩
set_option maxHeartbeats 4000000 in
set_option maxRecDepth 100000 in
/-- slices.Insert at spans: at the end. -/
theorem insert_end (P0_ : Nat → Prop) (u : Value) (l0 : List S85) (x : S85) (gv : Nat) (w0 w : World) (hlen : l0.length ≤ 1048576) (hB : Below w0.heap.size w0 w) (ho0 : Kd.R k85 85 w w0.heap.size P0_ u l0) (hv : Kd.C k85 w (some ⟨gv, 0, none⟩) 1 [x]) :
    Calls Try.prog 69 #[u, .int .i64 l0.length, .slice (some ⟨gv, 0, none⟩) 1 1] w fun e w' => ∃ v0_ : Value, e = .returned v0_ ∧ Kd.R k85 85 w' w0.heap.size (fun k_ => (P0_ k_ ∨ w.heap.size ≤ k_)) v0_ (l0 ++ [x]) ∧ Below w0.heap.size w0 w' ∧ Kept w w' (fun k_ => P0_ k_) := by
  have info85' : (Try.prog.info? 85).map (fun i => (i.zero, i.size, i.bytes)) = some (some (.agg #[(.int .i64 0), (.int .i64 0)]), k85.sz, 16) := info85
  obtain ⟨A, c, eA⟩ := Kd.R_slice ho0
  subst eA
  have hnc := (Kd.R_reads' ho0).2.1
  have mixed : Try.prog.follows Departure.mixedOrders = true := by kernel_rfl
  have HO := Aside0.mk (Kd.R_mono (ok' := fun k_ => P0_ k_ ∨ w.heap.size ≤ k_) ho0 (fun k hk => .inl hk))
  have HB := Aside0.mk hB
  have HV := Aside0.mk hv
  have H0 := Aside0.mk ho0
  clear ho0 hB hv
  go_enter Try.func69, Try.ntmps69
  go_wp2_with (first
    | (at_builtin; refine Kd.R_append_rows k85 (w0 := w0) w0.heap.size rfl (.tmp 23) (.tmp 24) 27 85 (.agg #[(.int .i64 0), (.int .i64 0)]) 16 rfl Try.underlying27 info85 rfl (by decide) (by omega) _ l0 [x] _ _ _ (fun k_ => P0_ k_ ∨ w.heap.size ≤ k_) (fun _ => False) rfl rfl HO.out ?aR (fun _ _ h => h) (fun _ h => h.elim) (fun _ h => .inr h) HB.out HB.out.size ?aL ?_; (case aR => exact HV.out); (case aL => omega); intro v1 w1 hR1 hB1 hg1 hat1; have hg1 := Aside0.mk (show w.grownBy w1 (Value.slice A l0.length c).ownBlock from hg1); have hR1 := Aside0.mk hR1; have hB1 := Aside0.mk hB1; clear hat1))
  all_goals
    go_ret
    exact ⟨_, rfl, hR1.out, hB1.out, Kept.of_grown hg1.out (Kept.refl w _) (fun k hk => .inl (H0.out.1 k hk))⟩
def slices_Insert_impl_Span_impl_Span.f (l0 : List S85) (a1 : Int) (x : S85) : Option (List S85) := if 0 ≤ a1 ∧ a1 ≤ l0.length ∧ l0.length ≤ 1048576 then some (l0.take a1.toNat ++ x :: l0.drop a1.toNat) else none
theorem insert_reps {R : S85 → List Value → Prop} {l0 : List S85} {inner vs : List Value} {x : S85} {i : Nat} (hr : Reps R 2 l0 inner) (hx : R x vs) (hv : vs.length = 2) (hi : i ≤ l0.length) : Reps R 2 (l0.take i ++ x :: l0.drop i) (inner.take (i * 2) ++ vs ++ inner.drop (i * 2)) := by
  rw [List.append_assoc]
  exact Kd.reps_append (Kd.reps_take hr hi) (Reps.front hx hv (Kd.reps_drop hr) rfl)
theorem insert_cells (L vs : List Value) {c n i : Nat} (hL : L.length = c * 2) (hi : i ≤ n) (hroom : n + 1 ≤ c) (hv : vs.length = 2) :
    ((((L.take ((i + 1) * 2) ++ (L.take (n * 2)).drop (i * 2) ++ L.drop ((i + 1) * 2 + ((L.take (n * 2)).drop (i * 2)).length)).take (i * 2)) ++ vs ++ (L.take ((i + 1) * 2) ++ (L.take (n * 2)).drop (i * 2) ++ L.drop ((i + 1) * 2 + ((L.take (n * 2)).drop (i * 2)).length)).drop (i * 2 + vs.length))).take ((n + 1) * 2) = (L.take (n * 2)).take (i * 2) ++ vs ++ (L.take (n * 2)).drop (i * 2) := by
  have e1 : (L.take ((i + 1) * 2)).length = i * 2 + 2 := by rw [List.length_take, hL]; omega
  have e2 : ((L.take (n * 2)).drop (i * 2)).length = (n - i) * 2 := by rw [List.length_drop, List.length_take, hL]; omega
  generalize hD : (L.take (n * 2)).drop (i * 2) = D at e2 ⊢
  generalize L.drop ((i + 1) * 2 + D.length) = T
  have f1 : (L.take ((i + 1) * 2) ++ D ++ T).take (i * 2) = L.take (i * 2) := by
    rw [List.append_assoc, List.take_append_of_le_length (by omega), List.take_take, Nat.min_eq_left (by omega)]
  have f2 : (L.take ((i + 1) * 2) ++ D ++ T).drop (i * 2 + 2) = D ++ T := by
    rw [List.append_assoc]
    exact List.drop_left' e1
  have f3 : (L.take (i * 2) ++ vs ++ D).length = (n + 1) * 2 := by rw [List.length_append, List.length_append, List.length_take, hL, hv, e2]; omega
  rw [f1, hv, f2, ← List.append_assoc, List.take_left' f3, List.take_take, Nat.min_eq_left (by omega)]
/-- A row that is made room in, told as a row of the call's own. -/
theorem insert_shifted {w : World} {base : Nat} {ok : Nat → Prop} {g c n i : Nat} {l0 : List S85} {cur : Array Value} {x : S85} {vs : List Value} (hok : ok g) (hb : base ≤ g) (hh : w.heap[g]? = some (.cells cur 85 (0, 0))) (hn : l0.length = n) (hi : i ≤ n) (hroom : n + 1 ≤ c) (hcm : c ≤ maxLen) (hcs : cur.size = c * 2) (hvl : vs.length = 2)
    (hr : Reps (k85.M w base (fun k => ok k ∧ some k ≠ some g)) 2 l0 (cur.toList.take (n * 2))) (hx : k85.M w base (fun k => ok k ∧ some k ≠ some g) x vs) :
    Kd.R k85 85 ((w.setCells g ((i + 1) * 2) ((cur.toList.take (n * 2)).drop (i * 2))).setCells g (i * 2) vs) base ok (.slice (some ⟨g, 0, none⟩) (n + 1) c) (l0.take i ++ x :: l0.drop i) ∧ w.grownBy ((w.setCells g ((i + 1) * 2) ((cur.toList.take (n * 2)).drop (i * 2))).setCells g (i * 2) vs) (some g) := by
  have hcl : cur.toList.length = c * 2 := by rw [Array.length_toList, hcs]
  have hdl : ((cur.toList.take (n * 2)).drop (i * 2)).length = (n - i) * 2 := by rw [List.length_drop, List.length_take, hcl]; omega
  obtain ⟨cur1, h3, h4, h5⟩ := setCells_row ((cur.toList.take (n * 2)).drop (i * 2)) ((i + 1) * 2) w cur hh (by rw [hcs, hdl]; omega)
  obtain ⟨cur2, h6, h7, h8⟩ := setCells_row vs (i * 2) _ cur1 h3 (by rw [h4, hcs, hvl]; omega)
  obtain ⟨s1, s2, s3, s4⟩ := setCells_same g ((cur.toList.take (n * 2)).drop (i * 2)) ((i + 1) * 2) w
  obtain ⟨t1, t2, t3, t4⟩ := setCells_same g vs (i * 2) (w.setCells g ((i + 1) * 2) ((cur.toList.take (n * 2)).drop (i * 2)))
  have hfar : ∀ k', k' ≠ g → ((w.setCells g ((i + 1) * 2) ((cur.toList.take (n * 2)).drop (i * 2))).setCells g (i * 2) vs).heap[k']? = w.heap[k']? := fun k' hk' => (setCells_far _ _ k' hk').trans (setCells_far _ _ k' hk')
  have hlen : (l0.take i ++ x :: l0.drop i).length = n + 1 := by simp [hn]; omega
  have hin : ((cur.toList.take (n * 2)).take (i * 2) ++ vs ++ (cur.toList.take (n * 2)).drop (i * 2)).length = (n + 1) * 2 := by simp [hvl, hcl]; omega
  have hR : Reps (k85.M ((w.setCells g ((i + 1) * 2) ((cur.toList.take (n * 2)).drop (i * 2))).setCells g (i * 2) vs) base (fun k => ok k ∧ some k ≠ some g)) 2 (l0.take i ++ x :: l0.drop i) ((cur.toList.take (n * 2)).take (i * 2) ++ vs ++ (cur.toList.take (n * 2)).drop (i * 2)) :=
    (insert_reps hr hx hvl (by omega)).imp_ (fun p q hp => k85.M_move (fun k' hk' => hfar k' (fun he => hk'.2 (by rw [he]))) hp)
  refine ⟨⟨fun k hk => ?_, _, ⟨by rw [hlen]; exact hin, .inr ⟨g, c, cur2, by rw [hlen], hb, h6, by rw [hlen]; exact hroom, hcm, by rw [h7, h4, hcs]; rfl, ?_⟩⟩, ?_⟩, ⟨t1.trans s1, t2.trans s2, t3.trans s3, by rw [t4, s4]; exact Nat.le_refl _, fun k' _ hk' => hfar k' (fun he => hk' (by rw [he]))⟩⟩
  · have : g = k := by simpa [Value.ownBlock] using hk
    exact this ▸ hok
  · rw [hlen, h8, h5]
    exact insert_cells _ vs hcl hi hroom hvl
  · exact hR.imp_ (fun p q hp => k85.M_mono (fun k hk => ⟨hk.1, by simpa [Value.ownBlock] using hk.2⟩) hp)
theorem insert_cells2 (inner vs z1 z2 : List Value) {n i : Nat} (hil : inner.length = n * 2) (hi : i ≤ n) (hz : z1.length = (n + 1 - i) * 2) (hv : vs.length = 2) (Z : List Value) (hZ : Z = inner.take (i * 2) ++ z1 ++ z2) :
    ((Z.take (i * 2) ++ vs ++ Z.drop (i * 2 + vs.length)).take ((i + 1) * 2) ++ inner.drop (i * 2) ++ (Z.take (i * 2) ++ vs ++ Z.drop (i * 2 + vs.length)).drop ((i + 1) * 2 + (inner.drop (i * 2)).length)).take ((n + 1) * 2) = inner.take (i * 2) ++ vs ++ inner.drop (i * 2) := by
  have e1 : (inner.take (i * 2)).length = i * 2 := by rw [List.length_take, hil]; omega
  have f1 : Z.take (i * 2) = inner.take (i * 2) := by rw [hZ, List.append_assoc]; exact List.take_left' e1
  rw [f1]
  generalize Z.drop (i * 2 + vs.length) = T
  have f2 : (inner.take (i * 2) ++ vs).length = (i + 1) * 2 := by rw [List.length_append, e1, hv]; omega
  rw [List.take_left' f2]
  generalize List.drop _ (inner.take (i * 2) ++ vs ++ T) = U
  exact List.take_left' (by rw [List.length_append, f2, List.length_drop, hil]; omega)
/-- A new row with room made in it, told as a row of the call's own. -/
theorem insert_grown {w : World} {base : Nat} {ok : Nat → Prop} {G n i : Nat} {l0 : List S85} {inner : List Value} {x : S85} {vs : List Value} {z1 z2 : Array Value} (hok : ok w.heap.size) (hb : base ≤ w.heap.size) (hn : l0.length = n) (hi : i ≤ n) (hG : n + 1 ≤ G) (hcm : G ≤ maxLen) (hil : inner.length = n * 2) (hz1 : z1.size = (n + 1 - i) * 2) (hz2 : z2.size = (G - (n + 1)) * 2) (hvl : vs.length = 2)
    (hr : Reps (k85.M w base (fun k => ok k ∧ some k ≠ some w.heap.size)) 2 l0 inner) (hx : k85.M w base (fun k => ok k ∧ some k ≠ some w.heap.size) x vs) :
    Kd.R k85 85 ((((w.alloc (.cells ((inner.take (i * 2)).toArray ++ z1 ++ z2) 85)).drew.setCells w.heap.size (i * 2) vs).drew).setCells w.heap.size ((i + 1) * 2) (inner.drop (i * 2))) base ok (.slice (some ⟨w.heap.size, 0, none⟩) (n + 1) G) (l0.take i ++ x :: l0.drop i) ∧ w.grownBy ((((w.alloc (.cells ((inner.take (i * 2)).toArray ++ z1 ++ z2) 85)).drew.setCells w.heap.size (i * 2) vs).drew).setCells w.heap.size ((i + 1) * 2) (inner.drop (i * 2))) none := by
  obtain ⟨W1, hW1⟩ : ∃ W1, W1 = (w.alloc (.cells ((inner.take (i * 2)).toArray ++ z1 ++ z2) 85)).drew := ⟨_, rfl⟩
  have hh : W1.heap[w.heap.size]? = some (.cells ((inner.take (i * 2)).toArray ++ z1 ++ z2) 85 (0, 0)) := by rw [hW1]; exact heap_alloc_new w _
  have hB1 : Below w.heap.size w W1 := by rw [hW1]; exact below_drew1 (below_alloc (Below.refl _ _) _)
  rw [← hW1]
  have hsz : ((inner.take (i * 2)).toArray ++ z1 ++ z2).size = G * 2 := by simp [hz1, hz2, hil]; omega
  have hdl : (inner.drop (i * 2)).length = (n - i) * 2 := by rw [List.length_drop, hil]; omega
  obtain ⟨cur1, h3, h4, h5⟩ := setCells_row vs (i * 2) W1 _ hh (by rw [hsz, hvl]; omega)
  obtain ⟨W2, hW2⟩ : ∃ W2, W2 = (W1.setCells w.heap.size (i * 2) vs).drew := ⟨_, rfl⟩
  have h3' : W2.heap[w.heap.size]? = some (.cells cur1 85 (0, 0)) := by rw [hW2]; exact h3
  obtain ⟨cur2, h6, h7, h8⟩ := setCells_row (inner.drop (i * 2)) ((i + 1) * 2) W2 cur1 h3' (by rw [h4, hsz, hdl]; omega)
  rw [← hW2]
  obtain ⟨s1, s2, s3, s4⟩ := setCells_same w.heap.size vs (i * 2) W1
  obtain ⟨t1, t2, t3, t4⟩ := setCells_same w.heap.size (inner.drop (i * 2)) ((i + 1) * 2) W2
  have hg1 : W1.grownBy (W1.setCells w.heap.size (i * 2) vs) (some w.heap.size) := ⟨s1, s2, s3, by rw [s4]; exact Nat.le_refl _, fun k' _ hk' => setCells_far _ _ k' (fun he => hk' (by rw [he]))⟩
  have hg2 : W2.grownBy (W2.setCells w.heap.size ((i + 1) * 2) (inner.drop (i * 2))) (some w.heap.size) := ⟨t1, t2, t3, by rw [t4]; exact Nat.le_refl _, fun k' _ hk' => setCells_far _ _ k' (fun he => hk' (by rw [he]))⟩
  have hB2 : Below w.heap.size w W2 := by rw [hW2]; exact below_drew1 (hB1.grown hg1 hB1.size (fun k hk => by injection hk with hk; omega))
  have hB3 : Below w.heap.size w (W2.setCells w.heap.size ((i + 1) * 2) (inner.drop (i * 2))) := hB2.grown hg2 hB2.size (fun k hk => by injection hk with hk; omega)
  have hG3 := grown_of_below hB3 none
  have hlen : (l0.take i ++ x :: l0.drop i).length = n + 1 := by simp [hn]; omega
  have hin : (inner.take (i * 2) ++ vs ++ inner.drop (i * 2)).length = (n + 1) * 2 := by simp [hvl, hil]; omega
  have hR : Reps (k85.M (W2.setCells w.heap.size ((i + 1) * 2) (inner.drop (i * 2))) base (fun k => ok k ∧ some k ≠ some w.heap.size)) 2 (l0.take i ++ x :: l0.drop i) (inner.take (i * 2) ++ vs ++ inner.drop (i * 2)) :=
    (insert_reps hr hx hvl (by omega)).imp_ (fun p q hp => k85.M_mono (fun k hk => hk.1) (k85.M_move (fun k hk => hG3.block k hk.2.2.1 (by simp)) (k85.M_bound hp)))
  refine ⟨⟨fun k hk => ?_, _, ⟨by rw [hlen]; exact hin, .inr ⟨w.heap.size, G, cur2, by rw [hlen], hb, h6, by rw [hlen]; exact hG, hcm, by rw [h7, h4, hsz]; rfl, ?_⟩⟩, ?_⟩, hG3⟩
  · have : w.heap.size = k := by simpa [Value.ownBlock] using hk
    exact this ▸ hok
  · rw [hlen, h8, h5]
    exact insert_cells2 inner vs z1.toList z2.toList hil hi hz1 hvl _ (by simp)
  · exact hR.imp_ (fun p q hp => k85.M_mono (fun k hk => ⟨hk.1, by simpa [Value.ownBlock] using hk.2⟩) hp)
theorem slices_Insert_impl_Span_impl_Span.calls (P0_ : Nat → Prop) (u : Value) (l0 : List S85) (a1 : Int) (x : S85) (gv : Nat) (r : List S85) (w0 w : World) (hB : Below w0.heap.size w0 w) (ho0 : Kd.R k85 85 w w0.heap.size P0_ u l0) (hv : w.heap[gv]? = some (.cells #[.int .i64 x.f0, .int .i64 x.f1] 85 (0, 0))) (hne : some gv ≠ u.ownBlock) (h : slices_Insert_impl_Span_impl_Span.f l0 a1 x = some r) :
    Calls Try.prog 69 #[u, .int .i64 a1, .slice (some ⟨gv, 0, none⟩) 1 1] w fun e w' => ∃ v0_ : Value, e = .returned v0_ ∧ Kd.R k85 85 w' w0.heap.size (fun k_ => (P0_ k_ ∨ w.heap.size ≤ k_)) v0_ r ∧ Below w0.heap.size w0 w' ∧ Kept w w' (fun k_ => P0_ k_) := by
  unfold slices_Insert_impl_Span_impl_Span.f at h
  by_cases hc : 0 ≤ a1 ∧ a1 ≤ l0.length ∧ l0.length ≤ 1048576
  · rw [if_pos hc] at h
    obtain rfl := Option.some.inj h
    obtain ⟨h0, h1, h2⟩ := hc
    obtain ⟨i, rfl⟩ : ∃ i : Nat, a1 = (i : Int) := ⟨a1.toNat, by omega⟩
    rw [Int.toNat_natCast]
    have hx0 : w.cell? ⟨gv, 0, none⟩ = some (.int .i64 x.f0) := (blk_cell hv 0).trans rfl
    have hx1 : w.cell? ⟨gv, 1, none⟩ = some (.int .i64 x.f1) := (blk_cell hv 1).trans rfl
    by_cases hi : i = l0.length
    · subst hi
      rw [List.take_of_length_le (Nat.le_refl _), List.drop_eq_nil_of_le (Nat.le_refl _)]
      refine insert_end P0_ u l0 x gv w0 w (by omega) hB ho0 ?_
      refine ⟨rfl, by omega, fun _ => ⟨_, rfl, fun j p hj => ?_⟩⟩
      match j, hj with
      | 0, hj =>
        simp at hj
        subst hj
        refine ⟨[.int .i64 x.f0, .int .i64 x.f1], rfl, ?_, fun i v hi => ?_⟩
        · exact k85_mk w x
        · match i, hi with
          | 0, hi => simp at hi; rw [← hi]; exact hx0
          | 1, hi => simp at hi; rw [← hi]; exact hx1
    · obtain ⟨hok, inner, hown, hr⟩ := ho0
      rcases hown.2 with ⟨hv', hx'⟩ | ⟨g, c, cur, rfl, hb, hh, hl, hcm, hcs, htake⟩
      · omega
      · have hcs2 : cur.size = c * 2 := hcs
        have htake2 : cur.toList.take (l0.length * 2) = inner := htake
        have hgb : gv ≠ g := fun e => hne (by simp [Value.ownBlock, e])
        have hil : inner.length = l0.length * 2 := hown.1
        have hcell : ∀ j v, inner[j]? = some v → w.cell? ⟨g, j, none⟩ = some v := fun j v hj => by
          rw [cell_of_row w g j cur 85 (0, 0) hh]
          rw [← htake2, List.getElem?_take] at hj
          split at hj
          · simpa using hj
          · cases hj
        have hvs : ∀ j v, [Value.int .i64 x.f0, .int .i64 x.f1][j]? = some v → w.cell? ⟨gv, j, none⟩ = some v := fun j v hj => by
          match j, hj with
          | 0, hj => simp at hj; rw [← hj]; exact hx0
          | 1, hj => simp at hj; rw [← hj]; exact hx1
        have h1c : ∀ v ∈ inner, v.oneCell' = true := Kd.reps_one hr (by decide) (fun p c hp u hu => by
          have := k85_openM hp
          subst this
          simp at hu
          rcases hu with rfl | rfl <;> rfl)
        have h1v : ∀ v ∈ [Value.int .i64 x.f0, .int .i64 x.f1], v.oneCell' = true := fun v hv => by
          simp at hv
          rcases hv with rfl | rfl <;> rfl
        have hPg : P0_ g := hok g (by simp [Value.ownBlock])
        have hgw : g < w.heap.size := blk_lt hh
        have hcm2 : c ≤ 9223372036854775807 := hcm
        by_cases hroom : l0.length + 1 ≤ c
        · refine (insert_shift g l0.length c i gv 1 1 inner _ w (by omega) (by decide) hroom hcm2 hgb hil rfl hcell (fun j hj => by rw [cell_of_row w g j cur 85 (0, 0) hh]; simp; omega) (fun j _ => blk_frozen hh _) hvs h1c h1v 85 85 2 cur.size (by simp [World.shape?, hv]) (by simp [World.shape?, hh]) (by omega) (blk_frozen hv 0) (blk_frozen hv 2)).mono ?_
          rintro e w' ⟨rfl, rfl⟩
          subst htake2
          obtain ⟨hR, hg⟩ := insert_shifted (w := w.drew) (base := w0.heap.size) (ok := fun k => P0_ k ∨ w.heap.size ≤ k) (i := i) (x := x) (vs := [Value.int .i64 x.f0, .int .i64 x.f1]) (.inl hPg) hb hh rfl (by omega) hroom hcm hcs2 rfl (hr.imp_ (fun p q hp => by have := k85_openM hp; subst this; exact k85_mkM _ _ _ _)) (k85_mkM _ _ _ _)
          exact ⟨_, rfl, hR, (below_drew1 hB).grown hg (below_drew1 hB).size (fun k hk => by injection hk with hk; omega), Kept.of_grown hg (Kept.drew (Kept.refl w _)) (fun k hk => by injection hk with hk; subst hk; exact .inl hPg)⟩
        · refine (insert_grow g l0.length c i gv 1 1 inner _ w (by omega) (by decide) hl (by omega) (by omega) hil rfl hcell hvs h1c h1v).mono ?_
          rintro e w' ⟨G, hG1, hG2, rfl, rfl⟩
          obtain ⟨hR, hg⟩ := insert_grown (w := w) (base := w0.heap.size) (ok := fun k => P0_ k ∨ w.heap.size ≤ k) (i := i) (x := x) (vs := [Value.int .i64 x.f0, .int .i64 x.f1]) (z1 := Builtin.zeroCells (Value.agg #[.int .i64 0, .int .i64 0]).cells (l0.length + 1 - i)) (z2 := Builtin.zeroCells (Value.agg #[.int .i64 0, .int .i64 0]).cells (G - (l0.length + 1))) (inner := inner) (.inr (Nat.le_refl _)) hB.size rfl (by omega) hG1 hG2 hil (by simp [Builtin.zeroCells, Value.cells]) (by simp [Builtin.zeroCells, Value.cells]) rfl (hr.imp_ (fun p q hp => by have := k85_openM hp; subst this; exact k85_mkM _ _ _ _)) (k85_mkM _ _ _ _)
          exact ⟨_, rfl, hR, hB.grown hg hB.size (fun k hk => by cases hk), Kept.of_grown hg (Kept.refl w _) (fun k hk => by cases hk)⟩
  · rw [if_neg hc] at h; cases h
def impl_HeapTake.f (k : Nat) (a0_0 : Int) (l0_1 : List S85) (a1 : Int) : Option (Int × List S85 × Int) :=
  (impl_HeapOk.f k a0_0 l0_1).bind fun t => if t = false ∨ a1 < 0 ∨ 65536 < a1 then some (0, [], -1) else ((impl_copyHeap.f a0_0 l0_1).bind fun b => (impl_eights.f a1).bind fun e => (impl_Heap_room.f k b.1 b.2 e).bind fun m => if m.1 < 0 ∨ 512 ≤ b.2.length then some (b.1, b.2, -1) else (slices_Insert_impl_Span_impl_Span.f b.2 m.2.1 ⟨m.1, e⟩).bind fun y => some (b.1, y, m.1))
theorem impl_HeapTake.mono : ∀ a0 a1 a2 k, LeO (impl_HeapTake.f k a0 a1 a2) (impl_HeapTake.f (k + 1) a0 a1 a2) := by
  intro a0 a1 a2 k
  unfold impl_HeapTake.f
  refine LeO.bind (impl_HeapOk.mono _ _ _) (fun _ => LeO.ite (LeO.refl _) (LeO.bind (LeO.refl _) (fun _ => LeO.bind (LeO.refl _) (fun _ => LeO.bind (impl_Heap_room.mono _ _ _ _) (fun _ => LeO.refl _)))))
set_option maxHeartbeats 4000000 in
set_option maxRecDepth 100000 in
theorem impl_HeapTake.calls (k : Nat) (a0_0 : Int) (A0_1 : Option Addr) (c0_1 : Nat) (l0_1 : List (S85)) (a1 : Int) (r1 : Int) (r2 : List (S85)) (r3 : Int) (w : World) (hr0_1 : Kd.C k85 w A0_1 l0_1.length l0_1) (hc0_1 : l0_1.length ≤ c0_1) (h : impl_HeapTake.f k a0_0 l0_1 a1 = some (r1, r2, r3)) :
    Calls Try.prog 28 #[.agg #[.int .i64 a0_0, .slice A0_1 l0_1.length c0_1], .int .i64 a1] w fun e w' => ∃ v1_ : Value, e = .returned (.tuple #[.agg #[.int .i64 r1, v1_], .int .i64 r3]) ∧ Kd.R k85 85 w' w.heap.size (fun _ => True) v1_ r2 ∧ Below w.heap.size w w' := by
  have hu29 := Try.underlying29
  unfold impl_HeapTake.f at h
  have h0_ := h
  obtain ⟨t, hOk, h⟩ := Option.bind_eq_some_iff.mp h0_
  have hOk := Aside0.mk hOk
  clear h0_
  have hC := Aside0.mk hr0_1
  clear hr0_1
  by_cases c1 : t = false
  · subst c1
    rw [if_pos (.inl rfl)] at h
    simp only [Option.some.injEq, Prod.mk.injEq] at h
    obtain ⟨rfl, rfl, rfl⟩ := h
    go_enter Try.func28, Try.ntmps28
    go_wp2_with (first
      | ((with_reducible refine gate_dst (N := 2) rfl ?_); refine box_event ?hg (N := 2) ?hd (cs := #[.int .i64 a0_0, .slice A0_1 l0_1.length c0_1]) (t := 29) ?hr ?_; (case hd => rfl); (case hg => rfl); (case hr => first | (go_simp; done) | (go_simp; rfl)); intro gb hg_ w3 hb_ hB_; have hbb := Aside0.mk hb_; have hB3 := Aside0.mk hB_; have hgb := Aside0.mk (show w.heap.size ≤ gb from Nat.le_of_eq hg_.symm); clear hg_ hb_ hB_)
      | ((with_reducible refine gate_dst (N := 4) rfl ?_); refine box_event ?hg (N := 4) ?hd (cs := #[.int .i64 0, .slice none 0 0]) (t := 29) ?hr ?_; (case hd => rfl); (case hg => rfl); (case hr => first | (go_simp; done) | (go_simp; rfl)); intro gr hg_ w4 hb_ hB_; have hne := Aside0.mk (show gb ≠ gr from by have := blk_lt hbb.out; omega); have hgr := Aside0.mk (show w.heap.size ≤ gr from by have := hB3.out.size; omega); have hbb4 := Aside0.mk (blk_below hbb.out hB_); clear hbb; have hbb := hbb4; clear hbb4; have hB4 := Aside0.mk (below_step hB3.out hB_); have hbr := Aside0.mk hb_; clear hg_ hb_ hB_ hB3; have hz0 : w4.cell? ⟨gb, 0, none⟩ = some (.int .i64 a0_0) := (blk_cell hbb.out 0).trans rfl; have hz1 : w4.cell? ⟨gb, 1, none⟩ = some (.slice A0_1 l0_1.length c0_1) := (blk_cell hbb.out 1).trans rfl)
      | (go_at_call 18; (with_reducible refine (impl_HeapOk.calls k a0_0 _ _ l0_1 false _ ?s1 hc0_1 hOk.out).mono ?_); (case s1 => exact Kd.C_below hC.out hB4.out); rintro e w5 ⟨rfl, hB_⟩; clear hz0 hz1; have n1 := Aside0.mk (blk_below hbb.out hB_); have n2 := Aside0.mk (blk_below hbr.out hB_); clear hbb hbr; have hbb := n1; have hbr := n2; have hB5 := Aside0.mk (below_step hB4.out hB_); clear hB_ n1 n2 hB4; have hz0 : w5.cell? ⟨gb, 0, none⟩ = some (.int .i64 a0_0) := (blk_cell hbb.out 0).trans rfl; have hz1 : w5.cell? ⟨gb, 1, none⟩ = some (.slice A0_1 l0_1.length c0_1) := (blk_cell hbb.out 1).trans rfl; have hr0 : w5.cell? ⟨gr, 0, none⟩ = some (.int .i64 0) := (blk_cell hbr.out 0).trans rfl; have hr1 : w5.cell? ⟨gr, 1, none⟩ = some (.slice none 0 0) := (blk_cell hbr.out 1).trans rfl; have hf0 := blk_frozen hbr.out 0; have hf1 := blk_frozen hbr.out 1; have hq0 := blk_frozen hbb.out 0; have hq1 := blk_frozen hbb.out 1))
    refine bodyPost_ret (results_ct rfl _ _ gr 29 #[.int .i64 0, .slice none 0 0] (0, 0) _ rfl (by refine blk_put (cs := #[.int .i64 0, .slice none 0 0]) ?_ 1 _ rfl; refine blk_put (cs := #[.int .i64 0, .slice none 0 0]) ?_ 0 _ rfl; exact hbr.out) Try.underlying29 rfl (by kernel_rfl)) rfl ?_
    exact ⟨_, rfl, Kd.R_nil _ _ _ _ _, below_set (below_set hB5.out hgr.out) hgr.out⟩
  obtain rfl : t = true := by cases t <;> simp_all
  clear c1
  by_cases c2 : a1 < 0
  · rw [if_pos (.inr (.inl c2))] at h
    simp only [Option.some.injEq, Prod.mk.injEq] at h
    obtain ⟨rfl, rfl, rfl⟩ := h
    have d2 : decide (a1 < 0) = true := decide_eq_true c2
    clear c2
    go_enter Try.func28, Try.ntmps28
    go_wp2_with (first
      | ((with_reducible refine gate_dst (N := 2) rfl ?_); refine box_event ?hg (N := 2) ?hd (cs := #[.int .i64 a0_0, .slice A0_1 l0_1.length c0_1]) (t := 29) ?hr ?_; (case hd => rfl); (case hg => rfl); (case hr => first | (go_simp; done) | (go_simp; rfl)); intro gb hg_ w3 hb_ hB_; have hbb := Aside0.mk hb_; have hB3 := Aside0.mk hB_; have hgb := Aside0.mk (show w.heap.size ≤ gb from Nat.le_of_eq hg_.symm); clear hg_ hb_ hB_)
      | ((with_reducible refine gate_dst (N := 4) rfl ?_); refine box_event ?hg (N := 4) ?hd (cs := #[.int .i64 0, .slice none 0 0]) (t := 29) ?hr ?_; (case hd => rfl); (case hg => rfl); (case hr => first | (go_simp; done) | (go_simp; rfl)); intro gr hg_ w4 hb_ hB_; have hne := Aside0.mk (show gb ≠ gr from by have := blk_lt hbb.out; omega); have hgr := Aside0.mk (show w.heap.size ≤ gr from by have := hB3.out.size; omega); have hbb4 := Aside0.mk (blk_below hbb.out hB_); clear hbb; have hbb := hbb4; clear hbb4; have hB4 := Aside0.mk (below_step hB3.out hB_); have hbr := Aside0.mk hb_; clear hg_ hb_ hB_ hB3; have hz0 : w4.cell? ⟨gb, 0, none⟩ = some (.int .i64 a0_0) := (blk_cell hbb.out 0).trans rfl; have hz1 : w4.cell? ⟨gb, 1, none⟩ = some (.slice A0_1 l0_1.length c0_1) := (blk_cell hbb.out 1).trans rfl)
      | (go_at_call 18; (with_reducible refine (impl_HeapOk.calls k a0_0 _ _ l0_1 true _ ?s1 hc0_1 hOk.out).mono ?_); (case s1 => exact Kd.C_below hC.out hB4.out); rintro e w5 ⟨rfl, hB_⟩; clear hz0 hz1; have n1 := Aside0.mk (blk_below hbb.out hB_); have n2 := Aside0.mk (blk_below hbr.out hB_); clear hbb hbr; have hbb := n1; have hbr := n2; have hB5 := Aside0.mk (below_step hB4.out hB_); clear hB_ n1 n2 hB4; have hz0 : w5.cell? ⟨gb, 0, none⟩ = some (.int .i64 a0_0) := (blk_cell hbb.out 0).trans rfl; have hz1 : w5.cell? ⟨gb, 1, none⟩ = some (.slice A0_1 l0_1.length c0_1) := (blk_cell hbb.out 1).trans rfl; have hr0 : w5.cell? ⟨gr, 0, none⟩ = some (.int .i64 0) := (blk_cell hbr.out 0).trans rfl; have hr1 : w5.cell? ⟨gr, 1, none⟩ = some (.slice none 0 0) := (blk_cell hbr.out 1).trans rfl; have hf0 := blk_frozen hbr.out 0; have hf1 := blk_frozen hbr.out 1; have hq0 := blk_frozen hbb.out 0; have hq1 := blk_frozen hbb.out 1))
    refine bodyPost_ret (results_ct rfl _ _ gr 29 #[.int .i64 0, .slice none 0 0] (0, 0) _ rfl (by refine blk_put (cs := #[.int .i64 0, .slice none 0 0]) ?_ 1 _ rfl; refine blk_put (cs := #[.int .i64 0, .slice none 0 0]) ?_ 0 _ rfl; exact hbr.out) Try.underlying29 rfl (by kernel_rfl)) rfl ?_
    exact ⟨_, rfl, Kd.R_nil _ _ _ _ _, below_set (below_set hB5.out hgr.out) hgr.out⟩
  by_cases c3 : 65536 < a1
  · rw [if_pos (.inr (.inr c3))] at h
    simp only [Option.some.injEq, Prod.mk.injEq] at h
    obtain ⟨rfl, rfl, rfl⟩ := h
    have d2 : decide (a1 < 0) = false := decide_eq_false c2
    have d3 : decide (65536 < a1) = true := decide_eq_true c3
    clear c2 c3
    go_enter Try.func28, Try.ntmps28
    go_wp2_with (first
      | ((with_reducible refine gate_dst (N := 2) rfl ?_); refine box_event ?hg (N := 2) ?hd (cs := #[.int .i64 a0_0, .slice A0_1 l0_1.length c0_1]) (t := 29) ?hr ?_; (case hd => rfl); (case hg => rfl); (case hr => first | (go_simp; done) | (go_simp; rfl)); intro gb hg_ w3 hb_ hB_; have hbb := Aside0.mk hb_; have hB3 := Aside0.mk hB_; have hgb := Aside0.mk (show w.heap.size ≤ gb from Nat.le_of_eq hg_.symm); clear hg_ hb_ hB_)
      | ((with_reducible refine gate_dst (N := 4) rfl ?_); refine box_event ?hg (N := 4) ?hd (cs := #[.int .i64 0, .slice none 0 0]) (t := 29) ?hr ?_; (case hd => rfl); (case hg => rfl); (case hr => first | (go_simp; done) | (go_simp; rfl)); intro gr hg_ w4 hb_ hB_; have hne := Aside0.mk (show gb ≠ gr from by have := blk_lt hbb.out; omega); have hgr := Aside0.mk (show w.heap.size ≤ gr from by have := hB3.out.size; omega); have hbb4 := Aside0.mk (blk_below hbb.out hB_); clear hbb; have hbb := hbb4; clear hbb4; have hB4 := Aside0.mk (below_step hB3.out hB_); have hbr := Aside0.mk hb_; clear hg_ hb_ hB_ hB3; have hz0 : w4.cell? ⟨gb, 0, none⟩ = some (.int .i64 a0_0) := (blk_cell hbb.out 0).trans rfl; have hz1 : w4.cell? ⟨gb, 1, none⟩ = some (.slice A0_1 l0_1.length c0_1) := (blk_cell hbb.out 1).trans rfl)
      | (go_at_call 18; (with_reducible refine (impl_HeapOk.calls k a0_0 _ _ l0_1 true _ ?s1 hc0_1 hOk.out).mono ?_); (case s1 => exact Kd.C_below hC.out hB4.out); rintro e w5 ⟨rfl, hB_⟩; clear hz0 hz1; have n1 := Aside0.mk (blk_below hbb.out hB_); have n2 := Aside0.mk (blk_below hbr.out hB_); clear hbb hbr; have hbb := n1; have hbr := n2; have hB5 := Aside0.mk (below_step hB4.out hB_); clear hB_ n1 n2 hB4; have hz0 : w5.cell? ⟨gb, 0, none⟩ = some (.int .i64 a0_0) := (blk_cell hbb.out 0).trans rfl; have hz1 : w5.cell? ⟨gb, 1, none⟩ = some (.slice A0_1 l0_1.length c0_1) := (blk_cell hbb.out 1).trans rfl; have hr0 : w5.cell? ⟨gr, 0, none⟩ = some (.int .i64 0) := (blk_cell hbr.out 0).trans rfl; have hr1 : w5.cell? ⟨gr, 1, none⟩ = some (.slice none 0 0) := (blk_cell hbr.out 1).trans rfl; have hf0 := blk_frozen hbr.out 0; have hf1 := blk_frozen hbr.out 1; have hq0 := blk_frozen hbb.out 0; have hq1 := blk_frozen hbb.out 1))
    refine bodyPost_ret (results_ct rfl _ _ gr 29 #[.int .i64 0, .slice none 0 0] (0, 0) _ rfl (by refine blk_put (cs := #[.int .i64 0, .slice none 0 0]) ?_ 1 _ rfl; refine blk_put (cs := #[.int .i64 0, .slice none 0 0]) ?_ 0 _ rfl; exact hbr.out) Try.underlying29 rfl (by kernel_rfl)) rfl ?_
    exact ⟨_, rfl, Kd.R_nil _ _ _ _ _, below_set (below_set hB5.out hgr.out) hgr.out⟩
  rw [if_neg (by simp only [Bool.true_eq_false, false_or, not_or]; exact ⟨c2, c3⟩)] at h
  obtain ⟨⟨b1, b2⟩, hcp, h⟩ := Option.bind_eq_some_iff.mp h
  have hcp := Aside0.mk hcp
  dsimp only at h
  obtain ⟨e8, hei, h⟩ := Option.bind_eq_some_iff.mp h
  have hei := Aside0.mk hei
  obtain ⟨⟨m1, m2, m3⟩, hrm, h⟩ := Option.bind_eq_some_iff.mp h
  have hrm := Aside0.mk hrm
  dsimp only at h
  have H := Aside0.mk h
  clear h
  have d2 : decide (a1 < 0) = false := decide_eq_false c2
  have d3 : decide (65536 < a1) = false := decide_eq_false c3
  clear c2 c3
  go_enter Try.func28, Try.ntmps28
  go_upto_region 4 with (first
    | ((with_reducible refine gate_dst (N := 2) rfl ?_); refine box_event ?hg (N := 2) ?hd (cs := #[.int .i64 a0_0, .slice A0_1 l0_1.length c0_1]) (t := 29) ?hr ?_; (case hd => rfl); (case hg => rfl); (case hr => first | (go_simp; done) | (go_simp; rfl)); intro gb hg_ w3 hb_ hB_; have hbb := Aside0.mk hb_; have hB3 := Aside0.mk hB_; have hgb := Aside0.mk (show w.heap.size ≤ gb from Nat.le_of_eq hg_.symm); clear hg_ hb_ hB_)
    | ((with_reducible refine gate_dst (N := 4) rfl ?_); refine box_event ?hg (N := 4) ?hd (cs := #[.int .i64 0, .slice none 0 0]) (t := 29) ?hr ?_; (case hd => rfl); (case hg => rfl); (case hr => first | (go_simp; done) | (go_simp; rfl)); intro gr hg_ w4 hb_ hB_; have hne := Aside0.mk (show gb ≠ gr from by have := blk_lt hbb.out; omega); have hgr := Aside0.mk (show w.heap.size ≤ gr from by have := hB3.out.size; omega); have hbb4 := Aside0.mk (blk_below hbb.out hB_); clear hbb; have hbb := hbb4; clear hbb4; have hB4 := Aside0.mk (below_step hB3.out hB_); have hbr := Aside0.mk hb_; clear hg_ hb_ hB_ hB3; have hz0 : w4.cell? ⟨gb, 0, none⟩ = some (.int .i64 a0_0) := (blk_cell hbb.out 0).trans rfl; have hz1 : w4.cell? ⟨gb, 1, none⟩ = some (.slice A0_1 l0_1.length c0_1) := (blk_cell hbb.out 1).trans rfl)
    | (go_at_call 18; (with_reducible refine (impl_HeapOk.calls k a0_0 _ _ l0_1 true _ ?s1 hc0_1 hOk.out).mono ?_); (case s1 => exact Kd.C_below hC.out hB4.out); rintro e w5 ⟨rfl, hB_⟩; clear hz0 hz1; have n1 := Aside0.mk (blk_below hbb.out hB_); have n2 := Aside0.mk (blk_below hbr.out hB_); clear hbb hbr; have hbb := n1; have hbr := n2; have hB5 := Aside0.mk (below_step hB4.out hB_); clear hB_ n1 n2 hB4; have hz0 : w5.cell? ⟨gb, 0, none⟩ = some (.int .i64 a0_0) := (blk_cell hbb.out 0).trans rfl; have hz1 : w5.cell? ⟨gb, 1, none⟩ = some (.slice A0_1 l0_1.length c0_1) := (blk_cell hbb.out 1).trans rfl; have hr0 : w5.cell? ⟨gr, 0, none⟩ = some (.int .i64 0) := (blk_cell hbr.out 0).trans rfl; have hr1 : w5.cell? ⟨gr, 1, none⟩ = some (.slice none 0 0) := (blk_cell hbr.out 1).trans rfl; have hf0 := blk_frozen hbr.out 0; have hf1 := blk_frozen hbr.out 1; have hq0 := blk_frozen hbb.out 0; have hq1 := blk_frozen hbb.out 1)
    | (go_at_call 59; (with_reducible refine (impl_copyHeap.calls a0_0 _ _ l0_1 b1 b2 _ ?s1 hc0_1 hcp.out).mono ?_); (case s1 => exact Kd.C_below hC.out hB5.out); rintro e w6 ⟨v, rfl, ho_, hB_⟩; clear hz0 hz1 hr0 hr1 hf0 hf1 hq0 hq1; have HO := Aside0.mk (Kd.R_lower ho_ hB5.out.size); have n1 := Aside0.mk (blk_below hbb.out hB_); have n2 := Aside0.mk (blk_below hbr.out hB_); clear hbb hbr; have hbb := n1; have hbr := n2; have hB6 := Aside0.mk (below_step hB5.out hB_); clear ho_ hB_ n1 n2 hB5; obtain ⟨A7, c7, e7⟩ := Kd.R_slice HO.out; subst e7; have hz0 : w6.cell? ⟨gb, 0, none⟩ = some (.int .i64 a0_0) := (blk_cell hbb.out 0).trans rfl; have hz1 : w6.cell? ⟨gb, 1, none⟩ = some (.slice A0_1 l0_1.length c0_1) := (blk_cell hbb.out 1).trans rfl; have hr0 : w6.cell? ⟨gr, 0, none⟩ = some (.int .i64 0) := (blk_cell hbr.out 0).trans rfl; have hr1 : w6.cell? ⟨gr, 1, none⟩ = some (.slice none 0 0) := (blk_cell hbr.out 1).trans rfl; have hf0 := blk_frozen hbr.out 0; have hf1 := blk_frozen hbr.out 1; have hq0 := blk_frozen hbb.out 0; have hq1 := blk_frozen hbb.out 1))
  clear d2 d3
  have hne2 : gr ≠ gb := fun e => hne.out e.symm
  have n1 : Aside0 (((w6.setCell ⟨gb, 0, none⟩ (.int .i64 b1)).setCell ⟨gb, 1, none⟩ (.slice A7 b2.length c7)).heap[gb]? = some (.cells #[.int .i64 b1, .slice A7 b2.length c7] 29 (0, 0))) := ⟨by refine blk_put (cs := #[.int .i64 b1, .slice A0_1 l0_1.length c0_1]) ?_ 1 _ rfl; refine blk_put (cs := #[.int .i64 a0_0, .slice A0_1 l0_1.length c0_1]) ?_ 0 _ rfl; exact hbb.out⟩
  have n2 : Aside0 (((w6.setCell ⟨gb, 0, none⟩ (.int .i64 b1)).setCell ⟨gb, 1, none⟩ (.slice A7 b2.length c7)).heap[gr]? = some (.cells #[.int .i64 0, .slice none 0 0] 29 (0, 0))) := ⟨blk_far (blk_far hbr.out hne2 _) hne2 _⟩
  have n3 : Aside0 (Kd.R k85 85 ((w6.setCell ⟨gb, 0, none⟩ (.int .i64 b1)).setCell ⟨gb, 1, none⟩ (.slice A7 b2.length c7)) w.heap.size (fun _ => True) (.slice A7 b2.length c7) b2) := ⟨Kd.R_mono (Kd.R_far (p := ⟨gb, 1, none⟩) (Kd.R_far (p := ⟨gb, 0, none⟩) (Kd.R_types HO.out hbb.out (by decide)) (fun _ hk => hk.2) _) (fun _ hk => hk.2) _) (fun _ _ => trivial)⟩
  have n4 : Aside0 (Below w.heap.size w ((w6.setCell ⟨gb, 0, none⟩ (.int .i64 b1)).setCell ⟨gb, 1, none⟩ (.slice A7 b2.length c7))) := ⟨below_set (below_set hB6.out hgb.out) hgb.out⟩
  clear hbb hbr HO hB6 hz0 hz1 hr0 hr1 hf0 hf1 hq0 hq1
  generalize ((w6.setCell ⟨gb, 0, none⟩ (.int .i64 b1)).setCell ⟨gb, 1, none⟩ (.slice A7 b2.length c7)) = w7 at n1 n2 n3 n4 ⊢
  have hbb := n1
  have hbr := n2
  have HO := n3
  have hB7 := n4
  clear n1 n2 n3 n4
  go_upto_region 6 with (first | (go_at_call 67; (with_reducible refine (impl_eights.calls a1 e8 _ hei.out).mono ?_); rintro e w8 ⟨rfl, hB_⟩; have n1 := Aside0.mk (blk_below hbb.out hB_); have n2 := Aside0.mk (blk_below hbr.out hB_); have n3 := Aside0.mk (Kd.R_below HO.out hB_); have n4 := Aside0.mk (below_step hB7.out hB_); clear hbb hbr HO hB7 hB_; have hbb := n1; have hbr := n2; have HO := n3; have hB8 := n4; clear n1 n2 n3 n4; have hz0 : w8.cell? ⟨gb, 0, none⟩ = some (.int .i64 b1) := (blk_cell hbb.out 0).trans rfl; have hz1 : w8.cell? ⟨gb, 1, none⟩ = some (.slice A7 b2.length c7) := (blk_cell hbb.out 1).trans rfl; have hr0 : w8.cell? ⟨gr, 0, none⟩ = some (.int .i64 0) := (blk_cell hbr.out 0).trans rfl; have hr1 : w8.cell? ⟨gr, 1, none⟩ = some (.slice none 0 0) := (blk_cell hbr.out 1).trans rfl; have hf0 := blk_frozen hbr.out 0; have hf1 := blk_frozen hbr.out 1; have hq0 := blk_frozen hbb.out 0; have hq1 := blk_frozen hbb.out 1) | (go_at_call 68; refine (impl_Heap_room.calls k gb b1 b2 e8 m1 m2 m3 w8 w8 ?s1 (Below.refl _ _) hrm.out).mono ?_; (case s1 => exact ⟨A7, c7, hbb.out, blk_lt hbb.out, (Kd.R_reads' HO.out).2.2⟩); rintro e w9 ⟨rfl, _, hB_, _⟩; clear hz0 hz1 hr0 hr1 hf0 hf1 hq0 hq1; have n1 := Aside0.mk (blk_below hbb.out hB_); have n2 := Aside0.mk (blk_below hbr.out hB_); have n3 := Aside0.mk (Kd.R_below HO.out hB_); have n4 := Aside0.mk (below_step hB8.out hB_); clear hbb hbr HO hB8 hB_; have hbb := n1; have hbr := n2; have HO := n3; have hB9 := n4; clear n1 n2 n3 n4; have hz0 : w9.cell? ⟨gb, 0, none⟩ = some (.int .i64 b1) := (blk_cell hbb.out 0).trans rfl; have hz1 : w9.cell? ⟨gb, 1, none⟩ = some (.slice A7 b2.length c7) := (blk_cell hbb.out 1).trans rfl; have hr0 : w9.cell? ⟨gr, 0, none⟩ = some (.int .i64 0) := (blk_cell hbr.out 0).trans rfl; have hr1 : w9.cell? ⟨gr, 1, none⟩ = some (.slice none 0 0) := (blk_cell hbr.out 1).trans rfl; have hf0 := blk_frozen hbr.out 0; have hf1 := blk_frozen hbr.out 1; have hq0 := blk_frozen hbb.out 0; have hq1 := blk_frozen hbb.out 1))
  have H1 := H.out
  clear H
  by_cases c4 : m1 < 0
  · rw [if_pos (.inl c4)] at H1
    simp only [Option.some.injEq, Prod.mk.injEq] at H1
    obtain ⟨rfl, rfl, rfl⟩ := H1
    have d4 : decide (m1 < 0) = true := decide_eq_true c4
    clear c4
    go_wp2
    refine bodyPost_ret (results_ct rfl _ _ gr 29 #[.int .i64 b1, .slice A7 b2.length c7] (0, 0) _ rfl (by refine blk_put (cs := #[.int .i64 b1, .slice none 0 0]) ?_ 1 _ rfl; refine blk_put (cs := #[.int .i64 0, .slice none 0 0]) ?_ 0 _ rfl; exact hbr.out) Try.underlying29 rfl (by kernel_rfl)) rfl ?_
    exact ⟨_, rfl, Kd.R_mono (Kd.R_far (p := ⟨gr, 1, none⟩) (Kd.R_far (p := ⟨gr, 0, none⟩) (Kd.R_types HO.out hbr.out (by decide)) (fun _ hk => hk.2) _) (fun _ hk => hk.2) _) (fun _ _ => trivial), below_set (below_set hB9.out hgr.out) hgr.out⟩
  by_cases c5 : 512 ≤ b2.length
  · rw [if_pos (.inr c5)] at H1
    simp only [Option.some.injEq, Prod.mk.injEq] at H1
    obtain ⟨rfl, rfl, rfl⟩ := H1
    have d4 : decide (m1 < 0) = false := decide_eq_false c4
    have d5 : decide (512 ≤ (b2.length : Int)) = true := decide_eq_true (by omega)
    clear c4 c5
    go_wp2
    refine bodyPost_ret (results_ct rfl _ _ gr 29 #[.int .i64 b1, .slice A7 b2.length c7] (0, 0) _ rfl (by refine blk_put (cs := #[.int .i64 b1, .slice none 0 0]) ?_ 1 _ rfl; refine blk_put (cs := #[.int .i64 0, .slice none 0 0]) ?_ 0 _ rfl; exact hbr.out) Try.underlying29 rfl (by kernel_rfl)) rfl ?_
    exact ⟨_, rfl, Kd.R_mono (Kd.R_far (p := ⟨gr, 1, none⟩) (Kd.R_far (p := ⟨gr, 0, none⟩) (Kd.R_types HO.out hbr.out (by decide)) (fun _ hk => hk.2) _) (fun _ hk => hk.2) _) (fun _ _ => trivial), below_set (below_set hB9.out hgr.out) hgr.out⟩
  rw [if_neg (fun h_ => h_.elim c4 c5)] at H1
  obtain ⟨y, hin, H2⟩ := Option.bind_eq_some_iff.mp H1
  have hin := Aside0.mk hin
  simp only [Option.some.injEq, Prod.mk.injEq] at H2
  obtain ⟨rfl, rfl, rfl⟩ := H2
  have d4 : decide (m1 < 0) = false := decide_eq_false c4
  have d5 : decide (512 ≤ (b2.length : Int)) = false := decide_eq_false (by omega)
  clear c4 c5 H1
  go_wp2_with (first | (go_at_call 69; (with_reducible refine (slices_Insert_impl_Span_impl_Span.calls (fun k_ => some k_ = (.slice A7 b2.length c7 : Value).ownBlock) _ b2 m2 ⟨m1, e8⟩ w9.heap.size y w _ (below_alloc hB9.out _) (Kd.R_tight rfl (Kd.R_alloc HO.out _)) (blk_new _ _) (fun e_ => by have := Kd.R_lt HO.out _ e_.symm; omega) hin.out).mono ?_); rintro e w10 ⟨v9, rfl, ho_, hB_, hK_⟩; clear hz0 hz1 hr0 hr1 hf0 hf1 hq0 hq1; have n1 := Aside0.mk (blk_kept (blk_alloc hbb.out _) hK_ (fun hs_ => (Kd.R_ne HO.out hbb.out (by decide)) hs_)); have n2 := Aside0.mk (blk_kept (blk_alloc hbr.out _) hK_ (fun hs_ => (Kd.R_ne HO.out hbr.out (by decide)) hs_)); clear hbb hbr; have hbb := n1; have hbr := n2; have HO9 := Aside0.mk (Kd.R_mono (ok' := fun _ => True) ho_ (fun _ _ => trivial)); have hB10 := Aside0.mk hB_; clear ho_ hB_ hK_ n1 n2 HO hB9; obtain ⟨A9, c9, e9⟩ := Kd.R_slice HO9.out; subst e9; have hz0 : w10.cell? ⟨gb, 0, none⟩ = some (.int .i64 b1) := (blk_cell hbb.out 0).trans rfl; have hz1 : w10.cell? ⟨gb, 1, none⟩ = some (.slice A7 b2.length c7) := (blk_cell hbb.out 1).trans rfl; have hr0 : w10.cell? ⟨gr, 0, none⟩ = some (.int .i64 0) := (blk_cell hbr.out 0).trans rfl; have hr1 : w10.cell? ⟨gr, 1, none⟩ = some (.slice none 0 0) := (blk_cell hbr.out 1).trans rfl; have hf0 := blk_frozen hbr.out 0; have hf1 := blk_frozen hbr.out 1; have hq0 := blk_frozen hbb.out 0; have hq1 := blk_frozen hbb.out 1))
  refine bodyPost_ret (results_ct rfl _ _ gr 29 #[.int .i64 b1, .slice A9 y.length c9] (0, 0) _ rfl (by refine blk_put (cs := #[.int .i64 b1, .slice none 0 0]) ?_ 1 _ rfl; refine blk_put (cs := #[.int .i64 0, .slice none 0 0]) ?_ 0 _ rfl; exact blk_far hbr.out hne2 _) Try.underlying29 rfl (by kernel_rfl)) rfl ?_
  exact ⟨_, rfl, Kd.R_mono (Kd.R_far (p := ⟨gr, 1, none⟩) (Kd.R_far (p := ⟨gr, 0, none⟩) (Kd.R_types (Kd.R_far (p := ⟨gb, 1, none⟩) (Kd.R_types HO9.out hbb.out (by decide)) (fun _ hk => hk.2) _) (blk_far hbr.out hne2 _) (by decide)) (fun _ hk => hk.2) _) (fun _ hk => hk.2) _) (fun _ _ => trivial), below_set (below_set (below_set hB10.out hgb.out) hgr.out) hgr.out⟩

end Go.Proofs.Ytmjdmaomakkhgaa.PFnExactHeapTake
