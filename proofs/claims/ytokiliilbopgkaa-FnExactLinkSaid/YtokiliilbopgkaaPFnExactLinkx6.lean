-- Written by a program of this session out of the translation. Not trusted: Lean checks it.
import Derived.Test.YtokiliilbopgkaaPFnExactLinkx0
import Derived.Test.YtokiliilbopgkaaPFnExactLinkx5
namespace Go.Proofs.Ytokiliilbopgkaa.PFnExactLink
open Go.RowKit Go.Proofs.YtokiliilbopgkaaW.PrintWords Go.Proofs.YtokiliilbopgkaaW.PrintLast Go.Proofs.YtokiliilbopgkaaW.PrintMore
attribute [local go_sem] max2_int min2_int max_two min_two max_three min_three max_four min_four   -- for this text's walks alone
set_option linter.unusedVariables false
set_option linter.unusedSimpArgs false
theorem Z6_14 {P : Prop} (h : P := by rw [hg]; exact (below_size Z6_11)) : P := h
theorem Z6_13 {P : Prop} (h : P := by have := HJ1.out; have := HK2.out; omega) : P := h
theorem Z6_12 {P : Prop} (h : P := by first | rfl | (simp [errW_none, errW_some] <;> rfl) | (simp [*, errW_none, errW_some] <;> rfl)) : P := h
theorem Z6_11 {P : Prop} (h : P := by repeat (first | (with_reducible first | exact HB.out | apply below_alloc | apply pw_below_drewN | apply below_drew1) | exact HB.out)) : P := h
theorem Z6_10 {P : Prop} (h : P := by first | (with_reducible assumption) | assumption) : P := h
theorem Z6_9 {P : Prop} (h : P := by first | (go_simp; done) | (go_simp; rfl)) : P := h
theorem Z6_8 {P : Prop} (h : P := by first | rfl | exact congrArg (Value.int .i64) (i64_w _) | (simp; done) | (simp [*]; done)) : P := h
theorem Z6_7 {P : Prop} (h : P := by rw [hg]; exact (below_size Z6_1)) : P := h
theorem Z6_6 {P : Prop} (h : P := by repeat (first | (with_reducible first | exact HB.out | apply below_alloc | apply pw_below_drewN | apply below_drew1 | refine below_set ?_ GE185.out | refine below_set ?_ GE187.out) | exact HB.out)) : P := h
theorem Z6_5 {P : Prop} (h : P := by (with_reducible repeat (first | apply blk_drewN | apply blk_drew | apply blk_alloc)); refine blk_far ?_ NB185_187.out _; (with_reducible repeat (first | apply blk_drewN | apply blk_drew | apply blk_alloc)); refine blk_far ?_ NB185_187.out _; (with_reducible repeat (first | apply blk_drewN | apply blk_drew | apply blk_alloc)); refine blk_far ?_ NB185_187.out _; (with_reducible repeat (first | apply blk_drewN | apply blk_drew | apply blk_alloc)); refine blk_far ?_ NB185_187.out _; (with_reducible repeat (first | apply blk_drewN | apply blk_drew | apply blk_alloc)); exact BK185.out) : P := h
theorem Z6_4 {P : Prop} (h : P := by rw [hg]; exact Nat.ne_of_gt (blk_lt (g := gb185) (o := .cells #[.int .i64 a0_0, .slice (some ad186) l0_1.length c0_1] 29 (0, 0)) Z6_2)) : P := h
theorem Z6_3 {P : Prop} (h : P := by rw [hg]; exact Nat.ne_of_lt (blk_lt (g := gb185) (o := .cells #[.int .i64 a0_0, .slice (some ad186) l0_1.length c0_1] 29 (0, 0)) Z6_2)) : P := h
theorem Z6_2 {P : Prop} (h : P := by (with_reducible repeat (first | apply blk_drewN | apply blk_drew | apply blk_alloc)); exact BK185.out) : P := h
theorem Z6_1 {P : Prop} (h : P := by repeat (first | (with_reducible first | exact HB.out | apply below_alloc | apply pw_below_drewN | apply below_drew1 | refine below_set ?_ GE185.out) | exact HB.out)) : P := h

/-! ### impl_ImageOk: function 10 -/
mutual
def impl_ImageOk.j0 : Nat → Bool → Int → List (S58) → Option (Bool)
 | 0, _, _, _ => none
 | k + 1, x22, x186000, x186001 => if x22 = true then (some false) else (impl_ImageOk.l0 k 256 false x186001 (x186001.length : Int) 0 x186000 x186001)
def impl_ImageOk.l0 : Nat → Int → Bool → List (S58) → Int → Int → Int → List (S58) → Option (Bool)
 | 0, _, _, _, _, _, _, _ => none
 | k + 1, x3, x4, x24, x25, x26, x186000, x186001 => if x26 < x25 then (if 0 ≤ x26 then (if x26 < (x24.length : Int) then (if (Int.tmod ((rd_T58 x24 x26).f0) 256) = 0 then (if ((rd_T58 x24 x26).f0) < x3 then (some false) else (if ((rd_T58 x24 x26).f0) > 4194304 then (some false) else (if ((rd_T58 x24 x26).f2) < 1 then (some false) else (if ((rd_T58 x24 x26).f2) > 65536 then (some false) else (if (wrap64 (((rd_T58 x24 x26).f0) + ((rd_T58 x24 x26).f2))) > 4194304 then (some false) else (if (((rd_T58 x24 x26).f3).length : Int) > ((rd_T58 x24 x26).f2) then (some false) else (if ((rd_T58 x24 x26).f1) = 1 then ((impl_pages.f ((rd_T58 x24 x26).f2)).bind fun t188 => (if x4 = true then (impl_ImageOk.l0 k (wrap64 (((rd_T58 x24 x26).f0) + t188)) true x24 x25 (wrap64 (x26 + 1)) x186000 x186001) else (if ((rd_T58 x24 x26).f1) = 5 then (if x186000 ≥ ((rd_T58 x24 x26).f0) then (impl_ImageOk.l0 k (wrap64 (((rd_T58 x24 x26).f0) + t188)) (decide (x186000 < (wrap64 (((rd_T58 x24 x26).f0) + ((rd_T58 x24 x26).f2))))) x24 x25 (wrap64 (x26 + 1)) x186000 x186001) else (impl_ImageOk.l0 k (wrap64 (((rd_T58 x24 x26).f0) + t188)) false x24 x25 (wrap64 (x26 + 1)) x186000 x186001)) else (impl_ImageOk.l0 k (wrap64 (((rd_T58 x24 x26).f0) + t188)) false x24 x25 (wrap64 (x26 + 1)) x186000 x186001)))) else (if ((rd_T58 x24 x26).f1) = 3 then ((impl_pages.f ((rd_T58 x24 x26).f2)).bind fun t189 => (if x4 = true then (impl_ImageOk.l0 k (wrap64 (((rd_T58 x24 x26).f0) + t189)) true x24 x25 (wrap64 (x26 + 1)) x186000 x186001) else (if ((rd_T58 x24 x26).f1) = 5 then (if x186000 ≥ ((rd_T58 x24 x26).f0) then (impl_ImageOk.l0 k (wrap64 (((rd_T58 x24 x26).f0) + t189)) (decide (x186000 < (wrap64 (((rd_T58 x24 x26).f0) + ((rd_T58 x24 x26).f2))))) x24 x25 (wrap64 (x26 + 1)) x186000 x186001) else (impl_ImageOk.l0 k (wrap64 (((rd_T58 x24 x26).f0) + t189)) false x24 x25 (wrap64 (x26 + 1)) x186000 x186001)) else (impl_ImageOk.l0 k (wrap64 (((rd_T58 x24 x26).f0) + t189)) false x24 x25 (wrap64 (x26 + 1)) x186000 x186001)))) else (if ((rd_T58 x24 x26).f1) = 5 then ((impl_pages.f ((rd_T58 x24 x26).f2)).bind fun t190 => (if x4 = true then (impl_ImageOk.l0 k (wrap64 (((rd_T58 x24 x26).f0) + t190)) true x24 x25 (wrap64 (x26 + 1)) x186000 x186001) else (if x186000 ≥ ((rd_T58 x24 x26).f0) then (impl_ImageOk.l0 k (wrap64 (((rd_T58 x24 x26).f0) + t190)) (decide (x186000 < (wrap64 (((rd_T58 x24 x26).f0) + ((rd_T58 x24 x26).f2))))) x24 x25 (wrap64 (x26 + 1)) x186000 x186001) else (impl_ImageOk.l0 k (wrap64 (((rd_T58 x24 x26).f0) + t190)) false x24 x25 (wrap64 (x26 + 1)) x186000 x186001)))) else (some false)))))))))) else (some false)) else (none)) else (none)) else (some x4)
end
def impl_ImageOk.f (k : Nat) (a0_0 : Int) (l0_1 : List (S58)) : Option (Bool) := if (l0_1.length : Int) < 1 then (impl_ImageOk.j0 k true a0_0 l0_1) else (if (l0_1.length : Int) > 8 then (impl_ImageOk.j0 k true a0_0 l0_1) else (impl_ImageOk.j0 k ((Int.tmod a0_0 4) != 0) a0_0 l0_1))
theorem impl_ImageOk.mono_l : ∀ k, (∀ y0 y1 y2, LeO (impl_ImageOk.j0 k y0 y1 y2) (impl_ImageOk.j0 (k + 1) y0 y1 y2)) ∧ (∀ y0 y1 y2 y3 y4 y5 y6, LeO (impl_ImageOk.l0 k y0 y1 y2 y3 y4 y5 y6) (impl_ImageOk.l0 (k + 1) y0 y1 y2 y3 y4 y5 y6))
 | 0 => ⟨fun _ _ _ r h => by simp [impl_ImageOk.j0] at h, fun _ _ _ _ _ _ _ r h => by simp [impl_ImageOk.l0] at h⟩
 | k + 1 => by
  obtain ⟨ih0, ih1⟩ := impl_ImageOk.mono_l k
  refine ⟨?_, ?_⟩
  ·intro y0 y1 y2
   unfold impl_ImageOk.j0
   repeat' first
   | (with_reducible exact ih0 _ _ _)
   | (with_reducible exact ih1 _ _ _ _ _ _ _)
   | (with_reducible exact LeO.refl _)
   | (with_reducible exact LeO.none _)
   | (with_reducible refine LeO.ite ?_ ?_)
   | (with_reducible refine LeO.bind ?_ (fun _ => ?_))
   | exact ih0 _ _ _
   | exact ih1 _ _ _ _ _ _ _
   | exact LeO.none _
   | refine LeO.ite ?_ ?_
   | refine LeO.bind ?_ (fun _ => ?_)
  ·intro y0 y1 y2 y3 y4 y5 y6
   unfold impl_ImageOk.l0
   repeat' first
   | (with_reducible exact ih0 _ _ _)
   | (with_reducible exact ih1 _ _ _ _ _ _ _)
   | (with_reducible exact LeO.refl _)
   | (with_reducible exact LeO.none _)
   | (with_reducible refine LeO.ite ?_ ?_)
   | (with_reducible refine LeO.bind ?_ (fun _ => ?_))
   | exact ih0 _ _ _
   | exact ih1 _ _ _ _ _ _ _
   | exact LeO.none _
   | refine LeO.ite ?_ ?_
   | refine LeO.bind ?_ (fun _ => ?_)
theorem impl_ImageOk.mono : ∀ a0 a1 k, LeO (impl_ImageOk.f k a0 a1) (impl_ImageOk.f (k + 1) a0 a1) := by
 intro a0 a1 k
 obtain ⟨ih0, ih1⟩ := impl_ImageOk.mono_l k
 unfold impl_ImageOk.f
 repeat' first
   | (with_reducible exact ih0 _ _ _)
   | (with_reducible exact ih1 _ _ _ _ _ _ _)
   | (with_reducible exact LeO.refl _)
   | (with_reducible exact LeO.none _)
   | (with_reducible refine LeO.ite ?_ ?_)
   | (with_reducible refine LeO.bind ?_ (fun _ => ?_))
   | exact ih0 _ _ _
   | exact ih1 _ _ _ _ _ _ _
   | exact LeO.none _
   | refine LeO.ite ?_ ?_
   | refine LeO.bind ?_ (fun _ => ?_)
set_option maxHeartbeats 8000000 in
set_option maxRecDepth 100000 in
theorem impl_ImageOk.calls (k : Nat) (a0_0 : Int) (A0_1 : Option Addr) (c0_1 : Nat) (l0_1 : List (S58)) (r : Bool) (w : World) (hr0_1 : Kd.C k58 w A0_1 l0_1.length l0_1) (hc0_1 : l0_1.length ≤ c0_1) (h : impl_ImageOk.f k a0_0 l0_1 = some r) :
  Calls Try.prog 10 #[.agg #[.int .i64 a0_0, .slice A0_1 l0_1.length c0_1]] w fun e w' => e = .returned (.bool r) ∧ Below w.heap.size w w' := by
 have hu29 := Try.underlying29
 have hu58 := Try.underlying58
 have HR0_1 := Aside0.mk hr0_1
 have HC0_1 := Aside0.mk hc0_1
 clear hr0_1 hc0_1
 have HB := Aside0.mk (Below.refl w.heap.size w)
 have H : (if (l0_1.length : Int) < 1 then (impl_ImageOk.j0 k true a0_0 l0_1) else (if (l0_1.length : Int) > 8 then (impl_ImageOk.j0 k true a0_0 l0_1) else (impl_ImageOk.j0 k ((Int.tmod a0_0 4) != 0) a0_0 l0_1))) = some r := h
 clear h
 have HC2 := Aside0.mk H
 clear H
 go_enter Try.func10, Try.ntmps10
 go_upto_region 1 with (first | ((with_reducible refine gate_dst (N := 1) rfl ?_); (try (refine gate_guard (by rfl) ?_; dsimp only)); refine box_event ?hg (N := 1) ?hd (cs := #[.int .i64 a0_0, .slice A0_1 l0_1.length c0_1]) (t := 29) ?hr ?_; (case hd => rfl); (case hg => rfl); (case hr => exact Z6_9); intro gb185 hg w3 hbox hb; have n0_ := Aside0.mk (below_step Z6_11 hb); have n1_ := Aside0.mk (hbox); have n2_ := Aside0.mk ((Z6_14 : w.heap.size ≤ gb185)); have n3_ := Aside0.mk ((Z6_14 : w.heap.size ≤ gb185)); clear HB; have HB := n0_; have BK185 := n1_; have GW185 := n2_; have GE185 := n3_; clear n0_ n1_ n2_ n3_; clear hb hbox hg))
 repeat (go_quiet (first | ((with_reducible refine gate_dst (N := 1) rfl ?_); (try (refine gate_guard (by rfl) ?_; dsimp only)); refine box_event ?hg (N := 1) ?hd (cs := #[.int .i64 a0_0, .slice A0_1 l0_1.length c0_1]) (t := 29) ?hr ?_; (case hd => rfl); (case hg => rfl); (case hr => exact Z6_9); intro gb185 hg w3 hbox hb; have n0_ := Aside0.mk (below_step Z6_11 hb); have n1_ := Aside0.mk (hbox); have n2_ := Aside0.mk ((Z6_14 : w.heap.size ≤ gb185)); have n3_ := Aside0.mk ((Z6_14 : w.heap.size ≤ gb185)); clear HB; have HB := n0_; have BK185 := n1_; have GW185 := n2_; have GE185 := n3_; clear n0_ n1_ n2_ n3_; clear hb hbox hg)); go_upto_region 1 with (first | ((with_reducible refine gate_dst (N := 1) rfl ?_); (try (refine gate_guard (by rfl) ?_; dsimp only)); refine box_event ?hg (N := 1) ?hd (cs := #[.int .i64 a0_0, .slice A0_1 l0_1.length c0_1]) (t := 29) ?hr ?_; (case hd => rfl); (case hg => rfl); (case hr => exact Z6_9); intro gb185 hg w3 hbox hb; have n0_ := Aside0.mk (below_step Z6_11 hb); have n1_ := Aside0.mk (hbox); have n2_ := Aside0.mk ((Z6_14 : w.heap.size ≤ gb185)); have n3_ := Aside0.mk ((Z6_14 : w.heap.size ≤ gb185)); clear HB; have HB := n0_; have BK185 := n1_; have GW185 := n2_; have GE185 := n3_; clear n0_ n1_ n2_ n3_; clear hb hbox hg)))
 (try simp only [Act.put, List.setIfInBounds_toArray, List.set_cons_zero, List.set_cons_succ])
 go_cut [22] (fun v22 wc => ∃ (kq : Nat) (x22_1 : Bool), v22 = .bool x22_1 ∧ Aside0 (impl_ImageOk.j0 kq x22_1 a0_0 l0_1 = some r) ∧ Aside0 (kq ≤ k) ∧ Aside0 (wc.heap[gb185]? = some (.cells #[.int .i64 a0_0, (.slice A0_1 l0_1.length c0_1)] 29 (0, 0))) ∧ Aside0 (Below w.heap.size w wc))
 case first =>
  have H := HC2.out
  clear HC2
  by_cases c4 : (l0_1.length : Int) < 1
  ·rw [if_pos c4] at H
   have c4b0 : decide ((l0_1.length : Int) < 1) = true := decide_eq_true c4
   have c4b1 : decide (l0_1.length < 1) = true := decide_eq_true (by omega)
   clear c4
   (first | rw [c4b0] | (simp only [i64_w, i32_w]; rw [c4b0]) | skip)
   have H' := Aside0.mk H
   clear H
   have hcz5_0 : w3.cell? ⟨gb185, 0, none⟩ = some (.int .i64 a0_0) := (blk_cell BK185.out 0).trans rfl
   have hcz5_1 : w3.cell? ⟨gb185, 1, none⟩ = some (.slice A0_1 l0_1.length c0_1) := (blk_cell BK185.out 1).trans rfl
   have hfz5_0 := blk_frozen BK185.out 0
   have hfz5_1 := blk_frozen BK185.out 1
   go_wp2
   repeat (go_quiet (fail); try go_wp2)
   go_meet
   case rel => exact ⟨_, (true), Z6_8, H', ⟨by first | omega | exact Nat.le_refl _⟩, ⟨Z6_2⟩, ⟨Z6_1⟩⟩
  rw [if_neg c4] at H
  have c4b0 : decide ((l0_1.length : Int) < 1) = false := decide_eq_false c4
  have c4b1 : decide (l0_1.length < 1) = false := decide_eq_false (by omega)
  clear c4
  (first | rw [c4b0] | (simp only [i64_w, i32_w]; rw [c4b0]) | skip)
  by_cases c6 : (l0_1.length : Int) > 8
  ·rw [if_pos c6] at H
   have c6b0 : decide (8 < (l0_1.length : Int)) = true := decide_eq_true c6
   have c6b1 : decide (8 < l0_1.length) = true := decide_eq_true (by omega)
   clear c6
   have H' := Aside0.mk H
   clear H
   have hcz7_0 : w3.cell? ⟨gb185, 0, none⟩ = some (.int .i64 a0_0) := (blk_cell BK185.out 0).trans rfl
   have hcz7_1 : w3.cell? ⟨gb185, 1, none⟩ = some (.slice A0_1 l0_1.length c0_1) := (blk_cell BK185.out 1).trans rfl
   have hfz7_0 := blk_frozen BK185.out 0
   have hfz7_1 := blk_frozen BK185.out 1
   go_wp2
   repeat (go_quiet (fail); try go_wp2)
   go_meet
   case rel => exact ⟨_, (true), Z6_8, H', ⟨by first | omega | exact Nat.le_refl _⟩, ⟨Z6_2⟩, ⟨Z6_1⟩⟩
  rw [if_neg c6] at H
  have c6b0 : decide (8 < (l0_1.length : Int)) = false := decide_eq_false c6
  have c6b1 : decide (8 < l0_1.length) = false := decide_eq_false (by omega)
  clear c6
  have H' := Aside0.mk H
  clear H
  have hcz8_0 : w3.cell? ⟨gb185, 0, none⟩ = some (.int .i64 a0_0) := (blk_cell BK185.out 0).trans rfl
  have hcz8_1 : w3.cell? ⟨gb185, 1, none⟩ = some (.slice A0_1 l0_1.length c0_1) := (blk_cell BK185.out 1).trans rfl
  have hfz8_0 := blk_frozen BK185.out 0
  have hfz8_1 := blk_frozen BK185.out 1
  go_wp2
  repeat (go_quiet (fail); try go_wp2)
  go_meet
  case rel => exact ⟨_, (((Int.tmod a0_0 4) != 0)), Z6_8, H', ⟨by first | omega | exact Nat.le_refl _⟩, ⟨Z6_2⟩, ⟨Z6_1⟩⟩
 clear HC2
 try clear c1
 try clear p2
 try clear c4
 try clear c4b0
 try clear c4b1
 try clear c6
 try clear c6b0
 try clear c6b1
 try clear hcz5_0
 try clear hcz5_1
 try clear hcz7_0
 try clear hcz7_1
 try clear hcz8_0
 try clear hcz8_1
 try clear hfz5_0
 try clear hfz5_1
 try clear hfz7_0
 try clear hfz7_1
 try clear hfz8_0
 try clear hfz8_1
 obtain ⟨kq, x22_1, rfl, HA, HJ1, BK185, HB⟩ := hcut
 cases kq with
 | zero => exact absurd HA.out (by simp [impl_ImageOk.j0])
 | succ kj1 =>
  have H := HA.out
  clear HA
  simp only [impl_ImageOk.j0] at H
  by_cases c9 : x22_1 = true
  ·subst c9
   have H1 : (some false) = some r := by rw [if_pos rfl] at H; exact H
   clear H
   have H := H1
   clear H1
   obtain rfl := Option.some.inj H
   go_wp2
   repeat (go_quiet (fail); try go_wp2)
   go_ret
   exact ⟨Z6_12, Z6_1⟩
  replace c9 := Bool.eq_false_iff.mpr c9
  subst c9
  have H1 : (impl_ImageOk.l0 kj1 256 false l0_1 (l0_1.length : Int) 0 a0_0 l0_1) = some r := by rw [if_neg (show ¬ (false = true) by decide)] at H; exact H
  clear H
  have H := H1
  clear H1
  have H' := Aside0.mk H
  clear H
  have hcz10_0 : wc.cell? ⟨gb185, 0, none⟩ = some (.int .i64 a0_0) := (blk_cell BK185.out 0).trans rfl
  have hcz10_1 : wc.cell? ⟨gb185, 1, none⟩ = some (.slice A0_1 l0_1.length c0_1) := (blk_cell BK185.out 1).trans rfl
  have hfz10_0 := blk_frozen BK185.out 0
  have hfz10_1 := blk_frozen BK185.out 1
  go_wp2
  repeat (go_quiet (fail); try go_wp2)
  go_loopg [3, 4, 26] kj1 (fun kq v3 v4 v26 w' => ∃ (x3_2 : Int) (x4_2 : Bool) (x26_2 : Int), v3 = .int .i64 x3_2 ∧ v4 = .bool x4_2 ∧ v26 = .int .i64 x26_2 ∧ Aside0 (impl_ImageOk.l0 kq x3_2 x4_2 l0_1 (l0_1.length : Int) x26_2 a0_0 l0_1 = some r) ∧ Aside0 (kq ≤ kj1) ∧ Aside0 (w'.heap[gb185]? = some (.cells #[.int .i64 a0_0, (.slice A0_1 l0_1.length c0_1)] 29 (0, 0))) ∧ Aside0 (Below w.heap.size w w'))
  case atStart => exact ⟨(256), (false), (0), Z6_8, Z6_8, Z6_8, H', ⟨Nat.le_refl _⟩, ⟨Z6_2⟩, ⟨Z6_1⟩⟩
  clear H'
  try clear c1
  try clear p2
  try clear c4
  try clear c4b0
  try clear c4b1
  try clear c6
  try clear c6b0
  try clear c6b1
  try clear c9
  try clear c10
  try clear hcz10_0
  try clear hcz10_1
  try clear hcz5_0
  try clear hcz5_1
  try clear hcz7_0
  try clear hcz7_1
  try clear hcz8_0
  try clear hcz8_1
  try clear hfz10_0
  try clear hfz10_1
  try clear hfz5_0
  try clear hfz5_1
  try clear hfz7_0
  try clear hfz7_1
  try clear hfz8_0
  try clear hfz8_1
  try clear p2
  obtain ⟨x3_2, x4_2, x26_2, rfl, rfl, rfl, HA, HK2, BK185, HB⟩ := hrel
  cases gk with
  | zero => exact absurd HA.out (by simp [impl_ImageOk.l0])
  | succ k2 =>
   have H := HA.out
   clear HA
   simp only [impl_ImageOk.l0] at H
   by_cases c11 : x26_2 < (l0_1.length : Int)
   ·rw [if_pos c11] at H
    have c11b0 : decide (x26_2 < (l0_1.length : Int)) = true := decide_eq_true c11
    clear c11
    by_cases c12 : 0 ≤ x26_2
    ·rw [if_pos c12] at H
     have c12b0 : decide (0 ≤ x26_2) = true := decide_eq_true c12
     clear c12
     by_cases c13 : x26_2 < (l0_1.length : Int)
     ·rw [if_pos c13] at H
      have c13b0 : decide (x26_2 < (l0_1.length : Int)) = true := decide_eq_true c13
      clear c13
      by_cases c14 : (Int.tmod ((rd_T58 l0_1 x26_2).f0) 256) = 0
      ·rw [if_pos c14] at H
       have c14b0 : ((Int.tmod ((rd_T58 l0_1 x26_2).f0) 256) == 0) = true := beq_iff_eq.mpr c14
       have c14b1 : ((Int.tmod ((rd_T58 l0_1 x26_2).f0) 256) != 0) = false := bne_eq_false_iff_eq.mpr c14
       clear c14
       by_cases c15 : ((rd_T58 l0_1 x26_2).f0) < x3_2
       ·rw [if_pos c15] at H
        have c15b0 : decide (((rd_T58 l0_1 x26_2).f0) < x3_2) = true := decide_eq_true c15
        clear c15
        obtain rfl := Option.some.inj H
        have p186 : 0 ≤ (x26_2 : Int) := of_decide_eq_true Z6_10
        have q186 : x26_2 < (l0_1.length : Int) := of_decide_eq_true Z6_10
        obtain ⟨ad186, A186_3, c186_3, e186, hx186_0, hx186_1, hx186_2, hx186_3, hl186_3, hi186_3⟩ := at_T58 HR0_1.out x26_2 p186 q186
        cases e186
        replace hx186_0 := (HB.out.cell (World.block_lt_of_cell? w _ hx186_0)).trans hx186_0
        replace hx186_1 := (HB.out.cell (World.block_lt_of_cell? w _ hx186_1)).trans hx186_1
        replace hx186_2 := (HB.out.cell (World.block_lt_of_cell? w _ hx186_2)).trans hx186_2
        replace hx186_3 := (HB.out.cell (World.block_lt_of_cell? w _ hx186_3)).trans hx186_3
        have HR186_3 := Aside0.mk hi186_3
        have HC186_3 := Aside0.mk hl186_3
        clear hi186_3 hl186_3
        replace p186 := eq_true p186
        replace q186 := eq_true q186
        go_wp2_with (first | ((with_reducible refine gate_dst (N := 6) rfl ?_); (try (refine gate_guard (by rfl) ?_; dsimp only)); refine box_event ?hg (N := 6) ?hd (cs := #[.int .i64 0, .int .i64 0, .int .i64 0, .slice none 0 0]) (t := 58) ?hr ?_; (case hd => rfl); (case hg => rfl); (case hr => exact Z6_9); intro gb187 hg w16 hbox hb; have n0_ := Aside0.mk (blk_below (g := gb185) (o := .cells #[.int .i64 a0_0, .slice (some ad186) l0_1.length c0_1] 29 (0, 0)) Z6_2 hb); have n1_ := Aside0.mk (below_step Z6_1 hb); have n2_ := Aside0.mk (hbox); have n3_ := Aside0.mk ((Z6_7 : w.heap.size ≤ gb187)); have n4_ := Aside0.mk ((Z6_7 : w.heap.size ≤ gb187)); have n5_ := Aside0.mk ((Z6_3 : gb185 ≠ gb187)); have n6_ := Aside0.mk ((Z6_4 : gb187 ≠ gb185)); clear BK185; clear HB; have BK185 := n0_; have HB := n1_; have BK187 := n2_; have GW187 := n3_; have GE187 := n4_; have NB185_187 := n5_; have NB187_185 := n6_; clear n0_ n1_ n2_ n3_ n4_ n5_ n6_; clear hb hbox hg; have hnb17 := NB187_185.out; have hnc17 := NB185_187.out; have hcz18_0 : w16.cell? ⟨gb187, 0, none⟩ = some (.int .i64 0) := (blk_cell BK187.out 0).trans rfl; have hcz18_1 : w16.cell? ⟨gb187, 1, none⟩ = some (.int .i64 0) := (blk_cell BK187.out 1).trans rfl; have hcz18_2 : w16.cell? ⟨gb187, 2, none⟩ = some (.int .i64 0) := (blk_cell BK187.out 2).trans rfl; have hcz18_3 : w16.cell? ⟨gb187, 3, none⟩ = some (.slice none 0 0) := (blk_cell BK187.out 3).trans rfl; have hfz18_0 := blk_frozen BK187.out 0; have hfz18_1 := blk_frozen BK187.out 1; have hfz18_2 := blk_frozen BK187.out 2; have hfz18_3 := blk_frozen BK187.out 3))
        repeat (go_quiet (first | ((with_reducible refine gate_dst (N := 6) rfl ?_); (try (refine gate_guard (by rfl) ?_; dsimp only)); refine box_event ?hg (N := 6) ?hd (cs := #[.int .i64 0, .int .i64 0, .int .i64 0, .slice none 0 0]) (t := 58) ?hr ?_; (case hd => rfl); (case hg => rfl); (case hr => exact Z6_9); intro gb187 hg w16 hbox hb; have n0_ := Aside0.mk (blk_below (g := gb185) (o := .cells #[.int .i64 a0_0, .slice (some ad186) l0_1.length c0_1] 29 (0, 0)) Z6_2 hb); have n1_ := Aside0.mk (below_step Z6_1 hb); have n2_ := Aside0.mk (hbox); have n3_ := Aside0.mk ((Z6_7 : w.heap.size ≤ gb187)); have n4_ := Aside0.mk ((Z6_7 : w.heap.size ≤ gb187)); have n5_ := Aside0.mk ((Z6_3 : gb185 ≠ gb187)); have n6_ := Aside0.mk ((Z6_4 : gb187 ≠ gb185)); clear BK185; clear HB; have BK185 := n0_; have HB := n1_; have BK187 := n2_; have GW187 := n3_; have GE187 := n4_; have NB185_187 := n5_; have NB187_185 := n6_; clear n0_ n1_ n2_ n3_ n4_ n5_ n6_; clear hb hbox hg; have hnb17 := NB187_185.out; have hnc17 := NB185_187.out; have hcz18_0 : w16.cell? ⟨gb187, 0, none⟩ = some (.int .i64 0) := (blk_cell BK187.out 0).trans rfl; have hcz18_1 : w16.cell? ⟨gb187, 1, none⟩ = some (.int .i64 0) := (blk_cell BK187.out 1).trans rfl; have hcz18_2 : w16.cell? ⟨gb187, 2, none⟩ = some (.int .i64 0) := (blk_cell BK187.out 2).trans rfl; have hcz18_3 : w16.cell? ⟨gb187, 3, none⟩ = some (.slice none 0 0) := (blk_cell BK187.out 3).trans rfl; have hfz18_0 := blk_frozen BK187.out 0; have hfz18_1 := blk_frozen BK187.out 1; have hfz18_2 := blk_frozen BK187.out 2; have hfz18_3 := blk_frozen BK187.out 3)); try go_wp2_with (first | ((with_reducible refine gate_dst (N := 6) rfl ?_); (try (refine gate_guard (by rfl) ?_; dsimp only)); refine box_event ?hg (N := 6) ?hd (cs := #[.int .i64 0, .int .i64 0, .int .i64 0, .slice none 0 0]) (t := 58) ?hr ?_; (case hd => rfl); (case hg => rfl); (case hr => exact Z6_9); intro gb187 hg w16 hbox hb; have n0_ := Aside0.mk (blk_below (g := gb185) (o := .cells #[.int .i64 a0_0, .slice (some ad186) l0_1.length c0_1] 29 (0, 0)) Z6_2 hb); have n1_ := Aside0.mk (below_step Z6_1 hb); have n2_ := Aside0.mk (hbox); have n3_ := Aside0.mk ((Z6_7 : w.heap.size ≤ gb187)); have n4_ := Aside0.mk ((Z6_7 : w.heap.size ≤ gb187)); have n5_ := Aside0.mk ((Z6_3 : gb185 ≠ gb187)); have n6_ := Aside0.mk ((Z6_4 : gb187 ≠ gb185)); clear BK185; clear HB; have BK185 := n0_; have HB := n1_; have BK187 := n2_; have GW187 := n3_; have GE187 := n4_; have NB185_187 := n5_; have NB187_185 := n6_; clear n0_ n1_ n2_ n3_ n4_ n5_ n6_; clear hb hbox hg; have hnb17 := NB187_185.out; have hnc17 := NB185_187.out; have hcz18_0 : w16.cell? ⟨gb187, 0, none⟩ = some (.int .i64 0) := (blk_cell BK187.out 0).trans rfl; have hcz18_1 : w16.cell? ⟨gb187, 1, none⟩ = some (.int .i64 0) := (blk_cell BK187.out 1).trans rfl; have hcz18_2 : w16.cell? ⟨gb187, 2, none⟩ = some (.int .i64 0) := (blk_cell BK187.out 2).trans rfl; have hcz18_3 : w16.cell? ⟨gb187, 3, none⟩ = some (.slice none 0 0) := (blk_cell BK187.out 3).trans rfl; have hfz18_0 := blk_frozen BK187.out 0; have hfz18_1 := blk_frozen BK187.out 1; have hfz18_2 := blk_frozen BK187.out 2; have hfz18_3 := blk_frozen BK187.out 3)))
        go_ret
        exact ⟨Z6_12, Z6_6⟩
       rw [if_neg c15] at H
       have c15b0 : decide (((rd_T58 l0_1 x26_2).f0) < x3_2) = false := decide_eq_false c15
       clear c15
       by_cases c19 : ((rd_T58 l0_1 x26_2).f0) > 4194304
       ·rw [if_pos c19] at H
        have c19b0 : decide (4194304 < ((rd_T58 l0_1 x26_2).f0)) = true := decide_eq_true c19
        clear c19
        obtain rfl := Option.some.inj H
        have p186 : 0 ≤ (x26_2 : Int) := of_decide_eq_true Z6_10
        have q186 : x26_2 < (l0_1.length : Int) := of_decide_eq_true Z6_10
        obtain ⟨ad186, A186_3, c186_3, e186, hx186_0, hx186_1, hx186_2, hx186_3, hl186_3, hi186_3⟩ := at_T58 HR0_1.out x26_2 p186 q186
        cases e186
        replace hx186_0 := (HB.out.cell (World.block_lt_of_cell? w _ hx186_0)).trans hx186_0
        replace hx186_1 := (HB.out.cell (World.block_lt_of_cell? w _ hx186_1)).trans hx186_1
        replace hx186_2 := (HB.out.cell (World.block_lt_of_cell? w _ hx186_2)).trans hx186_2
        replace hx186_3 := (HB.out.cell (World.block_lt_of_cell? w _ hx186_3)).trans hx186_3
        have HR186_3 := Aside0.mk hi186_3
        have HC186_3 := Aside0.mk hl186_3
        clear hi186_3 hl186_3
        replace p186 := eq_true p186
        replace q186 := eq_true q186
        go_wp2_with (first | ((with_reducible refine gate_dst (N := 6) rfl ?_); (try (refine gate_guard (by rfl) ?_; dsimp only)); refine box_event ?hg (N := 6) ?hd (cs := #[.int .i64 0, .int .i64 0, .int .i64 0, .slice none 0 0]) (t := 58) ?hr ?_; (case hd => rfl); (case hg => rfl); (case hr => exact Z6_9); intro gb187 hg w20 hbox hb; have n0_ := Aside0.mk (blk_below (g := gb185) (o := .cells #[.int .i64 a0_0, .slice (some ad186) l0_1.length c0_1] 29 (0, 0)) Z6_2 hb); have n1_ := Aside0.mk (below_step Z6_1 hb); have n2_ := Aside0.mk (hbox); have n3_ := Aside0.mk ((Z6_7 : w.heap.size ≤ gb187)); have n4_ := Aside0.mk ((Z6_7 : w.heap.size ≤ gb187)); have n5_ := Aside0.mk ((Z6_3 : gb185 ≠ gb187)); have n6_ := Aside0.mk ((Z6_4 : gb187 ≠ gb185)); clear BK185; clear HB; have BK185 := n0_; have HB := n1_; have BK187 := n2_; have GW187 := n3_; have GE187 := n4_; have NB185_187 := n5_; have NB187_185 := n6_; clear n0_ n1_ n2_ n3_ n4_ n5_ n6_; clear hb hbox hg; have hnb21 := NB187_185.out; have hnc21 := NB185_187.out; have hcz22_0 : w20.cell? ⟨gb187, 0, none⟩ = some (.int .i64 0) := (blk_cell BK187.out 0).trans rfl; have hcz22_1 : w20.cell? ⟨gb187, 1, none⟩ = some (.int .i64 0) := (blk_cell BK187.out 1).trans rfl; have hcz22_2 : w20.cell? ⟨gb187, 2, none⟩ = some (.int .i64 0) := (blk_cell BK187.out 2).trans rfl; have hcz22_3 : w20.cell? ⟨gb187, 3, none⟩ = some (.slice none 0 0) := (blk_cell BK187.out 3).trans rfl; have hfz22_0 := blk_frozen BK187.out 0; have hfz22_1 := blk_frozen BK187.out 1; have hfz22_2 := blk_frozen BK187.out 2; have hfz22_3 := blk_frozen BK187.out 3))
        repeat (go_quiet (first | ((with_reducible refine gate_dst (N := 6) rfl ?_); (try (refine gate_guard (by rfl) ?_; dsimp only)); refine box_event ?hg (N := 6) ?hd (cs := #[.int .i64 0, .int .i64 0, .int .i64 0, .slice none 0 0]) (t := 58) ?hr ?_; (case hd => rfl); (case hg => rfl); (case hr => exact Z6_9); intro gb187 hg w20 hbox hb; have n0_ := Aside0.mk (blk_below (g := gb185) (o := .cells #[.int .i64 a0_0, .slice (some ad186) l0_1.length c0_1] 29 (0, 0)) Z6_2 hb); have n1_ := Aside0.mk (below_step Z6_1 hb); have n2_ := Aside0.mk (hbox); have n3_ := Aside0.mk ((Z6_7 : w.heap.size ≤ gb187)); have n4_ := Aside0.mk ((Z6_7 : w.heap.size ≤ gb187)); have n5_ := Aside0.mk ((Z6_3 : gb185 ≠ gb187)); have n6_ := Aside0.mk ((Z6_4 : gb187 ≠ gb185)); clear BK185; clear HB; have BK185 := n0_; have HB := n1_; have BK187 := n2_; have GW187 := n3_; have GE187 := n4_; have NB185_187 := n5_; have NB187_185 := n6_; clear n0_ n1_ n2_ n3_ n4_ n5_ n6_; clear hb hbox hg; have hnb21 := NB187_185.out; have hnc21 := NB185_187.out; have hcz22_0 : w20.cell? ⟨gb187, 0, none⟩ = some (.int .i64 0) := (blk_cell BK187.out 0).trans rfl; have hcz22_1 : w20.cell? ⟨gb187, 1, none⟩ = some (.int .i64 0) := (blk_cell BK187.out 1).trans rfl; have hcz22_2 : w20.cell? ⟨gb187, 2, none⟩ = some (.int .i64 0) := (blk_cell BK187.out 2).trans rfl; have hcz22_3 : w20.cell? ⟨gb187, 3, none⟩ = some (.slice none 0 0) := (blk_cell BK187.out 3).trans rfl; have hfz22_0 := blk_frozen BK187.out 0; have hfz22_1 := blk_frozen BK187.out 1; have hfz22_2 := blk_frozen BK187.out 2; have hfz22_3 := blk_frozen BK187.out 3)); try go_wp2_with (first | ((with_reducible refine gate_dst (N := 6) rfl ?_); (try (refine gate_guard (by rfl) ?_; dsimp only)); refine box_event ?hg (N := 6) ?hd (cs := #[.int .i64 0, .int .i64 0, .int .i64 0, .slice none 0 0]) (t := 58) ?hr ?_; (case hd => rfl); (case hg => rfl); (case hr => exact Z6_9); intro gb187 hg w20 hbox hb; have n0_ := Aside0.mk (blk_below (g := gb185) (o := .cells #[.int .i64 a0_0, .slice (some ad186) l0_1.length c0_1] 29 (0, 0)) Z6_2 hb); have n1_ := Aside0.mk (below_step Z6_1 hb); have n2_ := Aside0.mk (hbox); have n3_ := Aside0.mk ((Z6_7 : w.heap.size ≤ gb187)); have n4_ := Aside0.mk ((Z6_7 : w.heap.size ≤ gb187)); have n5_ := Aside0.mk ((Z6_3 : gb185 ≠ gb187)); have n6_ := Aside0.mk ((Z6_4 : gb187 ≠ gb185)); clear BK185; clear HB; have BK185 := n0_; have HB := n1_; have BK187 := n2_; have GW187 := n3_; have GE187 := n4_; have NB185_187 := n5_; have NB187_185 := n6_; clear n0_ n1_ n2_ n3_ n4_ n5_ n6_; clear hb hbox hg; have hnb21 := NB187_185.out; have hnc21 := NB185_187.out; have hcz22_0 : w20.cell? ⟨gb187, 0, none⟩ = some (.int .i64 0) := (blk_cell BK187.out 0).trans rfl; have hcz22_1 : w20.cell? ⟨gb187, 1, none⟩ = some (.int .i64 0) := (blk_cell BK187.out 1).trans rfl; have hcz22_2 : w20.cell? ⟨gb187, 2, none⟩ = some (.int .i64 0) := (blk_cell BK187.out 2).trans rfl; have hcz22_3 : w20.cell? ⟨gb187, 3, none⟩ = some (.slice none 0 0) := (blk_cell BK187.out 3).trans rfl; have hfz22_0 := blk_frozen BK187.out 0; have hfz22_1 := blk_frozen BK187.out 1; have hfz22_2 := blk_frozen BK187.out 2; have hfz22_3 := blk_frozen BK187.out 3)))
        go_ret
        exact ⟨Z6_12, Z6_6⟩
       rw [if_neg c19] at H
       have c19b0 : decide (4194304 < ((rd_T58 l0_1 x26_2).f0)) = false := decide_eq_false c19
       clear c19
       by_cases c23 : ((rd_T58 l0_1 x26_2).f2) < 1
       ·rw [if_pos c23] at H
        have c23b0 : decide (((rd_T58 l0_1 x26_2).f2) < 1) = true := decide_eq_true c23
        clear c23
        obtain rfl := Option.some.inj H
        have p186 : 0 ≤ (x26_2 : Int) := of_decide_eq_true Z6_10
        have q186 : x26_2 < (l0_1.length : Int) := of_decide_eq_true Z6_10
        obtain ⟨ad186, A186_3, c186_3, e186, hx186_0, hx186_1, hx186_2, hx186_3, hl186_3, hi186_3⟩ := at_T58 HR0_1.out x26_2 p186 q186
        cases e186
        replace hx186_0 := (HB.out.cell (World.block_lt_of_cell? w _ hx186_0)).trans hx186_0
        replace hx186_1 := (HB.out.cell (World.block_lt_of_cell? w _ hx186_1)).trans hx186_1
        replace hx186_2 := (HB.out.cell (World.block_lt_of_cell? w _ hx186_2)).trans hx186_2
        replace hx186_3 := (HB.out.cell (World.block_lt_of_cell? w _ hx186_3)).trans hx186_3
        have HR186_3 := Aside0.mk hi186_3
        have HC186_3 := Aside0.mk hl186_3
        clear hi186_3 hl186_3
        replace p186 := eq_true p186
        replace q186 := eq_true q186
        go_wp2_with (first | ((with_reducible refine gate_dst (N := 6) rfl ?_); (try (refine gate_guard (by rfl) ?_; dsimp only)); refine box_event ?hg (N := 6) ?hd (cs := #[.int .i64 0, .int .i64 0, .int .i64 0, .slice none 0 0]) (t := 58) ?hr ?_; (case hd => rfl); (case hg => rfl); (case hr => exact Z6_9); intro gb187 hg w24 hbox hb; have n0_ := Aside0.mk (blk_below (g := gb185) (o := .cells #[.int .i64 a0_0, .slice (some ad186) l0_1.length c0_1] 29 (0, 0)) Z6_2 hb); have n1_ := Aside0.mk (below_step Z6_1 hb); have n2_ := Aside0.mk (hbox); have n3_ := Aside0.mk ((Z6_7 : w.heap.size ≤ gb187)); have n4_ := Aside0.mk ((Z6_7 : w.heap.size ≤ gb187)); have n5_ := Aside0.mk ((Z6_3 : gb185 ≠ gb187)); have n6_ := Aside0.mk ((Z6_4 : gb187 ≠ gb185)); clear BK185; clear HB; have BK185 := n0_; have HB := n1_; have BK187 := n2_; have GW187 := n3_; have GE187 := n4_; have NB185_187 := n5_; have NB187_185 := n6_; clear n0_ n1_ n2_ n3_ n4_ n5_ n6_; clear hb hbox hg; have hnb25 := NB187_185.out; have hnc25 := NB185_187.out; have hcz26_0 : w24.cell? ⟨gb187, 0, none⟩ = some (.int .i64 0) := (blk_cell BK187.out 0).trans rfl; have hcz26_1 : w24.cell? ⟨gb187, 1, none⟩ = some (.int .i64 0) := (blk_cell BK187.out 1).trans rfl; have hcz26_2 : w24.cell? ⟨gb187, 2, none⟩ = some (.int .i64 0) := (blk_cell BK187.out 2).trans rfl; have hcz26_3 : w24.cell? ⟨gb187, 3, none⟩ = some (.slice none 0 0) := (blk_cell BK187.out 3).trans rfl; have hfz26_0 := blk_frozen BK187.out 0; have hfz26_1 := blk_frozen BK187.out 1; have hfz26_2 := blk_frozen BK187.out 2; have hfz26_3 := blk_frozen BK187.out 3))
        repeat (go_quiet (first | ((with_reducible refine gate_dst (N := 6) rfl ?_); (try (refine gate_guard (by rfl) ?_; dsimp only)); refine box_event ?hg (N := 6) ?hd (cs := #[.int .i64 0, .int .i64 0, .int .i64 0, .slice none 0 0]) (t := 58) ?hr ?_; (case hd => rfl); (case hg => rfl); (case hr => exact Z6_9); intro gb187 hg w24 hbox hb; have n0_ := Aside0.mk (blk_below (g := gb185) (o := .cells #[.int .i64 a0_0, .slice (some ad186) l0_1.length c0_1] 29 (0, 0)) Z6_2 hb); have n1_ := Aside0.mk (below_step Z6_1 hb); have n2_ := Aside0.mk (hbox); have n3_ := Aside0.mk ((Z6_7 : w.heap.size ≤ gb187)); have n4_ := Aside0.mk ((Z6_7 : w.heap.size ≤ gb187)); have n5_ := Aside0.mk ((Z6_3 : gb185 ≠ gb187)); have n6_ := Aside0.mk ((Z6_4 : gb187 ≠ gb185)); clear BK185; clear HB; have BK185 := n0_; have HB := n1_; have BK187 := n2_; have GW187 := n3_; have GE187 := n4_; have NB185_187 := n5_; have NB187_185 := n6_; clear n0_ n1_ n2_ n3_ n4_ n5_ n6_; clear hb hbox hg; have hnb25 := NB187_185.out; have hnc25 := NB185_187.out; have hcz26_0 : w24.cell? ⟨gb187, 0, none⟩ = some (.int .i64 0) := (blk_cell BK187.out 0).trans rfl; have hcz26_1 : w24.cell? ⟨gb187, 1, none⟩ = some (.int .i64 0) := (blk_cell BK187.out 1).trans rfl; have hcz26_2 : w24.cell? ⟨gb187, 2, none⟩ = some (.int .i64 0) := (blk_cell BK187.out 2).trans rfl; have hcz26_3 : w24.cell? ⟨gb187, 3, none⟩ = some (.slice none 0 0) := (blk_cell BK187.out 3).trans rfl; have hfz26_0 := blk_frozen BK187.out 0; have hfz26_1 := blk_frozen BK187.out 1; have hfz26_2 := blk_frozen BK187.out 2; have hfz26_3 := blk_frozen BK187.out 3)); try go_wp2_with (first | ((with_reducible refine gate_dst (N := 6) rfl ?_); (try (refine gate_guard (by rfl) ?_; dsimp only)); refine box_event ?hg (N := 6) ?hd (cs := #[.int .i64 0, .int .i64 0, .int .i64 0, .slice none 0 0]) (t := 58) ?hr ?_; (case hd => rfl); (case hg => rfl); (case hr => exact Z6_9); intro gb187 hg w24 hbox hb; have n0_ := Aside0.mk (blk_below (g := gb185) (o := .cells #[.int .i64 a0_0, .slice (some ad186) l0_1.length c0_1] 29 (0, 0)) Z6_2 hb); have n1_ := Aside0.mk (below_step Z6_1 hb); have n2_ := Aside0.mk (hbox); have n3_ := Aside0.mk ((Z6_7 : w.heap.size ≤ gb187)); have n4_ := Aside0.mk ((Z6_7 : w.heap.size ≤ gb187)); have n5_ := Aside0.mk ((Z6_3 : gb185 ≠ gb187)); have n6_ := Aside0.mk ((Z6_4 : gb187 ≠ gb185)); clear BK185; clear HB; have BK185 := n0_; have HB := n1_; have BK187 := n2_; have GW187 := n3_; have GE187 := n4_; have NB185_187 := n5_; have NB187_185 := n6_; clear n0_ n1_ n2_ n3_ n4_ n5_ n6_; clear hb hbox hg; have hnb25 := NB187_185.out; have hnc25 := NB185_187.out; have hcz26_0 : w24.cell? ⟨gb187, 0, none⟩ = some (.int .i64 0) := (blk_cell BK187.out 0).trans rfl; have hcz26_1 : w24.cell? ⟨gb187, 1, none⟩ = some (.int .i64 0) := (blk_cell BK187.out 1).trans rfl; have hcz26_2 : w24.cell? ⟨gb187, 2, none⟩ = some (.int .i64 0) := (blk_cell BK187.out 2).trans rfl; have hcz26_3 : w24.cell? ⟨gb187, 3, none⟩ = some (.slice none 0 0) := (blk_cell BK187.out 3).trans rfl; have hfz26_0 := blk_frozen BK187.out 0; have hfz26_1 := blk_frozen BK187.out 1; have hfz26_2 := blk_frozen BK187.out 2; have hfz26_3 := blk_frozen BK187.out 3)))
        go_ret
        exact ⟨Z6_12, Z6_6⟩
       rw [if_neg c23] at H
       have c23b0 : decide (((rd_T58 l0_1 x26_2).f2) < 1) = false := decide_eq_false c23
       clear c23
       by_cases c27 : ((rd_T58 l0_1 x26_2).f2) > 65536
       ·rw [if_pos c27] at H
        have c27b0 : decide (65536 < ((rd_T58 l0_1 x26_2).f2)) = true := decide_eq_true c27
        clear c27
        obtain rfl := Option.some.inj H
        have p186 : 0 ≤ (x26_2 : Int) := of_decide_eq_true Z6_10
        have q186 : x26_2 < (l0_1.length : Int) := of_decide_eq_true Z6_10
        obtain ⟨ad186, A186_3, c186_3, e186, hx186_0, hx186_1, hx186_2, hx186_3, hl186_3, hi186_3⟩ := at_T58 HR0_1.out x26_2 p186 q186
        cases e186
        replace hx186_0 := (HB.out.cell (World.block_lt_of_cell? w _ hx186_0)).trans hx186_0
        replace hx186_1 := (HB.out.cell (World.block_lt_of_cell? w _ hx186_1)).trans hx186_1
        replace hx186_2 := (HB.out.cell (World.block_lt_of_cell? w _ hx186_2)).trans hx186_2
        replace hx186_3 := (HB.out.cell (World.block_lt_of_cell? w _ hx186_3)).trans hx186_3
        have HR186_3 := Aside0.mk hi186_3
        have HC186_3 := Aside0.mk hl186_3
        clear hi186_3 hl186_3
        replace p186 := eq_true p186
        replace q186 := eq_true q186
        go_wp2_with (first | ((with_reducible refine gate_dst (N := 6) rfl ?_); (try (refine gate_guard (by rfl) ?_; dsimp only)); refine box_event ?hg (N := 6) ?hd (cs := #[.int .i64 0, .int .i64 0, .int .i64 0, .slice none 0 0]) (t := 58) ?hr ?_; (case hd => rfl); (case hg => rfl); (case hr => exact Z6_9); intro gb187 hg w28 hbox hb; have n0_ := Aside0.mk (blk_below (g := gb185) (o := .cells #[.int .i64 a0_0, .slice (some ad186) l0_1.length c0_1] 29 (0, 0)) Z6_2 hb); have n1_ := Aside0.mk (below_step Z6_1 hb); have n2_ := Aside0.mk (hbox); have n3_ := Aside0.mk ((Z6_7 : w.heap.size ≤ gb187)); have n4_ := Aside0.mk ((Z6_7 : w.heap.size ≤ gb187)); have n5_ := Aside0.mk ((Z6_3 : gb185 ≠ gb187)); have n6_ := Aside0.mk ((Z6_4 : gb187 ≠ gb185)); clear BK185; clear HB; have BK185 := n0_; have HB := n1_; have BK187 := n2_; have GW187 := n3_; have GE187 := n4_; have NB185_187 := n5_; have NB187_185 := n6_; clear n0_ n1_ n2_ n3_ n4_ n5_ n6_; clear hb hbox hg; have hnb29 := NB187_185.out; have hnc29 := NB185_187.out; have hcz30_0 : w28.cell? ⟨gb187, 0, none⟩ = some (.int .i64 0) := (blk_cell BK187.out 0).trans rfl; have hcz30_1 : w28.cell? ⟨gb187, 1, none⟩ = some (.int .i64 0) := (blk_cell BK187.out 1).trans rfl; have hcz30_2 : w28.cell? ⟨gb187, 2, none⟩ = some (.int .i64 0) := (blk_cell BK187.out 2).trans rfl; have hcz30_3 : w28.cell? ⟨gb187, 3, none⟩ = some (.slice none 0 0) := (blk_cell BK187.out 3).trans rfl; have hfz30_0 := blk_frozen BK187.out 0; have hfz30_1 := blk_frozen BK187.out 1; have hfz30_2 := blk_frozen BK187.out 2; have hfz30_3 := blk_frozen BK187.out 3))
        repeat (go_quiet (first | ((with_reducible refine gate_dst (N := 6) rfl ?_); (try (refine gate_guard (by rfl) ?_; dsimp only)); refine box_event ?hg (N := 6) ?hd (cs := #[.int .i64 0, .int .i64 0, .int .i64 0, .slice none 0 0]) (t := 58) ?hr ?_; (case hd => rfl); (case hg => rfl); (case hr => exact Z6_9); intro gb187 hg w28 hbox hb; have n0_ := Aside0.mk (blk_below (g := gb185) (o := .cells #[.int .i64 a0_0, .slice (some ad186) l0_1.length c0_1] 29 (0, 0)) Z6_2 hb); have n1_ := Aside0.mk (below_step Z6_1 hb); have n2_ := Aside0.mk (hbox); have n3_ := Aside0.mk ((Z6_7 : w.heap.size ≤ gb187)); have n4_ := Aside0.mk ((Z6_7 : w.heap.size ≤ gb187)); have n5_ := Aside0.mk ((Z6_3 : gb185 ≠ gb187)); have n6_ := Aside0.mk ((Z6_4 : gb187 ≠ gb185)); clear BK185; clear HB; have BK185 := n0_; have HB := n1_; have BK187 := n2_; have GW187 := n3_; have GE187 := n4_; have NB185_187 := n5_; have NB187_185 := n6_; clear n0_ n1_ n2_ n3_ n4_ n5_ n6_; clear hb hbox hg; have hnb29 := NB187_185.out; have hnc29 := NB185_187.out; have hcz30_0 : w28.cell? ⟨gb187, 0, none⟩ = some (.int .i64 0) := (blk_cell BK187.out 0).trans rfl; have hcz30_1 : w28.cell? ⟨gb187, 1, none⟩ = some (.int .i64 0) := (blk_cell BK187.out 1).trans rfl; have hcz30_2 : w28.cell? ⟨gb187, 2, none⟩ = some (.int .i64 0) := (blk_cell BK187.out 2).trans rfl; have hcz30_3 : w28.cell? ⟨gb187, 3, none⟩ = some (.slice none 0 0) := (blk_cell BK187.out 3).trans rfl; have hfz30_0 := blk_frozen BK187.out 0; have hfz30_1 := blk_frozen BK187.out 1; have hfz30_2 := blk_frozen BK187.out 2; have hfz30_3 := blk_frozen BK187.out 3)); try go_wp2_with (first | ((with_reducible refine gate_dst (N := 6) rfl ?_); (try (refine gate_guard (by rfl) ?_; dsimp only)); refine box_event ?hg (N := 6) ?hd (cs := #[.int .i64 0, .int .i64 0, .int .i64 0, .slice none 0 0]) (t := 58) ?hr ?_; (case hd => rfl); (case hg => rfl); (case hr => exact Z6_9); intro gb187 hg w28 hbox hb; have n0_ := Aside0.mk (blk_below (g := gb185) (o := .cells #[.int .i64 a0_0, .slice (some ad186) l0_1.length c0_1] 29 (0, 0)) Z6_2 hb); have n1_ := Aside0.mk (below_step Z6_1 hb); have n2_ := Aside0.mk (hbox); have n3_ := Aside0.mk ((Z6_7 : w.heap.size ≤ gb187)); have n4_ := Aside0.mk ((Z6_7 : w.heap.size ≤ gb187)); have n5_ := Aside0.mk ((Z6_3 : gb185 ≠ gb187)); have n6_ := Aside0.mk ((Z6_4 : gb187 ≠ gb185)); clear BK185; clear HB; have BK185 := n0_; have HB := n1_; have BK187 := n2_; have GW187 := n3_; have GE187 := n4_; have NB185_187 := n5_; have NB187_185 := n6_; clear n0_ n1_ n2_ n3_ n4_ n5_ n6_; clear hb hbox hg; have hnb29 := NB187_185.out; have hnc29 := NB185_187.out; have hcz30_0 : w28.cell? ⟨gb187, 0, none⟩ = some (.int .i64 0) := (blk_cell BK187.out 0).trans rfl; have hcz30_1 : w28.cell? ⟨gb187, 1, none⟩ = some (.int .i64 0) := (blk_cell BK187.out 1).trans rfl; have hcz30_2 : w28.cell? ⟨gb187, 2, none⟩ = some (.int .i64 0) := (blk_cell BK187.out 2).trans rfl; have hcz30_3 : w28.cell? ⟨gb187, 3, none⟩ = some (.slice none 0 0) := (blk_cell BK187.out 3).trans rfl; have hfz30_0 := blk_frozen BK187.out 0; have hfz30_1 := blk_frozen BK187.out 1; have hfz30_2 := blk_frozen BK187.out 2; have hfz30_3 := blk_frozen BK187.out 3)))
        go_ret
        exact ⟨Z6_12, Z6_6⟩
       rw [if_neg c27] at H
       have c27b0 : decide (65536 < ((rd_T58 l0_1 x26_2).f2)) = false := decide_eq_false c27
       clear c27
       by_cases c31 : (wrap64 (((rd_T58 l0_1 x26_2).f0) + ((rd_T58 l0_1 x26_2).f2))) > 4194304
       ·rw [if_pos c31] at H
        have c31b0 : decide (4194304 < (wrap64 (((rd_T58 l0_1 x26_2).f0) + ((rd_T58 l0_1 x26_2).f2)))) = true := decide_eq_true c31
        clear c31
        obtain rfl := Option.some.inj H
        have p186 : 0 ≤ (x26_2 : Int) := of_decide_eq_true Z6_10
        have q186 : x26_2 < (l0_1.length : Int) := of_decide_eq_true Z6_10
        obtain ⟨ad186, A186_3, c186_3, e186, hx186_0, hx186_1, hx186_2, hx186_3, hl186_3, hi186_3⟩ := at_T58 HR0_1.out x26_2 p186 q186
        cases e186
        replace hx186_0 := (HB.out.cell (World.block_lt_of_cell? w _ hx186_0)).trans hx186_0
        replace hx186_1 := (HB.out.cell (World.block_lt_of_cell? w _ hx186_1)).trans hx186_1
        replace hx186_2 := (HB.out.cell (World.block_lt_of_cell? w _ hx186_2)).trans hx186_2
        replace hx186_3 := (HB.out.cell (World.block_lt_of_cell? w _ hx186_3)).trans hx186_3
        have HR186_3 := Aside0.mk hi186_3
        have HC186_3 := Aside0.mk hl186_3
        clear hi186_3 hl186_3
        replace p186 := eq_true p186
        replace q186 := eq_true q186
        go_wp2_with (first | ((with_reducible refine gate_dst (N := 6) rfl ?_); (try (refine gate_guard (by rfl) ?_; dsimp only)); refine box_event ?hg (N := 6) ?hd (cs := #[.int .i64 0, .int .i64 0, .int .i64 0, .slice none 0 0]) (t := 58) ?hr ?_; (case hd => rfl); (case hg => rfl); (case hr => exact Z6_9); intro gb187 hg w32 hbox hb; have n0_ := Aside0.mk (blk_below (g := gb185) (o := .cells #[.int .i64 a0_0, .slice (some ad186) l0_1.length c0_1] 29 (0, 0)) Z6_2 hb); have n1_ := Aside0.mk (below_step Z6_1 hb); have n2_ := Aside0.mk (hbox); have n3_ := Aside0.mk ((Z6_7 : w.heap.size ≤ gb187)); have n4_ := Aside0.mk ((Z6_7 : w.heap.size ≤ gb187)); have n5_ := Aside0.mk ((Z6_3 : gb185 ≠ gb187)); have n6_ := Aside0.mk ((Z6_4 : gb187 ≠ gb185)); clear BK185; clear HB; have BK185 := n0_; have HB := n1_; have BK187 := n2_; have GW187 := n3_; have GE187 := n4_; have NB185_187 := n5_; have NB187_185 := n6_; clear n0_ n1_ n2_ n3_ n4_ n5_ n6_; clear hb hbox hg; have hnb33 := NB187_185.out; have hnc33 := NB185_187.out; have hcz34_0 : w32.cell? ⟨gb187, 0, none⟩ = some (.int .i64 0) := (blk_cell BK187.out 0).trans rfl; have hcz34_1 : w32.cell? ⟨gb187, 1, none⟩ = some (.int .i64 0) := (blk_cell BK187.out 1).trans rfl; have hcz34_2 : w32.cell? ⟨gb187, 2, none⟩ = some (.int .i64 0) := (blk_cell BK187.out 2).trans rfl; have hcz34_3 : w32.cell? ⟨gb187, 3, none⟩ = some (.slice none 0 0) := (blk_cell BK187.out 3).trans rfl; have hfz34_0 := blk_frozen BK187.out 0; have hfz34_1 := blk_frozen BK187.out 1; have hfz34_2 := blk_frozen BK187.out 2; have hfz34_3 := blk_frozen BK187.out 3))
        repeat (go_quiet (first | ((with_reducible refine gate_dst (N := 6) rfl ?_); (try (refine gate_guard (by rfl) ?_; dsimp only)); refine box_event ?hg (N := 6) ?hd (cs := #[.int .i64 0, .int .i64 0, .int .i64 0, .slice none 0 0]) (t := 58) ?hr ?_; (case hd => rfl); (case hg => rfl); (case hr => exact Z6_9); intro gb187 hg w32 hbox hb; have n0_ := Aside0.mk (blk_below (g := gb185) (o := .cells #[.int .i64 a0_0, .slice (some ad186) l0_1.length c0_1] 29 (0, 0)) Z6_2 hb); have n1_ := Aside0.mk (below_step Z6_1 hb); have n2_ := Aside0.mk (hbox); have n3_ := Aside0.mk ((Z6_7 : w.heap.size ≤ gb187)); have n4_ := Aside0.mk ((Z6_7 : w.heap.size ≤ gb187)); have n5_ := Aside0.mk ((Z6_3 : gb185 ≠ gb187)); have n6_ := Aside0.mk ((Z6_4 : gb187 ≠ gb185)); clear BK185; clear HB; have BK185 := n0_; have HB := n1_; have BK187 := n2_; have GW187 := n3_; have GE187 := n4_; have NB185_187 := n5_; have NB187_185 := n6_; clear n0_ n1_ n2_ n3_ n4_ n5_ n6_; clear hb hbox hg; have hnb33 := NB187_185.out; have hnc33 := NB185_187.out; have hcz34_0 : w32.cell? ⟨gb187, 0, none⟩ = some (.int .i64 0) := (blk_cell BK187.out 0).trans rfl; have hcz34_1 : w32.cell? ⟨gb187, 1, none⟩ = some (.int .i64 0) := (blk_cell BK187.out 1).trans rfl; have hcz34_2 : w32.cell? ⟨gb187, 2, none⟩ = some (.int .i64 0) := (blk_cell BK187.out 2).trans rfl; have hcz34_3 : w32.cell? ⟨gb187, 3, none⟩ = some (.slice none 0 0) := (blk_cell BK187.out 3).trans rfl; have hfz34_0 := blk_frozen BK187.out 0; have hfz34_1 := blk_frozen BK187.out 1; have hfz34_2 := blk_frozen BK187.out 2; have hfz34_3 := blk_frozen BK187.out 3)); try go_wp2_with (first | ((with_reducible refine gate_dst (N := 6) rfl ?_); (try (refine gate_guard (by rfl) ?_; dsimp only)); refine box_event ?hg (N := 6) ?hd (cs := #[.int .i64 0, .int .i64 0, .int .i64 0, .slice none 0 0]) (t := 58) ?hr ?_; (case hd => rfl); (case hg => rfl); (case hr => exact Z6_9); intro gb187 hg w32 hbox hb; have n0_ := Aside0.mk (blk_below (g := gb185) (o := .cells #[.int .i64 a0_0, .slice (some ad186) l0_1.length c0_1] 29 (0, 0)) Z6_2 hb); have n1_ := Aside0.mk (below_step Z6_1 hb); have n2_ := Aside0.mk (hbox); have n3_ := Aside0.mk ((Z6_7 : w.heap.size ≤ gb187)); have n4_ := Aside0.mk ((Z6_7 : w.heap.size ≤ gb187)); have n5_ := Aside0.mk ((Z6_3 : gb185 ≠ gb187)); have n6_ := Aside0.mk ((Z6_4 : gb187 ≠ gb185)); clear BK185; clear HB; have BK185 := n0_; have HB := n1_; have BK187 := n2_; have GW187 := n3_; have GE187 := n4_; have NB185_187 := n5_; have NB187_185 := n6_; clear n0_ n1_ n2_ n3_ n4_ n5_ n6_; clear hb hbox hg; have hnb33 := NB187_185.out; have hnc33 := NB185_187.out; have hcz34_0 : w32.cell? ⟨gb187, 0, none⟩ = some (.int .i64 0) := (blk_cell BK187.out 0).trans rfl; have hcz34_1 : w32.cell? ⟨gb187, 1, none⟩ = some (.int .i64 0) := (blk_cell BK187.out 1).trans rfl; have hcz34_2 : w32.cell? ⟨gb187, 2, none⟩ = some (.int .i64 0) := (blk_cell BK187.out 2).trans rfl; have hcz34_3 : w32.cell? ⟨gb187, 3, none⟩ = some (.slice none 0 0) := (blk_cell BK187.out 3).trans rfl; have hfz34_0 := blk_frozen BK187.out 0; have hfz34_1 := blk_frozen BK187.out 1; have hfz34_2 := blk_frozen BK187.out 2; have hfz34_3 := blk_frozen BK187.out 3)))
        go_ret
        exact ⟨Z6_12, Z6_6⟩
       rw [if_neg c31] at H
       have c31b0 : decide (4194304 < (wrap64 (((rd_T58 l0_1 x26_2).f0) + ((rd_T58 l0_1 x26_2).f2)))) = false := decide_eq_false c31
       clear c31
       by_cases c35 : (((rd_T58 l0_1 x26_2).f3).length : Int) > ((rd_T58 l0_1 x26_2).f2)
       ·rw [if_pos c35] at H
        have c35b0 : decide (((rd_T58 l0_1 x26_2).f2) < (((rd_T58 l0_1 x26_2).f3).length : Int)) = true := decide_eq_true c35
        clear c35
        obtain rfl := Option.some.inj H
        have p186 : 0 ≤ (x26_2 : Int) := of_decide_eq_true Z6_10
        have q186 : x26_2 < (l0_1.length : Int) := of_decide_eq_true Z6_10
        obtain ⟨ad186, A186_3, c186_3, e186, hx186_0, hx186_1, hx186_2, hx186_3, hl186_3, hi186_3⟩ := at_T58 HR0_1.out x26_2 p186 q186
        cases e186
        replace hx186_0 := (HB.out.cell (World.block_lt_of_cell? w _ hx186_0)).trans hx186_0
        replace hx186_1 := (HB.out.cell (World.block_lt_of_cell? w _ hx186_1)).trans hx186_1
        replace hx186_2 := (HB.out.cell (World.block_lt_of_cell? w _ hx186_2)).trans hx186_2
        replace hx186_3 := (HB.out.cell (World.block_lt_of_cell? w _ hx186_3)).trans hx186_3
        have HR186_3 := Aside0.mk hi186_3
        have HC186_3 := Aside0.mk hl186_3
        clear hi186_3 hl186_3
        replace p186 := eq_true p186
        replace q186 := eq_true q186
        go_wp2_with (first | ((with_reducible refine gate_dst (N := 6) rfl ?_); (try (refine gate_guard (by rfl) ?_; dsimp only)); refine box_event ?hg (N := 6) ?hd (cs := #[.int .i64 0, .int .i64 0, .int .i64 0, .slice none 0 0]) (t := 58) ?hr ?_; (case hd => rfl); (case hg => rfl); (case hr => exact Z6_9); intro gb187 hg w36 hbox hb; have n0_ := Aside0.mk (blk_below (g := gb185) (o := .cells #[.int .i64 a0_0, .slice (some ad186) l0_1.length c0_1] 29 (0, 0)) Z6_2 hb); have n1_ := Aside0.mk (below_step Z6_1 hb); have n2_ := Aside0.mk (hbox); have n3_ := Aside0.mk ((Z6_7 : w.heap.size ≤ gb187)); have n4_ := Aside0.mk ((Z6_7 : w.heap.size ≤ gb187)); have n5_ := Aside0.mk ((Z6_3 : gb185 ≠ gb187)); have n6_ := Aside0.mk ((Z6_4 : gb187 ≠ gb185)); clear BK185; clear HB; have BK185 := n0_; have HB := n1_; have BK187 := n2_; have GW187 := n3_; have GE187 := n4_; have NB185_187 := n5_; have NB187_185 := n6_; clear n0_ n1_ n2_ n3_ n4_ n5_ n6_; clear hb hbox hg; have hnb37 := NB187_185.out; have hnc37 := NB185_187.out; have hcz38_0 : w36.cell? ⟨gb187, 0, none⟩ = some (.int .i64 0) := (blk_cell BK187.out 0).trans rfl; have hcz38_1 : w36.cell? ⟨gb187, 1, none⟩ = some (.int .i64 0) := (blk_cell BK187.out 1).trans rfl; have hcz38_2 : w36.cell? ⟨gb187, 2, none⟩ = some (.int .i64 0) := (blk_cell BK187.out 2).trans rfl; have hcz38_3 : w36.cell? ⟨gb187, 3, none⟩ = some (.slice none 0 0) := (blk_cell BK187.out 3).trans rfl; have hfz38_0 := blk_frozen BK187.out 0; have hfz38_1 := blk_frozen BK187.out 1; have hfz38_2 := blk_frozen BK187.out 2; have hfz38_3 := blk_frozen BK187.out 3))
        repeat (go_quiet (first | ((with_reducible refine gate_dst (N := 6) rfl ?_); (try (refine gate_guard (by rfl) ?_; dsimp only)); refine box_event ?hg (N := 6) ?hd (cs := #[.int .i64 0, .int .i64 0, .int .i64 0, .slice none 0 0]) (t := 58) ?hr ?_; (case hd => rfl); (case hg => rfl); (case hr => exact Z6_9); intro gb187 hg w36 hbox hb; have n0_ := Aside0.mk (blk_below (g := gb185) (o := .cells #[.int .i64 a0_0, .slice (some ad186) l0_1.length c0_1] 29 (0, 0)) Z6_2 hb); have n1_ := Aside0.mk (below_step Z6_1 hb); have n2_ := Aside0.mk (hbox); have n3_ := Aside0.mk ((Z6_7 : w.heap.size ≤ gb187)); have n4_ := Aside0.mk ((Z6_7 : w.heap.size ≤ gb187)); have n5_ := Aside0.mk ((Z6_3 : gb185 ≠ gb187)); have n6_ := Aside0.mk ((Z6_4 : gb187 ≠ gb185)); clear BK185; clear HB; have BK185 := n0_; have HB := n1_; have BK187 := n2_; have GW187 := n3_; have GE187 := n4_; have NB185_187 := n5_; have NB187_185 := n6_; clear n0_ n1_ n2_ n3_ n4_ n5_ n6_; clear hb hbox hg; have hnb37 := NB187_185.out; have hnc37 := NB185_187.out; have hcz38_0 : w36.cell? ⟨gb187, 0, none⟩ = some (.int .i64 0) := (blk_cell BK187.out 0).trans rfl; have hcz38_1 : w36.cell? ⟨gb187, 1, none⟩ = some (.int .i64 0) := (blk_cell BK187.out 1).trans rfl; have hcz38_2 : w36.cell? ⟨gb187, 2, none⟩ = some (.int .i64 0) := (blk_cell BK187.out 2).trans rfl; have hcz38_3 : w36.cell? ⟨gb187, 3, none⟩ = some (.slice none 0 0) := (blk_cell BK187.out 3).trans rfl; have hfz38_0 := blk_frozen BK187.out 0; have hfz38_1 := blk_frozen BK187.out 1; have hfz38_2 := blk_frozen BK187.out 2; have hfz38_3 := blk_frozen BK187.out 3)); try go_wp2_with (first | ((with_reducible refine gate_dst (N := 6) rfl ?_); (try (refine gate_guard (by rfl) ?_; dsimp only)); refine box_event ?hg (N := 6) ?hd (cs := #[.int .i64 0, .int .i64 0, .int .i64 0, .slice none 0 0]) (t := 58) ?hr ?_; (case hd => rfl); (case hg => rfl); (case hr => exact Z6_9); intro gb187 hg w36 hbox hb; have n0_ := Aside0.mk (blk_below (g := gb185) (o := .cells #[.int .i64 a0_0, .slice (some ad186) l0_1.length c0_1] 29 (0, 0)) Z6_2 hb); have n1_ := Aside0.mk (below_step Z6_1 hb); have n2_ := Aside0.mk (hbox); have n3_ := Aside0.mk ((Z6_7 : w.heap.size ≤ gb187)); have n4_ := Aside0.mk ((Z6_7 : w.heap.size ≤ gb187)); have n5_ := Aside0.mk ((Z6_3 : gb185 ≠ gb187)); have n6_ := Aside0.mk ((Z6_4 : gb187 ≠ gb185)); clear BK185; clear HB; have BK185 := n0_; have HB := n1_; have BK187 := n2_; have GW187 := n3_; have GE187 := n4_; have NB185_187 := n5_; have NB187_185 := n6_; clear n0_ n1_ n2_ n3_ n4_ n5_ n6_; clear hb hbox hg; have hnb37 := NB187_185.out; have hnc37 := NB185_187.out; have hcz38_0 : w36.cell? ⟨gb187, 0, none⟩ = some (.int .i64 0) := (blk_cell BK187.out 0).trans rfl; have hcz38_1 : w36.cell? ⟨gb187, 1, none⟩ = some (.int .i64 0) := (blk_cell BK187.out 1).trans rfl; have hcz38_2 : w36.cell? ⟨gb187, 2, none⟩ = some (.int .i64 0) := (blk_cell BK187.out 2).trans rfl; have hcz38_3 : w36.cell? ⟨gb187, 3, none⟩ = some (.slice none 0 0) := (blk_cell BK187.out 3).trans rfl; have hfz38_0 := blk_frozen BK187.out 0; have hfz38_1 := blk_frozen BK187.out 1; have hfz38_2 := blk_frozen BK187.out 2; have hfz38_3 := blk_frozen BK187.out 3)))
        go_ret
        exact ⟨Z6_12, Z6_6⟩
       rw [if_neg c35] at H
       have c35b0 : decide (((rd_T58 l0_1 x26_2).f2) < (((rd_T58 l0_1 x26_2).f3).length : Int)) = false := decide_eq_false c35
       clear c35
       by_cases c39 : ((rd_T58 l0_1 x26_2).f1) = 1
       ·rw [if_pos c39] at H
        have c39b0 : (((rd_T58 l0_1 x26_2).f1) == 1) = true := beq_iff_eq.mpr c39
        have c39b1 : (((rd_T58 l0_1 x26_2).f1) != 1) = false := bne_eq_false_iff_eq.mpr c39
        clear c39
        replace H := Option.bind_eq_some_iff.mp H
        obtain ⟨t188, A400, H⟩ := H
        replace H : (if x4_2 = true then (impl_ImageOk.l0 k2 (wrap64 (((rd_T58 l0_1 x26_2).f0) + t188)) true l0_1 (l0_1.length : Int) (wrap64 (x26_2 + 1)) a0_0 l0_1) else (if ((rd_T58 l0_1 x26_2).f1) = 5 then (if a0_0 ≥ ((rd_T58 l0_1 x26_2).f0) then (impl_ImageOk.l0 k2 (wrap64 (((rd_T58 l0_1 x26_2).f0) + t188)) (decide (a0_0 < (wrap64 (((rd_T58 l0_1 x26_2).f0) + ((rd_T58 l0_1 x26_2).f2))))) l0_1 (l0_1.length : Int) (wrap64 (x26_2 + 1)) a0_0 l0_1) else (impl_ImageOk.l0 k2 (wrap64 (((rd_T58 l0_1 x26_2).f0) + t188)) false l0_1 (l0_1.length : Int) (wrap64 (x26_2 + 1)) a0_0 l0_1)) else (impl_ImageOk.l0 k2 (wrap64 (((rd_T58 l0_1 x26_2).f0) + t188)) false l0_1 (l0_1.length : Int) (wrap64 (x26_2 + 1)) a0_0 l0_1))) = some r := H
        have A40 := Aside0.mk A400
        clear A400
        by_cases c41 : x4_2 = true
        ·subst c41
         have H1 : (impl_ImageOk.l0 k2 (wrap64 (((rd_T58 l0_1 x26_2).f0) + t188)) true l0_1 (l0_1.length : Int) (wrap64 (x26_2 + 1)) a0_0 l0_1) = some r := by rw [if_pos rfl] at H; exact H
         clear H
         have H := H1
         clear H1
         have H' := Aside0.mk H
         clear H
         have p186 : 0 ≤ (x26_2 : Int) := of_decide_eq_true Z6_10
         have q186 : x26_2 < (l0_1.length : Int) := of_decide_eq_true Z6_10
         obtain ⟨ad186, A186_3, c186_3, e186, hx186_0, hx186_1, hx186_2, hx186_3, hl186_3, hi186_3⟩ := at_T58 HR0_1.out x26_2 p186 q186
         cases e186
         replace hx186_0 := (HB.out.cell (World.block_lt_of_cell? w _ hx186_0)).trans hx186_0
         replace hx186_1 := (HB.out.cell (World.block_lt_of_cell? w _ hx186_1)).trans hx186_1
         replace hx186_2 := (HB.out.cell (World.block_lt_of_cell? w _ hx186_2)).trans hx186_2
         replace hx186_3 := (HB.out.cell (World.block_lt_of_cell? w _ hx186_3)).trans hx186_3
         have HR186_3 := Aside0.mk hi186_3
         have HC186_3 := Aside0.mk hl186_3
         clear hi186_3 hl186_3
         replace p186 := eq_true p186
         replace q186 := eq_true q186
         go_wp2_with (first | ((with_reducible refine gate_dst (N := 6) rfl ?_); (try (refine gate_guard (by rfl) ?_; dsimp only)); refine box_event ?hg (N := 6) ?hd (cs := #[.int .i64 0, .int .i64 0, .int .i64 0, .slice none 0 0]) (t := 58) ?hr ?_; (case hd => rfl); (case hg => rfl); (case hr => exact Z6_9); intro gb187 hg w42 hbox hb; have n0_ := Aside0.mk (blk_below (g := gb185) (o := .cells #[.int .i64 a0_0, .slice (some ad186) l0_1.length c0_1] 29 (0, 0)) Z6_2 hb); have n1_ := Aside0.mk (below_step Z6_1 hb); have n2_ := Aside0.mk (hbox); have n3_ := Aside0.mk ((Z6_7 : w.heap.size ≤ gb187)); have n4_ := Aside0.mk ((Z6_7 : w.heap.size ≤ gb187)); have n5_ := Aside0.mk ((Z6_3 : gb185 ≠ gb187)); have n6_ := Aside0.mk ((Z6_4 : gb187 ≠ gb185)); clear BK185; clear HB; have BK185 := n0_; have HB := n1_; have BK187 := n2_; have GW187 := n3_; have GE187 := n4_; have NB185_187 := n5_; have NB187_185 := n6_; clear n0_ n1_ n2_ n3_ n4_ n5_ n6_; clear hb hbox hg; have hnb43 := NB187_185.out; have hnc43 := NB185_187.out; have hcz44_0 : w42.cell? ⟨gb187, 0, none⟩ = some (.int .i64 0) := (blk_cell BK187.out 0).trans rfl; have hcz44_1 : w42.cell? ⟨gb187, 1, none⟩ = some (.int .i64 0) := (blk_cell BK187.out 1).trans rfl; have hcz44_2 : w42.cell? ⟨gb187, 2, none⟩ = some (.int .i64 0) := (blk_cell BK187.out 2).trans rfl; have hcz44_3 : w42.cell? ⟨gb187, 3, none⟩ = some (.slice none 0 0) := (blk_cell BK187.out 3).trans rfl; have hfz44_0 := blk_frozen BK187.out 0; have hfz44_1 := blk_frozen BK187.out 1; have hfz44_2 := blk_frozen BK187.out 2; have hfz44_3 := blk_frozen BK187.out 3) | (go_at_call 32; (with_reducible refine (impl_pages.calls ((rd_T58 l0_1 x26_2).f2) t188 _ A40.out).mono ?_); rintro e w' ⟨rfl, ⟨nd, rfl⟩⟩; (try first | exact ⟨rfl, _, World.drewN_drewN _ _ _⟩ | exact ⟨rfl, _, Eq.trans (World.drewN_drewN _ _ _) (congrArg (World.drewN _) (Nat.add_assoc _ _ _))⟩)))
         repeat (go_quiet (first | ((with_reducible refine gate_dst (N := 6) rfl ?_); (try (refine gate_guard (by rfl) ?_; dsimp only)); refine box_event ?hg (N := 6) ?hd (cs := #[.int .i64 0, .int .i64 0, .int .i64 0, .slice none 0 0]) (t := 58) ?hr ?_; (case hd => rfl); (case hg => rfl); (case hr => exact Z6_9); intro gb187 hg w42 hbox hb; have n0_ := Aside0.mk (blk_below (g := gb185) (o := .cells #[.int .i64 a0_0, .slice (some ad186) l0_1.length c0_1] 29 (0, 0)) Z6_2 hb); have n1_ := Aside0.mk (below_step Z6_1 hb); have n2_ := Aside0.mk (hbox); have n3_ := Aside0.mk ((Z6_7 : w.heap.size ≤ gb187)); have n4_ := Aside0.mk ((Z6_7 : w.heap.size ≤ gb187)); have n5_ := Aside0.mk ((Z6_3 : gb185 ≠ gb187)); have n6_ := Aside0.mk ((Z6_4 : gb187 ≠ gb185)); clear BK185; clear HB; have BK185 := n0_; have HB := n1_; have BK187 := n2_; have GW187 := n3_; have GE187 := n4_; have NB185_187 := n5_; have NB187_185 := n6_; clear n0_ n1_ n2_ n3_ n4_ n5_ n6_; clear hb hbox hg; have hnb43 := NB187_185.out; have hnc43 := NB185_187.out; have hcz44_0 : w42.cell? ⟨gb187, 0, none⟩ = some (.int .i64 0) := (blk_cell BK187.out 0).trans rfl; have hcz44_1 : w42.cell? ⟨gb187, 1, none⟩ = some (.int .i64 0) := (blk_cell BK187.out 1).trans rfl; have hcz44_2 : w42.cell? ⟨gb187, 2, none⟩ = some (.int .i64 0) := (blk_cell BK187.out 2).trans rfl; have hcz44_3 : w42.cell? ⟨gb187, 3, none⟩ = some (.slice none 0 0) := (blk_cell BK187.out 3).trans rfl; have hfz44_0 := blk_frozen BK187.out 0; have hfz44_1 := blk_frozen BK187.out 1; have hfz44_2 := blk_frozen BK187.out 2; have hfz44_3 := blk_frozen BK187.out 3) | (go_at_call 32; (with_reducible refine (impl_pages.calls ((rd_T58 l0_1 x26_2).f2) t188 _ A40.out).mono ?_); rintro e w' ⟨rfl, ⟨nd, rfl⟩⟩; (try first | exact ⟨rfl, _, World.drewN_drewN _ _ _⟩ | exact ⟨rfl, _, Eq.trans (World.drewN_drewN _ _ _) (congrArg (World.drewN _) (Nat.add_assoc _ _ _))⟩))); try go_wp2_with (first | ((with_reducible refine gate_dst (N := 6) rfl ?_); (try (refine gate_guard (by rfl) ?_; dsimp only)); refine box_event ?hg (N := 6) ?hd (cs := #[.int .i64 0, .int .i64 0, .int .i64 0, .slice none 0 0]) (t := 58) ?hr ?_; (case hd => rfl); (case hg => rfl); (case hr => exact Z6_9); intro gb187 hg w42 hbox hb; have n0_ := Aside0.mk (blk_below (g := gb185) (o := .cells #[.int .i64 a0_0, .slice (some ad186) l0_1.length c0_1] 29 (0, 0)) Z6_2 hb); have n1_ := Aside0.mk (below_step Z6_1 hb); have n2_ := Aside0.mk (hbox); have n3_ := Aside0.mk ((Z6_7 : w.heap.size ≤ gb187)); have n4_ := Aside0.mk ((Z6_7 : w.heap.size ≤ gb187)); have n5_ := Aside0.mk ((Z6_3 : gb185 ≠ gb187)); have n6_ := Aside0.mk ((Z6_4 : gb187 ≠ gb185)); clear BK185; clear HB; have BK185 := n0_; have HB := n1_; have BK187 := n2_; have GW187 := n3_; have GE187 := n4_; have NB185_187 := n5_; have NB187_185 := n6_; clear n0_ n1_ n2_ n3_ n4_ n5_ n6_; clear hb hbox hg; have hnb43 := NB187_185.out; have hnc43 := NB185_187.out; have hcz44_0 : w42.cell? ⟨gb187, 0, none⟩ = some (.int .i64 0) := (blk_cell BK187.out 0).trans rfl; have hcz44_1 : w42.cell? ⟨gb187, 1, none⟩ = some (.int .i64 0) := (blk_cell BK187.out 1).trans rfl; have hcz44_2 : w42.cell? ⟨gb187, 2, none⟩ = some (.int .i64 0) := (blk_cell BK187.out 2).trans rfl; have hcz44_3 : w42.cell? ⟨gb187, 3, none⟩ = some (.slice none 0 0) := (blk_cell BK187.out 3).trans rfl; have hfz44_0 := blk_frozen BK187.out 0; have hfz44_1 := blk_frozen BK187.out 1; have hfz44_2 := blk_frozen BK187.out 2; have hfz44_3 := blk_frozen BK187.out 3) | (go_at_call 32; (with_reducible refine (impl_pages.calls ((rd_T58 l0_1 x26_2).f2) t188 _ A40.out).mono ?_); rintro e w' ⟨rfl, ⟨nd, rfl⟩⟩; (try first | exact ⟨rfl, _, World.drewN_drewN _ _ _⟩ | exact ⟨rfl, _, Eq.trans (World.drewN_drewN _ _ _) (congrArg (World.drewN _) (Nat.add_assoc _ _ _))⟩))))
         go_roundg k2
         case measure => have := HJ1.out; have := HK2.out; omega
         case rel => exact ⟨(wrap64 (((rd_T58 l0_1 x26_2).f0) + t188)), (true), (wrap64 (x26_2 + 1)), Z6_8, Z6_8, Z6_8, H', ⟨Z6_13⟩, ⟨Z6_5⟩, ⟨Z6_6⟩⟩
        replace c41 := Bool.eq_false_iff.mpr c41
        subst c41
        have H1 : (if ((rd_T58 l0_1 x26_2).f1) = 5 then (if a0_0 ≥ ((rd_T58 l0_1 x26_2).f0) then (impl_ImageOk.l0 k2 (wrap64 (((rd_T58 l0_1 x26_2).f0) + t188)) (decide (a0_0 < (wrap64 (((rd_T58 l0_1 x26_2).f0) + ((rd_T58 l0_1 x26_2).f2))))) l0_1 (l0_1.length : Int) (wrap64 (x26_2 + 1)) a0_0 l0_1) else (impl_ImageOk.l0 k2 (wrap64 (((rd_T58 l0_1 x26_2).f0) + t188)) false l0_1 (l0_1.length : Int) (wrap64 (x26_2 + 1)) a0_0 l0_1)) else (impl_ImageOk.l0 k2 (wrap64 (((rd_T58 l0_1 x26_2).f0) + t188)) false l0_1 (l0_1.length : Int) (wrap64 (x26_2 + 1)) a0_0 l0_1)) = some r := by rw [if_neg (show ¬ (false = true) by decide)] at H; exact H
        clear H
        have H := H1
        clear H1
        by_cases c45 : ((rd_T58 l0_1 x26_2).f1) = 5
        ·rw [if_pos c45] at H
         have c45b0 : (((rd_T58 l0_1 x26_2).f1) == 5) = true := beq_iff_eq.mpr c45
         have c45b1 : (((rd_T58 l0_1 x26_2).f1) != 5) = false := bne_eq_false_iff_eq.mpr c45
         clear c45
         by_cases c46 : a0_0 ≥ ((rd_T58 l0_1 x26_2).f0)
         ·rw [if_pos c46] at H
          have c46b0 : decide (((rd_T58 l0_1 x26_2).f0) ≤ a0_0) = true := decide_eq_true c46
          clear c46
          have H' := Aside0.mk H
          clear H
          have p186 : 0 ≤ (x26_2 : Int) := of_decide_eq_true Z6_10
          have q186 : x26_2 < (l0_1.length : Int) := of_decide_eq_true Z6_10
          obtain ⟨ad186, A186_3, c186_3, e186, hx186_0, hx186_1, hx186_2, hx186_3, hl186_3, hi186_3⟩ := at_T58 HR0_1.out x26_2 p186 q186
          cases e186
          replace hx186_0 := (HB.out.cell (World.block_lt_of_cell? w _ hx186_0)).trans hx186_0
          replace hx186_1 := (HB.out.cell (World.block_lt_of_cell? w _ hx186_1)).trans hx186_1
          replace hx186_2 := (HB.out.cell (World.block_lt_of_cell? w _ hx186_2)).trans hx186_2
          replace hx186_3 := (HB.out.cell (World.block_lt_of_cell? w _ hx186_3)).trans hx186_3
          have HR186_3 := Aside0.mk hi186_3
          have HC186_3 := Aside0.mk hl186_3
          clear hi186_3 hl186_3
          replace p186 := eq_true p186
          replace q186 := eq_true q186
          go_wp2_with (first | ((with_reducible refine gate_dst (N := 6) rfl ?_); (try (refine gate_guard (by rfl) ?_; dsimp only)); refine box_event ?hg (N := 6) ?hd (cs := #[.int .i64 0, .int .i64 0, .int .i64 0, .slice none 0 0]) (t := 58) ?hr ?_; (case hd => rfl); (case hg => rfl); (case hr => exact Z6_9); intro gb187 hg w47 hbox hb; have n0_ := Aside0.mk (blk_below (g := gb185) (o := .cells #[.int .i64 a0_0, .slice (some ad186) l0_1.length c0_1] 29 (0, 0)) Z6_2 hb); have n1_ := Aside0.mk (below_step Z6_1 hb); have n2_ := Aside0.mk (hbox); have n3_ := Aside0.mk ((Z6_7 : w.heap.size ≤ gb187)); have n4_ := Aside0.mk ((Z6_7 : w.heap.size ≤ gb187)); have n5_ := Aside0.mk ((Z6_3 : gb185 ≠ gb187)); have n6_ := Aside0.mk ((Z6_4 : gb187 ≠ gb185)); clear BK185; clear HB; have BK185 := n0_; have HB := n1_; have BK187 := n2_; have GW187 := n3_; have GE187 := n4_; have NB185_187 := n5_; have NB187_185 := n6_; clear n0_ n1_ n2_ n3_ n4_ n5_ n6_; clear hb hbox hg; have hnb48 := NB187_185.out; have hnc48 := NB185_187.out; have hcz49_0 : w47.cell? ⟨gb187, 0, none⟩ = some (.int .i64 0) := (blk_cell BK187.out 0).trans rfl; have hcz49_1 : w47.cell? ⟨gb187, 1, none⟩ = some (.int .i64 0) := (blk_cell BK187.out 1).trans rfl; have hcz49_2 : w47.cell? ⟨gb187, 2, none⟩ = some (.int .i64 0) := (blk_cell BK187.out 2).trans rfl; have hcz49_3 : w47.cell? ⟨gb187, 3, none⟩ = some (.slice none 0 0) := (blk_cell BK187.out 3).trans rfl; have hfz49_0 := blk_frozen BK187.out 0; have hfz49_1 := blk_frozen BK187.out 1; have hfz49_2 := blk_frozen BK187.out 2; have hfz49_3 := blk_frozen BK187.out 3) | (go_at_call 32; (with_reducible refine (impl_pages.calls ((rd_T58 l0_1 x26_2).f2) t188 _ A40.out).mono ?_); rintro e w' ⟨rfl, ⟨nd, rfl⟩⟩; (try first | exact ⟨rfl, _, World.drewN_drewN _ _ _⟩ | exact ⟨rfl, _, Eq.trans (World.drewN_drewN _ _ _) (congrArg (World.drewN _) (Nat.add_assoc _ _ _))⟩); have hcz50_0 : w47.cell? ⟨gb185, 0, none⟩ = some (.int .i64 a0_0) := (blk_cell BK185.out 0).trans rfl; have hcz50_1 : w47.cell? ⟨gb185, 1, none⟩ = some (.slice (some ad186) l0_1.length c0_1) := (blk_cell BK185.out 1).trans rfl; have hfz50_0 := blk_frozen BK185.out 0; have hfz50_1 := blk_frozen BK185.out 1))
          repeat (go_quiet (first | ((with_reducible refine gate_dst (N := 6) rfl ?_); (try (refine gate_guard (by rfl) ?_; dsimp only)); refine box_event ?hg (N := 6) ?hd (cs := #[.int .i64 0, .int .i64 0, .int .i64 0, .slice none 0 0]) (t := 58) ?hr ?_; (case hd => rfl); (case hg => rfl); (case hr => exact Z6_9); intro gb187 hg w47 hbox hb; have n0_ := Aside0.mk (blk_below (g := gb185) (o := .cells #[.int .i64 a0_0, .slice (some ad186) l0_1.length c0_1] 29 (0, 0)) Z6_2 hb); have n1_ := Aside0.mk (below_step Z6_1 hb); have n2_ := Aside0.mk (hbox); have n3_ := Aside0.mk ((Z6_7 : w.heap.size ≤ gb187)); have n4_ := Aside0.mk ((Z6_7 : w.heap.size ≤ gb187)); have n5_ := Aside0.mk ((Z6_3 : gb185 ≠ gb187)); have n6_ := Aside0.mk ((Z6_4 : gb187 ≠ gb185)); clear BK185; clear HB; have BK185 := n0_; have HB := n1_; have BK187 := n2_; have GW187 := n3_; have GE187 := n4_; have NB185_187 := n5_; have NB187_185 := n6_; clear n0_ n1_ n2_ n3_ n4_ n5_ n6_; clear hb hbox hg; have hnb48 := NB187_185.out; have hnc48 := NB185_187.out; have hcz49_0 : w47.cell? ⟨gb187, 0, none⟩ = some (.int .i64 0) := (blk_cell BK187.out 0).trans rfl; have hcz49_1 : w47.cell? ⟨gb187, 1, none⟩ = some (.int .i64 0) := (blk_cell BK187.out 1).trans rfl; have hcz49_2 : w47.cell? ⟨gb187, 2, none⟩ = some (.int .i64 0) := (blk_cell BK187.out 2).trans rfl; have hcz49_3 : w47.cell? ⟨gb187, 3, none⟩ = some (.slice none 0 0) := (blk_cell BK187.out 3).trans rfl; have hfz49_0 := blk_frozen BK187.out 0; have hfz49_1 := blk_frozen BK187.out 1; have hfz49_2 := blk_frozen BK187.out 2; have hfz49_3 := blk_frozen BK187.out 3) | (go_at_call 32; (with_reducible refine (impl_pages.calls ((rd_T58 l0_1 x26_2).f2) t188 _ A40.out).mono ?_); rintro e w' ⟨rfl, ⟨nd, rfl⟩⟩; (try first | exact ⟨rfl, _, World.drewN_drewN _ _ _⟩ | exact ⟨rfl, _, Eq.trans (World.drewN_drewN _ _ _) (congrArg (World.drewN _) (Nat.add_assoc _ _ _))⟩); have hcz50_0 : w47.cell? ⟨gb185, 0, none⟩ = some (.int .i64 a0_0) := (blk_cell BK185.out 0).trans rfl; have hcz50_1 : w47.cell? ⟨gb185, 1, none⟩ = some (.slice (some ad186) l0_1.length c0_1) := (blk_cell BK185.out 1).trans rfl; have hfz50_0 := blk_frozen BK185.out 0; have hfz50_1 := blk_frozen BK185.out 1)); try go_wp2_with (first | ((with_reducible refine gate_dst (N := 6) rfl ?_); (try (refine gate_guard (by rfl) ?_; dsimp only)); refine box_event ?hg (N := 6) ?hd (cs := #[.int .i64 0, .int .i64 0, .int .i64 0, .slice none 0 0]) (t := 58) ?hr ?_; (case hd => rfl); (case hg => rfl); (case hr => exact Z6_9); intro gb187 hg w47 hbox hb; have n0_ := Aside0.mk (blk_below (g := gb185) (o := .cells #[.int .i64 a0_0, .slice (some ad186) l0_1.length c0_1] 29 (0, 0)) Z6_2 hb); have n1_ := Aside0.mk (below_step Z6_1 hb); have n2_ := Aside0.mk (hbox); have n3_ := Aside0.mk ((Z6_7 : w.heap.size ≤ gb187)); have n4_ := Aside0.mk ((Z6_7 : w.heap.size ≤ gb187)); have n5_ := Aside0.mk ((Z6_3 : gb185 ≠ gb187)); have n6_ := Aside0.mk ((Z6_4 : gb187 ≠ gb185)); clear BK185; clear HB; have BK185 := n0_; have HB := n1_; have BK187 := n2_; have GW187 := n3_; have GE187 := n4_; have NB185_187 := n5_; have NB187_185 := n6_; clear n0_ n1_ n2_ n3_ n4_ n5_ n6_; clear hb hbox hg; have hnb48 := NB187_185.out; have hnc48 := NB185_187.out; have hcz49_0 : w47.cell? ⟨gb187, 0, none⟩ = some (.int .i64 0) := (blk_cell BK187.out 0).trans rfl; have hcz49_1 : w47.cell? ⟨gb187, 1, none⟩ = some (.int .i64 0) := (blk_cell BK187.out 1).trans rfl; have hcz49_2 : w47.cell? ⟨gb187, 2, none⟩ = some (.int .i64 0) := (blk_cell BK187.out 2).trans rfl; have hcz49_3 : w47.cell? ⟨gb187, 3, none⟩ = some (.slice none 0 0) := (blk_cell BK187.out 3).trans rfl; have hfz49_0 := blk_frozen BK187.out 0; have hfz49_1 := blk_frozen BK187.out 1; have hfz49_2 := blk_frozen BK187.out 2; have hfz49_3 := blk_frozen BK187.out 3) | (go_at_call 32; (with_reducible refine (impl_pages.calls ((rd_T58 l0_1 x26_2).f2) t188 _ A40.out).mono ?_); rintro e w' ⟨rfl, ⟨nd, rfl⟩⟩; (try first | exact ⟨rfl, _, World.drewN_drewN _ _ _⟩ | exact ⟨rfl, _, Eq.trans (World.drewN_drewN _ _ _) (congrArg (World.drewN _) (Nat.add_assoc _ _ _))⟩); have hcz50_0 : w47.cell? ⟨gb185, 0, none⟩ = some (.int .i64 a0_0) := (blk_cell BK185.out 0).trans rfl; have hcz50_1 : w47.cell? ⟨gb185, 1, none⟩ = some (.slice (some ad186) l0_1.length c0_1) := (blk_cell BK185.out 1).trans rfl; have hfz50_0 := blk_frozen BK185.out 0; have hfz50_1 := blk_frozen BK185.out 1)))
          go_roundg k2
          case measure => have := HJ1.out; have := HK2.out; omega
          case rel => exact ⟨(wrap64 (((rd_T58 l0_1 x26_2).f0) + t188)), (decide (a0_0 < (wrap64 (((rd_T58 l0_1 x26_2).f0) + ((rd_T58 l0_1 x26_2).f2))))), (wrap64 (x26_2 + 1)), Z6_8, Z6_8, Z6_8, H', ⟨Z6_13⟩, ⟨Z6_5⟩, ⟨Z6_6⟩⟩
         rw [if_neg c46] at H
         have c46b0 : decide (((rd_T58 l0_1 x26_2).f0) ≤ a0_0) = false := decide_eq_false c46
         clear c46
         have H' := Aside0.mk H
         clear H
         have p186 : 0 ≤ (x26_2 : Int) := of_decide_eq_true Z6_10
         have q186 : x26_2 < (l0_1.length : Int) := of_decide_eq_true Z6_10
         obtain ⟨ad186, A186_3, c186_3, e186, hx186_0, hx186_1, hx186_2, hx186_3, hl186_3, hi186_3⟩ := at_T58 HR0_1.out x26_2 p186 q186
         cases e186
         replace hx186_0 := (HB.out.cell (World.block_lt_of_cell? w _ hx186_0)).trans hx186_0
         replace hx186_1 := (HB.out.cell (World.block_lt_of_cell? w _ hx186_1)).trans hx186_1
         replace hx186_2 := (HB.out.cell (World.block_lt_of_cell? w _ hx186_2)).trans hx186_2
         replace hx186_3 := (HB.out.cell (World.block_lt_of_cell? w _ hx186_3)).trans hx186_3
         have HR186_3 := Aside0.mk hi186_3
         have HC186_3 := Aside0.mk hl186_3
         clear hi186_3 hl186_3
         replace p186 := eq_true p186
         replace q186 := eq_true q186
         go_wp2_with (first | ((with_reducible refine gate_dst (N := 6) rfl ?_); (try (refine gate_guard (by rfl) ?_; dsimp only)); refine box_event ?hg (N := 6) ?hd (cs := #[.int .i64 0, .int .i64 0, .int .i64 0, .slice none 0 0]) (t := 58) ?hr ?_; (case hd => rfl); (case hg => rfl); (case hr => exact Z6_9); intro gb187 hg w51 hbox hb; have n0_ := Aside0.mk (blk_below (g := gb185) (o := .cells #[.int .i64 a0_0, .slice (some ad186) l0_1.length c0_1] 29 (0, 0)) Z6_2 hb); have n1_ := Aside0.mk (below_step Z6_1 hb); have n2_ := Aside0.mk (hbox); have n3_ := Aside0.mk ((Z6_7 : w.heap.size ≤ gb187)); have n4_ := Aside0.mk ((Z6_7 : w.heap.size ≤ gb187)); have n5_ := Aside0.mk ((Z6_3 : gb185 ≠ gb187)); have n6_ := Aside0.mk ((Z6_4 : gb187 ≠ gb185)); clear BK185; clear HB; have BK185 := n0_; have HB := n1_; have BK187 := n2_; have GW187 := n3_; have GE187 := n4_; have NB185_187 := n5_; have NB187_185 := n6_; clear n0_ n1_ n2_ n3_ n4_ n5_ n6_; clear hb hbox hg; have hnb52 := NB187_185.out; have hnc52 := NB185_187.out; have hcz53_0 : w51.cell? ⟨gb187, 0, none⟩ = some (.int .i64 0) := (blk_cell BK187.out 0).trans rfl; have hcz53_1 : w51.cell? ⟨gb187, 1, none⟩ = some (.int .i64 0) := (blk_cell BK187.out 1).trans rfl; have hcz53_2 : w51.cell? ⟨gb187, 2, none⟩ = some (.int .i64 0) := (blk_cell BK187.out 2).trans rfl; have hcz53_3 : w51.cell? ⟨gb187, 3, none⟩ = some (.slice none 0 0) := (blk_cell BK187.out 3).trans rfl; have hfz53_0 := blk_frozen BK187.out 0; have hfz53_1 := blk_frozen BK187.out 1; have hfz53_2 := blk_frozen BK187.out 2; have hfz53_3 := blk_frozen BK187.out 3) | (go_at_call 32; (with_reducible refine (impl_pages.calls ((rd_T58 l0_1 x26_2).f2) t188 _ A40.out).mono ?_); rintro e w' ⟨rfl, ⟨nd, rfl⟩⟩; (try first | exact ⟨rfl, _, World.drewN_drewN _ _ _⟩ | exact ⟨rfl, _, Eq.trans (World.drewN_drewN _ _ _) (congrArg (World.drewN _) (Nat.add_assoc _ _ _))⟩); have hcz54_0 : w51.cell? ⟨gb185, 0, none⟩ = some (.int .i64 a0_0) := (blk_cell BK185.out 0).trans rfl; have hcz54_1 : w51.cell? ⟨gb185, 1, none⟩ = some (.slice (some ad186) l0_1.length c0_1) := (blk_cell BK185.out 1).trans rfl; have hfz54_0 := blk_frozen BK185.out 0; have hfz54_1 := blk_frozen BK185.out 1))
         repeat (go_quiet (first | ((with_reducible refine gate_dst (N := 6) rfl ?_); (try (refine gate_guard (by rfl) ?_; dsimp only)); refine box_event ?hg (N := 6) ?hd (cs := #[.int .i64 0, .int .i64 0, .int .i64 0, .slice none 0 0]) (t := 58) ?hr ?_; (case hd => rfl); (case hg => rfl); (case hr => exact Z6_9); intro gb187 hg w51 hbox hb; have n0_ := Aside0.mk (blk_below (g := gb185) (o := .cells #[.int .i64 a0_0, .slice (some ad186) l0_1.length c0_1] 29 (0, 0)) Z6_2 hb); have n1_ := Aside0.mk (below_step Z6_1 hb); have n2_ := Aside0.mk (hbox); have n3_ := Aside0.mk ((Z6_7 : w.heap.size ≤ gb187)); have n4_ := Aside0.mk ((Z6_7 : w.heap.size ≤ gb187)); have n5_ := Aside0.mk ((Z6_3 : gb185 ≠ gb187)); have n6_ := Aside0.mk ((Z6_4 : gb187 ≠ gb185)); clear BK185; clear HB; have BK185 := n0_; have HB := n1_; have BK187 := n2_; have GW187 := n3_; have GE187 := n4_; have NB185_187 := n5_; have NB187_185 := n6_; clear n0_ n1_ n2_ n3_ n4_ n5_ n6_; clear hb hbox hg; have hnb52 := NB187_185.out; have hnc52 := NB185_187.out; have hcz53_0 : w51.cell? ⟨gb187, 0, none⟩ = some (.int .i64 0) := (blk_cell BK187.out 0).trans rfl; have hcz53_1 : w51.cell? ⟨gb187, 1, none⟩ = some (.int .i64 0) := (blk_cell BK187.out 1).trans rfl; have hcz53_2 : w51.cell? ⟨gb187, 2, none⟩ = some (.int .i64 0) := (blk_cell BK187.out 2).trans rfl; have hcz53_3 : w51.cell? ⟨gb187, 3, none⟩ = some (.slice none 0 0) := (blk_cell BK187.out 3).trans rfl; have hfz53_0 := blk_frozen BK187.out 0; have hfz53_1 := blk_frozen BK187.out 1; have hfz53_2 := blk_frozen BK187.out 2; have hfz53_3 := blk_frozen BK187.out 3) | (go_at_call 32; (with_reducible refine (impl_pages.calls ((rd_T58 l0_1 x26_2).f2) t188 _ A40.out).mono ?_); rintro e w' ⟨rfl, ⟨nd, rfl⟩⟩; (try first | exact ⟨rfl, _, World.drewN_drewN _ _ _⟩ | exact ⟨rfl, _, Eq.trans (World.drewN_drewN _ _ _) (congrArg (World.drewN _) (Nat.add_assoc _ _ _))⟩); have hcz54_0 : w51.cell? ⟨gb185, 0, none⟩ = some (.int .i64 a0_0) := (blk_cell BK185.out 0).trans rfl; have hcz54_1 : w51.cell? ⟨gb185, 1, none⟩ = some (.slice (some ad186) l0_1.length c0_1) := (blk_cell BK185.out 1).trans rfl; have hfz54_0 := blk_frozen BK185.out 0; have hfz54_1 := blk_frozen BK185.out 1)); try go_wp2_with (first | ((with_reducible refine gate_dst (N := 6) rfl ?_); (try (refine gate_guard (by rfl) ?_; dsimp only)); refine box_event ?hg (N := 6) ?hd (cs := #[.int .i64 0, .int .i64 0, .int .i64 0, .slice none 0 0]) (t := 58) ?hr ?_; (case hd => rfl); (case hg => rfl); (case hr => exact Z6_9); intro gb187 hg w51 hbox hb; have n0_ := Aside0.mk (blk_below (g := gb185) (o := .cells #[.int .i64 a0_0, .slice (some ad186) l0_1.length c0_1] 29 (0, 0)) Z6_2 hb); have n1_ := Aside0.mk (below_step Z6_1 hb); have n2_ := Aside0.mk (hbox); have n3_ := Aside0.mk ((Z6_7 : w.heap.size ≤ gb187)); have n4_ := Aside0.mk ((Z6_7 : w.heap.size ≤ gb187)); have n5_ := Aside0.mk ((Z6_3 : gb185 ≠ gb187)); have n6_ := Aside0.mk ((Z6_4 : gb187 ≠ gb185)); clear BK185; clear HB; have BK185 := n0_; have HB := n1_; have BK187 := n2_; have GW187 := n3_; have GE187 := n4_; have NB185_187 := n5_; have NB187_185 := n6_; clear n0_ n1_ n2_ n3_ n4_ n5_ n6_; clear hb hbox hg; have hnb52 := NB187_185.out; have hnc52 := NB185_187.out; have hcz53_0 : w51.cell? ⟨gb187, 0, none⟩ = some (.int .i64 0) := (blk_cell BK187.out 0).trans rfl; have hcz53_1 : w51.cell? ⟨gb187, 1, none⟩ = some (.int .i64 0) := (blk_cell BK187.out 1).trans rfl; have hcz53_2 : w51.cell? ⟨gb187, 2, none⟩ = some (.int .i64 0) := (blk_cell BK187.out 2).trans rfl; have hcz53_3 : w51.cell? ⟨gb187, 3, none⟩ = some (.slice none 0 0) := (blk_cell BK187.out 3).trans rfl; have hfz53_0 := blk_frozen BK187.out 0; have hfz53_1 := blk_frozen BK187.out 1; have hfz53_2 := blk_frozen BK187.out 2; have hfz53_3 := blk_frozen BK187.out 3) | (go_at_call 32; (with_reducible refine (impl_pages.calls ((rd_T58 l0_1 x26_2).f2) t188 _ A40.out).mono ?_); rintro e w' ⟨rfl, ⟨nd, rfl⟩⟩; (try first | exact ⟨rfl, _, World.drewN_drewN _ _ _⟩ | exact ⟨rfl, _, Eq.trans (World.drewN_drewN _ _ _) (congrArg (World.drewN _) (Nat.add_assoc _ _ _))⟩); have hcz54_0 : w51.cell? ⟨gb185, 0, none⟩ = some (.int .i64 a0_0) := (blk_cell BK185.out 0).trans rfl; have hcz54_1 : w51.cell? ⟨gb185, 1, none⟩ = some (.slice (some ad186) l0_1.length c0_1) := (blk_cell BK185.out 1).trans rfl; have hfz54_0 := blk_frozen BK185.out 0; have hfz54_1 := blk_frozen BK185.out 1)))
         go_roundg k2
         case measure => have := HJ1.out; have := HK2.out; omega
         case rel => exact ⟨(wrap64 (((rd_T58 l0_1 x26_2).f0) + t188)), (false), (wrap64 (x26_2 + 1)), Z6_8, Z6_8, Z6_8, H', ⟨Z6_13⟩, ⟨Z6_5⟩, ⟨Z6_6⟩⟩
        rw [if_neg c45] at H
        have c45b0 : (((rd_T58 l0_1 x26_2).f1) == 5) = false := beq_eq_false_iff_ne.mpr c45
        have c45b1 : (((rd_T58 l0_1 x26_2).f1) != 5) = true := bne_iff_ne.mpr c45
        have H' := Aside0.mk H
        clear H
        have p186 : 0 ≤ (x26_2 : Int) := of_decide_eq_true Z6_10
        have q186 : x26_2 < (l0_1.length : Int) := of_decide_eq_true Z6_10
        obtain ⟨ad186, A186_3, c186_3, e186, hx186_0, hx186_1, hx186_2, hx186_3, hl186_3, hi186_3⟩ := at_T58 HR0_1.out x26_2 p186 q186
        cases e186
        replace hx186_0 := (HB.out.cell (World.block_lt_of_cell? w _ hx186_0)).trans hx186_0
        replace hx186_1 := (HB.out.cell (World.block_lt_of_cell? w _ hx186_1)).trans hx186_1
        replace hx186_2 := (HB.out.cell (World.block_lt_of_cell? w _ hx186_2)).trans hx186_2
        replace hx186_3 := (HB.out.cell (World.block_lt_of_cell? w _ hx186_3)).trans hx186_3
        have HR186_3 := Aside0.mk hi186_3
        have HC186_3 := Aside0.mk hl186_3
        clear hi186_3 hl186_3
        replace p186 := eq_true p186
        replace q186 := eq_true q186
        go_wp2_with (first | ((with_reducible refine gate_dst (N := 6) rfl ?_); (try (refine gate_guard (by rfl) ?_; dsimp only)); refine box_event ?hg (N := 6) ?hd (cs := #[.int .i64 0, .int .i64 0, .int .i64 0, .slice none 0 0]) (t := 58) ?hr ?_; (case hd => rfl); (case hg => rfl); (case hr => exact Z6_9); intro gb187 hg w55 hbox hb; have n0_ := Aside0.mk (blk_below (g := gb185) (o := .cells #[.int .i64 a0_0, .slice (some ad186) l0_1.length c0_1] 29 (0, 0)) Z6_2 hb); have n1_ := Aside0.mk (below_step Z6_1 hb); have n2_ := Aside0.mk (hbox); have n3_ := Aside0.mk ((Z6_7 : w.heap.size ≤ gb187)); have n4_ := Aside0.mk ((Z6_7 : w.heap.size ≤ gb187)); have n5_ := Aside0.mk ((Z6_3 : gb185 ≠ gb187)); have n6_ := Aside0.mk ((Z6_4 : gb187 ≠ gb185)); clear BK185; clear HB; have BK185 := n0_; have HB := n1_; have BK187 := n2_; have GW187 := n3_; have GE187 := n4_; have NB185_187 := n5_; have NB187_185 := n6_; clear n0_ n1_ n2_ n3_ n4_ n5_ n6_; clear hb hbox hg; have hnb56 := NB187_185.out; have hnc56 := NB185_187.out; have hcz57_0 : w55.cell? ⟨gb187, 0, none⟩ = some (.int .i64 0) := (blk_cell BK187.out 0).trans rfl; have hcz57_1 : w55.cell? ⟨gb187, 1, none⟩ = some (.int .i64 0) := (blk_cell BK187.out 1).trans rfl; have hcz57_2 : w55.cell? ⟨gb187, 2, none⟩ = some (.int .i64 0) := (blk_cell BK187.out 2).trans rfl; have hcz57_3 : w55.cell? ⟨gb187, 3, none⟩ = some (.slice none 0 0) := (blk_cell BK187.out 3).trans rfl; have hfz57_0 := blk_frozen BK187.out 0; have hfz57_1 := blk_frozen BK187.out 1; have hfz57_2 := blk_frozen BK187.out 2; have hfz57_3 := blk_frozen BK187.out 3) | (go_at_call 32; (with_reducible refine (impl_pages.calls ((rd_T58 l0_1 x26_2).f2) t188 _ A40.out).mono ?_); rintro e w' ⟨rfl, ⟨nd, rfl⟩⟩; (try first | exact ⟨rfl, _, World.drewN_drewN _ _ _⟩ | exact ⟨rfl, _, Eq.trans (World.drewN_drewN _ _ _) (congrArg (World.drewN _) (Nat.add_assoc _ _ _))⟩)))
        repeat (go_quiet (first | ((with_reducible refine gate_dst (N := 6) rfl ?_); (try (refine gate_guard (by rfl) ?_; dsimp only)); refine box_event ?hg (N := 6) ?hd (cs := #[.int .i64 0, .int .i64 0, .int .i64 0, .slice none 0 0]) (t := 58) ?hr ?_; (case hd => rfl); (case hg => rfl); (case hr => exact Z6_9); intro gb187 hg w55 hbox hb; have n0_ := Aside0.mk (blk_below (g := gb185) (o := .cells #[.int .i64 a0_0, .slice (some ad186) l0_1.length c0_1] 29 (0, 0)) Z6_2 hb); have n1_ := Aside0.mk (below_step Z6_1 hb); have n2_ := Aside0.mk (hbox); have n3_ := Aside0.mk ((Z6_7 : w.heap.size ≤ gb187)); have n4_ := Aside0.mk ((Z6_7 : w.heap.size ≤ gb187)); have n5_ := Aside0.mk ((Z6_3 : gb185 ≠ gb187)); have n6_ := Aside0.mk ((Z6_4 : gb187 ≠ gb185)); clear BK185; clear HB; have BK185 := n0_; have HB := n1_; have BK187 := n2_; have GW187 := n3_; have GE187 := n4_; have NB185_187 := n5_; have NB187_185 := n6_; clear n0_ n1_ n2_ n3_ n4_ n5_ n6_; clear hb hbox hg; have hnb56 := NB187_185.out; have hnc56 := NB185_187.out; have hcz57_0 : w55.cell? ⟨gb187, 0, none⟩ = some (.int .i64 0) := (blk_cell BK187.out 0).trans rfl; have hcz57_1 : w55.cell? ⟨gb187, 1, none⟩ = some (.int .i64 0) := (blk_cell BK187.out 1).trans rfl; have hcz57_2 : w55.cell? ⟨gb187, 2, none⟩ = some (.int .i64 0) := (blk_cell BK187.out 2).trans rfl; have hcz57_3 : w55.cell? ⟨gb187, 3, none⟩ = some (.slice none 0 0) := (blk_cell BK187.out 3).trans rfl; have hfz57_0 := blk_frozen BK187.out 0; have hfz57_1 := blk_frozen BK187.out 1; have hfz57_2 := blk_frozen BK187.out 2; have hfz57_3 := blk_frozen BK187.out 3) | (go_at_call 32; (with_reducible refine (impl_pages.calls ((rd_T58 l0_1 x26_2).f2) t188 _ A40.out).mono ?_); rintro e w' ⟨rfl, ⟨nd, rfl⟩⟩; (try first | exact ⟨rfl, _, World.drewN_drewN _ _ _⟩ | exact ⟨rfl, _, Eq.trans (World.drewN_drewN _ _ _) (congrArg (World.drewN _) (Nat.add_assoc _ _ _))⟩))); try go_wp2_with (first | ((with_reducible refine gate_dst (N := 6) rfl ?_); (try (refine gate_guard (by rfl) ?_; dsimp only)); refine box_event ?hg (N := 6) ?hd (cs := #[.int .i64 0, .int .i64 0, .int .i64 0, .slice none 0 0]) (t := 58) ?hr ?_; (case hd => rfl); (case hg => rfl); (case hr => exact Z6_9); intro gb187 hg w55 hbox hb; have n0_ := Aside0.mk (blk_below (g := gb185) (o := .cells #[.int .i64 a0_0, .slice (some ad186) l0_1.length c0_1] 29 (0, 0)) Z6_2 hb); have n1_ := Aside0.mk (below_step Z6_1 hb); have n2_ := Aside0.mk (hbox); have n3_ := Aside0.mk ((Z6_7 : w.heap.size ≤ gb187)); have n4_ := Aside0.mk ((Z6_7 : w.heap.size ≤ gb187)); have n5_ := Aside0.mk ((Z6_3 : gb185 ≠ gb187)); have n6_ := Aside0.mk ((Z6_4 : gb187 ≠ gb185)); clear BK185; clear HB; have BK185 := n0_; have HB := n1_; have BK187 := n2_; have GW187 := n3_; have GE187 := n4_; have NB185_187 := n5_; have NB187_185 := n6_; clear n0_ n1_ n2_ n3_ n4_ n5_ n6_; clear hb hbox hg; have hnb56 := NB187_185.out; have hnc56 := NB185_187.out; have hcz57_0 : w55.cell? ⟨gb187, 0, none⟩ = some (.int .i64 0) := (blk_cell BK187.out 0).trans rfl; have hcz57_1 : w55.cell? ⟨gb187, 1, none⟩ = some (.int .i64 0) := (blk_cell BK187.out 1).trans rfl; have hcz57_2 : w55.cell? ⟨gb187, 2, none⟩ = some (.int .i64 0) := (blk_cell BK187.out 2).trans rfl; have hcz57_3 : w55.cell? ⟨gb187, 3, none⟩ = some (.slice none 0 0) := (blk_cell BK187.out 3).trans rfl; have hfz57_0 := blk_frozen BK187.out 0; have hfz57_1 := blk_frozen BK187.out 1; have hfz57_2 := blk_frozen BK187.out 2; have hfz57_3 := blk_frozen BK187.out 3) | (go_at_call 32; (with_reducible refine (impl_pages.calls ((rd_T58 l0_1 x26_2).f2) t188 _ A40.out).mono ?_); rintro e w' ⟨rfl, ⟨nd, rfl⟩⟩; (try first | exact ⟨rfl, _, World.drewN_drewN _ _ _⟩ | exact ⟨rfl, _, Eq.trans (World.drewN_drewN _ _ _) (congrArg (World.drewN _) (Nat.add_assoc _ _ _))⟩))))
        go_roundg k2
        case measure => have := HJ1.out; have := HK2.out; omega
        case rel => exact ⟨(wrap64 (((rd_T58 l0_1 x26_2).f0) + t188)), (false), (wrap64 (x26_2 + 1)), Z6_8, Z6_8, Z6_8, H', ⟨Z6_13⟩, ⟨Z6_5⟩, ⟨Z6_6⟩⟩
       rw [if_neg c39] at H
       have c39b0 : (((rd_T58 l0_1 x26_2).f1) == 1) = false := beq_eq_false_iff_ne.mpr c39
       have c39b1 : (((rd_T58 l0_1 x26_2).f1) != 1) = true := bne_iff_ne.mpr c39
       by_cases c58 : ((rd_T58 l0_1 x26_2).f1) = 3
       ·rw [if_pos c58] at H
        have c58b0 : (((rd_T58 l0_1 x26_2).f1) == 3) = true := beq_iff_eq.mpr c58
        have c58b1 : (((rd_T58 l0_1 x26_2).f1) != 3) = false := bne_eq_false_iff_eq.mpr c58
        clear c58
        replace H := Option.bind_eq_some_iff.mp H
        obtain ⟨t189, A590, H⟩ := H
        replace H : (if x4_2 = true then (impl_ImageOk.l0 k2 (wrap64 (((rd_T58 l0_1 x26_2).f0) + t189)) true l0_1 (l0_1.length : Int) (wrap64 (x26_2 + 1)) a0_0 l0_1) else (if ((rd_T58 l0_1 x26_2).f1) = 5 then (if a0_0 ≥ ((rd_T58 l0_1 x26_2).f0) then (impl_ImageOk.l0 k2 (wrap64 (((rd_T58 l0_1 x26_2).f0) + t189)) (decide (a0_0 < (wrap64 (((rd_T58 l0_1 x26_2).f0) + ((rd_T58 l0_1 x26_2).f2))))) l0_1 (l0_1.length : Int) (wrap64 (x26_2 + 1)) a0_0 l0_1) else (impl_ImageOk.l0 k2 (wrap64 (((rd_T58 l0_1 x26_2).f0) + t189)) false l0_1 (l0_1.length : Int) (wrap64 (x26_2 + 1)) a0_0 l0_1)) else (impl_ImageOk.l0 k2 (wrap64 (((rd_T58 l0_1 x26_2).f0) + t189)) false l0_1 (l0_1.length : Int) (wrap64 (x26_2 + 1)) a0_0 l0_1))) = some r := H
        have A59 := Aside0.mk A590
        clear A590
        by_cases c60 : x4_2 = true
        ·subst c60
         have H1 : (impl_ImageOk.l0 k2 (wrap64 (((rd_T58 l0_1 x26_2).f0) + t189)) true l0_1 (l0_1.length : Int) (wrap64 (x26_2 + 1)) a0_0 l0_1) = some r := by rw [if_pos rfl] at H; exact H
         clear H
         have H := H1
         clear H1
         have H' := Aside0.mk H
         clear H
         have p186 : 0 ≤ (x26_2 : Int) := of_decide_eq_true Z6_10
         have q186 : x26_2 < (l0_1.length : Int) := of_decide_eq_true Z6_10
         obtain ⟨ad186, A186_3, c186_3, e186, hx186_0, hx186_1, hx186_2, hx186_3, hl186_3, hi186_3⟩ := at_T58 HR0_1.out x26_2 p186 q186
         cases e186
         replace hx186_0 := (HB.out.cell (World.block_lt_of_cell? w _ hx186_0)).trans hx186_0
         replace hx186_1 := (HB.out.cell (World.block_lt_of_cell? w _ hx186_1)).trans hx186_1
         replace hx186_2 := (HB.out.cell (World.block_lt_of_cell? w _ hx186_2)).trans hx186_2
         replace hx186_3 := (HB.out.cell (World.block_lt_of_cell? w _ hx186_3)).trans hx186_3
         have HR186_3 := Aside0.mk hi186_3
         have HC186_3 := Aside0.mk hl186_3
         clear hi186_3 hl186_3
         replace p186 := eq_true p186
         replace q186 := eq_true q186
         go_wp2_with (first | ((with_reducible refine gate_dst (N := 6) rfl ?_); (try (refine gate_guard (by rfl) ?_; dsimp only)); refine box_event ?hg (N := 6) ?hd (cs := #[.int .i64 0, .int .i64 0, .int .i64 0, .slice none 0 0]) (t := 58) ?hr ?_; (case hd => rfl); (case hg => rfl); (case hr => exact Z6_9); intro gb187 hg w61 hbox hb; have n0_ := Aside0.mk (blk_below (g := gb185) (o := .cells #[.int .i64 a0_0, .slice (some ad186) l0_1.length c0_1] 29 (0, 0)) Z6_2 hb); have n1_ := Aside0.mk (below_step Z6_1 hb); have n2_ := Aside0.mk (hbox); have n3_ := Aside0.mk ((Z6_7 : w.heap.size ≤ gb187)); have n4_ := Aside0.mk ((Z6_7 : w.heap.size ≤ gb187)); have n5_ := Aside0.mk ((Z6_3 : gb185 ≠ gb187)); have n6_ := Aside0.mk ((Z6_4 : gb187 ≠ gb185)); clear BK185; clear HB; have BK185 := n0_; have HB := n1_; have BK187 := n2_; have GW187 := n3_; have GE187 := n4_; have NB185_187 := n5_; have NB187_185 := n6_; clear n0_ n1_ n2_ n3_ n4_ n5_ n6_; clear hb hbox hg; have hnb62 := NB187_185.out; have hnc62 := NB185_187.out; have hcz63_0 : w61.cell? ⟨gb187, 0, none⟩ = some (.int .i64 0) := (blk_cell BK187.out 0).trans rfl; have hcz63_1 : w61.cell? ⟨gb187, 1, none⟩ = some (.int .i64 0) := (blk_cell BK187.out 1).trans rfl; have hcz63_2 : w61.cell? ⟨gb187, 2, none⟩ = some (.int .i64 0) := (blk_cell BK187.out 2).trans rfl; have hcz63_3 : w61.cell? ⟨gb187, 3, none⟩ = some (.slice none 0 0) := (blk_cell BK187.out 3).trans rfl; have hfz63_0 := blk_frozen BK187.out 0; have hfz63_1 := blk_frozen BK187.out 1; have hfz63_2 := blk_frozen BK187.out 2; have hfz63_3 := blk_frozen BK187.out 3) | (go_at_call 32; (with_reducible refine (impl_pages.calls ((rd_T58 l0_1 x26_2).f2) t189 _ A59.out).mono ?_); rintro e w' ⟨rfl, ⟨nd, rfl⟩⟩; (try first | exact ⟨rfl, _, World.drewN_drewN _ _ _⟩ | exact ⟨rfl, _, Eq.trans (World.drewN_drewN _ _ _) (congrArg (World.drewN _) (Nat.add_assoc _ _ _))⟩)))
         repeat (go_quiet (first | ((with_reducible refine gate_dst (N := 6) rfl ?_); (try (refine gate_guard (by rfl) ?_; dsimp only)); refine box_event ?hg (N := 6) ?hd (cs := #[.int .i64 0, .int .i64 0, .int .i64 0, .slice none 0 0]) (t := 58) ?hr ?_; (case hd => rfl); (case hg => rfl); (case hr => exact Z6_9); intro gb187 hg w61 hbox hb; have n0_ := Aside0.mk (blk_below (g := gb185) (o := .cells #[.int .i64 a0_0, .slice (some ad186) l0_1.length c0_1] 29 (0, 0)) Z6_2 hb); have n1_ := Aside0.mk (below_step Z6_1 hb); have n2_ := Aside0.mk (hbox); have n3_ := Aside0.mk ((Z6_7 : w.heap.size ≤ gb187)); have n4_ := Aside0.mk ((Z6_7 : w.heap.size ≤ gb187)); have n5_ := Aside0.mk ((Z6_3 : gb185 ≠ gb187)); have n6_ := Aside0.mk ((Z6_4 : gb187 ≠ gb185)); clear BK185; clear HB; have BK185 := n0_; have HB := n1_; have BK187 := n2_; have GW187 := n3_; have GE187 := n4_; have NB185_187 := n5_; have NB187_185 := n6_; clear n0_ n1_ n2_ n3_ n4_ n5_ n6_; clear hb hbox hg; have hnb62 := NB187_185.out; have hnc62 := NB185_187.out; have hcz63_0 : w61.cell? ⟨gb187, 0, none⟩ = some (.int .i64 0) := (blk_cell BK187.out 0).trans rfl; have hcz63_1 : w61.cell? ⟨gb187, 1, none⟩ = some (.int .i64 0) := (blk_cell BK187.out 1).trans rfl; have hcz63_2 : w61.cell? ⟨gb187, 2, none⟩ = some (.int .i64 0) := (blk_cell BK187.out 2).trans rfl; have hcz63_3 : w61.cell? ⟨gb187, 3, none⟩ = some (.slice none 0 0) := (blk_cell BK187.out 3).trans rfl; have hfz63_0 := blk_frozen BK187.out 0; have hfz63_1 := blk_frozen BK187.out 1; have hfz63_2 := blk_frozen BK187.out 2; have hfz63_3 := blk_frozen BK187.out 3) | (go_at_call 32; (with_reducible refine (impl_pages.calls ((rd_T58 l0_1 x26_2).f2) t189 _ A59.out).mono ?_); rintro e w' ⟨rfl, ⟨nd, rfl⟩⟩; (try first | exact ⟨rfl, _, World.drewN_drewN _ _ _⟩ | exact ⟨rfl, _, Eq.trans (World.drewN_drewN _ _ _) (congrArg (World.drewN _) (Nat.add_assoc _ _ _))⟩))); try go_wp2_with (first | ((with_reducible refine gate_dst (N := 6) rfl ?_); (try (refine gate_guard (by rfl) ?_; dsimp only)); refine box_event ?hg (N := 6) ?hd (cs := #[.int .i64 0, .int .i64 0, .int .i64 0, .slice none 0 0]) (t := 58) ?hr ?_; (case hd => rfl); (case hg => rfl); (case hr => exact Z6_9); intro gb187 hg w61 hbox hb; have n0_ := Aside0.mk (blk_below (g := gb185) (o := .cells #[.int .i64 a0_0, .slice (some ad186) l0_1.length c0_1] 29 (0, 0)) Z6_2 hb); have n1_ := Aside0.mk (below_step Z6_1 hb); have n2_ := Aside0.mk (hbox); have n3_ := Aside0.mk ((Z6_7 : w.heap.size ≤ gb187)); have n4_ := Aside0.mk ((Z6_7 : w.heap.size ≤ gb187)); have n5_ := Aside0.mk ((Z6_3 : gb185 ≠ gb187)); have n6_ := Aside0.mk ((Z6_4 : gb187 ≠ gb185)); clear BK185; clear HB; have BK185 := n0_; have HB := n1_; have BK187 := n2_; have GW187 := n3_; have GE187 := n4_; have NB185_187 := n5_; have NB187_185 := n6_; clear n0_ n1_ n2_ n3_ n4_ n5_ n6_; clear hb hbox hg; have hnb62 := NB187_185.out; have hnc62 := NB185_187.out; have hcz63_0 : w61.cell? ⟨gb187, 0, none⟩ = some (.int .i64 0) := (blk_cell BK187.out 0).trans rfl; have hcz63_1 : w61.cell? ⟨gb187, 1, none⟩ = some (.int .i64 0) := (blk_cell BK187.out 1).trans rfl; have hcz63_2 : w61.cell? ⟨gb187, 2, none⟩ = some (.int .i64 0) := (blk_cell BK187.out 2).trans rfl; have hcz63_3 : w61.cell? ⟨gb187, 3, none⟩ = some (.slice none 0 0) := (blk_cell BK187.out 3).trans rfl; have hfz63_0 := blk_frozen BK187.out 0; have hfz63_1 := blk_frozen BK187.out 1; have hfz63_2 := blk_frozen BK187.out 2; have hfz63_3 := blk_frozen BK187.out 3) | (go_at_call 32; (with_reducible refine (impl_pages.calls ((rd_T58 l0_1 x26_2).f2) t189 _ A59.out).mono ?_); rintro e w' ⟨rfl, ⟨nd, rfl⟩⟩; (try first | exact ⟨rfl, _, World.drewN_drewN _ _ _⟩ | exact ⟨rfl, _, Eq.trans (World.drewN_drewN _ _ _) (congrArg (World.drewN _) (Nat.add_assoc _ _ _))⟩))))
         go_roundg k2
         case measure => have := HJ1.out; have := HK2.out; omega
         case rel => exact ⟨(wrap64 (((rd_T58 l0_1 x26_2).f0) + t189)), (true), (wrap64 (x26_2 + 1)), Z6_8, Z6_8, Z6_8, H', ⟨Z6_13⟩, ⟨Z6_5⟩, ⟨Z6_6⟩⟩
        replace c60 := Bool.eq_false_iff.mpr c60
        subst c60
        have H1 : (if ((rd_T58 l0_1 x26_2).f1) = 5 then (if a0_0 ≥ ((rd_T58 l0_1 x26_2).f0) then (impl_ImageOk.l0 k2 (wrap64 (((rd_T58 l0_1 x26_2).f0) + t189)) (decide (a0_0 < (wrap64 (((rd_T58 l0_1 x26_2).f0) + ((rd_T58 l0_1 x26_2).f2))))) l0_1 (l0_1.length : Int) (wrap64 (x26_2 + 1)) a0_0 l0_1) else (impl_ImageOk.l0 k2 (wrap64 (((rd_T58 l0_1 x26_2).f0) + t189)) false l0_1 (l0_1.length : Int) (wrap64 (x26_2 + 1)) a0_0 l0_1)) else (impl_ImageOk.l0 k2 (wrap64 (((rd_T58 l0_1 x26_2).f0) + t189)) false l0_1 (l0_1.length : Int) (wrap64 (x26_2 + 1)) a0_0 l0_1)) = some r := by rw [if_neg (show ¬ (false = true) by decide)] at H; exact H
        clear H
        have H := H1
        clear H1
        by_cases c64 : ((rd_T58 l0_1 x26_2).f1) = 5
        ·rw [if_pos c64] at H
         have c64b0 : (((rd_T58 l0_1 x26_2).f1) == 5) = true := beq_iff_eq.mpr c64
         have c64b1 : (((rd_T58 l0_1 x26_2).f1) != 5) = false := bne_eq_false_iff_eq.mpr c64
         clear c64
         by_cases c65 : a0_0 ≥ ((rd_T58 l0_1 x26_2).f0)
         ·rw [if_pos c65] at H
          have c65b0 : decide (((rd_T58 l0_1 x26_2).f0) ≤ a0_0) = true := decide_eq_true c65
          clear c65
          have H' := Aside0.mk H
          clear H
          have p186 : 0 ≤ (x26_2 : Int) := of_decide_eq_true Z6_10
          have q186 : x26_2 < (l0_1.length : Int) := of_decide_eq_true Z6_10
          obtain ⟨ad186, A186_3, c186_3, e186, hx186_0, hx186_1, hx186_2, hx186_3, hl186_3, hi186_3⟩ := at_T58 HR0_1.out x26_2 p186 q186
          cases e186
          replace hx186_0 := (HB.out.cell (World.block_lt_of_cell? w _ hx186_0)).trans hx186_0
          replace hx186_1 := (HB.out.cell (World.block_lt_of_cell? w _ hx186_1)).trans hx186_1
          replace hx186_2 := (HB.out.cell (World.block_lt_of_cell? w _ hx186_2)).trans hx186_2
          replace hx186_3 := (HB.out.cell (World.block_lt_of_cell? w _ hx186_3)).trans hx186_3
          have HR186_3 := Aside0.mk hi186_3
          have HC186_3 := Aside0.mk hl186_3
          clear hi186_3 hl186_3
          replace p186 := eq_true p186
          replace q186 := eq_true q186
          go_wp2_with (first | ((with_reducible refine gate_dst (N := 6) rfl ?_); (try (refine gate_guard (by rfl) ?_; dsimp only)); refine box_event ?hg (N := 6) ?hd (cs := #[.int .i64 0, .int .i64 0, .int .i64 0, .slice none 0 0]) (t := 58) ?hr ?_; (case hd => rfl); (case hg => rfl); (case hr => exact Z6_9); intro gb187 hg w66 hbox hb; have n0_ := Aside0.mk (blk_below (g := gb185) (o := .cells #[.int .i64 a0_0, .slice (some ad186) l0_1.length c0_1] 29 (0, 0)) Z6_2 hb); have n1_ := Aside0.mk (below_step Z6_1 hb); have n2_ := Aside0.mk (hbox); have n3_ := Aside0.mk ((Z6_7 : w.heap.size ≤ gb187)); have n4_ := Aside0.mk ((Z6_7 : w.heap.size ≤ gb187)); have n5_ := Aside0.mk ((Z6_3 : gb185 ≠ gb187)); have n6_ := Aside0.mk ((Z6_4 : gb187 ≠ gb185)); clear BK185; clear HB; have BK185 := n0_; have HB := n1_; have BK187 := n2_; have GW187 := n3_; have GE187 := n4_; have NB185_187 := n5_; have NB187_185 := n6_; clear n0_ n1_ n2_ n3_ n4_ n5_ n6_; clear hb hbox hg; have hnb67 := NB187_185.out; have hnc67 := NB185_187.out; have hcz68_0 : w66.cell? ⟨gb187, 0, none⟩ = some (.int .i64 0) := (blk_cell BK187.out 0).trans rfl; have hcz68_1 : w66.cell? ⟨gb187, 1, none⟩ = some (.int .i64 0) := (blk_cell BK187.out 1).trans rfl; have hcz68_2 : w66.cell? ⟨gb187, 2, none⟩ = some (.int .i64 0) := (blk_cell BK187.out 2).trans rfl; have hcz68_3 : w66.cell? ⟨gb187, 3, none⟩ = some (.slice none 0 0) := (blk_cell BK187.out 3).trans rfl; have hfz68_0 := blk_frozen BK187.out 0; have hfz68_1 := blk_frozen BK187.out 1; have hfz68_2 := blk_frozen BK187.out 2; have hfz68_3 := blk_frozen BK187.out 3) | (go_at_call 32; (with_reducible refine (impl_pages.calls ((rd_T58 l0_1 x26_2).f2) t189 _ A59.out).mono ?_); rintro e w' ⟨rfl, ⟨nd, rfl⟩⟩; (try first | exact ⟨rfl, _, World.drewN_drewN _ _ _⟩ | exact ⟨rfl, _, Eq.trans (World.drewN_drewN _ _ _) (congrArg (World.drewN _) (Nat.add_assoc _ _ _))⟩); have hcz69_0 : w66.cell? ⟨gb185, 0, none⟩ = some (.int .i64 a0_0) := (blk_cell BK185.out 0).trans rfl; have hcz69_1 : w66.cell? ⟨gb185, 1, none⟩ = some (.slice (some ad186) l0_1.length c0_1) := (blk_cell BK185.out 1).trans rfl; have hfz69_0 := blk_frozen BK185.out 0; have hfz69_1 := blk_frozen BK185.out 1))
          repeat (go_quiet (first | ((with_reducible refine gate_dst (N := 6) rfl ?_); (try (refine gate_guard (by rfl) ?_; dsimp only)); refine box_event ?hg (N := 6) ?hd (cs := #[.int .i64 0, .int .i64 0, .int .i64 0, .slice none 0 0]) (t := 58) ?hr ?_; (case hd => rfl); (case hg => rfl); (case hr => exact Z6_9); intro gb187 hg w66 hbox hb; have n0_ := Aside0.mk (blk_below (g := gb185) (o := .cells #[.int .i64 a0_0, .slice (some ad186) l0_1.length c0_1] 29 (0, 0)) Z6_2 hb); have n1_ := Aside0.mk (below_step Z6_1 hb); have n2_ := Aside0.mk (hbox); have n3_ := Aside0.mk ((Z6_7 : w.heap.size ≤ gb187)); have n4_ := Aside0.mk ((Z6_7 : w.heap.size ≤ gb187)); have n5_ := Aside0.mk ((Z6_3 : gb185 ≠ gb187)); have n6_ := Aside0.mk ((Z6_4 : gb187 ≠ gb185)); clear BK185; clear HB; have BK185 := n0_; have HB := n1_; have BK187 := n2_; have GW187 := n3_; have GE187 := n4_; have NB185_187 := n5_; have NB187_185 := n6_; clear n0_ n1_ n2_ n3_ n4_ n5_ n6_; clear hb hbox hg; have hnb67 := NB187_185.out; have hnc67 := NB185_187.out; have hcz68_0 : w66.cell? ⟨gb187, 0, none⟩ = some (.int .i64 0) := (blk_cell BK187.out 0).trans rfl; have hcz68_1 : w66.cell? ⟨gb187, 1, none⟩ = some (.int .i64 0) := (blk_cell BK187.out 1).trans rfl; have hcz68_2 : w66.cell? ⟨gb187, 2, none⟩ = some (.int .i64 0) := (blk_cell BK187.out 2).trans rfl; have hcz68_3 : w66.cell? ⟨gb187, 3, none⟩ = some (.slice none 0 0) := (blk_cell BK187.out 3).trans rfl; have hfz68_0 := blk_frozen BK187.out 0; have hfz68_1 := blk_frozen BK187.out 1; have hfz68_2 := blk_frozen BK187.out 2; have hfz68_3 := blk_frozen BK187.out 3) | (go_at_call 32; (with_reducible refine (impl_pages.calls ((rd_T58 l0_1 x26_2).f2) t189 _ A59.out).mono ?_); rintro e w' ⟨rfl, ⟨nd, rfl⟩⟩; (try first | exact ⟨rfl, _, World.drewN_drewN _ _ _⟩ | exact ⟨rfl, _, Eq.trans (World.drewN_drewN _ _ _) (congrArg (World.drewN _) (Nat.add_assoc _ _ _))⟩); have hcz69_0 : w66.cell? ⟨gb185, 0, none⟩ = some (.int .i64 a0_0) := (blk_cell BK185.out 0).trans rfl; have hcz69_1 : w66.cell? ⟨gb185, 1, none⟩ = some (.slice (some ad186) l0_1.length c0_1) := (blk_cell BK185.out 1).trans rfl; have hfz69_0 := blk_frozen BK185.out 0; have hfz69_1 := blk_frozen BK185.out 1)); try go_wp2_with (first | ((with_reducible refine gate_dst (N := 6) rfl ?_); (try (refine gate_guard (by rfl) ?_; dsimp only)); refine box_event ?hg (N := 6) ?hd (cs := #[.int .i64 0, .int .i64 0, .int .i64 0, .slice none 0 0]) (t := 58) ?hr ?_; (case hd => rfl); (case hg => rfl); (case hr => exact Z6_9); intro gb187 hg w66 hbox hb; have n0_ := Aside0.mk (blk_below (g := gb185) (o := .cells #[.int .i64 a0_0, .slice (some ad186) l0_1.length c0_1] 29 (0, 0)) Z6_2 hb); have n1_ := Aside0.mk (below_step Z6_1 hb); have n2_ := Aside0.mk (hbox); have n3_ := Aside0.mk ((Z6_7 : w.heap.size ≤ gb187)); have n4_ := Aside0.mk ((Z6_7 : w.heap.size ≤ gb187)); have n5_ := Aside0.mk ((Z6_3 : gb185 ≠ gb187)); have n6_ := Aside0.mk ((Z6_4 : gb187 ≠ gb185)); clear BK185; clear HB; have BK185 := n0_; have HB := n1_; have BK187 := n2_; have GW187 := n3_; have GE187 := n4_; have NB185_187 := n5_; have NB187_185 := n6_; clear n0_ n1_ n2_ n3_ n4_ n5_ n6_; clear hb hbox hg; have hnb67 := NB187_185.out; have hnc67 := NB185_187.out; have hcz68_0 : w66.cell? ⟨gb187, 0, none⟩ = some (.int .i64 0) := (blk_cell BK187.out 0).trans rfl; have hcz68_1 : w66.cell? ⟨gb187, 1, none⟩ = some (.int .i64 0) := (blk_cell BK187.out 1).trans rfl; have hcz68_2 : w66.cell? ⟨gb187, 2, none⟩ = some (.int .i64 0) := (blk_cell BK187.out 2).trans rfl; have hcz68_3 : w66.cell? ⟨gb187, 3, none⟩ = some (.slice none 0 0) := (blk_cell BK187.out 3).trans rfl; have hfz68_0 := blk_frozen BK187.out 0; have hfz68_1 := blk_frozen BK187.out 1; have hfz68_2 := blk_frozen BK187.out 2; have hfz68_3 := blk_frozen BK187.out 3) | (go_at_call 32; (with_reducible refine (impl_pages.calls ((rd_T58 l0_1 x26_2).f2) t189 _ A59.out).mono ?_); rintro e w' ⟨rfl, ⟨nd, rfl⟩⟩; (try first | exact ⟨rfl, _, World.drewN_drewN _ _ _⟩ | exact ⟨rfl, _, Eq.trans (World.drewN_drewN _ _ _) (congrArg (World.drewN _) (Nat.add_assoc _ _ _))⟩); have hcz69_0 : w66.cell? ⟨gb185, 0, none⟩ = some (.int .i64 a0_0) := (blk_cell BK185.out 0).trans rfl; have hcz69_1 : w66.cell? ⟨gb185, 1, none⟩ = some (.slice (some ad186) l0_1.length c0_1) := (blk_cell BK185.out 1).trans rfl; have hfz69_0 := blk_frozen BK185.out 0; have hfz69_1 := blk_frozen BK185.out 1)))
          go_roundg k2
          case measure => have := HJ1.out; have := HK2.out; omega
          case rel => exact ⟨(wrap64 (((rd_T58 l0_1 x26_2).f0) + t189)), (decide (a0_0 < (wrap64 (((rd_T58 l0_1 x26_2).f0) + ((rd_T58 l0_1 x26_2).f2))))), (wrap64 (x26_2 + 1)), Z6_8, Z6_8, Z6_8, H', ⟨Z6_13⟩, ⟨Z6_5⟩, ⟨Z6_6⟩⟩
         rw [if_neg c65] at H
         have c65b0 : decide (((rd_T58 l0_1 x26_2).f0) ≤ a0_0) = false := decide_eq_false c65
         clear c65
         have H' := Aside0.mk H
         clear H
         have p186 : 0 ≤ (x26_2 : Int) := of_decide_eq_true Z6_10
         have q186 : x26_2 < (l0_1.length : Int) := of_decide_eq_true Z6_10
         obtain ⟨ad186, A186_3, c186_3, e186, hx186_0, hx186_1, hx186_2, hx186_3, hl186_3, hi186_3⟩ := at_T58 HR0_1.out x26_2 p186 q186
         cases e186
         replace hx186_0 := (HB.out.cell (World.block_lt_of_cell? w _ hx186_0)).trans hx186_0
         replace hx186_1 := (HB.out.cell (World.block_lt_of_cell? w _ hx186_1)).trans hx186_1
         replace hx186_2 := (HB.out.cell (World.block_lt_of_cell? w _ hx186_2)).trans hx186_2
         replace hx186_3 := (HB.out.cell (World.block_lt_of_cell? w _ hx186_3)).trans hx186_3
         have HR186_3 := Aside0.mk hi186_3
         have HC186_3 := Aside0.mk hl186_3
         clear hi186_3 hl186_3
         replace p186 := eq_true p186
         replace q186 := eq_true q186
         go_wp2_with (first | ((with_reducible refine gate_dst (N := 6) rfl ?_); (try (refine gate_guard (by rfl) ?_; dsimp only)); refine box_event ?hg (N := 6) ?hd (cs := #[.int .i64 0, .int .i64 0, .int .i64 0, .slice none 0 0]) (t := 58) ?hr ?_; (case hd => rfl); (case hg => rfl); (case hr => exact Z6_9); intro gb187 hg w70 hbox hb; have n0_ := Aside0.mk (blk_below (g := gb185) (o := .cells #[.int .i64 a0_0, .slice (some ad186) l0_1.length c0_1] 29 (0, 0)) Z6_2 hb); have n1_ := Aside0.mk (below_step Z6_1 hb); have n2_ := Aside0.mk (hbox); have n3_ := Aside0.mk ((Z6_7 : w.heap.size ≤ gb187)); have n4_ := Aside0.mk ((Z6_7 : w.heap.size ≤ gb187)); have n5_ := Aside0.mk ((Z6_3 : gb185 ≠ gb187)); have n6_ := Aside0.mk ((Z6_4 : gb187 ≠ gb185)); clear BK185; clear HB; have BK185 := n0_; have HB := n1_; have BK187 := n2_; have GW187 := n3_; have GE187 := n4_; have NB185_187 := n5_; have NB187_185 := n6_; clear n0_ n1_ n2_ n3_ n4_ n5_ n6_; clear hb hbox hg; have hnb71 := NB187_185.out; have hnc71 := NB185_187.out; have hcz72_0 : w70.cell? ⟨gb187, 0, none⟩ = some (.int .i64 0) := (blk_cell BK187.out 0).trans rfl; have hcz72_1 : w70.cell? ⟨gb187, 1, none⟩ = some (.int .i64 0) := (blk_cell BK187.out 1).trans rfl; have hcz72_2 : w70.cell? ⟨gb187, 2, none⟩ = some (.int .i64 0) := (blk_cell BK187.out 2).trans rfl; have hcz72_3 : w70.cell? ⟨gb187, 3, none⟩ = some (.slice none 0 0) := (blk_cell BK187.out 3).trans rfl; have hfz72_0 := blk_frozen BK187.out 0; have hfz72_1 := blk_frozen BK187.out 1; have hfz72_2 := blk_frozen BK187.out 2; have hfz72_3 := blk_frozen BK187.out 3) | (go_at_call 32; (with_reducible refine (impl_pages.calls ((rd_T58 l0_1 x26_2).f2) t189 _ A59.out).mono ?_); rintro e w' ⟨rfl, ⟨nd, rfl⟩⟩; (try first | exact ⟨rfl, _, World.drewN_drewN _ _ _⟩ | exact ⟨rfl, _, Eq.trans (World.drewN_drewN _ _ _) (congrArg (World.drewN _) (Nat.add_assoc _ _ _))⟩); have hcz73_0 : w70.cell? ⟨gb185, 0, none⟩ = some (.int .i64 a0_0) := (blk_cell BK185.out 0).trans rfl; have hcz73_1 : w70.cell? ⟨gb185, 1, none⟩ = some (.slice (some ad186) l0_1.length c0_1) := (blk_cell BK185.out 1).trans rfl; have hfz73_0 := blk_frozen BK185.out 0; have hfz73_1 := blk_frozen BK185.out 1))
         repeat (go_quiet (first | ((with_reducible refine gate_dst (N := 6) rfl ?_); (try (refine gate_guard (by rfl) ?_; dsimp only)); refine box_event ?hg (N := 6) ?hd (cs := #[.int .i64 0, .int .i64 0, .int .i64 0, .slice none 0 0]) (t := 58) ?hr ?_; (case hd => rfl); (case hg => rfl); (case hr => exact Z6_9); intro gb187 hg w70 hbox hb; have n0_ := Aside0.mk (blk_below (g := gb185) (o := .cells #[.int .i64 a0_0, .slice (some ad186) l0_1.length c0_1] 29 (0, 0)) Z6_2 hb); have n1_ := Aside0.mk (below_step Z6_1 hb); have n2_ := Aside0.mk (hbox); have n3_ := Aside0.mk ((Z6_7 : w.heap.size ≤ gb187)); have n4_ := Aside0.mk ((Z6_7 : w.heap.size ≤ gb187)); have n5_ := Aside0.mk ((Z6_3 : gb185 ≠ gb187)); have n6_ := Aside0.mk ((Z6_4 : gb187 ≠ gb185)); clear BK185; clear HB; have BK185 := n0_; have HB := n1_; have BK187 := n2_; have GW187 := n3_; have GE187 := n4_; have NB185_187 := n5_; have NB187_185 := n6_; clear n0_ n1_ n2_ n3_ n4_ n5_ n6_; clear hb hbox hg; have hnb71 := NB187_185.out; have hnc71 := NB185_187.out; have hcz72_0 : w70.cell? ⟨gb187, 0, none⟩ = some (.int .i64 0) := (blk_cell BK187.out 0).trans rfl; have hcz72_1 : w70.cell? ⟨gb187, 1, none⟩ = some (.int .i64 0) := (blk_cell BK187.out 1).trans rfl; have hcz72_2 : w70.cell? ⟨gb187, 2, none⟩ = some (.int .i64 0) := (blk_cell BK187.out 2).trans rfl; have hcz72_3 : w70.cell? ⟨gb187, 3, none⟩ = some (.slice none 0 0) := (blk_cell BK187.out 3).trans rfl; have hfz72_0 := blk_frozen BK187.out 0; have hfz72_1 := blk_frozen BK187.out 1; have hfz72_2 := blk_frozen BK187.out 2; have hfz72_3 := blk_frozen BK187.out 3) | (go_at_call 32; (with_reducible refine (impl_pages.calls ((rd_T58 l0_1 x26_2).f2) t189 _ A59.out).mono ?_); rintro e w' ⟨rfl, ⟨nd, rfl⟩⟩; (try first | exact ⟨rfl, _, World.drewN_drewN _ _ _⟩ | exact ⟨rfl, _, Eq.trans (World.drewN_drewN _ _ _) (congrArg (World.drewN _) (Nat.add_assoc _ _ _))⟩); have hcz73_0 : w70.cell? ⟨gb185, 0, none⟩ = some (.int .i64 a0_0) := (blk_cell BK185.out 0).trans rfl; have hcz73_1 : w70.cell? ⟨gb185, 1, none⟩ = some (.slice (some ad186) l0_1.length c0_1) := (blk_cell BK185.out 1).trans rfl; have hfz73_0 := blk_frozen BK185.out 0; have hfz73_1 := blk_frozen BK185.out 1)); try go_wp2_with (first | ((with_reducible refine gate_dst (N := 6) rfl ?_); (try (refine gate_guard (by rfl) ?_; dsimp only)); refine box_event ?hg (N := 6) ?hd (cs := #[.int .i64 0, .int .i64 0, .int .i64 0, .slice none 0 0]) (t := 58) ?hr ?_; (case hd => rfl); (case hg => rfl); (case hr => exact Z6_9); intro gb187 hg w70 hbox hb; have n0_ := Aside0.mk (blk_below (g := gb185) (o := .cells #[.int .i64 a0_0, .slice (some ad186) l0_1.length c0_1] 29 (0, 0)) Z6_2 hb); have n1_ := Aside0.mk (below_step Z6_1 hb); have n2_ := Aside0.mk (hbox); have n3_ := Aside0.mk ((Z6_7 : w.heap.size ≤ gb187)); have n4_ := Aside0.mk ((Z6_7 : w.heap.size ≤ gb187)); have n5_ := Aside0.mk ((Z6_3 : gb185 ≠ gb187)); have n6_ := Aside0.mk ((Z6_4 : gb187 ≠ gb185)); clear BK185; clear HB; have BK185 := n0_; have HB := n1_; have BK187 := n2_; have GW187 := n3_; have GE187 := n4_; have NB185_187 := n5_; have NB187_185 := n6_; clear n0_ n1_ n2_ n3_ n4_ n5_ n6_; clear hb hbox hg; have hnb71 := NB187_185.out; have hnc71 := NB185_187.out; have hcz72_0 : w70.cell? ⟨gb187, 0, none⟩ = some (.int .i64 0) := (blk_cell BK187.out 0).trans rfl; have hcz72_1 : w70.cell? ⟨gb187, 1, none⟩ = some (.int .i64 0) := (blk_cell BK187.out 1).trans rfl; have hcz72_2 : w70.cell? ⟨gb187, 2, none⟩ = some (.int .i64 0) := (blk_cell BK187.out 2).trans rfl; have hcz72_3 : w70.cell? ⟨gb187, 3, none⟩ = some (.slice none 0 0) := (blk_cell BK187.out 3).trans rfl; have hfz72_0 := blk_frozen BK187.out 0; have hfz72_1 := blk_frozen BK187.out 1; have hfz72_2 := blk_frozen BK187.out 2; have hfz72_3 := blk_frozen BK187.out 3) | (go_at_call 32; (with_reducible refine (impl_pages.calls ((rd_T58 l0_1 x26_2).f2) t189 _ A59.out).mono ?_); rintro e w' ⟨rfl, ⟨nd, rfl⟩⟩; (try first | exact ⟨rfl, _, World.drewN_drewN _ _ _⟩ | exact ⟨rfl, _, Eq.trans (World.drewN_drewN _ _ _) (congrArg (World.drewN _) (Nat.add_assoc _ _ _))⟩); have hcz73_0 : w70.cell? ⟨gb185, 0, none⟩ = some (.int .i64 a0_0) := (blk_cell BK185.out 0).trans rfl; have hcz73_1 : w70.cell? ⟨gb185, 1, none⟩ = some (.slice (some ad186) l0_1.length c0_1) := (blk_cell BK185.out 1).trans rfl; have hfz73_0 := blk_frozen BK185.out 0; have hfz73_1 := blk_frozen BK185.out 1)))
         go_roundg k2
         case measure => have := HJ1.out; have := HK2.out; omega
         case rel => exact ⟨(wrap64 (((rd_T58 l0_1 x26_2).f0) + t189)), (false), (wrap64 (x26_2 + 1)), Z6_8, Z6_8, Z6_8, H', ⟨Z6_13⟩, ⟨Z6_5⟩, ⟨Z6_6⟩⟩
        rw [if_neg c64] at H
        have c64b0 : (((rd_T58 l0_1 x26_2).f1) == 5) = false := beq_eq_false_iff_ne.mpr c64
        have c64b1 : (((rd_T58 l0_1 x26_2).f1) != 5) = true := bne_iff_ne.mpr c64
        have H' := Aside0.mk H
        clear H
        have p186 : 0 ≤ (x26_2 : Int) := of_decide_eq_true Z6_10
        have q186 : x26_2 < (l0_1.length : Int) := of_decide_eq_true Z6_10
        obtain ⟨ad186, A186_3, c186_3, e186, hx186_0, hx186_1, hx186_2, hx186_3, hl186_3, hi186_3⟩ := at_T58 HR0_1.out x26_2 p186 q186
        cases e186
        replace hx186_0 := (HB.out.cell (World.block_lt_of_cell? w _ hx186_0)).trans hx186_0
        replace hx186_1 := (HB.out.cell (World.block_lt_of_cell? w _ hx186_1)).trans hx186_1
        replace hx186_2 := (HB.out.cell (World.block_lt_of_cell? w _ hx186_2)).trans hx186_2
        replace hx186_3 := (HB.out.cell (World.block_lt_of_cell? w _ hx186_3)).trans hx186_3
        have HR186_3 := Aside0.mk hi186_3
        have HC186_3 := Aside0.mk hl186_3
        clear hi186_3 hl186_3
        replace p186 := eq_true p186
        replace q186 := eq_true q186
        go_wp2_with (first | ((with_reducible refine gate_dst (N := 6) rfl ?_); (try (refine gate_guard (by rfl) ?_; dsimp only)); refine box_event ?hg (N := 6) ?hd (cs := #[.int .i64 0, .int .i64 0, .int .i64 0, .slice none 0 0]) (t := 58) ?hr ?_; (case hd => rfl); (case hg => rfl); (case hr => exact Z6_9); intro gb187 hg w74 hbox hb; have n0_ := Aside0.mk (blk_below (g := gb185) (o := .cells #[.int .i64 a0_0, .slice (some ad186) l0_1.length c0_1] 29 (0, 0)) Z6_2 hb); have n1_ := Aside0.mk (below_step Z6_1 hb); have n2_ := Aside0.mk (hbox); have n3_ := Aside0.mk ((Z6_7 : w.heap.size ≤ gb187)); have n4_ := Aside0.mk ((Z6_7 : w.heap.size ≤ gb187)); have n5_ := Aside0.mk ((Z6_3 : gb185 ≠ gb187)); have n6_ := Aside0.mk ((Z6_4 : gb187 ≠ gb185)); clear BK185; clear HB; have BK185 := n0_; have HB := n1_; have BK187 := n2_; have GW187 := n3_; have GE187 := n4_; have NB185_187 := n5_; have NB187_185 := n6_; clear n0_ n1_ n2_ n3_ n4_ n5_ n6_; clear hb hbox hg; have hnb75 := NB187_185.out; have hnc75 := NB185_187.out; have hcz76_0 : w74.cell? ⟨gb187, 0, none⟩ = some (.int .i64 0) := (blk_cell BK187.out 0).trans rfl; have hcz76_1 : w74.cell? ⟨gb187, 1, none⟩ = some (.int .i64 0) := (blk_cell BK187.out 1).trans rfl; have hcz76_2 : w74.cell? ⟨gb187, 2, none⟩ = some (.int .i64 0) := (blk_cell BK187.out 2).trans rfl; have hcz76_3 : w74.cell? ⟨gb187, 3, none⟩ = some (.slice none 0 0) := (blk_cell BK187.out 3).trans rfl; have hfz76_0 := blk_frozen BK187.out 0; have hfz76_1 := blk_frozen BK187.out 1; have hfz76_2 := blk_frozen BK187.out 2; have hfz76_3 := blk_frozen BK187.out 3) | (go_at_call 32; (with_reducible refine (impl_pages.calls ((rd_T58 l0_1 x26_2).f2) t189 _ A59.out).mono ?_); rintro e w' ⟨rfl, ⟨nd, rfl⟩⟩; (try first | exact ⟨rfl, _, World.drewN_drewN _ _ _⟩ | exact ⟨rfl, _, Eq.trans (World.drewN_drewN _ _ _) (congrArg (World.drewN _) (Nat.add_assoc _ _ _))⟩)))
        repeat (go_quiet (first | ((with_reducible refine gate_dst (N := 6) rfl ?_); (try (refine gate_guard (by rfl) ?_; dsimp only)); refine box_event ?hg (N := 6) ?hd (cs := #[.int .i64 0, .int .i64 0, .int .i64 0, .slice none 0 0]) (t := 58) ?hr ?_; (case hd => rfl); (case hg => rfl); (case hr => exact Z6_9); intro gb187 hg w74 hbox hb; have n0_ := Aside0.mk (blk_below (g := gb185) (o := .cells #[.int .i64 a0_0, .slice (some ad186) l0_1.length c0_1] 29 (0, 0)) Z6_2 hb); have n1_ := Aside0.mk (below_step Z6_1 hb); have n2_ := Aside0.mk (hbox); have n3_ := Aside0.mk ((Z6_7 : w.heap.size ≤ gb187)); have n4_ := Aside0.mk ((Z6_7 : w.heap.size ≤ gb187)); have n5_ := Aside0.mk ((Z6_3 : gb185 ≠ gb187)); have n6_ := Aside0.mk ((Z6_4 : gb187 ≠ gb185)); clear BK185; clear HB; have BK185 := n0_; have HB := n1_; have BK187 := n2_; have GW187 := n3_; have GE187 := n4_; have NB185_187 := n5_; have NB187_185 := n6_; clear n0_ n1_ n2_ n3_ n4_ n5_ n6_; clear hb hbox hg; have hnb75 := NB187_185.out; have hnc75 := NB185_187.out; have hcz76_0 : w74.cell? ⟨gb187, 0, none⟩ = some (.int .i64 0) := (blk_cell BK187.out 0).trans rfl; have hcz76_1 : w74.cell? ⟨gb187, 1, none⟩ = some (.int .i64 0) := (blk_cell BK187.out 1).trans rfl; have hcz76_2 : w74.cell? ⟨gb187, 2, none⟩ = some (.int .i64 0) := (blk_cell BK187.out 2).trans rfl; have hcz76_3 : w74.cell? ⟨gb187, 3, none⟩ = some (.slice none 0 0) := (blk_cell BK187.out 3).trans rfl; have hfz76_0 := blk_frozen BK187.out 0; have hfz76_1 := blk_frozen BK187.out 1; have hfz76_2 := blk_frozen BK187.out 2; have hfz76_3 := blk_frozen BK187.out 3) | (go_at_call 32; (with_reducible refine (impl_pages.calls ((rd_T58 l0_1 x26_2).f2) t189 _ A59.out).mono ?_); rintro e w' ⟨rfl, ⟨nd, rfl⟩⟩; (try first | exact ⟨rfl, _, World.drewN_drewN _ _ _⟩ | exact ⟨rfl, _, Eq.trans (World.drewN_drewN _ _ _) (congrArg (World.drewN _) (Nat.add_assoc _ _ _))⟩))); try go_wp2_with (first | ((with_reducible refine gate_dst (N := 6) rfl ?_); (try (refine gate_guard (by rfl) ?_; dsimp only)); refine box_event ?hg (N := 6) ?hd (cs := #[.int .i64 0, .int .i64 0, .int .i64 0, .slice none 0 0]) (t := 58) ?hr ?_; (case hd => rfl); (case hg => rfl); (case hr => exact Z6_9); intro gb187 hg w74 hbox hb; have n0_ := Aside0.mk (blk_below (g := gb185) (o := .cells #[.int .i64 a0_0, .slice (some ad186) l0_1.length c0_1] 29 (0, 0)) Z6_2 hb); have n1_ := Aside0.mk (below_step Z6_1 hb); have n2_ := Aside0.mk (hbox); have n3_ := Aside0.mk ((Z6_7 : w.heap.size ≤ gb187)); have n4_ := Aside0.mk ((Z6_7 : w.heap.size ≤ gb187)); have n5_ := Aside0.mk ((Z6_3 : gb185 ≠ gb187)); have n6_ := Aside0.mk ((Z6_4 : gb187 ≠ gb185)); clear BK185; clear HB; have BK185 := n0_; have HB := n1_; have BK187 := n2_; have GW187 := n3_; have GE187 := n4_; have NB185_187 := n5_; have NB187_185 := n6_; clear n0_ n1_ n2_ n3_ n4_ n5_ n6_; clear hb hbox hg; have hnb75 := NB187_185.out; have hnc75 := NB185_187.out; have hcz76_0 : w74.cell? ⟨gb187, 0, none⟩ = some (.int .i64 0) := (blk_cell BK187.out 0).trans rfl; have hcz76_1 : w74.cell? ⟨gb187, 1, none⟩ = some (.int .i64 0) := (blk_cell BK187.out 1).trans rfl; have hcz76_2 : w74.cell? ⟨gb187, 2, none⟩ = some (.int .i64 0) := (blk_cell BK187.out 2).trans rfl; have hcz76_3 : w74.cell? ⟨gb187, 3, none⟩ = some (.slice none 0 0) := (blk_cell BK187.out 3).trans rfl; have hfz76_0 := blk_frozen BK187.out 0; have hfz76_1 := blk_frozen BK187.out 1; have hfz76_2 := blk_frozen BK187.out 2; have hfz76_3 := blk_frozen BK187.out 3) | (go_at_call 32; (with_reducible refine (impl_pages.calls ((rd_T58 l0_1 x26_2).f2) t189 _ A59.out).mono ?_); rintro e w' ⟨rfl, ⟨nd, rfl⟩⟩; (try first | exact ⟨rfl, _, World.drewN_drewN _ _ _⟩ | exact ⟨rfl, _, Eq.trans (World.drewN_drewN _ _ _) (congrArg (World.drewN _) (Nat.add_assoc _ _ _))⟩))))
        go_roundg k2
        case measure => have := HJ1.out; have := HK2.out; omega
        case rel => exact ⟨(wrap64 (((rd_T58 l0_1 x26_2).f0) + t189)), (false), (wrap64 (x26_2 + 1)), Z6_8, Z6_8, Z6_8, H', ⟨Z6_13⟩, ⟨Z6_5⟩, ⟨Z6_6⟩⟩
       rw [if_neg c58] at H
       have c58b0 : (((rd_T58 l0_1 x26_2).f1) == 3) = false := beq_eq_false_iff_ne.mpr c58
       have c58b1 : (((rd_T58 l0_1 x26_2).f1) != 3) = true := bne_iff_ne.mpr c58
       by_cases c77 : ((rd_T58 l0_1 x26_2).f1) = 5
       ·rw [if_pos c77] at H
        have c77b0 : (((rd_T58 l0_1 x26_2).f1) == 5) = true := beq_iff_eq.mpr c77
        have c77b1 : (((rd_T58 l0_1 x26_2).f1) != 5) = false := bne_eq_false_iff_eq.mpr c77
        clear c77
        replace H := Option.bind_eq_some_iff.mp H
        obtain ⟨t190, A780, H⟩ := H
        replace H : (if x4_2 = true then (impl_ImageOk.l0 k2 (wrap64 (((rd_T58 l0_1 x26_2).f0) + t190)) true l0_1 (l0_1.length : Int) (wrap64 (x26_2 + 1)) a0_0 l0_1) else (if a0_0 ≥ ((rd_T58 l0_1 x26_2).f0) then (impl_ImageOk.l0 k2 (wrap64 (((rd_T58 l0_1 x26_2).f0) + t190)) (decide (a0_0 < (wrap64 (((rd_T58 l0_1 x26_2).f0) + ((rd_T58 l0_1 x26_2).f2))))) l0_1 (l0_1.length : Int) (wrap64 (x26_2 + 1)) a0_0 l0_1) else (impl_ImageOk.l0 k2 (wrap64 (((rd_T58 l0_1 x26_2).f0) + t190)) false l0_1 (l0_1.length : Int) (wrap64 (x26_2 + 1)) a0_0 l0_1))) = some r := H
        have A78 := Aside0.mk A780
        clear A780
        by_cases c79 : x4_2 = true
        ·subst c79
         have H1 : (impl_ImageOk.l0 k2 (wrap64 (((rd_T58 l0_1 x26_2).f0) + t190)) true l0_1 (l0_1.length : Int) (wrap64 (x26_2 + 1)) a0_0 l0_1) = some r := by rw [if_pos rfl] at H; exact H
         clear H
         have H := H1
         clear H1
         have H' := Aside0.mk H
         clear H
         have p186 : 0 ≤ (x26_2 : Int) := of_decide_eq_true Z6_10
         have q186 : x26_2 < (l0_1.length : Int) := of_decide_eq_true Z6_10
         obtain ⟨ad186, A186_3, c186_3, e186, hx186_0, hx186_1, hx186_2, hx186_3, hl186_3, hi186_3⟩ := at_T58 HR0_1.out x26_2 p186 q186
         cases e186
         replace hx186_0 := (HB.out.cell (World.block_lt_of_cell? w _ hx186_0)).trans hx186_0
         replace hx186_1 := (HB.out.cell (World.block_lt_of_cell? w _ hx186_1)).trans hx186_1
         replace hx186_2 := (HB.out.cell (World.block_lt_of_cell? w _ hx186_2)).trans hx186_2
         replace hx186_3 := (HB.out.cell (World.block_lt_of_cell? w _ hx186_3)).trans hx186_3
         have HR186_3 := Aside0.mk hi186_3
         have HC186_3 := Aside0.mk hl186_3
         clear hi186_3 hl186_3
         replace p186 := eq_true p186
         replace q186 := eq_true q186
         go_wp2_with (first | ((with_reducible refine gate_dst (N := 6) rfl ?_); (try (refine gate_guard (by rfl) ?_; dsimp only)); refine box_event ?hg (N := 6) ?hd (cs := #[.int .i64 0, .int .i64 0, .int .i64 0, .slice none 0 0]) (t := 58) ?hr ?_; (case hd => rfl); (case hg => rfl); (case hr => exact Z6_9); intro gb187 hg w80 hbox hb; have n0_ := Aside0.mk (blk_below (g := gb185) (o := .cells #[.int .i64 a0_0, .slice (some ad186) l0_1.length c0_1] 29 (0, 0)) Z6_2 hb); have n1_ := Aside0.mk (below_step Z6_1 hb); have n2_ := Aside0.mk (hbox); have n3_ := Aside0.mk ((Z6_7 : w.heap.size ≤ gb187)); have n4_ := Aside0.mk ((Z6_7 : w.heap.size ≤ gb187)); have n5_ := Aside0.mk ((Z6_3 : gb185 ≠ gb187)); have n6_ := Aside0.mk ((Z6_4 : gb187 ≠ gb185)); clear BK185; clear HB; have BK185 := n0_; have HB := n1_; have BK187 := n2_; have GW187 := n3_; have GE187 := n4_; have NB185_187 := n5_; have NB187_185 := n6_; clear n0_ n1_ n2_ n3_ n4_ n5_ n6_; clear hb hbox hg; have hnb81 := NB187_185.out; have hnc81 := NB185_187.out; have hcz82_0 : w80.cell? ⟨gb187, 0, none⟩ = some (.int .i64 0) := (blk_cell BK187.out 0).trans rfl; have hcz82_1 : w80.cell? ⟨gb187, 1, none⟩ = some (.int .i64 0) := (blk_cell BK187.out 1).trans rfl; have hcz82_2 : w80.cell? ⟨gb187, 2, none⟩ = some (.int .i64 0) := (blk_cell BK187.out 2).trans rfl; have hcz82_3 : w80.cell? ⟨gb187, 3, none⟩ = some (.slice none 0 0) := (blk_cell BK187.out 3).trans rfl; have hfz82_0 := blk_frozen BK187.out 0; have hfz82_1 := blk_frozen BK187.out 1; have hfz82_2 := blk_frozen BK187.out 2; have hfz82_3 := blk_frozen BK187.out 3) | (go_at_call 32; (with_reducible refine (impl_pages.calls ((rd_T58 l0_1 x26_2).f2) t190 _ A78.out).mono ?_); rintro e w' ⟨rfl, ⟨nd, rfl⟩⟩; (try first | exact ⟨rfl, _, World.drewN_drewN _ _ _⟩ | exact ⟨rfl, _, Eq.trans (World.drewN_drewN _ _ _) (congrArg (World.drewN _) (Nat.add_assoc _ _ _))⟩)))
         repeat (go_quiet (first | ((with_reducible refine gate_dst (N := 6) rfl ?_); (try (refine gate_guard (by rfl) ?_; dsimp only)); refine box_event ?hg (N := 6) ?hd (cs := #[.int .i64 0, .int .i64 0, .int .i64 0, .slice none 0 0]) (t := 58) ?hr ?_; (case hd => rfl); (case hg => rfl); (case hr => exact Z6_9); intro gb187 hg w80 hbox hb; have n0_ := Aside0.mk (blk_below (g := gb185) (o := .cells #[.int .i64 a0_0, .slice (some ad186) l0_1.length c0_1] 29 (0, 0)) Z6_2 hb); have n1_ := Aside0.mk (below_step Z6_1 hb); have n2_ := Aside0.mk (hbox); have n3_ := Aside0.mk ((Z6_7 : w.heap.size ≤ gb187)); have n4_ := Aside0.mk ((Z6_7 : w.heap.size ≤ gb187)); have n5_ := Aside0.mk ((Z6_3 : gb185 ≠ gb187)); have n6_ := Aside0.mk ((Z6_4 : gb187 ≠ gb185)); clear BK185; clear HB; have BK185 := n0_; have HB := n1_; have BK187 := n2_; have GW187 := n3_; have GE187 := n4_; have NB185_187 := n5_; have NB187_185 := n6_; clear n0_ n1_ n2_ n3_ n4_ n5_ n6_; clear hb hbox hg; have hnb81 := NB187_185.out; have hnc81 := NB185_187.out; have hcz82_0 : w80.cell? ⟨gb187, 0, none⟩ = some (.int .i64 0) := (blk_cell BK187.out 0).trans rfl; have hcz82_1 : w80.cell? ⟨gb187, 1, none⟩ = some (.int .i64 0) := (blk_cell BK187.out 1).trans rfl; have hcz82_2 : w80.cell? ⟨gb187, 2, none⟩ = some (.int .i64 0) := (blk_cell BK187.out 2).trans rfl; have hcz82_3 : w80.cell? ⟨gb187, 3, none⟩ = some (.slice none 0 0) := (blk_cell BK187.out 3).trans rfl; have hfz82_0 := blk_frozen BK187.out 0; have hfz82_1 := blk_frozen BK187.out 1; have hfz82_2 := blk_frozen BK187.out 2; have hfz82_3 := blk_frozen BK187.out 3) | (go_at_call 32; (with_reducible refine (impl_pages.calls ((rd_T58 l0_1 x26_2).f2) t190 _ A78.out).mono ?_); rintro e w' ⟨rfl, ⟨nd, rfl⟩⟩; (try first | exact ⟨rfl, _, World.drewN_drewN _ _ _⟩ | exact ⟨rfl, _, Eq.trans (World.drewN_drewN _ _ _) (congrArg (World.drewN _) (Nat.add_assoc _ _ _))⟩))); try go_wp2_with (first | ((with_reducible refine gate_dst (N := 6) rfl ?_); (try (refine gate_guard (by rfl) ?_; dsimp only)); refine box_event ?hg (N := 6) ?hd (cs := #[.int .i64 0, .int .i64 0, .int .i64 0, .slice none 0 0]) (t := 58) ?hr ?_; (case hd => rfl); (case hg => rfl); (case hr => exact Z6_9); intro gb187 hg w80 hbox hb; have n0_ := Aside0.mk (blk_below (g := gb185) (o := .cells #[.int .i64 a0_0, .slice (some ad186) l0_1.length c0_1] 29 (0, 0)) Z6_2 hb); have n1_ := Aside0.mk (below_step Z6_1 hb); have n2_ := Aside0.mk (hbox); have n3_ := Aside0.mk ((Z6_7 : w.heap.size ≤ gb187)); have n4_ := Aside0.mk ((Z6_7 : w.heap.size ≤ gb187)); have n5_ := Aside0.mk ((Z6_3 : gb185 ≠ gb187)); have n6_ := Aside0.mk ((Z6_4 : gb187 ≠ gb185)); clear BK185; clear HB; have BK185 := n0_; have HB := n1_; have BK187 := n2_; have GW187 := n3_; have GE187 := n4_; have NB185_187 := n5_; have NB187_185 := n6_; clear n0_ n1_ n2_ n3_ n4_ n5_ n6_; clear hb hbox hg; have hnb81 := NB187_185.out; have hnc81 := NB185_187.out; have hcz82_0 : w80.cell? ⟨gb187, 0, none⟩ = some (.int .i64 0) := (blk_cell BK187.out 0).trans rfl; have hcz82_1 : w80.cell? ⟨gb187, 1, none⟩ = some (.int .i64 0) := (blk_cell BK187.out 1).trans rfl; have hcz82_2 : w80.cell? ⟨gb187, 2, none⟩ = some (.int .i64 0) := (blk_cell BK187.out 2).trans rfl; have hcz82_3 : w80.cell? ⟨gb187, 3, none⟩ = some (.slice none 0 0) := (blk_cell BK187.out 3).trans rfl; have hfz82_0 := blk_frozen BK187.out 0; have hfz82_1 := blk_frozen BK187.out 1; have hfz82_2 := blk_frozen BK187.out 2; have hfz82_3 := blk_frozen BK187.out 3) | (go_at_call 32; (with_reducible refine (impl_pages.calls ((rd_T58 l0_1 x26_2).f2) t190 _ A78.out).mono ?_); rintro e w' ⟨rfl, ⟨nd, rfl⟩⟩; (try first | exact ⟨rfl, _, World.drewN_drewN _ _ _⟩ | exact ⟨rfl, _, Eq.trans (World.drewN_drewN _ _ _) (congrArg (World.drewN _) (Nat.add_assoc _ _ _))⟩))))
         go_roundg k2
         case measure => have := HJ1.out; have := HK2.out; omega
         case rel => exact ⟨(wrap64 (((rd_T58 l0_1 x26_2).f0) + t190)), (true), (wrap64 (x26_2 + 1)), Z6_8, Z6_8, Z6_8, H', ⟨Z6_13⟩, ⟨Z6_5⟩, ⟨Z6_6⟩⟩
        replace c79 := Bool.eq_false_iff.mpr c79
        subst c79
        have H1 : (if a0_0 ≥ ((rd_T58 l0_1 x26_2).f0) then (impl_ImageOk.l0 k2 (wrap64 (((rd_T58 l0_1 x26_2).f0) + t190)) (decide (a0_0 < (wrap64 (((rd_T58 l0_1 x26_2).f0) + ((rd_T58 l0_1 x26_2).f2))))) l0_1 (l0_1.length : Int) (wrap64 (x26_2 + 1)) a0_0 l0_1) else (impl_ImageOk.l0 k2 (wrap64 (((rd_T58 l0_1 x26_2).f0) + t190)) false l0_1 (l0_1.length : Int) (wrap64 (x26_2 + 1)) a0_0 l0_1)) = some r := by rw [if_neg (show ¬ (false = true) by decide)] at H; exact H
        clear H
        have H := H1
        clear H1
        by_cases c83 : a0_0 ≥ ((rd_T58 l0_1 x26_2).f0)
        ·rw [if_pos c83] at H
         have c83b0 : decide (((rd_T58 l0_1 x26_2).f0) ≤ a0_0) = true := decide_eq_true c83
         clear c83
         have H' := Aside0.mk H
         clear H
         have p186 : 0 ≤ (x26_2 : Int) := of_decide_eq_true Z6_10
         have q186 : x26_2 < (l0_1.length : Int) := of_decide_eq_true Z6_10
         obtain ⟨ad186, A186_3, c186_3, e186, hx186_0, hx186_1, hx186_2, hx186_3, hl186_3, hi186_3⟩ := at_T58 HR0_1.out x26_2 p186 q186
         cases e186
         replace hx186_0 := (HB.out.cell (World.block_lt_of_cell? w _ hx186_0)).trans hx186_0
         replace hx186_1 := (HB.out.cell (World.block_lt_of_cell? w _ hx186_1)).trans hx186_1
         replace hx186_2 := (HB.out.cell (World.block_lt_of_cell? w _ hx186_2)).trans hx186_2
         replace hx186_3 := (HB.out.cell (World.block_lt_of_cell? w _ hx186_3)).trans hx186_3
         have HR186_3 := Aside0.mk hi186_3
         have HC186_3 := Aside0.mk hl186_3
         clear hi186_3 hl186_3
         replace p186 := eq_true p186
         replace q186 := eq_true q186
         go_wp2_with (first | ((with_reducible refine gate_dst (N := 6) rfl ?_); (try (refine gate_guard (by rfl) ?_; dsimp only)); refine box_event ?hg (N := 6) ?hd (cs := #[.int .i64 0, .int .i64 0, .int .i64 0, .slice none 0 0]) (t := 58) ?hr ?_; (case hd => rfl); (case hg => rfl); (case hr => exact Z6_9); intro gb187 hg w84 hbox hb; have n0_ := Aside0.mk (blk_below (g := gb185) (o := .cells #[.int .i64 a0_0, .slice (some ad186) l0_1.length c0_1] 29 (0, 0)) Z6_2 hb); have n1_ := Aside0.mk (below_step Z6_1 hb); have n2_ := Aside0.mk (hbox); have n3_ := Aside0.mk ((Z6_7 : w.heap.size ≤ gb187)); have n4_ := Aside0.mk ((Z6_7 : w.heap.size ≤ gb187)); have n5_ := Aside0.mk ((Z6_3 : gb185 ≠ gb187)); have n6_ := Aside0.mk ((Z6_4 : gb187 ≠ gb185)); clear BK185; clear HB; have BK185 := n0_; have HB := n1_; have BK187 := n2_; have GW187 := n3_; have GE187 := n4_; have NB185_187 := n5_; have NB187_185 := n6_; clear n0_ n1_ n2_ n3_ n4_ n5_ n6_; clear hb hbox hg; have hnb85 := NB187_185.out; have hnc85 := NB185_187.out; have hcz86_0 : w84.cell? ⟨gb187, 0, none⟩ = some (.int .i64 0) := (blk_cell BK187.out 0).trans rfl; have hcz86_1 : w84.cell? ⟨gb187, 1, none⟩ = some (.int .i64 0) := (blk_cell BK187.out 1).trans rfl; have hcz86_2 : w84.cell? ⟨gb187, 2, none⟩ = some (.int .i64 0) := (blk_cell BK187.out 2).trans rfl; have hcz86_3 : w84.cell? ⟨gb187, 3, none⟩ = some (.slice none 0 0) := (blk_cell BK187.out 3).trans rfl; have hfz86_0 := blk_frozen BK187.out 0; have hfz86_1 := blk_frozen BK187.out 1; have hfz86_2 := blk_frozen BK187.out 2; have hfz86_3 := blk_frozen BK187.out 3) | (go_at_call 32; (with_reducible refine (impl_pages.calls ((rd_T58 l0_1 x26_2).f2) t190 _ A78.out).mono ?_); rintro e w' ⟨rfl, ⟨nd, rfl⟩⟩; (try first | exact ⟨rfl, _, World.drewN_drewN _ _ _⟩ | exact ⟨rfl, _, Eq.trans (World.drewN_drewN _ _ _) (congrArg (World.drewN _) (Nat.add_assoc _ _ _))⟩); have hcz87_0 : w84.cell? ⟨gb185, 0, none⟩ = some (.int .i64 a0_0) := (blk_cell BK185.out 0).trans rfl; have hcz87_1 : w84.cell? ⟨gb185, 1, none⟩ = some (.slice (some ad186) l0_1.length c0_1) := (blk_cell BK185.out 1).trans rfl; have hfz87_0 := blk_frozen BK185.out 0; have hfz87_1 := blk_frozen BK185.out 1))
         repeat (go_quiet (first | ((with_reducible refine gate_dst (N := 6) rfl ?_); (try (refine gate_guard (by rfl) ?_; dsimp only)); refine box_event ?hg (N := 6) ?hd (cs := #[.int .i64 0, .int .i64 0, .int .i64 0, .slice none 0 0]) (t := 58) ?hr ?_; (case hd => rfl); (case hg => rfl); (case hr => exact Z6_9); intro gb187 hg w84 hbox hb; have n0_ := Aside0.mk (blk_below (g := gb185) (o := .cells #[.int .i64 a0_0, .slice (some ad186) l0_1.length c0_1] 29 (0, 0)) Z6_2 hb); have n1_ := Aside0.mk (below_step Z6_1 hb); have n2_ := Aside0.mk (hbox); have n3_ := Aside0.mk ((Z6_7 : w.heap.size ≤ gb187)); have n4_ := Aside0.mk ((Z6_7 : w.heap.size ≤ gb187)); have n5_ := Aside0.mk ((Z6_3 : gb185 ≠ gb187)); have n6_ := Aside0.mk ((Z6_4 : gb187 ≠ gb185)); clear BK185; clear HB; have BK185 := n0_; have HB := n1_; have BK187 := n2_; have GW187 := n3_; have GE187 := n4_; have NB185_187 := n5_; have NB187_185 := n6_; clear n0_ n1_ n2_ n3_ n4_ n5_ n6_; clear hb hbox hg; have hnb85 := NB187_185.out; have hnc85 := NB185_187.out; have hcz86_0 : w84.cell? ⟨gb187, 0, none⟩ = some (.int .i64 0) := (blk_cell BK187.out 0).trans rfl; have hcz86_1 : w84.cell? ⟨gb187, 1, none⟩ = some (.int .i64 0) := (blk_cell BK187.out 1).trans rfl; have hcz86_2 : w84.cell? ⟨gb187, 2, none⟩ = some (.int .i64 0) := (blk_cell BK187.out 2).trans rfl; have hcz86_3 : w84.cell? ⟨gb187, 3, none⟩ = some (.slice none 0 0) := (blk_cell BK187.out 3).trans rfl; have hfz86_0 := blk_frozen BK187.out 0; have hfz86_1 := blk_frozen BK187.out 1; have hfz86_2 := blk_frozen BK187.out 2; have hfz86_3 := blk_frozen BK187.out 3) | (go_at_call 32; (with_reducible refine (impl_pages.calls ((rd_T58 l0_1 x26_2).f2) t190 _ A78.out).mono ?_); rintro e w' ⟨rfl, ⟨nd, rfl⟩⟩; (try first | exact ⟨rfl, _, World.drewN_drewN _ _ _⟩ | exact ⟨rfl, _, Eq.trans (World.drewN_drewN _ _ _) (congrArg (World.drewN _) (Nat.add_assoc _ _ _))⟩); have hcz87_0 : w84.cell? ⟨gb185, 0, none⟩ = some (.int .i64 a0_0) := (blk_cell BK185.out 0).trans rfl; have hcz87_1 : w84.cell? ⟨gb185, 1, none⟩ = some (.slice (some ad186) l0_1.length c0_1) := (blk_cell BK185.out 1).trans rfl; have hfz87_0 := blk_frozen BK185.out 0; have hfz87_1 := blk_frozen BK185.out 1)); try go_wp2_with (first | ((with_reducible refine gate_dst (N := 6) rfl ?_); (try (refine gate_guard (by rfl) ?_; dsimp only)); refine box_event ?hg (N := 6) ?hd (cs := #[.int .i64 0, .int .i64 0, .int .i64 0, .slice none 0 0]) (t := 58) ?hr ?_; (case hd => rfl); (case hg => rfl); (case hr => exact Z6_9); intro gb187 hg w84 hbox hb; have n0_ := Aside0.mk (blk_below (g := gb185) (o := .cells #[.int .i64 a0_0, .slice (some ad186) l0_1.length c0_1] 29 (0, 0)) Z6_2 hb); have n1_ := Aside0.mk (below_step Z6_1 hb); have n2_ := Aside0.mk (hbox); have n3_ := Aside0.mk ((Z6_7 : w.heap.size ≤ gb187)); have n4_ := Aside0.mk ((Z6_7 : w.heap.size ≤ gb187)); have n5_ := Aside0.mk ((Z6_3 : gb185 ≠ gb187)); have n6_ := Aside0.mk ((Z6_4 : gb187 ≠ gb185)); clear BK185; clear HB; have BK185 := n0_; have HB := n1_; have BK187 := n2_; have GW187 := n3_; have GE187 := n4_; have NB185_187 := n5_; have NB187_185 := n6_; clear n0_ n1_ n2_ n3_ n4_ n5_ n6_; clear hb hbox hg; have hnb85 := NB187_185.out; have hnc85 := NB185_187.out; have hcz86_0 : w84.cell? ⟨gb187, 0, none⟩ = some (.int .i64 0) := (blk_cell BK187.out 0).trans rfl; have hcz86_1 : w84.cell? ⟨gb187, 1, none⟩ = some (.int .i64 0) := (blk_cell BK187.out 1).trans rfl; have hcz86_2 : w84.cell? ⟨gb187, 2, none⟩ = some (.int .i64 0) := (blk_cell BK187.out 2).trans rfl; have hcz86_3 : w84.cell? ⟨gb187, 3, none⟩ = some (.slice none 0 0) := (blk_cell BK187.out 3).trans rfl; have hfz86_0 := blk_frozen BK187.out 0; have hfz86_1 := blk_frozen BK187.out 1; have hfz86_2 := blk_frozen BK187.out 2; have hfz86_3 := blk_frozen BK187.out 3) | (go_at_call 32; (with_reducible refine (impl_pages.calls ((rd_T58 l0_1 x26_2).f2) t190 _ A78.out).mono ?_); rintro e w' ⟨rfl, ⟨nd, rfl⟩⟩; (try first | exact ⟨rfl, _, World.drewN_drewN _ _ _⟩ | exact ⟨rfl, _, Eq.trans (World.drewN_drewN _ _ _) (congrArg (World.drewN _) (Nat.add_assoc _ _ _))⟩); have hcz87_0 : w84.cell? ⟨gb185, 0, none⟩ = some (.int .i64 a0_0) := (blk_cell BK185.out 0).trans rfl; have hcz87_1 : w84.cell? ⟨gb185, 1, none⟩ = some (.slice (some ad186) l0_1.length c0_1) := (blk_cell BK185.out 1).trans rfl; have hfz87_0 := blk_frozen BK185.out 0; have hfz87_1 := blk_frozen BK185.out 1)))
         go_roundg k2
         case measure => have := HJ1.out; have := HK2.out; omega
         case rel => exact ⟨(wrap64 (((rd_T58 l0_1 x26_2).f0) + t190)), (decide (a0_0 < (wrap64 (((rd_T58 l0_1 x26_2).f0) + ((rd_T58 l0_1 x26_2).f2))))), (wrap64 (x26_2 + 1)), Z6_8, Z6_8, Z6_8, H', ⟨Z6_13⟩, ⟨Z6_5⟩, ⟨Z6_6⟩⟩
        rw [if_neg c83] at H
        have c83b0 : decide (((rd_T58 l0_1 x26_2).f0) ≤ a0_0) = false := decide_eq_false c83
        clear c83
        have H' := Aside0.mk H
        clear H
        have p186 : 0 ≤ (x26_2 : Int) := of_decide_eq_true Z6_10
        have q186 : x26_2 < (l0_1.length : Int) := of_decide_eq_true Z6_10
        obtain ⟨ad186, A186_3, c186_3, e186, hx186_0, hx186_1, hx186_2, hx186_3, hl186_3, hi186_3⟩ := at_T58 HR0_1.out x26_2 p186 q186
        cases e186
        replace hx186_0 := (HB.out.cell (World.block_lt_of_cell? w _ hx186_0)).trans hx186_0
        replace hx186_1 := (HB.out.cell (World.block_lt_of_cell? w _ hx186_1)).trans hx186_1
        replace hx186_2 := (HB.out.cell (World.block_lt_of_cell? w _ hx186_2)).trans hx186_2
        replace hx186_3 := (HB.out.cell (World.block_lt_of_cell? w _ hx186_3)).trans hx186_3
        have HR186_3 := Aside0.mk hi186_3
        have HC186_3 := Aside0.mk hl186_3
        clear hi186_3 hl186_3
        replace p186 := eq_true p186
        replace q186 := eq_true q186
        go_wp2_with (first | ((with_reducible refine gate_dst (N := 6) rfl ?_); (try (refine gate_guard (by rfl) ?_; dsimp only)); refine box_event ?hg (N := 6) ?hd (cs := #[.int .i64 0, .int .i64 0, .int .i64 0, .slice none 0 0]) (t := 58) ?hr ?_; (case hd => rfl); (case hg => rfl); (case hr => exact Z6_9); intro gb187 hg w88 hbox hb; have n0_ := Aside0.mk (blk_below (g := gb185) (o := .cells #[.int .i64 a0_0, .slice (some ad186) l0_1.length c0_1] 29 (0, 0)) Z6_2 hb); have n1_ := Aside0.mk (below_step Z6_1 hb); have n2_ := Aside0.mk (hbox); have n3_ := Aside0.mk ((Z6_7 : w.heap.size ≤ gb187)); have n4_ := Aside0.mk ((Z6_7 : w.heap.size ≤ gb187)); have n5_ := Aside0.mk ((Z6_3 : gb185 ≠ gb187)); have n6_ := Aside0.mk ((Z6_4 : gb187 ≠ gb185)); clear BK185; clear HB; have BK185 := n0_; have HB := n1_; have BK187 := n2_; have GW187 := n3_; have GE187 := n4_; have NB185_187 := n5_; have NB187_185 := n6_; clear n0_ n1_ n2_ n3_ n4_ n5_ n6_; clear hb hbox hg; have hnb89 := NB187_185.out; have hnc89 := NB185_187.out; have hcz90_0 : w88.cell? ⟨gb187, 0, none⟩ = some (.int .i64 0) := (blk_cell BK187.out 0).trans rfl; have hcz90_1 : w88.cell? ⟨gb187, 1, none⟩ = some (.int .i64 0) := (blk_cell BK187.out 1).trans rfl; have hcz90_2 : w88.cell? ⟨gb187, 2, none⟩ = some (.int .i64 0) := (blk_cell BK187.out 2).trans rfl; have hcz90_3 : w88.cell? ⟨gb187, 3, none⟩ = some (.slice none 0 0) := (blk_cell BK187.out 3).trans rfl; have hfz90_0 := blk_frozen BK187.out 0; have hfz90_1 := blk_frozen BK187.out 1; have hfz90_2 := blk_frozen BK187.out 2; have hfz90_3 := blk_frozen BK187.out 3) | (go_at_call 32; (with_reducible refine (impl_pages.calls ((rd_T58 l0_1 x26_2).f2) t190 _ A78.out).mono ?_); rintro e w' ⟨rfl, ⟨nd, rfl⟩⟩; (try first | exact ⟨rfl, _, World.drewN_drewN _ _ _⟩ | exact ⟨rfl, _, Eq.trans (World.drewN_drewN _ _ _) (congrArg (World.drewN _) (Nat.add_assoc _ _ _))⟩); have hcz91_0 : w88.cell? ⟨gb185, 0, none⟩ = some (.int .i64 a0_0) := (blk_cell BK185.out 0).trans rfl; have hcz91_1 : w88.cell? ⟨gb185, 1, none⟩ = some (.slice (some ad186) l0_1.length c0_1) := (blk_cell BK185.out 1).trans rfl; have hfz91_0 := blk_frozen BK185.out 0; have hfz91_1 := blk_frozen BK185.out 1))
        repeat (go_quiet (first | ((with_reducible refine gate_dst (N := 6) rfl ?_); (try (refine gate_guard (by rfl) ?_; dsimp only)); refine box_event ?hg (N := 6) ?hd (cs := #[.int .i64 0, .int .i64 0, .int .i64 0, .slice none 0 0]) (t := 58) ?hr ?_; (case hd => rfl); (case hg => rfl); (case hr => exact Z6_9); intro gb187 hg w88 hbox hb; have n0_ := Aside0.mk (blk_below (g := gb185) (o := .cells #[.int .i64 a0_0, .slice (some ad186) l0_1.length c0_1] 29 (0, 0)) Z6_2 hb); have n1_ := Aside0.mk (below_step Z6_1 hb); have n2_ := Aside0.mk (hbox); have n3_ := Aside0.mk ((Z6_7 : w.heap.size ≤ gb187)); have n4_ := Aside0.mk ((Z6_7 : w.heap.size ≤ gb187)); have n5_ := Aside0.mk ((Z6_3 : gb185 ≠ gb187)); have n6_ := Aside0.mk ((Z6_4 : gb187 ≠ gb185)); clear BK185; clear HB; have BK185 := n0_; have HB := n1_; have BK187 := n2_; have GW187 := n3_; have GE187 := n4_; have NB185_187 := n5_; have NB187_185 := n6_; clear n0_ n1_ n2_ n3_ n4_ n5_ n6_; clear hb hbox hg; have hnb89 := NB187_185.out; have hnc89 := NB185_187.out; have hcz90_0 : w88.cell? ⟨gb187, 0, none⟩ = some (.int .i64 0) := (blk_cell BK187.out 0).trans rfl; have hcz90_1 : w88.cell? ⟨gb187, 1, none⟩ = some (.int .i64 0) := (blk_cell BK187.out 1).trans rfl; have hcz90_2 : w88.cell? ⟨gb187, 2, none⟩ = some (.int .i64 0) := (blk_cell BK187.out 2).trans rfl; have hcz90_3 : w88.cell? ⟨gb187, 3, none⟩ = some (.slice none 0 0) := (blk_cell BK187.out 3).trans rfl; have hfz90_0 := blk_frozen BK187.out 0; have hfz90_1 := blk_frozen BK187.out 1; have hfz90_2 := blk_frozen BK187.out 2; have hfz90_3 := blk_frozen BK187.out 3) | (go_at_call 32; (with_reducible refine (impl_pages.calls ((rd_T58 l0_1 x26_2).f2) t190 _ A78.out).mono ?_); rintro e w' ⟨rfl, ⟨nd, rfl⟩⟩; (try first | exact ⟨rfl, _, World.drewN_drewN _ _ _⟩ | exact ⟨rfl, _, Eq.trans (World.drewN_drewN _ _ _) (congrArg (World.drewN _) (Nat.add_assoc _ _ _))⟩); have hcz91_0 : w88.cell? ⟨gb185, 0, none⟩ = some (.int .i64 a0_0) := (blk_cell BK185.out 0).trans rfl; have hcz91_1 : w88.cell? ⟨gb185, 1, none⟩ = some (.slice (some ad186) l0_1.length c0_1) := (blk_cell BK185.out 1).trans rfl; have hfz91_0 := blk_frozen BK185.out 0; have hfz91_1 := blk_frozen BK185.out 1)); try go_wp2_with (first | ((with_reducible refine gate_dst (N := 6) rfl ?_); (try (refine gate_guard (by rfl) ?_; dsimp only)); refine box_event ?hg (N := 6) ?hd (cs := #[.int .i64 0, .int .i64 0, .int .i64 0, .slice none 0 0]) (t := 58) ?hr ?_; (case hd => rfl); (case hg => rfl); (case hr => exact Z6_9); intro gb187 hg w88 hbox hb; have n0_ := Aside0.mk (blk_below (g := gb185) (o := .cells #[.int .i64 a0_0, .slice (some ad186) l0_1.length c0_1] 29 (0, 0)) Z6_2 hb); have n1_ := Aside0.mk (below_step Z6_1 hb); have n2_ := Aside0.mk (hbox); have n3_ := Aside0.mk ((Z6_7 : w.heap.size ≤ gb187)); have n4_ := Aside0.mk ((Z6_7 : w.heap.size ≤ gb187)); have n5_ := Aside0.mk ((Z6_3 : gb185 ≠ gb187)); have n6_ := Aside0.mk ((Z6_4 : gb187 ≠ gb185)); clear BK185; clear HB; have BK185 := n0_; have HB := n1_; have BK187 := n2_; have GW187 := n3_; have GE187 := n4_; have NB185_187 := n5_; have NB187_185 := n6_; clear n0_ n1_ n2_ n3_ n4_ n5_ n6_; clear hb hbox hg; have hnb89 := NB187_185.out; have hnc89 := NB185_187.out; have hcz90_0 : w88.cell? ⟨gb187, 0, none⟩ = some (.int .i64 0) := (blk_cell BK187.out 0).trans rfl; have hcz90_1 : w88.cell? ⟨gb187, 1, none⟩ = some (.int .i64 0) := (blk_cell BK187.out 1).trans rfl; have hcz90_2 : w88.cell? ⟨gb187, 2, none⟩ = some (.int .i64 0) := (blk_cell BK187.out 2).trans rfl; have hcz90_3 : w88.cell? ⟨gb187, 3, none⟩ = some (.slice none 0 0) := (blk_cell BK187.out 3).trans rfl; have hfz90_0 := blk_frozen BK187.out 0; have hfz90_1 := blk_frozen BK187.out 1; have hfz90_2 := blk_frozen BK187.out 2; have hfz90_3 := blk_frozen BK187.out 3) | (go_at_call 32; (with_reducible refine (impl_pages.calls ((rd_T58 l0_1 x26_2).f2) t190 _ A78.out).mono ?_); rintro e w' ⟨rfl, ⟨nd, rfl⟩⟩; (try first | exact ⟨rfl, _, World.drewN_drewN _ _ _⟩ | exact ⟨rfl, _, Eq.trans (World.drewN_drewN _ _ _) (congrArg (World.drewN _) (Nat.add_assoc _ _ _))⟩); have hcz91_0 : w88.cell? ⟨gb185, 0, none⟩ = some (.int .i64 a0_0) := (blk_cell BK185.out 0).trans rfl; have hcz91_1 : w88.cell? ⟨gb185, 1, none⟩ = some (.slice (some ad186) l0_1.length c0_1) := (blk_cell BK185.out 1).trans rfl; have hfz91_0 := blk_frozen BK185.out 0; have hfz91_1 := blk_frozen BK185.out 1)))
        go_roundg k2
        case measure => have := HJ1.out; have := HK2.out; omega
        case rel => exact ⟨(wrap64 (((rd_T58 l0_1 x26_2).f0) + t190)), (false), (wrap64 (x26_2 + 1)), Z6_8, Z6_8, Z6_8, H', ⟨Z6_13⟩, ⟨Z6_5⟩, ⟨Z6_6⟩⟩
       rw [if_neg c77] at H
       have c77b0 : (((rd_T58 l0_1 x26_2).f1) == 5) = false := beq_eq_false_iff_ne.mpr c77
       have c77b1 : (((rd_T58 l0_1 x26_2).f1) != 5) = true := bne_iff_ne.mpr c77
       obtain rfl := Option.some.inj H
       have p186 : 0 ≤ (x26_2 : Int) := of_decide_eq_true Z6_10
       have q186 : x26_2 < (l0_1.length : Int) := of_decide_eq_true Z6_10
       obtain ⟨ad186, A186_3, c186_3, e186, hx186_0, hx186_1, hx186_2, hx186_3, hl186_3, hi186_3⟩ := at_T58 HR0_1.out x26_2 p186 q186
       cases e186
       replace hx186_0 := (HB.out.cell (World.block_lt_of_cell? w _ hx186_0)).trans hx186_0
       replace hx186_1 := (HB.out.cell (World.block_lt_of_cell? w _ hx186_1)).trans hx186_1
       replace hx186_2 := (HB.out.cell (World.block_lt_of_cell? w _ hx186_2)).trans hx186_2
       replace hx186_3 := (HB.out.cell (World.block_lt_of_cell? w _ hx186_3)).trans hx186_3
       have HR186_3 := Aside0.mk hi186_3
       have HC186_3 := Aside0.mk hl186_3
       clear hi186_3 hl186_3
       replace p186 := eq_true p186
       replace q186 := eq_true q186
       go_wp2_with (first | ((with_reducible refine gate_dst (N := 6) rfl ?_); (try (refine gate_guard (by rfl) ?_; dsimp only)); refine box_event ?hg (N := 6) ?hd (cs := #[.int .i64 0, .int .i64 0, .int .i64 0, .slice none 0 0]) (t := 58) ?hr ?_; (case hd => rfl); (case hg => rfl); (case hr => exact Z6_9); intro gb187 hg w92 hbox hb; have n0_ := Aside0.mk (blk_below (g := gb185) (o := .cells #[.int .i64 a0_0, .slice (some ad186) l0_1.length c0_1] 29 (0, 0)) Z6_2 hb); have n1_ := Aside0.mk (below_step Z6_1 hb); have n2_ := Aside0.mk (hbox); have n3_ := Aside0.mk ((Z6_7 : w.heap.size ≤ gb187)); have n4_ := Aside0.mk ((Z6_7 : w.heap.size ≤ gb187)); have n5_ := Aside0.mk ((Z6_3 : gb185 ≠ gb187)); have n6_ := Aside0.mk ((Z6_4 : gb187 ≠ gb185)); clear BK185; clear HB; have BK185 := n0_; have HB := n1_; have BK187 := n2_; have GW187 := n3_; have GE187 := n4_; have NB185_187 := n5_; have NB187_185 := n6_; clear n0_ n1_ n2_ n3_ n4_ n5_ n6_; clear hb hbox hg; have hnb93 := NB187_185.out; have hnc93 := NB185_187.out; have hcz94_0 : w92.cell? ⟨gb187, 0, none⟩ = some (.int .i64 0) := (blk_cell BK187.out 0).trans rfl; have hcz94_1 : w92.cell? ⟨gb187, 1, none⟩ = some (.int .i64 0) := (blk_cell BK187.out 1).trans rfl; have hcz94_2 : w92.cell? ⟨gb187, 2, none⟩ = some (.int .i64 0) := (blk_cell BK187.out 2).trans rfl; have hcz94_3 : w92.cell? ⟨gb187, 3, none⟩ = some (.slice none 0 0) := (blk_cell BK187.out 3).trans rfl; have hfz94_0 := blk_frozen BK187.out 0; have hfz94_1 := blk_frozen BK187.out 1; have hfz94_2 := blk_frozen BK187.out 2; have hfz94_3 := blk_frozen BK187.out 3))
       repeat (go_quiet (first | ((with_reducible refine gate_dst (N := 6) rfl ?_); (try (refine gate_guard (by rfl) ?_; dsimp only)); refine box_event ?hg (N := 6) ?hd (cs := #[.int .i64 0, .int .i64 0, .int .i64 0, .slice none 0 0]) (t := 58) ?hr ?_; (case hd => rfl); (case hg => rfl); (case hr => exact Z6_9); intro gb187 hg w92 hbox hb; have n0_ := Aside0.mk (blk_below (g := gb185) (o := .cells #[.int .i64 a0_0, .slice (some ad186) l0_1.length c0_1] 29 (0, 0)) Z6_2 hb); have n1_ := Aside0.mk (below_step Z6_1 hb); have n2_ := Aside0.mk (hbox); have n3_ := Aside0.mk ((Z6_7 : w.heap.size ≤ gb187)); have n4_ := Aside0.mk ((Z6_7 : w.heap.size ≤ gb187)); have n5_ := Aside0.mk ((Z6_3 : gb185 ≠ gb187)); have n6_ := Aside0.mk ((Z6_4 : gb187 ≠ gb185)); clear BK185; clear HB; have BK185 := n0_; have HB := n1_; have BK187 := n2_; have GW187 := n3_; have GE187 := n4_; have NB185_187 := n5_; have NB187_185 := n6_; clear n0_ n1_ n2_ n3_ n4_ n5_ n6_; clear hb hbox hg; have hnb93 := NB187_185.out; have hnc93 := NB185_187.out; have hcz94_0 : w92.cell? ⟨gb187, 0, none⟩ = some (.int .i64 0) := (blk_cell BK187.out 0).trans rfl; have hcz94_1 : w92.cell? ⟨gb187, 1, none⟩ = some (.int .i64 0) := (blk_cell BK187.out 1).trans rfl; have hcz94_2 : w92.cell? ⟨gb187, 2, none⟩ = some (.int .i64 0) := (blk_cell BK187.out 2).trans rfl; have hcz94_3 : w92.cell? ⟨gb187, 3, none⟩ = some (.slice none 0 0) := (blk_cell BK187.out 3).trans rfl; have hfz94_0 := blk_frozen BK187.out 0; have hfz94_1 := blk_frozen BK187.out 1; have hfz94_2 := blk_frozen BK187.out 2; have hfz94_3 := blk_frozen BK187.out 3)); try go_wp2_with (first | ((with_reducible refine gate_dst (N := 6) rfl ?_); (try (refine gate_guard (by rfl) ?_; dsimp only)); refine box_event ?hg (N := 6) ?hd (cs := #[.int .i64 0, .int .i64 0, .int .i64 0, .slice none 0 0]) (t := 58) ?hr ?_; (case hd => rfl); (case hg => rfl); (case hr => exact Z6_9); intro gb187 hg w92 hbox hb; have n0_ := Aside0.mk (blk_below (g := gb185) (o := .cells #[.int .i64 a0_0, .slice (some ad186) l0_1.length c0_1] 29 (0, 0)) Z6_2 hb); have n1_ := Aside0.mk (below_step Z6_1 hb); have n2_ := Aside0.mk (hbox); have n3_ := Aside0.mk ((Z6_7 : w.heap.size ≤ gb187)); have n4_ := Aside0.mk ((Z6_7 : w.heap.size ≤ gb187)); have n5_ := Aside0.mk ((Z6_3 : gb185 ≠ gb187)); have n6_ := Aside0.mk ((Z6_4 : gb187 ≠ gb185)); clear BK185; clear HB; have BK185 := n0_; have HB := n1_; have BK187 := n2_; have GW187 := n3_; have GE187 := n4_; have NB185_187 := n5_; have NB187_185 := n6_; clear n0_ n1_ n2_ n3_ n4_ n5_ n6_; clear hb hbox hg; have hnb93 := NB187_185.out; have hnc93 := NB185_187.out; have hcz94_0 : w92.cell? ⟨gb187, 0, none⟩ = some (.int .i64 0) := (blk_cell BK187.out 0).trans rfl; have hcz94_1 : w92.cell? ⟨gb187, 1, none⟩ = some (.int .i64 0) := (blk_cell BK187.out 1).trans rfl; have hcz94_2 : w92.cell? ⟨gb187, 2, none⟩ = some (.int .i64 0) := (blk_cell BK187.out 2).trans rfl; have hcz94_3 : w92.cell? ⟨gb187, 3, none⟩ = some (.slice none 0 0) := (blk_cell BK187.out 3).trans rfl; have hfz94_0 := blk_frozen BK187.out 0; have hfz94_1 := blk_frozen BK187.out 1; have hfz94_2 := blk_frozen BK187.out 2; have hfz94_3 := blk_frozen BK187.out 3)))
       go_ret
       exact ⟨Z6_12, Z6_6⟩
      rw [if_neg c14] at H
      have c14b0 : ((Int.tmod ((rd_T58 l0_1 x26_2).f0) 256) == 0) = false := beq_eq_false_iff_ne.mpr c14
      have c14b1 : ((Int.tmod ((rd_T58 l0_1 x26_2).f0) 256) != 0) = true := bne_iff_ne.mpr c14
      obtain rfl := Option.some.inj H
      have p186 : 0 ≤ (x26_2 : Int) := of_decide_eq_true Z6_10
      have q186 : x26_2 < (l0_1.length : Int) := of_decide_eq_true Z6_10
      obtain ⟨ad186, A186_3, c186_3, e186, hx186_0, hx186_1, hx186_2, hx186_3, hl186_3, hi186_3⟩ := at_T58 HR0_1.out x26_2 p186 q186
      cases e186
      replace hx186_0 := (HB.out.cell (World.block_lt_of_cell? w _ hx186_0)).trans hx186_0
      replace hx186_1 := (HB.out.cell (World.block_lt_of_cell? w _ hx186_1)).trans hx186_1
      replace hx186_2 := (HB.out.cell (World.block_lt_of_cell? w _ hx186_2)).trans hx186_2
      replace hx186_3 := (HB.out.cell (World.block_lt_of_cell? w _ hx186_3)).trans hx186_3
      have HR186_3 := Aside0.mk hi186_3
      have HC186_3 := Aside0.mk hl186_3
      clear hi186_3 hl186_3
      replace p186 := eq_true p186
      replace q186 := eq_true q186
      go_wp2_with (first | ((with_reducible refine gate_dst (N := 6) rfl ?_); (try (refine gate_guard (by rfl) ?_; dsimp only)); refine box_event ?hg (N := 6) ?hd (cs := #[.int .i64 0, .int .i64 0, .int .i64 0, .slice none 0 0]) (t := 58) ?hr ?_; (case hd => rfl); (case hg => rfl); (case hr => exact Z6_9); intro gb187 hg w95 hbox hb; have n0_ := Aside0.mk (blk_below (g := gb185) (o := .cells #[.int .i64 a0_0, .slice (some ad186) l0_1.length c0_1] 29 (0, 0)) Z6_2 hb); have n1_ := Aside0.mk (below_step Z6_1 hb); have n2_ := Aside0.mk (hbox); have n3_ := Aside0.mk ((Z6_7 : w.heap.size ≤ gb187)); have n4_ := Aside0.mk ((Z6_7 : w.heap.size ≤ gb187)); have n5_ := Aside0.mk ((Z6_3 : gb185 ≠ gb187)); have n6_ := Aside0.mk ((Z6_4 : gb187 ≠ gb185)); clear BK185; clear HB; have BK185 := n0_; have HB := n1_; have BK187 := n2_; have GW187 := n3_; have GE187 := n4_; have NB185_187 := n5_; have NB187_185 := n6_; clear n0_ n1_ n2_ n3_ n4_ n5_ n6_; clear hb hbox hg; have hnb96 := NB187_185.out; have hnc96 := NB185_187.out; have hcz97_0 : w95.cell? ⟨gb187, 0, none⟩ = some (.int .i64 0) := (blk_cell BK187.out 0).trans rfl; have hcz97_1 : w95.cell? ⟨gb187, 1, none⟩ = some (.int .i64 0) := (blk_cell BK187.out 1).trans rfl; have hcz97_2 : w95.cell? ⟨gb187, 2, none⟩ = some (.int .i64 0) := (blk_cell BK187.out 2).trans rfl; have hcz97_3 : w95.cell? ⟨gb187, 3, none⟩ = some (.slice none 0 0) := (blk_cell BK187.out 3).trans rfl; have hfz97_0 := blk_frozen BK187.out 0; have hfz97_1 := blk_frozen BK187.out 1; have hfz97_2 := blk_frozen BK187.out 2; have hfz97_3 := blk_frozen BK187.out 3))
      repeat (go_quiet (first | ((with_reducible refine gate_dst (N := 6) rfl ?_); (try (refine gate_guard (by rfl) ?_; dsimp only)); refine box_event ?hg (N := 6) ?hd (cs := #[.int .i64 0, .int .i64 0, .int .i64 0, .slice none 0 0]) (t := 58) ?hr ?_; (case hd => rfl); (case hg => rfl); (case hr => exact Z6_9); intro gb187 hg w95 hbox hb; have n0_ := Aside0.mk (blk_below (g := gb185) (o := .cells #[.int .i64 a0_0, .slice (some ad186) l0_1.length c0_1] 29 (0, 0)) Z6_2 hb); have n1_ := Aside0.mk (below_step Z6_1 hb); have n2_ := Aside0.mk (hbox); have n3_ := Aside0.mk ((Z6_7 : w.heap.size ≤ gb187)); have n4_ := Aside0.mk ((Z6_7 : w.heap.size ≤ gb187)); have n5_ := Aside0.mk ((Z6_3 : gb185 ≠ gb187)); have n6_ := Aside0.mk ((Z6_4 : gb187 ≠ gb185)); clear BK185; clear HB; have BK185 := n0_; have HB := n1_; have BK187 := n2_; have GW187 := n3_; have GE187 := n4_; have NB185_187 := n5_; have NB187_185 := n6_; clear n0_ n1_ n2_ n3_ n4_ n5_ n6_; clear hb hbox hg; have hnb96 := NB187_185.out; have hnc96 := NB185_187.out; have hcz97_0 : w95.cell? ⟨gb187, 0, none⟩ = some (.int .i64 0) := (blk_cell BK187.out 0).trans rfl; have hcz97_1 : w95.cell? ⟨gb187, 1, none⟩ = some (.int .i64 0) := (blk_cell BK187.out 1).trans rfl; have hcz97_2 : w95.cell? ⟨gb187, 2, none⟩ = some (.int .i64 0) := (blk_cell BK187.out 2).trans rfl; have hcz97_3 : w95.cell? ⟨gb187, 3, none⟩ = some (.slice none 0 0) := (blk_cell BK187.out 3).trans rfl; have hfz97_0 := blk_frozen BK187.out 0; have hfz97_1 := blk_frozen BK187.out 1; have hfz97_2 := blk_frozen BK187.out 2; have hfz97_3 := blk_frozen BK187.out 3)); try go_wp2_with (first | ((with_reducible refine gate_dst (N := 6) rfl ?_); (try (refine gate_guard (by rfl) ?_; dsimp only)); refine box_event ?hg (N := 6) ?hd (cs := #[.int .i64 0, .int .i64 0, .int .i64 0, .slice none 0 0]) (t := 58) ?hr ?_; (case hd => rfl); (case hg => rfl); (case hr => exact Z6_9); intro gb187 hg w95 hbox hb; have n0_ := Aside0.mk (blk_below (g := gb185) (o := .cells #[.int .i64 a0_0, .slice (some ad186) l0_1.length c0_1] 29 (0, 0)) Z6_2 hb); have n1_ := Aside0.mk (below_step Z6_1 hb); have n2_ := Aside0.mk (hbox); have n3_ := Aside0.mk ((Z6_7 : w.heap.size ≤ gb187)); have n4_ := Aside0.mk ((Z6_7 : w.heap.size ≤ gb187)); have n5_ := Aside0.mk ((Z6_3 : gb185 ≠ gb187)); have n6_ := Aside0.mk ((Z6_4 : gb187 ≠ gb185)); clear BK185; clear HB; have BK185 := n0_; have HB := n1_; have BK187 := n2_; have GW187 := n3_; have GE187 := n4_; have NB185_187 := n5_; have NB187_185 := n6_; clear n0_ n1_ n2_ n3_ n4_ n5_ n6_; clear hb hbox hg; have hnb96 := NB187_185.out; have hnc96 := NB185_187.out; have hcz97_0 : w95.cell? ⟨gb187, 0, none⟩ = some (.int .i64 0) := (blk_cell BK187.out 0).trans rfl; have hcz97_1 : w95.cell? ⟨gb187, 1, none⟩ = some (.int .i64 0) := (blk_cell BK187.out 1).trans rfl; have hcz97_2 : w95.cell? ⟨gb187, 2, none⟩ = some (.int .i64 0) := (blk_cell BK187.out 2).trans rfl; have hcz97_3 : w95.cell? ⟨gb187, 3, none⟩ = some (.slice none 0 0) := (blk_cell BK187.out 3).trans rfl; have hfz97_0 := blk_frozen BK187.out 0; have hfz97_1 := blk_frozen BK187.out 1; have hfz97_2 := blk_frozen BK187.out 2; have hfz97_3 := blk_frozen BK187.out 3)))
      go_ret
      exact ⟨Z6_12, Z6_6⟩
     rw [if_neg c13] at H
     exact absurd H (by simp)
    rw [if_neg c12] at H
    exact absurd H (by simp)
   rw [if_neg c11] at H
   have c11b0 : decide (x26_2 < (l0_1.length : Int)) = false := decide_eq_false c11
   clear c11
   obtain rfl := Option.some.inj H
   go_wp2
   repeat (go_quiet (fail); try go_wp2)
   go_ret
   exact ⟨Z6_12, Z6_1⟩
/-! ### impl_copied: function 44 -/
def impl_copied.f (l0 : List Int) : Option (List Int) := if ([] : List Int).length + l0.length < 140737488355328 then (some (([] : List Int) ++ l0)) else (none)
set_option maxHeartbeats 8000000 in
set_option maxRecDepth 100000 in
theorem impl_copied.calls (A0 : Option Addr) (c0 : Nat) (l0 : List Int) (r : List Int) (w : World) (hr0 : Kd.C (Kd.int .u8) w A0 l0.length l0) (hc0 : l0.length ≤ c0) (h : impl_copied.f l0 = some r) :
  Calls Try.prog 44 #[.slice A0 l0.length c0] w fun e w' => ∃ v0_ : Value, e = .returned (v0_) ∧ Kd.R (Kd.int .u8) 5 w' w.heap.size (fun _ => True) v0_ r ∧ Below w.heap.size w w' := by
 have HR0 := Aside0.mk hr0
 have HC0 := Aside0.mk hc0
 clear hr0 hc0
 have HB := Aside0.mk (Below.refl w.heap.size w)
 have H : (if ([] : List Int).length + l0.length < 140737488355328 then (some (([] : List Int) ++ l0)) else (none)) = some r := h
 clear h
 by_cases c2 : ([] : List Int).length + l0.length < 140737488355328
 ·rw [if_pos c2] at H
  have LMc2 := Aside0.mk c2
  clear c2
  obtain ⟨y191, hy191⟩ : ∃ y_ : List Int, y_ = (([] : List Int) ++ l0) := ⟨_, rfl⟩
  replace H : (some y191) = some r := by first | (rw [hy191]; with_reducible exact H) | (have H2_ := (Option.bind_some _ _).symm.trans H; rw [hy191]; with_reducible exact H2_) | (have H2_ := (Option.bind_some _ _).symm.trans H; with_reducible exact H2_) | with_reducible exact H | (rw [hy191]; exact H) | exact H
  have Ny191 := Aside0.mk hy191
  clear hy191
  obtain rfl := Option.some.inj H
  go_enter Try.func44, Try.ntmps44
  go_wp2_with (first | ((with_reducible refine gate_builtin (b := .append) (xs := #[.const (.slice none 0 0), .tmp 3]) rfl ?_); at_builtin; refine Kd.R_append_rows (Kd.int .u8) (w0 := w) w.heap.size rfl (.const (.slice none 0 0)) (.tmp 3) 33 5 (.int .u8 0) 1 rfl Try.underlying33 info5 rfl (by decide) (by omega) (.slice none 0 0) ([] : List Int) l0 _ _ _ (fun _ => True) (fun _ => False) rfl rfl ?aO ?aR (fun _ _ h => h) (fun _ h => h.elim) ?aF ?aB ?aS ?aL ?_; (case aR => repeat (first | exact HR0.out | (with_reducible refine Kd.C_alloc ?_ _) | (with_reducible refine Kd.C_drewN ?_ _) | (with_reducible refine Kd.C_drew ?_))); (case aB => exact Z6_11); (case aF => exact (fun _ _ => trivial)); (case aO => exact ((Kd.R_nil _ _ _ _ (fun _ => True)))); (case aS => exact (below_size Z6_11)); (case aL => have := LMc2.out; omega); intro v192 w3 ho hb hg hat; rw [← Ny191.out] at ho; have n0_ := Aside0.mk (hb); have n1_ := Aside0.mk (ho); clear HB; have HB := n0_; have HO193 := n1_; clear n0_ n1_; clear ho hb hg hat))
  go_ret
  exact ⟨_, Z6_12, by (with_reducible repeat (first | apply Kd.R_alloc | apply Kd.R_drewN | apply Kd.R_drew)); exact HO193.out, Z6_11⟩
 rw [if_neg c2] at H
 exact absurd H (by simp)
end Go.Proofs.Ytokiliilbopgkaa.PFnExactLink
