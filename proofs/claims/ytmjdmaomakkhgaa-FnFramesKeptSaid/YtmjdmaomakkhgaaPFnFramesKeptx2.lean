-- Written by a program of this session out of the translation. Not trusted: Lean checks it.
import Derived.Test.YtmjdmaomakkhgaaPFnFramesKeptx0
namespace Go.Proofs.Ytmjdmaomakkhgaa.PFnFramesKept
open Go.RowKit Go.Proofs.YtmjdmaomakkhgaaW.PrintWords Go.Proofs.YtmjdmaomakkhgaaW.PrintLast Go.Proofs.YtmjdmaomakkhgaaW.PrintMore
attribute [local go_sem] max2_int min2_int max_two min_two max_three min_three max_four min_four   -- for this text's walks alone
set_option linter.unusedVariables false
set_option linter.unusedSimpArgs false
theorem Z2_20 {P : Prop} (h : P := by rw [hg]; exact (below_size Z2_3)) : P := h
theorem Z2_19 {P : Prop} (h : P := by injection e108) : P := h
theorem Z2_18 {P : Prop} (h : P := by first | rfl | (simp [errW_none, errW_some] <;> rfl) | (simp only [← hji16]; first | rfl | (simp [errW_none, errW_some] <;> rfl)) | (simp [*, errW_none, errW_some] <;> rfl)) : P := h
theorem Z2_17 {P : Prop} (h : P := by have := HJ1.out; have := HK2.out; have := HJ9.out; omega) : P := h
theorem Z2_16 {P : Prop} (h : P := by rw [hg]; exact Nat.ne_of_gt (blk_lt (g := gb103) (o := .cells #[.int .i64 a0_0, .slice (some ad104) l0_1.length c0_1] 50 (0, 0)) Z2_6)) : P := h
theorem Z2_15 {P : Prop} (h : P := by rw [hg]; exact Nat.ne_of_lt (blk_lt (g := gb103) (o := .cells #[.int .i64 a0_0, .slice (some ad104) l0_1.length c0_1] 50 (0, 0)) Z2_6)) : P := h
theorem Z2_14 {P : Prop} (h : P := by (try simp only [List.map_toArray, List.map_cons, List.map_nil]); first | done | rfl | (simp only [List.length_drop, List.length_take]; first | done | rfl)) : P := h
theorem Z2_13 {P : Prop} (h : P := by first | (go_simp; done) | (go_simp; rfl)) : P := h
theorem Z2_12 {P : Prop} (h : P := by repeat (first | (with_reducible first | exact HB.out | apply below_alloc | apply pw_below_drewN | apply below_drew1 | refine below_set ?_ GE110.out) | exact HB.out)) : P := h
theorem Z2_11 {P : Prop} (h : P := by repeat (first | (with_reducible first | exact HB.out | apply below_alloc | apply pw_below_drewN | apply below_drew1 | refine below_set ?_ GE101.out) | exact HB.out)) : P := h
theorem Z2_10 {P : Prop} (h : P := by rw [hg]; exact (below_size Z2_1)) : P := h
theorem Z2_9 {P : Prop} (h : P := by first | rfl | (simp [errW_none, errW_some] <;> rfl) | (simp [*, errW_none, errW_some] <;> rfl)) : P := h
theorem Z2_8 {P : Prop} (h : P := by (with_reducible repeat (first | apply blk_drewN | apply blk_drew | apply blk_alloc)); refine blk_far ?_ NB103_105.out _; (with_reducible repeat (first | apply blk_drewN | apply blk_drew | apply blk_alloc)); refine blk_far ?_ NB103_105.out _; (with_reducible repeat (first | apply blk_drewN | apply blk_drew | apply blk_alloc)); exact BK103.out) : P := h
theorem Z2_7 {P : Prop} (h : P := by first | rfl | exact congrArg (Value.int .i64) (i64_w _) | (simp; done) | (simp [*]; done)) : P := h
theorem Z2_6 {P : Prop} (h : P := by (with_reducible repeat (first | apply blk_drewN | apply blk_drew | apply blk_alloc)); exact BK103.out) : P := h
theorem Z2_5 {P : Prop} (h : P := by first | (with_reducible assumption) | assumption) : P := h
theorem Z2_4 {P : Prop} (h : P := by (with_reducible repeat (first | apply blk_drewN | apply blk_drew | apply blk_alloc)); refine blk_put (cs := #[.int .i64 ((rd_T73 l0_1 x4_2).f0), .int .i64 0]) ?_ 1 _ rfl; (with_reducible repeat (first | apply blk_drewN | apply blk_drew | apply blk_alloc)); refine blk_put (cs := #[.int .i64 0, .int .i64 0]) ?_ 0 _ rfl; (with_reducible repeat (first | apply blk_drewN | apply blk_drew | apply blk_alloc)); exact BK105.out) : P := h
theorem Z2_3 {P : Prop} (h : P := by repeat (first | (with_reducible first | exact HB.out | apply below_alloc | apply pw_below_drewN | apply below_drew1 | refine below_set ?_ GE103.out) | exact HB.out)) : P := h
theorem Z2_2 {P : Prop} (h : P := by repeat (first | (with_reducible first | exact HB.out | apply below_alloc | apply pw_below_drewN | apply below_drew1 | refine below_set ?_ GE103.out | refine below_set ?_ GE105.out) | exact HB.out)) : P := h
theorem Z2_1 {P : Prop} (h : P := by repeat (first | (with_reducible first | exact HB.out | apply below_alloc | apply pw_below_drewN | apply below_drew1) | exact HB.out)) : P := h

/-! ### spec_l8Len: function 72 -/
def spec_l8Len.l0 : Nat → Int → Int → Int → Option (Int)
 | 0, _, _, _ => none
 | k + 1, x0, x3, x4 => if x4 < x0 then (spec_l8Len.l0 k x0 (wrap64 (x3 * 2)) (wrap64 (x4 + 1))) else (some x3)
def spec_l8Len.f (k : Nat) (a0 : Int) : Option (Int) := spec_l8Len.l0 k a0 1 0
theorem spec_l8Len.mono_l : ∀ k, (∀ y0 y1 y2, LeO (spec_l8Len.l0 k y0 y1 y2) (spec_l8Len.l0 (k + 1) y0 y1 y2))
 | 0 => fun _ _ _ r h => by simp [spec_l8Len.l0] at h
 | k + 1 => by
  have ih0 := spec_l8Len.mono_l k
  ·intro y0 y1 y2
   unfold spec_l8Len.l0
   repeat' first
   | (with_reducible exact ih0 _ _ _)
   | (with_reducible exact LeO.refl _)
   | (with_reducible exact LeO.none _)
   | (with_reducible refine LeO.ite ?_ ?_)
   | (with_reducible refine LeO.bind ?_ (fun _ => ?_))
   | exact ih0 _ _ _
   | exact LeO.none _
   | refine LeO.ite ?_ ?_
   | refine LeO.bind ?_ (fun _ => ?_)
theorem spec_l8Len.mono : ∀ a0 k, LeO (spec_l8Len.f k a0) (spec_l8Len.f (k + 1) a0) := by
 intro a0 k
 have ih0 := spec_l8Len.mono_l k
 unfold spec_l8Len.f
 repeat' first
   | (with_reducible exact ih0 _ _ _)
   | (with_reducible exact LeO.refl _)
   | (with_reducible exact LeO.none _)
   | (with_reducible refine LeO.ite ?_ ?_)
   | (with_reducible refine LeO.bind ?_ (fun _ => ?_))
   | exact ih0 _ _ _
   | exact LeO.none _
   | refine LeO.ite ?_ ?_
   | refine LeO.bind ?_ (fun _ => ?_)
set_option maxHeartbeats 8000000 in
set_option maxRecDepth 100000 in
theorem spec_l8Len.calls (k : Nat) (a0 : Int) (r : Int) (w : World) (h : spec_l8Len.f k a0 = some r) :
  Calls Try.prog 72 #[.int .i64 a0] w fun e w' => e = .returned (.int .i64 r) ∧ Drawn0 w w' := by
 have H : (spec_l8Len.l0 k a0 1 0) = some r := h
 clear h
 have H' := Aside0.mk H
 clear H
 go_enter Try.func72, Try.ntmps72
 go_wp2
 go_loopg [3, 4] k (fun kq v3 v4 w' => ∃ (x3_1 : Int) (x4_1 : Int), v3 = .int .i64 x3_1 ∧ v4 = .int .i64 x4_1 ∧ Aside0 (spec_l8Len.l0 kq a0 x3_1 x4_1 = some r) ∧ Aside0 (kq ≤ k) ∧ Drawn0 w w')
 case atStart => exact ⟨(1), (0), Z2_7, Z2_7, H', ⟨Nat.le_refl _⟩, by repeat (first | exact Drawn0.refl _ | apply Drawn0.step)⟩
 clear H'
 obtain ⟨x3_1, x4_1, rfl, rfl, HA, HK1, ⟨m1, rfl⟩⟩ := hrel
 cases gk with
 | zero => exact absurd HA.out (by simp [spec_l8Len.l0])
 | succ k1 =>
  have H := HA.out
  clear HA
  simp only [spec_l8Len.l0] at H
  by_cases c2 : x4_1 < a0
  ·rw [if_pos c2] at H
   have c2b0 : decide (x4_1 < a0) = true := decide_eq_true c2
   clear c2
   have H' := Aside0.mk H
   clear H
   go_wp2
   go_roundg k1
   case measure => have := HK1.out; omega
   case rel => exact ⟨(wrap64 (x3_1 * 2)), (wrap64 (x4_1 + 1)), Z2_7, Z2_7, H', ⟨by have := HK1.out; omega⟩, by repeat (first | exact Drawn0.refl _ | apply Drawn0.step)⟩
  rw [if_neg c2] at H
  have c2b0 : decide (x4_1 < a0) = false := decide_eq_false c2
  clear c2
  obtain rfl := Option.some.inj H
  go_wp2
  go_ret
  exact ⟨Z2_7, by repeat (first | exact Drawn0.refl _ | apply Drawn0.step)⟩
/-! ### spec_l8Block: function 71 -/
def spec_l8Block.f (k : Nat) (a0 : Int) (a1_0 : Int) (a1_1 : Int) : Option (Bool) := if a1_1 < 0 then (some false) else (if a1_1 > 10 then (some false) else ((spec_l8Len.f k a1_1).bind fun t102 => (if a1_0 ≥ 0 then (if a1_0 < a0 then (if t102 = 0 then (none) else (if (Int.tmod a1_0 t102) = 0 then (some (decide ((wrap64 (a1_0 + t102)) ≤ a0))) else (some false))) else (some false)) else (some false))))
theorem spec_l8Block.mono : ∀ a0 a1 a2 k, LeO (spec_l8Block.f k a0 a1 a2) (spec_l8Block.f (k + 1) a0 a1 a2) := by
 intro a0 a1 a2 k
 unfold spec_l8Block.f
 repeat' first
   | (with_reducible exact spec_l8Len.mono _ _)
   | (with_reducible exact LeO.refl _)
   | (with_reducible exact LeO.none _)
   | (with_reducible refine LeO.ite ?_ ?_)
   | (with_reducible refine LeO.bind ?_ (fun _ => ?_))
   | exact spec_l8Len.mono _ _
   | exact LeO.none _
   | refine LeO.ite ?_ ?_
   | refine LeO.bind ?_ (fun _ => ?_)
set_option maxHeartbeats 8000000 in
set_option maxRecDepth 100000 in
theorem spec_l8Block.calls (k : Nat) (a0 : Int) (a1_0 : Int) (a1_1 : Int) (r : Bool) (w : World) (h : spec_l8Block.f k a0 a1_0 a1_1 = some r) :
  Calls Try.prog 71 #[.int .i64 a0, .agg #[.int .i64 a1_0, .int .i64 a1_1]] w fun e w' => e = .returned (.bool r) ∧ Below w.heap.size w w' := by
 have hu73 := Try.underlying73
 have HB := Aside0.mk (Below.refl w.heap.size w)
 have H : (if a1_1 < 0 then (some false) else (if a1_1 > 10 then (some false) else ((spec_l8Len.f k a1_1).bind fun t102 => (if a1_0 ≥ 0 then (if a1_0 < a0 then (if t102 = 0 then (none) else (if (Int.tmod a1_0 t102) = 0 then (some (decide ((wrap64 (a1_0 + t102)) ≤ a0))) else (some false))) else (some false)) else (some false))))) = some r := h
 clear h
 by_cases c3 : a1_1 < 0
 ·rw [if_pos c3] at H
  have c3b0 : decide (a1_1 < 0) = true := decide_eq_true c3
  clear c3
  obtain rfl := Option.some.inj H
  go_enter Try.func71, Try.ntmps71
  go_wp2_with (first | ((with_reducible refine gate_dst (N := 3) rfl ?_); refine box_event ?hg (N := 3) ?hd (cs := #[.int .i64 a1_0, .int .i64 a1_1]) (t := 73) ?hr ?_; (case hd => rfl); (case hg => rfl); (case hr => exact Z2_13); intro gb101 hg w4 hbox hb; have n0_ := Aside0.mk (below_step Z2_1 hb); have n1_ := Aside0.mk (hbox); have n2_ := Aside0.mk ((Z2_10 : w.heap.size ≤ gb101)); have n3_ := Aside0.mk ((Z2_10 : w.heap.size ≤ gb101)); clear HB; have HB := n0_; have BK101 := n1_; have GW101 := n2_; have GE101 := n3_; clear n0_ n1_ n2_ n3_; clear hb hbox hg; have hcz5_0 : w4.cell? ⟨gb101, 0, none⟩ = some (.int .i64 a1_0) := (blk_cell BK101.out 0).trans rfl; have hcz5_1 : w4.cell? ⟨gb101, 1, none⟩ = some (.int .i64 a1_1) := (blk_cell BK101.out 1).trans rfl; have hfz5_0 := blk_frozen BK101.out 0; have hfz5_1 := blk_frozen BK101.out 1))
  go_ret
  exact ⟨Z2_9, Z2_11⟩
 rw [if_neg c3] at H
 have c3b0 : decide (a1_1 < 0) = false := decide_eq_false c3
 clear c3
 by_cases c6 : a1_1 > 10
 ·rw [if_pos c6] at H
  have c6b0 : decide (10 < a1_1) = true := decide_eq_true c6
  clear c6
  obtain rfl := Option.some.inj H
  go_enter Try.func71, Try.ntmps71
  go_wp2_with (first | ((with_reducible refine gate_dst (N := 3) rfl ?_); refine box_event ?hg (N := 3) ?hd (cs := #[.int .i64 a1_0, .int .i64 a1_1]) (t := 73) ?hr ?_; (case hd => rfl); (case hg => rfl); (case hr => exact Z2_13); intro gb101 hg w7 hbox hb; have n0_ := Aside0.mk (below_step Z2_1 hb); have n1_ := Aside0.mk (hbox); have n2_ := Aside0.mk ((Z2_10 : w.heap.size ≤ gb101)); have n3_ := Aside0.mk ((Z2_10 : w.heap.size ≤ gb101)); clear HB; have HB := n0_; have BK101 := n1_; have GW101 := n2_; have GE101 := n3_; clear n0_ n1_ n2_ n3_; clear hb hbox hg; have hcz8_0 : w7.cell? ⟨gb101, 0, none⟩ = some (.int .i64 a1_0) := (blk_cell BK101.out 0).trans rfl; have hcz8_1 : w7.cell? ⟨gb101, 1, none⟩ = some (.int .i64 a1_1) := (blk_cell BK101.out 1).trans rfl; have hfz8_0 := blk_frozen BK101.out 0; have hfz8_1 := blk_frozen BK101.out 1))
  go_ret
  exact ⟨Z2_9, Z2_11⟩
 rw [if_neg c6] at H
 have c6b0 : decide (10 < a1_1) = false := decide_eq_false c6
 clear c6
 replace H := Option.bind_eq_some_iff.mp H
 obtain ⟨t102, A90, H⟩ := H
 replace H : (if a1_0 ≥ 0 then (if a1_0 < a0 then (if t102 = 0 then (none) else (if (Int.tmod a1_0 t102) = 0 then (some (decide ((wrap64 (a1_0 + t102)) ≤ a0))) else (some false))) else (some false)) else (some false)) = some r := H
 have A9 := Aside0.mk A90
 clear A90
 by_cases c10 : a1_0 ≥ 0
 ·rw [if_pos c10] at H
  have c10b0 : decide (0 ≤ a1_0) = true := decide_eq_true c10
  clear c10
  by_cases c11 : a1_0 < a0
  ·rw [if_pos c11] at H
   have c11b0 : decide (a1_0 < a0) = true := decide_eq_true c11
   clear c11
   by_cases c12 : t102 = 0
   ·rw [if_pos c12] at H
    exact absurd H (by simp)
   rw [if_neg c12] at H
   have c12b0 : (t102 == 0) = false := beq_eq_false_iff_ne.mpr c12
   have c12b1 : (t102 != 0) = true := bne_iff_ne.mpr c12
   by_cases c13 : (Int.tmod a1_0 t102) = 0
   ·rw [if_pos c13] at H
    have c13b0 : ((Int.tmod a1_0 t102) == 0) = true := beq_iff_eq.mpr c13
    have c13b1 : ((Int.tmod a1_0 t102) != 0) = false := bne_eq_false_iff_eq.mpr c13
    clear c13
    obtain rfl := Option.some.inj H
    go_enter Try.func71, Try.ntmps71
    go_wp2_with (first | ((with_reducible refine gate_dst (N := 3) rfl ?_); refine box_event ?hg (N := 3) ?hd (cs := #[.int .i64 a1_0, .int .i64 a1_1]) (t := 73) ?hr ?_; (case hd => rfl); (case hg => rfl); (case hr => exact Z2_13); intro gb101 hg w14 hbox hb; have n0_ := Aside0.mk (below_step Z2_1 hb); have n1_ := Aside0.mk (hbox); have n2_ := Aside0.mk ((Z2_10 : w.heap.size ≤ gb101)); have n3_ := Aside0.mk ((Z2_10 : w.heap.size ≤ gb101)); clear HB; have HB := n0_; have BK101 := n1_; have GW101 := n2_; have GE101 := n3_; clear n0_ n1_ n2_ n3_; clear hb hbox hg; have hcz15_0 : w14.cell? ⟨gb101, 0, none⟩ = some (.int .i64 a1_0) := (blk_cell BK101.out 0).trans rfl; have hcz15_1 : w14.cell? ⟨gb101, 1, none⟩ = some (.int .i64 a1_1) := (blk_cell BK101.out 1).trans rfl; have hfz15_0 := blk_frozen BK101.out 0; have hfz15_1 := blk_frozen BK101.out 1) | ((with_reducible refine gate_callee (f := 72) rfl ?_); refine goesL_ (some 16) rfl rfl Try.func72 (by kernel_rfl) rfl #[.int .i64 a1_1] rfl Z2_14 ?_; (with_reducible refine (spec_l8Len.calls k a1_1 t102 _ A9.out).mono ?_); rintro e w' ⟨rfl, ⟨nd, rfl⟩⟩; refine ⟨_, rfl, ?_⟩))
    go_ret
    exact ⟨Z2_9, Z2_11⟩
   rw [if_neg c13] at H
   have c13b0 : ((Int.tmod a1_0 t102) == 0) = false := beq_eq_false_iff_ne.mpr c13
   have c13b1 : ((Int.tmod a1_0 t102) != 0) = true := bne_iff_ne.mpr c13
   obtain rfl := Option.some.inj H
   go_enter Try.func71, Try.ntmps71
   go_wp2_with (first | ((with_reducible refine gate_dst (N := 3) rfl ?_); refine box_event ?hg (N := 3) ?hd (cs := #[.int .i64 a1_0, .int .i64 a1_1]) (t := 73) ?hr ?_; (case hd => rfl); (case hg => rfl); (case hr => exact Z2_13); intro gb101 hg w16 hbox hb; have n0_ := Aside0.mk (below_step Z2_1 hb); have n1_ := Aside0.mk (hbox); have n2_ := Aside0.mk ((Z2_10 : w.heap.size ≤ gb101)); have n3_ := Aside0.mk ((Z2_10 : w.heap.size ≤ gb101)); clear HB; have HB := n0_; have BK101 := n1_; have GW101 := n2_; have GE101 := n3_; clear n0_ n1_ n2_ n3_; clear hb hbox hg; have hcz17_0 : w16.cell? ⟨gb101, 0, none⟩ = some (.int .i64 a1_0) := (blk_cell BK101.out 0).trans rfl; have hcz17_1 : w16.cell? ⟨gb101, 1, none⟩ = some (.int .i64 a1_1) := (blk_cell BK101.out 1).trans rfl; have hfz17_0 := blk_frozen BK101.out 0; have hfz17_1 := blk_frozen BK101.out 1) | ((with_reducible refine gate_callee (f := 72) rfl ?_); refine goesL_ (some 16) rfl rfl Try.func72 (by kernel_rfl) rfl #[.int .i64 a1_1] rfl Z2_14 ?_; (with_reducible refine (spec_l8Len.calls k a1_1 t102 _ A9.out).mono ?_); rintro e w' ⟨rfl, ⟨nd, rfl⟩⟩; refine ⟨_, rfl, ?_⟩))
   go_ret
   exact ⟨Z2_9, Z2_11⟩
  rw [if_neg c11] at H
  have c11b0 : decide (a1_0 < a0) = false := decide_eq_false c11
  clear c11
  obtain rfl := Option.some.inj H
  go_enter Try.func71, Try.ntmps71
  go_wp2_with (first | ((with_reducible refine gate_dst (N := 3) rfl ?_); refine box_event ?hg (N := 3) ?hd (cs := #[.int .i64 a1_0, .int .i64 a1_1]) (t := 73) ?hr ?_; (case hd => rfl); (case hg => rfl); (case hr => exact Z2_13); intro gb101 hg w18 hbox hb; have n0_ := Aside0.mk (below_step Z2_1 hb); have n1_ := Aside0.mk (hbox); have n2_ := Aside0.mk ((Z2_10 : w.heap.size ≤ gb101)); have n3_ := Aside0.mk ((Z2_10 : w.heap.size ≤ gb101)); clear HB; have HB := n0_; have BK101 := n1_; have GW101 := n2_; have GE101 := n3_; clear n0_ n1_ n2_ n3_; clear hb hbox hg; have hcz19_0 : w18.cell? ⟨gb101, 0, none⟩ = some (.int .i64 a1_0) := (blk_cell BK101.out 0).trans rfl; have hcz19_1 : w18.cell? ⟨gb101, 1, none⟩ = some (.int .i64 a1_1) := (blk_cell BK101.out 1).trans rfl; have hfz19_0 := blk_frozen BK101.out 0; have hfz19_1 := blk_frozen BK101.out 1) | ((with_reducible refine gate_callee (f := 72) rfl ?_); refine goesL_ (some 16) rfl rfl Try.func72 (by kernel_rfl) rfl #[.int .i64 a1_1] rfl Z2_14 ?_; (with_reducible refine (spec_l8Len.calls k a1_1 t102 _ A9.out).mono ?_); rintro e w' ⟨rfl, ⟨nd, rfl⟩⟩; refine ⟨_, rfl, ?_⟩))
  go_ret
  exact ⟨Z2_9, Z2_11⟩
 rw [if_neg c10] at H
 have c10b0 : decide (0 ≤ a1_0) = false := decide_eq_false c10
 clear c10
 obtain rfl := Option.some.inj H
 go_enter Try.func71, Try.ntmps71
 go_wp2_with (first | ((with_reducible refine gate_dst (N := 3) rfl ?_); refine box_event ?hg (N := 3) ?hd (cs := #[.int .i64 a1_0, .int .i64 a1_1]) (t := 73) ?hr ?_; (case hd => rfl); (case hg => rfl); (case hr => exact Z2_13); intro gb101 hg w20 hbox hb; have n0_ := Aside0.mk (below_step Z2_1 hb); have n1_ := Aside0.mk (hbox); have n2_ := Aside0.mk ((Z2_10 : w.heap.size ≤ gb101)); have n3_ := Aside0.mk ((Z2_10 : w.heap.size ≤ gb101)); clear HB; have HB := n0_; have BK101 := n1_; have GW101 := n2_; have GE101 := n3_; clear n0_ n1_ n2_ n3_; clear hb hbox hg; have hcz21_0 : w20.cell? ⟨gb101, 0, none⟩ = some (.int .i64 a1_0) := (blk_cell BK101.out 0).trans rfl; have hcz21_1 : w20.cell? ⟨gb101, 1, none⟩ = some (.int .i64 a1_1) := (blk_cell BK101.out 1).trans rfl; have hfz21_0 := blk_frozen BK101.out 0; have hfz21_1 := blk_frozen BK101.out 1) | ((with_reducible refine gate_callee (f := 72) rfl ?_); refine goesL_ (some 16) rfl rfl Try.func72 (by kernel_rfl) rfl #[.int .i64 a1_1] rfl Z2_14 ?_; (with_reducible refine (spec_l8Len.calls k a1_1 t102 _ A9.out).mono ?_); rintro e w' ⟨rfl, ⟨nd, rfl⟩⟩; refine ⟨_, rfl, ?_⟩))
 go_ret
 exact ⟨Z2_9, Z2_11⟩
/-! ### spec_FramesOk: function 30 -/
mutual
def spec_FramesOk.j0 : Nat → Bool → Int → List (S73) → Option (Bool)
 | 0, _, _, _ => none
 | k + 1, x14, x104000, x104001 => if x14 = true then (some false) else (spec_FramesOk.l0 k 0 0 x104000 x104001)
def spec_FramesOk.l0 : Nat → Int → Int → Int → List (S73) → Option (Bool)
 | 0, _, _, _, _ => none
 | k + 1, x3, x4, x104000, x104001 => if x4 < (x104001.length : Int) then (if 0 ≤ x4 then ((spec_l8Block.f k x104000 ((rd_T73 x104001 x4).f0) ((rd_T73 x104001 x4).f1)).bind fun t106 => (if t106 = true then (spec_FramesOk.j2 k x3 x4 (decide (((rd_T73 x104001 x4).f0) < x3)) x104000 x104001 ((rd_T73 x104001 x4).f0) ((rd_T73 x104001 x4).f1)) else (spec_FramesOk.j2 k x3 x4 true x104000 x104001 ((rd_T73 x104001 x4).f0) ((rd_T73 x104001 x4).f1)))) else (none)) else (some true)
def spec_FramesOk.j2 : Nat → Int → Int → Bool → Int → List (S73) → Int → Int → Option (Bool)
 | 0, _, _, _, _, _, _, _ => none
 | k + 1, x3, x4, x37, x104000, x104001, x106000, x106001 => if x37 = true then (some false) else ((spec_l8Len.f k x106001).bind fun t107 => (if x4 > 0 then (if 0 ≤ (wrap64 (x4 - 1)) then (if (wrap64 (x4 - 1)) < (x104001.length : Int) then (if ((rd_T73 x104001 (wrap64 (x4 - 1))).f1) = x106001 then (if x106001 < 10 then (if x106000 = x3 then (if (wrap64 (2 * t107)) = 0 then (none) else (if (Int.tmod ((rd_T73 x104001 (wrap64 (x4 - 1))).f0) (wrap64 (2 * t107))) = 0 then (some false) else (spec_FramesOk.l0 k (wrap64 (x106000 + t107)) (wrap64 (x4 + 1)) x104000 x104001))) else (spec_FramesOk.l0 k (wrap64 (x106000 + t107)) (wrap64 (x4 + 1)) x104000 x104001)) else (spec_FramesOk.l0 k (wrap64 (x106000 + t107)) (wrap64 (x4 + 1)) x104000 x104001)) else (spec_FramesOk.l0 k (wrap64 (x106000 + t107)) (wrap64 (x4 + 1)) x104000 x104001)) else (none)) else (none)) else (spec_FramesOk.l0 k (wrap64 (x106000 + t107)) (wrap64 (x4 + 1)) x104000 x104001)))
end
def spec_FramesOk.f (k : Nat) (a0_0 : Int) (l0_1 : List (S73)) : Option (Bool) := if a0_0 < 0 then (spec_FramesOk.j0 k true a0_0 l0_1) else (spec_FramesOk.j0 k (decide (a0_0 > 1024)) a0_0 l0_1)
theorem spec_FramesOk.mono_l : ∀ k, (∀ y0 y1 y2, LeO (spec_FramesOk.j0 k y0 y1 y2) (spec_FramesOk.j0 (k + 1) y0 y1 y2)) ∧ (∀ y0 y1 y2 y3, LeO (spec_FramesOk.l0 k y0 y1 y2 y3) (spec_FramesOk.l0 (k + 1) y0 y1 y2 y3)) ∧ (∀ y0 y1 y2 y3 y4 y5 y6, LeO (spec_FramesOk.j2 k y0 y1 y2 y3 y4 y5 y6) (spec_FramesOk.j2 (k + 1) y0 y1 y2 y3 y4 y5 y6))
 | 0 => ⟨fun _ _ _ r h => by simp [spec_FramesOk.j0] at h, fun _ _ _ _ r h => by simp [spec_FramesOk.l0] at h, fun _ _ _ _ _ _ _ r h => by simp [spec_FramesOk.j2] at h⟩
 | k + 1 => by
  obtain ⟨ih0, ih1, ih2⟩ := spec_FramesOk.mono_l k
  refine ⟨?_, ?_, ?_⟩
  ·intro y0 y1 y2
   unfold spec_FramesOk.j0
   repeat' first
   | (with_reducible exact ih0 _ _ _)
   | (with_reducible exact ih1 _ _ _ _)
   | (with_reducible exact ih2 _ _ _ _ _ _ _)
   | (with_reducible exact spec_l8Block.mono _ _ _ _)
   | (with_reducible exact spec_l8Len.mono _ _)
   | (with_reducible exact LeO.refl _)
   | (with_reducible exact LeO.none _)
   | (with_reducible refine LeO.ite ?_ ?_)
   | (with_reducible refine LeO.bind ?_ (fun _ => ?_))
   | exact ih0 _ _ _
   | exact ih1 _ _ _ _
   | exact ih2 _ _ _ _ _ _ _
   | exact spec_l8Block.mono _ _ _ _
   | exact spec_l8Len.mono _ _
   | exact LeO.none _
   | refine LeO.ite ?_ ?_
   | refine LeO.bind ?_ (fun _ => ?_)
  ·intro y0 y1 y2 y3
   unfold spec_FramesOk.l0
   repeat' first
   | (with_reducible exact ih0 _ _ _)
   | (with_reducible exact ih1 _ _ _ _)
   | (with_reducible exact ih2 _ _ _ _ _ _ _)
   | (with_reducible exact spec_l8Block.mono _ _ _ _)
   | (with_reducible exact spec_l8Len.mono _ _)
   | (with_reducible exact LeO.refl _)
   | (with_reducible exact LeO.none _)
   | (with_reducible refine LeO.ite ?_ ?_)
   | (with_reducible refine LeO.bind ?_ (fun _ => ?_))
   | exact ih0 _ _ _
   | exact ih1 _ _ _ _
   | exact ih2 _ _ _ _ _ _ _
   | exact spec_l8Block.mono _ _ _ _
   | exact spec_l8Len.mono _ _
   | exact LeO.none _
   | refine LeO.ite ?_ ?_
   | refine LeO.bind ?_ (fun _ => ?_)
  ·intro y0 y1 y2 y3 y4 y5 y6
   unfold spec_FramesOk.j2
   repeat' first
   | (with_reducible exact ih0 _ _ _)
   | (with_reducible exact ih1 _ _ _ _)
   | (with_reducible exact ih2 _ _ _ _ _ _ _)
   | (with_reducible exact spec_l8Block.mono _ _ _ _)
   | (with_reducible exact spec_l8Len.mono _ _)
   | (with_reducible exact LeO.refl _)
   | (with_reducible exact LeO.none _)
   | (with_reducible refine LeO.ite ?_ ?_)
   | (with_reducible refine LeO.bind ?_ (fun _ => ?_))
   | exact ih0 _ _ _
   | exact ih1 _ _ _ _
   | exact ih2 _ _ _ _ _ _ _
   | exact spec_l8Block.mono _ _ _ _
   | exact spec_l8Len.mono _ _
   | exact LeO.none _
   | refine LeO.ite ?_ ?_
   | refine LeO.bind ?_ (fun _ => ?_)
theorem spec_FramesOk.mono : ∀ a0 a1 k, LeO (spec_FramesOk.f k a0 a1) (spec_FramesOk.f (k + 1) a0 a1) := by
 intro a0 a1 k
 obtain ⟨ih0, ih1, ih2⟩ := spec_FramesOk.mono_l k
 unfold spec_FramesOk.f
 repeat' first
   | (with_reducible exact ih0 _ _ _)
   | (with_reducible exact ih1 _ _ _ _)
   | (with_reducible exact ih2 _ _ _ _ _ _ _)
   | (with_reducible exact spec_l8Block.mono _ _ _ _)
   | (with_reducible exact spec_l8Len.mono _ _)
   | (with_reducible exact LeO.refl _)
   | (with_reducible exact LeO.none _)
   | (with_reducible refine LeO.ite ?_ ?_)
   | (with_reducible refine LeO.bind ?_ (fun _ => ?_))
   | exact ih0 _ _ _
   | exact ih1 _ _ _ _
   | exact ih2 _ _ _ _ _ _ _
   | exact spec_l8Block.mono _ _ _ _
   | exact spec_l8Len.mono _ _
   | exact LeO.none _
   | refine LeO.ite ?_ ?_
   | refine LeO.bind ?_ (fun _ => ?_)
set_option maxHeartbeats 8000000 in
set_option maxRecDepth 100000 in
theorem spec_FramesOk.calls (k : Nat) (a0_0 : Int) (A0_1 : Option Addr) (c0_1 : Nat) (l0_1 : List (S73)) (r : Bool) (w : World) (hr0_1 : Kd.C k73 w A0_1 l0_1.length l0_1) (hc0_1 : l0_1.length ≤ c0_1) (h : spec_FramesOk.f k a0_0 l0_1 = some r) :
  Calls Try.prog 30 #[.agg #[.int .i64 a0_0, .slice A0_1 l0_1.length c0_1]] w fun e w' => e = .returned (.bool r) ∧ Below w.heap.size w w' := by
 have hu50 := Try.underlying50
 have hu73 := Try.underlying73
 have HR0_1 := Aside0.mk hr0_1
 have HC0_1 := Aside0.mk hc0_1
 clear hr0_1 hc0_1
 have HB := Aside0.mk (Below.refl w.heap.size w)
 have H : (if a0_0 < 0 then (spec_FramesOk.j0 k true a0_0 l0_1) else (spec_FramesOk.j0 k (decide (a0_0 > 1024)) a0_0 l0_1)) = some r := h
 clear h
 have HC2 := Aside0.mk H
 clear H
 go_enter Try.func30, Try.ntmps30
 go_upto_region 1 with (first | ((with_reducible refine gate_dst (N := 1) rfl ?_); refine box_event ?hg (N := 1) ?hd (cs := #[.int .i64 a0_0, .slice A0_1 l0_1.length c0_1]) (t := 50) ?hr ?_; (case hd => rfl); (case hg => rfl); (case hr => exact Z2_13); intro gb103 hg w3 hbox hb; have n0_ := Aside0.mk (below_step Z2_1 hb); have n1_ := Aside0.mk (hbox); have n2_ := Aside0.mk ((Z2_10 : w.heap.size ≤ gb103)); have n3_ := Aside0.mk ((Z2_10 : w.heap.size ≤ gb103)); clear HB; have HB := n0_; have BK103 := n1_; have GW103 := n2_; have GE103 := n3_; clear n0_ n1_ n2_ n3_; clear hb hbox hg))
 repeat (go_quiet (first | ((with_reducible refine gate_dst (N := 1) rfl ?_); refine box_event ?hg (N := 1) ?hd (cs := #[.int .i64 a0_0, .slice A0_1 l0_1.length c0_1]) (t := 50) ?hr ?_; (case hd => rfl); (case hg => rfl); (case hr => exact Z2_13); intro gb103 hg w3 hbox hb; have n0_ := Aside0.mk (below_step Z2_1 hb); have n1_ := Aside0.mk (hbox); have n2_ := Aside0.mk ((Z2_10 : w.heap.size ≤ gb103)); have n3_ := Aside0.mk ((Z2_10 : w.heap.size ≤ gb103)); clear HB; have HB := n0_; have BK103 := n1_; have GW103 := n2_; have GE103 := n3_; clear n0_ n1_ n2_ n3_; clear hb hbox hg)); go_upto_region 1 with (first | ((with_reducible refine gate_dst (N := 1) rfl ?_); refine box_event ?hg (N := 1) ?hd (cs := #[.int .i64 a0_0, .slice A0_1 l0_1.length c0_1]) (t := 50) ?hr ?_; (case hd => rfl); (case hg => rfl); (case hr => exact Z2_13); intro gb103 hg w3 hbox hb; have n0_ := Aside0.mk (below_step Z2_1 hb); have n1_ := Aside0.mk (hbox); have n2_ := Aside0.mk ((Z2_10 : w.heap.size ≤ gb103)); have n3_ := Aside0.mk ((Z2_10 : w.heap.size ≤ gb103)); clear HB; have HB := n0_; have BK103 := n1_; have GW103 := n2_; have GE103 := n3_; clear n0_ n1_ n2_ n3_; clear hb hbox hg)))
 (try simp only [Act.put, List.setIfInBounds_toArray, List.set_cons_zero, List.set_cons_succ])
 go_cut [14] (fun v14 wc => ∃ (kq : Nat) (x14_1 : Bool), v14 = .bool x14_1 ∧ Aside0 (spec_FramesOk.j0 kq x14_1 a0_0 l0_1 = some r) ∧ Aside0 (kq ≤ k) ∧ Aside0 (wc.heap[gb103]? = some (.cells #[.int .i64 a0_0, (.slice A0_1 l0_1.length c0_1)] 50 (0, 0))) ∧ Aside0 (Below w.heap.size w wc))
 case first =>
  have H := HC2.out
  clear HC2
  by_cases c4 : a0_0 < 0
  ·rw [if_pos c4] at H
   have c4b0 : decide (a0_0 < 0) = true := decide_eq_true c4
   clear c4
   (first | rw [c4b0] | (simp only [i64_w, i32_w]; rw [c4b0]) | skip)
   have H' := Aside0.mk H
   clear H
   have hcz5_0 : w3.cell? ⟨gb103, 0, none⟩ = some (.int .i64 a0_0) := (blk_cell BK103.out 0).trans rfl
   have hcz5_1 : w3.cell? ⟨gb103, 1, none⟩ = some (.slice A0_1 l0_1.length c0_1) := (blk_cell BK103.out 1).trans rfl
   have hfz5_0 := blk_frozen BK103.out 0
   have hfz5_1 := blk_frozen BK103.out 1
   go_wp2
   repeat (go_quiet (fail); try go_wp2)
   go_meet
   case rel => exact ⟨_, (true), Z2_7, H', ⟨by first | omega | exact Nat.le_refl _⟩, ⟨Z2_6⟩, ⟨Z2_3⟩⟩
  rw [if_neg c4] at H
  have c4b0 : decide (a0_0 < 0) = false := decide_eq_false c4
  clear c4
  (first | rw [c4b0] | (simp only [i64_w, i32_w]; rw [c4b0]) | skip)
  have H' := Aside0.mk H
  clear H
  have hcz6_0 : w3.cell? ⟨gb103, 0, none⟩ = some (.int .i64 a0_0) := (blk_cell BK103.out 0).trans rfl
  have hcz6_1 : w3.cell? ⟨gb103, 1, none⟩ = some (.slice A0_1 l0_1.length c0_1) := (blk_cell BK103.out 1).trans rfl
  have hfz6_0 := blk_frozen BK103.out 0
  have hfz6_1 := blk_frozen BK103.out 1
  go_wp2
  repeat (go_quiet (fail); try go_wp2)
  go_meet
  case rel => exact ⟨_, (decide (a0_0 > 1024)), Z2_7, H', ⟨by first | omega | exact Nat.le_refl _⟩, ⟨Z2_6⟩, ⟨Z2_3⟩⟩
 clear HC2
 try clear p2
 try clear c3
 try clear c4
 try clear c4b0
 try clear hcz5_0
 try clear hcz5_1
 try clear hcz6_0
 try clear hcz6_1
 try clear hfz5_0
 try clear hfz5_1
 try clear hfz6_0
 try clear hfz6_1
 obtain ⟨kq, x14_1, rfl, HA, HJ1, BK103, HB⟩ := hcut
 cases kq with
 | zero => exact absurd HA.out (by simp [spec_FramesOk.j0])
 | succ kj1 =>
  have H := HA.out
  clear HA
  simp only [spec_FramesOk.j0] at H
  by_cases c7 : x14_1 = true
  ·subst c7
   have H1 : (some false) = some r := by rw [if_pos rfl] at H; exact H
   clear H
   have H := H1
   clear H1
   obtain rfl := Option.some.inj H
   go_wp2
   repeat (go_quiet (fail); try go_wp2)
   go_ret
   exact ⟨Z2_9, Z2_3⟩
  replace c7 := Bool.eq_false_iff.mpr c7
  subst c7
  have H1 : (spec_FramesOk.l0 kj1 0 0 a0_0 l0_1) = some r := by rw [if_neg (show ¬ (false = true) by decide)] at H; exact H
  clear H
  have H := H1
  clear H1
  have H' := Aside0.mk H
  clear H
  go_wp2
  repeat (go_quiet (fail); try go_wp2)
  go_loopg [3, 4] kj1 (fun kq v3 v4 w' => ∃ (x3_2 : Int) (x4_2 : Int), v3 = .int .i64 x3_2 ∧ v4 = .int .i64 x4_2 ∧ Aside0 (spec_FramesOk.l0 kq x3_2 x4_2 a0_0 l0_1 = some r) ∧ Aside0 (kq ≤ kj1) ∧ Aside0 (w'.heap[gb103]? = some (.cells #[.int .i64 a0_0, (.slice A0_1 l0_1.length c0_1)] 50 (0, 0))) ∧ Aside0 (Below w.heap.size w w'))
  case atStart => exact ⟨(0), (0), Z2_7, Z2_7, H', ⟨Nat.le_refl _⟩, ⟨Z2_6⟩, ⟨Z2_3⟩⟩
  clear H'
  try clear p2
  try clear c3
  try clear c4
  try clear c4b0
  try clear c7
  try clear hcz5_0
  try clear hcz5_1
  try clear hcz6_0
  try clear hcz6_1
  try clear hfz5_0
  try clear hfz5_1
  try clear hfz6_0
  try clear hfz6_1
  try clear p2
  obtain ⟨x3_2, x4_2, rfl, rfl, HA, HK2, BK103, HB⟩ := hrel
  cases gk with
  | zero => exact absurd HA.out (by simp [spec_FramesOk.l0])
  | succ k2 =>
   have H := HA.out
   clear HA
   simp only [spec_FramesOk.l0] at H
   by_cases c8 : x4_2 < (l0_1.length : Int)
   ·rw [if_pos c8] at H
    have c8b0 : decide (x4_2 < (l0_1.length : Int)) = true := decide_eq_true c8
    clear c8
    by_cases c9 : 0 ≤ x4_2
    ·rw [if_pos c9] at H
     have c9b0 : decide (0 ≤ x4_2) = true := decide_eq_true c9
     clear c9
     have HC10 := Aside0.mk H
     clear H
     have hcz11_0 : wr.cell? ⟨gb103, 0, none⟩ = some (.int .i64 a0_0) := (blk_cell BK103.out 0).trans rfl
     have hcz11_1 : wr.cell? ⟨gb103, 1, none⟩ = some (.slice A0_1 l0_1.length c0_1) := (blk_cell BK103.out 1).trans rfl
     have hfz11_0 := blk_frozen BK103.out 0
     have hfz11_1 := blk_frozen BK103.out 1
     have p104 : 0 ≤ (x4_2 : Int) := of_decide_eq_true Z2_5
     have q104 : x4_2 < (l0_1.length : Int) := of_decide_eq_true Z2_5
     obtain ⟨ad104, e104, hx104_0, hx104_1⟩ := at_T73 HR0_1.out x4_2 p104 q104
     cases e104
     replace hx104_0 := (HB.out.cell (World.block_lt_of_cell? w _ hx104_0)).trans hx104_0
     replace hx104_1 := (HB.out.cell (World.block_lt_of_cell? w _ hx104_1)).trans hx104_1
     replace p104 := eq_true p104
     replace q104 := eq_true q104
     go_upto_region 8 with (first | ((with_reducible refine gate_dst (N := 5) rfl ?_); refine box_event ?hg (N := 5) ?hd (cs := #[.int .i64 0, .int .i64 0]) (t := 73) ?hr ?_; (case hd => rfl); (case hg => rfl); (case hr => exact Z2_13); intro gb105 hg w12 hbox hb; have n0_ := Aside0.mk (blk_below (g := gb103) (o := .cells #[.int .i64 a0_0, .slice (some ad104) l0_1.length c0_1] 50 (0, 0)) Z2_6 hb); have n1_ := Aside0.mk (below_step Z2_3 hb); have n2_ := Aside0.mk (hbox); have n3_ := Aside0.mk ((Z2_20 : w.heap.size ≤ gb105)); have n4_ := Aside0.mk ((Z2_20 : w.heap.size ≤ gb105)); have n5_ := Aside0.mk ((Z2_15 : gb103 ≠ gb105)); have n6_ := Aside0.mk ((Z2_16 : gb105 ≠ gb103)); clear BK103; clear HB; have BK103 := n0_; have HB := n1_; have BK105 := n2_; have GW105 := n3_; have GE105 := n4_; have NB103_105 := n5_; have NB105_103 := n6_; clear n0_ n1_ n2_ n3_ n4_ n5_ n6_; clear hb hbox hg; have hnb13 := NB105_103.out; have hnc13 := NB103_105.out; have hcz14_0 : w12.cell? ⟨gb105, 0, none⟩ = some (.int .i64 0) := (blk_cell BK105.out 0).trans rfl; have hcz14_1 : w12.cell? ⟨gb105, 1, none⟩ = some (.int .i64 0) := (blk_cell BK105.out 1).trans rfl; have hfz14_0 := blk_frozen BK105.out 0; have hfz14_1 := blk_frozen BK105.out 1))
     repeat (go_quiet (first | ((with_reducible refine gate_dst (N := 5) rfl ?_); refine box_event ?hg (N := 5) ?hd (cs := #[.int .i64 0, .int .i64 0]) (t := 73) ?hr ?_; (case hd => rfl); (case hg => rfl); (case hr => exact Z2_13); intro gb105 hg w12 hbox hb; have n0_ := Aside0.mk (blk_below (g := gb103) (o := .cells #[.int .i64 a0_0, .slice (some ad104) l0_1.length c0_1] 50 (0, 0)) Z2_6 hb); have n1_ := Aside0.mk (below_step Z2_3 hb); have n2_ := Aside0.mk (hbox); have n3_ := Aside0.mk ((Z2_20 : w.heap.size ≤ gb105)); have n4_ := Aside0.mk ((Z2_20 : w.heap.size ≤ gb105)); have n5_ := Aside0.mk ((Z2_15 : gb103 ≠ gb105)); have n6_ := Aside0.mk ((Z2_16 : gb105 ≠ gb103)); clear BK103; clear HB; have BK103 := n0_; have HB := n1_; have BK105 := n2_; have GW105 := n3_; have GE105 := n4_; have NB103_105 := n5_; have NB105_103 := n6_; clear n0_ n1_ n2_ n3_ n4_ n5_ n6_; clear hb hbox hg; have hnb13 := NB105_103.out; have hnc13 := NB103_105.out; have hcz14_0 : w12.cell? ⟨gb105, 0, none⟩ = some (.int .i64 0) := (blk_cell BK105.out 0).trans rfl; have hcz14_1 : w12.cell? ⟨gb105, 1, none⟩ = some (.int .i64 0) := (blk_cell BK105.out 1).trans rfl; have hfz14_0 := blk_frozen BK105.out 0; have hfz14_1 := blk_frozen BK105.out 1)); go_upto_region 8 with (first | ((with_reducible refine gate_dst (N := 5) rfl ?_); refine box_event ?hg (N := 5) ?hd (cs := #[.int .i64 0, .int .i64 0]) (t := 73) ?hr ?_; (case hd => rfl); (case hg => rfl); (case hr => exact Z2_13); intro gb105 hg w12 hbox hb; have n0_ := Aside0.mk (blk_below (g := gb103) (o := .cells #[.int .i64 a0_0, .slice (some ad104) l0_1.length c0_1] 50 (0, 0)) Z2_6 hb); have n1_ := Aside0.mk (below_step Z2_3 hb); have n2_ := Aside0.mk (hbox); have n3_ := Aside0.mk ((Z2_20 : w.heap.size ≤ gb105)); have n4_ := Aside0.mk ((Z2_20 : w.heap.size ≤ gb105)); have n5_ := Aside0.mk ((Z2_15 : gb103 ≠ gb105)); have n6_ := Aside0.mk ((Z2_16 : gb105 ≠ gb103)); clear BK103; clear HB; have BK103 := n0_; have HB := n1_; have BK105 := n2_; have GW105 := n3_; have GE105 := n4_; have NB103_105 := n5_; have NB105_103 := n6_; clear n0_ n1_ n2_ n3_ n4_ n5_ n6_; clear hb hbox hg; have hnb13 := NB105_103.out; have hnc13 := NB103_105.out; have hcz14_0 : w12.cell? ⟨gb105, 0, none⟩ = some (.int .i64 0) := (blk_cell BK105.out 0).trans rfl; have hcz14_1 : w12.cell? ⟨gb105, 1, none⟩ = some (.int .i64 0) := (blk_cell BK105.out 1).trans rfl; have hfz14_0 := blk_frozen BK105.out 0; have hfz14_1 := blk_frozen BK105.out 1)))
     (try simp only [Act.put, List.setIfInBounds_toArray, List.set_cons_zero, List.set_cons_succ])
     go_cut [37] (fun v37 wc => ∃ (kq : Nat) (x37_9 : Bool), v37 = .bool x37_9 ∧ Aside0 (spec_FramesOk.j2 kq x3_2 x4_2 x37_9 a0_0 l0_1 ((rd_T73 l0_1 x4_2).f0) ((rd_T73 l0_1 x4_2).f1) = some r) ∧ Aside0 (kq ≤ k2) ∧ Aside0 (wc.heap[gb103]? = some (.cells #[.int .i64 a0_0, (.slice (some ad104) l0_1.length c0_1)] 50 (0, 0))) ∧ Aside0 (wc.heap[gb105]? = some (.cells #[.int .i64 ((rd_T73 l0_1 x4_2).f0), .int .i64 ((rd_T73 l0_1 x4_2).f1)] 73 (0, 0))) ∧ Aside0 (Below w.heap.size w wc))
     case first =>
      have H := HC10.out
      clear HC10
      replace H := Option.bind_eq_some_iff.mp H
      obtain ⟨t106, A150, H⟩ := H
      replace H : (if t106 = true then (spec_FramesOk.j2 k2 x3_2 x4_2 (decide (((rd_T73 l0_1 x4_2).f0) < x3_2)) a0_0 l0_1 ((rd_T73 l0_1 x4_2).f0) ((rd_T73 l0_1 x4_2).f1)) else (spec_FramesOk.j2 k2 x3_2 x4_2 true a0_0 l0_1 ((rd_T73 l0_1 x4_2).f0) ((rd_T73 l0_1 x4_2).f1))) = some r := H
      have A15 := Aside0.mk A150
      clear A150
      by_cases c16 : t106 = true
      ·subst c16
       have H1 : (spec_FramesOk.j2 k2 x3_2 x4_2 (decide (((rd_T73 l0_1 x4_2).f0) < x3_2)) a0_0 l0_1 ((rd_T73 l0_1 x4_2).f0) ((rd_T73 l0_1 x4_2).f1)) = some r := by rw [if_pos rfl] at H; exact H
       clear H
       have H := H1
       clear H1
       have H' := Aside0.mk H
       clear H
       have hnb17 := NB103_105.out
       have hnc17 := NB105_103.out
       have hcz18_0 : w12.cell? ⟨gb103, 0, none⟩ = some (.int .i64 a0_0) := (blk_cell BK103.out 0).trans rfl
       have hcz18_1 : w12.cell? ⟨gb103, 1, none⟩ = some (.slice (some ad104) l0_1.length c0_1) := (blk_cell BK103.out 1).trans rfl
       have hfz18_0 := blk_frozen BK103.out 0
       have hfz18_1 := blk_frozen BK103.out 1
       have hcz19_0 : w12.cell? ⟨gb105, 0, none⟩ = some (.int .i64 0) := (blk_cell BK105.out 0).trans rfl
       have hcz19_1 : w12.cell? ⟨gb105, 1, none⟩ = some (.int .i64 0) := (blk_cell BK105.out 1).trans rfl
       have hfz19_0 := blk_frozen BK105.out 0
       have hfz19_1 := blk_frozen BK105.out 1
       go_wp2_with (first | (go_at_call 71; (with_reducible refine (spec_l8Block.calls k2 a0_0 ((rd_T73 l0_1 x4_2).f0) ((rd_T73 l0_1 x4_2).f1) true _ A15.out).mono ?_); rintro e w20 ⟨rfl, hb⟩; have n0_ := Aside0.mk (blk_below (g := gb103) (o := .cells #[.int .i64 a0_0, .slice (some ad104) l0_1.length c0_1] 50 (0, 0)) Z2_8 hb); have n1_ := Aside0.mk (blk_below (g := gb105) (o := .cells #[.int .i64 ((rd_T73 l0_1 x4_2).f0), .int .i64 ((rd_T73 l0_1 x4_2).f1)] 73 (0, 0)) Z2_4 hb); have n2_ := Aside0.mk (below_step Z2_2 hb); clear BK103; clear BK105; clear HB; have BK103 := n0_; have BK105 := n1_; have HB := n2_; clear n0_ n1_ n2_; (try clear hb); (try clear hb2); (try clear hk); (try clear hi); have hcz21_0 : w20.cell? ⟨gb105, 0, none⟩ = some (.int .i64 ((rd_T73 l0_1 x4_2).f0)) := (blk_cell BK105.out 0).trans rfl; have hcz21_1 : w20.cell? ⟨gb105, 1, none⟩ = some (.int .i64 ((rd_T73 l0_1 x4_2).f1)) := (blk_cell BK105.out 1).trans rfl; have hfz21_0 := blk_frozen BK105.out 0; have hfz21_1 := blk_frozen BK105.out 1))
       repeat (go_quiet (first | (go_at_call 71; (with_reducible refine (spec_l8Block.calls k2 a0_0 ((rd_T73 l0_1 x4_2).f0) ((rd_T73 l0_1 x4_2).f1) true _ A15.out).mono ?_); rintro e w20 ⟨rfl, hb⟩; have n0_ := Aside0.mk (blk_below (g := gb103) (o := .cells #[.int .i64 a0_0, .slice (some ad104) l0_1.length c0_1] 50 (0, 0)) Z2_8 hb); have n1_ := Aside0.mk (blk_below (g := gb105) (o := .cells #[.int .i64 ((rd_T73 l0_1 x4_2).f0), .int .i64 ((rd_T73 l0_1 x4_2).f1)] 73 (0, 0)) Z2_4 hb); have n2_ := Aside0.mk (below_step Z2_2 hb); clear BK103; clear BK105; clear HB; have BK103 := n0_; have BK105 := n1_; have HB := n2_; clear n0_ n1_ n2_; (try clear hb); (try clear hb2); (try clear hk); (try clear hi); have hcz21_0 : w20.cell? ⟨gb105, 0, none⟩ = some (.int .i64 ((rd_T73 l0_1 x4_2).f0)) := (blk_cell BK105.out 0).trans rfl; have hcz21_1 : w20.cell? ⟨gb105, 1, none⟩ = some (.int .i64 ((rd_T73 l0_1 x4_2).f1)) := (blk_cell BK105.out 1).trans rfl; have hfz21_0 := blk_frozen BK105.out 0; have hfz21_1 := blk_frozen BK105.out 1)); try go_wp2_with (first | (go_at_call 71; (with_reducible refine (spec_l8Block.calls k2 a0_0 ((rd_T73 l0_1 x4_2).f0) ((rd_T73 l0_1 x4_2).f1) true _ A15.out).mono ?_); rintro e w20 ⟨rfl, hb⟩; have n0_ := Aside0.mk (blk_below (g := gb103) (o := .cells #[.int .i64 a0_0, .slice (some ad104) l0_1.length c0_1] 50 (0, 0)) Z2_8 hb); have n1_ := Aside0.mk (blk_below (g := gb105) (o := .cells #[.int .i64 ((rd_T73 l0_1 x4_2).f0), .int .i64 ((rd_T73 l0_1 x4_2).f1)] 73 (0, 0)) Z2_4 hb); have n2_ := Aside0.mk (below_step Z2_2 hb); clear BK103; clear BK105; clear HB; have BK103 := n0_; have BK105 := n1_; have HB := n2_; clear n0_ n1_ n2_; (try clear hb); (try clear hb2); (try clear hk); (try clear hi); have hcz21_0 : w20.cell? ⟨gb105, 0, none⟩ = some (.int .i64 ((rd_T73 l0_1 x4_2).f0)) := (blk_cell BK105.out 0).trans rfl; have hcz21_1 : w20.cell? ⟨gb105, 1, none⟩ = some (.int .i64 ((rd_T73 l0_1 x4_2).f1)) := (blk_cell BK105.out 1).trans rfl; have hfz21_0 := blk_frozen BK105.out 0; have hfz21_1 := blk_frozen BK105.out 1)))
       go_meet
       case rel => exact ⟨_, (decide (((rd_T73 l0_1 x4_2).f0) < x3_2)), Z2_7, H', ⟨by have := HJ1.out; have := HK2.out; first | omega | exact Nat.le_refl _⟩, ⟨Z2_6⟩, ⟨by (with_reducible repeat (first | apply blk_drewN | apply blk_drew | apply blk_alloc)); exact BK105.out⟩, ⟨Z2_2⟩⟩
      replace c16 := Bool.eq_false_iff.mpr c16
      subst c16
      have H1 : (spec_FramesOk.j2 k2 x3_2 x4_2 true a0_0 l0_1 ((rd_T73 l0_1 x4_2).f0) ((rd_T73 l0_1 x4_2).f1)) = some r := by rw [if_neg (show ¬ (false = true) by decide)] at H; exact H
      clear H
      have H := H1
      clear H1
      have H' := Aside0.mk H
      clear H
      have hnb22 := NB103_105.out
      have hnc22 := NB105_103.out
      have hcz23_0 : w12.cell? ⟨gb103, 0, none⟩ = some (.int .i64 a0_0) := (blk_cell BK103.out 0).trans rfl
      have hcz23_1 : w12.cell? ⟨gb103, 1, none⟩ = some (.slice (some ad104) l0_1.length c0_1) := (blk_cell BK103.out 1).trans rfl
      have hfz23_0 := blk_frozen BK103.out 0
      have hfz23_1 := blk_frozen BK103.out 1
      have hcz24_0 : w12.cell? ⟨gb105, 0, none⟩ = some (.int .i64 0) := (blk_cell BK105.out 0).trans rfl
      have hcz24_1 : w12.cell? ⟨gb105, 1, none⟩ = some (.int .i64 0) := (blk_cell BK105.out 1).trans rfl
      have hfz24_0 := blk_frozen BK105.out 0
      have hfz24_1 := blk_frozen BK105.out 1
      go_wp2_with (first | (go_at_call 71; (with_reducible refine (spec_l8Block.calls k2 a0_0 ((rd_T73 l0_1 x4_2).f0) ((rd_T73 l0_1 x4_2).f1) false _ A15.out).mono ?_); rintro e w25 ⟨rfl, hb⟩; have n0_ := Aside0.mk (blk_below (g := gb103) (o := .cells #[.int .i64 a0_0, .slice (some ad104) l0_1.length c0_1] 50 (0, 0)) Z2_8 hb); have n1_ := Aside0.mk (blk_below (g := gb105) (o := .cells #[.int .i64 ((rd_T73 l0_1 x4_2).f0), .int .i64 ((rd_T73 l0_1 x4_2).f1)] 73 (0, 0)) Z2_4 hb); have n2_ := Aside0.mk (below_step Z2_2 hb); clear BK103; clear BK105; clear HB; have BK103 := n0_; have BK105 := n1_; have HB := n2_; clear n0_ n1_ n2_; (try clear hb); (try clear hb2); (try clear hk); (try clear hi)))
      repeat (go_quiet (first | (go_at_call 71; (with_reducible refine (spec_l8Block.calls k2 a0_0 ((rd_T73 l0_1 x4_2).f0) ((rd_T73 l0_1 x4_2).f1) false _ A15.out).mono ?_); rintro e w25 ⟨rfl, hb⟩; have n0_ := Aside0.mk (blk_below (g := gb103) (o := .cells #[.int .i64 a0_0, .slice (some ad104) l0_1.length c0_1] 50 (0, 0)) Z2_8 hb); have n1_ := Aside0.mk (blk_below (g := gb105) (o := .cells #[.int .i64 ((rd_T73 l0_1 x4_2).f0), .int .i64 ((rd_T73 l0_1 x4_2).f1)] 73 (0, 0)) Z2_4 hb); have n2_ := Aside0.mk (below_step Z2_2 hb); clear BK103; clear BK105; clear HB; have BK103 := n0_; have BK105 := n1_; have HB := n2_; clear n0_ n1_ n2_; (try clear hb); (try clear hb2); (try clear hk); (try clear hi))); try go_wp2_with (first | (go_at_call 71; (with_reducible refine (spec_l8Block.calls k2 a0_0 ((rd_T73 l0_1 x4_2).f0) ((rd_T73 l0_1 x4_2).f1) false _ A15.out).mono ?_); rintro e w25 ⟨rfl, hb⟩; have n0_ := Aside0.mk (blk_below (g := gb103) (o := .cells #[.int .i64 a0_0, .slice (some ad104) l0_1.length c0_1] 50 (0, 0)) Z2_8 hb); have n1_ := Aside0.mk (blk_below (g := gb105) (o := .cells #[.int .i64 ((rd_T73 l0_1 x4_2).f0), .int .i64 ((rd_T73 l0_1 x4_2).f1)] 73 (0, 0)) Z2_4 hb); have n2_ := Aside0.mk (below_step Z2_2 hb); clear BK103; clear BK105; clear HB; have BK103 := n0_; have BK105 := n1_; have HB := n2_; clear n0_ n1_ n2_; (try clear hb); (try clear hb2); (try clear hk); (try clear hi))))
      go_meet
      case rel => exact ⟨_, (true), Z2_7, H', ⟨by have := HJ1.out; have := HK2.out; first | omega | exact Nat.le_refl _⟩, ⟨Z2_6⟩, ⟨by (with_reducible repeat (first | apply blk_drewN | apply blk_drew | apply blk_alloc)); exact BK105.out⟩, ⟨Z2_2⟩⟩
     clear HC10
     try clear c1
     try clear p1
     try clear q1
     try clear hx1
     try clear c2
     try clear p2
     try clear c3
     try clear c4
     try clear c4b0
     try clear c7
     try clear c8
     try clear c8b0
     try clear c9
     try clear c9b0
     try clear p10
     try clear q10
     try clear hx10
     try clear c13
     try clear c16
     try clear c17
     try clear c22
     try clear hcz11_0
     try clear hcz11_1
     try clear hcz14_0
     try clear hcz14_1
     try clear hcz18_0
     try clear hcz18_1
     try clear hcz19_0
     try clear hcz19_1
     try clear hcz21_0
     try clear hcz21_1
     try clear hcz23_0
     try clear hcz23_1
     try clear hcz24_0
     try clear hcz24_1
     try clear hcz5_0
     try clear hcz5_1
     try clear hcz6_0
     try clear hcz6_1
     try clear hfz11_0
     try clear hfz11_1
     try clear hfz14_0
     try clear hfz14_1
     try clear hfz18_0
     try clear hfz18_1
     try clear hfz19_0
     try clear hfz19_1
     try clear hfz21_0
     try clear hfz21_1
     try clear hfz23_0
     try clear hfz23_1
     try clear hfz24_0
     try clear hfz24_1
     try clear hfz5_0
     try clear hfz5_1
     try clear hfz6_0
     try clear hfz6_1
     try clear hx104_0
     try clear hx104_1
     try clear p104
     try clear p2
     try clear q104
     obtain ⟨kq, x37_9, rfl, HA, HJ9, BK103, BK105, HB⟩ := hcut
     cases kq with
     | zero => exact absurd HA.out (by simp [spec_FramesOk.j2])
     | succ kj9 =>
      have H := HA.out
      clear HA
      simp only [spec_FramesOk.j2] at H
      by_cases c26 : x37_9 = true
      ·subst c26
       have H1 : (some false) = some r := by rw [if_pos rfl] at H; exact H
       clear H
       have H := H1
       clear H1
       obtain rfl := Option.some.inj H
       go_wp2
       repeat (go_quiet (fail); try go_wp2)
       go_ret
       exact ⟨Z2_9, Z2_2⟩
      replace c26 := Bool.eq_false_iff.mpr c26
      subst c26
      have H1 : ((spec_l8Len.f kj9 ((rd_T73 l0_1 x4_2).f1)).bind fun t107 => (if x4_2 > 0 then (if 0 ≤ (wrap64 (x4_2 - 1)) then (if (wrap64 (x4_2 - 1)) < (l0_1.length : Int) then (if ((rd_T73 l0_1 (wrap64 (x4_2 - 1))).f1) = ((rd_T73 l0_1 x4_2).f1) then (if ((rd_T73 l0_1 x4_2).f1) < 10 then (if ((rd_T73 l0_1 x4_2).f0) = x3_2 then (if (wrap64 (2 * t107)) = 0 then (none) else (if (Int.tmod ((rd_T73 l0_1 (wrap64 (x4_2 - 1))).f0) (wrap64 (2 * t107))) = 0 then (some false) else (spec_FramesOk.l0 kj9 (wrap64 (((rd_T73 l0_1 x4_2).f0) + t107)) (wrap64 (x4_2 + 1)) a0_0 l0_1))) else (spec_FramesOk.l0 kj9 (wrap64 (((rd_T73 l0_1 x4_2).f0) + t107)) (wrap64 (x4_2 + 1)) a0_0 l0_1)) else (spec_FramesOk.l0 kj9 (wrap64 (((rd_T73 l0_1 x4_2).f0) + t107)) (wrap64 (x4_2 + 1)) a0_0 l0_1)) else (spec_FramesOk.l0 kj9 (wrap64 (((rd_T73 l0_1 x4_2).f0) + t107)) (wrap64 (x4_2 + 1)) a0_0 l0_1)) else (none)) else (none)) else (spec_FramesOk.l0 kj9 (wrap64 (((rd_T73 l0_1 x4_2).f0) + t107)) (wrap64 (x4_2 + 1)) a0_0 l0_1))) = some r := by rw [if_neg (show ¬ (false = true) by decide)] at H; exact H
      clear H
      have H := H1
      clear H1
      replace H := Option.bind_eq_some_iff.mp H
      obtain ⟨t107, A270, H⟩ := H
      replace H : (if x4_2 > 0 then (if 0 ≤ (wrap64 (x4_2 - 1)) then (if (wrap64 (x4_2 - 1)) < (l0_1.length : Int) then (if ((rd_T73 l0_1 (wrap64 (x4_2 - 1))).f1) = ((rd_T73 l0_1 x4_2).f1) then (if ((rd_T73 l0_1 x4_2).f1) < 10 then (if ((rd_T73 l0_1 x4_2).f0) = x3_2 then (if (wrap64 (2 * t107)) = 0 then (none) else (if (Int.tmod ((rd_T73 l0_1 (wrap64 (x4_2 - 1))).f0) (wrap64 (2 * t107))) = 0 then (some false) else (spec_FramesOk.l0 kj9 (wrap64 (((rd_T73 l0_1 x4_2).f0) + t107)) (wrap64 (x4_2 + 1)) a0_0 l0_1))) else (spec_FramesOk.l0 kj9 (wrap64 (((rd_T73 l0_1 x4_2).f0) + t107)) (wrap64 (x4_2 + 1)) a0_0 l0_1)) else (spec_FramesOk.l0 kj9 (wrap64 (((rd_T73 l0_1 x4_2).f0) + t107)) (wrap64 (x4_2 + 1)) a0_0 l0_1)) else (spec_FramesOk.l0 kj9 (wrap64 (((rd_T73 l0_1 x4_2).f0) + t107)) (wrap64 (x4_2 + 1)) a0_0 l0_1)) else (none)) else (none)) else (spec_FramesOk.l0 kj9 (wrap64 (((rd_T73 l0_1 x4_2).f0) + t107)) (wrap64 (x4_2 + 1)) a0_0 l0_1)) = some r := H
      have A27 := Aside0.mk A270
      clear A270
      by_cases c28 : x4_2 > 0
      ·rw [if_pos c28] at H
       have c28b0 : decide (0 < x4_2) = true := decide_eq_true c28
       clear c28
       obtain ⟨ji29, hji29⟩ : ∃ j_ : Int, (wrap64 (x4_2 - 1)) = j_ := ⟨_, rfl⟩
       replace H : (if 0 ≤ (ji29) then (if (ji29) < (l0_1.length : Int) then (if ((rd_T73 l0_1 (ji29)).f1) = ((rd_T73 l0_1 x4_2).f1) then (if ((rd_T73 l0_1 x4_2).f1) < 10 then (if ((rd_T73 l0_1 x4_2).f0) = x3_2 then (if (wrap64 (2 * t107)) = 0 then (none) else (if (Int.tmod ((rd_T73 l0_1 (ji29)).f0) (wrap64 (2 * t107))) = 0 then (some false) else (spec_FramesOk.l0 kj9 (wrap64 (((rd_T73 l0_1 x4_2).f0) + t107)) (wrap64 (x4_2 + 1)) a0_0 l0_1))) else (spec_FramesOk.l0 kj9 (wrap64 (((rd_T73 l0_1 x4_2).f0) + t107)) (wrap64 (x4_2 + 1)) a0_0 l0_1)) else (spec_FramesOk.l0 kj9 (wrap64 (((rd_T73 l0_1 x4_2).f0) + t107)) (wrap64 (x4_2 + 1)) a0_0 l0_1)) else (spec_FramesOk.l0 kj9 (wrap64 (((rd_T73 l0_1 x4_2).f0) + t107)) (wrap64 (x4_2 + 1)) a0_0 l0_1)) else (none)) else (none)) = some r := by first | (rw [hji29] at H; exact H) | (simp only [hji29] at H ⊢; exact H)
       (try rw [hji29] at A27)
       have hji29w : (IntKind.i64.wrap (x4_2 - 1)) = ji29 := (i64_w _).trans hji29
       by_cases c30 : 0 ≤ (ji29)
       ·rw [if_pos c30] at H
        have c30b0 : decide (0 ≤ (ji29)) = true := decide_eq_true c30
        clear c30
        by_cases c31 : (ji29) < (l0_1.length : Int)
        ·rw [if_pos c31] at H
         have c31b0 : decide ((ji29) < (l0_1.length : Int)) = true := decide_eq_true c31
         clear c31
         by_cases c32 : ((rd_T73 l0_1 (ji29)).f1) = ((rd_T73 l0_1 x4_2).f1)
         ·rw [if_pos c32] at H
          have c32b0 : (((rd_T73 l0_1 (ji29)).f1) == ((rd_T73 l0_1 x4_2).f1)) = true := beq_iff_eq.mpr c32
          have c32b1 : (((rd_T73 l0_1 (ji29)).f1) != ((rd_T73 l0_1 x4_2).f1)) = false := bne_eq_false_iff_eq.mpr c32
          clear c32
          by_cases c33 : ((rd_T73 l0_1 x4_2).f1) < 10
          ·rw [if_pos c33] at H
           have c33b0 : decide (((rd_T73 l0_1 x4_2).f1) < 10) = true := decide_eq_true c33
           clear c33
           by_cases c34 : ((rd_T73 l0_1 x4_2).f0) = x3_2
           ·rw [if_pos c34] at H
            have c34b0 : (((rd_T73 l0_1 x4_2).f0) == x3_2) = true := beq_iff_eq.mpr c34
            have c34b1 : (((rd_T73 l0_1 x4_2).f0) != x3_2) = false := bne_eq_false_iff_eq.mpr c34
            clear c34
            by_cases c35 : (wrap64 (2 * t107)) = 0
            ·rw [if_pos c35] at H
             exact absurd H (by simp)
            rw [if_neg c35] at H
            have c35b0 : ((wrap64 (2 * t107)) == 0) = false := beq_eq_false_iff_ne.mpr c35
            have c35b1 : ((wrap64 (2 * t107)) != 0) = true := bne_iff_ne.mpr c35
            by_cases c36 : (Int.tmod ((rd_T73 l0_1 (ji29)).f0) (wrap64 (2 * t107))) = 0
            ·rw [if_pos c36] at H
             have c36b0 : ((Int.tmod ((rd_T73 l0_1 (ji29)).f0) (wrap64 (2 * t107))) == 0) = true := beq_iff_eq.mpr c36
             have c36b1 : ((Int.tmod ((rd_T73 l0_1 (ji29)).f0) (wrap64 (2 * t107))) != 0) = false := bne_eq_false_iff_eq.mpr c36
             clear c36
             obtain rfl := Option.some.inj H
             have hnb37 := NB105_103.out
             have hnc37 := NB103_105.out
             have hcz38_0 : wc.cell? ⟨gb105, 0, none⟩ = some (.int .i64 ((rd_T73 l0_1 x4_2).f0)) := (blk_cell BK105.out 0).trans rfl
             have hcz38_1 : wc.cell? ⟨gb105, 1, none⟩ = some (.int .i64 ((rd_T73 l0_1 x4_2).f1)) := (blk_cell BK105.out 1).trans rfl
             have hfz38_0 := blk_frozen BK105.out 0
             have hfz38_1 := blk_frozen BK105.out 1
             go_wp2_with (first | (go_at_call 72; (with_reducible refine (spec_l8Len.calls kj9 ((rd_T73 l0_1 x4_2).f1) t107 _ A27.out).mono ?_); rintro e w' ⟨rfl, ⟨nd, rfl⟩⟩; (try first | exact ⟨rfl, _, World.drewN_drewN _ _ _⟩ | exact ⟨rfl, _, Eq.trans (World.drewN_drewN _ _ _) (congrArg (World.drewN _) (Nat.add_assoc _ _ _))⟩); have hcz39_0 : wc.cell? ⟨gb103, 0, none⟩ = some (.int .i64 a0_0) := (blk_cell BK103.out 0).trans rfl; have hcz39_1 : wc.cell? ⟨gb103, 1, none⟩ = some (.slice (some ad104) l0_1.length c0_1) := (blk_cell BK103.out 1).trans rfl; have hfz39_0 := blk_frozen BK103.out 0; have hfz39_1 := blk_frozen BK103.out 1; have p108 : 0 ≤ ((ji29) : Int) := of_decide_eq_true Z2_5; have q108 : (ji29) < (l0_1.length : Int) := of_decide_eq_true Z2_5; obtain ⟨ad108, e108, hx108_0, hx108_1⟩ := at_T73 HR0_1.out (ji29) p108 q108; obtain rfl : ad104 = ad108 := Z2_19; replace hx108_0 := (HB.out.cell (World.block_lt_of_cell? w _ hx108_0)).trans hx108_0; replace hx108_1 := (HB.out.cell (World.block_lt_of_cell? w _ hx108_1)).trans hx108_1; replace p108 := eq_true p108; replace q108 := eq_true q108; have p109 : 0 ≤ ((ji29) : Int) := of_decide_eq_true Z2_5; have q109 : (ji29) < (l0_1.length : Int) := of_decide_eq_true Z2_5; obtain ⟨ad109, e109, hx109_0, hx109_1⟩ := at_T73 HR0_1.out (ji29) p109 q109; obtain rfl : ad104 = ad109 := (by injection e109); replace hx109_0 := (HB.out.cell (World.block_lt_of_cell? w _ hx109_0)).trans hx109_0; replace hx109_1 := (HB.out.cell (World.block_lt_of_cell? w _ hx109_1)).trans hx109_1; replace p109 := eq_true p109; replace q109 := eq_true q109))
             repeat (go_quiet (first | (go_at_call 72; (with_reducible refine (spec_l8Len.calls kj9 ((rd_T73 l0_1 x4_2).f1) t107 _ A27.out).mono ?_); rintro e w' ⟨rfl, ⟨nd, rfl⟩⟩; (try first | exact ⟨rfl, _, World.drewN_drewN _ _ _⟩ | exact ⟨rfl, _, Eq.trans (World.drewN_drewN _ _ _) (congrArg (World.drewN _) (Nat.add_assoc _ _ _))⟩); have hcz39_0 : wc.cell? ⟨gb103, 0, none⟩ = some (.int .i64 a0_0) := (blk_cell BK103.out 0).trans rfl; have hcz39_1 : wc.cell? ⟨gb103, 1, none⟩ = some (.slice (some ad104) l0_1.length c0_1) := (blk_cell BK103.out 1).trans rfl; have hfz39_0 := blk_frozen BK103.out 0; have hfz39_1 := blk_frozen BK103.out 1; have p108 : 0 ≤ ((ji29) : Int) := of_decide_eq_true Z2_5; have q108 : (ji29) < (l0_1.length : Int) := of_decide_eq_true Z2_5; obtain ⟨ad108, e108, hx108_0, hx108_1⟩ := at_T73 HR0_1.out (ji29) p108 q108; obtain rfl : ad104 = ad108 := Z2_19; replace hx108_0 := (HB.out.cell (World.block_lt_of_cell? w _ hx108_0)).trans hx108_0; replace hx108_1 := (HB.out.cell (World.block_lt_of_cell? w _ hx108_1)).trans hx108_1; replace p108 := eq_true p108; replace q108 := eq_true q108; have p109 : 0 ≤ ((ji29) : Int) := of_decide_eq_true Z2_5; have q109 : (ji29) < (l0_1.length : Int) := of_decide_eq_true Z2_5; obtain ⟨ad109, e109, hx109_0, hx109_1⟩ := at_T73 HR0_1.out (ji29) p109 q109; obtain rfl : ad104 = ad109 := (by injection e109); replace hx109_0 := (HB.out.cell (World.block_lt_of_cell? w _ hx109_0)).trans hx109_0; replace hx109_1 := (HB.out.cell (World.block_lt_of_cell? w _ hx109_1)).trans hx109_1; replace p109 := eq_true p109; replace q109 := eq_true q109)); try go_wp2_with (first | (go_at_call 72; (with_reducible refine (spec_l8Len.calls kj9 ((rd_T73 l0_1 x4_2).f1) t107 _ A27.out).mono ?_); rintro e w' ⟨rfl, ⟨nd, rfl⟩⟩; (try first | exact ⟨rfl, _, World.drewN_drewN _ _ _⟩ | exact ⟨rfl, _, Eq.trans (World.drewN_drewN _ _ _) (congrArg (World.drewN _) (Nat.add_assoc _ _ _))⟩); have hcz39_0 : wc.cell? ⟨gb103, 0, none⟩ = some (.int .i64 a0_0) := (blk_cell BK103.out 0).trans rfl; have hcz39_1 : wc.cell? ⟨gb103, 1, none⟩ = some (.slice (some ad104) l0_1.length c0_1) := (blk_cell BK103.out 1).trans rfl; have hfz39_0 := blk_frozen BK103.out 0; have hfz39_1 := blk_frozen BK103.out 1; have p108 : 0 ≤ ((ji29) : Int) := of_decide_eq_true Z2_5; have q108 : (ji29) < (l0_1.length : Int) := of_decide_eq_true Z2_5; obtain ⟨ad108, e108, hx108_0, hx108_1⟩ := at_T73 HR0_1.out (ji29) p108 q108; obtain rfl : ad104 = ad108 := Z2_19; replace hx108_0 := (HB.out.cell (World.block_lt_of_cell? w _ hx108_0)).trans hx108_0; replace hx108_1 := (HB.out.cell (World.block_lt_of_cell? w _ hx108_1)).trans hx108_1; replace p108 := eq_true p108; replace q108 := eq_true q108; have p109 : 0 ≤ ((ji29) : Int) := of_decide_eq_true Z2_5; have q109 : (ji29) < (l0_1.length : Int) := of_decide_eq_true Z2_5; obtain ⟨ad109, e109, hx109_0, hx109_1⟩ := at_T73 HR0_1.out (ji29) p109 q109; obtain rfl : ad104 = ad109 := (by injection e109); replace hx109_0 := (HB.out.cell (World.block_lt_of_cell? w _ hx109_0)).trans hx109_0; replace hx109_1 := (HB.out.cell (World.block_lt_of_cell? w _ hx109_1)).trans hx109_1; replace p109 := eq_true p109; replace q109 := eq_true q109)))
             go_ret
             exact ⟨by first | rfl | (simp [errW_none, errW_some] <;> rfl) | (simp only [← hji29]; first | rfl | (simp [errW_none, errW_some] <;> rfl)) | (simp [*, errW_none, errW_some] <;> rfl), Z2_2⟩
            rw [if_neg c36] at H
            have c36b0 : ((Int.tmod ((rd_T73 l0_1 (ji29)).f0) (wrap64 (2 * t107))) == 0) = false := beq_eq_false_iff_ne.mpr c36
            have c36b1 : ((Int.tmod ((rd_T73 l0_1 (ji29)).f0) (wrap64 (2 * t107))) != 0) = true := bne_iff_ne.mpr c36
            have H' := Aside0.mk H
            clear H
            have hnb40 := NB105_103.out
            have hnc40 := NB103_105.out
            have hcz41_0 : wc.cell? ⟨gb105, 0, none⟩ = some (.int .i64 ((rd_T73 l0_1 x4_2).f0)) := (blk_cell BK105.out 0).trans rfl
            have hcz41_1 : wc.cell? ⟨gb105, 1, none⟩ = some (.int .i64 ((rd_T73 l0_1 x4_2).f1)) := (blk_cell BK105.out 1).trans rfl
            have hfz41_0 := blk_frozen BK105.out 0
            have hfz41_1 := blk_frozen BK105.out 1
            go_wp2_with (first | (go_at_call 72; (with_reducible refine (spec_l8Len.calls kj9 ((rd_T73 l0_1 x4_2).f1) t107 _ A27.out).mono ?_); rintro e w' ⟨rfl, ⟨nd, rfl⟩⟩; (try first | exact ⟨rfl, _, World.drewN_drewN _ _ _⟩ | exact ⟨rfl, _, Eq.trans (World.drewN_drewN _ _ _) (congrArg (World.drewN _) (Nat.add_assoc _ _ _))⟩); have hcz42_0 : wc.cell? ⟨gb103, 0, none⟩ = some (.int .i64 a0_0) := (blk_cell BK103.out 0).trans rfl; have hcz42_1 : wc.cell? ⟨gb103, 1, none⟩ = some (.slice (some ad104) l0_1.length c0_1) := (blk_cell BK103.out 1).trans rfl; have hfz42_0 := blk_frozen BK103.out 0; have hfz42_1 := blk_frozen BK103.out 1; have p108 : 0 ≤ ((ji29) : Int) := of_decide_eq_true Z2_5; have q108 : (ji29) < (l0_1.length : Int) := of_decide_eq_true Z2_5; obtain ⟨ad108, e108, hx108_0, hx108_1⟩ := at_T73 HR0_1.out (ji29) p108 q108; obtain rfl : ad104 = ad108 := Z2_19; replace hx108_0 := (HB.out.cell (World.block_lt_of_cell? w _ hx108_0)).trans hx108_0; replace hx108_1 := (HB.out.cell (World.block_lt_of_cell? w _ hx108_1)).trans hx108_1; replace p108 := eq_true p108; replace q108 := eq_true q108; have p109 : 0 ≤ ((ji29) : Int) := of_decide_eq_true Z2_5; have q109 : (ji29) < (l0_1.length : Int) := of_decide_eq_true Z2_5; obtain ⟨ad109, e109, hx109_0, hx109_1⟩ := at_T73 HR0_1.out (ji29) p109 q109; obtain rfl : ad104 = ad109 := (by injection e109); replace hx109_0 := (HB.out.cell (World.block_lt_of_cell? w _ hx109_0)).trans hx109_0; replace hx109_1 := (HB.out.cell (World.block_lt_of_cell? w _ hx109_1)).trans hx109_1; replace p109 := eq_true p109; replace q109 := eq_true q109))
            repeat (go_quiet (first | (go_at_call 72; (with_reducible refine (spec_l8Len.calls kj9 ((rd_T73 l0_1 x4_2).f1) t107 _ A27.out).mono ?_); rintro e w' ⟨rfl, ⟨nd, rfl⟩⟩; (try first | exact ⟨rfl, _, World.drewN_drewN _ _ _⟩ | exact ⟨rfl, _, Eq.trans (World.drewN_drewN _ _ _) (congrArg (World.drewN _) (Nat.add_assoc _ _ _))⟩); have hcz42_0 : wc.cell? ⟨gb103, 0, none⟩ = some (.int .i64 a0_0) := (blk_cell BK103.out 0).trans rfl; have hcz42_1 : wc.cell? ⟨gb103, 1, none⟩ = some (.slice (some ad104) l0_1.length c0_1) := (blk_cell BK103.out 1).trans rfl; have hfz42_0 := blk_frozen BK103.out 0; have hfz42_1 := blk_frozen BK103.out 1; have p108 : 0 ≤ ((ji29) : Int) := of_decide_eq_true Z2_5; have q108 : (ji29) < (l0_1.length : Int) := of_decide_eq_true Z2_5; obtain ⟨ad108, e108, hx108_0, hx108_1⟩ := at_T73 HR0_1.out (ji29) p108 q108; obtain rfl : ad104 = ad108 := Z2_19; replace hx108_0 := (HB.out.cell (World.block_lt_of_cell? w _ hx108_0)).trans hx108_0; replace hx108_1 := (HB.out.cell (World.block_lt_of_cell? w _ hx108_1)).trans hx108_1; replace p108 := eq_true p108; replace q108 := eq_true q108; have p109 : 0 ≤ ((ji29) : Int) := of_decide_eq_true Z2_5; have q109 : (ji29) < (l0_1.length : Int) := of_decide_eq_true Z2_5; obtain ⟨ad109, e109, hx109_0, hx109_1⟩ := at_T73 HR0_1.out (ji29) p109 q109; obtain rfl : ad104 = ad109 := (by injection e109); replace hx109_0 := (HB.out.cell (World.block_lt_of_cell? w _ hx109_0)).trans hx109_0; replace hx109_1 := (HB.out.cell (World.block_lt_of_cell? w _ hx109_1)).trans hx109_1; replace p109 := eq_true p109; replace q109 := eq_true q109)); try go_wp2_with (first | (go_at_call 72; (with_reducible refine (spec_l8Len.calls kj9 ((rd_T73 l0_1 x4_2).f1) t107 _ A27.out).mono ?_); rintro e w' ⟨rfl, ⟨nd, rfl⟩⟩; (try first | exact ⟨rfl, _, World.drewN_drewN _ _ _⟩ | exact ⟨rfl, _, Eq.trans (World.drewN_drewN _ _ _) (congrArg (World.drewN _) (Nat.add_assoc _ _ _))⟩); have hcz42_0 : wc.cell? ⟨gb103, 0, none⟩ = some (.int .i64 a0_0) := (blk_cell BK103.out 0).trans rfl; have hcz42_1 : wc.cell? ⟨gb103, 1, none⟩ = some (.slice (some ad104) l0_1.length c0_1) := (blk_cell BK103.out 1).trans rfl; have hfz42_0 := blk_frozen BK103.out 0; have hfz42_1 := blk_frozen BK103.out 1; have p108 : 0 ≤ ((ji29) : Int) := of_decide_eq_true Z2_5; have q108 : (ji29) < (l0_1.length : Int) := of_decide_eq_true Z2_5; obtain ⟨ad108, e108, hx108_0, hx108_1⟩ := at_T73 HR0_1.out (ji29) p108 q108; obtain rfl : ad104 = ad108 := Z2_19; replace hx108_0 := (HB.out.cell (World.block_lt_of_cell? w _ hx108_0)).trans hx108_0; replace hx108_1 := (HB.out.cell (World.block_lt_of_cell? w _ hx108_1)).trans hx108_1; replace p108 := eq_true p108; replace q108 := eq_true q108; have p109 : 0 ≤ ((ji29) : Int) := of_decide_eq_true Z2_5; have q109 : (ji29) < (l0_1.length : Int) := of_decide_eq_true Z2_5; obtain ⟨ad109, e109, hx109_0, hx109_1⟩ := at_T73 HR0_1.out (ji29) p109 q109; obtain rfl : ad104 = ad109 := (by injection e109); replace hx109_0 := (HB.out.cell (World.block_lt_of_cell? w _ hx109_0)).trans hx109_0; replace hx109_1 := (HB.out.cell (World.block_lt_of_cell? w _ hx109_1)).trans hx109_1; replace p109 := eq_true p109; replace q109 := eq_true q109)))
            go_roundg kj9
            case measure => have := HJ1.out; have := HK2.out; have := HJ9.out; omega
            case rel => exact ⟨(wrap64 (((rd_T73 l0_1 x4_2).f0) + t107)), (wrap64 (x4_2 + 1)), Z2_7, Z2_7, H', ⟨Z2_17⟩, ⟨Z2_6⟩, ⟨Z2_2⟩⟩
           rw [if_neg c34] at H
           have c34b0 : (((rd_T73 l0_1 x4_2).f0) == x3_2) = false := beq_eq_false_iff_ne.mpr c34
           have c34b1 : (((rd_T73 l0_1 x4_2).f0) != x3_2) = true := bne_iff_ne.mpr c34
           have H' := Aside0.mk H
           clear H
           have hnb43 := NB105_103.out
           have hnc43 := NB103_105.out
           have hcz44_0 : wc.cell? ⟨gb105, 0, none⟩ = some (.int .i64 ((rd_T73 l0_1 x4_2).f0)) := (blk_cell BK105.out 0).trans rfl
           have hcz44_1 : wc.cell? ⟨gb105, 1, none⟩ = some (.int .i64 ((rd_T73 l0_1 x4_2).f1)) := (blk_cell BK105.out 1).trans rfl
           have hfz44_0 := blk_frozen BK105.out 0
           have hfz44_1 := blk_frozen BK105.out 1
           go_wp2_with (first | (go_at_call 72; (with_reducible refine (spec_l8Len.calls kj9 ((rd_T73 l0_1 x4_2).f1) t107 _ A27.out).mono ?_); rintro e w' ⟨rfl, ⟨nd, rfl⟩⟩; (try first | exact ⟨rfl, _, World.drewN_drewN _ _ _⟩ | exact ⟨rfl, _, Eq.trans (World.drewN_drewN _ _ _) (congrArg (World.drewN _) (Nat.add_assoc _ _ _))⟩); have hcz45_0 : wc.cell? ⟨gb103, 0, none⟩ = some (.int .i64 a0_0) := (blk_cell BK103.out 0).trans rfl; have hcz45_1 : wc.cell? ⟨gb103, 1, none⟩ = some (.slice (some ad104) l0_1.length c0_1) := (blk_cell BK103.out 1).trans rfl; have hfz45_0 := blk_frozen BK103.out 0; have hfz45_1 := blk_frozen BK103.out 1; have p108 : 0 ≤ ((ji29) : Int) := of_decide_eq_true Z2_5; have q108 : (ji29) < (l0_1.length : Int) := of_decide_eq_true Z2_5; obtain ⟨ad108, e108, hx108_0, hx108_1⟩ := at_T73 HR0_1.out (ji29) p108 q108; obtain rfl : ad104 = ad108 := Z2_19; replace hx108_0 := (HB.out.cell (World.block_lt_of_cell? w _ hx108_0)).trans hx108_0; replace hx108_1 := (HB.out.cell (World.block_lt_of_cell? w _ hx108_1)).trans hx108_1; replace p108 := eq_true p108; replace q108 := eq_true q108))
           repeat (go_quiet (first | (go_at_call 72; (with_reducible refine (spec_l8Len.calls kj9 ((rd_T73 l0_1 x4_2).f1) t107 _ A27.out).mono ?_); rintro e w' ⟨rfl, ⟨nd, rfl⟩⟩; (try first | exact ⟨rfl, _, World.drewN_drewN _ _ _⟩ | exact ⟨rfl, _, Eq.trans (World.drewN_drewN _ _ _) (congrArg (World.drewN _) (Nat.add_assoc _ _ _))⟩); have hcz45_0 : wc.cell? ⟨gb103, 0, none⟩ = some (.int .i64 a0_0) := (blk_cell BK103.out 0).trans rfl; have hcz45_1 : wc.cell? ⟨gb103, 1, none⟩ = some (.slice (some ad104) l0_1.length c0_1) := (blk_cell BK103.out 1).trans rfl; have hfz45_0 := blk_frozen BK103.out 0; have hfz45_1 := blk_frozen BK103.out 1; have p108 : 0 ≤ ((ji29) : Int) := of_decide_eq_true Z2_5; have q108 : (ji29) < (l0_1.length : Int) := of_decide_eq_true Z2_5; obtain ⟨ad108, e108, hx108_0, hx108_1⟩ := at_T73 HR0_1.out (ji29) p108 q108; obtain rfl : ad104 = ad108 := Z2_19; replace hx108_0 := (HB.out.cell (World.block_lt_of_cell? w _ hx108_0)).trans hx108_0; replace hx108_1 := (HB.out.cell (World.block_lt_of_cell? w _ hx108_1)).trans hx108_1; replace p108 := eq_true p108; replace q108 := eq_true q108)); try go_wp2_with (first | (go_at_call 72; (with_reducible refine (spec_l8Len.calls kj9 ((rd_T73 l0_1 x4_2).f1) t107 _ A27.out).mono ?_); rintro e w' ⟨rfl, ⟨nd, rfl⟩⟩; (try first | exact ⟨rfl, _, World.drewN_drewN _ _ _⟩ | exact ⟨rfl, _, Eq.trans (World.drewN_drewN _ _ _) (congrArg (World.drewN _) (Nat.add_assoc _ _ _))⟩); have hcz45_0 : wc.cell? ⟨gb103, 0, none⟩ = some (.int .i64 a0_0) := (blk_cell BK103.out 0).trans rfl; have hcz45_1 : wc.cell? ⟨gb103, 1, none⟩ = some (.slice (some ad104) l0_1.length c0_1) := (blk_cell BK103.out 1).trans rfl; have hfz45_0 := blk_frozen BK103.out 0; have hfz45_1 := blk_frozen BK103.out 1; have p108 : 0 ≤ ((ji29) : Int) := of_decide_eq_true Z2_5; have q108 : (ji29) < (l0_1.length : Int) := of_decide_eq_true Z2_5; obtain ⟨ad108, e108, hx108_0, hx108_1⟩ := at_T73 HR0_1.out (ji29) p108 q108; obtain rfl : ad104 = ad108 := Z2_19; replace hx108_0 := (HB.out.cell (World.block_lt_of_cell? w _ hx108_0)).trans hx108_0; replace hx108_1 := (HB.out.cell (World.block_lt_of_cell? w _ hx108_1)).trans hx108_1; replace p108 := eq_true p108; replace q108 := eq_true q108)))
           go_roundg kj9
           case measure => have := HJ1.out; have := HK2.out; have := HJ9.out; omega
           case rel => exact ⟨(wrap64 (((rd_T73 l0_1 x4_2).f0) + t107)), (wrap64 (x4_2 + 1)), Z2_7, Z2_7, H', ⟨Z2_17⟩, ⟨Z2_6⟩, ⟨Z2_2⟩⟩
          rw [if_neg c33] at H
          have c33b0 : decide (((rd_T73 l0_1 x4_2).f1) < 10) = false := decide_eq_false c33
          clear c33
          have H' := Aside0.mk H
          clear H
          have hnb46 := NB105_103.out
          have hnc46 := NB103_105.out
          have hcz47_0 : wc.cell? ⟨gb105, 0, none⟩ = some (.int .i64 ((rd_T73 l0_1 x4_2).f0)) := (blk_cell BK105.out 0).trans rfl
          have hcz47_1 : wc.cell? ⟨gb105, 1, none⟩ = some (.int .i64 ((rd_T73 l0_1 x4_2).f1)) := (blk_cell BK105.out 1).trans rfl
          have hfz47_0 := blk_frozen BK105.out 0
          have hfz47_1 := blk_frozen BK105.out 1
          go_wp2_with (first | (go_at_call 72; (with_reducible refine (spec_l8Len.calls kj9 ((rd_T73 l0_1 x4_2).f1) t107 _ A27.out).mono ?_); rintro e w' ⟨rfl, ⟨nd, rfl⟩⟩; (try first | exact ⟨rfl, _, World.drewN_drewN _ _ _⟩ | exact ⟨rfl, _, Eq.trans (World.drewN_drewN _ _ _) (congrArg (World.drewN _) (Nat.add_assoc _ _ _))⟩); have hcz48_0 : wc.cell? ⟨gb103, 0, none⟩ = some (.int .i64 a0_0) := (blk_cell BK103.out 0).trans rfl; have hcz48_1 : wc.cell? ⟨gb103, 1, none⟩ = some (.slice (some ad104) l0_1.length c0_1) := (blk_cell BK103.out 1).trans rfl; have hfz48_0 := blk_frozen BK103.out 0; have hfz48_1 := blk_frozen BK103.out 1; have p108 : 0 ≤ ((ji29) : Int) := of_decide_eq_true Z2_5; have q108 : (ji29) < (l0_1.length : Int) := of_decide_eq_true Z2_5; obtain ⟨ad108, e108, hx108_0, hx108_1⟩ := at_T73 HR0_1.out (ji29) p108 q108; obtain rfl : ad104 = ad108 := Z2_19; replace hx108_0 := (HB.out.cell (World.block_lt_of_cell? w _ hx108_0)).trans hx108_0; replace hx108_1 := (HB.out.cell (World.block_lt_of_cell? w _ hx108_1)).trans hx108_1; replace p108 := eq_true p108; replace q108 := eq_true q108))
          repeat (go_quiet (first | (go_at_call 72; (with_reducible refine (spec_l8Len.calls kj9 ((rd_T73 l0_1 x4_2).f1) t107 _ A27.out).mono ?_); rintro e w' ⟨rfl, ⟨nd, rfl⟩⟩; (try first | exact ⟨rfl, _, World.drewN_drewN _ _ _⟩ | exact ⟨rfl, _, Eq.trans (World.drewN_drewN _ _ _) (congrArg (World.drewN _) (Nat.add_assoc _ _ _))⟩); have hcz48_0 : wc.cell? ⟨gb103, 0, none⟩ = some (.int .i64 a0_0) := (blk_cell BK103.out 0).trans rfl; have hcz48_1 : wc.cell? ⟨gb103, 1, none⟩ = some (.slice (some ad104) l0_1.length c0_1) := (blk_cell BK103.out 1).trans rfl; have hfz48_0 := blk_frozen BK103.out 0; have hfz48_1 := blk_frozen BK103.out 1; have p108 : 0 ≤ ((ji29) : Int) := of_decide_eq_true Z2_5; have q108 : (ji29) < (l0_1.length : Int) := of_decide_eq_true Z2_5; obtain ⟨ad108, e108, hx108_0, hx108_1⟩ := at_T73 HR0_1.out (ji29) p108 q108; obtain rfl : ad104 = ad108 := Z2_19; replace hx108_0 := (HB.out.cell (World.block_lt_of_cell? w _ hx108_0)).trans hx108_0; replace hx108_1 := (HB.out.cell (World.block_lt_of_cell? w _ hx108_1)).trans hx108_1; replace p108 := eq_true p108; replace q108 := eq_true q108)); try go_wp2_with (first | (go_at_call 72; (with_reducible refine (spec_l8Len.calls kj9 ((rd_T73 l0_1 x4_2).f1) t107 _ A27.out).mono ?_); rintro e w' ⟨rfl, ⟨nd, rfl⟩⟩; (try first | exact ⟨rfl, _, World.drewN_drewN _ _ _⟩ | exact ⟨rfl, _, Eq.trans (World.drewN_drewN _ _ _) (congrArg (World.drewN _) (Nat.add_assoc _ _ _))⟩); have hcz48_0 : wc.cell? ⟨gb103, 0, none⟩ = some (.int .i64 a0_0) := (blk_cell BK103.out 0).trans rfl; have hcz48_1 : wc.cell? ⟨gb103, 1, none⟩ = some (.slice (some ad104) l0_1.length c0_1) := (blk_cell BK103.out 1).trans rfl; have hfz48_0 := blk_frozen BK103.out 0; have hfz48_1 := blk_frozen BK103.out 1; have p108 : 0 ≤ ((ji29) : Int) := of_decide_eq_true Z2_5; have q108 : (ji29) < (l0_1.length : Int) := of_decide_eq_true Z2_5; obtain ⟨ad108, e108, hx108_0, hx108_1⟩ := at_T73 HR0_1.out (ji29) p108 q108; obtain rfl : ad104 = ad108 := Z2_19; replace hx108_0 := (HB.out.cell (World.block_lt_of_cell? w _ hx108_0)).trans hx108_0; replace hx108_1 := (HB.out.cell (World.block_lt_of_cell? w _ hx108_1)).trans hx108_1; replace p108 := eq_true p108; replace q108 := eq_true q108)))
          go_roundg kj9
          case measure => have := HJ1.out; have := HK2.out; have := HJ9.out; omega
          case rel => exact ⟨(wrap64 (((rd_T73 l0_1 x4_2).f0) + t107)), (wrap64 (x4_2 + 1)), Z2_7, Z2_7, H', ⟨Z2_17⟩, ⟨Z2_6⟩, ⟨Z2_2⟩⟩
         rw [if_neg c32] at H
         have c32b0 : (((rd_T73 l0_1 (ji29)).f1) == ((rd_T73 l0_1 x4_2).f1)) = false := beq_eq_false_iff_ne.mpr c32
         have c32b1 : (((rd_T73 l0_1 (ji29)).f1) != ((rd_T73 l0_1 x4_2).f1)) = true := bne_iff_ne.mpr c32
         have H' := Aside0.mk H
         clear H
         have hnb49 := NB105_103.out
         have hnc49 := NB103_105.out
         have hcz50_0 : wc.cell? ⟨gb105, 0, none⟩ = some (.int .i64 ((rd_T73 l0_1 x4_2).f0)) := (blk_cell BK105.out 0).trans rfl
         have hcz50_1 : wc.cell? ⟨gb105, 1, none⟩ = some (.int .i64 ((rd_T73 l0_1 x4_2).f1)) := (blk_cell BK105.out 1).trans rfl
         have hfz50_0 := blk_frozen BK105.out 0
         have hfz50_1 := blk_frozen BK105.out 1
         go_wp2_with (first | (go_at_call 72; (with_reducible refine (spec_l8Len.calls kj9 ((rd_T73 l0_1 x4_2).f1) t107 _ A27.out).mono ?_); rintro e w' ⟨rfl, ⟨nd, rfl⟩⟩; (try first | exact ⟨rfl, _, World.drewN_drewN _ _ _⟩ | exact ⟨rfl, _, Eq.trans (World.drewN_drewN _ _ _) (congrArg (World.drewN _) (Nat.add_assoc _ _ _))⟩); have hcz51_0 : wc.cell? ⟨gb103, 0, none⟩ = some (.int .i64 a0_0) := (blk_cell BK103.out 0).trans rfl; have hcz51_1 : wc.cell? ⟨gb103, 1, none⟩ = some (.slice (some ad104) l0_1.length c0_1) := (blk_cell BK103.out 1).trans rfl; have hfz51_0 := blk_frozen BK103.out 0; have hfz51_1 := blk_frozen BK103.out 1; have p108 : 0 ≤ ((ji29) : Int) := of_decide_eq_true Z2_5; have q108 : (ji29) < (l0_1.length : Int) := of_decide_eq_true Z2_5; obtain ⟨ad108, e108, hx108_0, hx108_1⟩ := at_T73 HR0_1.out (ji29) p108 q108; obtain rfl : ad104 = ad108 := Z2_19; replace hx108_0 := (HB.out.cell (World.block_lt_of_cell? w _ hx108_0)).trans hx108_0; replace hx108_1 := (HB.out.cell (World.block_lt_of_cell? w _ hx108_1)).trans hx108_1; replace p108 := eq_true p108; replace q108 := eq_true q108))
         repeat (go_quiet (first | (go_at_call 72; (with_reducible refine (spec_l8Len.calls kj9 ((rd_T73 l0_1 x4_2).f1) t107 _ A27.out).mono ?_); rintro e w' ⟨rfl, ⟨nd, rfl⟩⟩; (try first | exact ⟨rfl, _, World.drewN_drewN _ _ _⟩ | exact ⟨rfl, _, Eq.trans (World.drewN_drewN _ _ _) (congrArg (World.drewN _) (Nat.add_assoc _ _ _))⟩); have hcz51_0 : wc.cell? ⟨gb103, 0, none⟩ = some (.int .i64 a0_0) := (blk_cell BK103.out 0).trans rfl; have hcz51_1 : wc.cell? ⟨gb103, 1, none⟩ = some (.slice (some ad104) l0_1.length c0_1) := (blk_cell BK103.out 1).trans rfl; have hfz51_0 := blk_frozen BK103.out 0; have hfz51_1 := blk_frozen BK103.out 1; have p108 : 0 ≤ ((ji29) : Int) := of_decide_eq_true Z2_5; have q108 : (ji29) < (l0_1.length : Int) := of_decide_eq_true Z2_5; obtain ⟨ad108, e108, hx108_0, hx108_1⟩ := at_T73 HR0_1.out (ji29) p108 q108; obtain rfl : ad104 = ad108 := Z2_19; replace hx108_0 := (HB.out.cell (World.block_lt_of_cell? w _ hx108_0)).trans hx108_0; replace hx108_1 := (HB.out.cell (World.block_lt_of_cell? w _ hx108_1)).trans hx108_1; replace p108 := eq_true p108; replace q108 := eq_true q108)); try go_wp2_with (first | (go_at_call 72; (with_reducible refine (spec_l8Len.calls kj9 ((rd_T73 l0_1 x4_2).f1) t107 _ A27.out).mono ?_); rintro e w' ⟨rfl, ⟨nd, rfl⟩⟩; (try first | exact ⟨rfl, _, World.drewN_drewN _ _ _⟩ | exact ⟨rfl, _, Eq.trans (World.drewN_drewN _ _ _) (congrArg (World.drewN _) (Nat.add_assoc _ _ _))⟩); have hcz51_0 : wc.cell? ⟨gb103, 0, none⟩ = some (.int .i64 a0_0) := (blk_cell BK103.out 0).trans rfl; have hcz51_1 : wc.cell? ⟨gb103, 1, none⟩ = some (.slice (some ad104) l0_1.length c0_1) := (blk_cell BK103.out 1).trans rfl; have hfz51_0 := blk_frozen BK103.out 0; have hfz51_1 := blk_frozen BK103.out 1; have p108 : 0 ≤ ((ji29) : Int) := of_decide_eq_true Z2_5; have q108 : (ji29) < (l0_1.length : Int) := of_decide_eq_true Z2_5; obtain ⟨ad108, e108, hx108_0, hx108_1⟩ := at_T73 HR0_1.out (ji29) p108 q108; obtain rfl : ad104 = ad108 := Z2_19; replace hx108_0 := (HB.out.cell (World.block_lt_of_cell? w _ hx108_0)).trans hx108_0; replace hx108_1 := (HB.out.cell (World.block_lt_of_cell? w _ hx108_1)).trans hx108_1; replace p108 := eq_true p108; replace q108 := eq_true q108)))
         go_roundg kj9
         case measure => have := HJ1.out; have := HK2.out; have := HJ9.out; omega
         case rel => exact ⟨(wrap64 (((rd_T73 l0_1 x4_2).f0) + t107)), (wrap64 (x4_2 + 1)), Z2_7, Z2_7, H', ⟨Z2_17⟩, ⟨Z2_6⟩, ⟨Z2_2⟩⟩
        rw [if_neg c31] at H
        exact absurd H (by simp)
       rw [if_neg c30] at H
       exact absurd H (by simp)
      rw [if_neg c28] at H
      have c28b0 : decide (0 < x4_2) = false := decide_eq_false c28
      clear c28
      have H' := Aside0.mk H
      clear H
      have hnb52 := NB105_103.out
      have hnc52 := NB103_105.out
      have hcz53_0 : wc.cell? ⟨gb105, 0, none⟩ = some (.int .i64 ((rd_T73 l0_1 x4_2).f0)) := (blk_cell BK105.out 0).trans rfl
      have hcz53_1 : wc.cell? ⟨gb105, 1, none⟩ = some (.int .i64 ((rd_T73 l0_1 x4_2).f1)) := (blk_cell BK105.out 1).trans rfl
      have hfz53_0 := blk_frozen BK105.out 0
      have hfz53_1 := blk_frozen BK105.out 1
      go_wp2_with (first | (go_at_call 72; (with_reducible refine (spec_l8Len.calls kj9 ((rd_T73 l0_1 x4_2).f1) t107 _ A27.out).mono ?_); rintro e w' ⟨rfl, ⟨nd, rfl⟩⟩; (try first | exact ⟨rfl, _, World.drewN_drewN _ _ _⟩ | exact ⟨rfl, _, Eq.trans (World.drewN_drewN _ _ _) (congrArg (World.drewN _) (Nat.add_assoc _ _ _))⟩)))
      repeat (go_quiet (first | (go_at_call 72; (with_reducible refine (spec_l8Len.calls kj9 ((rd_T73 l0_1 x4_2).f1) t107 _ A27.out).mono ?_); rintro e w' ⟨rfl, ⟨nd, rfl⟩⟩; (try first | exact ⟨rfl, _, World.drewN_drewN _ _ _⟩ | exact ⟨rfl, _, Eq.trans (World.drewN_drewN _ _ _) (congrArg (World.drewN _) (Nat.add_assoc _ _ _))⟩))); try go_wp2_with (first | (go_at_call 72; (with_reducible refine (spec_l8Len.calls kj9 ((rd_T73 l0_1 x4_2).f1) t107 _ A27.out).mono ?_); rintro e w' ⟨rfl, ⟨nd, rfl⟩⟩; (try first | exact ⟨rfl, _, World.drewN_drewN _ _ _⟩ | exact ⟨rfl, _, Eq.trans (World.drewN_drewN _ _ _) (congrArg (World.drewN _) (Nat.add_assoc _ _ _))⟩))))
      go_roundg kj9
      case measure => have := HJ1.out; have := HK2.out; have := HJ9.out; omega
      case rel => exact ⟨(wrap64 (((rd_T73 l0_1 x4_2).f0) + t107)), (wrap64 (x4_2 + 1)), Z2_7, Z2_7, H', ⟨Z2_17⟩, ⟨Z2_6⟩, ⟨Z2_2⟩⟩
    rw [if_neg c9] at H
    exact absurd H (by simp)
   rw [if_neg c8] at H
   have c8b0 : decide (x4_2 < (l0_1.length : Int)) = false := decide_eq_false c8
   clear c8
   obtain rfl := Option.some.inj H
   have hcz54_0 : wr.cell? ⟨gb103, 0, none⟩ = some (.int .i64 a0_0) := (blk_cell BK103.out 0).trans rfl
   have hcz54_1 : wr.cell? ⟨gb103, 1, none⟩ = some (.slice A0_1 l0_1.length c0_1) := (blk_cell BK103.out 1).trans rfl
   have hfz54_0 := blk_frozen BK103.out 0
   have hfz54_1 := blk_frozen BK103.out 1
   go_wp2
   repeat (go_quiet (fail); try go_wp2)
   go_ret
   exact ⟨Z2_9, Z2_3⟩
/-! ### impl_blockOk: function 74 -/
def impl_blockOk.f (a0 : Int) (a1_0 : Int) (a1_1 : Int) : Option (Bool) := if a1_1 < 0 then (some false) else (if a1_1 > 10 then (some false) else (if a1_0 < 0 then (some false) else (if a1_0 ≥ a0 then (some false) else (if 0 ≤ a1_1 then (if (shl .i64 1 a1_1) = 0 then (none) else (if (Int.tmod a1_0 (shl .i64 1 a1_1)) = 0 then (some (decide ((wrap64 (a1_0 + (shl .i64 1 a1_1))) ≤ a0))) else (some false))) else (none)))))
set_option maxHeartbeats 8000000 in
set_option maxRecDepth 100000 in
theorem impl_blockOk.calls (a0 : Int) (a1_0 : Int) (a1_1 : Int) (r : Bool) (w : World) (h : impl_blockOk.f a0 a1_0 a1_1 = some r) :
  Calls Try.prog 74 #[.int .i64 a0, .agg #[.int .i64 a1_0, .int .i64 a1_1]] w fun e w' => e = .returned (.bool r) ∧ Below w.heap.size w w' := by
 have hu73 := Try.underlying73
 have HB := Aside0.mk (Below.refl w.heap.size w)
 have H : (if a1_1 < 0 then (some false) else (if a1_1 > 10 then (some false) else (if a1_0 < 0 then (some false) else (if a1_0 ≥ a0 then (some false) else (if 0 ≤ a1_1 then (if (shl .i64 1 a1_1) = 0 then (none) else (if (Int.tmod a1_0 (shl .i64 1 a1_1)) = 0 then (some (decide ((wrap64 (a1_0 + (shl .i64 1 a1_1))) ≤ a0))) else (some false))) else (none)))))) = some r := h
 clear h
 by_cases c3 : a1_1 < 0
 ·rw [if_pos c3] at H
  have c3b0 : decide (a1_1 < 0) = true := decide_eq_true c3
  clear c3
  obtain rfl := Option.some.inj H
  go_enter Try.func74, Try.ntmps74
  go_wp2_with (first | ((with_reducible refine gate_dst (N := 3) rfl ?_); refine box_event ?hg (N := 3) ?hd (cs := #[.int .i64 a1_0, .int .i64 a1_1]) (t := 73) ?hr ?_; (case hd => rfl); (case hg => rfl); (case hr => exact Z2_13); intro gb110 hg w4 hbox hb; have n0_ := Aside0.mk (below_step Z2_1 hb); have n1_ := Aside0.mk (hbox); have n2_ := Aside0.mk ((Z2_10 : w.heap.size ≤ gb110)); have n3_ := Aside0.mk ((Z2_10 : w.heap.size ≤ gb110)); clear HB; have HB := n0_; have BK110 := n1_; have GW110 := n2_; have GE110 := n3_; clear n0_ n1_ n2_ n3_; clear hb hbox hg; have hcz5_0 : w4.cell? ⟨gb110, 0, none⟩ = some (.int .i64 a1_0) := (blk_cell BK110.out 0).trans rfl; have hcz5_1 : w4.cell? ⟨gb110, 1, none⟩ = some (.int .i64 a1_1) := (blk_cell BK110.out 1).trans rfl; have hfz5_0 := blk_frozen BK110.out 0; have hfz5_1 := blk_frozen BK110.out 1))
  go_ret
  exact ⟨Z2_9, Z2_12⟩
 rw [if_neg c3] at H
 have c3b0 : decide (a1_1 < 0) = false := decide_eq_false c3
 clear c3
 by_cases c6 : a1_1 > 10
 ·rw [if_pos c6] at H
  have c6b0 : decide (10 < a1_1) = true := decide_eq_true c6
  clear c6
  obtain rfl := Option.some.inj H
  go_enter Try.func74, Try.ntmps74
  go_wp2_with (first | ((with_reducible refine gate_dst (N := 3) rfl ?_); refine box_event ?hg (N := 3) ?hd (cs := #[.int .i64 a1_0, .int .i64 a1_1]) (t := 73) ?hr ?_; (case hd => rfl); (case hg => rfl); (case hr => exact Z2_13); intro gb110 hg w7 hbox hb; have n0_ := Aside0.mk (below_step Z2_1 hb); have n1_ := Aside0.mk (hbox); have n2_ := Aside0.mk ((Z2_10 : w.heap.size ≤ gb110)); have n3_ := Aside0.mk ((Z2_10 : w.heap.size ≤ gb110)); clear HB; have HB := n0_; have BK110 := n1_; have GW110 := n2_; have GE110 := n3_; clear n0_ n1_ n2_ n3_; clear hb hbox hg; have hcz8_0 : w7.cell? ⟨gb110, 0, none⟩ = some (.int .i64 a1_0) := (blk_cell BK110.out 0).trans rfl; have hcz8_1 : w7.cell? ⟨gb110, 1, none⟩ = some (.int .i64 a1_1) := (blk_cell BK110.out 1).trans rfl; have hfz8_0 := blk_frozen BK110.out 0; have hfz8_1 := blk_frozen BK110.out 1))
  go_ret
  exact ⟨Z2_9, Z2_12⟩
 rw [if_neg c6] at H
 have c6b0 : decide (10 < a1_1) = false := decide_eq_false c6
 clear c6
 by_cases c9 : a1_0 < 0
 ·rw [if_pos c9] at H
  have c9b0 : decide (a1_0 < 0) = true := decide_eq_true c9
  clear c9
  obtain rfl := Option.some.inj H
  go_enter Try.func74, Try.ntmps74
  go_wp2_with (first | ((with_reducible refine gate_dst (N := 3) rfl ?_); refine box_event ?hg (N := 3) ?hd (cs := #[.int .i64 a1_0, .int .i64 a1_1]) (t := 73) ?hr ?_; (case hd => rfl); (case hg => rfl); (case hr => exact Z2_13); intro gb110 hg w10 hbox hb; have n0_ := Aside0.mk (below_step Z2_1 hb); have n1_ := Aside0.mk (hbox); have n2_ := Aside0.mk ((Z2_10 : w.heap.size ≤ gb110)); have n3_ := Aside0.mk ((Z2_10 : w.heap.size ≤ gb110)); clear HB; have HB := n0_; have BK110 := n1_; have GW110 := n2_; have GE110 := n3_; clear n0_ n1_ n2_ n3_; clear hb hbox hg; have hcz11_0 : w10.cell? ⟨gb110, 0, none⟩ = some (.int .i64 a1_0) := (blk_cell BK110.out 0).trans rfl; have hcz11_1 : w10.cell? ⟨gb110, 1, none⟩ = some (.int .i64 a1_1) := (blk_cell BK110.out 1).trans rfl; have hfz11_0 := blk_frozen BK110.out 0; have hfz11_1 := blk_frozen BK110.out 1))
  go_ret
  exact ⟨Z2_9, Z2_12⟩
 rw [if_neg c9] at H
 have c9b0 : decide (a1_0 < 0) = false := decide_eq_false c9
 clear c9
 by_cases c12 : a1_0 ≥ a0
 ·rw [if_pos c12] at H
  have c12b0 : decide (a0 ≤ a1_0) = true := decide_eq_true c12
  clear c12
  obtain rfl := Option.some.inj H
  go_enter Try.func74, Try.ntmps74
  go_wp2_with (first | ((with_reducible refine gate_dst (N := 3) rfl ?_); refine box_event ?hg (N := 3) ?hd (cs := #[.int .i64 a1_0, .int .i64 a1_1]) (t := 73) ?hr ?_; (case hd => rfl); (case hg => rfl); (case hr => exact Z2_13); intro gb110 hg w13 hbox hb; have n0_ := Aside0.mk (below_step Z2_1 hb); have n1_ := Aside0.mk (hbox); have n2_ := Aside0.mk ((Z2_10 : w.heap.size ≤ gb110)); have n3_ := Aside0.mk ((Z2_10 : w.heap.size ≤ gb110)); clear HB; have HB := n0_; have BK110 := n1_; have GW110 := n2_; have GE110 := n3_; clear n0_ n1_ n2_ n3_; clear hb hbox hg; have hcz14_0 : w13.cell? ⟨gb110, 0, none⟩ = some (.int .i64 a1_0) := (blk_cell BK110.out 0).trans rfl; have hcz14_1 : w13.cell? ⟨gb110, 1, none⟩ = some (.int .i64 a1_1) := (blk_cell BK110.out 1).trans rfl; have hfz14_0 := blk_frozen BK110.out 0; have hfz14_1 := blk_frozen BK110.out 1))
  go_ret
  exact ⟨Z2_9, Z2_12⟩
 rw [if_neg c12] at H
 have c12b0 : decide (a0 ≤ a1_0) = false := decide_eq_false c12
 clear c12
 by_cases c15 : 0 ≤ a1_1
 ·rw [if_pos c15] at H
  have c15b0 := eq_true c15
  have c15b1 : decide (0 ≤ a1_1) = true := decide_eq_true c15
  clear c15
  obtain ⟨ji16, hji16⟩ : ∃ j_ : Int, (shl .i64 1 a1_1) = j_ := ⟨_, rfl⟩
  replace H : (if (ji16) = 0 then (none) else (if (Int.tmod a1_0 (ji16)) = 0 then (some (decide ((wrap64 (a1_0 + (ji16))) ≤ a0))) else (some false))) = some r := by first | (rw [hji16] at H; exact H) | (simp only [hji16] at H ⊢; exact H)
  have hji16_ : (IntKind.i64.wrap (1 * 2 ^ min a1_1.toNat 64)) = ji16 := hji16
  have hji16z : a1_1 ≤ 64 → (IntKind.i64.wrap (1 * 2 ^ a1_1.toNat)) = ji16 := shl_small hji16
  have hji16u : (IntKind.i64.wrap (2 ^ min a1_1.toNat 64)) = ji16 := by have h_ := hji16_; rw [Int.one_mul] at h_; exact h_
  have hji16v : a1_1 ≤ 64 → (IntKind.i64.wrap (2 ^ a1_1.toNat)) = ji16 := fun hle_ => by have h_ := hji16z hle_; rw [Int.one_mul] at h_; exact h_
  have hji16y : (wrap64 (1 * 2 ^ min a1_1.toNat 64)) = ji16 := (i64_w _).symm.trans hji16_
  have hji16x : a1_1 ≤ 64 → (wrap64 (1 * 2 ^ a1_1.toNat)) = ji16 := fun h_ => (i64_w _).symm.trans (hji16z h_)
  by_cases c17 : (ji16) = 0
  ·rw [if_pos c17] at H
   exact absurd H (by simp)
  rw [if_neg c17] at H
  have c17b0 : ((ji16) == 0) = false := beq_eq_false_iff_ne.mpr c17
  have c17b1 : ((ji16) != 0) = true := bne_iff_ne.mpr c17
  by_cases c18 : (Int.tmod a1_0 (ji16)) = 0
  ·rw [if_pos c18] at H
   have c18b0 : ((Int.tmod a1_0 (ji16)) == 0) = true := beq_iff_eq.mpr c18
   have c18b1 : ((Int.tmod a1_0 (ji16)) != 0) = false := bne_eq_false_iff_eq.mpr c18
   clear c18
   obtain rfl := Option.some.inj H
   go_enter Try.func74, Try.ntmps74
   go_wp2_with (first | ((with_reducible refine gate_dst (N := 3) rfl ?_); refine box_event ?hg (N := 3) ?hd (cs := #[.int .i64 a1_0, .int .i64 a1_1]) (t := 73) ?hr ?_; (case hd => rfl); (case hg => rfl); (case hr => exact Z2_13); intro gb110 hg w19 hbox hb; have n0_ := Aside0.mk (below_step Z2_1 hb); have n1_ := Aside0.mk (hbox); have n2_ := Aside0.mk ((Z2_10 : w.heap.size ≤ gb110)); have n3_ := Aside0.mk ((Z2_10 : w.heap.size ≤ gb110)); clear HB; have HB := n0_; have BK110 := n1_; have GW110 := n2_; have GE110 := n3_; clear n0_ n1_ n2_ n3_; clear hb hbox hg; have hcz20_0 : w19.cell? ⟨gb110, 0, none⟩ = some (.int .i64 a1_0) := (blk_cell BK110.out 0).trans rfl; have hcz20_1 : w19.cell? ⟨gb110, 1, none⟩ = some (.int .i64 a1_1) := (blk_cell BK110.out 1).trans rfl; have hfz20_0 := blk_frozen BK110.out 0; have hfz20_1 := blk_frozen BK110.out 1))
   go_ret
   exact ⟨Z2_18, Z2_12⟩
  rw [if_neg c18] at H
  have c18b0 : ((Int.tmod a1_0 (ji16)) == 0) = false := beq_eq_false_iff_ne.mpr c18
  have c18b1 : ((Int.tmod a1_0 (ji16)) != 0) = true := bne_iff_ne.mpr c18
  obtain rfl := Option.some.inj H
  go_enter Try.func74, Try.ntmps74
  go_wp2_with (first | ((with_reducible refine gate_dst (N := 3) rfl ?_); refine box_event ?hg (N := 3) ?hd (cs := #[.int .i64 a1_0, .int .i64 a1_1]) (t := 73) ?hr ?_; (case hd => rfl); (case hg => rfl); (case hr => exact Z2_13); intro gb110 hg w21 hbox hb; have n0_ := Aside0.mk (below_step Z2_1 hb); have n1_ := Aside0.mk (hbox); have n2_ := Aside0.mk ((Z2_10 : w.heap.size ≤ gb110)); have n3_ := Aside0.mk ((Z2_10 : w.heap.size ≤ gb110)); clear HB; have HB := n0_; have BK110 := n1_; have GW110 := n2_; have GE110 := n3_; clear n0_ n1_ n2_ n3_; clear hb hbox hg; have hcz22_0 : w21.cell? ⟨gb110, 0, none⟩ = some (.int .i64 a1_0) := (blk_cell BK110.out 0).trans rfl; have hcz22_1 : w21.cell? ⟨gb110, 1, none⟩ = some (.int .i64 a1_1) := (blk_cell BK110.out 1).trans rfl; have hfz22_0 := blk_frozen BK110.out 0; have hfz22_1 := blk_frozen BK110.out 1))
  go_ret
  exact ⟨Z2_18, Z2_12⟩
 rw [if_neg c15] at H
 exact absurd H (by simp)
end Go.Proofs.Ytmjdmaomakkhgaa.PFnFramesKept
