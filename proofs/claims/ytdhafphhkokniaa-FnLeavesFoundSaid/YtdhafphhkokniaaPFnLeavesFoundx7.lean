-- Written by a program of this session out of the translation. Not trusted: Lean checks it.
import Derived.Test.YtdhafphhkokniaaPFnLeavesFoundx0
import Derived.Test.YtdhafphhkokniaaPFnLeavesFoundx6
namespace Go.Proofs.Ytdhafphhkokniaa.PFnLeavesFound
open Go.RowKit Go.Proofs.YtdhafphhkokniaaW.PrintWords Go.Proofs.YtdhafphhkokniaaW.PrintLast Go.Proofs.YtdhafphhkokniaaW.PrintMore
attribute [local go_sem] max2_int min2_int max_two min_two max_three min_three max_four min_four   -- for this text's walks alone
set_option linter.unusedVariables false
set_option linter.unusedSimpArgs false
theorem Z7_31 {P : Prop} (h : P := by rw [hg]; exact (below_size Z7_9)) : P := h
theorem Z7_30 {P : Prop} (h : P := by rw [hg]; exact (keep_size (w := w) (g := g) (row := none) Z7_2)) : P := h
theorem Z7_29 {P : Prop} (h : P := by rw [hg]; exact (keep_size (w := w) (g := g) (row := none) Z7_10)) : P := h
theorem Z7_28 {P : Prop} (h : P := by rw [hg]; exact Nat.ne_of_gt (blk_lt (g := gb234) (o := .cells #[.bool false, .bool false, .bool false, .bool false, .bool false, .bool false, .bool false, .bool false, .int .i64 0] 27 (0, 0)) Z7_13)) : P := h
theorem Z7_27 {P : Prop} (h : P := by rw [hg]; exact Nat.ne_of_lt (blk_lt (g := gb234) (o := .cells #[.bool false, .bool false, .bool false, .bool false, .bool false, .bool false, .bool false, .bool false, .int .i64 0] 27 (0, 0)) Z7_13)) : P := h
theorem Z7_26 {P : Prop} (h : P := by (with_reducible repeat (first | apply blk_drewN | apply blk_drew | apply blk_alloc)); refine blk_far ?_ NB234_238.out _; (with_reducible repeat (first | apply blk_drewN | apply blk_drew | apply blk_alloc)); exact BK234.out) : P := h
theorem Z7_25 {P : Prop} (h : P := by first | (with_reducible assumption) | assumption) : P := h
theorem Z7_24 {P : Prop} (h : P := by rw [hg]; exact Nat.ne_of_gt (IsS116.lt (show IsS116 w0 _ g s0_0 s0_1 s0_2 from by repeat (first | (with_reducible first | exact HI0.out | apply IsS116.alloc | apply IsS116.drewN | apply IsS116.drew | apply IsS116.set_1 | apply IsS116.set_2) | exact HI0.out)))) : P := h
theorem Z7_23 {P : Prop} (h : P := by rw [hg]; exact Nat.ne_of_lt (IsS116.lt (show IsS116 w0 _ g s0_0 s0_1 s0_2 from by repeat (first | (with_reducible first | exact HI0.out | apply IsS116.alloc | apply IsS116.drewN | apply IsS116.drew | apply IsS116.set_1 | apply IsS116.set_2) | exact HI0.out)))) : P := h
theorem Z7_22 {P : Prop} (h : P := by rw [hg]; exact Nat.ne_of_gt (IsS116.lt (show IsS116 w0 _ g s0_0 t236 t237 from by repeat (first | (with_reducible first | exact HI0.out | apply IsS116.alloc | apply IsS116.drewN | apply IsS116.drew | apply IsS116.set_1 | apply IsS116.set_2 | refine IsS116.far ?_ NB0_234.out _) | exact HI0.out)))) : P := h
theorem Z7_21 {P : Prop} (h : P := by rw [hg]; exact Nat.ne_of_lt (IsS116.lt (show IsS116 w0 _ g s0_0 t236 t237 from by repeat (first | (with_reducible first | exact HI0.out | apply IsS116.alloc | apply IsS116.drewN | apply IsS116.drew | apply IsS116.set_1 | apply IsS116.set_2 | refine IsS116.far ?_ NB0_234.out _) | exact HI0.out)))) : P := h
theorem Z7_20 {P : Prop} (h : P := by first | (go_simp; done) | (go_simp; rfl)) : P := h
theorem Z7_19 {P : Prop} (h : P := by repeat (first | (with_reducible first | exact HK.out | apply Kept.alloc | apply Kept.drewN | apply Kept.drew) | exact HK.out)) : P := h
theorem Z7_18 {P : Prop} (h : P := by first | rfl | exact congrArg (Value.int .i64) (i64_w _) | (simp; done) | (simp [*]; done)) : P := h
theorem Z7_17 {P : Prop} (h : P := by (with_reducible repeat (first | apply blk_drewN | apply blk_drew | apply blk_alloc)); refine blk_put (cs := #[.bool true, .bool ((Int.tmod t235 2) == 0), .bool ((Int.tmod t235 8) == 0), .bool ((Int.tmod t235 5) == 0), .bool (decide ((Int.tmod t235 3) > 0)), .bool ((Int.tmod t235 16) == 3), .bool ((Int.tmod t235 32) == 5), .bool ((Int.tmod t235 4) == 1), .int .i64 0]) ?_ 8 _ rfl; (with_reducible repeat (first | apply blk_drewN | apply blk_drew | apply blk_alloc)); exact BK238.out) : P := h
theorem Z7_16 {P : Prop} (h : P := by repeat (first | (with_reducible first | exact HB.out | apply below_alloc | apply pw_below_drewN | apply below_drew1 | refine below_set ?_ GE209.out) | exact HB.out)) : P := h
theorem Z7_15 {P : Prop} (h : P := by repeat (first | (with_reducible first | exact HB.out | apply below_alloc | apply pw_below_drewN | apply below_drew1 | refine below_set ?_ (IsS116.ge HI0.out) | refine below_set ?_ GE234.out) | exact HB.out)) : P := h
theorem Z7_14 {P : Prop} (h : P := by repeat (first | (with_reducible first | exact HI0.out | apply IsS116.alloc | apply IsS116.drewN | apply IsS116.drew | apply IsS116.set_1 | apply IsS116.set_2 | refine IsS116.far ?_ NB0_234.out _) | exact HI0.out)) : P := h
theorem Z7_13 {P : Prop} (h : P := by (with_reducible repeat (first | apply blk_drewN | apply blk_drew | apply blk_alloc)); exact BK234.out) : P := h
theorem Z7_12 {P : Prop} (h : P := by first | rfl | (simp [errW_none, errW_some] <;> rfl) | (simp [*, errW_none, errW_some] <;> rfl)) : P := h
theorem Z7_11 {P : Prop} (h : P := by (with_reducible repeat (first | apply blk_drewN | apply blk_drew | apply blk_alloc)); refine blk_far ?_ NB234_238.out _; (with_reducible repeat (first | apply blk_drewN | apply blk_drew | apply blk_alloc)); refine blk_far ?_ NB234_238.out _; (with_reducible repeat (first | apply blk_drewN | apply blk_drew | apply blk_alloc)); refine blk_far ?_ NB234_238.out _; (with_reducible repeat (first | apply blk_drewN | apply blk_drew | apply blk_alloc)); refine blk_far ?_ NB234_238.out _; (with_reducible repeat (first | apply blk_drewN | apply blk_drew | apply blk_alloc)); refine blk_far ?_ NB234_238.out _; (with_reducible repeat (first | apply blk_drewN | apply blk_drew | apply blk_alloc)); refine blk_far ?_ NB234_238.out _; (with_reducible repeat (first | apply blk_drewN | apply blk_drew | apply blk_alloc)); refine blk_far ?_ NB234_238.out _; (with_reducible repeat (first | apply blk_drewN | apply blk_drew | apply blk_alloc)); refine blk_far ?_ NB234_238.out _; (with_reducible repeat (first | apply blk_drewN | apply blk_drew | apply blk_alloc)); refine blk_far ?_ NB234_238.out _; (with_reducible repeat (first | apply blk_drewN | apply blk_drew | apply blk_alloc)); exact BK234.out) : P := h
theorem Z7_10 {P : Prop} (h : P := by repeat (first | (with_reducible first | exact HK.out | apply KeepBut.set_ | apply keep_drewN | apply keep_drew | apply keep_alloc | refine keep_far ?_ GW234.out _) | exact HK.out)) : P := h
theorem Z7_9 {P : Prop} (h : P := by repeat (first | (with_reducible first | exact HB.out | apply below_alloc | apply pw_below_drewN | apply below_drew1) | exact HB.out)) : P := h
theorem Z7_8 {P : Prop} (h : P := by repeat (first | (with_reducible first | exact HB.out | apply below_alloc | apply pw_below_drewN | apply below_drew1 | refine below_set ?_ (IsS116.ge HI0.out) | refine below_set ?_ GE234.out | refine below_set ?_ GE238.out) | exact HB.out)) : P := h
theorem Z7_7 {P : Prop} (h : P := by (try simp only [List.map_toArray, List.map_cons, List.map_nil]); first | done | rfl | (simp only [List.length_drop, List.length_take]; first | done | rfl)) : P := h
theorem Z7_6 {P : Prop} (h : P := by repeat (first | (with_reducible first | exact HK.out | apply KeepBut.set_ | apply keep_drewN | apply keep_drew | apply keep_alloc | refine keep_far ?_ GW234.out _ | refine keep_far ?_ GW238.out _) | exact HK.out)) : P := h
theorem Z7_5 {P : Prop} (h : P := by repeat (first | (with_reducible first | exact HI0.out | apply IsS116.alloc | apply IsS116.drewN | apply IsS116.drew | apply IsS116.set_1 | apply IsS116.set_2 | refine IsS116.far ?_ NB0_234.out _ | refine IsS116.far ?_ NB0_238.out _) | exact HI0.out)) : P := h
theorem Z7_4 {P : Prop} (h : P := by repeat (first | (with_reducible first | exact HB.out | apply below_alloc | apply pw_below_drewN | apply below_drew1 | refine below_set ?_ (IsS116.ge HI0.out)) | exact HB.out)) : P := h
theorem Z7_3 {P : Prop} (h : P := by repeat (first | (with_reducible first | exact HI0.out | apply IsS116.alloc | apply IsS116.drewN | apply IsS116.drew | apply IsS116.set_1 | apply IsS116.set_2) | exact HI0.out)) : P := h
theorem Z7_2 {P : Prop} (h : P := by repeat (first | (with_reducible first | exact HK.out | apply KeepBut.set_ | apply keep_drewN | apply keep_drew | apply keep_alloc) | exact HK.out)) : P := h
theorem Z7_1 {P : Prop} (h : P := by (with_reducible repeat (first | apply blk_drewN | apply blk_drew | apply blk_alloc)); refine blk_put (cs := #[.bool true, .bool ((Int.tmod t235 2) == 0), .bool ((Int.tmod t235 8) == 0), .bool ((Int.tmod t235 5) == 0), .bool (decide ((Int.tmod t235 3) > 0)), .bool ((Int.tmod t235 16) == 3), .bool ((Int.tmod t235 32) == 5), .bool ((Int.tmod t235 4) == 1), .int .i64 0]) ?_ 8 _ rfl; (with_reducible repeat (first | apply blk_drewN | apply blk_drew | apply blk_alloc)); refine blk_put (cs := #[.bool true, .bool ((Int.tmod t235 2) == 0), .bool ((Int.tmod t235 8) == 0), .bool ((Int.tmod t235 5) == 0), .bool (decide ((Int.tmod t235 3) > 0)), .bool ((Int.tmod t235 16) == 3), .bool ((Int.tmod t235 32) == 5), .bool false, .int .i64 0]) ?_ 7 _ rfl; (with_reducible repeat (first | apply blk_drewN | apply blk_drew | apply blk_alloc)); refine blk_put (cs := #[.bool true, .bool ((Int.tmod t235 2) == 0), .bool ((Int.tmod t235 8) == 0), .bool ((Int.tmod t235 5) == 0), .bool (decide ((Int.tmod t235 3) > 0)), .bool ((Int.tmod t235 16) == 3), .bool false, .bool false, .int .i64 0]) ?_ 6 _ rfl; (with_reducible repeat (first | apply blk_drewN | apply blk_drew | apply blk_alloc)); refine blk_put (cs := #[.bool true, .bool ((Int.tmod t235 2) == 0), .bool ((Int.tmod t235 8) == 0), .bool ((Int.tmod t235 5) == 0), .bool (decide ((Int.tmod t235 3) > 0)), .bool false, .bool false, .bool false, .int .i64 0]) ?_ 5 _ rfl; (with_reducible repeat (first | apply blk_drewN | apply blk_drew | apply blk_alloc)); refine blk_put (cs := #[.bool true, .bool ((Int.tmod t235 2) == 0), .bool ((Int.tmod t235 8) == 0), .bool ((Int.tmod t235 5) == 0), .bool false, .bool false, .bool false, .bool false, .int .i64 0]) ?_ 4 _ rfl; (with_reducible repeat (first | apply blk_drewN | apply blk_drew | apply blk_alloc)); refine blk_put (cs := #[.bool true, .bool ((Int.tmod t235 2) == 0), .bool ((Int.tmod t235 8) == 0), .bool false, .bool false, .bool false, .bool false, .bool false, .int .i64 0]) ?_ 3 _ rfl; (with_reducible repeat (first | apply blk_drewN | apply blk_drew | apply blk_alloc)); refine blk_put (cs := #[.bool true, .bool ((Int.tmod t235 2) == 0), .bool false, .bool false, .bool false, .bool false, .bool false, .bool false, .int .i64 0]) ?_ 2 _ rfl; (with_reducible repeat (first | apply blk_drewN | apply blk_drew | apply blk_alloc)); refine blk_put (cs := #[.bool true, .bool false, .bool false, .bool false, .bool false, .bool false, .bool false, .bool false, .int .i64 0]) ?_ 1 _ rfl; (with_reducible repeat (first | apply blk_drewN | apply blk_drew | apply blk_alloc)); refine blk_put (cs := #[.bool false, .bool false, .bool false, .bool false, .bool false, .bool false, .bool false, .bool false, .int .i64 0]) ?_ 0 _ rfl; (with_reducible repeat (first | apply blk_drewN | apply blk_drew | apply blk_alloc)); exact BK238.out) : P := h

/-! ### spec_PutEntry: function 12 -/
def spec_PutEntry.j0 : Nat → Bool → Bool → Bool → Bool → Bool → Bool → Bool → Bool → Bool → Int → Option (Int × Bool)
 | 0, _, _, _, _, _, _, _, _, _, _ => none
 | k + 1, x12, x210000, x210001, x210002, x210003, x210004, x210005, x210006, x210007, x210008 => if x12 = true then (some (0, false)) else ((spec_l6Flag.f k x210000 0).bind fun t210 => ((spec_l6Flag.f k x210001 1).bind fun t211 => ((spec_l6Flag.f k x210002 2).bind fun t212 => ((spec_l6Flag.f k x210003 3).bind fun t213 => ((spec_l6Flag.f k x210004 4).bind fun t214 => ((spec_l6Flag.f k x210005 5).bind fun t215 => ((spec_l6Flag.f k x210006 6).bind fun t216 => ((spec_l6Flag.f k x210007 7).bind fun t217 => (some (IntKind.u64.wrap ((IntKind.u64.wrap ((IntKind.u64.wrap ((IntKind.u64.wrap ((IntKind.u64.wrap ((IntKind.u64.wrap ((IntKind.u64.wrap ((IntKind.u64.wrap (t210 + t211)) + t212)) + t213)) + t214)) + t215)) + t216)) + t217)) + (IntKind.u64.wrap ((IntKind.u64.wrap (x210008)) * 256))), true))))))))))
def spec_PutEntry.f (k : Nat) (a0_0 : Bool) (a0_1 : Bool) (a0_2 : Bool) (a0_3 : Bool) (a0_4 : Bool) (a0_5 : Bool) (a0_6 : Bool) (a0_7 : Bool) (a0_8 : Int) : Option (Int × Bool) := if a0_8 < 0 then (spec_PutEntry.j0 k true a0_0 a0_1 a0_2 a0_3 a0_4 a0_5 a0_6 a0_7 a0_8) else (spec_PutEntry.j0 k (decide (a0_8 > 4095)) a0_0 a0_1 a0_2 a0_3 a0_4 a0_5 a0_6 a0_7 a0_8)
theorem spec_PutEntry.mono_l : ∀ k, (∀ y0 y1 y2 y3 y4 y5 y6 y7 y8 y9, LeO (spec_PutEntry.j0 k y0 y1 y2 y3 y4 y5 y6 y7 y8 y9) (spec_PutEntry.j0 (k + 1) y0 y1 y2 y3 y4 y5 y6 y7 y8 y9))
 | 0 => fun _ _ _ _ _ _ _ _ _ _ r h => by simp [spec_PutEntry.j0] at h
 | k + 1 => by
  have ih0 := spec_PutEntry.mono_l k
  ·intro y0 y1 y2 y3 y4 y5 y6 y7 y8 y9
   unfold spec_PutEntry.j0
   repeat' first
   | (with_reducible exact ih0 _ _ _ _ _ _ _ _ _ _)
   | (with_reducible exact spec_l6Flag.mono _ _ _)
   | (with_reducible exact LeO.refl _)
   | (with_reducible exact LeO.none _)
   | (with_reducible refine LeO.ite ?_ ?_)
   | (with_reducible refine LeO.bind ?_ (fun _ => ?_))
   | exact ih0 _ _ _ _ _ _ _ _ _ _
   | exact spec_l6Flag.mono _ _ _
   | exact LeO.none _
   | refine LeO.ite ?_ ?_
   | refine LeO.bind ?_ (fun _ => ?_)
theorem spec_PutEntry.mono : ∀ a0 a1 a2 a3 a4 a5 a6 a7 a8 k, LeO (spec_PutEntry.f k a0 a1 a2 a3 a4 a5 a6 a7 a8) (spec_PutEntry.f (k + 1) a0 a1 a2 a3 a4 a5 a6 a7 a8) := by
 intro a0 a1 a2 a3 a4 a5 a6 a7 a8 k
 have ih0 := spec_PutEntry.mono_l k
 unfold spec_PutEntry.f
 repeat' first
   | (with_reducible exact ih0 _ _ _ _ _ _ _ _ _ _)
   | (with_reducible exact spec_l6Flag.mono _ _ _)
   | (with_reducible exact LeO.refl _)
   | (with_reducible exact LeO.none _)
   | (with_reducible refine LeO.ite ?_ ?_)
   | (with_reducible refine LeO.bind ?_ (fun _ => ?_))
   | exact ih0 _ _ _ _ _ _ _ _ _ _
   | exact spec_l6Flag.mono _ _ _
   | exact LeO.none _
   | refine LeO.ite ?_ ?_
   | refine LeO.bind ?_ (fun _ => ?_)
set_option maxHeartbeats 8000000 in
set_option maxRecDepth 100000 in
theorem spec_PutEntry.calls (k : Nat) (a0_0 : Bool) (a0_1 : Bool) (a0_2 : Bool) (a0_3 : Bool) (a0_4 : Bool) (a0_5 : Bool) (a0_6 : Bool) (a0_7 : Bool) (a0_8 : Int) (r1 : Int) (r2 : Bool) (w : World) (h : spec_PutEntry.f k a0_0 a0_1 a0_2 a0_3 a0_4 a0_5 a0_6 a0_7 a0_8 = some (r1, r2)) :
  Calls Try.prog 12 #[.agg #[.bool a0_0, .bool a0_1, .bool a0_2, .bool a0_3, .bool a0_4, .bool a0_5, .bool a0_6, .bool a0_7, .int .i64 a0_8]] w fun e w' => e = .returned (.tuple #[.int .u64 r1, .bool r2]) ∧ Below w.heap.size w w' := by
 have hu27 := Try.underlying27
 have HB := Aside0.mk (Below.refl w.heap.size w)
 have H : (if a0_8 < 0 then (spec_PutEntry.j0 k true a0_0 a0_1 a0_2 a0_3 a0_4 a0_5 a0_6 a0_7 a0_8) else (spec_PutEntry.j0 k (decide (a0_8 > 4095)) a0_0 a0_1 a0_2 a0_3 a0_4 a0_5 a0_6 a0_7 a0_8)) = some (r1, r2) := h
 clear h
 have HC2 := Aside0.mk H
 clear H
 go_enter Try.func12, Try.ntmps12
 go_upto_region 1 with (first | ((with_reducible refine gate_dst (N := 1) rfl ?_); refine box_event ?hg (N := 1) ?hd (cs := #[.bool a0_0, .bool a0_1, .bool a0_2, .bool a0_3, .bool a0_4, .bool a0_5, .bool a0_6, .bool a0_7, .int .i64 a0_8]) (t := 27) ?hr ?_; (case hd => rfl); (case hg => rfl); (case hr => exact Z7_20); intro gb209 hg w3 hbox hb; have n0_ := Aside0.mk (below_step Z7_9 hb); have n1_ := Aside0.mk (hbox); have n2_ := Aside0.mk ((Z7_31 : w.heap.size ≤ gb209)); have n3_ := Aside0.mk ((Z7_31 : w.heap.size ≤ gb209)); clear HB; have HB := n0_; have BK209 := n1_; have GW209 := n2_; have GE209 := n3_; clear n0_ n1_ n2_ n3_; clear hb hbox hg))
 repeat (go_quiet (first | ((with_reducible refine gate_dst (N := 1) rfl ?_); refine box_event ?hg (N := 1) ?hd (cs := #[.bool a0_0, .bool a0_1, .bool a0_2, .bool a0_3, .bool a0_4, .bool a0_5, .bool a0_6, .bool a0_7, .int .i64 a0_8]) (t := 27) ?hr ?_; (case hd => rfl); (case hg => rfl); (case hr => exact Z7_20); intro gb209 hg w3 hbox hb; have n0_ := Aside0.mk (below_step Z7_9 hb); have n1_ := Aside0.mk (hbox); have n2_ := Aside0.mk ((Z7_31 : w.heap.size ≤ gb209)); have n3_ := Aside0.mk ((Z7_31 : w.heap.size ≤ gb209)); clear HB; have HB := n0_; have BK209 := n1_; have GW209 := n2_; have GE209 := n3_; clear n0_ n1_ n2_ n3_; clear hb hbox hg)); go_upto_region 1 with (first | ((with_reducible refine gate_dst (N := 1) rfl ?_); refine box_event ?hg (N := 1) ?hd (cs := #[.bool a0_0, .bool a0_1, .bool a0_2, .bool a0_3, .bool a0_4, .bool a0_5, .bool a0_6, .bool a0_7, .int .i64 a0_8]) (t := 27) ?hr ?_; (case hd => rfl); (case hg => rfl); (case hr => exact Z7_20); intro gb209 hg w3 hbox hb; have n0_ := Aside0.mk (below_step Z7_9 hb); have n1_ := Aside0.mk (hbox); have n2_ := Aside0.mk ((Z7_31 : w.heap.size ≤ gb209)); have n3_ := Aside0.mk ((Z7_31 : w.heap.size ≤ gb209)); clear HB; have HB := n0_; have BK209 := n1_; have GW209 := n2_; have GE209 := n3_; clear n0_ n1_ n2_ n3_; clear hb hbox hg)))
 (try simp only [Act.put, List.setIfInBounds_toArray, List.set_cons_zero, List.set_cons_succ])
 go_cut [12] (fun v12 wc => ∃ (kq : Nat) (x12_1 : Bool), v12 = .bool x12_1 ∧ Aside0 (spec_PutEntry.j0 kq x12_1 a0_0 a0_1 a0_2 a0_3 a0_4 a0_5 a0_6 a0_7 a0_8 = some (r1, r2)) ∧ Aside0 (kq ≤ k) ∧ Aside0 (wc.heap[gb209]? = some (.cells #[.bool a0_0, .bool a0_1, .bool a0_2, .bool a0_3, .bool a0_4, .bool a0_5, .bool a0_6, .bool a0_7, .int .i64 a0_8] 27 (0, 0))) ∧ Aside0 (Below w.heap.size w wc))
 case first =>
  have H := HC2.out
  clear HC2
  by_cases c4 : a0_8 < 0
  ·rw [if_pos c4] at H
   have c4b0 : decide (a0_8 < 0) = true := decide_eq_true c4
   clear c4
   (first | rw [c4b0] | (simp only [i64_w, i32_w]; rw [c4b0]) | skip)
   have H' := Aside0.mk H
   clear H
   have hcz5_0 : w3.cell? ⟨gb209, 0, none⟩ = some (.bool a0_0) := (blk_cell BK209.out 0).trans rfl
   have hcz5_1 : w3.cell? ⟨gb209, 1, none⟩ = some (.bool a0_1) := (blk_cell BK209.out 1).trans rfl
   have hcz5_2 : w3.cell? ⟨gb209, 2, none⟩ = some (.bool a0_2) := (blk_cell BK209.out 2).trans rfl
   have hcz5_3 : w3.cell? ⟨gb209, 3, none⟩ = some (.bool a0_3) := (blk_cell BK209.out 3).trans rfl
   have hcz5_4 : w3.cell? ⟨gb209, 4, none⟩ = some (.bool a0_4) := (blk_cell BK209.out 4).trans rfl
   have hcz5_5 : w3.cell? ⟨gb209, 5, none⟩ = some (.bool a0_5) := (blk_cell BK209.out 5).trans rfl
   have hcz5_6 : w3.cell? ⟨gb209, 6, none⟩ = some (.bool a0_6) := (blk_cell BK209.out 6).trans rfl
   have hcz5_7 : w3.cell? ⟨gb209, 7, none⟩ = some (.bool a0_7) := (blk_cell BK209.out 7).trans rfl
   have hcz5_8 : w3.cell? ⟨gb209, 8, none⟩ = some (.int .i64 a0_8) := (blk_cell BK209.out 8).trans rfl
   have hfz5_0 := blk_frozen BK209.out 0
   have hfz5_1 := blk_frozen BK209.out 1
   have hfz5_2 := blk_frozen BK209.out 2
   have hfz5_3 := blk_frozen BK209.out 3
   have hfz5_4 := blk_frozen BK209.out 4
   have hfz5_5 := blk_frozen BK209.out 5
   have hfz5_6 := blk_frozen BK209.out 6
   have hfz5_7 := blk_frozen BK209.out 7
   have hfz5_8 := blk_frozen BK209.out 8
   go_wp2
   repeat (go_quiet (fail); try go_wp2)
   go_meet
   case rel => exact ⟨_, (true), Z7_18, H', ⟨by first | omega | exact Nat.le_refl _⟩, ⟨by (with_reducible repeat (first | apply blk_drewN | apply blk_drew | apply blk_alloc)); exact BK209.out⟩, ⟨Z7_16⟩⟩
  rw [if_neg c4] at H
  have c4b0 : decide (a0_8 < 0) = false := decide_eq_false c4
  clear c4
  (first | rw [c4b0] | (simp only [i64_w, i32_w]; rw [c4b0]) | skip)
  have H' := Aside0.mk H
  clear H
  have hcz6_0 : w3.cell? ⟨gb209, 0, none⟩ = some (.bool a0_0) := (blk_cell BK209.out 0).trans rfl
  have hcz6_1 : w3.cell? ⟨gb209, 1, none⟩ = some (.bool a0_1) := (blk_cell BK209.out 1).trans rfl
  have hcz6_2 : w3.cell? ⟨gb209, 2, none⟩ = some (.bool a0_2) := (blk_cell BK209.out 2).trans rfl
  have hcz6_3 : w3.cell? ⟨gb209, 3, none⟩ = some (.bool a0_3) := (blk_cell BK209.out 3).trans rfl
  have hcz6_4 : w3.cell? ⟨gb209, 4, none⟩ = some (.bool a0_4) := (blk_cell BK209.out 4).trans rfl
  have hcz6_5 : w3.cell? ⟨gb209, 5, none⟩ = some (.bool a0_5) := (blk_cell BK209.out 5).trans rfl
  have hcz6_6 : w3.cell? ⟨gb209, 6, none⟩ = some (.bool a0_6) := (blk_cell BK209.out 6).trans rfl
  have hcz6_7 : w3.cell? ⟨gb209, 7, none⟩ = some (.bool a0_7) := (blk_cell BK209.out 7).trans rfl
  have hcz6_8 : w3.cell? ⟨gb209, 8, none⟩ = some (.int .i64 a0_8) := (blk_cell BK209.out 8).trans rfl
  have hfz6_0 := blk_frozen BK209.out 0
  have hfz6_1 := blk_frozen BK209.out 1
  have hfz6_2 := blk_frozen BK209.out 2
  have hfz6_3 := blk_frozen BK209.out 3
  have hfz6_4 := blk_frozen BK209.out 4
  have hfz6_5 := blk_frozen BK209.out 5
  have hfz6_6 := blk_frozen BK209.out 6
  have hfz6_7 := blk_frozen BK209.out 7
  have hfz6_8 := blk_frozen BK209.out 8
  go_wp2
  repeat (go_quiet (fail); try go_wp2)
  go_meet
  case rel => exact ⟨_, (decide (a0_8 > 4095)), Z7_18, H', ⟨by first | omega | exact Nat.le_refl _⟩, ⟨by (with_reducible repeat (first | apply blk_drewN | apply blk_drew | apply blk_alloc)); exact BK209.out⟩, ⟨Z7_16⟩⟩
 clear HC2
 try clear c1
 try clear p2
 try clear c4
 try clear c4b0
 try clear hcz5_0
 try clear hcz5_1
 try clear hcz5_2
 try clear hcz5_3
 try clear hcz5_4
 try clear hcz5_5
 try clear hcz5_6
 try clear hcz5_7
 try clear hcz5_8
 try clear hcz6_0
 try clear hcz6_1
 try clear hcz6_2
 try clear hcz6_3
 try clear hcz6_4
 try clear hcz6_5
 try clear hcz6_6
 try clear hcz6_7
 try clear hcz6_8
 try clear hfz5_0
 try clear hfz5_1
 try clear hfz5_2
 try clear hfz5_3
 try clear hfz5_4
 try clear hfz5_5
 try clear hfz5_6
 try clear hfz5_7
 try clear hfz5_8
 try clear hfz6_0
 try clear hfz6_1
 try clear hfz6_2
 try clear hfz6_3
 try clear hfz6_4
 try clear hfz6_5
 try clear hfz6_6
 try clear hfz6_7
 try clear hfz6_8
 obtain ⟨kq, x12_1, rfl, HA, HJ1, BK209, HB⟩ := hcut
 cases kq with
 | zero => exact absurd HA.out (by simp [spec_PutEntry.j0])
 | succ kj1 =>
  have H := HA.out
  clear HA
  simp only [spec_PutEntry.j0] at H
  by_cases c7 : x12_1 = true
  ·subst c7
   have H1 : (some (0, false)) = some (r1, r2) := by rw [if_pos rfl] at H; exact H
   clear H
   have H := H1
   clear H1
   simp only [Option.some.injEq, Prod.mk.injEq] at H
   obtain ⟨rfl, rfl⟩ := H
   go_wp2
   repeat (go_quiet (fail); try go_wp2)
   go_ret2
   exact ⟨Z7_12, Z7_16⟩
  replace c7 := Bool.eq_false_iff.mpr c7
  subst c7
  have H1 : ((spec_l6Flag.f kj1 a0_0 0).bind fun t210 => ((spec_l6Flag.f kj1 a0_1 1).bind fun t211 => ((spec_l6Flag.f kj1 a0_2 2).bind fun t212 => ((spec_l6Flag.f kj1 a0_3 3).bind fun t213 => ((spec_l6Flag.f kj1 a0_4 4).bind fun t214 => ((spec_l6Flag.f kj1 a0_5 5).bind fun t215 => ((spec_l6Flag.f kj1 a0_6 6).bind fun t216 => ((spec_l6Flag.f kj1 a0_7 7).bind fun t217 => (some (IntKind.u64.wrap ((IntKind.u64.wrap ((IntKind.u64.wrap ((IntKind.u64.wrap ((IntKind.u64.wrap ((IntKind.u64.wrap ((IntKind.u64.wrap ((IntKind.u64.wrap (t210 + t211)) + t212)) + t213)) + t214)) + t215)) + t216)) + t217)) + (IntKind.u64.wrap ((IntKind.u64.wrap (a0_8)) * 256))), true)))))))))) = some (r1, r2) := by rw [if_neg (show ¬ (false = true) by decide)] at H; exact H
  clear H
  have H := H1
  clear H1
  replace H := Option.bind_eq_some_iff.mp H
  obtain ⟨t210, A80, H⟩ := H
  replace H : ((spec_l6Flag.f kj1 a0_1 1).bind fun t211 => ((spec_l6Flag.f kj1 a0_2 2).bind fun t212 => ((spec_l6Flag.f kj1 a0_3 3).bind fun t213 => ((spec_l6Flag.f kj1 a0_4 4).bind fun t214 => ((spec_l6Flag.f kj1 a0_5 5).bind fun t215 => ((spec_l6Flag.f kj1 a0_6 6).bind fun t216 => ((spec_l6Flag.f kj1 a0_7 7).bind fun t217 => (some (IntKind.u64.wrap ((IntKind.u64.wrap ((IntKind.u64.wrap ((IntKind.u64.wrap ((IntKind.u64.wrap ((IntKind.u64.wrap ((IntKind.u64.wrap ((IntKind.u64.wrap (t210 + t211)) + t212)) + t213)) + t214)) + t215)) + t216)) + t217)) + (IntKind.u64.wrap ((IntKind.u64.wrap (a0_8)) * 256))), true))))))))) = some (r1, r2) := H
  have A8 := Aside0.mk A80
  clear A80
  replace H := Option.bind_eq_some_iff.mp H
  obtain ⟨t211, A90, H⟩ := H
  replace H : ((spec_l6Flag.f kj1 a0_2 2).bind fun t212 => ((spec_l6Flag.f kj1 a0_3 3).bind fun t213 => ((spec_l6Flag.f kj1 a0_4 4).bind fun t214 => ((spec_l6Flag.f kj1 a0_5 5).bind fun t215 => ((spec_l6Flag.f kj1 a0_6 6).bind fun t216 => ((spec_l6Flag.f kj1 a0_7 7).bind fun t217 => (some (IntKind.u64.wrap ((IntKind.u64.wrap ((IntKind.u64.wrap ((IntKind.u64.wrap ((IntKind.u64.wrap ((IntKind.u64.wrap ((IntKind.u64.wrap ((IntKind.u64.wrap (t210 + t211)) + t212)) + t213)) + t214)) + t215)) + t216)) + t217)) + (IntKind.u64.wrap ((IntKind.u64.wrap (a0_8)) * 256))), true)))))))) = some (r1, r2) := H
  have A9 := Aside0.mk A90
  clear A90
  replace H := Option.bind_eq_some_iff.mp H
  obtain ⟨t212, A100, H⟩ := H
  replace H : ((spec_l6Flag.f kj1 a0_3 3).bind fun t213 => ((spec_l6Flag.f kj1 a0_4 4).bind fun t214 => ((spec_l6Flag.f kj1 a0_5 5).bind fun t215 => ((spec_l6Flag.f kj1 a0_6 6).bind fun t216 => ((spec_l6Flag.f kj1 a0_7 7).bind fun t217 => (some (IntKind.u64.wrap ((IntKind.u64.wrap ((IntKind.u64.wrap ((IntKind.u64.wrap ((IntKind.u64.wrap ((IntKind.u64.wrap ((IntKind.u64.wrap ((IntKind.u64.wrap (t210 + t211)) + t212)) + t213)) + t214)) + t215)) + t216)) + t217)) + (IntKind.u64.wrap ((IntKind.u64.wrap (a0_8)) * 256))), true))))))) = some (r1, r2) := H
  have A10 := Aside0.mk A100
  clear A100
  replace H := Option.bind_eq_some_iff.mp H
  obtain ⟨t213, A110, H⟩ := H
  replace H : ((spec_l6Flag.f kj1 a0_4 4).bind fun t214 => ((spec_l6Flag.f kj1 a0_5 5).bind fun t215 => ((spec_l6Flag.f kj1 a0_6 6).bind fun t216 => ((spec_l6Flag.f kj1 a0_7 7).bind fun t217 => (some (IntKind.u64.wrap ((IntKind.u64.wrap ((IntKind.u64.wrap ((IntKind.u64.wrap ((IntKind.u64.wrap ((IntKind.u64.wrap ((IntKind.u64.wrap ((IntKind.u64.wrap (t210 + t211)) + t212)) + t213)) + t214)) + t215)) + t216)) + t217)) + (IntKind.u64.wrap ((IntKind.u64.wrap (a0_8)) * 256))), true)))))) = some (r1, r2) := H
  have A11 := Aside0.mk A110
  clear A110
  replace H := Option.bind_eq_some_iff.mp H
  obtain ⟨t214, A120, H⟩ := H
  replace H : ((spec_l6Flag.f kj1 a0_5 5).bind fun t215 => ((spec_l6Flag.f kj1 a0_6 6).bind fun t216 => ((spec_l6Flag.f kj1 a0_7 7).bind fun t217 => (some (IntKind.u64.wrap ((IntKind.u64.wrap ((IntKind.u64.wrap ((IntKind.u64.wrap ((IntKind.u64.wrap ((IntKind.u64.wrap ((IntKind.u64.wrap ((IntKind.u64.wrap (t210 + t211)) + t212)) + t213)) + t214)) + t215)) + t216)) + t217)) + (IntKind.u64.wrap ((IntKind.u64.wrap (a0_8)) * 256))), true))))) = some (r1, r2) := H
  have A12 := Aside0.mk A120
  clear A120
  replace H := Option.bind_eq_some_iff.mp H
  obtain ⟨t215, A130, H⟩ := H
  replace H : ((spec_l6Flag.f kj1 a0_6 6).bind fun t216 => ((spec_l6Flag.f kj1 a0_7 7).bind fun t217 => (some (IntKind.u64.wrap ((IntKind.u64.wrap ((IntKind.u64.wrap ((IntKind.u64.wrap ((IntKind.u64.wrap ((IntKind.u64.wrap ((IntKind.u64.wrap ((IntKind.u64.wrap (t210 + t211)) + t212)) + t213)) + t214)) + t215)) + t216)) + t217)) + (IntKind.u64.wrap ((IntKind.u64.wrap (a0_8)) * 256))), true)))) = some (r1, r2) := H
  have A13 := Aside0.mk A130
  clear A130
  replace H := Option.bind_eq_some_iff.mp H
  obtain ⟨t216, A140, H⟩ := H
  replace H : ((spec_l6Flag.f kj1 a0_7 7).bind fun t217 => (some (IntKind.u64.wrap ((IntKind.u64.wrap ((IntKind.u64.wrap ((IntKind.u64.wrap ((IntKind.u64.wrap ((IntKind.u64.wrap ((IntKind.u64.wrap ((IntKind.u64.wrap (t210 + t211)) + t212)) + t213)) + t214)) + t215)) + t216)) + t217)) + (IntKind.u64.wrap ((IntKind.u64.wrap (a0_8)) * 256))), true))) = some (r1, r2) := H
  have A14 := Aside0.mk A140
  clear A140
  replace H := Option.bind_eq_some_iff.mp H
  obtain ⟨t217, A150, H⟩ := H
  replace H : (some (IntKind.u64.wrap ((IntKind.u64.wrap ((IntKind.u64.wrap ((IntKind.u64.wrap ((IntKind.u64.wrap ((IntKind.u64.wrap ((IntKind.u64.wrap ((IntKind.u64.wrap (t210 + t211)) + t212)) + t213)) + t214)) + t215)) + t216)) + t217)) + (IntKind.u64.wrap ((IntKind.u64.wrap (a0_8)) * 256))), true)) = some (r1, r2) := H
  have A15 := Aside0.mk A150
  clear A150
  simp only [Option.some.injEq, Prod.mk.injEq] at H
  obtain ⟨rfl, rfl⟩ := H
  have hcz16_0 : wc.cell? ⟨gb209, 0, none⟩ = some (.bool a0_0) := (blk_cell BK209.out 0).trans rfl
  have hcz16_1 : wc.cell? ⟨gb209, 1, none⟩ = some (.bool a0_1) := (blk_cell BK209.out 1).trans rfl
  have hcz16_2 : wc.cell? ⟨gb209, 2, none⟩ = some (.bool a0_2) := (blk_cell BK209.out 2).trans rfl
  have hcz16_3 : wc.cell? ⟨gb209, 3, none⟩ = some (.bool a0_3) := (blk_cell BK209.out 3).trans rfl
  have hcz16_4 : wc.cell? ⟨gb209, 4, none⟩ = some (.bool a0_4) := (blk_cell BK209.out 4).trans rfl
  have hcz16_5 : wc.cell? ⟨gb209, 5, none⟩ = some (.bool a0_5) := (blk_cell BK209.out 5).trans rfl
  have hcz16_6 : wc.cell? ⟨gb209, 6, none⟩ = some (.bool a0_6) := (blk_cell BK209.out 6).trans rfl
  have hcz16_7 : wc.cell? ⟨gb209, 7, none⟩ = some (.bool a0_7) := (blk_cell BK209.out 7).trans rfl
  have hcz16_8 : wc.cell? ⟨gb209, 8, none⟩ = some (.int .i64 a0_8) := (blk_cell BK209.out 8).trans rfl
  have hfz16_0 := blk_frozen BK209.out 0
  have hfz16_1 := blk_frozen BK209.out 1
  have hfz16_2 := blk_frozen BK209.out 2
  have hfz16_3 := blk_frozen BK209.out 3
  have hfz16_4 := blk_frozen BK209.out 4
  have hfz16_5 := blk_frozen BK209.out 5
  have hfz16_6 := blk_frozen BK209.out 6
  have hfz16_7 := blk_frozen BK209.out 7
  have hfz16_8 := blk_frozen BK209.out 8
  go_wp2_with (first | (go_at_call 47; (with_reducible refine (spec_l6Flag.calls kj1 a0_0 0 t210 _ A8.out).mono ?_); rintro e w' ⟨rfl, ⟨nd, rfl⟩⟩; (try first | exact ⟨rfl, _, World.drewN_drewN _ _ _⟩ | exact ⟨rfl, _, Eq.trans (World.drewN_drewN _ _ _) (congrArg (World.drewN _) (Nat.add_assoc _ _ _))⟩)) | (go_at_call 47; (with_reducible refine (spec_l6Flag.calls kj1 a0_1 1 t211 _ A9.out).mono ?_); rintro e w' ⟨rfl, ⟨nd, rfl⟩⟩; (try first | exact ⟨rfl, _, World.drewN_drewN _ _ _⟩ | exact ⟨rfl, _, Eq.trans (World.drewN_drewN _ _ _) (congrArg (World.drewN _) (Nat.add_assoc _ _ _))⟩)) | (go_at_call 47; (with_reducible refine (spec_l6Flag.calls kj1 a0_2 2 t212 _ A10.out).mono ?_); rintro e w' ⟨rfl, ⟨nd, rfl⟩⟩; (try first | exact ⟨rfl, _, World.drewN_drewN _ _ _⟩ | exact ⟨rfl, _, Eq.trans (World.drewN_drewN _ _ _) (congrArg (World.drewN _) (Nat.add_assoc _ _ _))⟩)) | (go_at_call 47; (with_reducible refine (spec_l6Flag.calls kj1 a0_3 3 t213 _ A11.out).mono ?_); rintro e w' ⟨rfl, ⟨nd, rfl⟩⟩; (try first | exact ⟨rfl, _, World.drewN_drewN _ _ _⟩ | exact ⟨rfl, _, Eq.trans (World.drewN_drewN _ _ _) (congrArg (World.drewN _) (Nat.add_assoc _ _ _))⟩)) | (go_at_call 47; (with_reducible refine (spec_l6Flag.calls kj1 a0_4 4 t214 _ A12.out).mono ?_); rintro e w' ⟨rfl, ⟨nd, rfl⟩⟩; (try first | exact ⟨rfl, _, World.drewN_drewN _ _ _⟩ | exact ⟨rfl, _, Eq.trans (World.drewN_drewN _ _ _) (congrArg (World.drewN _) (Nat.add_assoc _ _ _))⟩)) | (go_at_call 47; (with_reducible refine (spec_l6Flag.calls kj1 a0_5 5 t215 _ A13.out).mono ?_); rintro e w' ⟨rfl, ⟨nd, rfl⟩⟩; (try first | exact ⟨rfl, _, World.drewN_drewN _ _ _⟩ | exact ⟨rfl, _, Eq.trans (World.drewN_drewN _ _ _) (congrArg (World.drewN _) (Nat.add_assoc _ _ _))⟩)) | (go_at_call 47; (with_reducible refine (spec_l6Flag.calls kj1 a0_6 6 t216 _ A14.out).mono ?_); rintro e w' ⟨rfl, ⟨nd, rfl⟩⟩; (try first | exact ⟨rfl, _, World.drewN_drewN _ _ _⟩ | exact ⟨rfl, _, Eq.trans (World.drewN_drewN _ _ _) (congrArg (World.drewN _) (Nat.add_assoc _ _ _))⟩)) | (go_at_call 47; (with_reducible refine (spec_l6Flag.calls kj1 a0_7 7 t217 _ A15.out).mono ?_); rintro e w' ⟨rfl, ⟨nd, rfl⟩⟩; (try first | exact ⟨rfl, _, World.drewN_drewN _ _ _⟩ | exact ⟨rfl, _, Eq.trans (World.drewN_drewN _ _ _) (congrArg (World.drewN _) (Nat.add_assoc _ _ _))⟩)))
  repeat (go_quiet (first | (go_at_call 47; (with_reducible refine (spec_l6Flag.calls kj1 a0_0 0 t210 _ A8.out).mono ?_); rintro e w' ⟨rfl, ⟨nd, rfl⟩⟩; (try first | exact ⟨rfl, _, World.drewN_drewN _ _ _⟩ | exact ⟨rfl, _, Eq.trans (World.drewN_drewN _ _ _) (congrArg (World.drewN _) (Nat.add_assoc _ _ _))⟩)) | (go_at_call 47; (with_reducible refine (spec_l6Flag.calls kj1 a0_1 1 t211 _ A9.out).mono ?_); rintro e w' ⟨rfl, ⟨nd, rfl⟩⟩; (try first | exact ⟨rfl, _, World.drewN_drewN _ _ _⟩ | exact ⟨rfl, _, Eq.trans (World.drewN_drewN _ _ _) (congrArg (World.drewN _) (Nat.add_assoc _ _ _))⟩)) | (go_at_call 47; (with_reducible refine (spec_l6Flag.calls kj1 a0_2 2 t212 _ A10.out).mono ?_); rintro e w' ⟨rfl, ⟨nd, rfl⟩⟩; (try first | exact ⟨rfl, _, World.drewN_drewN _ _ _⟩ | exact ⟨rfl, _, Eq.trans (World.drewN_drewN _ _ _) (congrArg (World.drewN _) (Nat.add_assoc _ _ _))⟩)) | (go_at_call 47; (with_reducible refine (spec_l6Flag.calls kj1 a0_3 3 t213 _ A11.out).mono ?_); rintro e w' ⟨rfl, ⟨nd, rfl⟩⟩; (try first | exact ⟨rfl, _, World.drewN_drewN _ _ _⟩ | exact ⟨rfl, _, Eq.trans (World.drewN_drewN _ _ _) (congrArg (World.drewN _) (Nat.add_assoc _ _ _))⟩)) | (go_at_call 47; (with_reducible refine (spec_l6Flag.calls kj1 a0_4 4 t214 _ A12.out).mono ?_); rintro e w' ⟨rfl, ⟨nd, rfl⟩⟩; (try first | exact ⟨rfl, _, World.drewN_drewN _ _ _⟩ | exact ⟨rfl, _, Eq.trans (World.drewN_drewN _ _ _) (congrArg (World.drewN _) (Nat.add_assoc _ _ _))⟩)) | (go_at_call 47; (with_reducible refine (spec_l6Flag.calls kj1 a0_5 5 t215 _ A13.out).mono ?_); rintro e w' ⟨rfl, ⟨nd, rfl⟩⟩; (try first | exact ⟨rfl, _, World.drewN_drewN _ _ _⟩ | exact ⟨rfl, _, Eq.trans (World.drewN_drewN _ _ _) (congrArg (World.drewN _) (Nat.add_assoc _ _ _))⟩)) | (go_at_call 47; (with_reducible refine (spec_l6Flag.calls kj1 a0_6 6 t216 _ A14.out).mono ?_); rintro e w' ⟨rfl, ⟨nd, rfl⟩⟩; (try first | exact ⟨rfl, _, World.drewN_drewN _ _ _⟩ | exact ⟨rfl, _, Eq.trans (World.drewN_drewN _ _ _) (congrArg (World.drewN _) (Nat.add_assoc _ _ _))⟩)) | (go_at_call 47; (with_reducible refine (spec_l6Flag.calls kj1 a0_7 7 t217 _ A15.out).mono ?_); rintro e w' ⟨rfl, ⟨nd, rfl⟩⟩; (try first | exact ⟨rfl, _, World.drewN_drewN _ _ _⟩ | exact ⟨rfl, _, Eq.trans (World.drewN_drewN _ _ _) (congrArg (World.drewN _) (Nat.add_assoc _ _ _))⟩))); try go_wp2_with (first | (go_at_call 47; (with_reducible refine (spec_l6Flag.calls kj1 a0_0 0 t210 _ A8.out).mono ?_); rintro e w' ⟨rfl, ⟨nd, rfl⟩⟩; (try first | exact ⟨rfl, _, World.drewN_drewN _ _ _⟩ | exact ⟨rfl, _, Eq.trans (World.drewN_drewN _ _ _) (congrArg (World.drewN _) (Nat.add_assoc _ _ _))⟩)) | (go_at_call 47; (with_reducible refine (spec_l6Flag.calls kj1 a0_1 1 t211 _ A9.out).mono ?_); rintro e w' ⟨rfl, ⟨nd, rfl⟩⟩; (try first | exact ⟨rfl, _, World.drewN_drewN _ _ _⟩ | exact ⟨rfl, _, Eq.trans (World.drewN_drewN _ _ _) (congrArg (World.drewN _) (Nat.add_assoc _ _ _))⟩)) | (go_at_call 47; (with_reducible refine (spec_l6Flag.calls kj1 a0_2 2 t212 _ A10.out).mono ?_); rintro e w' ⟨rfl, ⟨nd, rfl⟩⟩; (try first | exact ⟨rfl, _, World.drewN_drewN _ _ _⟩ | exact ⟨rfl, _, Eq.trans (World.drewN_drewN _ _ _) (congrArg (World.drewN _) (Nat.add_assoc _ _ _))⟩)) | (go_at_call 47; (with_reducible refine (spec_l6Flag.calls kj1 a0_3 3 t213 _ A11.out).mono ?_); rintro e w' ⟨rfl, ⟨nd, rfl⟩⟩; (try first | exact ⟨rfl, _, World.drewN_drewN _ _ _⟩ | exact ⟨rfl, _, Eq.trans (World.drewN_drewN _ _ _) (congrArg (World.drewN _) (Nat.add_assoc _ _ _))⟩)) | (go_at_call 47; (with_reducible refine (spec_l6Flag.calls kj1 a0_4 4 t214 _ A12.out).mono ?_); rintro e w' ⟨rfl, ⟨nd, rfl⟩⟩; (try first | exact ⟨rfl, _, World.drewN_drewN _ _ _⟩ | exact ⟨rfl, _, Eq.trans (World.drewN_drewN _ _ _) (congrArg (World.drewN _) (Nat.add_assoc _ _ _))⟩)) | (go_at_call 47; (with_reducible refine (spec_l6Flag.calls kj1 a0_5 5 t215 _ A13.out).mono ?_); rintro e w' ⟨rfl, ⟨nd, rfl⟩⟩; (try first | exact ⟨rfl, _, World.drewN_drewN _ _ _⟩ | exact ⟨rfl, _, Eq.trans (World.drewN_drewN _ _ _) (congrArg (World.drewN _) (Nat.add_assoc _ _ _))⟩)) | (go_at_call 47; (with_reducible refine (spec_l6Flag.calls kj1 a0_6 6 t216 _ A14.out).mono ?_); rintro e w' ⟨rfl, ⟨nd, rfl⟩⟩; (try first | exact ⟨rfl, _, World.drewN_drewN _ _ _⟩ | exact ⟨rfl, _, Eq.trans (World.drewN_drewN _ _ _) (congrArg (World.drewN _) (Nat.add_assoc _ _ _))⟩)) | (go_at_call 47; (with_reducible refine (spec_l6Flag.calls kj1 a0_7 7 t217 _ A15.out).mono ?_); rintro e w' ⟨rfl, ⟨nd, rfl⟩⟩; (try first | exact ⟨rfl, _, World.drewN_drewN _ _ _⟩ | exact ⟨rfl, _, Eq.trans (World.drewN_drewN _ _ _) (congrArg (World.drewN _) (Nat.add_assoc _ _ _))⟩))))
  go_ret2
  exact ⟨Z7_12, Z7_16⟩
/-! ### spec_l1Byte: function 96 -/
def spec_l1Byte.f (s0_0 : List Int) (s0_1 : Int) (s0_2 : Int) : Option (Int × Int × Int) := if s0_1 < (s0_0.length : Int) then (if 0 ≤ s0_1 then (some (Go.bits .and .i64 (wrap64 ((Go.bits .and .i64 (Go.bits .xor .i64 ((wrap64 ((wrap64 (s0_2 * 6364136223846793005)) + 1442695040888963407)) / 8589934592) ((wrap64 ((wrap64 (s0_2 * 6364136223846793005)) + 1442695040888963407)) / 35184372088832)) 255) + (wrap64 (rd s0_0 s0_1)))) 255, wrap64 (s0_1 + 1), wrap64 ((wrap64 (s0_2 * 6364136223846793005)) + 1442695040888963407))) else (none)) else (some (Go.bits .and .i64 (Go.bits .xor .i64 ((wrap64 ((wrap64 (s0_2 * 6364136223846793005)) + 1442695040888963407)) / 8589934592) ((wrap64 ((wrap64 (s0_2 * 6364136223846793005)) + 1442695040888963407)) / 35184372088832)) 255, s0_1, wrap64 ((wrap64 (s0_2 * 6364136223846793005)) + 1442695040888963407)))
set_option maxHeartbeats 8000000 in
set_option maxRecDepth 100000 in
theorem spec_l1Byte.calls (g : Nat) (s0_0 : List Int) (s0_1 : Int) (s0_2 : Int) (r1 : Int) (r2 : Int) (r3 : Int) (w0 w : World) (hI : IsS116 w0 w g s0_0 s0_1 s0_2) (hB : Below w0.heap.size w0 w) (h : spec_l1Byte.f s0_0 s0_1 s0_2 = some (r1, r2, r3)) :
  Calls Try.prog 96 #[.pointer (some ⟨g, 0, none⟩)] w fun e w' => e = .returned (.int .i64 r1) ∧ IsS116 w0 w' g s0_0 r2 r3 ∧ Below w0.heap.size w0 w' ∧ KeepBut w w' g none := by
 have HI0 := Aside0.mk hI
 have HK := Aside0.mk (KeepBut.refl w g none)
 have HL := Aside0.mk hB.size
 clear hI
 have HW0 := Aside0.mk hB.size
 have HB := Aside0.mk hB
 clear hB
 have H : (if s0_1 < (s0_0.length : Int) then (if 0 ≤ s0_1 then (some (Go.bits .and .i64 (wrap64 ((Go.bits .and .i64 (Go.bits .xor .i64 ((wrap64 ((wrap64 (s0_2 * 6364136223846793005)) + 1442695040888963407)) / 8589934592) ((wrap64 ((wrap64 (s0_2 * 6364136223846793005)) + 1442695040888963407)) / 35184372088832)) 255) + (wrap64 (rd s0_0 s0_1)))) 255, wrap64 (s0_1 + 1), wrap64 ((wrap64 (s0_2 * 6364136223846793005)) + 1442695040888963407))) else (none)) else (some (Go.bits .and .i64 (Go.bits .xor .i64 ((wrap64 ((wrap64 (s0_2 * 6364136223846793005)) + 1442695040888963407)) / 8589934592) ((wrap64 ((wrap64 (s0_2 * 6364136223846793005)) + 1442695040888963407)) / 35184372088832)) 255, s0_1, wrap64 ((wrap64 (s0_2 * 6364136223846793005)) + 1442695040888963407)))) = some (r1, r2, r3) := h
 clear h
 by_cases c2 : s0_1 < (s0_0.length : Int)
 ·rw [if_pos c2] at H
  have c2b0 : decide (s0_1 < (s0_0.length : Int)) = true := decide_eq_true c2
  clear c2
  by_cases c3 : 0 ≤ s0_1
  ·rw [if_pos c3] at H
   have c3b0 : decide (0 ≤ s0_1) = true := decide_eq_true c3
   clear c3
   simp only [Option.some.injEq, Prod.mk.injEq] at H
   obtain ⟨rfl, rfl, rfl⟩ := H
   obtain ⟨ASz4_0, cSz4_0, HGz4, hgz4, HSz4_0⟩ := HI0.out
   have hcz4_0 := cellS116_0 HGz4
   have hcz4_1 := cellS116_1 HGz4
   have hcz4_2 := cellS116_2 HGz4
   have hfz4_1 := blk_frozen HGz4 1
   have hfz4_2 := blk_frozen HGz4 2
   clear HGz4 hgz4
   have p218 : 0 ≤ (s0_1 : Int) := of_decide_eq_true Z7_25
   have q218 : s0_1 < (s0_0.length : Int) := of_decide_eq_true Z7_25
   obtain ⟨ad218, e218, hx218_0⟩ := Kd.at_int HSz4_0 s0_1 p218 q218
   cases e218
   have hn218_0 : ad218.block ≠ g := Nat.ne_of_lt (Nat.lt_of_lt_of_le (by have := World.block_lt_of_cell? _ _ hx218_0; first | rwa [add_block] at this | exact this) (IsS116.ge HI0.out))
   replace hx218_0 := pw_cell_below HB.out hx218_0
   replace hx218_0 := (cell_far (p := ⟨g, 2, none⟩) (by first | (rw [add_block]; exact hn218_0) | (show (Addr.add _ _).block ≠ _; rw [add_block]; exact hn218_0) | exact hn218_0) (.int .i64 (wrap64 ((wrap64 (s0_2 * 6364136223846793005)) + 1442695040888963407)))).trans hx218_0
   (try have hy218_0 := fun (n_ : Nat) => (show (((w.drewN n_).setCell ⟨g, 2, none⟩ (.int .i64 (wrap64 ((wrap64 (s0_2 * 6364136223846793005)) + 1442695040888963407))))).cell? _ = some _ from hx218_0))
   clear hn218_0
   replace p218 := eq_true p218
   replace q218 := eq_true q218
   go_enter Try.func96, Try.ntmps96
   go_wp2
   repeat (go_quiet (fail); try go_wp2)
   go_ret
   exact ⟨Z7_12, Z7_3, Z7_4, Z7_2⟩
  rw [if_neg c3] at H
  exact absurd H (by simp)
 rw [if_neg c2] at H
 have c2b0 : decide (s0_1 < (s0_0.length : Int)) = false := decide_eq_false c2
 clear c2
 simp only [Option.some.injEq, Prod.mk.injEq] at H
 obtain ⟨rfl, rfl, rfl⟩ := H
 obtain ⟨ASz5_0, cSz5_0, HGz5, hgz5, HSz5_0⟩ := HI0.out
 have hcz5_0 := cellS116_0 HGz5
 have hcz5_1 := cellS116_1 HGz5
 have hcz5_2 := cellS116_2 HGz5
 have hfz5_1 := blk_frozen HGz5 1
 have hfz5_2 := blk_frozen HGz5 2
 clear HGz5 hgz5
 go_enter Try.func96, Try.ntmps96
 go_wp2
 repeat (go_quiet (fail); try go_wp2)
 go_ret
 exact ⟨Z7_12, Z7_3, Z7_4, Z7_2⟩
/-! ### spec_l1Below: function 61 -/
def spec_l1Below.f (s0_0 : List Int) (s0_1 : Int) (s0_2 : Int) (a1 : Int) : Option (Int × Int × Int) := if a1 ≤ 0 then (some (0, s0_1, s0_2)) else (if a1 ≤ 256 then ((spec_l1Byte.f s0_0 s0_1 s0_2).bind fun bt219 => (if a1 = 0 then (none) else (some (Int.tmod bt219.1 a1, bt219.2.1, bt219.2.2)))) else ((spec_l1Byte.f s0_0 s0_1 s0_2).bind fun bt222 => ((spec_l1Byte.f s0_0 bt222.2.1 bt222.2.2).bind fun bt225 => ((spec_l1Byte.f s0_0 bt225.2.1 bt225.2.2).bind fun bt228 => (if a1 = 0 then (none) else (some (Int.tmod (wrap64 ((wrap64 ((wrap64 (bt222.1 * 65536)) + (wrap64 (bt225.1 * 256)))) + bt228.1)) a1, bt228.2.1, bt228.2.2)))))))
set_option maxHeartbeats 8000000 in
set_option maxRecDepth 100000 in
theorem spec_l1Below.calls (g : Nat) (s0_0 : List Int) (s0_1 : Int) (s0_2 : Int) (a1 : Int) (r1 : Int) (r2 : Int) (r3 : Int) (w0 w : World) (hI : IsS116 w0 w g s0_0 s0_1 s0_2) (hB : Below w0.heap.size w0 w) (h : spec_l1Below.f s0_0 s0_1 s0_2 a1 = some (r1, r2, r3)) :
  Calls Try.prog 61 #[.pointer (some ⟨g, 0, none⟩), .int .i64 a1] w fun e w' => e = .returned (.int .i64 r1) ∧ IsS116 w0 w' g s0_0 r2 r3 ∧ Below w0.heap.size w0 w' ∧ KeepBut w w' g none := by
 have HI0 := Aside0.mk hI
 have HK := Aside0.mk (KeepBut.refl w g none)
 have HL := Aside0.mk hB.size
 clear hI
 have HW0 := Aside0.mk hB.size
 have HB := Aside0.mk hB
 clear hB
 have H : (if a1 ≤ 0 then (some (0, s0_1, s0_2)) else (if a1 ≤ 256 then ((spec_l1Byte.f s0_0 s0_1 s0_2).bind fun bt219 => (if a1 = 0 then (none) else (some (Int.tmod bt219.1 a1, bt219.2.1, bt219.2.2)))) else ((spec_l1Byte.f s0_0 s0_1 s0_2).bind fun bt222 => ((spec_l1Byte.f s0_0 bt222.2.1 bt222.2.2).bind fun bt225 => ((spec_l1Byte.f s0_0 bt225.2.1 bt225.2.2).bind fun bt228 => (if a1 = 0 then (none) else (some (Int.tmod (wrap64 ((wrap64 ((wrap64 (bt222.1 * 65536)) + (wrap64 (bt225.1 * 256)))) + bt228.1)) a1, bt228.2.1, bt228.2.2)))))))) = some (r1, r2, r3) := h
 clear h
 by_cases c3 : a1 ≤ 0
 ·rw [if_pos c3] at H
  have c3b0 : decide (a1 ≤ 0) = true := decide_eq_true c3
  clear c3
  simp only [Option.some.injEq, Prod.mk.injEq] at H
  obtain ⟨rfl, rfl, rfl⟩ := H
  go_enter Try.func61, Try.ntmps61
  go_wp2
  go_ret
  exact ⟨Z7_12, Z7_3, Z7_4, Z7_2⟩
 rw [if_neg c3] at H
 have c3b0 : decide (a1 ≤ 0) = false := decide_eq_false c3
 clear c3
 by_cases c4 : a1 ≤ 256
 ·rw [if_pos c4] at H
  have c4b0 : decide (a1 ≤ 256) = true := decide_eq_true c4
  clear c4
  replace H := Option.bind_eq_some_iff.mp H
  obtain ⟨⟨t219, t220, t221⟩, A50, H⟩ := H
  replace H : (if a1 = 0 then (none) else (some (Int.tmod t219 a1, t220, t221))) = some (r1, r2, r3) := H
  have A5 := Aside0.mk A50
  clear A50
  by_cases c6 : a1 = 0
  ·rw [if_pos c6] at H
   exact absurd H (by simp)
  rw [if_neg c6] at H
  have c6b0 : (a1 == 0) = false := beq_eq_false_iff_ne.mpr c6
  have c6b1 : (a1 != 0) = true := bne_iff_ne.mpr c6
  simp only [Option.some.injEq, Prod.mk.injEq] at H
  obtain ⟨rfl, rfl, rfl⟩ := H
  go_enter Try.func61, Try.ntmps61
  go_wp2_with (first | ((with_reducible refine gate_callee (f := 96) rfl ?_); refine goesL_ (some 13) rfl rfl Try.func96 (by kernel_rfl) rfl #[.pointer (some ⟨g, 0, none⟩)] rfl Z7_7 ?_; (with_reducible refine (spec_l1Byte.calls g s0_0 s0_1 s0_2 t219 t220 t221 w0 _ ?side1 ?side2 A5.out).mono ?_); (case side1 => exact Z7_3); (case side2 => exact Z7_4); rintro e w7 ⟨rfl, hi, hb, hk⟩; refine ⟨_, rfl, ?_⟩; have n0_ := Aside0.mk (KeepBut.trans Z7_2 hk (.inl rfl)); have n1_ := Aside0.mk (hb); have n2_ := Aside0.mk (hi); clear HK; clear HB; clear HI0; have HK := n0_; have HB := n1_; have HI0 := n2_; clear n0_ n1_ n2_; (try clear hb); (try clear hb2); (try clear hk); (try clear hi)))
  go_ret
  exact ⟨Z7_12, Z7_3, Z7_4, Z7_2⟩
 rw [if_neg c4] at H
 have c4b0 : decide (a1 ≤ 256) = false := decide_eq_false c4
 clear c4
 replace H := Option.bind_eq_some_iff.mp H
 obtain ⟨⟨t222, t223, t224⟩, A80, H⟩ := H
 replace H : ((spec_l1Byte.f s0_0 t223 t224).bind fun bt225 => ((spec_l1Byte.f s0_0 bt225.2.1 bt225.2.2).bind fun bt228 => (if a1 = 0 then (none) else (some (Int.tmod (wrap64 ((wrap64 ((wrap64 (t222 * 65536)) + (wrap64 (bt225.1 * 256)))) + bt228.1)) a1, bt228.2.1, bt228.2.2))))) = some (r1, r2, r3) := H
 have A8 := Aside0.mk A80
 clear A80
 replace H := Option.bind_eq_some_iff.mp H
 obtain ⟨⟨t225, t226, t227⟩, A90, H⟩ := H
 replace H : ((spec_l1Byte.f s0_0 t226 t227).bind fun bt228 => (if a1 = 0 then (none) else (some (Int.tmod (wrap64 ((wrap64 ((wrap64 (t222 * 65536)) + (wrap64 (t225 * 256)))) + bt228.1)) a1, bt228.2.1, bt228.2.2)))) = some (r1, r2, r3) := H
 have A9 := Aside0.mk A90
 clear A90
 replace H := Option.bind_eq_some_iff.mp H
 obtain ⟨⟨t228, t229, t230⟩, A100, H⟩ := H
 replace H : (if a1 = 0 then (none) else (some (Int.tmod (wrap64 ((wrap64 ((wrap64 (t222 * 65536)) + (wrap64 (t225 * 256)))) + t228)) a1, t229, t230))) = some (r1, r2, r3) := H
 have A10 := Aside0.mk A100
 clear A100
 by_cases c11 : a1 = 0
 ·rw [if_pos c11] at H
  exact absurd H (by simp)
 rw [if_neg c11] at H
 have c11b0 : (a1 == 0) = false := beq_eq_false_iff_ne.mpr c11
 have c11b1 : (a1 != 0) = true := bne_iff_ne.mpr c11
 simp only [Option.some.injEq, Prod.mk.injEq] at H
 obtain ⟨rfl, rfl, rfl⟩ := H
 go_enter Try.func61, Try.ntmps61
 go_wp2_with (first | ((with_reducible refine gate_callee (f := 96) rfl ?_); refine goesL_ (some 17) rfl rfl Try.func96 (by kernel_rfl) rfl #[.pointer (some ⟨g, 0, none⟩)] rfl Z7_7 ?_; (with_reducible refine (spec_l1Byte.calls g s0_0 s0_1 s0_2 t222 t223 t224 w0 _ ?side1 ?side2 A8.out).mono ?_); (case side1 => exact Z7_3); (case side2 => exact Z7_4); rintro e w12 ⟨rfl, hi, hb, hk⟩; refine ⟨_, rfl, ?_⟩; have n0_ := Aside0.mk (KeepBut.trans Z7_2 hk (.inl rfl)); have n1_ := Aside0.mk (hb); have n2_ := Aside0.mk (hi); clear HK; clear HB; clear HI0; have HK := n0_; have HB := n1_; have HI0 := n2_; clear n0_ n1_ n2_; (try clear hb); (try clear hb2); (try clear hk); (try clear hi)) | ((with_reducible refine gate_callee (f := 96) rfl ?_); refine goesL_ (some 19) rfl rfl Try.func96 (by kernel_rfl) rfl #[.pointer (some ⟨g, 0, none⟩)] rfl Z7_7 ?_; (with_reducible refine (spec_l1Byte.calls g s0_0 t223 t224 t225 t226 t227 w0 _ ?side1 ?side2 A9.out).mono ?_); (case side1 => exact Z7_3); (case side2 => exact Z7_4); rintro e w13 ⟨rfl, hi, hb, hk⟩; refine ⟨_, rfl, ?_⟩; have n0_ := Aside0.mk (KeepBut.trans Z7_2 hk (.inl rfl)); have n1_ := Aside0.mk (hb); have n2_ := Aside0.mk (hi); clear HK; clear HB; clear HI0; have HK := n0_; have HB := n1_; have HI0 := n2_; clear n0_ n1_ n2_; (try clear hb); (try clear hb2); (try clear hk); (try clear hi)) | ((with_reducible refine gate_callee (f := 96) rfl ?_); refine goesL_ (some 21) rfl rfl Try.func96 (by kernel_rfl) rfl #[.pointer (some ⟨g, 0, none⟩)] rfl Z7_7 ?_; (with_reducible refine (spec_l1Byte.calls g s0_0 t226 t227 t228 t229 t230 w0 _ ?side1 ?side2 A10.out).mono ?_); (case side1 => exact Z7_3); (case side2 => exact Z7_4); rintro e w14 ⟨rfl, hi, hb, hk⟩; refine ⟨_, rfl, ?_⟩; have n0_ := Aside0.mk (KeepBut.trans Z7_2 hk (.inl rfl)); have n1_ := Aside0.mk (hb); have n2_ := Aside0.mk (hi); clear HK; clear HB; clear HI0; have HK := n0_; have HB := n1_; have HI0 := n2_; clear n0_ n1_ n2_; (try clear hb); (try clear hb2); (try clear hk); (try clear hi)))
 go_ret
 exact ⟨Z7_12, Z7_3, Z7_4, Z7_2⟩
/-! ### spec_l1Once: function 60 -/
def spec_l1Once.f (s0_0 : List Int) (s0_1 : Int) (s0_2 : Int) (a1 : Int) : Option (Bool × Int × Int) := (spec_l1Below.f s0_0 s0_1 s0_2 a1).bind fun bt231 => (some ((bt231.1 == 0), bt231.2.1, bt231.2.2))
set_option maxHeartbeats 8000000 in
set_option maxRecDepth 100000 in
theorem spec_l1Once.calls (g : Nat) (s0_0 : List Int) (s0_1 : Int) (s0_2 : Int) (a1 : Int) (r1 : Bool) (r2 : Int) (r3 : Int) (w0 w : World) (hI : IsS116 w0 w g s0_0 s0_1 s0_2) (hB : Below w0.heap.size w0 w) (h : spec_l1Once.f s0_0 s0_1 s0_2 a1 = some (r1, r2, r3)) :
  Calls Try.prog 60 #[.pointer (some ⟨g, 0, none⟩), .int .i64 a1] w fun e w' => e = .returned (.bool r1) ∧ IsS116 w0 w' g s0_0 r2 r3 ∧ Below w0.heap.size w0 w' ∧ KeepBut w w' g none := by
 have HI0 := Aside0.mk hI
 have HK := Aside0.mk (KeepBut.refl w g none)
 have HL := Aside0.mk hB.size
 clear hI
 have HW0 := Aside0.mk hB.size
 have HB := Aside0.mk hB
 clear hB
 have H : ((spec_l1Below.f s0_0 s0_1 s0_2 a1).bind fun bt231 => (some ((bt231.1 == 0), bt231.2.1, bt231.2.2))) = some (r1, r2, r3) := h
 clear h
 replace H := Option.bind_eq_some_iff.mp H
 obtain ⟨⟨t231, t232, t233⟩, A30, H⟩ := H
 replace H : (some ((t231 == 0), t232, t233)) = some (r1, r2, r3) := H
 have A3 := Aside0.mk A30
 clear A30
 simp only [Option.some.injEq, Prod.mk.injEq] at H
 obtain ⟨rfl, rfl, rfl⟩ := H
 go_enter Try.func60, Try.ntmps60
 go_wp2_with (first | ((with_reducible refine gate_callee (f := 61) rfl ?_); refine goesL_ (some 7) rfl rfl Try.func61 (by kernel_rfl) rfl #[.pointer (some ⟨g, 0, none⟩), .int .i64 a1] rfl Z7_7 ?_; (with_reducible refine (spec_l1Below.calls g s0_0 s0_1 s0_2 a1 t231 t232 t233 w0 _ ?side1 ?side2 A3.out).mono ?_); (case side1 => exact Z7_3); (case side2 => exact Z7_4); rintro e w4 ⟨rfl, hi, hb, hk⟩; refine ⟨_, rfl, ?_⟩; have n0_ := Aside0.mk (KeepBut.trans Z7_2 hk (.inl rfl)); have n1_ := Aside0.mk (hb); have n2_ := Aside0.mk (hi); clear HK; clear HB; clear HI0; have HK := n0_; have HB := n1_; have HI0 := n2_; clear n0_ n1_ n2_; (try clear hb); (try clear hb2); (try clear hk); (try clear hi)))
 go_ret
 exact ⟨Z7_12, Z7_3, Z7_4, Z7_2⟩
/-! ### spec_l6DrawEntry: function 94 -/
def spec_l6DrawEntry.f (s0_0 : List Int) (s0_1 : Int) (s0_2 : Int) : Option (Bool × Bool × Bool × Bool × Bool × Bool × Bool × Bool × Int × Int × Int) := (spec_l1Below.f s0_0 s0_1 s0_2 256).bind fun bt235 => ((spec_l1Below.f s0_0 bt235.2.1 bt235.2.2 16).bind fun bt239 => ((spec_l1Once.f s0_0 bt239.2.1 bt239.2.2 6).bind fun bt242 => (if bt242.1 = true then ((some (([4095, 0, 1023, 1024, 32, 64, 2048] : List Int) : List Int)).bind fun y245 => ((spec_l1Below.f s0_0 bt242.2.1 bt242.2.2 7).bind fun bt248 => (if 0 ≤ bt248.1 then (if bt248.1 < (y245.length : Int) then (some (true, ((Int.tmod bt235.1 2) == 0), ((Int.tmod bt235.1 8) == 0), ((Int.tmod bt235.1 5) == 0), decide ((Int.tmod bt235.1 3) > 0), ((Int.tmod bt235.1 16) == 3), ((Int.tmod bt235.1 32) == 5), ((Int.tmod bt235.1 4) == 1), rd y245 bt248.1, bt248.2.1, bt248.2.2)) else (none)) else (none)))) else (some (true, ((Int.tmod bt235.1 2) == 0), ((Int.tmod bt235.1 8) == 0), ((Int.tmod bt235.1 5) == 0), decide ((Int.tmod bt235.1 3) > 0), ((Int.tmod bt235.1 16) == 3), ((Int.tmod bt235.1 32) == 5), ((Int.tmod bt235.1 4) == 1), bt239.1, bt242.2.1, bt242.2.2)))))
set_option maxHeartbeats 8000000 in
set_option maxRecDepth 100000 in
theorem spec_l6DrawEntry.calls (g : Nat) (s0_0 : List Int) (s0_1 : Int) (s0_2 : Int) (r1 : Bool) (r2 : Bool) (r3 : Bool) (r4 : Bool) (r5 : Bool) (r6 : Bool) (r7 : Bool) (r8 : Bool) (r9 : Int) (r10 : Int) (r11 : Int) (w0 w : World) (hI : IsS116 w0 w g s0_0 s0_1 s0_2) (hB : Below w0.heap.size w0 w) (h : spec_l6DrawEntry.f s0_0 s0_1 s0_2 = some (r1, r2, r3, r4, r5, r6, r7, r8, r9, r10, r11)) :
  Calls Try.prog 94 #[.pointer (some ⟨g, 0, none⟩)] w fun e w' => e = .returned (.agg #[.bool r1, .bool r2, .bool r3, .bool r4, .bool r5, .bool r6, .bool r7, .bool r8, .int .i64 r9]) ∧ IsS116 w0 w' g s0_0 r10 r11 ∧ Below w0.heap.size w0 w' ∧ KeepBut w w' g none := by
 have hu27 := Try.underlying27
 have HI0 := Aside0.mk hI
 have HK := Aside0.mk (KeepBut.refl w g none)
 have HL := Aside0.mk hB.size
 clear hI
 have HW0 := Aside0.mk hB.size
 have HB := Aside0.mk hB
 clear hB
 have H : ((spec_l1Below.f s0_0 s0_1 s0_2 256).bind fun bt235 => ((spec_l1Below.f s0_0 bt235.2.1 bt235.2.2 16).bind fun bt239 => ((spec_l1Once.f s0_0 bt239.2.1 bt239.2.2 6).bind fun bt242 => (if bt242.1 = true then ((some (([4095, 0, 1023, 1024, 32, 64, 2048] : List Int) : List Int)).bind fun y245 => ((spec_l1Below.f s0_0 bt242.2.1 bt242.2.2 7).bind fun bt248 => (if 0 ≤ bt248.1 then (if bt248.1 < (y245.length : Int) then (some (true, ((Int.tmod bt235.1 2) == 0), ((Int.tmod bt235.1 8) == 0), ((Int.tmod bt235.1 5) == 0), decide ((Int.tmod bt235.1 3) > 0), ((Int.tmod bt235.1 16) == 3), ((Int.tmod bt235.1 32) == 5), ((Int.tmod bt235.1 4) == 1), rd y245 bt248.1, bt248.2.1, bt248.2.2)) else (none)) else (none)))) else (some (true, ((Int.tmod bt235.1 2) == 0), ((Int.tmod bt235.1 8) == 0), ((Int.tmod bt235.1 5) == 0), decide ((Int.tmod bt235.1 3) > 0), ((Int.tmod bt235.1 16) == 3), ((Int.tmod bt235.1 32) == 5), ((Int.tmod bt235.1 4) == 1), bt239.1, bt242.2.1, bt242.2.2)))))) = some (r1, r2, r3, r4, r5, r6, r7, r8, r9, r10, r11) := h
 clear h
 replace H := Option.bind_eq_some_iff.mp H
 obtain ⟨⟨t235, t236, t237⟩, A20, H⟩ := H
 replace H : ((spec_l1Below.f s0_0 t236 t237 16).bind fun bt239 => ((spec_l1Once.f s0_0 bt239.2.1 bt239.2.2 6).bind fun bt242 => (if bt242.1 = true then ((some (([4095, 0, 1023, 1024, 32, 64, 2048] : List Int) : List Int)).bind fun y245 => ((spec_l1Below.f s0_0 bt242.2.1 bt242.2.2 7).bind fun bt248 => (if 0 ≤ bt248.1 then (if bt248.1 < (y245.length : Int) then (some (true, ((Int.tmod t235 2) == 0), ((Int.tmod t235 8) == 0), ((Int.tmod t235 5) == 0), decide ((Int.tmod t235 3) > 0), ((Int.tmod t235 16) == 3), ((Int.tmod t235 32) == 5), ((Int.tmod t235 4) == 1), rd y245 bt248.1, bt248.2.1, bt248.2.2)) else (none)) else (none)))) else (some (true, ((Int.tmod t235 2) == 0), ((Int.tmod t235 8) == 0), ((Int.tmod t235 5) == 0), decide ((Int.tmod t235 3) > 0), ((Int.tmod t235 16) == 3), ((Int.tmod t235 32) == 5), ((Int.tmod t235 4) == 1), bt239.1, bt242.2.1, bt242.2.2))))) = some (r1, r2, r3, r4, r5, r6, r7, r8, r9, r10, r11) := H
 have A2 := Aside0.mk A20
 clear A20
 replace H := Option.bind_eq_some_iff.mp H
 obtain ⟨⟨t239, t240, t241⟩, A30, H⟩ := H
 replace H : ((spec_l1Once.f s0_0 t240 t241 6).bind fun bt242 => (if bt242.1 = true then ((some (([4095, 0, 1023, 1024, 32, 64, 2048] : List Int) : List Int)).bind fun y245 => ((spec_l1Below.f s0_0 bt242.2.1 bt242.2.2 7).bind fun bt248 => (if 0 ≤ bt248.1 then (if bt248.1 < (y245.length : Int) then (some (true, ((Int.tmod t235 2) == 0), ((Int.tmod t235 8) == 0), ((Int.tmod t235 5) == 0), decide ((Int.tmod t235 3) > 0), ((Int.tmod t235 16) == 3), ((Int.tmod t235 32) == 5), ((Int.tmod t235 4) == 1), rd y245 bt248.1, bt248.2.1, bt248.2.2)) else (none)) else (none)))) else (some (true, ((Int.tmod t235 2) == 0), ((Int.tmod t235 8) == 0), ((Int.tmod t235 5) == 0), decide ((Int.tmod t235 3) > 0), ((Int.tmod t235 16) == 3), ((Int.tmod t235 32) == 5), ((Int.tmod t235 4) == 1), t239, bt242.2.1, bt242.2.2)))) = some (r1, r2, r3, r4, r5, r6, r7, r8, r9, r10, r11) := H
 have A3 := Aside0.mk A30
 clear A30
 replace H := Option.bind_eq_some_iff.mp H
 obtain ⟨⟨t242, t243, t244⟩, A40, H⟩ := H
 replace H : (if t242 = true then ((some (([4095, 0, 1023, 1024, 32, 64, 2048] : List Int) : List Int)).bind fun y245 => ((spec_l1Below.f s0_0 t243 t244 7).bind fun bt248 => (if 0 ≤ bt248.1 then (if bt248.1 < (y245.length : Int) then (some (true, ((Int.tmod t235 2) == 0), ((Int.tmod t235 8) == 0), ((Int.tmod t235 5) == 0), decide ((Int.tmod t235 3) > 0), ((Int.tmod t235 16) == 3), ((Int.tmod t235 32) == 5), ((Int.tmod t235 4) == 1), rd y245 bt248.1, bt248.2.1, bt248.2.2)) else (none)) else (none)))) else (some (true, ((Int.tmod t235 2) == 0), ((Int.tmod t235 8) == 0), ((Int.tmod t235 5) == 0), decide ((Int.tmod t235 3) > 0), ((Int.tmod t235 16) == 3), ((Int.tmod t235 32) == 5), ((Int.tmod t235 4) == 1), t239, t243, t244))) = some (r1, r2, r3, r4, r5, r6, r7, r8, r9, r10, r11) := H
 have A4 := Aside0.mk A40
 clear A40
 by_cases c5 : t242 = true
 ·subst c5
  have H1 : ((some (([4095, 0, 1023, 1024, 32, 64, 2048] : List Int) : List Int)).bind fun y245 => ((spec_l1Below.f s0_0 t243 t244 7).bind fun bt248 => (if 0 ≤ bt248.1 then (if bt248.1 < (y245.length : Int) then (some (true, ((Int.tmod t235 2) == 0), ((Int.tmod t235 8) == 0), ((Int.tmod t235 5) == 0), decide ((Int.tmod t235 3) > 0), ((Int.tmod t235 16) == 3), ((Int.tmod t235 32) == 5), ((Int.tmod t235 4) == 1), rd y245 bt248.1, bt248.2.1, bt248.2.2)) else (none)) else (none)))) = some (r1, r2, r3, r4, r5, r6, r7, r8, r9, r10, r11) := by rw [if_pos rfl] at H; exact H
  clear H
  have H := H1
  clear H1
  obtain ⟨y245, hy245⟩ : ∃ y_ : List Int, y_ = (([4095, 0, 1023, 1024, 32, 64, 2048] : List Int)) := ⟨_, rfl⟩
  replace H : ((spec_l1Below.f s0_0 t243 t244 7).bind fun bt248 => (if 0 ≤ bt248.1 then (if bt248.1 < (y245.length : Int) then (some (true, ((Int.tmod t235 2) == 0), ((Int.tmod t235 8) == 0), ((Int.tmod t235 5) == 0), decide ((Int.tmod t235 3) > 0), ((Int.tmod t235 16) == 3), ((Int.tmod t235 32) == 5), ((Int.tmod t235 4) == 1), rd y245 bt248.1, bt248.2.1, bt248.2.2)) else (none)) else (none))) = some (r1, r2, r3, r4, r5, r6, r7, r8, r9, r10, r11) := by first | (rw [hy245]; with_reducible exact H) | (have H2_ := (Option.bind_some _ _).symm.trans H; rw [hy245]; with_reducible exact H2_) | (have H2_ := (Option.bind_some _ _).symm.trans H; with_reducible exact H2_) | with_reducible exact H | (rw [hy245]; exact H) | exact H
  have Ny245 := Aside0.mk hy245
  clear hy245
  replace H := Option.bind_eq_some_iff.mp H
  obtain ⟨⟨t248, t249, t250⟩, A60, H⟩ := H
  replace H : (if 0 ≤ t248 then (if t248 < (y245.length : Int) then (some (true, ((Int.tmod t235 2) == 0), ((Int.tmod t235 8) == 0), ((Int.tmod t235 5) == 0), decide ((Int.tmod t235 3) > 0), ((Int.tmod t235 16) == 3), ((Int.tmod t235 32) == 5), ((Int.tmod t235 4) == 1), rd y245 t248, t249, t250)) else (none)) else (none)) = some (r1, r2, r3, r4, r5, r6, r7, r8, r9, r10, r11) := H
  have A6 := Aside0.mk A60
  clear A60
  by_cases c7 : 0 ≤ t248
  ·rw [if_pos c7] at H
   have c7b0 : decide (0 ≤ t248) = true := decide_eq_true c7
   clear c7
   by_cases c8 : t248 < (y245.length : Int)
   ·rw [if_pos c8] at H
    have c8b0 : decide (t248 < (y245.length : Int)) = true := decide_eq_true c8
    clear c8
    simp only [Option.some.injEq, Prod.mk.injEq] at H
    obtain ⟨rfl, rfl, rfl, rfl, rfl, rfl, rfl, rfl, rfl, rfl, rfl⟩ := H
    go_enter Try.func94, Try.ntmps94
    go_wp2_with (first | ((with_reducible refine gate_dst (N := 2) rfl ?_); refine box_event ?hg (N := 2) ?hd (cs := #[.bool false, .bool false, .bool false, .bool false, .bool false, .bool false, .bool false, .bool false, .int .i64 0]) (t := 27) ?hr ?_; (case hd => rfl); (case hg => rfl); (case hr => exact Z7_20); intro gb234 hg w9 hbox hb; have n0_ := Aside0.mk (IsS116.below Z7_3 hb); have n1_ := Aside0.mk (KeepBut.trans Z7_2 (KeepBut.of_below hb g none) (.inl rfl)); have n2_ := Aside0.mk (below_step Z7_4 hb); have n3_ := Aside0.mk (hbox); have n4_ := Aside0.mk ((Z7_30 : w.heap.size ≤ gb234)); have n5_ := Aside0.mk ((Nat.le_trans HW0.out (Z7_30 : w.heap.size ≤ gb234) : w0.heap.size ≤ gb234)); have n6_ := Aside0.mk ((Z7_23 : g ≠ gb234)); have n7_ := Aside0.mk ((Z7_24 : gb234 ≠ g)); clear HI0; clear HK; clear HB; have HI0 := n0_; have HK := n1_; have HB := n2_; have BK234 := n3_; have GW234 := n4_; have GE234 := n5_; have NB0_234 := n6_; have NB234_0 := n7_; clear n0_ n1_ n2_ n3_ n4_ n5_ n6_ n7_; clear hb hbox hg) | ((with_reducible refine gate_callee (f := 61) rfl ?_); refine goesL_ (some 6) rfl rfl Try.func61 (by kernel_rfl) rfl #[.pointer (some ⟨g, 0, none⟩), .int .i64 256] rfl Z7_7 ?_; (with_reducible refine (spec_l1Below.calls g s0_0 s0_1 s0_2 256 t235 t236 t237 w0 _ ?side1 ?side2 A2.out).mono ?_); (case side1 => exact Z7_14); (case side2 => exact Z7_15); rintro e w10 ⟨rfl, hi, hb, hk⟩; refine ⟨_, rfl, ?_⟩; have n0_ := Aside0.mk (KeepBut.blk hk (g' := gb234) (o := .cells #[.bool false, .bool false, .bool false, .bool false, .bool false, .bool false, .bool false, .bool false, .int .i64 0] 27 (0, 0)) Z7_13 NB234_0.out (by simp)); have n1_ := Aside0.mk (KeepBut.trans Z7_10 hk (.inl rfl)); have n2_ := Aside0.mk (hb); have n3_ := Aside0.mk (hi); clear BK234; clear HK; clear HB; clear HI0; have BK234 := n0_; have HK := n1_; have HB := n2_; have HI0 := n3_; clear n0_ n1_ n2_ n3_; (try clear hb); (try clear hb2); (try clear hk); (try clear hi)) | ((with_reducible refine gate_dst (N := 4) rfl ?_); refine box_event ?hg (N := 4) ?hd (cs := #[.bool false, .bool false, .bool false, .bool false, .bool false, .bool false, .bool false, .bool false, .int .i64 0]) (t := 27) ?hr ?_; (case hd => rfl); (case hg => rfl); (case hr => exact Z7_20); intro gb238 hg w11 hbox hb; have n0_ := Aside0.mk (IsS116.below Z7_14 hb); have n1_ := Aside0.mk (blk_below (g := gb234) (o := .cells #[.bool false, .bool false, .bool false, .bool false, .bool false, .bool false, .bool false, .bool false, .int .i64 0] 27 (0, 0)) Z7_13 hb); have n2_ := Aside0.mk (KeepBut.trans Z7_10 (KeepBut.of_below hb g none) (.inl rfl)); have n3_ := Aside0.mk (below_step Z7_15 hb); have n4_ := Aside0.mk (hbox); have n5_ := Aside0.mk ((Z7_29 : w.heap.size ≤ gb238)); have n6_ := Aside0.mk ((Nat.le_trans HW0.out (Z7_29 : w.heap.size ≤ gb238) : w0.heap.size ≤ gb238)); have n7_ := Aside0.mk ((Z7_27 : gb234 ≠ gb238)); have n8_ := Aside0.mk ((Z7_28 : gb238 ≠ gb234)); have n9_ := Aside0.mk ((Z7_21 : g ≠ gb238)); have n10_ := Aside0.mk ((Z7_22 : gb238 ≠ g)); clear HI0; clear BK234; clear HK; clear HB; have HI0 := n0_; have BK234 := n1_; have HK := n2_; have HB := n3_; have BK238 := n4_; have GW238 := n5_; have GE238 := n6_; have NB234_238 := n7_; have NB238_234 := n8_; have NB0_238 := n9_; have NB238_0 := n10_; clear n0_ n1_ n2_ n3_ n4_ n5_ n6_ n7_ n8_ n9_ n10_; clear hb hbox hg; have hnb12 := NB238_234.out; have hnc12 := NB234_238.out; have hnb13 := NB238_0.out; have hnc13 := NB0_238.out; have hcz14_0 : w11.cell? ⟨gb238, 0, none⟩ = some (.bool false) := (blk_cell BK238.out 0).trans rfl; have hcz14_1 : w11.cell? ⟨gb238, 1, none⟩ = some (.bool false) := (blk_cell BK238.out 1).trans rfl; have hcz14_2 : w11.cell? ⟨gb238, 2, none⟩ = some (.bool false) := (blk_cell BK238.out 2).trans rfl; have hcz14_3 : w11.cell? ⟨gb238, 3, none⟩ = some (.bool false) := (blk_cell BK238.out 3).trans rfl; have hcz14_4 : w11.cell? ⟨gb238, 4, none⟩ = some (.bool false) := (blk_cell BK238.out 4).trans rfl; have hcz14_5 : w11.cell? ⟨gb238, 5, none⟩ = some (.bool false) := (blk_cell BK238.out 5).trans rfl; have hcz14_6 : w11.cell? ⟨gb238, 6, none⟩ = some (.bool false) := (blk_cell BK238.out 6).trans rfl; have hcz14_7 : w11.cell? ⟨gb238, 7, none⟩ = some (.bool false) := (blk_cell BK238.out 7).trans rfl; have hcz14_8 : w11.cell? ⟨gb238, 8, none⟩ = some (.int .i64 0) := (blk_cell BK238.out 8).trans rfl; have hfz14_0 := blk_frozen BK238.out 0; have hfz14_1 := blk_frozen BK238.out 1; have hfz14_2 := blk_frozen BK238.out 2; have hfz14_3 := blk_frozen BK238.out 3; have hfz14_4 := blk_frozen BK238.out 4; have hfz14_5 := blk_frozen BK238.out 5; have hfz14_6 := blk_frozen BK238.out 6; have hfz14_7 := blk_frozen BK238.out 7; have hfz14_8 := blk_frozen BK238.out 8) | ((with_reducible refine gate_callee (f := 61) rfl ?_); refine goesL_ (some 30) rfl rfl Try.func61 (by kernel_rfl) rfl #[.pointer (some ⟨g, 0, none⟩), .int .i64 16] rfl Z7_7 ?_; (with_reducible refine (spec_l1Below.calls g s0_0 t236 t237 16 t239 t240 t241 w0 _ ?side1 ?side2 A3.out).mono ?_); (case side1 => exact Z7_5); (case side2 => exact Z7_8); rintro e w15 ⟨rfl, hi, hb, hk⟩; refine ⟨_, rfl, ?_⟩; have n0_ := Aside0.mk (KeepBut.blk hk (g' := gb234) (o := .cells #[.bool false, .bool false, .bool false, .bool false, .bool false, .bool false, .bool false, .bool false, .int .i64 0] 27 (0, 0)) Z7_11 NB234_0.out (by simp)); have n1_ := Aside0.mk (KeepBut.blk hk (g' := gb238) (o := .cells #[.bool true, .bool ((Int.tmod t235 2) == 0), .bool ((Int.tmod t235 8) == 0), .bool ((Int.tmod t235 5) == 0), .bool (decide ((Int.tmod t235 3) > 0)), .bool ((Int.tmod t235 16) == 3), .bool ((Int.tmod t235 32) == 5), .bool ((Int.tmod t235 4) == 1), .int .i64 0] 27 (0, 0)) Z7_1 NB238_0.out (by simp)); have n2_ := Aside0.mk (KeepBut.trans Z7_6 hk (.inl rfl)); have n3_ := Aside0.mk (hb); have n4_ := Aside0.mk (hi); clear BK234; clear BK238; clear HK; clear HB; clear HI0; have BK234 := n0_; have BK238 := n1_; have HK := n2_; have HB := n3_; have HI0 := n4_; clear n0_ n1_ n2_ n3_ n4_; (try clear hb); (try clear hb2); (try clear hk); (try clear hi); have hcz16_0 : w15.cell? ⟨gb238, 0, none⟩ = some (.bool true) := (blk_cell BK238.out 0).trans rfl; have hcz16_1 : w15.cell? ⟨gb238, 1, none⟩ = some (.bool ((Int.tmod t235 2) == 0)) := (blk_cell BK238.out 1).trans rfl; have hcz16_2 : w15.cell? ⟨gb238, 2, none⟩ = some (.bool ((Int.tmod t235 8) == 0)) := (blk_cell BK238.out 2).trans rfl; have hcz16_3 : w15.cell? ⟨gb238, 3, none⟩ = some (.bool ((Int.tmod t235 5) == 0)) := (blk_cell BK238.out 3).trans rfl; have hcz16_4 : w15.cell? ⟨gb238, 4, none⟩ = some (.bool (decide ((Int.tmod t235 3) > 0))) := (blk_cell BK238.out 4).trans rfl; have hcz16_5 : w15.cell? ⟨gb238, 5, none⟩ = some (.bool ((Int.tmod t235 16) == 3)) := (blk_cell BK238.out 5).trans rfl; have hcz16_6 : w15.cell? ⟨gb238, 6, none⟩ = some (.bool ((Int.tmod t235 32) == 5)) := (blk_cell BK238.out 6).trans rfl; have hcz16_7 : w15.cell? ⟨gb238, 7, none⟩ = some (.bool ((Int.tmod t235 4) == 1)) := (blk_cell BK238.out 7).trans rfl; have hcz16_8 : w15.cell? ⟨gb238, 8, none⟩ = some (.int .i64 0) := (blk_cell BK238.out 8).trans rfl; have hfz16_0 := blk_frozen BK238.out 0; have hfz16_1 := blk_frozen BK238.out 1; have hfz16_2 := blk_frozen BK238.out 2; have hfz16_3 := blk_frozen BK238.out 3; have hfz16_4 := blk_frozen BK238.out 4; have hfz16_5 := blk_frozen BK238.out 5; have hfz16_6 := blk_frozen BK238.out 6; have hfz16_7 := blk_frozen BK238.out 7; have hfz16_8 := blk_frozen BK238.out 8) | ((with_reducible refine gate_callee (f := 60) rfl ?_); refine goesL_ (some 33) rfl rfl Try.func60 (by kernel_rfl) rfl #[.pointer (some ⟨g, 0, none⟩), .int .i64 6] rfl Z7_7 ?_; (with_reducible refine (spec_l1Once.calls g s0_0 t240 t241 6 true t243 t244 w0 _ ?side1 ?side2 A4.out).mono ?_); (case side1 => exact Z7_5); (case side2 => exact Z7_8); rintro e w17 ⟨rfl, hi, hb, hk⟩; refine ⟨_, rfl, ?_⟩; have n0_ := Aside0.mk (KeepBut.blk hk (g' := gb234) (o := .cells #[.bool false, .bool false, .bool false, .bool false, .bool false, .bool false, .bool false, .bool false, .int .i64 0] 27 (0, 0)) Z7_26 NB234_0.out (by simp)); have n1_ := Aside0.mk (KeepBut.blk hk (g' := gb238) (o := .cells #[.bool true, .bool ((Int.tmod t235 2) == 0), .bool ((Int.tmod t235 8) == 0), .bool ((Int.tmod t235 5) == 0), .bool (decide ((Int.tmod t235 3) > 0)), .bool ((Int.tmod t235 16) == 3), .bool ((Int.tmod t235 32) == 5), .bool ((Int.tmod t235 4) == 1), .int .i64 t239] 27 (0, 0)) Z7_17 NB238_0.out (by simp)); have n2_ := Aside0.mk (KeepBut.trans Z7_6 hk (.inl rfl)); have n3_ := Aside0.mk (hb); have n4_ := Aside0.mk (hi); clear BK234; clear BK238; clear HK; clear HB; clear HI0; have BK234 := n0_; have BK238 := n1_; have HK := n2_; have HB := n3_; have HI0 := n4_; clear n0_ n1_ n2_ n3_ n4_; (try clear hb); (try clear hb2); (try clear hk); (try clear hi)) | ((with_reducible refine gate_dst (N := 34) rfl ?_); refine Kd.R_lit (Kd.int .i64) _ 2 ?hg (N := 34) ?hd (xs := ([4095, 0, 1023, 1024, 32, 64, 2048] : List Int)) (inner := [.int .i64 4095, .int .i64 0, .int .i64 1023, .int .i64 1024, .int .i64 32, .int .i64 64, .int .i64 2048]) (ok := fun _ => True) (okp := fun _ => True) ?hr ?hp (fun _ hk => hk) trivial (Below.refl _ _) (Nat.le_refl _) (by simp) ?_; (case hd => rfl); (case hg => rfl); (case hr => exact Z7_20); (case hp => exact (Reps.one (show Kd.M (Kd.int .i64) _ _ _ 4095 [.int .i64 4095] from rfl) (Reps.one (show Kd.M (Kd.int .i64) _ _ _ 0 [.int .i64 0] from rfl) (Reps.one (show Kd.M (Kd.int .i64) _ _ _ 1023 [.int .i64 1023] from rfl) (Reps.one (show Kd.M (Kd.int .i64) _ _ _ 1024 [.int .i64 1024] from rfl) (Reps.one (show Kd.M (Kd.int .i64) _ _ _ 32 [.int .i64 32] from rfl) (Reps.one (show Kd.M (Kd.int .i64) _ _ _ 64 [.int .i64 64] from rfl) (Reps.one (show Kd.M (Kd.int .i64) _ _ _ 2048 [.int .i64 2048] from rfl) (Reps.none _ _))))))))); intro v246 w18 ho19 hb hg_ hnew_; clear hg_ hnew_; (first | rw [← Ny245.out] at ho19 | (simp only [Int.reduceToNat] at ho19; rw [← Ny245.out] at ho19)); have n0_ := Aside0.mk (Kd.R_lower ho19 (keep_size (w := w) (g := g) (row := none) Z7_6)); have n1_ := Aside0.mk (IsS116.below Z7_5 hb); have n2_ := Aside0.mk (blk_below (g := gb234) (o := .cells #[.bool false, .bool false, .bool false, .bool false, .bool false, .bool false, .bool false, .bool false, .int .i64 0] 27 (0, 0)) Z7_13 hb); have n3_ := Aside0.mk (blk_below (g := gb238) (o := .cells #[.bool true, .bool ((Int.tmod t235 2) == 0), .bool ((Int.tmod t235 8) == 0), .bool ((Int.tmod t235 5) == 0), .bool (decide ((Int.tmod t235 3) > 0)), .bool ((Int.tmod t235 16) == 3), .bool ((Int.tmod t235 32) == 5), .bool ((Int.tmod t235 4) == 1), .int .i64 t239] 27 (0, 0)) (by (with_reducible repeat (first | apply blk_drewN | apply blk_drew | apply blk_alloc)); exact BK238.out) hb); have n4_ := Aside0.mk (KeepBut.trans Z7_6 (KeepBut.of_below hb g none) (.inl rfl)); have n5_ := Aside0.mk (below_step Z7_8 hb); clear HI0; clear BK234; clear BK238; clear HK; clear HB; have HO247 := n0_; have HI0 := n1_; have BK234 := n2_; have BK238 := n3_; have HK := n4_; have HB := n5_; clear n0_ n1_ n2_ n3_ n4_ n5_; clear hb ho19) | ((with_reducible refine gate_callee (f := 61) rfl ?_); refine goesL_ (some 36) rfl rfl Try.func61 (by kernel_rfl) rfl #[.pointer (some ⟨g, 0, none⟩), .int .i64 7] rfl Z7_7 ?_; (with_reducible refine (spec_l1Below.calls g s0_0 t243 t244 7 t248 t249 t250 w0 _ ?side1 ?side2 A6.out).mono ?_); (case side1 => exact Z7_5); (case side2 => exact Z7_8); rintro e w20 ⟨rfl, hi, hb, hk⟩; refine ⟨_, rfl, ?_⟩; have n0_ := Aside0.mk (KeepBut.blk hk (g' := gb234) (o := .cells #[.bool false, .bool false, .bool false, .bool false, .bool false, .bool false, .bool false, .bool false, .int .i64 0] 27 (0, 0)) Z7_13 NB234_0.out (by simp)); have n1_ := Aside0.mk (KeepBut.blk hk (g' := gb238) (o := .cells #[.bool true, .bool ((Int.tmod t235 2) == 0), .bool ((Int.tmod t235 8) == 0), .bool ((Int.tmod t235 5) == 0), .bool (decide ((Int.tmod t235 3) > 0)), .bool ((Int.tmod t235 16) == 3), .bool ((Int.tmod t235 32) == 5), .bool ((Int.tmod t235 4) == 1), .int .i64 t239] 27 (0, 0)) (by (with_reducible repeat (first | apply blk_drewN | apply blk_drew | apply blk_alloc)); exact BK238.out) NB238_0.out (by simp)); have n2_ := Aside0.mk (Kd.R_mono (Kd.R_keep (IsS116.apart (show IsS116 w0 _ g s0_0 t243 t244 from by repeat (first | (with_reducible first | exact HI0.out | apply IsS116.alloc | apply IsS116.drewN | apply IsS116.drew | apply IsS116.set_1 | apply IsS116.set_2 | refine IsS116.far ?_ NB0_234.out _ | refine IsS116.far ?_ NB0_238.out _) | exact HI0.out)) (by (with_reducible repeat (first | apply Kd.R_alloc | apply Kd.R_drewN | apply Kd.R_drew)); exact HO247.out) (by decide)) hk (fun _ h => h.2)) (fun _ h => h.1)); have n3_ := Aside0.mk (KeepBut.trans Z7_6 hk (.inl rfl)); have n4_ := Aside0.mk (hb); have n5_ := Aside0.mk (hi); clear BK234; clear BK238; clear HO247; clear HK; clear HB; clear HI0; have BK234 := n0_; have BK238 := n1_; have HO247 := n2_; have HK := n3_; have HB := n4_; have HI0 := n5_; clear n0_ n1_ n2_ n3_ n4_ n5_; (try clear hb); (try clear hb2); (try clear hk); (try clear hi); obtain ⟨Ao21, co21, eo21⟩ := Kd.R_slice HO247.out; subst eo21; have p251 : 0 ≤ (t248 : Int) := of_decide_eq_true Z7_25; have q251 : t248 < (y245.length : Int) := of_decide_eq_true Z7_25; obtain ⟨ad251, e251, hx251_0⟩ := Kd.at_int (Kd.R_reads' HO247.out).2.2 t248 p251 q251; cases e251; replace p251 := eq_true p251; replace q251 := eq_true q251; have hcz22_0 : w20.cell? ⟨gb238, 0, none⟩ = some (.bool true) := (blk_cell BK238.out 0).trans rfl; have hcz22_1 : w20.cell? ⟨gb238, 1, none⟩ = some (.bool ((Int.tmod t235 2) == 0)) := (blk_cell BK238.out 1).trans rfl; have hcz22_2 : w20.cell? ⟨gb238, 2, none⟩ = some (.bool ((Int.tmod t235 8) == 0)) := (blk_cell BK238.out 2).trans rfl; have hcz22_3 : w20.cell? ⟨gb238, 3, none⟩ = some (.bool ((Int.tmod t235 5) == 0)) := (blk_cell BK238.out 3).trans rfl; have hcz22_4 : w20.cell? ⟨gb238, 4, none⟩ = some (.bool (decide ((Int.tmod t235 3) > 0))) := (blk_cell BK238.out 4).trans rfl; have hcz22_5 : w20.cell? ⟨gb238, 5, none⟩ = some (.bool ((Int.tmod t235 16) == 3)) := (blk_cell BK238.out 5).trans rfl; have hcz22_6 : w20.cell? ⟨gb238, 6, none⟩ = some (.bool ((Int.tmod t235 32) == 5)) := (blk_cell BK238.out 6).trans rfl; have hcz22_7 : w20.cell? ⟨gb238, 7, none⟩ = some (.bool ((Int.tmod t235 4) == 1)) := (blk_cell BK238.out 7).trans rfl; have hcz22_8 : w20.cell? ⟨gb238, 8, none⟩ = some (.int .i64 t239) := (blk_cell BK238.out 8).trans rfl; have hfz22_0 := blk_frozen BK238.out 0; have hfz22_1 := blk_frozen BK238.out 1; have hfz22_2 := blk_frozen BK238.out 2; have hfz22_3 := blk_frozen BK238.out 3; have hfz22_4 := blk_frozen BK238.out 4; have hfz22_5 := blk_frozen BK238.out 5; have hfz22_6 := blk_frozen BK238.out 6; have hfz22_7 := blk_frozen BK238.out 7; have hfz22_8 := blk_frozen BK238.out 8; have hnb23 := NB234_0.out; have hnc23 := NB0_234.out; have hcz24_0 : w20.cell? ⟨gb234, 0, none⟩ = some (.bool false) := (blk_cell BK234.out 0).trans rfl; have hcz24_1 : w20.cell? ⟨gb234, 1, none⟩ = some (.bool false) := (blk_cell BK234.out 1).trans rfl; have hcz24_2 : w20.cell? ⟨gb234, 2, none⟩ = some (.bool false) := (blk_cell BK234.out 2).trans rfl; have hcz24_3 : w20.cell? ⟨gb234, 3, none⟩ = some (.bool false) := (blk_cell BK234.out 3).trans rfl; have hcz24_4 : w20.cell? ⟨gb234, 4, none⟩ = some (.bool false) := (blk_cell BK234.out 4).trans rfl; have hcz24_5 : w20.cell? ⟨gb234, 5, none⟩ = some (.bool false) := (blk_cell BK234.out 5).trans rfl; have hcz24_6 : w20.cell? ⟨gb234, 6, none⟩ = some (.bool false) := (blk_cell BK234.out 6).trans rfl; have hcz24_7 : w20.cell? ⟨gb234, 7, none⟩ = some (.bool false) := (blk_cell BK234.out 7).trans rfl; have hcz24_8 : w20.cell? ⟨gb234, 8, none⟩ = some (.int .i64 0) := (blk_cell BK234.out 8).trans rfl; have hfz24_0 := blk_frozen BK234.out 0; have hfz24_1 := blk_frozen BK234.out 1; have hfz24_2 := blk_frozen BK234.out 2; have hfz24_3 := blk_frozen BK234.out 3; have hfz24_4 := blk_frozen BK234.out 4; have hfz24_5 := blk_frozen BK234.out 5; have hfz24_6 := blk_frozen BK234.out 6; have hfz24_7 := blk_frozen BK234.out 7; have hfz24_8 := blk_frozen BK234.out 8))
    refine bodyPost_ret (results_cell_row rfl _ _ gb234 27 #[.bool true, .bool ((Int.tmod t235 2) == 0), .bool ((Int.tmod t235 8) == 0), .bool ((Int.tmod t235 5) == 0), .bool (decide ((Int.tmod t235 3) > 0)), .bool ((Int.tmod t235 16) == 3), .bool ((Int.tmod t235 32) == 5), .bool ((Int.tmod t235 4) == 1), .int .i64 (rd y245 t248)] (0, 0) _ rfl (by (with_reducible repeat (first | apply blk_drewN | apply blk_drew | apply blk_alloc)); refine blk_put (cs := #[.bool true, .bool ((Int.tmod t235 2) == 0), .bool ((Int.tmod t235 8) == 0), .bool ((Int.tmod t235 5) == 0), .bool (decide ((Int.tmod t235 3) > 0)), .bool ((Int.tmod t235 16) == 3), .bool ((Int.tmod t235 32) == 5), .bool ((Int.tmod t235 4) == 1), .int .i64 0]) ?_ 8 _ rfl; (with_reducible repeat (first | apply blk_drewN | apply blk_drew | apply blk_alloc)); refine blk_put (cs := #[.bool true, .bool ((Int.tmod t235 2) == 0), .bool ((Int.tmod t235 8) == 0), .bool ((Int.tmod t235 5) == 0), .bool (decide ((Int.tmod t235 3) > 0)), .bool ((Int.tmod t235 16) == 3), .bool ((Int.tmod t235 32) == 5), .bool false, .int .i64 0]) ?_ 7 _ rfl; (with_reducible repeat (first | apply blk_drewN | apply blk_drew | apply blk_alloc)); refine blk_put (cs := #[.bool true, .bool ((Int.tmod t235 2) == 0), .bool ((Int.tmod t235 8) == 0), .bool ((Int.tmod t235 5) == 0), .bool (decide ((Int.tmod t235 3) > 0)), .bool ((Int.tmod t235 16) == 3), .bool false, .bool false, .int .i64 0]) ?_ 6 _ rfl; (with_reducible repeat (first | apply blk_drewN | apply blk_drew | apply blk_alloc)); refine blk_put (cs := #[.bool true, .bool ((Int.tmod t235 2) == 0), .bool ((Int.tmod t235 8) == 0), .bool ((Int.tmod t235 5) == 0), .bool (decide ((Int.tmod t235 3) > 0)), .bool false, .bool false, .bool false, .int .i64 0]) ?_ 5 _ rfl; (with_reducible repeat (first | apply blk_drewN | apply blk_drew | apply blk_alloc)); refine blk_put (cs := #[.bool true, .bool ((Int.tmod t235 2) == 0), .bool ((Int.tmod t235 8) == 0), .bool ((Int.tmod t235 5) == 0), .bool false, .bool false, .bool false, .bool false, .int .i64 0]) ?_ 4 _ rfl; (with_reducible repeat (first | apply blk_drewN | apply blk_drew | apply blk_alloc)); refine blk_put (cs := #[.bool true, .bool ((Int.tmod t235 2) == 0), .bool ((Int.tmod t235 8) == 0), .bool false, .bool false, .bool false, .bool false, .bool false, .int .i64 0]) ?_ 3 _ rfl; (with_reducible repeat (first | apply blk_drewN | apply blk_drew | apply blk_alloc)); refine blk_put (cs := #[.bool true, .bool ((Int.tmod t235 2) == 0), .bool false, .bool false, .bool false, .bool false, .bool false, .bool false, .int .i64 0]) ?_ 2 _ rfl; (with_reducible repeat (first | apply blk_drewN | apply blk_drew | apply blk_alloc)); refine blk_put (cs := #[.bool true, .bool false, .bool false, .bool false, .bool false, .bool false, .bool false, .bool false, .int .i64 0]) ?_ 1 _ rfl; (with_reducible repeat (first | apply blk_drewN | apply blk_drew | apply blk_alloc)); refine blk_put (cs := #[.bool false, .bool false, .bool false, .bool false, .bool false, .bool false, .bool false, .bool false, .int .i64 0]) ?_ 0 _ rfl; (with_reducible repeat (first | apply blk_drewN | apply blk_drew | apply blk_alloc)); refine blk_far ?_ NB234_238.out _; (with_reducible repeat (first | apply blk_drewN | apply blk_drew | apply blk_alloc)); exact BK234.out) Try.underlying27 rfl (by kernel_rfl)) rfl ?_
    exact ⟨Z7_12, Z7_5, Z7_8, Z7_6⟩
   rw [if_neg c8] at H
   exact absurd H (by simp)
  rw [if_neg c7] at H
  exact absurd H (by simp)
 replace c5 := Bool.eq_false_iff.mpr c5
 subst c5
 have H1 : (some (true, ((Int.tmod t235 2) == 0), ((Int.tmod t235 8) == 0), ((Int.tmod t235 5) == 0), decide ((Int.tmod t235 3) > 0), ((Int.tmod t235 16) == 3), ((Int.tmod t235 32) == 5), ((Int.tmod t235 4) == 1), t239, t243, t244)) = some (r1, r2, r3, r4, r5, r6, r7, r8, r9, r10, r11) := by rw [if_neg (show ¬ (false = true) by decide)] at H; exact H
 clear H
 have H := H1
 clear H1
 simp only [Option.some.injEq, Prod.mk.injEq] at H
 obtain ⟨rfl, rfl, rfl, rfl, rfl, rfl, rfl, rfl, rfl, rfl, rfl⟩ := H
 go_enter Try.func94, Try.ntmps94
 go_wp2_with (first | ((with_reducible refine gate_dst (N := 2) rfl ?_); refine box_event ?hg (N := 2) ?hd (cs := #[.bool false, .bool false, .bool false, .bool false, .bool false, .bool false, .bool false, .bool false, .int .i64 0]) (t := 27) ?hr ?_; (case hd => rfl); (case hg => rfl); (case hr => exact Z7_20); intro gb234 hg w25 hbox hb; have n0_ := Aside0.mk (IsS116.below Z7_3 hb); have n1_ := Aside0.mk (KeepBut.trans Z7_2 (KeepBut.of_below hb g none) (.inl rfl)); have n2_ := Aside0.mk (below_step Z7_4 hb); have n3_ := Aside0.mk (hbox); have n4_ := Aside0.mk ((Z7_30 : w.heap.size ≤ gb234)); have n5_ := Aside0.mk ((Nat.le_trans HW0.out (Z7_30 : w.heap.size ≤ gb234) : w0.heap.size ≤ gb234)); have n6_ := Aside0.mk ((Z7_23 : g ≠ gb234)); have n7_ := Aside0.mk ((Z7_24 : gb234 ≠ g)); clear HI0; clear HK; clear HB; have HI0 := n0_; have HK := n1_; have HB := n2_; have BK234 := n3_; have GW234 := n4_; have GE234 := n5_; have NB0_234 := n6_; have NB234_0 := n7_; clear n0_ n1_ n2_ n3_ n4_ n5_ n6_ n7_; clear hb hbox hg) | ((with_reducible refine gate_callee (f := 61) rfl ?_); refine goesL_ (some 6) rfl rfl Try.func61 (by kernel_rfl) rfl #[.pointer (some ⟨g, 0, none⟩), .int .i64 256] rfl Z7_7 ?_; (with_reducible refine (spec_l1Below.calls g s0_0 s0_1 s0_2 256 t235 t236 t237 w0 _ ?side1 ?side2 A2.out).mono ?_); (case side1 => exact Z7_14); (case side2 => exact Z7_15); rintro e w26 ⟨rfl, hi, hb, hk⟩; refine ⟨_, rfl, ?_⟩; have n0_ := Aside0.mk (KeepBut.blk hk (g' := gb234) (o := .cells #[.bool false, .bool false, .bool false, .bool false, .bool false, .bool false, .bool false, .bool false, .int .i64 0] 27 (0, 0)) Z7_13 NB234_0.out (by simp)); have n1_ := Aside0.mk (KeepBut.trans Z7_10 hk (.inl rfl)); have n2_ := Aside0.mk (hb); have n3_ := Aside0.mk (hi); clear BK234; clear HK; clear HB; clear HI0; have BK234 := n0_; have HK := n1_; have HB := n2_; have HI0 := n3_; clear n0_ n1_ n2_ n3_; (try clear hb); (try clear hb2); (try clear hk); (try clear hi)) | ((with_reducible refine gate_dst (N := 4) rfl ?_); refine box_event ?hg (N := 4) ?hd (cs := #[.bool false, .bool false, .bool false, .bool false, .bool false, .bool false, .bool false, .bool false, .int .i64 0]) (t := 27) ?hr ?_; (case hd => rfl); (case hg => rfl); (case hr => exact Z7_20); intro gb238 hg w27 hbox hb; have n0_ := Aside0.mk (IsS116.below Z7_14 hb); have n1_ := Aside0.mk (blk_below (g := gb234) (o := .cells #[.bool false, .bool false, .bool false, .bool false, .bool false, .bool false, .bool false, .bool false, .int .i64 0] 27 (0, 0)) Z7_13 hb); have n2_ := Aside0.mk (KeepBut.trans Z7_10 (KeepBut.of_below hb g none) (.inl rfl)); have n3_ := Aside0.mk (below_step Z7_15 hb); have n4_ := Aside0.mk (hbox); have n5_ := Aside0.mk ((Z7_29 : w.heap.size ≤ gb238)); have n6_ := Aside0.mk ((Nat.le_trans HW0.out (Z7_29 : w.heap.size ≤ gb238) : w0.heap.size ≤ gb238)); have n7_ := Aside0.mk ((Z7_27 : gb234 ≠ gb238)); have n8_ := Aside0.mk ((Z7_28 : gb238 ≠ gb234)); have n9_ := Aside0.mk ((Z7_21 : g ≠ gb238)); have n10_ := Aside0.mk ((Z7_22 : gb238 ≠ g)); clear HI0; clear BK234; clear HK; clear HB; have HI0 := n0_; have BK234 := n1_; have HK := n2_; have HB := n3_; have BK238 := n4_; have GW238 := n5_; have GE238 := n6_; have NB234_238 := n7_; have NB238_234 := n8_; have NB0_238 := n9_; have NB238_0 := n10_; clear n0_ n1_ n2_ n3_ n4_ n5_ n6_ n7_ n8_ n9_ n10_; clear hb hbox hg; have hnb28 := NB238_234.out; have hnc28 := NB234_238.out; have hnb29 := NB238_0.out; have hnc29 := NB0_238.out; have hcz30_0 : w27.cell? ⟨gb238, 0, none⟩ = some (.bool false) := (blk_cell BK238.out 0).trans rfl; have hcz30_1 : w27.cell? ⟨gb238, 1, none⟩ = some (.bool false) := (blk_cell BK238.out 1).trans rfl; have hcz30_2 : w27.cell? ⟨gb238, 2, none⟩ = some (.bool false) := (blk_cell BK238.out 2).trans rfl; have hcz30_3 : w27.cell? ⟨gb238, 3, none⟩ = some (.bool false) := (blk_cell BK238.out 3).trans rfl; have hcz30_4 : w27.cell? ⟨gb238, 4, none⟩ = some (.bool false) := (blk_cell BK238.out 4).trans rfl; have hcz30_5 : w27.cell? ⟨gb238, 5, none⟩ = some (.bool false) := (blk_cell BK238.out 5).trans rfl; have hcz30_6 : w27.cell? ⟨gb238, 6, none⟩ = some (.bool false) := (blk_cell BK238.out 6).trans rfl; have hcz30_7 : w27.cell? ⟨gb238, 7, none⟩ = some (.bool false) := (blk_cell BK238.out 7).trans rfl; have hcz30_8 : w27.cell? ⟨gb238, 8, none⟩ = some (.int .i64 0) := (blk_cell BK238.out 8).trans rfl; have hfz30_0 := blk_frozen BK238.out 0; have hfz30_1 := blk_frozen BK238.out 1; have hfz30_2 := blk_frozen BK238.out 2; have hfz30_3 := blk_frozen BK238.out 3; have hfz30_4 := blk_frozen BK238.out 4; have hfz30_5 := blk_frozen BK238.out 5; have hfz30_6 := blk_frozen BK238.out 6; have hfz30_7 := blk_frozen BK238.out 7; have hfz30_8 := blk_frozen BK238.out 8) | ((with_reducible refine gate_callee (f := 61) rfl ?_); refine goesL_ (some 30) rfl rfl Try.func61 (by kernel_rfl) rfl #[.pointer (some ⟨g, 0, none⟩), .int .i64 16] rfl Z7_7 ?_; (with_reducible refine (spec_l1Below.calls g s0_0 t236 t237 16 t239 t240 t241 w0 _ ?side1 ?side2 A3.out).mono ?_); (case side1 => exact Z7_5); (case side2 => exact Z7_8); rintro e w31 ⟨rfl, hi, hb, hk⟩; refine ⟨_, rfl, ?_⟩; have n0_ := Aside0.mk (KeepBut.blk hk (g' := gb234) (o := .cells #[.bool false, .bool false, .bool false, .bool false, .bool false, .bool false, .bool false, .bool false, .int .i64 0] 27 (0, 0)) Z7_11 NB234_0.out (by simp)); have n1_ := Aside0.mk (KeepBut.blk hk (g' := gb238) (o := .cells #[.bool true, .bool ((Int.tmod t235 2) == 0), .bool ((Int.tmod t235 8) == 0), .bool ((Int.tmod t235 5) == 0), .bool (decide ((Int.tmod t235 3) > 0)), .bool ((Int.tmod t235 16) == 3), .bool ((Int.tmod t235 32) == 5), .bool ((Int.tmod t235 4) == 1), .int .i64 0] 27 (0, 0)) Z7_1 NB238_0.out (by simp)); have n2_ := Aside0.mk (KeepBut.trans Z7_6 hk (.inl rfl)); have n3_ := Aside0.mk (hb); have n4_ := Aside0.mk (hi); clear BK234; clear BK238; clear HK; clear HB; clear HI0; have BK234 := n0_; have BK238 := n1_; have HK := n2_; have HB := n3_; have HI0 := n4_; clear n0_ n1_ n2_ n3_ n4_; (try clear hb); (try clear hb2); (try clear hk); (try clear hi); have hcz32_0 : w31.cell? ⟨gb238, 0, none⟩ = some (.bool true) := (blk_cell BK238.out 0).trans rfl; have hcz32_1 : w31.cell? ⟨gb238, 1, none⟩ = some (.bool ((Int.tmod t235 2) == 0)) := (blk_cell BK238.out 1).trans rfl; have hcz32_2 : w31.cell? ⟨gb238, 2, none⟩ = some (.bool ((Int.tmod t235 8) == 0)) := (blk_cell BK238.out 2).trans rfl; have hcz32_3 : w31.cell? ⟨gb238, 3, none⟩ = some (.bool ((Int.tmod t235 5) == 0)) := (blk_cell BK238.out 3).trans rfl; have hcz32_4 : w31.cell? ⟨gb238, 4, none⟩ = some (.bool (decide ((Int.tmod t235 3) > 0))) := (blk_cell BK238.out 4).trans rfl; have hcz32_5 : w31.cell? ⟨gb238, 5, none⟩ = some (.bool ((Int.tmod t235 16) == 3)) := (blk_cell BK238.out 5).trans rfl; have hcz32_6 : w31.cell? ⟨gb238, 6, none⟩ = some (.bool ((Int.tmod t235 32) == 5)) := (blk_cell BK238.out 6).trans rfl; have hcz32_7 : w31.cell? ⟨gb238, 7, none⟩ = some (.bool ((Int.tmod t235 4) == 1)) := (blk_cell BK238.out 7).trans rfl; have hcz32_8 : w31.cell? ⟨gb238, 8, none⟩ = some (.int .i64 0) := (blk_cell BK238.out 8).trans rfl; have hfz32_0 := blk_frozen BK238.out 0; have hfz32_1 := blk_frozen BK238.out 1; have hfz32_2 := blk_frozen BK238.out 2; have hfz32_3 := blk_frozen BK238.out 3; have hfz32_4 := blk_frozen BK238.out 4; have hfz32_5 := blk_frozen BK238.out 5; have hfz32_6 := blk_frozen BK238.out 6; have hfz32_7 := blk_frozen BK238.out 7; have hfz32_8 := blk_frozen BK238.out 8) | ((with_reducible refine gate_callee (f := 60) rfl ?_); refine goesL_ (some 33) rfl rfl Try.func60 (by kernel_rfl) rfl #[.pointer (some ⟨g, 0, none⟩), .int .i64 6] rfl Z7_7 ?_; (with_reducible refine (spec_l1Once.calls g s0_0 t240 t241 6 false t243 t244 w0 _ ?side1 ?side2 A4.out).mono ?_); (case side1 => exact Z7_5); (case side2 => exact Z7_8); rintro e w33 ⟨rfl, hi, hb, hk⟩; refine ⟨_, rfl, ?_⟩; have n0_ := Aside0.mk (KeepBut.blk hk (g' := gb234) (o := .cells #[.bool false, .bool false, .bool false, .bool false, .bool false, .bool false, .bool false, .bool false, .int .i64 0] 27 (0, 0)) Z7_26 NB234_0.out (by simp)); have n1_ := Aside0.mk (KeepBut.blk hk (g' := gb238) (o := .cells #[.bool true, .bool ((Int.tmod t235 2) == 0), .bool ((Int.tmod t235 8) == 0), .bool ((Int.tmod t235 5) == 0), .bool (decide ((Int.tmod t235 3) > 0)), .bool ((Int.tmod t235 16) == 3), .bool ((Int.tmod t235 32) == 5), .bool ((Int.tmod t235 4) == 1), .int .i64 t239] 27 (0, 0)) Z7_17 NB238_0.out (by simp)); have n2_ := Aside0.mk (KeepBut.trans Z7_6 hk (.inl rfl)); have n3_ := Aside0.mk (hb); have n4_ := Aside0.mk (hi); clear BK234; clear BK238; clear HK; clear HB; clear HI0; have BK234 := n0_; have BK238 := n1_; have HK := n2_; have HB := n3_; have HI0 := n4_; clear n0_ n1_ n2_ n3_ n4_; (try clear hb); (try clear hb2); (try clear hk); (try clear hi); have hcz34_0 : w33.cell? ⟨gb238, 0, none⟩ = some (.bool true) := (blk_cell BK238.out 0).trans rfl; have hcz34_1 : w33.cell? ⟨gb238, 1, none⟩ = some (.bool ((Int.tmod t235 2) == 0)) := (blk_cell BK238.out 1).trans rfl; have hcz34_2 : w33.cell? ⟨gb238, 2, none⟩ = some (.bool ((Int.tmod t235 8) == 0)) := (blk_cell BK238.out 2).trans rfl; have hcz34_3 : w33.cell? ⟨gb238, 3, none⟩ = some (.bool ((Int.tmod t235 5) == 0)) := (blk_cell BK238.out 3).trans rfl; have hcz34_4 : w33.cell? ⟨gb238, 4, none⟩ = some (.bool (decide ((Int.tmod t235 3) > 0))) := (blk_cell BK238.out 4).trans rfl; have hcz34_5 : w33.cell? ⟨gb238, 5, none⟩ = some (.bool ((Int.tmod t235 16) == 3)) := (blk_cell BK238.out 5).trans rfl; have hcz34_6 : w33.cell? ⟨gb238, 6, none⟩ = some (.bool ((Int.tmod t235 32) == 5)) := (blk_cell BK238.out 6).trans rfl; have hcz34_7 : w33.cell? ⟨gb238, 7, none⟩ = some (.bool ((Int.tmod t235 4) == 1)) := (blk_cell BK238.out 7).trans rfl; have hcz34_8 : w33.cell? ⟨gb238, 8, none⟩ = some (.int .i64 t239) := (blk_cell BK238.out 8).trans rfl; have hfz34_0 := blk_frozen BK238.out 0; have hfz34_1 := blk_frozen BK238.out 1; have hfz34_2 := blk_frozen BK238.out 2; have hfz34_3 := blk_frozen BK238.out 3; have hfz34_4 := blk_frozen BK238.out 4; have hfz34_5 := blk_frozen BK238.out 5; have hfz34_6 := blk_frozen BK238.out 6; have hfz34_7 := blk_frozen BK238.out 7; have hfz34_8 := blk_frozen BK238.out 8; have hnb35 := NB234_0.out; have hnc35 := NB0_234.out; have hcz36_0 : w33.cell? ⟨gb234, 0, none⟩ = some (.bool false) := (blk_cell BK234.out 0).trans rfl; have hcz36_1 : w33.cell? ⟨gb234, 1, none⟩ = some (.bool false) := (blk_cell BK234.out 1).trans rfl; have hcz36_2 : w33.cell? ⟨gb234, 2, none⟩ = some (.bool false) := (blk_cell BK234.out 2).trans rfl; have hcz36_3 : w33.cell? ⟨gb234, 3, none⟩ = some (.bool false) := (blk_cell BK234.out 3).trans rfl; have hcz36_4 : w33.cell? ⟨gb234, 4, none⟩ = some (.bool false) := (blk_cell BK234.out 4).trans rfl; have hcz36_5 : w33.cell? ⟨gb234, 5, none⟩ = some (.bool false) := (blk_cell BK234.out 5).trans rfl; have hcz36_6 : w33.cell? ⟨gb234, 6, none⟩ = some (.bool false) := (blk_cell BK234.out 6).trans rfl; have hcz36_7 : w33.cell? ⟨gb234, 7, none⟩ = some (.bool false) := (blk_cell BK234.out 7).trans rfl; have hcz36_8 : w33.cell? ⟨gb234, 8, none⟩ = some (.int .i64 0) := (blk_cell BK234.out 8).trans rfl; have hfz36_0 := blk_frozen BK234.out 0; have hfz36_1 := blk_frozen BK234.out 1; have hfz36_2 := blk_frozen BK234.out 2; have hfz36_3 := blk_frozen BK234.out 3; have hfz36_4 := blk_frozen BK234.out 4; have hfz36_5 := blk_frozen BK234.out 5; have hfz36_6 := blk_frozen BK234.out 6; have hfz36_7 := blk_frozen BK234.out 7; have hfz36_8 := blk_frozen BK234.out 8))
 refine bodyPost_ret (results_cell_row rfl _ _ gb234 27 #[.bool true, .bool ((Int.tmod t235 2) == 0), .bool ((Int.tmod t235 8) == 0), .bool ((Int.tmod t235 5) == 0), .bool (decide ((Int.tmod t235 3) > 0)), .bool ((Int.tmod t235 16) == 3), .bool ((Int.tmod t235 32) == 5), .bool ((Int.tmod t235 4) == 1), .int .i64 t239] (0, 0) _ rfl (by (with_reducible repeat (first | apply blk_drewN | apply blk_drew | apply blk_alloc)); refine blk_put (cs := #[.bool true, .bool ((Int.tmod t235 2) == 0), .bool ((Int.tmod t235 8) == 0), .bool ((Int.tmod t235 5) == 0), .bool (decide ((Int.tmod t235 3) > 0)), .bool ((Int.tmod t235 16) == 3), .bool ((Int.tmod t235 32) == 5), .bool ((Int.tmod t235 4) == 1), .int .i64 0]) ?_ 8 _ rfl; (with_reducible repeat (first | apply blk_drewN | apply blk_drew | apply blk_alloc)); refine blk_put (cs := #[.bool true, .bool ((Int.tmod t235 2) == 0), .bool ((Int.tmod t235 8) == 0), .bool ((Int.tmod t235 5) == 0), .bool (decide ((Int.tmod t235 3) > 0)), .bool ((Int.tmod t235 16) == 3), .bool ((Int.tmod t235 32) == 5), .bool false, .int .i64 0]) ?_ 7 _ rfl; (with_reducible repeat (first | apply blk_drewN | apply blk_drew | apply blk_alloc)); refine blk_put (cs := #[.bool true, .bool ((Int.tmod t235 2) == 0), .bool ((Int.tmod t235 8) == 0), .bool ((Int.tmod t235 5) == 0), .bool (decide ((Int.tmod t235 3) > 0)), .bool ((Int.tmod t235 16) == 3), .bool false, .bool false, .int .i64 0]) ?_ 6 _ rfl; (with_reducible repeat (first | apply blk_drewN | apply blk_drew | apply blk_alloc)); refine blk_put (cs := #[.bool true, .bool ((Int.tmod t235 2) == 0), .bool ((Int.tmod t235 8) == 0), .bool ((Int.tmod t235 5) == 0), .bool (decide ((Int.tmod t235 3) > 0)), .bool false, .bool false, .bool false, .int .i64 0]) ?_ 5 _ rfl; (with_reducible repeat (first | apply blk_drewN | apply blk_drew | apply blk_alloc)); refine blk_put (cs := #[.bool true, .bool ((Int.tmod t235 2) == 0), .bool ((Int.tmod t235 8) == 0), .bool ((Int.tmod t235 5) == 0), .bool false, .bool false, .bool false, .bool false, .int .i64 0]) ?_ 4 _ rfl; (with_reducible repeat (first | apply blk_drewN | apply blk_drew | apply blk_alloc)); refine blk_put (cs := #[.bool true, .bool ((Int.tmod t235 2) == 0), .bool ((Int.tmod t235 8) == 0), .bool false, .bool false, .bool false, .bool false, .bool false, .int .i64 0]) ?_ 3 _ rfl; (with_reducible repeat (first | apply blk_drewN | apply blk_drew | apply blk_alloc)); refine blk_put (cs := #[.bool true, .bool ((Int.tmod t235 2) == 0), .bool false, .bool false, .bool false, .bool false, .bool false, .bool false, .int .i64 0]) ?_ 2 _ rfl; (with_reducible repeat (first | apply blk_drewN | apply blk_drew | apply blk_alloc)); refine blk_put (cs := #[.bool true, .bool false, .bool false, .bool false, .bool false, .bool false, .bool false, .bool false, .int .i64 0]) ?_ 1 _ rfl; (with_reducible repeat (first | apply blk_drewN | apply blk_drew | apply blk_alloc)); refine blk_put (cs := #[.bool false, .bool false, .bool false, .bool false, .bool false, .bool false, .bool false, .bool false, .int .i64 0]) ?_ 0 _ rfl; (with_reducible repeat (first | apply blk_drewN | apply blk_drew | apply blk_alloc)); exact BK234.out) Try.underlying27 rfl (by kernel_rfl)) rfl ?_
 exact ⟨Z7_12, Z7_5, Z7_8, Z7_6⟩
/-! ### spec_l6Set: function 95 -/
def spec_l6Set.l0 : Nat → List Int → Int → Int → Int → Option (List Int)
 | 0, _, _, _, _ => none
 | k + 1, x0, x1, x2, x6 => if x6 < 8 then (if 0 ≤ (wrap64 (x1 + x6)) then (if (wrap64 (x1 + x6)) < (x0.length : Int) then (spec_l6Set.l0 k (x0.set ((wrap64 (x1 + x6)) : Int).toNat ((Int.tmod x2 256) % 256)) x1 (IntKind.u64.wrap (Int.tdiv x2 256)) (wrap64 (x6 + 1))) else (none)) else (none)) else (some x0)
def spec_l6Set.f (k : Nat) (l0 : List Int) (a1 : Int) (a2 : Int) : Option (List Int) := spec_l6Set.l0 k l0 a1 a2 0
theorem spec_l6Set.mono_l : ∀ k, (∀ y0 y1 y2 y3, LeO (spec_l6Set.l0 k y0 y1 y2 y3) (spec_l6Set.l0 (k + 1) y0 y1 y2 y3))
 | 0 => fun _ _ _ _ r h => by simp [spec_l6Set.l0] at h
 | k + 1 => by
  have ih0 := spec_l6Set.mono_l k
  ·intro y0 y1 y2 y3
   unfold spec_l6Set.l0
   repeat' first
   | (with_reducible exact ih0 _ _ _ _)
   | (with_reducible exact LeO.refl _)
   | (with_reducible exact LeO.none _)
   | (with_reducible refine LeO.ite ?_ ?_)
   | (with_reducible refine LeO.bind ?_ (fun _ => ?_))
   | exact ih0 _ _ _ _
   | exact LeO.none _
   | refine LeO.ite ?_ ?_
   | refine LeO.bind ?_ (fun _ => ?_)
theorem spec_l6Set.mono : ∀ a0 a1 a2 k, LeO (spec_l6Set.f k a0 a1 a2) (spec_l6Set.f (k + 1) a0 a1 a2) := by
 intro a0 a1 a2 k
 have ih0 := spec_l6Set.mono_l k
 unfold spec_l6Set.f
 repeat' first
   | (with_reducible exact ih0 _ _ _ _)
   | (with_reducible exact LeO.refl _)
   | (with_reducible exact LeO.none _)
   | (with_reducible refine LeO.ite ?_ ?_)
   | (with_reducible refine LeO.bind ?_ (fun _ => ?_))
   | exact ih0 _ _ _ _
   | exact LeO.none _
   | refine LeO.ite ?_ ?_
   | refine LeO.bind ?_ (fun _ => ?_)
set_option maxHeartbeats 8000000 in
set_option maxRecDepth 100000 in
theorem spec_l6Set.calls (k : Nat) (P0_ : Nat → Prop) (u9000_ : Value) (l0 : List Int) (a1 : Int) (a2 : Int) (r : List Int) (w0 w : World) (hB : Below w0.heap.size w0 w) (ho0 : Kd.R (Kd.int .u8) 5 w w0.heap.size P0_ u9000_ l0) (h : spec_l6Set.f k l0 a1 a2 = some r) :
  Calls Try.prog 95 #[u9000_, .int .i64 a1, .int .u64 a2] w fun e w' => e = .returned (.tuple #[]) ∧ Kd.R (Kd.int .u8) 5 w' w0.heap.size (fun k_ => (P0_ k_ ∨ w.heap.size ≤ k_)) u9000_ r ∧ Below w0.heap.size w0 w' ∧ Kept w w' (fun k_ => P0_ k_) := by
 have HO0 := Aside0.mk (show Kd.R (Kd.int .u8) 5 w w0.heap.size (fun k_ => (P0_ k_ ∨ w.heap.size ≤ k_)) u9000_ l0 from Kd.R_mono ho0 (fun k_ hk => (.inl hk)))
 have HK := Aside0.mk (Kept.refl w (fun k_ => P0_ k_))
 have HW0 := Aside0.mk hB.size
 have HB := Aside0.mk hB
 clear hB
 have H : (spec_l6Set.l0 k l0 a1 a2 0) = some r := h
 clear h
 have H' := Aside0.mk H
 clear H
 go_enter Try.func95, Try.ntmps95
 go_wp2
 go_loopg [2, 6] k (fun kq v2 v6 w' => ∃ (x0_1 : List Int) (x2_1 : Int) (x6_1 : Int), v2 = .int .u64 x2_1 ∧ v6 = .int .i64 x6_1 ∧ Aside0 (spec_l6Set.l0 kq x0_1 a1 x2_1 x6_1 = some r) ∧ Aside0 (kq ≤ k) ∧ Aside0 (Kd.R (Kd.int .u8) 5 w' w0.heap.size (fun k_ => (P0_ k_ ∨ w.heap.size ≤ k_)) u9000_ x0_1) ∧ Aside0 (Kept w w' (fun k_ => P0_ k_)) ∧ Aside0 (Below w0.heap.size w0 w'))
 case atStart => exact ⟨(l0), (a2), (0), Z7_18, Z7_18, H', ⟨Nat.le_refl _⟩, ⟨by (with_reducible repeat (first | apply Kd.R_alloc | apply Kd.R_drewN | apply Kd.R_drew)); exact HO0.out⟩, ⟨Z7_19⟩, ⟨Z7_9⟩⟩
 clear H'
 try clear p2
 obtain ⟨x0_1, x2_1, x6_1, rfl, rfl, HA, HK1, HO_0, HK, HB⟩ := hrel
 cases gk with
 | zero => exact absurd HA.out (by simp [spec_l6Set.l0])
 | succ k1 =>
  have H := HA.out
  clear HA
  simp only [spec_l6Set.l0] at H
  by_cases c4 : x6_1 < 8
  ·rw [if_pos c4] at H
   have c4b0 : decide (x6_1 < 8) = true := decide_eq_true c4
   clear c4
   obtain ⟨ji5, hji5⟩ : ∃ j_ : Int, (wrap64 (a1 + x6_1)) = j_ := ⟨_, rfl⟩
   replace H : (if 0 ≤ (ji5) then (if (ji5) < (x0_1.length : Int) then (spec_l6Set.l0 k1 (x0_1.set ((ji5) : Int).toNat ((Int.tmod x2_1 256) % 256)) a1 (IntKind.u64.wrap (Int.tdiv x2_1 256)) (wrap64 (x6_1 + 1))) else (none)) else (none)) = some r := by first | (rw [hji5] at H; exact H) | (simp only [hji5] at H ⊢; exact H)
   have hji5w : (IntKind.i64.wrap (a1 + x6_1)) = ji5 := (i64_w _).trans hji5
   by_cases c6 : 0 ≤ (ji5)
   ·rw [if_pos c6] at H
    have c6b0 : decide (0 ≤ (ji5)) = true := decide_eq_true c6
    clear c6
    by_cases c7 : (ji5) < (x0_1.length : Int)
    ·rw [if_pos c7] at H
     have c7b0 : decide ((ji5) < (x0_1.length : Int)) = true := decide_eq_true c7
     clear c7
     obtain ⟨y252, hy252⟩ : ∃ y_ : List Int, y_ = (x0_1.set ((ji5) : Int).toNat ((Int.tmod x2_1 256) % 256)) := ⟨_, rfl⟩
     replace H : (spec_l6Set.l0 k1 y252 a1 (IntKind.u64.wrap (Int.tdiv x2_1 256)) (wrap64 (x6_1 + 1))) = some r := by first | (rw [hy252]; with_reducible exact H) | (have H2_ := (Option.bind_some _ _).symm.trans H; rw [hy252]; with_reducible exact H2_) | (have H2_ := (Option.bind_some _ _).symm.trans H; with_reducible exact H2_) | with_reducible exact H | (rw [hy252]; exact H) | exact H
     have Ny252 := Aside0.mk hy252
     clear hy252
     have H' := Aside0.mk H
     clear H
     have p8 : 0 ≤ ((ji5) : Int) := of_decide_eq_true Z7_25
     have q8 : ((ji5) : Int) < ((x0_1.length : Int) : Int) := of_decide_eq_true Z7_25
     obtain ⟨go8, co8, eo8, gb8, gl8, cl8, HG8⟩ := Kd.R_form HO_0.out (by omega)
     (first | cases eo8 | (injection eo8 with ea_ en_ ec_; (first | subst ea_ | (injection ea_ with ea_; subst ea_)); subst ec_; clear en_))
     have GB8 := Aside0.mk gb8
     have GG8 := Aside0.mk HG8
     clear gb8 gl8 HG8
     have HMgo8 := Aside0.mk (show (P0_ go8 ∨ w.heap.size ≤ go8) from (HO_0.out.1 _ rfl))
     obtain ⟨hx8_0, hf8_0⟩ := Kd.R_celln 0 HO_0.out ((ji5) : Int) p8 q8
     replace p8 := eq_true p8
     replace q8 := eq_true q8
     have HP9 := Kd.R_putg HO_0.out ((ji5) : Int) ((Int.tmod x2_1 256) % 256)
     go_wp2_with (first | ((with_reducible refine gate_store (t := 5) (p := 18) rfl ?_); refine store_event (t := 5) (p := 18) (v := ?vo_w10) (w1 := (wr.setCell ⟨go8, ((ji5) : Int).toNat, none⟩ (.int .u8 ((Int.tmod x2_1 256) % 256)))) ?hg ?ho ?hn ?hr ?_; (case ho => rfl); (case hg => rfl); (case hn => rfl); (case hr => exact Z7_20); intro w10 hw; have hg : wr.grownBy w10 (some go8) := (by rw [hw]; exact HP9.2); have hp_ : Kd.R (Kd.int .u8) 5 w10 w0.heap.size (fun k_ => (P0_ k_ ∨ w.heap.size ≤ k_)) (.slice (some ⟨go8, 0, none⟩) x0_1.length co8) y252 := (by rw [hw, Ny252.out]; exact HP9.1); clear HP9; have n0_ := Aside0.mk (hp_); have n1_ := Aside0.mk ((by rw [hw]; exact below_set (HB.out) GB8.out : Below w0.heap.size w0 w10)); have n2_ := Aside0.mk (Kept.of_grown (S := (fun k_ => P0_ k_)) hg Z7_19 (fun k_ e_ => (HO_0.out.1 k_ e_))); clear HO_0; clear HB; clear HK; have HO_0 := n0_; have HB := n1_; have HK := n2_; clear n0_ n1_ n2_; clear hg hw hp_))
     go_roundg k1
     case measure => have := HK1.out; omega
     case rel => exact ⟨(y252), (IntKind.u64.wrap (Int.tdiv x2_1 256)), (wrap64 (x6_1 + 1)), Z7_18, Z7_18, H', ⟨by have := HK1.out; omega⟩, ⟨by (with_reducible repeat (first | apply Kd.R_alloc | apply Kd.R_drewN | apply Kd.R_drew)); exact HO_0.out⟩, ⟨Z7_19⟩, ⟨Z7_9⟩⟩
    rw [if_neg c7] at H
    exact absurd H (by simp)
   rw [if_neg c6] at H
   exact absurd H (by simp)
  rw [if_neg c4] at H
  have c4b0 : decide (x6_1 < 8) = false := decide_eq_false c4
  clear c4
  obtain rfl := Option.some.inj H
  go_wp2
  first | go_end0 | ((try simp only [Exit.inBlock, Exit.then]); refine bodyPost_ret (results_none rfl _ _ _) rfl ?_)
  exact ⟨Z7_12, by (with_reducible repeat (first | apply Kd.R_alloc | apply Kd.R_drewN | apply Kd.R_drew)); exact HO_0.out, Z7_9, Z7_19⟩
end Go.Proofs.Ytdhafphhkokniaa.PFnLeavesFound
