-- Written by a program of this session out of the translation. Not trusted: Lean checks it.
import Derived.Test.YtmjdmaomakkhgaaPFnFramesKeptx0
import Derived.Test.YtmjdmaomakkhgaaPFnFramesKeptx3
import Derived.Test.YtmjdmaomakkhgaaPFnFramesKeptx4
namespace Go.Proofs.Ytmjdmaomakkhgaa.PFnFramesKept
open Go.RowKit Go.Proofs.YtmjdmaomakkhgaaW.PrintWords Go.Proofs.YtmjdmaomakkhgaaW.PrintLast Go.Proofs.YtmjdmaomakkhgaaW.PrintMore
attribute [local go_sem] max2_int min2_int max_two min_two max_three min_three max_four min_four   -- for this text's walks alone
set_option linter.unusedVariables false
set_option linter.unusedSimpArgs false
theorem Z8_23 {P : Prop} (h : P := by have := HJ2.out; have := HK2.out; omega) : P := h
theorem Z8_22 {P : Prop} (h : P := by repeat (first | (with_reducible first | exact HB.out | apply below_alloc | apply pw_below_drewN | apply below_drew1) | exact HB.out)) : P := h
theorem Z8_21 {P : Prop} (h : P := by first | (go_simp; done) | (go_simp; rfl)) : P := h
theorem Z8_20 {P : Prop} (h : P := by rw [hg]; exact (below_size Z8_1)) : P := h
theorem Z8_19 {P : Prop} (h : P := by (with_reducible repeat (first | apply blk_drewN | apply blk_drew | apply blk_alloc)); exact BK235.out) : P := h
theorem Z8_18 {P : Prop} (h : P := by repeat (first | (with_reducible first | exact HB.out | apply below_alloc | apply pw_below_drewN | apply below_drew1 | refine below_set ?_ GE221.out) | exact HB.out)) : P := h
theorem Z8_17 {P : Prop} (h : P := by rw [hg]; exact Nat.ne_of_gt (blk_lt (g := gb221) (o := .cells #[.int .i64 a0_0, .slice (some ad224) l0_1.length c0_1] 50 (0, 0)) Z8_2)) : P := h
theorem Z8_16 {P : Prop} (h : P := by rw [hg]; exact Nat.ne_of_lt (blk_lt (g := gb221) (o := .cells #[.int .i64 a0_0, .slice (some ad224) l0_1.length c0_1] 50 (0, 0)) Z8_2)) : P := h
theorem Z8_15 {P : Prop} (h : P := by rw [hg]; exact Nat.ne_of_gt (blk_lt (g := gb222) (o := .cells #[.int .i64 0, .slice none 0 0] 50 (0, 0)) Z8_3)) : P := h
theorem Z8_14 {P : Prop} (h : P := by rw [hg]; exact Nat.ne_of_lt (blk_lt (g := gb222) (o := .cells #[.int .i64 0, .slice none 0 0] 50 (0, 0)) Z8_3)) : P := h
theorem Z8_13 {P : Prop} (h : P := by first | (with_reducible assumption) | assumption) : P := h
theorem Z8_12 {P : Prop} (h : P := by repeat (first | exact (Kd.C_below HR0_1.out HB.out) | (with_reducible refine Kd.C_alloc ?_ _) | (with_reducible refine Kd.C_drewN ?_ _) | (with_reducible refine Kd.C_drew ?_))) : P := h
theorem Z8_11 {P : Prop} (h : P := by (try simp only [List.map_toArray, List.map_cons, List.map_nil]); first | done | rfl | (simp only [List.length_drop, List.length_take]; first | done | rfl)) : P := h
theorem Z8_10 {P : Prop} (h : P := by kernel_rfl) : P := h
theorem Z8_9 {P : Prop} (h : P := by repeat (first | (with_reducible first | exact HB.out | apply below_alloc | apply pw_below_drewN | apply below_drew1 | refine below_set ?_ GE221.out | refine below_set ?_ GE222.out | refine below_set ?_ GE235.out) | exact HB.out)) : P := h
theorem Z8_8 {P : Prop} (h : P := by (with_reducible repeat (first | apply blk_drewN | apply blk_drew | apply blk_alloc)); refine blk_far ?_ NB222_225.out _; (with_reducible repeat (first | apply blk_drewN | apply blk_drew | apply blk_alloc)); refine blk_far ?_ NB222_225.out _; (with_reducible repeat (first | apply blk_drewN | apply blk_drew | apply blk_alloc)); exact BK222.out) : P := h
theorem Z8_7 {P : Prop} (h : P := by (with_reducible repeat (first | apply blk_drewN | apply blk_drew | apply blk_alloc)); refine blk_far ?_ NB221_225.out _; (with_reducible repeat (first | apply blk_drewN | apply blk_drew | apply blk_alloc)); refine blk_far ?_ NB221_225.out _; (with_reducible repeat (first | apply blk_drewN | apply blk_drew | apply blk_alloc)); exact BK221.out) : P := h
theorem Z8_6 {P : Prop} (h : P := by first | rfl | exact congrArg (Value.int .i64) (i64_w _) | (simp; done) | (simp [*]; done)) : P := h
theorem Z8_5 {P : Prop} (h : P := by (with_reducible repeat (first | apply blk_drewN | apply blk_drew | apply blk_alloc)); refine blk_put (cs := #[.int .i64 ((rd_T73 l0_1 x27_2).f0), .int .i64 0]) ?_ 1 _ rfl; (with_reducible repeat (first | apply blk_drewN | apply blk_drew | apply blk_alloc)); refine blk_put (cs := #[.int .i64 0, .int .i64 0]) ?_ 0 _ rfl; (with_reducible repeat (first | apply blk_drewN | apply blk_drew | apply blk_alloc)); exact BK225.out) : P := h
theorem Z8_4 {P : Prop} (h : P := by repeat (first | (with_reducible first | exact HB.out | apply below_alloc | apply pw_below_drewN | apply below_drew1 | refine below_set ?_ GE221.out | refine below_set ?_ GE222.out | refine below_set ?_ GE225.out) | exact HB.out)) : P := h
theorem Z8_3 {P : Prop} (h : P := by (with_reducible repeat (first | apply blk_drewN | apply blk_drew | apply blk_alloc)); exact BK222.out) : P := h
theorem Z8_2 {P : Prop} (h : P := by (with_reducible repeat (first | apply blk_drewN | apply blk_drew | apply blk_alloc)); exact BK221.out) : P := h
theorem Z8_1 {P : Prop} (h : P := by repeat (first | (with_reducible first | exact HB.out | apply below_alloc | apply pw_below_drewN | apply below_drew1 | refine below_set ?_ GE221.out | refine below_set ?_ GE222.out) | exact HB.out)) : P := h

/-! ### impl_FramesTake: function 45 -/
mutual
def impl_FramesTake.j0 : Nat → Int → Bool → Int → List (S73) → Option (Int × (List (S73)) × Int)
 | 0, _, _, _, _ => none
 | k + 1, x1, x22, x222000, x222001 => if x22 = true then (some (0, ([] : List (S73)), (-1))) else (impl_FramesTake.l0 k x1 (-1) x222001 (x222001.length : Int) 0 x222000 x222001)
def impl_FramesTake.l0 : Nat → Int → Int → List (S73) → Int → Int → Int → List (S73) → Option (Int × (List (S73)) × Int)
 | 0, _, _, _, _, _, _, _ => none
 | k + 1, x1, x6, x25, x26, x27, x222000, x222001 => if x27 < x26 then (if 0 ≤ x27 then (if x27 < (x25.length : Int) then (if ((rd_T73 x25 x27).f1) ≥ x1 then (if x6 < 0 then (impl_FramesTake.l0 k x1 x27 x25 x26 (wrap64 (x27 + 1)) x222000 x222001) else (if 0 ≤ x6 then (if x6 < (x222001.length : Int) then (if ((rd_T73 x25 x27).f1) < ((rd_T73 x222001 x6).f1) then (impl_FramesTake.l0 k x1 x27 x25 x26 (wrap64 (x27 + 1)) x222000 x222001) else (impl_FramesTake.l0 k x1 x6 x25 x26 (wrap64 (x27 + 1)) x222000 x222001)) else (none)) else (none))) else (impl_FramesTake.l0 k x1 x6 x25 x26 (wrap64 (x27 + 1)) x222000 x222001)) else (none)) else (none)) else (if x6 < 0 then ((impl_copyFrames.f x222000 x222001).bind fun bt227 => (some (bt227.1, bt227.2, (-1)))) else ((impl_freeMap.f k x222000 x222001).bind fun t231 => (if 0 ≤ x6 then (if x6 < (x222001.length : Int) then (if 0 ≤ x1 then (impl_FramesTake.l1 k t231 (shl .i64 1 x1) 0 ((rd_T73 x222001 x6).f0) ((rd_T73 x222001 x6).f1)) else (none)) else (none)) else (none))))
def impl_FramesTake.l1 : Nat → List Bool → Int → Int → Int → Int → Option (Int × (List (S73)) × Int)
 | 0, _, _, _, _, _ => none
 | k + 1, x9, x65, x66, x236000, x236001 => if x66 < x65 then (if 0 ≤ (wrap64 (x236000 + x66)) then (if (wrap64 (x236000 + x66)) < (x9.length : Int) then (impl_FramesTake.l1 k (x9.set ((wrap64 (x236000 + x66)) : Int).toNat false) x65 (wrap64 (x66 + 1)) x236000 x236001) else (none)) else (none)) else ((impl_framesOf.f x9).bind fun bt237 => (some (bt237.1, bt237.2, x236000)))
end
def impl_FramesTake.f (k : Nat) (a0_0 : Int) (l0_1 : List (S73)) (a1 : Int) : Option (Int × (List (S73)) × Int) := (impl_FramesOk.f k a0_0 l0_1).bind fun t223 => (if t223 = true then (if a1 < 0 then (impl_FramesTake.j0 k a1 true a0_0 l0_1) else (impl_FramesTake.j0 k a1 (decide (a1 > 10)) a0_0 l0_1)) else (impl_FramesTake.j0 k a1 true a0_0 l0_1))
theorem impl_FramesTake.mono_l : ∀ k, (∀ y0 y1 y2 y3, LeO (impl_FramesTake.j0 k y0 y1 y2 y3) (impl_FramesTake.j0 (k + 1) y0 y1 y2 y3)) ∧ (∀ y0 y1 y2 y3 y4 y5 y6, LeO (impl_FramesTake.l0 k y0 y1 y2 y3 y4 y5 y6) (impl_FramesTake.l0 (k + 1) y0 y1 y2 y3 y4 y5 y6)) ∧ (∀ y0 y1 y2 y3 y4, LeO (impl_FramesTake.l1 k y0 y1 y2 y3 y4) (impl_FramesTake.l1 (k + 1) y0 y1 y2 y3 y4))
 | 0 => ⟨fun _ _ _ _ r h => by simp [impl_FramesTake.j0] at h, fun _ _ _ _ _ _ _ r h => by simp [impl_FramesTake.l0] at h, fun _ _ _ _ _ r h => by simp [impl_FramesTake.l1] at h⟩
 | k + 1 => by
  obtain ⟨ih0, ih1, ih2⟩ := impl_FramesTake.mono_l k
  refine ⟨?_, ?_, ?_⟩
  ·intro y0 y1 y2 y3
   unfold impl_FramesTake.j0
   repeat' first
   | (with_reducible exact ih0 _ _ _ _)
   | (with_reducible exact ih1 _ _ _ _ _ _ _)
   | (with_reducible exact ih2 _ _ _ _ _)
   | (with_reducible exact impl_FramesOk.mono _ _ _)
   | (with_reducible exact impl_freeMap.mono _ _ _)
   | (with_reducible exact LeO.refl _)
   | (with_reducible exact LeO.none _)
   | (with_reducible refine LeO.ite ?_ ?_)
   | (with_reducible refine LeO.bind ?_ (fun _ => ?_))
   | exact ih0 _ _ _ _
   | exact ih1 _ _ _ _ _ _ _
   | exact ih2 _ _ _ _ _
   | exact impl_FramesOk.mono _ _ _
   | exact impl_freeMap.mono _ _ _
   | exact LeO.none _
   | refine LeO.ite ?_ ?_
   | refine LeO.bind ?_ (fun _ => ?_)
  ·intro y0 y1 y2 y3 y4 y5 y6
   unfold impl_FramesTake.l0
   repeat' first
   | (with_reducible exact ih0 _ _ _ _)
   | (with_reducible exact ih1 _ _ _ _ _ _ _)
   | (with_reducible exact ih2 _ _ _ _ _)
   | (with_reducible exact impl_FramesOk.mono _ _ _)
   | (with_reducible exact impl_freeMap.mono _ _ _)
   | (with_reducible exact LeO.refl _)
   | (with_reducible exact LeO.none _)
   | (with_reducible refine LeO.ite ?_ ?_)
   | (with_reducible refine LeO.bind ?_ (fun _ => ?_))
   | exact ih0 _ _ _ _
   | exact ih1 _ _ _ _ _ _ _
   | exact ih2 _ _ _ _ _
   | exact impl_FramesOk.mono _ _ _
   | exact impl_freeMap.mono _ _ _
   | exact LeO.none _
   | refine LeO.ite ?_ ?_
   | refine LeO.bind ?_ (fun _ => ?_)
  ·intro y0 y1 y2 y3 y4
   unfold impl_FramesTake.l1
   repeat' first
   | (with_reducible exact ih0 _ _ _ _)
   | (with_reducible exact ih1 _ _ _ _ _ _ _)
   | (with_reducible exact ih2 _ _ _ _ _)
   | (with_reducible exact impl_FramesOk.mono _ _ _)
   | (with_reducible exact impl_freeMap.mono _ _ _)
   | (with_reducible exact LeO.refl _)
   | (with_reducible exact LeO.none _)
   | (with_reducible refine LeO.ite ?_ ?_)
   | (with_reducible refine LeO.bind ?_ (fun _ => ?_))
   | exact ih0 _ _ _ _
   | exact ih1 _ _ _ _ _ _ _
   | exact ih2 _ _ _ _ _
   | exact impl_FramesOk.mono _ _ _
   | exact impl_freeMap.mono _ _ _
   | exact LeO.none _
   | refine LeO.ite ?_ ?_
   | refine LeO.bind ?_ (fun _ => ?_)
theorem impl_FramesTake.mono : ∀ a0 a1 a2 k, LeO (impl_FramesTake.f k a0 a1 a2) (impl_FramesTake.f (k + 1) a0 a1 a2) := by
 intro a0 a1 a2 k
 obtain ⟨ih0, ih1, ih2⟩ := impl_FramesTake.mono_l k
 unfold impl_FramesTake.f
 repeat' first
   | (with_reducible exact ih0 _ _ _ _)
   | (with_reducible exact ih1 _ _ _ _ _ _ _)
   | (with_reducible exact ih2 _ _ _ _ _)
   | (with_reducible exact impl_FramesOk.mono _ _ _)
   | (with_reducible exact impl_freeMap.mono _ _ _)
   | (with_reducible exact LeO.refl _)
   | (with_reducible exact LeO.none _)
   | (with_reducible refine LeO.ite ?_ ?_)
   | (with_reducible refine LeO.bind ?_ (fun _ => ?_))
   | exact ih0 _ _ _ _
   | exact ih1 _ _ _ _ _ _ _
   | exact ih2 _ _ _ _ _
   | exact impl_FramesOk.mono _ _ _
   | exact impl_freeMap.mono _ _ _
   | exact LeO.none _
   | refine LeO.ite ?_ ?_
   | refine LeO.bind ?_ (fun _ => ?_)
def impl_FramesTake.T7 : Bool × List (List Nat × List Nat) := (true, [([], []), ([0], [0]), ([], []), ([1, 2], [1, 2]), ([3], [3]), ([4], [4]), ([5, 4], [4, 5]), ([6, 4, 4], [4, 6]), ([7], [7]), ([8, 7], [7, 8]), ([7], [7]), ([10, 7], [7, 10]), ([7], [7]), ([11, 12, 7], [7, 11, 12]), ([13, 7], [7, 13]), ([14, 7], [7, 14]), ([9, 15, 7], [7, 9, 15]), ([7, 16, 4], [4, 7, 16]), ([4, 17], [4, 17])])
def impl_FramesTake.B7 : List Nat := [0, 1, 0, 7, 15, 31, 63, 127, 255, 511, 255, 1279, 255, 7423, 15615, 31999, 65535, 131071, 262143]
theorem impl_FramesTake.tab7 : rtab .any (opsOf Try.f45 7) = impl_FramesTake.T7 := by kernel_rfl
theorem impl_FramesTake.bits7 : waitsOk impl_FramesTake.T7.2 impl_FramesTake.B7 = true := by kernel_rfl
set_option maxHeartbeats 8000000 in
set_option maxRecDepth 100000 in
theorem impl_FramesTake.calls (k : Nat) (a0_0 : Int) (A0_1 : Option Addr) (c0_1 : Nat) (l0_1 : List (S73)) (a1 : Int) (r1 : Int) (r2 : List (S73)) (r3 : Int) (w : World) (hr0_1 : Kd.C k73 w A0_1 l0_1.length l0_1) (hc0_1 : l0_1.length ≤ c0_1) (h : impl_FramesTake.f k a0_0 l0_1 a1 = some (r1, r2, r3)) :
  Calls Try.prog 45 #[.agg #[.int .i64 a0_0, .slice A0_1 l0_1.length c0_1], .int .i64 a1] w fun e w' => ∃ v1_ : Value, e = .returned (.tuple #[.agg #[.int .i64 r1, v1_], .int .i64 r3]) ∧ Kd.R k73 73 w' w.heap.size (fun _ => True) v1_ r2 ∧ Below w.heap.size w w' := by
 have hu50 := Try.underlying50
 have hu73 := Try.underlying73
 have HR0_1 := Aside0.mk hr0_1
 have HC0_1 := Aside0.mk hc0_1
 clear hr0_1 hc0_1
 have HB := Aside0.mk (Below.refl w.heap.size w)
 have H : ((impl_FramesOk.f k a0_0 l0_1).bind fun t223 => (if t223 = true then (if a1 < 0 then (impl_FramesTake.j0 k a1 true a0_0 l0_1) else (impl_FramesTake.j0 k a1 (decide (a1 > 10)) a0_0 l0_1)) else (impl_FramesTake.j0 k a1 true a0_0 l0_1))) = some (r1, r2, r3) := h
 clear h
 have HC3 := Aside0.mk H
 clear H
 go_enter Try.func45, Try.ntmps45
 go_upto_region 1 with (first | ((with_reducible refine gate_dst (N := 2) rfl ?_); refine box_event ?hg (N := 2) ?hd (cs := #[.int .i64 a0_0, .slice A0_1 l0_1.length c0_1]) (t := 50) ?hr ?_; (case hd => rfl); (case hg => rfl); (case hr => exact Z8_21); intro gb221 hg w4 hbox hb; have n0_ := Aside0.mk (below_step Z8_22 hb); have n1_ := Aside0.mk (hbox); have n2_ := Aside0.mk ((by rw [hg]; exact (below_size Z8_22) : w.heap.size ≤ gb221)); have n3_ := Aside0.mk ((by rw [hg]; exact (below_size Z8_22) : w.heap.size ≤ gb221)); clear HB; have HB := n0_; have BK221 := n1_; have GW221 := n2_; have GE221 := n3_; clear n0_ n1_ n2_ n3_; clear hb hbox hg) | ((with_reducible refine gate_dst (N := 4) rfl ?_); refine box_event ?hg (N := 4) ?hd (cs := #[.int .i64 0, .slice none 0 0]) (t := 50) ?hr ?_; (case hd => rfl); (case hg => rfl); (case hr => exact Z8_21); intro gb222 hg w5 hbox hb; have n0_ := Aside0.mk (blk_below (g := gb221) (o := .cells #[.int .i64 a0_0, .slice A0_1 l0_1.length c0_1] 50 (0, 0)) Z8_2 hb); have n1_ := Aside0.mk (below_step Z8_18 hb); have n2_ := Aside0.mk (hbox); have n3_ := Aside0.mk ((by rw [hg]; exact (below_size Z8_18) : w.heap.size ≤ gb222)); have n4_ := Aside0.mk ((by rw [hg]; exact (below_size Z8_18) : w.heap.size ≤ gb222)); have n5_ := Aside0.mk ((by rw [hg]; exact Nat.ne_of_lt (blk_lt (g := gb221) (o := .cells #[.int .i64 a0_0, .slice A0_1 l0_1.length c0_1] 50 (0, 0)) Z8_2) : gb221 ≠ gb222)); have n6_ := Aside0.mk ((by rw [hg]; exact Nat.ne_of_gt (blk_lt (g := gb221) (o := .cells #[.int .i64 a0_0, .slice A0_1 l0_1.length c0_1] 50 (0, 0)) Z8_2) : gb222 ≠ gb221)); clear BK221; clear HB; have BK221 := n0_; have HB := n1_; have BK222 := n2_; have GW222 := n3_; have GE222 := n4_; have NB221_222 := n5_; have NB222_221 := n6_; clear n0_ n1_ n2_ n3_ n4_ n5_ n6_; clear hb hbox hg))
 (try simp only [Act.put, List.setIfInBounds_toArray, List.set_cons_zero, List.set_cons_succ])
 go_cut [22] (fun v22 wc => ∃ (kq : Nat) (x22_2 : Bool), v22 = .bool x22_2 ∧ Aside0 (impl_FramesTake.j0 kq a1 x22_2 a0_0 l0_1 = some (r1, r2, r3)) ∧ Aside0 (kq ≤ k) ∧ Aside0 (wc.heap[gb221]? = some (.cells #[.int .i64 a0_0, (.slice A0_1 l0_1.length c0_1)] 50 (0, 0))) ∧ Aside0 (wc.heap[gb222]? = some (.cells #[.int .i64 0, (.slice none 0 0)] 50 (0, 0))) ∧ Aside0 (Below w.heap.size w wc))
 case first =>
  have H := HC3.out
  clear HC3
  replace H := Option.bind_eq_some_iff.mp H
  obtain ⟨t223, A60, H⟩ := H
  replace H : (if t223 = true then (if a1 < 0 then (impl_FramesTake.j0 k a1 true a0_0 l0_1) else (impl_FramesTake.j0 k a1 (decide (a1 > 10)) a0_0 l0_1)) else (impl_FramesTake.j0 k a1 true a0_0 l0_1)) = some (r1, r2, r3) := H
  have A6 := Aside0.mk A60
  clear A60
  by_cases c7 : t223 = true
  ·subst c7
   have H1 : (if a1 < 0 then (impl_FramesTake.j0 k a1 true a0_0 l0_1) else (impl_FramesTake.j0 k a1 (decide (a1 > 10)) a0_0 l0_1)) = some (r1, r2, r3) := by rw [if_pos rfl] at H; exact H
   clear H
   have H := H1
   clear H1
   by_cases c8 : a1 < 0
   ·rw [if_pos c8] at H
    have c8b0 : decide (a1 < 0) = true := decide_eq_true c8
    clear c8
    (first | rw [c8b0] | (simp only [i64_w, i32_w]; rw [c8b0]) | skip)
    have H' := Aside0.mk H
    clear H
    have hnb9 := NB221_222.out
    have hnc9 := NB222_221.out
    have hcz10_0 : w5.cell? ⟨gb221, 0, none⟩ = some (.int .i64 a0_0) := (blk_cell BK221.out 0).trans rfl
    have hcz10_1 : w5.cell? ⟨gb221, 1, none⟩ = some (.slice A0_1 l0_1.length c0_1) := (blk_cell BK221.out 1).trans rfl
    have hfz10_0 := blk_frozen BK221.out 0
    have hfz10_1 := blk_frozen BK221.out 1
    go_wp2_with (first | ((with_reducible refine gate_callee (f := 32) rfl ?_); refine goesL_ (some 13) rfl rfl Try.func32 Z8_10 rfl #[.agg #[.int .i64 a0_0, .slice A0_1 l0_1.length c0_1]] rfl Z8_11 ?_; (with_reducible refine (impl_FramesOk.calls k a0_0 _ _ l0_1 true _ ?side1 ?side2 A6.out).mono ?_); (case side1 => exact Z8_12); (case side2 => exact HC0_1.out); rintro e w11 ⟨rfl, hb⟩; refine ⟨_, rfl, ?_⟩; have n0_ := Aside0.mk (blk_below (g := gb221) (o := .cells #[.int .i64 a0_0, .slice A0_1 l0_1.length c0_1] 50 (0, 0)) Z8_2 hb); have n1_ := Aside0.mk (blk_below (g := gb222) (o := .cells #[.int .i64 0, .slice none 0 0] 50 (0, 0)) Z8_3 hb); have n2_ := Aside0.mk (below_step Z8_1 hb); clear BK221; clear BK222; clear HB; have BK221 := n0_; have BK222 := n1_; have HB := n2_; clear n0_ n1_ n2_; (try clear hb); (try clear hb2); (try clear hk); (try clear hi)))
    go_meet
    case rel => exact ⟨_, (true), Z8_6, H', ⟨by first | omega | exact Nat.le_refl _⟩, ⟨Z8_2⟩, ⟨Z8_3⟩, ⟨Z8_1⟩⟩
   rw [if_neg c8] at H
   have c8b0 : decide (a1 < 0) = false := decide_eq_false c8
   clear c8
   (first | rw [c8b0] | (simp only [i64_w, i32_w]; rw [c8b0]) | skip)
   have H' := Aside0.mk H
   clear H
   have hnb12 := NB221_222.out
   have hnc12 := NB222_221.out
   have hcz13_0 : w5.cell? ⟨gb221, 0, none⟩ = some (.int .i64 a0_0) := (blk_cell BK221.out 0).trans rfl
   have hcz13_1 : w5.cell? ⟨gb221, 1, none⟩ = some (.slice A0_1 l0_1.length c0_1) := (blk_cell BK221.out 1).trans rfl
   have hfz13_0 := blk_frozen BK221.out 0
   have hfz13_1 := blk_frozen BK221.out 1
   go_wp2_with (first | ((with_reducible refine gate_callee (f := 32) rfl ?_); refine goesL_ (some 13) rfl rfl Try.func32 Z8_10 rfl #[.agg #[.int .i64 a0_0, .slice A0_1 l0_1.length c0_1]] rfl Z8_11 ?_; (with_reducible refine (impl_FramesOk.calls k a0_0 _ _ l0_1 true _ ?side1 ?side2 A6.out).mono ?_); (case side1 => exact Z8_12); (case side2 => exact HC0_1.out); rintro e w14 ⟨rfl, hb⟩; refine ⟨_, rfl, ?_⟩; have n0_ := Aside0.mk (blk_below (g := gb221) (o := .cells #[.int .i64 a0_0, .slice A0_1 l0_1.length c0_1] 50 (0, 0)) Z8_2 hb); have n1_ := Aside0.mk (blk_below (g := gb222) (o := .cells #[.int .i64 0, .slice none 0 0] 50 (0, 0)) Z8_3 hb); have n2_ := Aside0.mk (below_step Z8_1 hb); clear BK221; clear BK222; clear HB; have BK221 := n0_; have BK222 := n1_; have HB := n2_; clear n0_ n1_ n2_; (try clear hb); (try clear hb2); (try clear hk); (try clear hi)))
   go_meet
   case rel => exact ⟨_, (decide (a1 > 10)), Z8_6, H', ⟨by first | omega | exact Nat.le_refl _⟩, ⟨Z8_2⟩, ⟨Z8_3⟩, ⟨Z8_1⟩⟩
  replace c7 := Bool.eq_false_iff.mpr c7
  subst c7
  have H1 : (impl_FramesTake.j0 k a1 true a0_0 l0_1) = some (r1, r2, r3) := by rw [if_neg (show ¬ (false = true) by decide)] at H; exact H
  clear H
  have H := H1
  clear H1
  have H' := Aside0.mk H
  clear H
  have hnb15 := NB221_222.out
  have hnc15 := NB222_221.out
  have hcz16_0 : w5.cell? ⟨gb221, 0, none⟩ = some (.int .i64 a0_0) := (blk_cell BK221.out 0).trans rfl
  have hcz16_1 : w5.cell? ⟨gb221, 1, none⟩ = some (.slice A0_1 l0_1.length c0_1) := (blk_cell BK221.out 1).trans rfl
  have hfz16_0 := blk_frozen BK221.out 0
  have hfz16_1 := blk_frozen BK221.out 1
  go_wp2_with (first | ((with_reducible refine gate_callee (f := 32) rfl ?_); refine goesL_ (some 13) rfl rfl Try.func32 Z8_10 rfl #[.agg #[.int .i64 a0_0, .slice A0_1 l0_1.length c0_1]] rfl Z8_11 ?_; (with_reducible refine (impl_FramesOk.calls k a0_0 _ _ l0_1 false _ ?side1 ?side2 A6.out).mono ?_); (case side1 => exact Z8_12); (case side2 => exact HC0_1.out); rintro e w17 ⟨rfl, hb⟩; refine ⟨_, rfl, ?_⟩; have n0_ := Aside0.mk (blk_below (g := gb221) (o := .cells #[.int .i64 a0_0, .slice A0_1 l0_1.length c0_1] 50 (0, 0)) Z8_2 hb); have n1_ := Aside0.mk (blk_below (g := gb222) (o := .cells #[.int .i64 0, .slice none 0 0] 50 (0, 0)) Z8_3 hb); have n2_ := Aside0.mk (below_step Z8_1 hb); clear BK221; clear BK222; clear HB; have BK221 := n0_; have BK222 := n1_; have HB := n2_; clear n0_ n1_ n2_; (try clear hb); (try clear hb2); (try clear hk); (try clear hi)))
  go_meet
  case rel => exact ⟨_, (true), Z8_6, H', ⟨by first | omega | exact Nat.le_refl _⟩, ⟨Z8_2⟩, ⟨Z8_3⟩, ⟨Z8_1⟩⟩
 clear HC3
 try clear c1
 try clear p2
 try clear c3
 try clear c4
 try clear c7
 try clear c8
 try clear c8b0
 try clear c9
 try clear c12
 try clear c15
 try clear hcz10_0
 try clear hcz10_1
 try clear hcz13_0
 try clear hcz13_1
 try clear hcz16_0
 try clear hcz16_1
 try clear hfz10_0
 try clear hfz10_1
 try clear hfz13_0
 try clear hfz13_1
 try clear hfz16_0
 try clear hfz16_1
 obtain ⟨kq, x22_2, rfl, HA, HJ2, BK221, BK222, HB⟩ := hcut
 cases kq with
 | zero => exact absurd HA.out (by simp [impl_FramesTake.j0])
 | succ kj2 =>
  have H := HA.out
  clear HA
  simp only [impl_FramesTake.j0] at H
  by_cases c18 : x22_2 = true
  ·subst c18
   have H1 : (some (0, ([] : List (S73)), (-1))) = some (r1, r2, r3) := by rw [if_pos rfl] at H; exact H
   clear H
   have H := H1
   clear H1
   simp only [Option.some.injEq, Prod.mk.injEq] at H
   obtain ⟨rfl, rfl, rfl⟩ := H
   have hnb19 := NB222_221.out
   have hnc19 := NB221_222.out
   have hcz20_0 : wc.cell? ⟨gb222, 0, none⟩ = some (.int .i64 0) := (blk_cell BK222.out 0).trans rfl
   have hcz20_1 : wc.cell? ⟨gb222, 1, none⟩ = some (.slice none 0 0) := (blk_cell BK222.out 1).trans rfl
   have hfz20_0 := blk_frozen BK222.out 0
   have hfz20_1 := blk_frozen BK222.out 1
   go_wp2
   refine bodyPost_ret (results_ct rfl _ _ gb222 50 #[.int .i64 0, .slice none 0 0] (0, 0) _ rfl (by (with_reducible repeat (first | apply blk_drewN | apply blk_drew | apply blk_alloc)); refine blk_put (cs := #[.int .i64 0, .slice none 0 0]) ?_ 1 _ rfl; (with_reducible repeat (first | apply blk_drewN | apply blk_drew | apply blk_alloc)); refine blk_put (cs := #[.int .i64 0, .slice none 0 0]) ?_ 0 _ rfl; (with_reducible repeat (first | apply blk_drewN | apply blk_drew | apply blk_alloc)); exact BK222.out) Try.underlying50 rfl Z8_10) rfl ?_
   exact ⟨_, by first | rfl | (simp [errW_none, errW_some] <;> rfl) | (simp [*, errW_none, errW_some] <;> rfl), by first | exact Kd.R_nil _ _ _ _ _ | exact Kd.N_nil _ _ _ _ _ | exact Kd.V_nil _ _ _ _ _ | exact Kd.Q_nil _ _ _ _ _ | exact Kd.S_nil _ _ _ _ _, Z8_1⟩
  replace c18 := Bool.eq_false_iff.mpr c18
  subst c18
  have H1 : (impl_FramesTake.l0 kj2 a1 (-1) l0_1 (l0_1.length : Int) 0 a0_0 l0_1) = some (r1, r2, r3) := by rw [if_neg (show ¬ (false = true) by decide)] at H; exact H
  clear H
  have H := H1
  clear H1
  have H' := Aside0.mk H
  clear H
  have hnb21 := NB221_222.out
  have hnc21 := NB222_221.out
  have hcz22_0 : wc.cell? ⟨gb221, 0, none⟩ = some (.int .i64 a0_0) := (blk_cell BK221.out 0).trans rfl
  have hcz22_1 : wc.cell? ⟨gb221, 1, none⟩ = some (.slice A0_1 l0_1.length c0_1) := (blk_cell BK221.out 1).trans rfl
  have hfz22_0 := blk_frozen BK221.out 0
  have hfz22_1 := blk_frozen BK221.out 1
  go_wp2
  go_loopg [6, 27] kj2 (fun kq v6 v27 w' => ∃ (x6_2 : Int) (x27_2 : Int), v6 = .int .i64 x6_2 ∧ v27 = .int .i64 x27_2 ∧ Aside0 (impl_FramesTake.l0 kq a1 x6_2 l0_1 (l0_1.length : Int) x27_2 a0_0 l0_1 = some (r1, r2, r3)) ∧ Aside0 (kq ≤ kj2) ∧ Aside0 (w'.heap[gb221]? = some (.cells #[.int .i64 a0_0, (.slice A0_1 l0_1.length c0_1)] 50 (0, 0))) ∧ Aside0 (w'.heap[gb222]? = some (.cells #[.int .i64 0, (.slice none 0 0)] 50 (0, 0))) ∧ Aside0 (Below w.heap.size w w'))
  case atStart => exact ⟨((-1)), (0), Z8_6, Z8_6, H', ⟨Nat.le_refl _⟩, ⟨Z8_2⟩, ⟨Z8_3⟩, ⟨Z8_1⟩⟩
  clear H'
  try clear c1
  try clear c2
  try clear p2
  try clear c3
  try clear c4
  try clear c7
  try clear c8
  try clear c8b0
  try clear c9
  try clear c12
  try clear c15
  try clear c18
  try clear c19
  try clear c21
  try clear hcz10_0
  try clear hcz10_1
  try clear hcz13_0
  try clear hcz13_1
  try clear hcz16_0
  try clear hcz16_1
  try clear hcz20_0
  try clear hcz20_1
  try clear hcz22_0
  try clear hcz22_1
  try clear hfz10_0
  try clear hfz10_1
  try clear hfz13_0
  try clear hfz13_1
  try clear hfz16_0
  try clear hfz16_1
  try clear hfz20_0
  try clear hfz20_1
  try clear hfz22_0
  try clear hfz22_1
  try clear p2
  obtain ⟨x6_2, x27_2, rfl, rfl, HA, HK2, BK221, BK222, HB⟩ := hrel
  cases gk with
  | zero => exact absurd HA.out (by simp [impl_FramesTake.l0])
  | succ k2 =>
   have H := HA.out
   clear HA
   simp only [impl_FramesTake.l0] at H
   by_cases c23 : x27_2 < (l0_1.length : Int)
   ·rw [if_pos c23] at H
    have c23b0 : decide (x27_2 < (l0_1.length : Int)) = true := decide_eq_true c23
    clear c23
    by_cases c24 : 0 ≤ x27_2
    ·rw [if_pos c24] at H
     have c24b0 : decide (0 ≤ x27_2) = true := decide_eq_true c24
     clear c24
     by_cases c25 : x27_2 < (l0_1.length : Int)
     ·rw [if_pos c25] at H
      have c25b0 : decide (x27_2 < (l0_1.length : Int)) = true := decide_eq_true c25
      clear c25
      by_cases c26 : ((rd_T73 l0_1 x27_2).f1) ≥ a1
      ·rw [if_pos c26] at H
       have c26b0 : decide (a1 ≤ ((rd_T73 l0_1 x27_2).f1)) = true := decide_eq_true c26
       clear c26
       by_cases c27 : x6_2 < 0
       ·rw [if_pos c27] at H
        have c27b0 : decide (x6_2 < 0) = true := decide_eq_true c27
        clear c27
        have H' := Aside0.mk H
        clear H
        have p224 : 0 ≤ (x27_2 : Int) := of_decide_eq_true Z8_13
        have q224 : x27_2 < (l0_1.length : Int) := of_decide_eq_true Z8_13
        obtain ⟨ad224, e224, hx224_0, hx224_1⟩ := at_T73 HR0_1.out x27_2 p224 q224
        cases e224
        replace hx224_0 := (HB.out.cell (World.block_lt_of_cell? w _ hx224_0)).trans hx224_0
        replace hx224_1 := (HB.out.cell (World.block_lt_of_cell? w _ hx224_1)).trans hx224_1
        replace p224 := eq_true p224
        replace q224 := eq_true q224
        try go_wp2_with (first | ((with_reducible refine gate_dst (N := 8) rfl ?_); refine box_event ?hg (N := 8) ?hd (cs := #[.int .i64 0, .int .i64 0]) (t := 73) ?hr ?_; (case hd => rfl); (case hg => rfl); (case hr => exact Z8_21); intro gb225 hg w28 hbox hb; have n0_ := Aside0.mk (blk_below (g := gb221) (o := .cells #[.int .i64 a0_0, .slice (some ad224) l0_1.length c0_1] 50 (0, 0)) Z8_2 hb); have n1_ := Aside0.mk (blk_below (g := gb222) (o := .cells #[.int .i64 0, .slice none 0 0] 50 (0, 0)) Z8_3 hb); have n2_ := Aside0.mk (below_step Z8_1 hb); have n3_ := Aside0.mk (hbox); have n4_ := Aside0.mk ((Z8_20 : w.heap.size ≤ gb225)); have n5_ := Aside0.mk ((Z8_20 : w.heap.size ≤ gb225)); have n6_ := Aside0.mk ((Z8_16 : gb221 ≠ gb225)); have n7_ := Aside0.mk ((Z8_17 : gb225 ≠ gb221)); have n8_ := Aside0.mk ((Z8_14 : gb222 ≠ gb225)); have n9_ := Aside0.mk ((Z8_15 : gb225 ≠ gb222)); clear BK221; clear BK222; clear HB; have BK221 := n0_; have BK222 := n1_; have HB := n2_; have BK225 := n3_; have GW225 := n4_; have GE225 := n5_; have NB221_225 := n6_; have NB225_221 := n7_; have NB222_225 := n8_; have NB225_222 := n9_; clear n0_ n1_ n2_ n3_ n4_ n5_ n6_ n7_ n8_ n9_; clear hb hbox hg; have hnb29 := NB225_221.out; have hnc29 := NB221_225.out; have hnb30 := NB225_222.out; have hnc30 := NB222_225.out; have hcz31_0 : w28.cell? ⟨gb225, 0, none⟩ = some (.int .i64 0) := (blk_cell BK225.out 0).trans rfl; have hcz31_1 : w28.cell? ⟨gb225, 1, none⟩ = some (.int .i64 0) := (blk_cell BK225.out 1).trans rfl; have hfz31_0 := blk_frozen BK225.out 0; have hfz31_1 := blk_frozen BK225.out 1))
        have n0_ : Aside0 (((w28.setCell ⟨gb225, 0, none⟩ (.int .i64 ((rd_T73 l0_1 x27_2).f0))).setCell ⟨gb225, 1, none⟩ (.int .i64 ((rd_T73 l0_1 x27_2).f1))).heap[gb221]? = some (.cells #[.int .i64 a0_0, .slice (some ad224) l0_1.length c0_1] 50 (0, 0))) := ⟨Z8_7⟩
        have n1_ : Aside0 (((w28.setCell ⟨gb225, 0, none⟩ (.int .i64 ((rd_T73 l0_1 x27_2).f0))).setCell ⟨gb225, 1, none⟩ (.int .i64 ((rd_T73 l0_1 x27_2).f1))).heap[gb222]? = some (.cells #[.int .i64 0, .slice none 0 0] 50 (0, 0))) := ⟨Z8_8⟩
        have n2_ : Aside0 (((w28.setCell ⟨gb225, 0, none⟩ (.int .i64 ((rd_T73 l0_1 x27_2).f0))).setCell ⟨gb225, 1, none⟩ (.int .i64 ((rd_T73 l0_1 x27_2).f1))).heap[gb225]? = some (.cells #[.int .i64 ((rd_T73 l0_1 x27_2).f0), .int .i64 ((rd_T73 l0_1 x27_2).f1)] 73 (0, 0))) := ⟨Z8_5⟩
        have n3_ : Aside0 (Below w.heap.size w ((w28.setCell ⟨gb225, 0, none⟩ (.int .i64 ((rd_T73 l0_1 x27_2).f0))).setCell ⟨gb225, 1, none⟩ (.int .i64 ((rd_T73 l0_1 x27_2).f1)))) := ⟨Z8_4⟩
        (try clear BK221)
        (try clear BK222)
        (try clear BK225)
        (try clear HB)
        generalize ((w28.setCell ⟨gb225, 0, none⟩ (.int .i64 ((rd_T73 l0_1 x27_2).f0))).setCell ⟨gb225, 1, none⟩ (.int .i64 ((rd_T73 l0_1 x27_2).f1))) = w32 at n0_ n1_ n2_ n3_ ⊢
        have BK221 := n0_
        have BK222 := n1_
        have BK225 := n2_
        have HB := n3_
        clear n0_ n1_ n2_ n3_
        have n0_ := Aside0.mk (blk_drew BK221.out)
        have n1_ := Aside0.mk (blk_drew BK222.out)
        have n2_ := Aside0.mk (blk_drew BK225.out)
        have n3_ := Aside0.mk (below_drew1 HB.out)
        clear BK221
        clear BK222
        clear BK225
        clear HB
        have BK221 := n0_
        have BK222 := n1_
        have BK225 := n2_
        have HB := n3_
        clear n0_ n1_ n2_ n3_
        refine start_ (n := 19) (S := fun w' => w'.cell? ⟨gb225, 0, none⟩ = some (.int .i64 ((rd_T73 l0_1 x27_2).f0)) ∧ w'.cell? ⟨gb225, 1, none⟩ = some (.int .i64 ((rd_T73 l0_1 x27_2).f1))) (ds := []) #[false, false, false, false, false, false, false, false, false, false, false, false, false, false, false, false, false, false, false] Z8_10 rfl rfl ⟨(blk_cell BK225.out 0).trans rfl, (blk_cell BK225.out 1).trans rfl⟩ (fun hHeld => ?_); refine with_tabW impl_FramesTake.tab7 impl_FramesTake.bits7 (fun HT_ HW_ => ?_)
        generalize w32.drew = w33 at BK221 BK222 BK225 HB hHeld ⊢
        refine pure_ (i := 0) (N := some 32) (v := ?_) (a' := ?_) #[true, false, false, false, false, false, false, false, false, false, false, false, false, false, false, false, false, false, false] rfl rfl (any_of HT_.out Z8_10) (fun _ _ _ h => h) (Or.inl ⟨by rfl, ?_⟩) ?_ ?_
        rotate_left
        ·intro w'
         go_simp
         with_reducible rfl
        rotate_left
        ·simp only [Act.put, List.setIfInBounds_toArray, List.set_cons_zero, List.set_cons_succ, i64_w, i32_w]
         rfl
        refine pure_ (i := 2) (N := some 34) (v := ?_) (a' := ?_) #[true, false, true, false, false, false, false, false, false, false, false, false, false, false, false, false, false, false, false] rfl rfl (any_of HT_.out Z8_10) (fun _ _ _ h => h) (Or.inl ⟨by rfl, ?_⟩) ?_ ?_
        rotate_left
        ·intro w'
         go_simp
         with_reducible rfl
        rotate_left
        ·simp only [Act.put, List.setIfInBounds_toArray, List.set_cons_zero, List.set_cons_succ, i64_w, i32_w]
         rfl
        refine take_ (i := 1) (N := some 33) (v := ?_) (a' := ?_) #[true, true, true, false, false, false, false, false, false, false, false, false, false, false, false, false, false, false, false] rfl rfl (take_ofW HT_.out HW_.out Z8_10) (fun _ _ _ h => h) (Or.inl ⟨by rfl, ?_⟩) hHeld ?_ ?_
        rotate_left
        ·rintro w' ⟨s0, s1⟩
         go_simp
         with_reducible rfl
        rotate_left
        ·simp only [Act.put, List.setIfInBounds_toArray, List.set_cons_zero, List.set_cons_succ, i64_w, i32_w]
         rfl
        refine pure_ (i := 3) (N := some 35) (v := ?_) (a' := ?_) #[true, true, true, true, false, false, false, false, false, false, false, false, false, false, false, false, false, false, false] rfl rfl (any_of HT_.out Z8_10) (fun _ _ _ h => h) (Or.inl ⟨by rfl, ?_⟩) ?_ ?_
        rotate_left
        ·intro w'
         go_simp
         with_reducible rfl
        rotate_left
        ·simp only [Act.put, List.setIfInBounds_toArray, List.set_cons_zero, List.set_cons_succ, i64_w, i32_w]
         rfl
        refine pure_ (i := 4) (N := some 36) (v := ?_) (a' := ?_) #[true, true, true, true, true, false, false, false, false, false, false, false, false, false, false, false, false, false, false] rfl rfl (any_of HT_.out Z8_10) (fun _ _ _ h => h) (Or.inl ⟨by rfl, ?_⟩) ?_ ?_
        rotate_left
        ·intro w'
         go_simp
         with_reducible rfl
        rotate_left
        ·simp only [Act.put, List.setIfInBounds_toArray, List.set_cons_zero, List.set_cons_succ, i64_w, i32_w]
         rfl
        refine pure_ (i := 5) (N := some 37) (v := ?_) (a' := ?_) #[true, true, true, true, true, true, false, false, false, false, false, false, false, false, false, false, false, false, false] rfl rfl (any_of HT_.out Z8_10) (fun _ _ _ h => h) (Or.inl ⟨by rfl, ?_⟩) ?_ ?_
        rotate_left
        ·intro w'
         go_simp
         with_reducible rfl
        rotate_left
        ·simp only [Act.put, List.setIfInBounds_toArray, List.set_cons_zero, List.set_cons_succ, i64_w, i32_w]
         rfl
        refine pure_ (i := 6) (N := some 38) (v := ?_) (a' := ?_) #[true, true, true, true, true, true, true, false, false, false, false, false, false, false, false, false, false, false, false] rfl rfl (any_of HT_.out Z8_10) (fun _ _ _ h => h) (Or.inl ⟨by rfl, ?_⟩) ?_ ?_
        rotate_left
        ·intro w'
         go_simp
         with_reducible rfl
        rotate_left
        ·simp only [Act.put, List.setIfInBounds_toArray, List.set_cons_zero, List.set_cons_succ, i64_w, i32_w]
         rfl
        refine pure_ (i := 7) (N := some 39) (v := ?_) (a' := ?_) #[true, true, true, true, true, true, true, true, false, false, false, false, false, false, false, false, false, false, false] rfl rfl (any_of HT_.out Z8_10) (fun _ _ _ h => h) (Or.inl ⟨by rfl, ?_⟩) ?_ ?_
        rotate_left
        ·intro w'
         go_simp
         with_reducible rfl
        rotate_left
        ·simp only [Act.put, List.setIfInBounds_toArray, List.set_cons_zero, List.set_cons_succ, i64_w, i32_w]
         rfl
        refine pure_ (i := 8) (N := some 40) (v := undef) (a' := ?_) #[true, true, true, true, true, true, true, true, true, false, false, false, false, false, false, false, false, false, false] rfl rfl (any_of HT_.out Z8_10) (fun _ _ _ h => h) (Or.inr ⟨by rfl, rfl⟩) ?_ ?_
        rotate_left
        ·simp only [Act.put, List.setIfInBounds_toArray, List.set_cons_zero, List.set_cons_succ, i64_w, i32_w]
         rfl
        refine pure_ (i := 9) (N := some 41) (v := undef) (a' := ?_) #[true, true, true, true, true, true, true, true, true, true, false, false, false, false, false, false, false, false, false] rfl rfl (any_of HT_.out Z8_10) (fun _ _ _ h => h) (Or.inr ⟨by rfl, rfl⟩) ?_ ?_
        rotate_left
        ·simp only [Act.put, List.setIfInBounds_toArray, List.set_cons_zero, List.set_cons_succ, i64_w, i32_w]
         rfl
        refine pure_ (i := 10) (N := some 42) (v := undef) (a' := ?_) #[true, true, true, true, true, true, true, true, true, true, true, false, false, false, false, false, false, false, false] rfl rfl (any_of HT_.out Z8_10) (fun _ _ _ h => h) (Or.inr ⟨by rfl, rfl⟩) ?_ ?_
        rotate_left
        ·simp only [Act.put, List.setIfInBounds_toArray, List.set_cons_zero, List.set_cons_succ, i64_w, i32_w]
         rfl
        refine pure_ (i := 11) (N := some 43) (v := undef) (a' := ?_) #[true, true, true, true, true, true, true, true, true, true, true, true, false, false, false, false, false, false, false] rfl rfl (any_of HT_.out Z8_10) (fun _ _ _ h => h) (Or.inr ⟨by rfl, rfl⟩) ?_ ?_
        rotate_left
        ·simp only [Act.put, List.setIfInBounds_toArray, List.set_cons_zero, List.set_cons_succ, i64_w, i32_w]
         rfl
        refine pure_ (i := 12) (N := some 44) (v := undef) (a' := ?_) #[true, true, true, true, true, true, true, true, true, true, true, true, true, false, false, false, false, false, false] rfl rfl (any_of HT_.out Z8_10) (fun _ _ _ h => h) (Or.inr ⟨by rfl, rfl⟩) ?_ ?_
        rotate_left
        ·simp only [Act.put, List.setIfInBounds_toArray, List.set_cons_zero, List.set_cons_succ, i64_w, i32_w]
         rfl
        refine pure_ (i := 13) (N := some 45) (v := undef) (a' := ?_) #[true, true, true, true, true, true, true, true, true, true, true, true, true, true, false, false, false, false, false] rfl rfl (any_of HT_.out Z8_10) (fun _ _ _ h => h) (Or.inr ⟨by rfl, rfl⟩) ?_ ?_
        rotate_left
        ·simp only [Act.put, List.setIfInBounds_toArray, List.set_cons_zero, List.set_cons_succ, i64_w, i32_w]
         rfl
        refine pure_ (i := 14) (N := some 46) (v := undef) (a' := ?_) #[true, true, true, true, true, true, true, true, true, true, true, true, true, true, true, false, false, false, false] rfl rfl (any_of HT_.out Z8_10) (fun _ _ _ h => h) (Or.inr ⟨by rfl, rfl⟩) ?_ ?_
        rotate_left
        ·simp only [Act.put, List.setIfInBounds_toArray, List.set_cons_zero, List.set_cons_succ, i64_w, i32_w]
         rfl
        refine pure_ (i := 15) (N := some 47) (v := undef) (a' := ?_) #[true, true, true, true, true, true, true, true, true, true, true, true, true, true, true, true, false, false, false] rfl rfl (any_of HT_.out Z8_10) (fun _ _ _ h => h) (Or.inr ⟨by rfl, rfl⟩) ?_ ?_
        rotate_left
        ·simp only [Act.put, List.setIfInBounds_toArray, List.set_cons_zero, List.set_cons_succ, i64_w, i32_w]
         rfl
        refine pure_ (i := 16) (N := some 48) (v := undef) (a' := ?_) #[true, true, true, true, true, true, true, true, true, true, true, true, true, true, true, true, true, false, false] rfl rfl (any_of HT_.out Z8_10) (fun _ _ _ h => h) (Or.inr ⟨by rfl, rfl⟩) ?_ ?_
        rotate_left
        ·simp only [Act.put, List.setIfInBounds_toArray, List.set_cons_zero, List.set_cons_succ, i64_w, i32_w]
         rfl
        refine pure_ (i := 17) (N := some 49) (v := ?_) (a' := ?_) #[true, true, true, true, true, true, true, true, true, true, true, true, true, true, true, true, true, true, false] rfl rfl (any_of HT_.out Z8_10) (fun _ _ _ h => h) (Or.inl ⟨by rfl, ?_⟩) ?_ ?_
        rotate_left
        ·intro w'
         go_simp
         with_reducible rfl
        rotate_left
        ·simp only [Act.put, List.setIfInBounds_toArray, List.set_cons_zero, List.set_cons_succ, i64_w, i32_w]
         rfl
        refine pure_ (i := 18) (N := some 50) (v := ?_) (a' := ?_) #[true, true, true, true, true, true, true, true, true, true, true, true, true, true, true, true, true, true, true] rfl rfl (any_of HT_.out Z8_10) (fun _ _ _ h => h) (Or.inl ⟨by rfl, ?_⟩) ?_ ?_
        rotate_left
        ·intro w'
         go_simp
         with_reducible rfl
        rotate_left
        ·simp only [Act.put, List.setIfInBounds_toArray, List.set_cons_zero, List.set_cons_succ, i64_w, i32_w]
         rfl
        refine done_ (done_of HT_.out Z8_10) ?_
        try go_wp2
        go_roundg k2
        case measure => have := HJ2.out; have := HK2.out; omega
        case rel => exact ⟨(x27_2), (wrap64 (x27_2 + 1)), Z8_6, Z8_6, H', ⟨Z8_23⟩, ⟨Z8_2⟩, ⟨Z8_3⟩, ⟨Z8_4⟩⟩
       rw [if_neg c27] at H
       have c27b0 : decide (x6_2 < 0) = false := decide_eq_false c27
       clear c27
       by_cases c34 : 0 ≤ x6_2
       ·rw [if_pos c34] at H
        have c34b0 : decide (0 ≤ x6_2) = true := decide_eq_true c34
        clear c34
        by_cases c35 : x6_2 < (l0_1.length : Int)
        ·rw [if_pos c35] at H
         have c35b0 : decide (x6_2 < (l0_1.length : Int)) = true := decide_eq_true c35
         clear c35
         by_cases c36 : ((rd_T73 l0_1 x27_2).f1) < ((rd_T73 l0_1 x6_2).f1)
         ·rw [if_pos c36] at H
          have c36b0 : decide (((rd_T73 l0_1 x27_2).f1) < ((rd_T73 l0_1 x6_2).f1)) = true := decide_eq_true c36
          clear c36
          have H' := Aside0.mk H
          clear H
          have p224 : 0 ≤ (x27_2 : Int) := of_decide_eq_true Z8_13
          have q224 : x27_2 < (l0_1.length : Int) := of_decide_eq_true Z8_13
          obtain ⟨ad224, e224, hx224_0, hx224_1⟩ := at_T73 HR0_1.out x27_2 p224 q224
          cases e224
          replace hx224_0 := (HB.out.cell (World.block_lt_of_cell? w _ hx224_0)).trans hx224_0
          replace hx224_1 := (HB.out.cell (World.block_lt_of_cell? w _ hx224_1)).trans hx224_1
          replace p224 := eq_true p224
          replace q224 := eq_true q224
          try go_wp2_with (first | ((with_reducible refine gate_dst (N := 8) rfl ?_); refine box_event ?hg (N := 8) ?hd (cs := #[.int .i64 0, .int .i64 0]) (t := 73) ?hr ?_; (case hd => rfl); (case hg => rfl); (case hr => exact Z8_21); intro gb225 hg w37 hbox hb; have n0_ := Aside0.mk (blk_below (g := gb221) (o := .cells #[.int .i64 a0_0, .slice (some ad224) l0_1.length c0_1] 50 (0, 0)) Z8_2 hb); have n1_ := Aside0.mk (blk_below (g := gb222) (o := .cells #[.int .i64 0, .slice none 0 0] 50 (0, 0)) Z8_3 hb); have n2_ := Aside0.mk (below_step Z8_1 hb); have n3_ := Aside0.mk (hbox); have n4_ := Aside0.mk ((Z8_20 : w.heap.size ≤ gb225)); have n5_ := Aside0.mk ((Z8_20 : w.heap.size ≤ gb225)); have n6_ := Aside0.mk ((Z8_16 : gb221 ≠ gb225)); have n7_ := Aside0.mk ((Z8_17 : gb225 ≠ gb221)); have n8_ := Aside0.mk ((Z8_14 : gb222 ≠ gb225)); have n9_ := Aside0.mk ((Z8_15 : gb225 ≠ gb222)); clear BK221; clear BK222; clear HB; have BK221 := n0_; have BK222 := n1_; have HB := n2_; have BK225 := n3_; have GW225 := n4_; have GE225 := n5_; have NB221_225 := n6_; have NB225_221 := n7_; have NB222_225 := n8_; have NB225_222 := n9_; clear n0_ n1_ n2_ n3_ n4_ n5_ n6_ n7_ n8_ n9_; clear hb hbox hg; have hnb38 := NB225_221.out; have hnc38 := NB221_225.out; have hnb39 := NB225_222.out; have hnc39 := NB222_225.out; have hcz40_0 : w37.cell? ⟨gb225, 0, none⟩ = some (.int .i64 0) := (blk_cell BK225.out 0).trans rfl; have hcz40_1 : w37.cell? ⟨gb225, 1, none⟩ = some (.int .i64 0) := (blk_cell BK225.out 1).trans rfl; have hfz40_0 := blk_frozen BK225.out 0; have hfz40_1 := blk_frozen BK225.out 1))
          have n0_ : Aside0 (((w37.setCell ⟨gb225, 0, none⟩ (.int .i64 ((rd_T73 l0_1 x27_2).f0))).setCell ⟨gb225, 1, none⟩ (.int .i64 ((rd_T73 l0_1 x27_2).f1))).heap[gb221]? = some (.cells #[.int .i64 a0_0, .slice (some ad224) l0_1.length c0_1] 50 (0, 0))) := ⟨Z8_7⟩
          have n1_ : Aside0 (((w37.setCell ⟨gb225, 0, none⟩ (.int .i64 ((rd_T73 l0_1 x27_2).f0))).setCell ⟨gb225, 1, none⟩ (.int .i64 ((rd_T73 l0_1 x27_2).f1))).heap[gb222]? = some (.cells #[.int .i64 0, .slice none 0 0] 50 (0, 0))) := ⟨Z8_8⟩
          have n2_ : Aside0 (((w37.setCell ⟨gb225, 0, none⟩ (.int .i64 ((rd_T73 l0_1 x27_2).f0))).setCell ⟨gb225, 1, none⟩ (.int .i64 ((rd_T73 l0_1 x27_2).f1))).heap[gb225]? = some (.cells #[.int .i64 ((rd_T73 l0_1 x27_2).f0), .int .i64 ((rd_T73 l0_1 x27_2).f1)] 73 (0, 0))) := ⟨Z8_5⟩
          have n3_ : Aside0 (Below w.heap.size w ((w37.setCell ⟨gb225, 0, none⟩ (.int .i64 ((rd_T73 l0_1 x27_2).f0))).setCell ⟨gb225, 1, none⟩ (.int .i64 ((rd_T73 l0_1 x27_2).f1)))) := ⟨Z8_4⟩
          (try clear BK221)
          (try clear BK222)
          (try clear BK225)
          (try clear HB)
          generalize ((w37.setCell ⟨gb225, 0, none⟩ (.int .i64 ((rd_T73 l0_1 x27_2).f0))).setCell ⟨gb225, 1, none⟩ (.int .i64 ((rd_T73 l0_1 x27_2).f1))) = w41 at n0_ n1_ n2_ n3_ ⊢
          have BK221 := n0_
          have BK222 := n1_
          have BK225 := n2_
          have HB := n3_
          clear n0_ n1_ n2_ n3_
          have n0_ := Aside0.mk (blk_drew BK221.out)
          have n1_ := Aside0.mk (blk_drew BK222.out)
          have n2_ := Aside0.mk (blk_drew BK225.out)
          have n3_ := Aside0.mk (below_drew1 HB.out)
          clear BK221
          clear BK222
          clear BK225
          clear HB
          have BK221 := n0_
          have BK222 := n1_
          have BK225 := n2_
          have HB := n3_
          clear n0_ n1_ n2_ n3_
          have p226 : 0 ≤ (x6_2 : Int) := of_decide_eq_true Z8_13
          have q226 : x6_2 < (l0_1.length : Int) := of_decide_eq_true Z8_13
          obtain ⟨ad226, e226, hx226_0, hx226_1⟩ := at_T73 HR0_1.out x6_2 p226 q226
          have hw226_1 := hx226_1
          have hw226_0 := hx226_0
          obtain rfl : ad224 = ad226 := (by injection e226)
          replace hx226_0 := (HB.out.cell (World.block_lt_of_cell? w _ hx226_0)).trans hx226_0
          replace hx226_1 := (HB.out.cell (World.block_lt_of_cell? w _ hx226_1)).trans hx226_1
          replace p226 := eq_true p226
          replace q226 := eq_true q226
          refine start_ (n := 19) (S := fun w' => w'.cell? ⟨gb225, 0, none⟩ = some (.int .i64 ((rd_T73 l0_1 x27_2).f0)) ∧ w'.cell? ⟨gb225, 1, none⟩ = some (.int .i64 ((rd_T73 l0_1 x27_2).f1)) ∧ w'.cell? ⟨gb221, 0, none⟩ = some (.int .i64 a0_0) ∧ w'.cell? ⟨gb221, 1, none⟩ = some (.slice (some ad224) l0_1.length c0_1) ∧ w'.cell? (ad224.add ((x6_2).toNat * 2)) = some (.int .i64 ((rd_T73 l0_1 x6_2).f0)) ∧ w'.cell? ⟨(ad224.add ((x6_2).toNat * 2)).block, (ad224.add ((x6_2).toNat * 2)).off + 1, none⟩ = some (.int .i64 ((rd_T73 l0_1 x6_2).f1))) (ds := []) #[false, false, false, false, false, false, false, false, false, false, false, false, false, false, false, false, false, false, false] Z8_10 rfl rfl ⟨(blk_cell BK225.out 0).trans rfl, (blk_cell BK225.out 1).trans rfl, (blk_cell BK221.out 0).trans rfl, (blk_cell BK221.out 1).trans rfl, ((HB.out.cell (World.block_lt_of_cell? w _ hw226_0)).trans hw226_0), ((HB.out.cell (World.block_lt_of_cell? w _ hw226_1)).trans hw226_1)⟩ (fun hHeld => ?_); refine with_tabW impl_FramesTake.tab7 impl_FramesTake.bits7 (fun HT_ HW_ => ?_)
          generalize w41.drew = w42 at BK221 BK222 BK225 HB hx226_0 hx226_1 hHeld ⊢
          refine pure_ (i := 0) (N := some 32) (v := ?_) (a' := ?_) #[true, false, false, false, false, false, false, false, false, false, false, false, false, false, false, false, false, false, false] rfl rfl (any_of HT_.out Z8_10) (fun _ _ _ h => h) (Or.inl ⟨by rfl, ?_⟩) ?_ ?_
          rotate_left
          ·intro w'
           go_simp
           with_reducible rfl
          rotate_left
          ·simp only [Act.put, List.setIfInBounds_toArray, List.set_cons_zero, List.set_cons_succ, i64_w, i32_w]
           rfl
          refine pure_ (i := 2) (N := some 34) (v := ?_) (a' := ?_) #[true, false, true, false, false, false, false, false, false, false, false, false, false, false, false, false, false, false, false] rfl rfl (any_of HT_.out Z8_10) (fun _ _ _ h => h) (Or.inl ⟨by rfl, ?_⟩) ?_ ?_
          rotate_left
          ·intro w'
           go_simp
           with_reducible rfl
          rotate_left
          ·simp only [Act.put, List.setIfInBounds_toArray, List.set_cons_zero, List.set_cons_succ, i64_w, i32_w]
           rfl
          refine take_ (i := 1) (N := some 33) (v := ?_) (a' := ?_) #[true, true, true, false, false, false, false, false, false, false, false, false, false, false, false, false, false, false, false] rfl rfl (take_ofW HT_.out HW_.out Z8_10) (fun _ _ _ h => h) (Or.inl ⟨by rfl, ?_⟩) hHeld ?_ ?_
          rotate_left
          ·rintro w' ⟨s0, s1, s2, s3, s4, s5⟩
           go_simp
           with_reducible rfl
          rotate_left
          ·simp only [Act.put, List.setIfInBounds_toArray, List.set_cons_zero, List.set_cons_succ, i64_w, i32_w]
           rfl
          refine pure_ (i := 3) (N := some 35) (v := ?_) (a' := ?_) #[true, true, true, true, false, false, false, false, false, false, false, false, false, false, false, false, false, false, false] rfl rfl (any_of HT_.out Z8_10) (fun _ _ _ h => h) (Or.inl ⟨by rfl, ?_⟩) ?_ ?_
          rotate_left
          ·intro w'
           go_simp
           with_reducible rfl
          rotate_left
          ·simp only [Act.put, List.setIfInBounds_toArray, List.set_cons_zero, List.set_cons_succ, i64_w, i32_w]
           rfl
          refine pure_ (i := 4) (N := some 36) (v := ?_) (a' := ?_) #[true, true, true, true, true, false, false, false, false, false, false, false, false, false, false, false, false, false, false] rfl rfl (any_of HT_.out Z8_10) (fun _ _ _ h => h) (Or.inl ⟨by rfl, ?_⟩) ?_ ?_
          rotate_left
          ·intro w'
           go_simp
           with_reducible rfl
          rotate_left
          ·simp only [Act.put, List.setIfInBounds_toArray, List.set_cons_zero, List.set_cons_succ, i64_w, i32_w]
           rfl
          refine pure_ (i := 5) (N := some 37) (v := ?_) (a' := ?_) #[true, true, true, true, true, true, false, false, false, false, false, false, false, false, false, false, false, false, false] rfl rfl (any_of HT_.out Z8_10) (fun _ _ _ h => h) (Or.inl ⟨by rfl, ?_⟩) ?_ ?_
          rotate_left
          ·intro w'
           go_simp
           with_reducible rfl
          rotate_left
          ·simp only [Act.put, List.setIfInBounds_toArray, List.set_cons_zero, List.set_cons_succ, i64_w, i32_w]
           rfl
          refine pure_ (i := 6) (N := some 38) (v := ?_) (a' := ?_) #[true, true, true, true, true, true, true, false, false, false, false, false, false, false, false, false, false, false, false] rfl rfl (any_of HT_.out Z8_10) (fun _ _ _ h => h) (Or.inl ⟨by rfl, ?_⟩) ?_ ?_
          rotate_left
          ·intro w'
           go_simp
           with_reducible rfl
          rotate_left
          ·simp only [Act.put, List.setIfInBounds_toArray, List.set_cons_zero, List.set_cons_succ, i64_w, i32_w]
           rfl
          refine pure_ (i := 7) (N := some 39) (v := ?_) (a' := ?_) #[true, true, true, true, true, true, true, true, false, false, false, false, false, false, false, false, false, false, false] rfl rfl (any_of HT_.out Z8_10) (fun _ _ _ h => h) (Or.inl ⟨by rfl, ?_⟩) ?_ ?_
          rotate_left
          ·intro w'
           go_simp
           with_reducible rfl
          rotate_left
          ·simp only [Act.put, List.setIfInBounds_toArray, List.set_cons_zero, List.set_cons_succ, i64_w, i32_w]
           rfl
          refine pure_ (i := 8) (N := some 40) (v := ?_) (a' := ?_) #[true, true, true, true, true, true, true, true, true, false, false, false, false, false, false, false, false, false, false] rfl rfl (any_of HT_.out Z8_10) (fun _ _ _ h => h) (Or.inl ⟨by rfl, ?_⟩) ?_ ?_
          rotate_left
          ·intro w'
           go_simp
           with_reducible rfl
          rotate_left
          ·simp only [Act.put, List.setIfInBounds_toArray, List.set_cons_zero, List.set_cons_succ, i64_w, i32_w]
           rfl
          refine pure_ (i := 10) (N := some 42) (v := ?_) (a' := ?_) #[true, true, true, true, true, true, true, true, true, false, true, false, false, false, false, false, false, false, false] rfl rfl (any_of HT_.out Z8_10) (fun _ _ _ h => h) (Or.inl ⟨by rfl, ?_⟩) ?_ ?_
          rotate_left
          ·intro w'
           go_simp
           with_reducible rfl
          rotate_left
          ·simp only [Act.put, List.setIfInBounds_toArray, List.set_cons_zero, List.set_cons_succ, i64_w, i32_w]
           rfl
          refine pure_ (i := 12) (N := some 44) (v := ?_) (a' := ?_) #[true, true, true, true, true, true, true, true, true, false, true, false, true, false, false, false, false, false, false] rfl rfl (any_of HT_.out Z8_10) (fun _ _ _ h => h) (Or.inl ⟨by rfl, ?_⟩) ?_ ?_
          rotate_left
          ·intro w'
           go_simp
           with_reducible rfl
          rotate_left
          ·simp only [Act.put, List.setIfInBounds_toArray, List.set_cons_zero, List.set_cons_succ, i64_w, i32_w]
           rfl
          refine take_ (i := 9) (N := some 41) (v := ?_) (a' := ?_) #[true, true, true, true, true, true, true, true, true, true, true, false, true, false, false, false, false, false, false] rfl rfl (take_ofW HT_.out HW_.out Z8_10) (fun _ _ _ h => h) (Or.inl ⟨by rfl, ?_⟩) hHeld ?_ ?_
          rotate_left
          ·rintro w' ⟨s0, s1, s2, s3, s4, s5⟩
           go_simp
           with_reducible rfl
          rotate_left
          ·simp only [Act.put, List.setIfInBounds_toArray, List.set_cons_zero, List.set_cons_succ, i64_w, i32_w]
           rfl
          refine take_ (i := 11) (N := some 43) (v := ?_) (a' := ?_) #[true, true, true, true, true, true, true, true, true, true, true, true, true, false, false, false, false, false, false] rfl rfl (take_ofW HT_.out HW_.out Z8_10) (fun _ _ _ h => h) (Or.inl ⟨by rfl, ?_⟩) hHeld ?_ ?_
          rotate_left
          ·rintro w' ⟨s0, s1, s2, s3, s4, s5⟩
           go_simp
           with_reducible rfl
          rotate_left
          ·simp only [Act.put, List.setIfInBounds_toArray, List.set_cons_zero, List.set_cons_succ, i64_w, i32_w]
           rfl
          refine pure_ (i := 13) (N := some 45) (v := ?_) (a' := ?_) #[true, true, true, true, true, true, true, true, true, true, true, true, true, true, false, false, false, false, false] rfl rfl (any_of HT_.out Z8_10) (fun _ _ _ h => h) (Or.inl ⟨by rfl, ?_⟩) ?_ ?_
          rotate_left
          ·intro w'
           go_simp
           with_reducible rfl
          rotate_left
          ·simp only [Act.put, List.setIfInBounds_toArray, List.set_cons_zero, List.set_cons_succ, i64_w, i32_w]
           rfl
          refine pure_ (i := 14) (N := some 46) (v := ?_) (a' := ?_) #[true, true, true, true, true, true, true, true, true, true, true, true, true, true, true, false, false, false, false] rfl rfl (any_of HT_.out Z8_10) (fun _ _ _ h => h) (Or.inl ⟨by rfl, ?_⟩) ?_ ?_
          rotate_left
          ·intro w'
           go_simp
           with_reducible rfl
          rotate_left
          ·simp only [Act.put, List.setIfInBounds_toArray, List.set_cons_zero, List.set_cons_succ, i64_w, i32_w]
           rfl
          refine take_ (i := 15) (N := some 47) (v := ?_) (a' := ?_) #[true, true, true, true, true, true, true, true, true, true, true, true, true, true, true, true, false, false, false] rfl rfl (take_ofW HT_.out HW_.out Z8_10) (fun _ _ _ h => h) (Or.inl ⟨by rfl, ?_⟩) hHeld ?_ ?_
          rotate_left
          ·rintro w' ⟨s0, s1, s2, s3, s4, s5⟩
           go_simp
           with_reducible rfl
          rotate_left
          ·simp only [Act.put, List.setIfInBounds_toArray, List.set_cons_zero, List.set_cons_succ, i64_w, i32_w]
           rfl
          refine pure_ (i := 16) (N := some 48) (v := ?_) (a' := ?_) #[true, true, true, true, true, true, true, true, true, true, true, true, true, true, true, true, true, false, false] rfl rfl (any_of HT_.out Z8_10) (fun _ _ _ h => h) (Or.inl ⟨by rfl, ?_⟩) ?_ ?_
          rotate_left
          ·intro w'
           go_simp
           with_reducible rfl
          rotate_left
          ·simp only [Act.put, List.setIfInBounds_toArray, List.set_cons_zero, List.set_cons_succ, i64_w, i32_w]
           rfl
          refine pure_ (i := 17) (N := some 49) (v := ?_) (a' := ?_) #[true, true, true, true, true, true, true, true, true, true, true, true, true, true, true, true, true, true, false] rfl rfl (any_of HT_.out Z8_10) (fun _ _ _ h => h) (Or.inl ⟨by rfl, ?_⟩) ?_ ?_
          rotate_left
          ·intro w'
           go_simp
           with_reducible rfl
          rotate_left
          ·simp only [Act.put, List.setIfInBounds_toArray, List.set_cons_zero, List.set_cons_succ, i64_w, i32_w]
           rfl
          refine pure_ (i := 18) (N := some 50) (v := ?_) (a' := ?_) #[true, true, true, true, true, true, true, true, true, true, true, true, true, true, true, true, true, true, true] rfl rfl (any_of HT_.out Z8_10) (fun _ _ _ h => h) (Or.inl ⟨by rfl, ?_⟩) ?_ ?_
          rotate_left
          ·intro w'
           go_simp
           with_reducible rfl
          rotate_left
          ·simp only [Act.put, List.setIfInBounds_toArray, List.set_cons_zero, List.set_cons_succ, i64_w, i32_w]
           rfl
          refine done_ (done_of HT_.out Z8_10) ?_
          try go_wp2
          go_roundg k2
          case measure => have := HJ2.out; have := HK2.out; omega
          case rel => exact ⟨(x27_2), (wrap64 (x27_2 + 1)), Z8_6, Z8_6, H', ⟨Z8_23⟩, ⟨Z8_2⟩, ⟨Z8_3⟩, ⟨Z8_4⟩⟩
         rw [if_neg c36] at H
         have c36b0 : decide (((rd_T73 l0_1 x27_2).f1) < ((rd_T73 l0_1 x6_2).f1)) = false := decide_eq_false c36
         clear c36
         have H' := Aside0.mk H
         clear H
         have p224 : 0 ≤ (x27_2 : Int) := of_decide_eq_true Z8_13
         have q224 : x27_2 < (l0_1.length : Int) := of_decide_eq_true Z8_13
         obtain ⟨ad224, e224, hx224_0, hx224_1⟩ := at_T73 HR0_1.out x27_2 p224 q224
         cases e224
         replace hx224_0 := (HB.out.cell (World.block_lt_of_cell? w _ hx224_0)).trans hx224_0
         replace hx224_1 := (HB.out.cell (World.block_lt_of_cell? w _ hx224_1)).trans hx224_1
         replace p224 := eq_true p224
         replace q224 := eq_true q224
         try go_wp2_with (first | ((with_reducible refine gate_dst (N := 8) rfl ?_); refine box_event ?hg (N := 8) ?hd (cs := #[.int .i64 0, .int .i64 0]) (t := 73) ?hr ?_; (case hd => rfl); (case hg => rfl); (case hr => exact Z8_21); intro gb225 hg w43 hbox hb; have n0_ := Aside0.mk (blk_below (g := gb221) (o := .cells #[.int .i64 a0_0, .slice (some ad224) l0_1.length c0_1] 50 (0, 0)) Z8_2 hb); have n1_ := Aside0.mk (blk_below (g := gb222) (o := .cells #[.int .i64 0, .slice none 0 0] 50 (0, 0)) Z8_3 hb); have n2_ := Aside0.mk (below_step Z8_1 hb); have n3_ := Aside0.mk (hbox); have n4_ := Aside0.mk ((Z8_20 : w.heap.size ≤ gb225)); have n5_ := Aside0.mk ((Z8_20 : w.heap.size ≤ gb225)); have n6_ := Aside0.mk ((Z8_16 : gb221 ≠ gb225)); have n7_ := Aside0.mk ((Z8_17 : gb225 ≠ gb221)); have n8_ := Aside0.mk ((Z8_14 : gb222 ≠ gb225)); have n9_ := Aside0.mk ((Z8_15 : gb225 ≠ gb222)); clear BK221; clear BK222; clear HB; have BK221 := n0_; have BK222 := n1_; have HB := n2_; have BK225 := n3_; have GW225 := n4_; have GE225 := n5_; have NB221_225 := n6_; have NB225_221 := n7_; have NB222_225 := n8_; have NB225_222 := n9_; clear n0_ n1_ n2_ n3_ n4_ n5_ n6_ n7_ n8_ n9_; clear hb hbox hg; have hnb44 := NB225_221.out; have hnc44 := NB221_225.out; have hnb45 := NB225_222.out; have hnc45 := NB222_225.out; have hcz46_0 : w43.cell? ⟨gb225, 0, none⟩ = some (.int .i64 0) := (blk_cell BK225.out 0).trans rfl; have hcz46_1 : w43.cell? ⟨gb225, 1, none⟩ = some (.int .i64 0) := (blk_cell BK225.out 1).trans rfl; have hfz46_0 := blk_frozen BK225.out 0; have hfz46_1 := blk_frozen BK225.out 1))
         have n0_ : Aside0 (((w43.setCell ⟨gb225, 0, none⟩ (.int .i64 ((rd_T73 l0_1 x27_2).f0))).setCell ⟨gb225, 1, none⟩ (.int .i64 ((rd_T73 l0_1 x27_2).f1))).heap[gb221]? = some (.cells #[.int .i64 a0_0, .slice (some ad224) l0_1.length c0_1] 50 (0, 0))) := ⟨Z8_7⟩
         have n1_ : Aside0 (((w43.setCell ⟨gb225, 0, none⟩ (.int .i64 ((rd_T73 l0_1 x27_2).f0))).setCell ⟨gb225, 1, none⟩ (.int .i64 ((rd_T73 l0_1 x27_2).f1))).heap[gb222]? = some (.cells #[.int .i64 0, .slice none 0 0] 50 (0, 0))) := ⟨Z8_8⟩
         have n2_ : Aside0 (((w43.setCell ⟨gb225, 0, none⟩ (.int .i64 ((rd_T73 l0_1 x27_2).f0))).setCell ⟨gb225, 1, none⟩ (.int .i64 ((rd_T73 l0_1 x27_2).f1))).heap[gb225]? = some (.cells #[.int .i64 ((rd_T73 l0_1 x27_2).f0), .int .i64 ((rd_T73 l0_1 x27_2).f1)] 73 (0, 0))) := ⟨Z8_5⟩
         have n3_ : Aside0 (Below w.heap.size w ((w43.setCell ⟨gb225, 0, none⟩ (.int .i64 ((rd_T73 l0_1 x27_2).f0))).setCell ⟨gb225, 1, none⟩ (.int .i64 ((rd_T73 l0_1 x27_2).f1)))) := ⟨Z8_4⟩
         (try clear BK221)
         (try clear BK222)
         (try clear BK225)
         (try clear HB)
         generalize ((w43.setCell ⟨gb225, 0, none⟩ (.int .i64 ((rd_T73 l0_1 x27_2).f0))).setCell ⟨gb225, 1, none⟩ (.int .i64 ((rd_T73 l0_1 x27_2).f1))) = w47 at n0_ n1_ n2_ n3_ ⊢
         have BK221 := n0_
         have BK222 := n1_
         have BK225 := n2_
         have HB := n3_
         clear n0_ n1_ n2_ n3_
         have n0_ := Aside0.mk (blk_drew BK221.out)
         have n1_ := Aside0.mk (blk_drew BK222.out)
         have n2_ := Aside0.mk (blk_drew BK225.out)
         have n3_ := Aside0.mk (below_drew1 HB.out)
         clear BK221
         clear BK222
         clear BK225
         clear HB
         have BK221 := n0_
         have BK222 := n1_
         have BK225 := n2_
         have HB := n3_
         clear n0_ n1_ n2_ n3_
         have p226 : 0 ≤ (x6_2 : Int) := of_decide_eq_true Z8_13
         have q226 : x6_2 < (l0_1.length : Int) := of_decide_eq_true Z8_13
         obtain ⟨ad226, e226, hx226_0, hx226_1⟩ := at_T73 HR0_1.out x6_2 p226 q226
         have hw226_1 := hx226_1
         have hw226_0 := hx226_0
         obtain rfl : ad224 = ad226 := (by injection e226)
         replace hx226_0 := (HB.out.cell (World.block_lt_of_cell? w _ hx226_0)).trans hx226_0
         replace hx226_1 := (HB.out.cell (World.block_lt_of_cell? w _ hx226_1)).trans hx226_1
         replace p226 := eq_true p226
         replace q226 := eq_true q226
         refine start_ (n := 19) (S := fun w' => w'.cell? ⟨gb225, 0, none⟩ = some (.int .i64 ((rd_T73 l0_1 x27_2).f0)) ∧ w'.cell? ⟨gb225, 1, none⟩ = some (.int .i64 ((rd_T73 l0_1 x27_2).f1)) ∧ w'.cell? ⟨gb221, 0, none⟩ = some (.int .i64 a0_0) ∧ w'.cell? ⟨gb221, 1, none⟩ = some (.slice (some ad224) l0_1.length c0_1) ∧ w'.cell? (ad224.add ((x6_2).toNat * 2)) = some (.int .i64 ((rd_T73 l0_1 x6_2).f0)) ∧ w'.cell? ⟨(ad224.add ((x6_2).toNat * 2)).block, (ad224.add ((x6_2).toNat * 2)).off + 1, none⟩ = some (.int .i64 ((rd_T73 l0_1 x6_2).f1))) (ds := []) #[false, false, false, false, false, false, false, false, false, false, false, false, false, false, false, false, false, false, false] Z8_10 rfl rfl ⟨(blk_cell BK225.out 0).trans rfl, (blk_cell BK225.out 1).trans rfl, (blk_cell BK221.out 0).trans rfl, (blk_cell BK221.out 1).trans rfl, ((HB.out.cell (World.block_lt_of_cell? w _ hw226_0)).trans hw226_0), ((HB.out.cell (World.block_lt_of_cell? w _ hw226_1)).trans hw226_1)⟩ (fun hHeld => ?_); refine with_tabW impl_FramesTake.tab7 impl_FramesTake.bits7 (fun HT_ HW_ => ?_)
         generalize w47.drew = w48 at BK221 BK222 BK225 HB hx226_0 hx226_1 hHeld ⊢
         refine pure_ (i := 0) (N := some 32) (v := ?_) (a' := ?_) #[true, false, false, false, false, false, false, false, false, false, false, false, false, false, false, false, false, false, false] rfl rfl (any_of HT_.out Z8_10) (fun _ _ _ h => h) (Or.inl ⟨by rfl, ?_⟩) ?_ ?_
         rotate_left
         ·intro w'
          go_simp
          with_reducible rfl
         rotate_left
         ·simp only [Act.put, List.setIfInBounds_toArray, List.set_cons_zero, List.set_cons_succ, i64_w, i32_w]
          rfl
         refine pure_ (i := 2) (N := some 34) (v := ?_) (a' := ?_) #[true, false, true, false, false, false, false, false, false, false, false, false, false, false, false, false, false, false, false] rfl rfl (any_of HT_.out Z8_10) (fun _ _ _ h => h) (Or.inl ⟨by rfl, ?_⟩) ?_ ?_
         rotate_left
         ·intro w'
          go_simp
          with_reducible rfl
         rotate_left
         ·simp only [Act.put, List.setIfInBounds_toArray, List.set_cons_zero, List.set_cons_succ, i64_w, i32_w]
          rfl
         refine take_ (i := 1) (N := some 33) (v := ?_) (a' := ?_) #[true, true, true, false, false, false, false, false, false, false, false, false, false, false, false, false, false, false, false] rfl rfl (take_ofW HT_.out HW_.out Z8_10) (fun _ _ _ h => h) (Or.inl ⟨by rfl, ?_⟩) hHeld ?_ ?_
         rotate_left
         ·rintro w' ⟨s0, s1, s2, s3, s4, s5⟩
          go_simp
          with_reducible rfl
         rotate_left
         ·simp only [Act.put, List.setIfInBounds_toArray, List.set_cons_zero, List.set_cons_succ, i64_w, i32_w]
          rfl
         refine pure_ (i := 3) (N := some 35) (v := ?_) (a' := ?_) #[true, true, true, true, false, false, false, false, false, false, false, false, false, false, false, false, false, false, false] rfl rfl (any_of HT_.out Z8_10) (fun _ _ _ h => h) (Or.inl ⟨by rfl, ?_⟩) ?_ ?_
         rotate_left
         ·intro w'
          go_simp
          with_reducible rfl
         rotate_left
         ·simp only [Act.put, List.setIfInBounds_toArray, List.set_cons_zero, List.set_cons_succ, i64_w, i32_w]
          rfl
         refine pure_ (i := 4) (N := some 36) (v := ?_) (a' := ?_) #[true, true, true, true, true, false, false, false, false, false, false, false, false, false, false, false, false, false, false] rfl rfl (any_of HT_.out Z8_10) (fun _ _ _ h => h) (Or.inl ⟨by rfl, ?_⟩) ?_ ?_
         rotate_left
         ·intro w'
          go_simp
          with_reducible rfl
         rotate_left
         ·simp only [Act.put, List.setIfInBounds_toArray, List.set_cons_zero, List.set_cons_succ, i64_w, i32_w]
          rfl
         refine pure_ (i := 5) (N := some 37) (v := ?_) (a' := ?_) #[true, true, true, true, true, true, false, false, false, false, false, false, false, false, false, false, false, false, false] rfl rfl (any_of HT_.out Z8_10) (fun _ _ _ h => h) (Or.inl ⟨by rfl, ?_⟩) ?_ ?_
         rotate_left
         ·intro w'
          go_simp
          with_reducible rfl
         rotate_left
         ·simp only [Act.put, List.setIfInBounds_toArray, List.set_cons_zero, List.set_cons_succ, i64_w, i32_w]
          rfl
         refine pure_ (i := 6) (N := some 38) (v := ?_) (a' := ?_) #[true, true, true, true, true, true, true, false, false, false, false, false, false, false, false, false, false, false, false] rfl rfl (any_of HT_.out Z8_10) (fun _ _ _ h => h) (Or.inl ⟨by rfl, ?_⟩) ?_ ?_
         rotate_left
         ·intro w'
          go_simp
          with_reducible rfl
         rotate_left
         ·simp only [Act.put, List.setIfInBounds_toArray, List.set_cons_zero, List.set_cons_succ, i64_w, i32_w]
          rfl
         refine pure_ (i := 7) (N := some 39) (v := ?_) (a' := ?_) #[true, true, true, true, true, true, true, true, false, false, false, false, false, false, false, false, false, false, false] rfl rfl (any_of HT_.out Z8_10) (fun _ _ _ h => h) (Or.inl ⟨by rfl, ?_⟩) ?_ ?_
         rotate_left
         ·intro w'
          go_simp
          with_reducible rfl
         rotate_left
         ·simp only [Act.put, List.setIfInBounds_toArray, List.set_cons_zero, List.set_cons_succ, i64_w, i32_w]
          rfl
         refine pure_ (i := 8) (N := some 40) (v := ?_) (a' := ?_) #[true, true, true, true, true, true, true, true, true, false, false, false, false, false, false, false, false, false, false] rfl rfl (any_of HT_.out Z8_10) (fun _ _ _ h => h) (Or.inl ⟨by rfl, ?_⟩) ?_ ?_
         rotate_left
         ·intro w'
          go_simp
          with_reducible rfl
         rotate_left
         ·simp only [Act.put, List.setIfInBounds_toArray, List.set_cons_zero, List.set_cons_succ, i64_w, i32_w]
          rfl
         refine pure_ (i := 10) (N := some 42) (v := ?_) (a' := ?_) #[true, true, true, true, true, true, true, true, true, false, true, false, false, false, false, false, false, false, false] rfl rfl (any_of HT_.out Z8_10) (fun _ _ _ h => h) (Or.inl ⟨by rfl, ?_⟩) ?_ ?_
         rotate_left
         ·intro w'
          go_simp
          with_reducible rfl
         rotate_left
         ·simp only [Act.put, List.setIfInBounds_toArray, List.set_cons_zero, List.set_cons_succ, i64_w, i32_w]
          rfl
         refine pure_ (i := 12) (N := some 44) (v := ?_) (a' := ?_) #[true, true, true, true, true, true, true, true, true, false, true, false, true, false, false, false, false, false, false] rfl rfl (any_of HT_.out Z8_10) (fun _ _ _ h => h) (Or.inl ⟨by rfl, ?_⟩) ?_ ?_
         rotate_left
         ·intro w'
          go_simp
          with_reducible rfl
         rotate_left
         ·simp only [Act.put, List.setIfInBounds_toArray, List.set_cons_zero, List.set_cons_succ, i64_w, i32_w]
          rfl
         refine take_ (i := 9) (N := some 41) (v := ?_) (a' := ?_) #[true, true, true, true, true, true, true, true, true, true, true, false, true, false, false, false, false, false, false] rfl rfl (take_ofW HT_.out HW_.out Z8_10) (fun _ _ _ h => h) (Or.inl ⟨by rfl, ?_⟩) hHeld ?_ ?_
         rotate_left
         ·rintro w' ⟨s0, s1, s2, s3, s4, s5⟩
          go_simp
          with_reducible rfl
         rotate_left
         ·simp only [Act.put, List.setIfInBounds_toArray, List.set_cons_zero, List.set_cons_succ, i64_w, i32_w]
          rfl
         refine take_ (i := 11) (N := some 43) (v := ?_) (a' := ?_) #[true, true, true, true, true, true, true, true, true, true, true, true, true, false, false, false, false, false, false] rfl rfl (take_ofW HT_.out HW_.out Z8_10) (fun _ _ _ h => h) (Or.inl ⟨by rfl, ?_⟩) hHeld ?_ ?_
         rotate_left
         ·rintro w' ⟨s0, s1, s2, s3, s4, s5⟩
          go_simp
          with_reducible rfl
         rotate_left
         ·simp only [Act.put, List.setIfInBounds_toArray, List.set_cons_zero, List.set_cons_succ, i64_w, i32_w]
          rfl
         refine pure_ (i := 13) (N := some 45) (v := ?_) (a' := ?_) #[true, true, true, true, true, true, true, true, true, true, true, true, true, true, false, false, false, false, false] rfl rfl (any_of HT_.out Z8_10) (fun _ _ _ h => h) (Or.inl ⟨by rfl, ?_⟩) ?_ ?_
         rotate_left
         ·intro w'
          go_simp
          with_reducible rfl
         rotate_left
         ·simp only [Act.put, List.setIfInBounds_toArray, List.set_cons_zero, List.set_cons_succ, i64_w, i32_w]
          rfl
         refine pure_ (i := 14) (N := some 46) (v := ?_) (a' := ?_) #[true, true, true, true, true, true, true, true, true, true, true, true, true, true, true, false, false, false, false] rfl rfl (any_of HT_.out Z8_10) (fun _ _ _ h => h) (Or.inl ⟨by rfl, ?_⟩) ?_ ?_
         rotate_left
         ·intro w'
          go_simp
          with_reducible rfl
         rotate_left
         ·simp only [Act.put, List.setIfInBounds_toArray, List.set_cons_zero, List.set_cons_succ, i64_w, i32_w]
          rfl
         refine take_ (i := 15) (N := some 47) (v := ?_) (a' := ?_) #[true, true, true, true, true, true, true, true, true, true, true, true, true, true, true, true, false, false, false] rfl rfl (take_ofW HT_.out HW_.out Z8_10) (fun _ _ _ h => h) (Or.inl ⟨by rfl, ?_⟩) hHeld ?_ ?_
         rotate_left
         ·rintro w' ⟨s0, s1, s2, s3, s4, s5⟩
          go_simp
          with_reducible rfl
         rotate_left
         ·simp only [Act.put, List.setIfInBounds_toArray, List.set_cons_zero, List.set_cons_succ, i64_w, i32_w]
          rfl
         refine pure_ (i := 16) (N := some 48) (v := ?_) (a' := ?_) #[true, true, true, true, true, true, true, true, true, true, true, true, true, true, true, true, true, false, false] rfl rfl (any_of HT_.out Z8_10) (fun _ _ _ h => h) (Or.inl ⟨by rfl, ?_⟩) ?_ ?_
         rotate_left
         ·intro w'
          go_simp
          with_reducible rfl
         rotate_left
         ·simp only [Act.put, List.setIfInBounds_toArray, List.set_cons_zero, List.set_cons_succ, i64_w, i32_w]
          rfl
         refine pure_ (i := 17) (N := some 49) (v := ?_) (a' := ?_) #[true, true, true, true, true, true, true, true, true, true, true, true, true, true, true, true, true, true, false] rfl rfl (any_of HT_.out Z8_10) (fun _ _ _ h => h) (Or.inl ⟨by rfl, ?_⟩) ?_ ?_
         rotate_left
         ·intro w'
          go_simp
          with_reducible rfl
         rotate_left
         ·simp only [Act.put, List.setIfInBounds_toArray, List.set_cons_zero, List.set_cons_succ, i64_w, i32_w]
          rfl
         refine pure_ (i := 18) (N := some 50) (v := ?_) (a' := ?_) #[true, true, true, true, true, true, true, true, true, true, true, true, true, true, true, true, true, true, true] rfl rfl (any_of HT_.out Z8_10) (fun _ _ _ h => h) (Or.inl ⟨by rfl, ?_⟩) ?_ ?_
         rotate_left
         ·intro w'
          go_simp
          with_reducible rfl
         rotate_left
         ·simp only [Act.put, List.setIfInBounds_toArray, List.set_cons_zero, List.set_cons_succ, i64_w, i32_w]
          rfl
         refine done_ (done_of HT_.out Z8_10) ?_
         try go_wp2
         go_roundg k2
         case measure => have := HJ2.out; have := HK2.out; omega
         case rel => exact ⟨(x6_2), (wrap64 (x27_2 + 1)), Z8_6, Z8_6, H', ⟨Z8_23⟩, ⟨Z8_2⟩, ⟨Z8_3⟩, ⟨Z8_4⟩⟩
        rw [if_neg c35] at H
        exact absurd H (by simp)
       rw [if_neg c34] at H
       exact absurd H (by simp)
      rw [if_neg c26] at H
      have c26b0 : decide (a1 ≤ ((rd_T73 l0_1 x27_2).f1)) = false := decide_eq_false c26
      clear c26
      have H' := Aside0.mk H
      clear H
      have p224 : 0 ≤ (x27_2 : Int) := of_decide_eq_true Z8_13
      have q224 : x27_2 < (l0_1.length : Int) := of_decide_eq_true Z8_13
      obtain ⟨ad224, e224, hx224_0, hx224_1⟩ := at_T73 HR0_1.out x27_2 p224 q224
      cases e224
      replace hx224_0 := (HB.out.cell (World.block_lt_of_cell? w _ hx224_0)).trans hx224_0
      replace hx224_1 := (HB.out.cell (World.block_lt_of_cell? w _ hx224_1)).trans hx224_1
      replace p224 := eq_true p224
      replace q224 := eq_true q224
      try go_wp2_with (first | ((with_reducible refine gate_dst (N := 8) rfl ?_); refine box_event ?hg (N := 8) ?hd (cs := #[.int .i64 0, .int .i64 0]) (t := 73) ?hr ?_; (case hd => rfl); (case hg => rfl); (case hr => exact Z8_21); intro gb225 hg w49 hbox hb; have n0_ := Aside0.mk (blk_below (g := gb221) (o := .cells #[.int .i64 a0_0, .slice (some ad224) l0_1.length c0_1] 50 (0, 0)) Z8_2 hb); have n1_ := Aside0.mk (blk_below (g := gb222) (o := .cells #[.int .i64 0, .slice none 0 0] 50 (0, 0)) Z8_3 hb); have n2_ := Aside0.mk (below_step Z8_1 hb); have n3_ := Aside0.mk (hbox); have n4_ := Aside0.mk ((Z8_20 : w.heap.size ≤ gb225)); have n5_ := Aside0.mk ((Z8_20 : w.heap.size ≤ gb225)); have n6_ := Aside0.mk ((Z8_16 : gb221 ≠ gb225)); have n7_ := Aside0.mk ((Z8_17 : gb225 ≠ gb221)); have n8_ := Aside0.mk ((Z8_14 : gb222 ≠ gb225)); have n9_ := Aside0.mk ((Z8_15 : gb225 ≠ gb222)); clear BK221; clear BK222; clear HB; have BK221 := n0_; have BK222 := n1_; have HB := n2_; have BK225 := n3_; have GW225 := n4_; have GE225 := n5_; have NB221_225 := n6_; have NB225_221 := n7_; have NB222_225 := n8_; have NB225_222 := n9_; clear n0_ n1_ n2_ n3_ n4_ n5_ n6_ n7_ n8_ n9_; clear hb hbox hg; have hnb50 := NB225_221.out; have hnc50 := NB221_225.out; have hnb51 := NB225_222.out; have hnc51 := NB222_225.out; have hcz52_0 : w49.cell? ⟨gb225, 0, none⟩ = some (.int .i64 0) := (blk_cell BK225.out 0).trans rfl; have hcz52_1 : w49.cell? ⟨gb225, 1, none⟩ = some (.int .i64 0) := (blk_cell BK225.out 1).trans rfl; have hfz52_0 := blk_frozen BK225.out 0; have hfz52_1 := blk_frozen BK225.out 1))
      have n0_ : Aside0 (((w49.setCell ⟨gb225, 0, none⟩ (.int .i64 ((rd_T73 l0_1 x27_2).f0))).setCell ⟨gb225, 1, none⟩ (.int .i64 ((rd_T73 l0_1 x27_2).f1))).heap[gb221]? = some (.cells #[.int .i64 a0_0, .slice (some ad224) l0_1.length c0_1] 50 (0, 0))) := ⟨Z8_7⟩
      have n1_ : Aside0 (((w49.setCell ⟨gb225, 0, none⟩ (.int .i64 ((rd_T73 l0_1 x27_2).f0))).setCell ⟨gb225, 1, none⟩ (.int .i64 ((rd_T73 l0_1 x27_2).f1))).heap[gb222]? = some (.cells #[.int .i64 0, .slice none 0 0] 50 (0, 0))) := ⟨Z8_8⟩
      have n2_ : Aside0 (((w49.setCell ⟨gb225, 0, none⟩ (.int .i64 ((rd_T73 l0_1 x27_2).f0))).setCell ⟨gb225, 1, none⟩ (.int .i64 ((rd_T73 l0_1 x27_2).f1))).heap[gb225]? = some (.cells #[.int .i64 ((rd_T73 l0_1 x27_2).f0), .int .i64 ((rd_T73 l0_1 x27_2).f1)] 73 (0, 0))) := ⟨Z8_5⟩
      have n3_ : Aside0 (Below w.heap.size w ((w49.setCell ⟨gb225, 0, none⟩ (.int .i64 ((rd_T73 l0_1 x27_2).f0))).setCell ⟨gb225, 1, none⟩ (.int .i64 ((rd_T73 l0_1 x27_2).f1)))) := ⟨Z8_4⟩
      (try clear BK221)
      (try clear BK222)
      (try clear BK225)
      (try clear HB)
      generalize ((w49.setCell ⟨gb225, 0, none⟩ (.int .i64 ((rd_T73 l0_1 x27_2).f0))).setCell ⟨gb225, 1, none⟩ (.int .i64 ((rd_T73 l0_1 x27_2).f1))) = w53 at n0_ n1_ n2_ n3_ ⊢
      have BK221 := n0_
      have BK222 := n1_
      have BK225 := n2_
      have HB := n3_
      clear n0_ n1_ n2_ n3_
      have n0_ := Aside0.mk (blk_drew BK221.out)
      have n1_ := Aside0.mk (blk_drew BK222.out)
      have n2_ := Aside0.mk (blk_drew BK225.out)
      have n3_ := Aside0.mk (below_drew1 HB.out)
      clear BK221
      clear BK222
      clear BK225
      clear HB
      have BK221 := n0_
      have BK222 := n1_
      have BK225 := n2_
      have HB := n3_
      clear n0_ n1_ n2_ n3_
      refine start_ (n := 19) (S := fun w' => w'.cell? ⟨gb225, 0, none⟩ = some (.int .i64 ((rd_T73 l0_1 x27_2).f0)) ∧ w'.cell? ⟨gb225, 1, none⟩ = some (.int .i64 ((rd_T73 l0_1 x27_2).f1))) (ds := []) #[false, false, false, false, false, false, false, false, false, false, false, false, false, false, false, false, false, false, false] Z8_10 rfl rfl ⟨(blk_cell BK225.out 0).trans rfl, (blk_cell BK225.out 1).trans rfl⟩ (fun hHeld => ?_); refine with_tabW impl_FramesTake.tab7 impl_FramesTake.bits7 (fun HT_ HW_ => ?_)
      generalize w53.drew = w54 at BK221 BK222 BK225 HB hHeld ⊢
      refine pure_ (i := 0) (N := some 32) (v := ?_) (a' := ?_) #[true, false, false, false, false, false, false, false, false, false, false, false, false, false, false, false, false, false, false] rfl rfl (any_of HT_.out Z8_10) (fun _ _ _ h => h) (Or.inl ⟨by rfl, ?_⟩) ?_ ?_
      rotate_left
      ·intro w'
       go_simp
       with_reducible rfl
      rotate_left
      ·simp only [Act.put, List.setIfInBounds_toArray, List.set_cons_zero, List.set_cons_succ, i64_w, i32_w]
       rfl
      refine pure_ (i := 2) (N := some 34) (v := ?_) (a' := ?_) #[true, false, true, false, false, false, false, false, false, false, false, false, false, false, false, false, false, false, false] rfl rfl (any_of HT_.out Z8_10) (fun _ _ _ h => h) (Or.inl ⟨by rfl, ?_⟩) ?_ ?_
      rotate_left
      ·intro w'
       go_simp
       with_reducible rfl
      rotate_left
      ·simp only [Act.put, List.setIfInBounds_toArray, List.set_cons_zero, List.set_cons_succ, i64_w, i32_w]
       rfl
      refine take_ (i := 1) (N := some 33) (v := ?_) (a' := ?_) #[true, true, true, false, false, false, false, false, false, false, false, false, false, false, false, false, false, false, false] rfl rfl (take_ofW HT_.out HW_.out Z8_10) (fun _ _ _ h => h) (Or.inl ⟨by rfl, ?_⟩) hHeld ?_ ?_
      rotate_left
      ·rintro w' ⟨s0, s1⟩
       go_simp
       with_reducible rfl
      rotate_left
      ·simp only [Act.put, List.setIfInBounds_toArray, List.set_cons_zero, List.set_cons_succ, i64_w, i32_w]
       rfl
      refine pure_ (i := 3) (N := some 35) (v := ?_) (a' := ?_) #[true, true, true, true, false, false, false, false, false, false, false, false, false, false, false, false, false, false, false] rfl rfl (any_of HT_.out Z8_10) (fun _ _ _ h => h) (Or.inl ⟨by rfl, ?_⟩) ?_ ?_
      rotate_left
      ·intro w'
       go_simp
       with_reducible rfl
      rotate_left
      ·simp only [Act.put, List.setIfInBounds_toArray, List.set_cons_zero, List.set_cons_succ, i64_w, i32_w]
       rfl
      refine pure_ (i := 4) (N := some 36) (v := ?_) (a' := ?_) #[true, true, true, true, true, false, false, false, false, false, false, false, false, false, false, false, false, false, false] rfl rfl (any_of HT_.out Z8_10) (fun _ _ _ h => h) (Or.inl ⟨by rfl, ?_⟩) ?_ ?_
      rotate_left
      ·intro w'
       go_simp
       with_reducible rfl
      rotate_left
      ·simp only [Act.put, List.setIfInBounds_toArray, List.set_cons_zero, List.set_cons_succ, i64_w, i32_w]
       rfl
      refine pure_ (i := 5) (N := some 37) (v := undef) (a' := ?_) #[true, true, true, true, true, true, false, false, false, false, false, false, false, false, false, false, false, false, false] rfl rfl (any_of HT_.out Z8_10) (fun _ _ _ h => h) (Or.inr ⟨by rfl, rfl⟩) ?_ ?_
      rotate_left
      ·simp only [Act.put, List.setIfInBounds_toArray, List.set_cons_zero, List.set_cons_succ, i64_w, i32_w]
       rfl
      refine pure_ (i := 6) (N := some 38) (v := undef) (a' := ?_) #[true, true, true, true, true, true, true, false, false, false, false, false, false, false, false, false, false, false, false] rfl rfl (any_of HT_.out Z8_10) (fun _ _ _ h => h) (Or.inr ⟨by rfl, rfl⟩) ?_ ?_
      rotate_left
      ·simp only [Act.put, List.setIfInBounds_toArray, List.set_cons_zero, List.set_cons_succ, i64_w, i32_w]
       rfl
      refine pure_ (i := 7) (N := some 39) (v := undef) (a' := ?_) #[true, true, true, true, true, true, true, true, false, false, false, false, false, false, false, false, false, false, false] rfl rfl (any_of HT_.out Z8_10) (fun _ _ _ h => h) (Or.inr ⟨by rfl, rfl⟩) ?_ ?_
      rotate_left
      ·simp only [Act.put, List.setIfInBounds_toArray, List.set_cons_zero, List.set_cons_succ, i64_w, i32_w]
       rfl
      refine pure_ (i := 8) (N := some 40) (v := undef) (a' := ?_) #[true, true, true, true, true, true, true, true, true, false, false, false, false, false, false, false, false, false, false] rfl rfl (any_of HT_.out Z8_10) (fun _ _ _ h => h) (Or.inr ⟨by rfl, rfl⟩) ?_ ?_
      rotate_left
      ·simp only [Act.put, List.setIfInBounds_toArray, List.set_cons_zero, List.set_cons_succ, i64_w, i32_w]
       rfl
      refine pure_ (i := 9) (N := some 41) (v := undef) (a' := ?_) #[true, true, true, true, true, true, true, true, true, true, false, false, false, false, false, false, false, false, false] rfl rfl (any_of HT_.out Z8_10) (fun _ _ _ h => h) (Or.inr ⟨by rfl, rfl⟩) ?_ ?_
      rotate_left
      ·simp only [Act.put, List.setIfInBounds_toArray, List.set_cons_zero, List.set_cons_succ, i64_w, i32_w]
       rfl
      refine pure_ (i := 10) (N := some 42) (v := undef) (a' := ?_) #[true, true, true, true, true, true, true, true, true, true, true, false, false, false, false, false, false, false, false] rfl rfl (any_of HT_.out Z8_10) (fun _ _ _ h => h) (Or.inr ⟨by rfl, rfl⟩) ?_ ?_
      rotate_left
      ·simp only [Act.put, List.setIfInBounds_toArray, List.set_cons_zero, List.set_cons_succ, i64_w, i32_w]
       rfl
      refine pure_ (i := 11) (N := some 43) (v := undef) (a' := ?_) #[true, true, true, true, true, true, true, true, true, true, true, true, false, false, false, false, false, false, false] rfl rfl (any_of HT_.out Z8_10) (fun _ _ _ h => h) (Or.inr ⟨by rfl, rfl⟩) ?_ ?_
      rotate_left
      ·simp only [Act.put, List.setIfInBounds_toArray, List.set_cons_zero, List.set_cons_succ, i64_w, i32_w]
       rfl
      refine pure_ (i := 12) (N := some 44) (v := undef) (a' := ?_) #[true, true, true, true, true, true, true, true, true, true, true, true, true, false, false, false, false, false, false] rfl rfl (any_of HT_.out Z8_10) (fun _ _ _ h => h) (Or.inr ⟨by rfl, rfl⟩) ?_ ?_
      rotate_left
      ·simp only [Act.put, List.setIfInBounds_toArray, List.set_cons_zero, List.set_cons_succ, i64_w, i32_w]
       rfl
      refine pure_ (i := 13) (N := some 45) (v := undef) (a' := ?_) #[true, true, true, true, true, true, true, true, true, true, true, true, true, true, false, false, false, false, false] rfl rfl (any_of HT_.out Z8_10) (fun _ _ _ h => h) (Or.inr ⟨by rfl, rfl⟩) ?_ ?_
      rotate_left
      ·simp only [Act.put, List.setIfInBounds_toArray, List.set_cons_zero, List.set_cons_succ, i64_w, i32_w]
       rfl
      refine pure_ (i := 14) (N := some 46) (v := undef) (a' := ?_) #[true, true, true, true, true, true, true, true, true, true, true, true, true, true, true, false, false, false, false] rfl rfl (any_of HT_.out Z8_10) (fun _ _ _ h => h) (Or.inr ⟨by rfl, rfl⟩) ?_ ?_
      rotate_left
      ·simp only [Act.put, List.setIfInBounds_toArray, List.set_cons_zero, List.set_cons_succ, i64_w, i32_w]
       rfl
      refine pure_ (i := 15) (N := some 47) (v := undef) (a' := ?_) #[true, true, true, true, true, true, true, true, true, true, true, true, true, true, true, true, false, false, false] rfl rfl (any_of HT_.out Z8_10) (fun _ _ _ h => h) (Or.inr ⟨by rfl, rfl⟩) ?_ ?_
      rotate_left
      ·simp only [Act.put, List.setIfInBounds_toArray, List.set_cons_zero, List.set_cons_succ, i64_w, i32_w]
       rfl
      refine pure_ (i := 16) (N := some 48) (v := undef) (a' := ?_) #[true, true, true, true, true, true, true, true, true, true, true, true, true, true, true, true, true, false, false] rfl rfl (any_of HT_.out Z8_10) (fun _ _ _ h => h) (Or.inr ⟨by rfl, rfl⟩) ?_ ?_
      rotate_left
      ·simp only [Act.put, List.setIfInBounds_toArray, List.set_cons_zero, List.set_cons_succ, i64_w, i32_w]
       rfl
      refine pure_ (i := 17) (N := some 49) (v := undef) (a' := ?_) #[true, true, true, true, true, true, true, true, true, true, true, true, true, true, true, true, true, true, false] rfl rfl (any_of HT_.out Z8_10) (fun _ _ _ h => h) (Or.inr ⟨by rfl, rfl⟩) ?_ ?_
      rotate_left
      ·simp only [Act.put, List.setIfInBounds_toArray, List.set_cons_zero, List.set_cons_succ, i64_w, i32_w]
       rfl
      refine pure_ (i := 18) (N := some 50) (v := ?_) (a' := ?_) #[true, true, true, true, true, true, true, true, true, true, true, true, true, true, true, true, true, true, true] rfl rfl (any_of HT_.out Z8_10) (fun _ _ _ h => h) (Or.inl ⟨by rfl, ?_⟩) ?_ ?_
      rotate_left
      ·intro w'
       go_simp
       with_reducible rfl
      rotate_left
      ·simp only [Act.put, List.setIfInBounds_toArray, List.set_cons_zero, List.set_cons_succ, i64_w, i32_w]
       rfl
      refine done_ (done_of HT_.out Z8_10) ?_
      try go_wp2
      go_roundg k2
      case measure => have := HJ2.out; have := HK2.out; omega
      case rel => exact ⟨(x6_2), (wrap64 (x27_2 + 1)), Z8_6, Z8_6, H', ⟨Z8_23⟩, ⟨Z8_2⟩, ⟨Z8_3⟩, ⟨Z8_4⟩⟩
     rw [if_neg c25] at H
     exact absurd H (by simp)
    rw [if_neg c24] at H
    exact absurd H (by simp)
   rw [if_neg c23] at H
   have c23b0 : decide (x27_2 < (l0_1.length : Int)) = false := decide_eq_false c23
   clear c23
   by_cases c55 : x6_2 < 0
   ·rw [if_pos c55] at H
    have c55b0 : decide (x6_2 < 0) = true := decide_eq_true c55
    clear c55
    replace H := Option.bind_eq_some_iff.mp H
    obtain ⟨⟨t227, t228⟩, A560, H⟩ := H
    replace H : (some (t227, t228, (-1))) = some (r1, r2, r3) := H
    have A56 := Aside0.mk A560
    clear A560
    simp only [Option.some.injEq, Prod.mk.injEq] at H
    obtain ⟨rfl, rfl, rfl⟩ := H
    have hnb57 := NB221_222.out
    have hnc57 := NB222_221.out
    have hcz58_0 : wr.cell? ⟨gb221, 0, none⟩ = some (.int .i64 a0_0) := (blk_cell BK221.out 0).trans rfl
    have hcz58_1 : wr.cell? ⟨gb221, 1, none⟩ = some (.slice A0_1 l0_1.length c0_1) := (blk_cell BK221.out 1).trans rfl
    have hfz58_0 := blk_frozen BK221.out 0
    have hfz58_1 := blk_frozen BK221.out 1
    go_wp2_with (first | ((with_reducible refine gate_callee (f := 85) rfl ?_); refine goesL_ (some 56) rfl rfl Try.func85 Z8_10 rfl #[.agg #[.int .i64 a0_0, .slice A0_1 l0_1.length c0_1]] rfl Z8_11 ?_; (with_reducible refine (impl_copyFrames.calls a0_0 _ _ l0_1 t227 t228 _ ?side1 ?side2 A56.out).mono ?_); (case side1 => exact Z8_12); (case side2 => exact HC0_1.out); rintro e w59 ⟨v229, rfl, ho0, hb⟩; refine ⟨_, rfl, ?_⟩; have n0_ := Aside0.mk (Kd.R_lower ho0 (below_size Z8_1)); have n1_ := Aside0.mk (blk_below (g := gb221) (o := .cells #[.int .i64 a0_0, .slice A0_1 l0_1.length c0_1] 50 (0, 0)) Z8_2 hb); have n2_ := Aside0.mk (blk_below (g := gb222) (o := .cells #[.int .i64 0, .slice none 0 0] 50 (0, 0)) Z8_3 hb); have n3_ := Aside0.mk (below_step Z8_1 hb); clear BK221; clear BK222; clear HB; have HO230 := n0_; have BK221 := n1_; have BK222 := n2_; have HB := n3_; clear n0_ n1_ n2_ n3_; (try clear hb); (try clear hb2 hk hi); (try clear ho0); have hcz60_0 : w59.cell? ⟨gb222, 0, none⟩ = some (.int .i64 0) := (blk_cell BK222.out 0).trans rfl; have hcz60_1 : w59.cell? ⟨gb222, 1, none⟩ = some (.slice none 0 0) := (blk_cell BK222.out 1).trans rfl; have hfz60_0 := blk_frozen BK222.out 0; have hfz60_1 := blk_frozen BK222.out 1; obtain ⟨Ao61, co61, eo61⟩ := Kd.R_slice HO230.out; subst eo61))
    refine bodyPost_ret (results_ct rfl _ _ gb222 50 #[.int .i64 t227, .slice Ao61 t228.length co61] (0, 0) _ rfl (by (with_reducible repeat (first | apply blk_drewN | apply blk_drew | apply blk_alloc)); refine blk_put (cs := #[.int .i64 t227, .slice none 0 0]) ?_ 1 _ rfl; (with_reducible repeat (first | apply blk_drewN | apply blk_drew | apply blk_alloc)); refine blk_put (cs := #[.int .i64 0, .slice none 0 0]) ?_ 0 _ rfl; (with_reducible repeat (first | apply blk_drewN | apply blk_drew | apply blk_alloc)); exact BK222.out) Try.underlying50 rfl Z8_10) rfl ?_
    exact ⟨_, by first | rfl | (simp [errW_none, errW_some] <;> rfl) | (simp [*, errW_none, errW_some] <;> rfl), by (with_reducible repeat (first | apply Kd.R_alloc | apply Kd.R_drewN | apply Kd.R_drew)); exact Kd.R_mono (Kd.R_far (p := ⟨gb222, 1, none⟩) (Kd.R_far (p := ⟨gb222, 0, none⟩) (Kd.R_types HO230.out BK222.out (by decide)) (fun _ hk => hk.2) (.int .i64 t227)) (fun _ hk => hk.2) (.slice Ao61 t228.length co61)) (fun _ hk => trivial), Z8_1⟩
   rw [if_neg c55] at H
   have c55b0 : decide (x6_2 < 0) = false := decide_eq_false c55
   clear c55
   replace H := Option.bind_eq_some_iff.mp H
   obtain ⟨t231, A620, H⟩ := H
   replace H : (if 0 ≤ x6_2 then (if x6_2 < (l0_1.length : Int) then (if 0 ≤ a1 then (impl_FramesTake.l1 k2 t231 (shl .i64 1 a1) 0 ((rd_T73 l0_1 x6_2).f0) ((rd_T73 l0_1 x6_2).f1)) else (none)) else (none)) else (none)) = some (r1, r2, r3) := H
   have A62 := Aside0.mk A620
   clear A620
   by_cases c63 : 0 ≤ x6_2
   ·rw [if_pos c63] at H
    have c63b0 : decide (0 ≤ x6_2) = true := decide_eq_true c63
    clear c63
    by_cases c64 : x6_2 < (l0_1.length : Int)
    ·rw [if_pos c64] at H
     have c64b0 : decide (x6_2 < (l0_1.length : Int)) = true := decide_eq_true c64
     clear c64
     by_cases c65 : 0 ≤ a1
     ·rw [if_pos c65] at H
      have c65b0 := eq_true c65
      have c65b1 : decide (0 ≤ a1) = true := decide_eq_true c65
      clear c65
      obtain ⟨ji66, hji66⟩ : ∃ j_ : Int, (shl .i64 1 a1) = j_ := ⟨_, rfl⟩
      replace H : (impl_FramesTake.l1 k2 t231 ji66 0 ((rd_T73 l0_1 x6_2).f0) ((rd_T73 l0_1 x6_2).f1)) = some (r1, r2, r3) := by first | (rw [hji66] at H; exact H) | (simp only [hji66] at H ⊢; exact H)
      (try rw [hji66] at A62)
      have hji66_ : (IntKind.i64.wrap (1 * 2 ^ min a1.toNat 64)) = ji66 := hji66
      have hji66z : a1 ≤ 64 → (IntKind.i64.wrap (1 * 2 ^ a1.toNat)) = ji66 := shl_small hji66
      have hji66u : (IntKind.i64.wrap (2 ^ min a1.toNat 64)) = ji66 := by have h_ := hji66_; rw [Int.one_mul] at h_; exact h_
      have hji66v : a1 ≤ 64 → (IntKind.i64.wrap (2 ^ a1.toNat)) = ji66 := fun hle_ => by have h_ := hji66z hle_; rw [Int.one_mul] at h_; exact h_
      have hji66y : (wrap64 (1 * 2 ^ min a1.toNat 64)) = ji66 := (i64_w _).symm.trans hji66_
      have hji66x : a1 ≤ 64 → (wrap64 (1 * 2 ^ a1.toNat)) = ji66 := fun h_ => (i64_w _).symm.trans (hji66z h_)
      have H' := Aside0.mk H
      clear H
      have hnb67 := NB221_222.out
      have hnc67 := NB222_221.out
      have hcz68_0 : wr.cell? ⟨gb221, 0, none⟩ = some (.int .i64 a0_0) := (blk_cell BK221.out 0).trans rfl
      have hcz68_1 : wr.cell? ⟨gb221, 1, none⟩ = some (.slice A0_1 l0_1.length c0_1) := (blk_cell BK221.out 1).trans rfl
      have hfz68_0 := blk_frozen BK221.out 0
      have hfz68_1 := blk_frozen BK221.out 1
      go_wp2_with (first | ((with_reducible refine gate_callee (f := 84) rfl ?_); refine goesL_ (some 58) rfl rfl Try.func84 Z8_10 rfl #[.agg #[.int .i64 a0_0, .slice A0_1 l0_1.length c0_1]] rfl Z8_11 ?_; (with_reducible refine (impl_freeMap.calls k2 a0_0 _ _ l0_1 t231 _ ?side1 ?side2 A62.out).mono ?_); (case side1 => exact Z8_12); (case side2 => exact HC0_1.out); rintro e w69 ⟨v232, rfl, ho0, hb⟩; refine ⟨_, rfl, ?_⟩; have n0_ := Aside0.mk (Kd.R_lower ho0 (below_size Z8_1)); have n1_ := Aside0.mk (blk_below (g := gb221) (o := .cells #[.int .i64 a0_0, .slice A0_1 l0_1.length c0_1] 50 (0, 0)) Z8_2 hb); have n2_ := Aside0.mk (blk_below (g := gb222) (o := .cells #[.int .i64 0, .slice none 0 0] 50 (0, 0)) Z8_3 hb); have n3_ := Aside0.mk (below_step Z8_1 hb); clear BK221; clear BK222; clear HB; have HO233 := n0_; have BK221 := n1_; have BK222 := n2_; have HB := n3_; clear n0_ n1_ n2_ n3_; (try clear hb); (try clear hb2 hk hi); (try clear ho0); have hcz70_0 : w69.cell? ⟨gb221, 0, none⟩ = some (.int .i64 a0_0) := (blk_cell BK221.out 0).trans rfl; have hcz70_1 : w69.cell? ⟨gb221, 1, none⟩ = some (.slice A0_1 l0_1.length c0_1) := (blk_cell BK221.out 1).trans rfl; have hfz70_0 := blk_frozen BK221.out 0; have hfz70_1 := blk_frozen BK221.out 1; have p234 : 0 ≤ (x6_2 : Int) := of_decide_eq_true Z8_13; have q234 : x6_2 < (l0_1.length : Int) := of_decide_eq_true Z8_13; obtain ⟨ad234, e234, hx234_0, hx234_1⟩ := at_T73 HR0_1.out x6_2 p234 q234; cases e234; replace hx234_0 := (HB.out.cell (World.block_lt_of_cell? w _ hx234_0)).trans hx234_0; replace hx234_1 := (HB.out.cell (World.block_lt_of_cell? w _ hx234_1)).trans hx234_1; replace p234 := eq_true p234; replace q234 := eq_true q234) | ((with_reducible refine gate_dst (N := 10) rfl ?_); refine box_event ?hg (N := 10) ?hd (cs := #[.int .i64 0, .int .i64 0]) (t := 73) ?hr ?_; (case hd => rfl); (case hg => rfl); (case hr => exact Z8_21); intro gb235 hg w71 hbox hb; have n0_ := Aside0.mk (Kd.R_below (by (with_reducible repeat (first | apply Kd.R_alloc | apply Kd.R_drewN | apply Kd.R_drew)); exact HO233.out) hb); have n1_ := Aside0.mk (blk_below (g := gb221) (o := .cells #[.int .i64 a0_0, .slice (some ad234) l0_1.length c0_1] 50 (0, 0)) Z8_2 hb); have n2_ := Aside0.mk (blk_below (g := gb222) (o := .cells #[.int .i64 0, .slice none 0 0] 50 (0, 0)) Z8_3 hb); have n3_ := Aside0.mk (below_step Z8_1 hb); have n4_ := Aside0.mk (hbox); have n5_ := Aside0.mk ((Z8_20 : w.heap.size ≤ gb235)); have n6_ := Aside0.mk ((Z8_20 : w.heap.size ≤ gb235)); have n7_ := Aside0.mk ((by rw [hg]; exact Nat.ne_of_lt (blk_lt (g := gb221) (o := .cells #[.int .i64 a0_0, .slice (some ad234) l0_1.length c0_1] 50 (0, 0)) Z8_2) : gb221 ≠ gb235)); have n8_ := Aside0.mk ((by rw [hg]; exact Nat.ne_of_gt (blk_lt (g := gb221) (o := .cells #[.int .i64 a0_0, .slice (some ad234) l0_1.length c0_1] 50 (0, 0)) Z8_2) : gb235 ≠ gb221)); have n9_ := Aside0.mk ((Z8_14 : gb222 ≠ gb235)); have n10_ := Aside0.mk ((Z8_15 : gb235 ≠ gb222)); clear HO233; clear BK221; clear BK222; clear HB; have HO233 := n0_; have BK221 := n1_; have BK222 := n2_; have HB := n3_; have BK235 := n4_; have GW235 := n5_; have GE235 := n6_; have NB221_235 := n7_; have NB235_221 := n8_; have NB222_235 := n9_; have NB235_222 := n10_; clear n0_ n1_ n2_ n3_ n4_ n5_ n6_ n7_ n8_ n9_ n10_; clear hb hbox hg; have hnb72 := NB235_221.out; have hnc72 := NB221_235.out; have hnb73 := NB235_222.out; have hnc73 := NB222_235.out; have hcz74_0 : w71.cell? ⟨gb235, 0, none⟩ = some (.int .i64 0) := (blk_cell BK235.out 0).trans rfl; have hcz74_1 : w71.cell? ⟨gb235, 1, none⟩ = some (.int .i64 0) := (blk_cell BK235.out 1).trans rfl; have hfz74_0 := blk_frozen BK235.out 0; have hfz74_1 := blk_frozen BK235.out 1))
      go_loopg [66] k2 (fun kq v66 w' => ∃ (x9_3 : List Bool) (x66_3 : Int), v66 = .int .i64 x66_3 ∧ Aside0 (impl_FramesTake.l1 kq x9_3 ji66 x66_3 ((rd_T73 l0_1 x6_2).f0) ((rd_T73 l0_1 x6_2).f1) = some (r1, r2, r3)) ∧ Aside0 (kq ≤ k2) ∧ Aside0 (Kd.R Kd.bool 4 w' w.heap.size (fun _ => True) v232 x9_3) ∧ Aside0 (w'.heap[gb221]? = some (.cells #[.int .i64 a0_0, (.slice (some ad234) l0_1.length c0_1)] 50 (0, 0))) ∧ Aside0 (w'.heap[gb222]? = some (.cells #[.int .i64 0, (.slice none 0 0)] 50 (0, 0))) ∧ Aside0 (w'.heap[gb235]? = some (.cells #[.int .i64 ((rd_T73 l0_1 x6_2).f0), .int .i64 ((rd_T73 l0_1 x6_2).f1)] 73 (0, 0))) ∧ Aside0 (Below w.heap.size w w'))
      case atStart => exact ⟨(t231), (0), Z8_6, H', ⟨Nat.le_refl _⟩, ⟨by (with_reducible repeat (first | apply Kd.R_alloc | apply Kd.R_drewN | apply Kd.R_drew)); exact Kd.R_mono (Kd.R_far (p := ⟨gb235, 1, none⟩) (Kd.R_far (p := ⟨gb235, 0, none⟩) (Kd.R_types HO233.out BK235.out (by decide)) (fun _ hk => hk.2) (.int .i64 ((rd_T73 l0_1 x6_2).f0))) (fun _ hk => hk.2) (.int .i64 ((rd_T73 l0_1 x6_2).f1))) (fun _ hk => trivial)⟩, ⟨by (with_reducible repeat (first | apply blk_drewN | apply blk_drew | apply blk_alloc)); refine blk_far ?_ NB221_235.out _; (with_reducible repeat (first | apply blk_drewN | apply blk_drew | apply blk_alloc)); refine blk_far ?_ NB221_235.out _; (with_reducible repeat (first | apply blk_drewN | apply blk_drew | apply blk_alloc)); exact BK221.out⟩, ⟨by (with_reducible repeat (first | apply blk_drewN | apply blk_drew | apply blk_alloc)); refine blk_far ?_ NB222_235.out _; (with_reducible repeat (first | apply blk_drewN | apply blk_drew | apply blk_alloc)); refine blk_far ?_ NB222_235.out _; (with_reducible repeat (first | apply blk_drewN | apply blk_drew | apply blk_alloc)); exact BK222.out⟩, ⟨by (with_reducible repeat (first | apply blk_drewN | apply blk_drew | apply blk_alloc)); refine blk_put (cs := #[.int .i64 ((rd_T73 l0_1 x6_2).f0), .int .i64 0]) ?_ 1 _ rfl; (with_reducible repeat (first | apply blk_drewN | apply blk_drew | apply blk_alloc)); refine blk_put (cs := #[.int .i64 0, .int .i64 0]) ?_ 0 _ rfl; (with_reducible repeat (first | apply blk_drewN | apply blk_drew | apply blk_alloc)); exact BK235.out⟩, ⟨Z8_9⟩⟩
      clear H'
      try clear c2
      try clear p2
      try clear q2
      try clear hx2
      try clear c3
      try clear c4
      try clear c5
      try clear c6
      try clear p6
      try clear c7
      try clear c8
      try clear p22
      try clear q22
      try clear hx22
      try clear c23
      try clear c23b0
      try clear p23
      try clear q23
      try clear hx23
      try clear c24
      try clear c25
      try clear c26
      try clear c26b0
      try clear c34
      try clear c35
      try clear c36
      try clear c36b0
      try clear c44
      try clear c45
      try clear c50
      try clear c51
      try clear c55
      try clear c55b0
      try clear c57
      try clear c63
      try clear c63b0
      try clear c64
      try clear c64b0
      try clear p64
      try clear c65
      try clear c65b0
      try clear c65b1
      try clear c67
      try clear c72
      try clear c73
      try clear hcz46_0
      try clear hcz46_1
      try clear hcz52_0
      try clear hcz52_1
      try clear hcz58_0
      try clear hcz58_1
      try clear hcz60_0
      try clear hcz60_1
      try clear hcz68_0
      try clear hcz68_1
      try clear hcz70_0
      try clear hcz70_1
      try clear hcz74_0
      try clear hcz74_1
      try clear hfz46_0
      try clear hfz46_1
      try clear hfz52_0
      try clear hfz52_1
      try clear hfz58_0
      try clear hfz58_1
      try clear hfz60_0
      try clear hfz60_1
      try clear hfz68_0
      try clear hfz68_1
      try clear hfz70_0
      try clear hfz70_1
      try clear hfz74_0
      try clear hfz74_1
      try clear hx224_0
      try clear hx224_1
      try clear hx226_0
      try clear hx226_1
      try clear hx234_0
      try clear hx234_1
      try clear p224
      try clear p226
      try clear p234
      try clear q224
      try clear q226
      try clear q234
      obtain ⟨x9_3, x66_3, rfl, HA, HK3, HO_9, BK221, BK222, BK235, HB⟩ := hrel
      cases gk with
      | zero => exact absurd HA.out (by simp [impl_FramesTake.l1])
      | succ k3 =>
       have H := HA.out
       clear HA
       simp only [impl_FramesTake.l1] at H
       by_cases c75 : x66_3 < ji66
       ·rw [if_pos c75] at H
        have c75b0 : decide (x66_3 < ji66) = true := decide_eq_true c75
        clear c75
        obtain ⟨ji76, hji76⟩ : ∃ j_ : Int, (wrap64 (((rd_T73 l0_1 x6_2).f0) + x66_3)) = j_ := ⟨_, rfl⟩
        replace H : (if 0 ≤ (ji76) then (if (ji76) < (x9_3.length : Int) then (impl_FramesTake.l1 k3 (x9_3.set ((ji76) : Int).toNat false) ji66 (wrap64 (x66_3 + 1)) ((rd_T73 l0_1 x6_2).f0) ((rd_T73 l0_1 x6_2).f1)) else (none)) else (none)) = some (r1, r2, r3) := by first | (rw [hji76] at H; exact H) | (simp only [hji76] at H ⊢; exact H)
        have hji76w : (IntKind.i64.wrap (((rd_T73 l0_1 x6_2).f0) + x66_3)) = ji76 := (i64_w _).trans hji76
        by_cases c77 : 0 ≤ (ji76)
        ·rw [if_pos c77] at H
         have c77b0 : decide (0 ≤ (ji76)) = true := decide_eq_true c77
         clear c77
         by_cases c78 : (ji76) < (x9_3.length : Int)
         ·rw [if_pos c78] at H
          have c78b0 : decide ((ji76) < (x9_3.length : Int)) = true := decide_eq_true c78
          clear c78
          obtain ⟨y236, hy236⟩ : ∃ y_ : List Bool, y_ = (x9_3.set ((ji76) : Int).toNat false) := ⟨_, rfl⟩
          replace H : (impl_FramesTake.l1 k3 y236 ji66 (wrap64 (x66_3 + 1)) ((rd_T73 l0_1 x6_2).f0) ((rd_T73 l0_1 x6_2).f1)) = some (r1, r2, r3) := by first | (rw [hy236]; with_reducible exact H) | (have H2_ := (Option.bind_some _ _).symm.trans H; rw [hy236]; with_reducible exact H2_) | (have H2_ := (Option.bind_some _ _).symm.trans H; with_reducible exact H2_) | with_reducible exact H | (rw [hy236]; exact H) | exact H
          have Ny236 := Aside0.mk hy236
          clear hy236
          have H' := Aside0.mk H
          clear H
          have hnb80 := NB235_221.out
          have hnc80 := NB221_235.out
          have hnb81 := NB235_222.out
          have hnc81 := NB222_235.out
          have hcz82_0 : wr.cell? ⟨gb235, 0, none⟩ = some (.int .i64 ((rd_T73 l0_1 x6_2).f0)) := (blk_cell BK235.out 0).trans rfl
          have hcz82_1 : wr.cell? ⟨gb235, 1, none⟩ = some (.int .i64 ((rd_T73 l0_1 x6_2).f1)) := (blk_cell BK235.out 1).trans rfl
          have hfz82_0 := blk_frozen BK235.out 0
          have hfz82_1 := blk_frozen BK235.out 1
          have p79 : 0 ≤ ((ji76) : Int) := of_decide_eq_true Z8_13
          have q79 : ((ji76) : Int) < ((x9_3.length : Int) : Int) := of_decide_eq_true Z8_13
          obtain ⟨go79, co79, eo79, gb79, gl79, cl79, HG79⟩ := Kd.R_form HO_9.out (by omega)
          (first | cases eo79 | (injection eo79 with ea_ en_ ec_; (first | subst ea_ | (injection ea_ with ea_; subst ea_)); subst ec_; clear en_))
          have GB79 := Aside0.mk gb79
          have GG79 := Aside0.mk HG79
          clear gb79 gl79 HG79
          obtain ⟨hx79_0, hf79_0⟩ := Kd.R_celln false HO_9.out ((ji76) : Int) p79 q79
          replace p79 := eq_true p79
          replace q79 := eq_true q79
          have HP83 := Kd.R_putg HO_9.out ((ji76) : Int) false
          go_wp2_with (first | ((with_reducible refine gate_store (t := 4) (p := 74) rfl ?_); refine store_event (t := 4) (p := 74) (v := ?vo_w84) (w1 := (wr.setCell ⟨go79, ((ji76) : Int).toNat, none⟩ (.bool false))) ?hg ?ho ?hn ?hr ?_; (case ho => rfl); (case hg => rfl); (case hn => rfl); (case hr => exact Z8_21); intro w84 hw; have hg : wr.grownBy w84 (some go79) := (by rw [hw]; exact HP83.2); have hp_ : Kd.R Kd.bool 4 w84 w.heap.size (fun _ => True) (.slice (some ⟨go79, 0, none⟩) x9_3.length co79) y236 := (by rw [hw, Ny236.out]; exact HP83.1); clear HP83; have n0_ := Aside0.mk (hp_); have n1_ := Aside0.mk (blk_grown (g := gb221) (o := .cells #[.int .i64 a0_0, .slice (some ad234) l0_1.length c0_1] 50 (0, 0)) Z8_2 hg (Kd.R_ne HO_9.out BK221.out (by decide))); have n2_ := Aside0.mk (blk_grown (g := gb222) (o := .cells #[.int .i64 0, .slice none 0 0] 50 (0, 0)) Z8_3 hg (Kd.R_ne HO_9.out BK222.out (by decide))); have n3_ := Aside0.mk (blk_grown (g := gb235) (o := .cells #[.int .i64 ((rd_T73 l0_1 x6_2).f0), .int .i64 ((rd_T73 l0_1 x6_2).f1)] 73 (0, 0)) Z8_19 hg (Kd.R_ne HO_9.out BK235.out (by decide))); have n4_ := Aside0.mk ((by rw [hw]; exact below_set (HB.out) GB79.out : Below w.heap.size w w84)); clear HO_9; clear BK221; clear BK222; clear BK235; clear HB; have HO_9 := n0_; have BK221 := n1_; have BK222 := n2_; have BK235 := n3_; have HB := n4_; clear n0_ n1_ n2_ n3_ n4_; clear hg hw hp_))
          go_roundg k3
          case measure => have := HJ2.out; have := HK2.out; have := HK3.out; omega
          case rel => exact ⟨(y236), (wrap64 (x66_3 + 1)), Z8_6, H', ⟨by have := HJ2.out; have := HK2.out; have := HK3.out; omega⟩, ⟨by (with_reducible repeat (first | apply Kd.R_alloc | apply Kd.R_drewN | apply Kd.R_drew)); exact HO_9.out⟩, ⟨Z8_2⟩, ⟨Z8_3⟩, ⟨Z8_19⟩, ⟨Z8_9⟩⟩
         rw [if_neg c78] at H
         exact absurd H (by simp)
        rw [if_neg c77] at H
        exact absurd H (by simp)
       rw [if_neg c75] at H
       have c75b0 : decide (x66_3 < ji66) = false := decide_eq_false c75
       clear c75
       replace H := Option.bind_eq_some_iff.mp H
       obtain ⟨⟨t237, t238⟩, A850, H⟩ := H
       replace H : (some (t237, t238, ((rd_T73 l0_1 x6_2).f0))) = some (r1, r2, r3) := H
       have A85 := Aside0.mk A850
       clear A850
       simp only [Option.some.injEq, Prod.mk.injEq] at H
       obtain ⟨rfl, rfl, rfl⟩ := H
       try go_wp2
       have n0_ := Aside0.mk (Kd.R_drew HO_9.out)
       have n1_ := Aside0.mk (blk_drew BK221.out)
       have n2_ := Aside0.mk (blk_drew BK222.out)
       have n3_ := Aside0.mk (blk_drew BK235.out)
       have n4_ := Aside0.mk (below_drew1 HB.out)
       clear HO_9
       clear BK221
       clear BK222
       clear BK235
       clear HB
       have HO_9 := n0_
       have BK221 := n1_
       have BK222 := n2_
       have BK235 := n3_
       have HB := n4_
       clear n0_ n1_ n2_ n3_ n4_
       obtain ⟨Ao87, co87, eo87⟩ := Kd.R_slice HO_9.out
       (first | subst eo87 | (injection eo87 with f1_ f2_ f3_; have f4_ := f1_.symm; have f5_ := f3_.symm; clear f1_ f2_ f3_; subst f4_; subst f5_))
       refine start_ (n := 6) (S := fun w' => w'.cell? ⟨gb235, 0, none⟩ = some (.int .i64 ((rd_T73 l0_1 x6_2).f0)) ∧ w'.cell? ⟨gb235, 1, none⟩ = some (.int .i64 ((rd_T73 l0_1 x6_2).f1))) (ds := []) #[false, false, false, false, false, false] Z8_10 rfl rfl ⟨(blk_cell BK235.out 0).trans rfl, (blk_cell BK235.out 1).trans rfl⟩ (fun hHeld => ?_)
       generalize wr.drew = w86 at HO_9 BK221 BK222 BK235 HB hHeld ⊢
       refine pure_ (i := 0) (N := some 76) (v := ?_) (a' := ?_) #[true, false, false, false, false, false] rfl rfl Z8_10 (fun _ _ _ h => h) (Or.inl ⟨by rfl, ?_⟩) ?_ ?_
       rotate_left
       ·intro w'
        go_simp
        with_reducible rfl
       rotate_left
       ·simp only [Act.put, List.setIfInBounds_toArray, List.set_cons_zero, List.set_cons_succ, i64_w, i32_w]
        rfl
       refine pure_ (i := 2) (N := some 78) (v := ?_) (a' := ?_) #[true, false, true, false, false, false] rfl rfl Z8_10 (fun _ _ _ h => h) (Or.inl ⟨by rfl, ?_⟩) ?_ ?_
       rotate_left
       ·intro w'
        go_simp
        with_reducible rfl
       rotate_left
       ·simp only [Act.put, List.setIfInBounds_toArray, List.set_cons_zero, List.set_cons_succ, i64_w, i32_w]
        rfl
       refine take_ (i := 3) (N := some 79) (v := ?_) (a' := ?_) #[true, false, true, true, false, false] rfl rfl Z8_10 (fun _ _ _ h => h) (Or.inl ⟨by rfl, ?_⟩) hHeld ?_ ?_
       rotate_left
       ·rintro w' ⟨s0, s1⟩
        go_simp
        with_reducible rfl
       rotate_left
       ·simp only [Act.put, List.setIfInBounds_toArray, List.set_cons_zero, List.set_cons_succ, i64_w, i32_w]
        rfl
       refine one_ (i := 1) (N := some 77) #[true, true, true, true, false, false] rfl rfl Z8_10 (by decide) (fun K hK => ?_)
       refine goes_ Try.func77 Z8_10 rfl #[.slice Ao87 x9_3.length co87] (by rfl) rfl rfl Z8_11 ?_
       with_reducible refine (impl_framesOf.calls _ _ x9_3 t237 t238 _ ?side1 ?side2 A85.out).mono ?_
       (case side1 => repeat (first | exact (Kd.R_reads' HO_9.out).2.2 | (with_reducible refine Kd.C_alloc ?_ _) | (with_reducible refine Kd.C_drewN ?_ _) | (with_reducible refine Kd.C_drew ?_)))
       (case side2 => exact (Kd.R_reads' HO_9.out).2.1)
       rintro e w88 ⟨v239, rfl, ho0, hb⟩
       refine ⟨_, rfl, ?_⟩
       have n0_ := Aside0.mk (Kd.R_below (by (with_reducible repeat (first | apply Kd.R_alloc | apply Kd.R_drewN | apply Kd.R_drew)); exact HO_9.out) hb)
       have n1_ := Aside0.mk (Kd.R_lower (Kd.R_newB ho0 (g := gb235) (o := .cells #[.int .i64 ((rd_T73 l0_1 x6_2).f0), .int .i64 ((rd_T73 l0_1 x6_2).f1)] 73 (0, 0)) Z8_19) (below_size Z8_9))
       have n2_ := Aside0.mk (blk_below (g := gb221) (o := .cells #[.int .i64 a0_0, .slice (some ad234) l0_1.length c0_1] 50 (0, 0)) Z8_2 hb)
       have n3_ := Aside0.mk (blk_below (g := gb222) (o := .cells #[.int .i64 0, .slice none 0 0] 50 (0, 0)) Z8_3 hb)
       have n4_ := Aside0.mk (blk_below (g := gb235) (o := .cells #[.int .i64 ((rd_T73 l0_1 x6_2).f0), .int .i64 ((rd_T73 l0_1 x6_2).f1)] 73 (0, 0)) Z8_19 hb)
       have n5_ := Aside0.mk (below_step Z8_9 hb)
       clear HO_9
       clear BK221
       clear BK222
       clear BK235
       clear HB
       have HO_9 := n0_
       have HO240 := n1_
       have BK221 := n2_
       have BK222 := n3_
       have BK235 := n4_
       have HB := n5_
       clear n0_ n1_ n2_ n3_ n4_ n5_
       (try clear hb)
       (try clear hb2)
       (try clear hk)
       (try clear hi)
       (try clear ho0)
       obtain ⟨Ao90, co90, eo90⟩ := Kd.R_slice HO240.out
       (first | subst eo90 | (injection eo90 with f1_ f2_ f3_; have f4_ := f1_.symm; have f5_ := f3_.symm; clear f1_ f2_ f3_; subst f4_; subst f5_))
       refine hK.out _ _ ⟨(blk_cell BK235.out 0).trans rfl, (blk_cell BK235.out 1).trans rfl⟩ (fun hHeld => ?_)
       clear hK K
       refine norm_ (a' := ?_) ?_ ?_
       rotate_left
       ·show Act.put _ (some 77) _ = _
        simp only [Act.put, List.setIfInBounds_toArray, List.set_cons_zero, List.set_cons_succ, i64_w, i32_w]
        rfl
       refine one_ (i := 4) (N := none) #[true, true, true, true, true, false] rfl rfl Z8_10 (by decide) (fun K hK => ?_)
       have hs89 : w88.cell? ⟨gb222, 0, none⟩ = some (.int .i64 0) := (blk_cell BK222.out 0).trans rfl
       have hfs89 := blk_frozen BK222.out 0
       have hns89_0 := NB221_222.out
       have hns89_2 := NB235_222.out
       have hms89_0 := NB222_221.out
       have hms89_2 := NB222_235.out
       have hs91 : w88.cell? ⟨gb222, 1, none⟩ = some (.slice none 0 0) := (blk_cell BK222.out 1).trans rfl
       have hfs91 := blk_frozen BK222.out 1
       have hns91_0 := NB221_222.out
       have hns91_2 := NB235_222.out
       have hms91_0 := NB222_221.out
       have hms91_2 := NB222_235.out
       refine skip_ (w1 := ?_) (by rfl) rfl ?_ ?_
       rotate_left
       ·go_simp
        rfl
       refine hK.out _ _ ⟨((cell_far (p := ⟨gb222, _, none⟩) NB235_222.out _).trans (((cell_far (p := ⟨gb222, _, none⟩) NB235_222.out _).trans (hHeld.1)))), ((cell_far (p := ⟨gb222, _, none⟩) NB235_222.out _).trans (((cell_far (p := ⟨gb222, _, none⟩) NB235_222.out _).trans (hHeld.2))))⟩ (fun hHeld => ?_)
       clear hK K
       refine pure_ (i := 5) (N := some 5) (v := ?_) (a' := ?_) #[true, true, true, true, true, true] rfl rfl Z8_10 (fun _ _ _ h => h) (Or.inl ⟨by rfl, ?_⟩) ?_ ?_
       rotate_left
       ·intro w'
        go_simp
        with_reducible rfl
       rotate_left
       ·simp only [Act.put, List.setIfInBounds_toArray, List.set_cons_zero, List.set_cons_succ, i64_w, i32_w]
        rfl
       refine done_ Z8_10 ?_
       try go_wp2
       refine bodyPost_ret (results_ct rfl _ _ gb222 50 #[.int .i64 t237, .slice Ao90 t238.length co90] (0, 0) _ rfl (by (with_reducible repeat (first | apply blk_drewN | apply blk_drew | apply blk_alloc)); refine blk_put (cs := #[.int .i64 t237, .slice none 0 0]) ?_ 1 _ rfl; (with_reducible repeat (first | apply blk_drewN | apply blk_drew | apply blk_alloc)); refine blk_put (cs := #[.int .i64 0, .slice none 0 0]) ?_ 0 _ rfl; (with_reducible repeat (first | apply blk_drewN | apply blk_drew | apply blk_alloc)); exact BK222.out) Try.underlying50 rfl Z8_10) rfl ?_
       exact ⟨_, by first | rfl | (simp [errW_none, errW_some] <;> rfl) | (simp only [← hji66]; first | rfl | (simp [errW_none, errW_some] <;> rfl)) | (simp [*, errW_none, errW_some] <;> rfl), by (with_reducible repeat (first | apply Kd.R_alloc | apply Kd.R_drewN | apply Kd.R_drew)); exact Kd.R_mono (Kd.R_far (p := ⟨gb222, 1, none⟩) (Kd.R_far (p := ⟨gb222, 0, none⟩) (Kd.R_types HO240.out BK222.out (by decide)) (fun _ hk => hk.2) (.int .i64 t237)) (fun _ hk => hk.2) (.slice Ao90 t238.length co90)) (fun _ hk => trivial), Z8_9⟩
     rw [if_neg c65] at H
     exact absurd H (by simp)
    rw [if_neg c64] at H
    exact absurd H (by simp)
   rw [if_neg c63] at H
   exact absurd H (by simp)
end Go.Proofs.Ytmjdmaomakkhgaa.PFnFramesKept
