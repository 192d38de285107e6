-- Written by a program of this session out of the translation. Not trusted: Lean checks it.
import Derived.Test.YtdlgalaemnjfjaaPFnExactPriorityx0
import Derived.Test.YtdlgalaemnjfjaaPFnExactPriorityx2
import Derived.Test.YtdlgalaemnjfjaaPFnExactPriorityx3
import Derived.Test.YtdlgalaemnjfjaaPFnExactPriorityx4
namespace Go.Proofs.Ytdlgalaemnjfjaa.PFnExactPriority
open Go.RowKit Go.Proofs.YtdlgalaemnjfjaaW.PrintWords Go.Proofs.YtdlgalaemnjfjaaW.PrintLast Go.Proofs.YtdlgalaemnjfjaaW.PrintMore
attribute [local go_sem] max2_int min2_int max_two min_two max_three min_three max_four min_four   -- for this text's walks alone
set_option linter.unusedVariables false
set_option linter.unusedSimpArgs false
theorem Z5_23 {P : Prop} (h : P := by first | rfl | (simp [errW_none, errW_some] <;> rfl) | (simp only [← hji31]; first | rfl | (simp [errW_none, errW_some] <;> rfl)) | (simp [*, errW_none, errW_some] <;> rfl)) : P := h
theorem Z5_22 {P : Prop} (h : P := by repeat (first | (with_reducible first | exact HB.out | apply below_alloc | apply pw_below_drewN | apply below_drew1) | exact HB.out)) : P := h
theorem Z5_21 {P : Prop} (h : P := by (with_reducible repeat (first | apply blk_drewN | apply blk_drew | apply blk_alloc)); exact BK173.out) : P := h
theorem Z5_20 {P : Prop} (h : P := by have := HJ1.out; have := HK2.out; have := HK3.out; first | omega | exact Nat.le_refl _) : P := h
theorem Z5_19 {P : Prop} (h : P := by first | (go_simp; done) | (go_simp; rfl)) : P := h
theorem Z5_18 {P : Prop} (h : P := by rfl) : P := h
theorem Z5_17 {P : Prop} (h : P := by rw [hg]; exact (below_size Z5_1)) : P := h
theorem Z5_16 {P : Prop} (h : P := by first | rfl | (simp [errW_none, errW_some] <;> rfl) | (simp [*, errW_none, errW_some] <;> rfl)) : P := h
theorem Z5_15 {P : Prop} (h : P := by rw [hg]; exact Nat.ne_of_gt (blk_lt (g := gb169) (o := .cells #[.int .i64 a0_0, .int .i64 a0_1, .slice A0_2 l0_2.length c0_2, .slice (some ad172) l0_3.length c0_3] 31 (0, 0)) Z5_2)) : P := h
theorem Z5_14 {P : Prop} (h : P := by rw [hg]; exact Nat.ne_of_lt (blk_lt (g := gb169) (o := .cells #[.int .i64 a0_0, .int .i64 a0_1, .slice A0_2 l0_2.length c0_2, .slice (some ad172) l0_3.length c0_3] 31 (0, 0)) Z5_2)) : P := h
theorem Z5_13 {P : Prop} (h : P := by (with_reducible repeat (first | apply blk_drewN | apply blk_drew | apply blk_alloc)); exact BK178.out) : P := h
theorem Z5_12 {P : Prop} (h : P := by first | rfl | exact congrArg (Value.int .i64) (i64_w _) | (simp; done) | (simp [*]; done)) : P := h
theorem Z5_11 {P : Prop} (h : P := by first | (with_reducible assumption) | assumption) : P := h
theorem Z5_10 {P : Prop} (h : P := by repeat (first | exact (Kd.C_below HR0_3.out HB.out) | (with_reducible refine Kd.C_alloc ?_ _) | (with_reducible refine Kd.C_drewN ?_ _) | (with_reducible refine Kd.C_drew ?_))) : P := h
theorem Z5_9 {P : Prop} (h : P := by repeat (first | exact (Kd.C_below HR0_2.out HB.out) | (with_reducible refine Kd.C_alloc ?_ _) | (with_reducible refine Kd.C_drewN ?_ _) | (with_reducible refine Kd.C_drew ?_))) : P := h
theorem Z5_8 {P : Prop} (h : P := by (try simp only [List.map_toArray, List.map_cons, List.map_nil]); first | done | rfl | (simp only [List.length_drop, List.length_take]; first | done | rfl)) : P := h
theorem Z5_7 {P : Prop} (h : P := by (with_reducible repeat (first | apply blk_drewN | apply blk_drew | apply blk_alloc)); refine blk_far ?_ NB169_173.out _; (with_reducible repeat (first | apply blk_drewN | apply blk_drew | apply blk_alloc)); refine blk_far ?_ NB169_173.out _; (with_reducible repeat (first | apply blk_drewN | apply blk_drew | apply blk_alloc)); exact BK169.out) : P := h
theorem Z5_6 {P : Prop} (h : P := by (with_reducible repeat (first | apply blk_drewN | apply blk_drew | apply blk_alloc)); refine blk_put (cs := #[.int .i64 ((rd_T68 l0_3 x3_2).f0), .int .i64 0]) ?_ 1 _ rfl; (with_reducible repeat (first | apply blk_drewN | apply blk_drew | apply blk_alloc)); refine blk_put (cs := #[.int .i64 0, .int .i64 0]) ?_ 0 _ rfl; (with_reducible repeat (first | apply blk_drewN | apply blk_drew | apply blk_alloc)); exact BK173.out) : P := h
theorem Z5_5 {P : Prop} (h : P := by repeat (first | (with_reducible first | exact HB.out | apply below_alloc | apply pw_below_drewN | apply below_drew1 | refine below_set ?_ GE169.out | refine below_set ?_ GE178.out) | exact HB.out)) : P := h
theorem Z5_4 {P : Prop} (h : P := by repeat (first | (with_reducible first | exact HB.out | apply below_alloc | apply pw_below_drewN | apply below_drew1 | refine below_set ?_ GE169.out | refine below_set ?_ GE173.out) | exact HB.out)) : P := h
theorem Z5_3 {P : Prop} (h : P := by kernel_rfl) : P := h
theorem Z5_2 {P : Prop} (h : P := by (with_reducible repeat (first | apply blk_drewN | apply blk_drew | apply blk_alloc)); exact BK169.out) : P := h
theorem Z5_1 {P : Prop} (h : P := by repeat (first | (with_reducible first | exact HB.out | apply below_alloc | apply pw_below_drewN | apply below_drew1 | refine below_set ?_ GE169.out) | exact HB.out)) : P := h

/-! ### spec_SchedOk: function 10 -/
mutual
def spec_SchedOk.j0 : Nat → Bool → Int → Int → List (S71) → List (S68) → Option (Bool)
 | 0, _, _, _, _, _ => none
 | k + 1, x29, x170000, x170001, x170002, x170003 => if x29 = true then (some false) else (spec_SchedOk.l0 k 0 x170000 x170001 x170002 x170003)
def spec_SchedOk.l0 : Nat → Int → Int → Int → List (S71) → List (S68) → Option (Bool)
 | 0, _, _, _, _, _ => none
 | k + 1, x3, x170000, x170001, x170002, x170003 => if x3 < (x170003.length : Int) then (if 0 ≤ x3 then (if ((rd_T68 x170003 x3).f0) < 0 then (some false) else (if ((rd_T68 x170003 x3).f0) ≥ 16 then (some false) else (if x3 > 0 then (if 0 ≤ (wrap64 (x3 - 1)) then (if (wrap64 (x3 - 1)) < (x170003.length : Int) then (if ((rd_T68 x170003 (wrap64 (x3 - 1))).f0) ≥ ((rd_T68 x170003 x3).f0) then (some false) else ((spec_l11Thread.f k x170000 x170001 x170002 x170003 ((rd_T68 x170003 x3).f1)).bind fun t175 => (if t175 < 0 then (some false) else (spec_SchedOk.l0 k (wrap64 (x3 + 1)) x170000 x170001 x170002 x170003)))) else (none)) else (none)) else ((spec_l11Thread.f k x170000 x170001 x170002 x170003 ((rd_T68 x170003 x3).f1)).bind fun t176 => (if t176 < 0 then (some false) else (spec_SchedOk.l0 k (wrap64 (x3 + 1)) x170000 x170001 x170002 x170003)))))) else (none)) else (spec_SchedOk.l1 k 0 x170000 x170001 x170002 x170003)
def spec_SchedOk.l1 : Nat → Int → Int → Int → List (S71) → List (S68) → Option (Bool)
 | 0, _, _, _, _, _ => none
 | k + 1, x5, x170000, x170001, x170002, x170003 => if x5 < (x170002.length : Int) then (if 0 ≤ x5 then (if x5 > 0 then (if 0 ≤ (wrap64 (x5 - 1)) then (if (wrap64 (x5 - 1)) < (x170002.length : Int) then (if ((rd_T71 x170002 (wrap64 (x5 - 1))).f0) ≥ ((rd_T71 x170002 x5).f0) then (spec_SchedOk.j3 k x5 true x170000 x170001 x170002 x170003 ((rd_T71 x170002 x5).f0) ((rd_T71 x170002 x5).f1) ((rd_T71 x170002 x5).f2) ((rd_T71 x170002 x5).f3) ((rd_T71 x170002 x5).f4) ((rd_T71 x170002 x5).f5) ((rd_T71 x170002 x5).f6) ((rd_T71 x170002 x5).f7)) else ((spec_l11ThreadOk.f k x170000 x170001 x170002 x170003 ((rd_T71 x170002 x5).f0) ((rd_T71 x170002 x5).f1) ((rd_T71 x170002 x5).f2) ((rd_T71 x170002 x5).f3) ((rd_T71 x170002 x5).f4) ((rd_T71 x170002 x5).f5) ((rd_T71 x170002 x5).f6) ((rd_T71 x170002 x5).f7)).bind fun t180 => (if t180 = true then ((spec_l11Waits.f k x170000 x170001 x170002 x170003 ((rd_T71 x170002 x5).f0) ((rd_T71 x170002 x5).f0)).bind fun t181 => (spec_SchedOk.j3 k x5 t181 x170000 x170001 x170002 x170003 ((rd_T71 x170002 x5).f0) ((rd_T71 x170002 x5).f1) ((rd_T71 x170002 x5).f2) ((rd_T71 x170002 x5).f3) ((rd_T71 x170002 x5).f4) ((rd_T71 x170002 x5).f5) ((rd_T71 x170002 x5).f6) ((rd_T71 x170002 x5).f7))) else (spec_SchedOk.j3 k x5 true x170000 x170001 x170002 x170003 ((rd_T71 x170002 x5).f0) ((rd_T71 x170002 x5).f1) ((rd_T71 x170002 x5).f2) ((rd_T71 x170002 x5).f3) ((rd_T71 x170002 x5).f4) ((rd_T71 x170002 x5).f5) ((rd_T71 x170002 x5).f6) ((rd_T71 x170002 x5).f7))))) else (none)) else (none)) else ((spec_l11ThreadOk.f k x170000 x170001 x170002 x170003 ((rd_T71 x170002 x5).f0) ((rd_T71 x170002 x5).f1) ((rd_T71 x170002 x5).f2) ((rd_T71 x170002 x5).f3) ((rd_T71 x170002 x5).f4) ((rd_T71 x170002 x5).f5) ((rd_T71 x170002 x5).f6) ((rd_T71 x170002 x5).f7)).bind fun t182 => (if t182 = true then ((spec_l11Waits.f k x170000 x170001 x170002 x170003 ((rd_T71 x170002 x5).f0) ((rd_T71 x170002 x5).f0)).bind fun t183 => (spec_SchedOk.j3 k x5 t183 x170000 x170001 x170002 x170003 ((rd_T71 x170002 x5).f0) ((rd_T71 x170002 x5).f1) ((rd_T71 x170002 x5).f2) ((rd_T71 x170002 x5).f3) ((rd_T71 x170002 x5).f4) ((rd_T71 x170002 x5).f5) ((rd_T71 x170002 x5).f6) ((rd_T71 x170002 x5).f7))) else (spec_SchedOk.j3 k x5 true x170000 x170001 x170002 x170003 ((rd_T71 x170002 x5).f0) ((rd_T71 x170002 x5).f1) ((rd_T71 x170002 x5).f2) ((rd_T71 x170002 x5).f3) ((rd_T71 x170002 x5).f4) ((rd_T71 x170002 x5).f5) ((rd_T71 x170002 x5).f6) ((rd_T71 x170002 x5).f7))))) else (none)) else (some true)
def spec_SchedOk.j3 : Nat → Int → Bool → Int → Int → List (S71) → List (S68) → Int → Int → Int → Int → Int → Int → Int → Int → Option (Bool)
 | 0, _, _, _, _, _, _, _, _, _, _, _, _, _, _ => none
 | k + 1, x5, x112, x170000, x170001, x170002, x170003, x179000, x179001, x179002, x179003, x179004, x179005, x179006, x179007 => if x112 = true then (some false) else (spec_SchedOk.l2 k x5 0 x170000 x170001 x170002 x170003 x179000 x179001 x179002 x179003 x179004 x179005 x179006 x179007)
def spec_SchedOk.l2 : Nat → Int → Int → Int → Int → List (S71) → List (S68) → Int → Int → Int → Int → Int → Int → Int → Int → Option (Bool)
 | 0, _, _, _, _, _, _, _, _, _, _, _, _, _, _ => none
 | k + 1, x5, x7, x170000, x170001, x170002, x170003, x179000, x179001, x179002, x179003, x179004, x179005, x179006, x179007 => if x7 < x5 then (if 0 ≤ x7 then (if x7 < (x170002.length : Int) then (if ((rd_T71 x170002 x7).f3) = x179003 then (some false) else (spec_SchedOk.l2 k x5 (wrap64 (x7 + 1)) x170000 x170001 x170002 x170003 x179000 x179001 x179002 x179003 x179004 x179005 x179006 x179007)) else (none)) else (none)) else (spec_SchedOk.l1 k (wrap64 (x5 + 1)) x170000 x170001 x170002 x170003)
end
def spec_SchedOk.f (k : Nat) (a0_0 : Int) (a0_1 : Int) (l0_2 : List (S71)) (l0_3 : List (S68)) : Option (Bool) := (spec_l10Count.f a0_0).bind fun t170 => (if t170 = true then ((spec_l10Count.f a0_1).bind fun t171 => (if t171 = true then (if (l0_2.length : Int) > 32 then (spec_SchedOk.j0 k true a0_0 a0_1 l0_2 l0_3) else (spec_SchedOk.j0 k (decide ((l0_3.length : Int) > 16)) a0_0 a0_1 l0_2 l0_3)) else (spec_SchedOk.j0 k true a0_0 a0_1 l0_2 l0_3))) else (spec_SchedOk.j0 k true a0_0 a0_1 l0_2 l0_3))
theorem spec_SchedOk.mono_l : ∀ k, (∀ y0 y1 y2 y3 y4, LeO (spec_SchedOk.j0 k y0 y1 y2 y3 y4) (spec_SchedOk.j0 (k + 1) y0 y1 y2 y3 y4)) ∧ (∀ y0 y1 y2 y3 y4, LeO (spec_SchedOk.l0 k y0 y1 y2 y3 y4) (spec_SchedOk.l0 (k + 1) y0 y1 y2 y3 y4)) ∧ (∀ y0 y1 y2 y3 y4, LeO (spec_SchedOk.l1 k y0 y1 y2 y3 y4) (spec_SchedOk.l1 (k + 1) y0 y1 y2 y3 y4)) ∧ (∀ y0 y1 y2 y3 y4 y5 y6 y7 y8 y9 y10 y11 y12 y13, LeO (spec_SchedOk.j3 k y0 y1 y2 y3 y4 y5 y6 y7 y8 y9 y10 y11 y12 y13) (spec_SchedOk.j3 (k + 1) y0 y1 y2 y3 y4 y5 y6 y7 y8 y9 y10 y11 y12 y13)) ∧ (∀ y0 y1 y2 y3 y4 y5 y6 y7 y8 y9 y10 y11 y12 y13, LeO (spec_SchedOk.l2 k y0 y1 y2 y3 y4 y5 y6 y7 y8 y9 y10 y11 y12 y13) (spec_SchedOk.l2 (k + 1) y0 y1 y2 y3 y4 y5 y6 y7 y8 y9 y10 y11 y12 y13))
 | 0 => ⟨fun _ _ _ _ _ r h => by simp [spec_SchedOk.j0] at h, fun _ _ _ _ _ r h => by simp [spec_SchedOk.l0] at h, fun _ _ _ _ _ r h => by simp [spec_SchedOk.l1] at h, fun _ _ _ _ _ _ _ _ _ _ _ _ _ _ r h => by simp [spec_SchedOk.j3] at h, fun _ _ _ _ _ _ _ _ _ _ _ _ _ _ r h => by simp [spec_SchedOk.l2] at h⟩
 | k + 1 => by
  obtain ⟨ih0, ih1, ih2, ih3, ih4⟩ := spec_SchedOk.mono_l k
  refine ⟨?_, ?_, ?_, ?_, ?_⟩
  ·intro y0 y1 y2 y3 y4
   unfold spec_SchedOk.j0
   repeat' first
   | (with_reducible exact ih0 _ _ _ _ _)
   | (with_reducible exact ih1 _ _ _ _ _)
   | (with_reducible exact ih2 _ _ _ _ _)
   | (with_reducible exact ih3 _ _ _ _ _ _ _ _ _ _ _ _ _ _)
   | (with_reducible exact ih4 _ _ _ _ _ _ _ _ _ _ _ _ _ _)
   | (with_reducible exact spec_l11Thread.mono _ _ _ _ _ _)
   | (with_reducible exact spec_l11ThreadOk.mono _ _ _ _ _ _ _ _ _ _ _ _ _)
   | (with_reducible exact spec_l11Waits.mono _ _ _ _ _ _ _)
   | (with_reducible exact LeO.refl _)
   | (with_reducible exact LeO.none _)
   | (with_reducible refine LeO.ite ?_ ?_)
   | (with_reducible refine LeO.bind ?_ (fun _ => ?_))
   | exact ih0 _ _ _ _ _
   | exact ih1 _ _ _ _ _
   | exact ih2 _ _ _ _ _
   | exact ih3 _ _ _ _ _ _ _ _ _ _ _ _ _ _
   | exact ih4 _ _ _ _ _ _ _ _ _ _ _ _ _ _
   | exact spec_l11Thread.mono _ _ _ _ _ _
   | exact spec_l11ThreadOk.mono _ _ _ _ _ _ _ _ _ _ _ _ _
   | exact spec_l11Waits.mono _ _ _ _ _ _ _
   | exact LeO.none _
   | refine LeO.ite ?_ ?_
   | refine LeO.bind ?_ (fun _ => ?_)
  ·intro y0 y1 y2 y3 y4
   unfold spec_SchedOk.l0
   repeat' first
   | (with_reducible exact ih0 _ _ _ _ _)
   | (with_reducible exact ih1 _ _ _ _ _)
   | (with_reducible exact ih2 _ _ _ _ _)
   | (with_reducible exact ih3 _ _ _ _ _ _ _ _ _ _ _ _ _ _)
   | (with_reducible exact ih4 _ _ _ _ _ _ _ _ _ _ _ _ _ _)
   | (with_reducible exact spec_l11Thread.mono _ _ _ _ _ _)
   | (with_reducible exact spec_l11ThreadOk.mono _ _ _ _ _ _ _ _ _ _ _ _ _)
   | (with_reducible exact spec_l11Waits.mono _ _ _ _ _ _ _)
   | (with_reducible exact LeO.refl _)
   | (with_reducible exact LeO.none _)
   | (with_reducible refine LeO.ite ?_ ?_)
   | (with_reducible refine LeO.bind ?_ (fun _ => ?_))
   | exact ih0 _ _ _ _ _
   | exact ih1 _ _ _ _ _
   | exact ih2 _ _ _ _ _
   | exact ih3 _ _ _ _ _ _ _ _ _ _ _ _ _ _
   | exact ih4 _ _ _ _ _ _ _ _ _ _ _ _ _ _
   | exact spec_l11Thread.mono _ _ _ _ _ _
   | exact spec_l11ThreadOk.mono _ _ _ _ _ _ _ _ _ _ _ _ _
   | exact spec_l11Waits.mono _ _ _ _ _ _ _
   | exact LeO.none _
   | refine LeO.ite ?_ ?_
   | refine LeO.bind ?_ (fun _ => ?_)
  ·intro y0 y1 y2 y3 y4
   unfold spec_SchedOk.l1
   repeat' first
   | (with_reducible exact ih0 _ _ _ _ _)
   | (with_reducible exact ih1 _ _ _ _ _)
   | (with_reducible exact ih2 _ _ _ _ _)
   | (with_reducible exact ih3 _ _ _ _ _ _ _ _ _ _ _ _ _ _)
   | (with_reducible exact ih4 _ _ _ _ _ _ _ _ _ _ _ _ _ _)
   | (with_reducible exact spec_l11Thread.mono _ _ _ _ _ _)
   | (with_reducible exact spec_l11ThreadOk.mono _ _ _ _ _ _ _ _ _ _ _ _ _)
   | (with_reducible exact spec_l11Waits.mono _ _ _ _ _ _ _)
   | (with_reducible exact LeO.refl _)
   | (with_reducible exact LeO.none _)
   | (with_reducible refine LeO.ite ?_ ?_)
   | (with_reducible refine LeO.bind ?_ (fun _ => ?_))
   | exact ih0 _ _ _ _ _
   | exact ih1 _ _ _ _ _
   | exact ih2 _ _ _ _ _
   | exact ih3 _ _ _ _ _ _ _ _ _ _ _ _ _ _
   | exact ih4 _ _ _ _ _ _ _ _ _ _ _ _ _ _
   | exact spec_l11Thread.mono _ _ _ _ _ _
   | exact spec_l11ThreadOk.mono _ _ _ _ _ _ _ _ _ _ _ _ _
   | exact spec_l11Waits.mono _ _ _ _ _ _ _
   | exact LeO.none _
   | refine LeO.ite ?_ ?_
   | refine LeO.bind ?_ (fun _ => ?_)
  ·intro y0 y1 y2 y3 y4 y5 y6 y7 y8 y9 y10 y11 y12 y13
   unfold spec_SchedOk.j3
   repeat' first
   | (with_reducible exact ih0 _ _ _ _ _)
   | (with_reducible exact ih1 _ _ _ _ _)
   | (with_reducible exact ih2 _ _ _ _ _)
   | (with_reducible exact ih3 _ _ _ _ _ _ _ _ _ _ _ _ _ _)
   | (with_reducible exact ih4 _ _ _ _ _ _ _ _ _ _ _ _ _ _)
   | (with_reducible exact spec_l11Thread.mono _ _ _ _ _ _)
   | (with_reducible exact spec_l11ThreadOk.mono _ _ _ _ _ _ _ _ _ _ _ _ _)
   | (with_reducible exact spec_l11Waits.mono _ _ _ _ _ _ _)
   | (with_reducible exact LeO.refl _)
   | (with_reducible exact LeO.none _)
   | (with_reducible refine LeO.ite ?_ ?_)
   | (with_reducible refine LeO.bind ?_ (fun _ => ?_))
   | exact ih0 _ _ _ _ _
   | exact ih1 _ _ _ _ _
   | exact ih2 _ _ _ _ _
   | exact ih3 _ _ _ _ _ _ _ _ _ _ _ _ _ _
   | exact ih4 _ _ _ _ _ _ _ _ _ _ _ _ _ _
   | exact spec_l11Thread.mono _ _ _ _ _ _
   | exact spec_l11ThreadOk.mono _ _ _ _ _ _ _ _ _ _ _ _ _
   | exact spec_l11Waits.mono _ _ _ _ _ _ _
   | exact LeO.none _
   | refine LeO.ite ?_ ?_
   | refine LeO.bind ?_ (fun _ => ?_)
  ·intro y0 y1 y2 y3 y4 y5 y6 y7 y8 y9 y10 y11 y12 y13
   unfold spec_SchedOk.l2
   repeat' first
   | (with_reducible exact ih0 _ _ _ _ _)
   | (with_reducible exact ih1 _ _ _ _ _)
   | (with_reducible exact ih2 _ _ _ _ _)
   | (with_reducible exact ih3 _ _ _ _ _ _ _ _ _ _ _ _ _ _)
   | (with_reducible exact ih4 _ _ _ _ _ _ _ _ _ _ _ _ _ _)
   | (with_reducible exact spec_l11Thread.mono _ _ _ _ _ _)
   | (with_reducible exact spec_l11ThreadOk.mono _ _ _ _ _ _ _ _ _ _ _ _ _)
   | (with_reducible exact spec_l11Waits.mono _ _ _ _ _ _ _)
   | (with_reducible exact LeO.refl _)
   | (with_reducible exact LeO.none _)
   | (with_reducible refine LeO.ite ?_ ?_)
   | (with_reducible refine LeO.bind ?_ (fun _ => ?_))
   | exact ih0 _ _ _ _ _
   | exact ih1 _ _ _ _ _
   | exact ih2 _ _ _ _ _
   | exact ih3 _ _ _ _ _ _ _ _ _ _ _ _ _ _
   | exact ih4 _ _ _ _ _ _ _ _ _ _ _ _ _ _
   | exact spec_l11Thread.mono _ _ _ _ _ _
   | exact spec_l11ThreadOk.mono _ _ _ _ _ _ _ _ _ _ _ _ _
   | exact spec_l11Waits.mono _ _ _ _ _ _ _
   | exact LeO.none _
   | refine LeO.ite ?_ ?_
   | refine LeO.bind ?_ (fun _ => ?_)
theorem spec_SchedOk.mono : ∀ a0 a1 a2 a3 k, LeO (spec_SchedOk.f k a0 a1 a2 a3) (spec_SchedOk.f (k + 1) a0 a1 a2 a3) := by
 intro a0 a1 a2 a3 k
 obtain ⟨ih0, ih1, ih2, ih3, ih4⟩ := spec_SchedOk.mono_l k
 unfold spec_SchedOk.f
 repeat' first
   | (with_reducible exact ih0 _ _ _ _ _)
   | (with_reducible exact ih1 _ _ _ _ _)
   | (with_reducible exact ih2 _ _ _ _ _)
   | (with_reducible exact ih3 _ _ _ _ _ _ _ _ _ _ _ _ _ _)
   | (with_reducible exact ih4 _ _ _ _ _ _ _ _ _ _ _ _ _ _)
   | (with_reducible exact spec_l11Thread.mono _ _ _ _ _ _)
   | (with_reducible exact spec_l11ThreadOk.mono _ _ _ _ _ _ _ _ _ _ _ _ _)
   | (with_reducible exact spec_l11Waits.mono _ _ _ _ _ _ _)
   | (with_reducible exact LeO.refl _)
   | (with_reducible exact LeO.none _)
   | (with_reducible refine LeO.ite ?_ ?_)
   | (with_reducible refine LeO.bind ?_ (fun _ => ?_))
   | exact ih0 _ _ _ _ _
   | exact ih1 _ _ _ _ _
   | exact ih2 _ _ _ _ _
   | exact ih3 _ _ _ _ _ _ _ _ _ _ _ _ _ _
   | exact ih4 _ _ _ _ _ _ _ _ _ _ _ _ _ _
   | exact spec_l11Thread.mono _ _ _ _ _ _
   | exact spec_l11ThreadOk.mono _ _ _ _ _ _ _ _ _ _ _ _ _
   | exact spec_l11Waits.mono _ _ _ _ _ _ _
   | exact LeO.none _
   | refine LeO.ite ?_ ?_
   | refine LeO.bind ?_ (fun _ => ?_)
def spec_SchedOk.T7 : Bool × List (List Nat × List Nat) := (true, [([], []), ([0], [0]), ([1], [1]), ([2], [2]), ([3], [3]), ([4, 3], [3, 4]), ([5, 3], [3, 5]), ([3, 6], [3, 6]), ([7, 3], [7]), ([8], [8]), ([9, 8], [8, 9]), ([10, 8, 8], [8, 10]), ([11], [11]), ([12, 11], [11, 12]), ([11], [11]), ([14, 11], [11, 14]), ([13, 15, 11], [11, 13, 15]), ([16, 11], [11, 16]), ([17, 11], [11, 17]), ([11], [11]), ([19, 11], [11, 19]), ([18, 20, 11], [11, 18, 20]), ([11, 21, 8], [8, 11, 21]), ([8, 22], [8, 22]), ([23, 11], [23]), ([24], [24]), ([24], [24]), ([26, 24], [24, 26]), ([25, 27, 24, 24], [24, 25, 27]), ([28, 24], [24, 28]), ([24, 29], [24, 29])])
def spec_SchedOk.B7 : List Nat := [0, 1, 3, 7, 15, 31, 63, 127, 255, 511, 1023, 2047, 4095, 8191, 4095, 20479, 65535, 131071, 262143, 4095, 528383, 2097151, 4194303, 8388607, 16777215, 33554431, 33554431, 100663295, 268435455, 536870911, 1073741823]
theorem spec_SchedOk.tab7 : rtab .any (opsOf Try.f10 7) = spec_SchedOk.T7 := by kernel_rfl
theorem spec_SchedOk.bits7 : waitsOk spec_SchedOk.T7.2 spec_SchedOk.B7 = true := by kernel_rfl
def spec_SchedOk.T13 : Bool × List (List Nat × List Nat) := (true, [([], []), ([0], [0]), ([1], [1]), ([2], [2]), ([3, 2], [2, 3]), ([2], [2]), ([5, 2], [2, 5]), ([4, 6, 2], [2, 4, 6]), ([7, 2], [2, 7]), ([8, 2], [2, 8]), ([2], [2]), ([10, 2], [2, 10]), ([9, 11, 2], [2, 9, 11]), ([2, 12], [2, 12]), ([13, 2], [13]), ([14], [14]), ([14], [14]), ([15, 16, 14, 14], [14, 15, 16]), ([17, 14], [14, 17]), ([14, 18], [14, 18]), ([19, 17], [19]), ([20], [20]), ([20], [20]), ([22, 20], [20, 22]), ([20], [20]), ([24, 20], [20, 24]), ([21, 23, 25, 20, 20], [20, 21, 23, 25]), ([20, 26], [20, 26])])
def spec_SchedOk.B13 : List Nat := [0, 1, 3, 7, 15, 7, 39, 127, 255, 511, 7, 1031, 4095, 8191, 16383, 32767, 32767, 131071, 262143, 524287, 1048575, 2097151, 2097151, 6291455, 2097151, 18874367, 67108863, 134217727]
theorem spec_SchedOk.tab13 : rtab .any (opsOf Try.f10 13) = spec_SchedOk.T13 := by kernel_rfl
theorem spec_SchedOk.bits13 : waitsOk spec_SchedOk.T13.2 spec_SchedOk.B13 = true := by kernel_rfl
def spec_SchedOk.T18 : Bool × List (List Nat × List Nat) := (true, [([], []), ([0], [0]), ([], []), ([1, 2], [1, 2]), ([3], [3]), ([4], [4]), ([], []), ([6], [6]), ([5, 7], [5, 7])])
def spec_SchedOk.B18 : List Nat := [0, 1, 0, 7, 15, 31, 0, 64, 255]
theorem spec_SchedOk.tab18 : rtab .any (opsOf Try.f10 18) = spec_SchedOk.T18 := by kernel_rfl
theorem spec_SchedOk.bits18 : waitsOk spec_SchedOk.T18.2 spec_SchedOk.B18 = true := by kernel_rfl

end Go.Proofs.Ytdlgalaemnjfjaa.PFnExactPriority
