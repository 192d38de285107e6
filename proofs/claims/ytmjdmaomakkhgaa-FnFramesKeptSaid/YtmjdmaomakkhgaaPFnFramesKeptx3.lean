-- Written by a program of this session out of the translation. Not trusted: Lean checks it.
import Derived.Test.YtmjdmaomakkhgaaPFnFramesKeptx0
import Derived.Test.YtmjdmaomakkhgaaPFnFramesKeptx2
namespace Go.Proofs.Ytmjdmaomakkhgaa.PFnFramesKept
open Go.RowKit Go.Proofs.YtmjdmaomakkhgaaW.PrintWords Go.Proofs.YtmjdmaomakkhgaaW.PrintLast Go.Proofs.YtmjdmaomakkhgaaW.PrintMore
attribute [local go_sem] max2_int min2_int max_two min_two max_three min_three max_four min_four   -- for this text's walks alone
set_option linter.unusedVariables false
set_option linter.unusedSimpArgs false
theorem Z3_26 {P : Prop} (h : P := by rw [hg]; exact (below_size Z3_7)) : P := h
theorem Z3_25 {P : Prop} (h : P := by repeat (first | exact (Kd.C_below HR0_1.out HB.out) | (with_reducible refine Kd.C_alloc ?_ _) | (with_reducible refine Kd.C_drewN ?_ _) | (with_reducible refine Kd.C_drew ?_))) : P := h
theorem Z3_24 {P : Prop} (h : P := by repeat (first | exact Drawn0.refl _ | apply Drawn0.step)) : P := h
theorem Z3_23 {P : Prop} (h : P := by have := HJ1.out; have := HK2.out; have := HJ11.out; omega) : P := h
theorem Z3_22 {P : Prop} (h : P := by rw [hg]; exact (below_size Z3_1)) : P := h
theorem Z3_21 {P : Prop} (h : P := by (with_reducible repeat (first | apply blk_drewN | apply blk_drew | apply blk_alloc)); refine blk_far ?_ NB111_113.out _; (with_reducible repeat (first | apply blk_drewN | apply blk_drew | apply blk_alloc)); refine blk_far ?_ NB111_113.out _; (with_reducible repeat (first | apply blk_drewN | apply blk_drew | apply blk_alloc)); exact BK111.out) : P := h
theorem Z3_20 {P : Prop} (h : P := by first | (go_simp; done) | (go_simp; rfl)) : P := h
theorem Z3_19 {P : Prop} (h : P := by first | rfl | (simp; done) | (simp only [← hji29] <;> (first | rfl | simp)) | (simp [*]; done)) : P := h
theorem Z3_18 {P : Prop} (h : P := by first | rfl | (simp [errW_none, errW_some] <;> rfl) | (simp [*, errW_none, errW_some] <;> rfl)) : P := h
theorem Z3_17 {P : Prop} (h : P := by (with_reducible repeat (first | apply blk_drewN | apply blk_drew | apply blk_alloc)); refine blk_put (cs := #[.int .i64 ((rd_T73 l0_1 x19_2).f0), .int .i64 0]) ?_ 1 _ rfl; (with_reducible repeat (first | apply blk_drewN | apply blk_drew | apply blk_alloc)); refine blk_put (cs := #[.int .i64 0, .int .i64 0]) ?_ 0 _ rfl; (with_reducible repeat (first | apply blk_drewN | apply blk_drew | apply blk_alloc)); exact BK113.out) : P := h
theorem Z3_16 {P : Prop} (h : P := by (with_reducible repeat (first | apply blk_drewN | apply blk_drew | apply blk_alloc)); exact BK117.out) : P := h
theorem Z3_15 {P : Prop} (h : P := by rw [hg]; exact Nat.ne_of_gt (blk_lt (g := gb113) (o := .cells #[.int .i64 ((rd_T73 l0_1 x19_2).f0), .int .i64 ((rd_T73 l0_1 x19_2).f1)] 73 (0, 0)) Z3_3)) : P := h
theorem Z3_14 {P : Prop} (h : P := by rw [hg]; exact Nat.ne_of_lt (blk_lt (g := gb113) (o := .cells #[.int .i64 ((rd_T73 l0_1 x19_2).f0), .int .i64 ((rd_T73 l0_1 x19_2).f1)] 73 (0, 0)) Z3_3)) : P := h
theorem Z3_13 {P : Prop} (h : P := by (try simp only [List.map_toArray, List.map_cons, List.map_nil]); first | done | rfl | (simp only [List.length_drop, List.length_take]; first | done | rfl)) : P := h
theorem Z3_12 {P : Prop} (h : P := by rw [hg]; exact Nat.ne_of_gt (blk_lt (g := gb111) (o := .cells #[.int .i64 a0_0, .slice (some ad112) l0_1.length c0_1] 50 (0, 0)) Z3_2)) : P := h
theorem Z3_11 {P : Prop} (h : P := by rw [hg]; exact Nat.ne_of_lt (blk_lt (g := gb111) (o := .cells #[.int .i64 a0_0, .slice (some ad112) l0_1.length c0_1] 50 (0, 0)) Z3_2)) : P := h
theorem Z3_10 {P : Prop} (h : P := by first | (with_reducible assumption) | assumption) : P := h
theorem Z3_9 {P : Prop} (h : P := by repeat (first | (with_reducible first | exact HB.out | apply below_alloc | apply pw_below_drewN | apply below_drew1 | refine below_set ?_ GE111.out | refine below_set ?_ GE113.out | refine below_set ?_ GE116.out) | exact HB.out)) : P := h
theorem Z3_8 {P : Prop} (h : P := by (with_reducible repeat (first | apply blk_drewN | apply blk_drew | apply blk_alloc)); refine blk_far ?_ NB111_116.out _; (with_reducible repeat (first | apply blk_drewN | apply blk_drew | apply blk_alloc)); refine blk_far ?_ NB111_116.out _; (with_reducible repeat (first | apply blk_drewN | apply blk_drew | apply blk_alloc)); exact BK111.out) : P := h
theorem Z3_7 {P : Prop} (h : P := by repeat (first | (with_reducible first | exact HB.out | apply below_alloc | apply pw_below_drewN | apply below_drew1) | exact HB.out)) : P := h
theorem Z3_6 {P : Prop} (h : P := by repeat (first | (with_reducible first | exact HB.out | apply below_alloc | apply pw_below_drewN | apply below_drew1 | refine below_set ?_ GE117.out) | exact HB.out)) : P := h
theorem Z3_5 {P : Prop} (h : P := by repeat (first | (with_reducible first | exact HB.out | apply below_alloc | apply pw_below_drewN | apply below_drew1 | refine below_set ?_ GE111.out) | exact HB.out)) : P := h
theorem Z3_4 {P : Prop} (h : P := by first | rfl | exact congrArg (Value.int .i64) (i64_w _) | (simp; done) | (simp [*]; done)) : P := h
theorem Z3_3 {P : Prop} (h : P := by (with_reducible repeat (first | apply blk_drewN | apply blk_drew | apply blk_alloc)); exact BK113.out) : P := h
theorem Z3_2 {P : Prop} (h : P := by (with_reducible repeat (first | apply blk_drewN | apply blk_drew | apply blk_alloc)); exact BK111.out) : P := h
theorem Z3_1 {P : Prop} (h : P := by repeat (first | (with_reducible first | exact HB.out | apply below_alloc | apply pw_below_drewN | apply below_drew1 | refine below_set ?_ GE111.out | refine below_set ?_ GE113.out) | exact HB.out)) : P := h

/-! ### impl_FramesOk: function 32 -/
mutual
def impl_FramesOk.j0 : Nat → Bool → Int → List (S73) → Option (Bool)
 | 0, _, _, _ => none
 | k + 1, x15, x112000, x112001 => if x15 = true then (some false) else (impl_FramesOk.l0 k 0 x112001 (x112001.length : Int) 0 x112000 x112001)
def impl_FramesOk.l0 : Nat → Int → List (S73) → Int → Int → Int → List (S73) → Option (Bool)
 | 0, _, _, _, _, _, _ => none
 | k + 1, x3, x17, x18, x19, x112000, x112001 => if x19 < x18 then (if 0 ≤ x19 then (if x19 < (x17.length : Int) then ((impl_blockOk.f x112000 ((rd_T73 x17 x19).f0) ((rd_T73 x17 x19).f1)).bind fun t114 => (if t114 = true then (impl_FramesOk.j2 k x19 x17 x18 x19 (decide (((rd_T73 x17 x19).f0) < x3)) x112000 x112001 ((rd_T73 x17 x19).f0) ((rd_T73 x17 x19).f1)) else (impl_FramesOk.j2 k x19 x17 x18 x19 true x112000 x112001 ((rd_T73 x17 x19).f0) ((rd_T73 x17 x19).f1)))) else (none)) else (none)) else (some true)
def impl_FramesOk.j2 : Nat → Int → List (S73) → Int → Int → Bool → Int → List (S73) → Int → Int → Option (Bool)
 | 0, _, _, _, _, _, _, _, _, _ => none
 | k + 1, x4, x17, x18, x19, x34, x112000, x112001, x114000, x114001 => if x34 = true then (some false) else (if 0 ≤ x114001 then (if x4 > 0 then (if 0 ≤ (wrap64 (x4 - 1)) then (if (wrap64 (x4 - 1)) < (x112001.length : Int) then (if ((rd_T73 x112001 (wrap64 (x4 - 1))).f1) = x114001 then (if x114001 < 10 then (if ((rd_T73 x112001 (wrap64 (x4 - 1))).f0) = (wrap64 (x114000 - (shl .i64 1 x114001))) then (if (wrap64 (2 * (shl .i64 1 x114001))) = 0 then (none) else (if (Int.tmod ((rd_T73 x112001 (wrap64 (x4 - 1))).f0) (wrap64 (2 * (shl .i64 1 x114001)))) = 0 then (some false) else (impl_FramesOk.l0 k (wrap64 (x114000 + (shl .i64 1 x114001))) x17 x18 (wrap64 (x19 + 1)) x112000 x112001))) else (impl_FramesOk.l0 k (wrap64 (x114000 + (shl .i64 1 x114001))) x17 x18 (wrap64 (x19 + 1)) x112000 x112001)) else (impl_FramesOk.l0 k (wrap64 (x114000 + (shl .i64 1 x114001))) x17 x18 (wrap64 (x19 + 1)) x112000 x112001)) else (impl_FramesOk.l0 k (wrap64 (x114000 + (shl .i64 1 x114001))) x17 x18 (wrap64 (x19 + 1)) x112000 x112001)) else (none)) else (none)) else (impl_FramesOk.l0 k (wrap64 (x114000 + (shl .i64 1 x114001))) x17 x18 (wrap64 (x19 + 1)) x112000 x112001)) else (none))
end
def impl_FramesOk.f (k : Nat) (a0_0 : Int) (l0_1 : List (S73)) : Option (Bool) := if a0_0 < 0 then (impl_FramesOk.j0 k true a0_0 l0_1) else (impl_FramesOk.j0 k (decide (a0_0 > 1024)) a0_0 l0_1)
theorem impl_FramesOk.mono_l : ∀ k, (∀ y0 y1 y2, LeO (impl_FramesOk.j0 k y0 y1 y2) (impl_FramesOk.j0 (k + 1) y0 y1 y2)) ∧ (∀ y0 y1 y2 y3 y4 y5, LeO (impl_FramesOk.l0 k y0 y1 y2 y3 y4 y5) (impl_FramesOk.l0 (k + 1) y0 y1 y2 y3 y4 y5)) ∧ (∀ y0 y1 y2 y3 y4 y5 y6 y7 y8, LeO (impl_FramesOk.j2 k y0 y1 y2 y3 y4 y5 y6 y7 y8) (impl_FramesOk.j2 (k + 1) y0 y1 y2 y3 y4 y5 y6 y7 y8))
 | 0 => ⟨fun _ _ _ r h => by simp [impl_FramesOk.j0] at h, fun _ _ _ _ _ _ r h => by simp [impl_FramesOk.l0] at h, fun _ _ _ _ _ _ _ _ _ r h => by simp [impl_FramesOk.j2] at h⟩
 | k + 1 => by
  obtain ⟨ih0, ih1, ih2⟩ := impl_FramesOk.mono_l k
  refine ⟨?_, ?_, ?_⟩
  ·intro y0 y1 y2
   unfold impl_FramesOk.j0
   repeat' first
   | (with_reducible exact ih0 _ _ _)
   | (with_reducible exact ih1 _ _ _ _ _ _)
   | (with_reducible exact ih2 _ _ _ _ _ _ _ _ _)
   | (with_reducible exact LeO.refl _)
   | (with_reducible exact LeO.none _)
   | (with_reducible refine LeO.ite ?_ ?_)
   | (with_reducible refine LeO.bind ?_ (fun _ => ?_))
   | exact ih0 _ _ _
   | exact ih1 _ _ _ _ _ _
   | exact ih2 _ _ _ _ _ _ _ _ _
   | exact LeO.none _
   | refine LeO.ite ?_ ?_
   | refine LeO.bind ?_ (fun _ => ?_)
  ·intro y0 y1 y2 y3 y4 y5
   unfold impl_FramesOk.l0
   repeat' first
   | (with_reducible exact ih0 _ _ _)
   | (with_reducible exact ih1 _ _ _ _ _ _)
   | (with_reducible exact ih2 _ _ _ _ _ _ _ _ _)
   | (with_reducible exact LeO.refl _)
   | (with_reducible exact LeO.none _)
   | (with_reducible refine LeO.ite ?_ ?_)
   | (with_reducible refine LeO.bind ?_ (fun _ => ?_))
   | exact ih0 _ _ _
   | exact ih1 _ _ _ _ _ _
   | exact ih2 _ _ _ _ _ _ _ _ _
   | exact LeO.none _
   | refine LeO.ite ?_ ?_
   | refine LeO.bind ?_ (fun _ => ?_)
  ·intro y0 y1 y2 y3 y4 y5 y6 y7 y8
   unfold impl_FramesOk.j2
   repeat' first
   | (with_reducible exact ih0 _ _ _)
   | (with_reducible exact ih1 _ _ _ _ _ _)
   | (with_reducible exact ih2 _ _ _ _ _ _ _ _ _)
   | (with_reducible exact LeO.refl _)
   | (with_reducible exact LeO.none _)
   | (with_reducible refine LeO.ite ?_ ?_)
   | (with_reducible refine LeO.bind ?_ (fun _ => ?_))
   | exact ih0 _ _ _
   | exact ih1 _ _ _ _ _ _
   | exact ih2 _ _ _ _ _ _ _ _ _
   | exact LeO.none _
   | refine LeO.ite ?_ ?_
   | refine LeO.bind ?_ (fun _ => ?_)
theorem impl_FramesOk.mono : ∀ a0 a1 k, LeO (impl_FramesOk.f k a0 a1) (impl_FramesOk.f (k + 1) a0 a1) := by
 intro a0 a1 k
 obtain ⟨ih0, ih1, ih2⟩ := impl_FramesOk.mono_l k
 unfold impl_FramesOk.f
 repeat' first
   | (with_reducible exact ih0 _ _ _)
   | (with_reducible exact ih1 _ _ _ _ _ _)
   | (with_reducible exact ih2 _ _ _ _ _ _ _ _ _)
   | (with_reducible exact LeO.refl _)
   | (with_reducible exact LeO.none _)
   | (with_reducible refine LeO.ite ?_ ?_)
   | (with_reducible refine LeO.bind ?_ (fun _ => ?_))
   | exact ih0 _ _ _
   | exact ih1 _ _ _ _ _ _
   | exact ih2 _ _ _ _ _ _ _ _ _
   | exact LeO.none _
   | refine LeO.ite ?_ ?_
   | refine LeO.bind ?_ (fun _ => ?_)
set_option maxHeartbeats 8000000 in
set_option maxRecDepth 100000 in
theorem impl_FramesOk.calls (k : Nat) (a0_0 : Int) (A0_1 : Option Addr) (c0_1 : Nat) (l0_1 : List (S73)) (r : Bool) (w : World) (hr0_1 : Kd.C k73 w A0_1 l0_1.length l0_1) (hc0_1 : l0_1.length ≤ c0_1) (h : impl_FramesOk.f k a0_0 l0_1 = some r) :
  Calls Try.prog 32 #[.agg #[.int .i64 a0_0, .slice A0_1 l0_1.length c0_1]] w fun e w' => e = .returned (.bool r) ∧ Below w.heap.size w w' := by
 have hu50 := Try.underlying50
 have hu73 := Try.underlying73
 have HR0_1 := Aside0.mk hr0_1
 have HC0_1 := Aside0.mk hc0_1
 clear hr0_1 hc0_1
 have HB := Aside0.mk (Below.refl w.heap.size w)
 have H : (if a0_0 < 0 then (impl_FramesOk.j0 k true a0_0 l0_1) else (impl_FramesOk.j0 k (decide (a0_0 > 1024)) a0_0 l0_1)) = some r := h
 clear h
 have HC2 := Aside0.mk H
 clear H
 go_enter Try.func32, Try.ntmps32
 go_upto_region 1 with (first | ((with_reducible refine gate_dst (N := 1) rfl ?_); refine box_event ?hg (N := 1) ?hd (cs := #[.int .i64 a0_0, .slice A0_1 l0_1.length c0_1]) (t := 50) ?hr ?_; (case hd => rfl); (case hg => rfl); (case hr => exact Z3_20); intro gb111 hg w3 hbox hb; have n0_ := Aside0.mk (below_step Z3_7 hb); have n1_ := Aside0.mk (hbox); have n2_ := Aside0.mk ((Z3_26 : w.heap.size ≤ gb111)); have n3_ := Aside0.mk ((Z3_26 : w.heap.size ≤ gb111)); clear HB; have HB := n0_; have BK111 := n1_; have GW111 := n2_; have GE111 := n3_; clear n0_ n1_ n2_ n3_; clear hb hbox hg))
 (try simp only [Act.put, List.setIfInBounds_toArray, List.set_cons_zero, List.set_cons_succ])
 go_cut [15] (fun v15 wc => ∃ (kq : Nat) (x15_1 : Bool), v15 = .bool x15_1 ∧ Aside0 (impl_FramesOk.j0 kq x15_1 a0_0 l0_1 = some r) ∧ Aside0 (kq ≤ k) ∧ Aside0 (wc.heap[gb111]? = some (.cells #[.int .i64 a0_0, (.slice A0_1 l0_1.length c0_1)] 50 (0, 0))) ∧ Aside0 (Below w.heap.size w wc))
 case first =>
  have H := HC2.out
  clear HC2
  by_cases c4 : a0_0 < 0
  ·rw [if_pos c4] at H
   have c4b0 : decide (a0_0 < 0) = true := decide_eq_true c4
   clear c4
   (first | rw [c4b0] | (simp only [i64_w, i32_w]; rw [c4b0]) | skip)
   have H' := Aside0.mk H
   clear H
   have hcz5_0 : w3.cell? ⟨gb111, 0, none⟩ = some (.int .i64 a0_0) := (blk_cell BK111.out 0).trans rfl
   have hcz5_1 : w3.cell? ⟨gb111, 1, none⟩ = some (.slice A0_1 l0_1.length c0_1) := (blk_cell BK111.out 1).trans rfl
   have hfz5_0 := blk_frozen BK111.out 0
   have hfz5_1 := blk_frozen BK111.out 1
   go_wp2
   go_meet
   case rel => exact ⟨_, (true), Z3_4, H', ⟨by first | omega | exact Nat.le_refl _⟩, ⟨Z3_2⟩, ⟨Z3_5⟩⟩
  rw [if_neg c4] at H
  have c4b0 : decide (a0_0 < 0) = false := decide_eq_false c4
  clear c4
  (first | rw [c4b0] | (simp only [i64_w, i32_w]; rw [c4b0]) | skip)
  have H' := Aside0.mk H
  clear H
  have hcz6_0 : w3.cell? ⟨gb111, 0, none⟩ = some (.int .i64 a0_0) := (blk_cell BK111.out 0).trans rfl
  have hcz6_1 : w3.cell? ⟨gb111, 1, none⟩ = some (.slice A0_1 l0_1.length c0_1) := (blk_cell BK111.out 1).trans rfl
  have hfz6_0 := blk_frozen BK111.out 0
  have hfz6_1 := blk_frozen BK111.out 1
  go_wp2
  go_meet
  case rel => exact ⟨_, (decide (a0_0 > 1024)), Z3_4, H', ⟨by first | omega | exact Nat.le_refl _⟩, ⟨Z3_2⟩, ⟨Z3_5⟩⟩
 clear HC2
 try clear p2
 try clear c3
 try clear c4
 try clear c4b0
 try clear hcz5_0
 try clear hcz5_1
 try clear hcz6_0
 try clear hcz6_1
 try clear hfz5_0
 try clear hfz5_1
 try clear hfz6_0
 try clear hfz6_1
 obtain ⟨kq, x15_1, rfl, HA, HJ1, BK111, HB⟩ := hcut
 cases kq with
 | zero => exact absurd HA.out (by simp [impl_FramesOk.j0])
 | succ kj1 =>
  have H := HA.out
  clear HA
  simp only [impl_FramesOk.j0] at H
  by_cases c7 : x15_1 = true
  ·subst c7
   have H1 : (some false) = some r := by rw [if_pos rfl] at H; exact H
   clear H
   have H := H1
   clear H1
   obtain rfl := Option.some.inj H
   go_wp2
   go_ret
   exact ⟨Z3_18, Z3_5⟩
  replace c7 := Bool.eq_false_iff.mpr c7
  subst c7
  have H1 : (impl_FramesOk.l0 kj1 0 l0_1 (l0_1.length : Int) 0 a0_0 l0_1) = some r := by rw [if_neg (show ¬ (false = true) by decide)] at H; exact H
  clear H
  have H := H1
  clear H1
  have H' := Aside0.mk H
  clear H
  have hcz8_0 : wc.cell? ⟨gb111, 0, none⟩ = some (.int .i64 a0_0) := (blk_cell BK111.out 0).trans rfl
  have hcz8_1 : wc.cell? ⟨gb111, 1, none⟩ = some (.slice A0_1 l0_1.length c0_1) := (blk_cell BK111.out 1).trans rfl
  have hfz8_0 := blk_frozen BK111.out 0
  have hfz8_1 := blk_frozen BK111.out 1
  go_wp2
  go_loopg [3, 19] kj1 (fun kq v3 v19 w' => ∃ (x3_2 : Int) (x19_2 : Int), v3 = .int .i64 x3_2 ∧ v19 = .int .i64 x19_2 ∧ Aside0 (impl_FramesOk.l0 kq x3_2 l0_1 (l0_1.length : Int) x19_2 a0_0 l0_1 = some r) ∧ Aside0 (kq ≤ kj1) ∧ Aside0 (w'.heap[gb111]? = some (.cells #[.int .i64 a0_0, (.slice A0_1 l0_1.length c0_1)] 50 (0, 0))) ∧ Aside0 (Below w.heap.size w w'))
  case atStart => exact ⟨(0), (0), Z3_4, Z3_4, H', ⟨Nat.le_refl _⟩, ⟨Z3_2⟩, ⟨Z3_5⟩⟩
  clear H'
  try clear p2
  try clear c3
  try clear c4
  try clear c4b0
  try clear c7
  try clear hcz5_0
  try clear hcz5_1
  try clear hcz6_0
  try clear hcz6_1
  try clear hcz8_0
  try clear hcz8_1
  try clear hfz5_0
  try clear hfz5_1
  try clear hfz6_0
  try clear hfz6_1
  try clear hfz8_0
  try clear hfz8_1
  try clear p2
  obtain ⟨x3_2, x19_2, rfl, rfl, HA, HK2, BK111, HB⟩ := hrel
  cases gk with
  | zero => exact absurd HA.out (by simp [impl_FramesOk.l0])
  | succ k2 =>
   have H := HA.out
   clear HA
   simp only [impl_FramesOk.l0] at H
   by_cases c9 : x19_2 < (l0_1.length : Int)
   ·rw [if_pos c9] at H
    have c9b0 : decide (x19_2 < (l0_1.length : Int)) = true := decide_eq_true c9
    clear c9
    by_cases c10 : 0 ≤ x19_2
    ·rw [if_pos c10] at H
     have c10b0 : decide (0 ≤ x19_2) = true := decide_eq_true c10
     clear c10
     by_cases c11 : x19_2 < (l0_1.length : Int)
     ·rw [if_pos c11] at H
      have c11b0 : decide (x19_2 < (l0_1.length : Int)) = true := decide_eq_true c11
      clear c11
      have HC12 := Aside0.mk H
      clear H
      have p112 : 0 ≤ (x19_2 : Int) := of_decide_eq_true Z3_10
      have q112 : x19_2 < (l0_1.length : Int) := of_decide_eq_true Z3_10
      obtain ⟨ad112, e112, hx112_0, hx112_1⟩ := at_T73 HR0_1.out x19_2 p112 q112
      cases e112
      replace hx112_0 := (HB.out.cell (World.block_lt_of_cell? w _ hx112_0)).trans hx112_0
      replace hx112_1 := (HB.out.cell (World.block_lt_of_cell? w _ hx112_1)).trans hx112_1
      replace p112 := eq_true p112
      replace q112 := eq_true q112
      go_upto_region 7 with (first | ((with_reducible refine gate_dst (N := 5) rfl ?_); refine box_event ?hg (N := 5) ?hd (cs := #[.int .i64 0, .int .i64 0]) (t := 73) ?hr ?_; (case hd => rfl); (case hg => rfl); (case hr => exact Z3_20); intro gb113 hg w13 hbox hb; have n0_ := Aside0.mk (blk_below (g := gb111) (o := .cells #[.int .i64 a0_0, .slice (some ad112) l0_1.length c0_1] 50 (0, 0)) Z3_2 hb); have n1_ := Aside0.mk (below_step Z3_5 hb); have n2_ := Aside0.mk (hbox); have n3_ := Aside0.mk ((by rw [hg]; exact (below_size Z3_5) : w.heap.size ≤ gb113)); have n4_ := Aside0.mk ((by rw [hg]; exact (below_size Z3_5) : w.heap.size ≤ gb113)); have n5_ := Aside0.mk ((Z3_11 : gb111 ≠ gb113)); have n6_ := Aside0.mk ((Z3_12 : gb113 ≠ gb111)); clear BK111; clear HB; have BK111 := n0_; have HB := n1_; have BK113 := n2_; have GW113 := n3_; have GE113 := n4_; have NB111_113 := n5_; have NB113_111 := n6_; clear n0_ n1_ n2_ n3_ n4_ n5_ n6_; clear hb hbox hg; have hnb14 := NB113_111.out; have hnc14 := NB111_113.out; have hcz15_0 : w13.cell? ⟨gb113, 0, none⟩ = some (.int .i64 0) := (blk_cell BK113.out 0).trans rfl; have hcz15_1 : w13.cell? ⟨gb113, 1, none⟩ = some (.int .i64 0) := (blk_cell BK113.out 1).trans rfl; have hfz15_0 := blk_frozen BK113.out 0; have hfz15_1 := blk_frozen BK113.out 1))
      (try simp only [Act.put, List.setIfInBounds_toArray, List.set_cons_zero, List.set_cons_succ])
      go_cut [34] (fun v34 wc => ∃ (kq : Nat) (x34_11 : Bool), v34 = .bool x34_11 ∧ Aside0 (impl_FramesOk.j2 kq x19_2 l0_1 (l0_1.length : Int) x19_2 x34_11 a0_0 l0_1 ((rd_T73 l0_1 x19_2).f0) ((rd_T73 l0_1 x19_2).f1) = some r) ∧ Aside0 (kq ≤ k2) ∧ Aside0 (wc.heap[gb111]? = some (.cells #[.int .i64 a0_0, (.slice (some ad112) l0_1.length c0_1)] 50 (0, 0))) ∧ Aside0 (wc.heap[gb113]? = some (.cells #[.int .i64 ((rd_T73 l0_1 x19_2).f0), .int .i64 ((rd_T73 l0_1 x19_2).f1)] 73 (0, 0))) ∧ Aside0 (Below w.heap.size w wc))
      case first =>
       have H := HC12.out
       clear HC12
       replace H := Option.bind_eq_some_iff.mp H
       obtain ⟨t114, A160, H⟩ := H
       replace H : (if t114 = true then (impl_FramesOk.j2 k2 x19_2 l0_1 (l0_1.length : Int) x19_2 (decide (((rd_T73 l0_1 x19_2).f0) < x3_2)) a0_0 l0_1 ((rd_T73 l0_1 x19_2).f0) ((rd_T73 l0_1 x19_2).f1)) else (impl_FramesOk.j2 k2 x19_2 l0_1 (l0_1.length : Int) x19_2 true a0_0 l0_1 ((rd_T73 l0_1 x19_2).f0) ((rd_T73 l0_1 x19_2).f1))) = some r := H
       have A16 := Aside0.mk A160
       clear A160
       by_cases c17 : t114 = true
       ·subst c17
        have H1 : (impl_FramesOk.j2 k2 x19_2 l0_1 (l0_1.length : Int) x19_2 (decide (((rd_T73 l0_1 x19_2).f0) < x3_2)) a0_0 l0_1 ((rd_T73 l0_1 x19_2).f0) ((rd_T73 l0_1 x19_2).f1)) = some r := by rw [if_pos rfl] at H; exact H
        clear H
        have H := H1
        clear H1
        have H' := Aside0.mk H
        clear H
        have hnb18 := NB111_113.out
        have hnc18 := NB113_111.out
        have hcz19_0 : w13.cell? ⟨gb111, 0, none⟩ = some (.int .i64 a0_0) := (blk_cell BK111.out 0).trans rfl
        have hcz19_1 : w13.cell? ⟨gb111, 1, none⟩ = some (.slice (some ad112) l0_1.length c0_1) := (blk_cell BK111.out 1).trans rfl
        have hfz19_0 := blk_frozen BK111.out 0
        have hfz19_1 := blk_frozen BK111.out 1
        have hcz20_0 : w13.cell? ⟨gb113, 0, none⟩ = some (.int .i64 0) := (blk_cell BK113.out 0).trans rfl
        have hcz20_1 : w13.cell? ⟨gb113, 1, none⟩ = some (.int .i64 0) := (blk_cell BK113.out 1).trans rfl
        have hfz20_0 := blk_frozen BK113.out 0
        have hfz20_1 := blk_frozen BK113.out 1
        go_wp2_with (first | ((with_reducible refine gate_callee (f := 74) rfl ?_); refine goesL_ (some 27) rfl rfl Try.func74 (by kernel_rfl) rfl #[.int .i64 a0_0, .agg #[.int .i64 ((rd_T73 l0_1 x19_2).f0), .int .i64 ((rd_T73 l0_1 x19_2).f1)]] rfl Z3_13 ?_; (with_reducible refine (impl_blockOk.calls a0_0 ((rd_T73 l0_1 x19_2).f0) ((rd_T73 l0_1 x19_2).f1) true _ A16.out).mono ?_); rintro e w21 ⟨rfl, hb⟩; refine ⟨_, rfl, ?_⟩; have n0_ := Aside0.mk (blk_below (g := gb111) (o := .cells #[.int .i64 a0_0, .slice (some ad112) l0_1.length c0_1] 50 (0, 0)) Z3_21 hb); have n1_ := Aside0.mk (blk_below (g := gb113) (o := .cells #[.int .i64 ((rd_T73 l0_1 x19_2).f0), .int .i64 ((rd_T73 l0_1 x19_2).f1)] 73 (0, 0)) Z3_17 hb); have n2_ := Aside0.mk (below_step Z3_1 hb); clear BK111; clear BK113; clear HB; have BK111 := n0_; have BK113 := n1_; have HB := n2_; clear n0_ n1_ n2_; (try clear hb); (try clear hb2); (try clear hk); (try clear hi); have hcz22_0 : w21.cell? ⟨gb113, 0, none⟩ = some (.int .i64 ((rd_T73 l0_1 x19_2).f0)) := (blk_cell BK113.out 0).trans rfl; have hcz22_1 : w21.cell? ⟨gb113, 1, none⟩ = some (.int .i64 ((rd_T73 l0_1 x19_2).f1)) := (blk_cell BK113.out 1).trans rfl; have hfz22_0 := blk_frozen BK113.out 0; have hfz22_1 := blk_frozen BK113.out 1))
        go_meet
        case rel => exact ⟨_, (decide (((rd_T73 l0_1 x19_2).f0) < x3_2)), Z3_4, H', ⟨by have := HJ1.out; have := HK2.out; first | omega | exact Nat.le_refl _⟩, ⟨Z3_2⟩, ⟨Z3_3⟩, ⟨Z3_1⟩⟩
       replace c17 := Bool.eq_false_iff.mpr c17
       subst c17
       have H1 : (impl_FramesOk.j2 k2 x19_2 l0_1 (l0_1.length : Int) x19_2 true a0_0 l0_1 ((rd_T73 l0_1 x19_2).f0) ((rd_T73 l0_1 x19_2).f1)) = some r := by rw [if_neg (show ¬ (false = true) by decide)] at H; exact H
       clear H
       have H := H1
       clear H1
       have H' := Aside0.mk H
       clear H
       have hnb23 := NB111_113.out
       have hnc23 := NB113_111.out
       have hcz24_0 : w13.cell? ⟨gb111, 0, none⟩ = some (.int .i64 a0_0) := (blk_cell BK111.out 0).trans rfl
       have hcz24_1 : w13.cell? ⟨gb111, 1, none⟩ = some (.slice (some ad112) l0_1.length c0_1) := (blk_cell BK111.out 1).trans rfl
       have hfz24_0 := blk_frozen BK111.out 0
       have hfz24_1 := blk_frozen BK111.out 1
       have hcz25_0 : w13.cell? ⟨gb113, 0, none⟩ = some (.int .i64 0) := (blk_cell BK113.out 0).trans rfl
       have hcz25_1 : w13.cell? ⟨gb113, 1, none⟩ = some (.int .i64 0) := (blk_cell BK113.out 1).trans rfl
       have hfz25_0 := blk_frozen BK113.out 0
       have hfz25_1 := blk_frozen BK113.out 1
       go_wp2_with (first | ((with_reducible refine gate_callee (f := 74) rfl ?_); refine goesL_ (some 27) rfl rfl Try.func74 (by kernel_rfl) rfl #[.int .i64 a0_0, .agg #[.int .i64 ((rd_T73 l0_1 x19_2).f0), .int .i64 ((rd_T73 l0_1 x19_2).f1)]] rfl Z3_13 ?_; (with_reducible refine (impl_blockOk.calls a0_0 ((rd_T73 l0_1 x19_2).f0) ((rd_T73 l0_1 x19_2).f1) false _ A16.out).mono ?_); rintro e w26 ⟨rfl, hb⟩; refine ⟨_, rfl, ?_⟩; have n0_ := Aside0.mk (blk_below (g := gb111) (o := .cells #[.int .i64 a0_0, .slice (some ad112) l0_1.length c0_1] 50 (0, 0)) Z3_21 hb); have n1_ := Aside0.mk (blk_below (g := gb113) (o := .cells #[.int .i64 ((rd_T73 l0_1 x19_2).f0), .int .i64 ((rd_T73 l0_1 x19_2).f1)] 73 (0, 0)) Z3_17 hb); have n2_ := Aside0.mk (below_step Z3_1 hb); clear BK111; clear BK113; clear HB; have BK111 := n0_; have BK113 := n1_; have HB := n2_; clear n0_ n1_ n2_; (try clear hb); (try clear hb2); (try clear hk); (try clear hi)))
       go_meet
       case rel => exact ⟨_, (true), Z3_4, H', ⟨by have := HJ1.out; have := HK2.out; first | omega | exact Nat.le_refl _⟩, ⟨Z3_2⟩, ⟨Z3_3⟩, ⟨Z3_1⟩⟩
      clear HC12
      try clear c1
      try clear p1
      try clear q1
      try clear hx1
      try clear c2
      try clear p2
      try clear c3
      try clear c4
      try clear c4b0
      try clear c7
      try clear c9
      try clear c9b0
      try clear c10
      try clear c10b0
      try clear c11
      try clear c11b0
      try clear p11
      try clear q11
      try clear hx11
      try clear c14
      try clear c17
      try clear c18
      try clear c23
      try clear hcz15_0
      try clear hcz15_1
      try clear hcz19_0
      try clear hcz19_1
      try clear hcz20_0
      try clear hcz20_1
      try clear hcz22_0
      try clear hcz22_1
      try clear hcz24_0
      try clear hcz24_1
      try clear hcz25_0
      try clear hcz25_1
      try clear hcz5_0
      try clear hcz5_1
      try clear hcz6_0
      try clear hcz6_1
      try clear hcz8_0
      try clear hcz8_1
      try clear hfz15_0
      try clear hfz15_1
      try clear hfz19_0
      try clear hfz19_1
      try clear hfz20_0
      try clear hfz20_1
      try clear hfz22_0
      try clear hfz22_1
      try clear hfz24_0
      try clear hfz24_1
      try clear hfz25_0
      try clear hfz25_1
      try clear hfz5_0
      try clear hfz5_1
      try clear hfz6_0
      try clear hfz6_1
      try clear hfz8_0
      try clear hfz8_1
      try clear hx112_0
      try clear hx112_1
      try clear p112
      try clear p2
      try clear q112
      obtain ⟨kq, x34_11, rfl, HA, HJ11, BK111, BK113, HB⟩ := hcut
      cases kq with
      | zero => exact absurd HA.out (by simp [impl_FramesOk.j2])
      | succ kj11 =>
       have H := HA.out
       clear HA
       simp only [impl_FramesOk.j2] at H
       by_cases c27 : x34_11 = true
       ·subst c27
        have H1 : (some false) = some r := by rw [if_pos rfl] at H; exact H
        clear H
        have H := H1
        clear H1
        obtain rfl := Option.some.inj H
        go_wp2
        go_ret
        exact ⟨Z3_18, Z3_1⟩
       replace c27 := Bool.eq_false_iff.mpr c27
       subst c27
       have H1 : (if 0 ≤ ((rd_T73 l0_1 x19_2).f1) then (if x19_2 > 0 then (if 0 ≤ (wrap64 (x19_2 - 1)) then (if (wrap64 (x19_2 - 1)) < (l0_1.length : Int) then (if ((rd_T73 l0_1 (wrap64 (x19_2 - 1))).f1) = ((rd_T73 l0_1 x19_2).f1) then (if ((rd_T73 l0_1 x19_2).f1) < 10 then (if ((rd_T73 l0_1 (wrap64 (x19_2 - 1))).f0) = (wrap64 (((rd_T73 l0_1 x19_2).f0) - (shl .i64 1 ((rd_T73 l0_1 x19_2).f1)))) then (if (wrap64 (2 * (shl .i64 1 ((rd_T73 l0_1 x19_2).f1)))) = 0 then (none) else (if (Int.tmod ((rd_T73 l0_1 (wrap64 (x19_2 - 1))).f0) (wrap64 (2 * (shl .i64 1 ((rd_T73 l0_1 x19_2).f1))))) = 0 then (some false) else (impl_FramesOk.l0 kj11 (wrap64 (((rd_T73 l0_1 x19_2).f0) + (shl .i64 1 ((rd_T73 l0_1 x19_2).f1)))) l0_1 (l0_1.length : Int) (wrap64 (x19_2 + 1)) a0_0 l0_1))) else (impl_FramesOk.l0 kj11 (wrap64 (((rd_T73 l0_1 x19_2).f0) + (shl .i64 1 ((rd_T73 l0_1 x19_2).f1)))) l0_1 (l0_1.length : Int) (wrap64 (x19_2 + 1)) a0_0 l0_1)) else (impl_FramesOk.l0 kj11 (wrap64 (((rd_T73 l0_1 x19_2).f0) + (shl .i64 1 ((rd_T73 l0_1 x19_2).f1)))) l0_1 (l0_1.length : Int) (wrap64 (x19_2 + 1)) a0_0 l0_1)) else (impl_FramesOk.l0 kj11 (wrap64 (((rd_T73 l0_1 x19_2).f0) + (shl .i64 1 ((rd_T73 l0_1 x19_2).f1)))) l0_1 (l0_1.length : Int) (wrap64 (x19_2 + 1)) a0_0 l0_1)) else (none)) else (none)) else (impl_FramesOk.l0 kj11 (wrap64 (((rd_T73 l0_1 x19_2).f0) + (shl .i64 1 ((rd_T73 l0_1 x19_2).f1)))) l0_1 (l0_1.length : Int) (wrap64 (x19_2 + 1)) a0_0 l0_1)) else (none)) = some r := by rw [if_neg (show ¬ (false = true) by decide)] at H; exact H
       clear H
       have H := H1
       clear H1
       by_cases c28 : 0 ≤ ((rd_T73 l0_1 x19_2).f1)
       ·rw [if_pos c28] at H
        have c28b0 := eq_true c28
        have c28b1 : decide (0 ≤ ((rd_T73 l0_1 x19_2).f1)) = true := decide_eq_true c28
        clear c28
        obtain ⟨ji29, hji29⟩ : ∃ j_ : Int, (shl .i64 1 ((rd_T73 l0_1 x19_2).f1)) = j_ := ⟨_, rfl⟩
        replace H : (if x19_2 > 0 then (if 0 ≤ (wrap64 (x19_2 - 1)) then (if (wrap64 (x19_2 - 1)) < (l0_1.length : Int) then (if ((rd_T73 l0_1 (wrap64 (x19_2 - 1))).f1) = ((rd_T73 l0_1 x19_2).f1) then (if ((rd_T73 l0_1 x19_2).f1) < 10 then (if ((rd_T73 l0_1 (wrap64 (x19_2 - 1))).f0) = (wrap64 (((rd_T73 l0_1 x19_2).f0) - (ji29))) then (if (wrap64 (2 * (ji29))) = 0 then (none) else (if (Int.tmod ((rd_T73 l0_1 (wrap64 (x19_2 - 1))).f0) (wrap64 (2 * (ji29)))) = 0 then (some false) else (impl_FramesOk.l0 kj11 (wrap64 (((rd_T73 l0_1 x19_2).f0) + (ji29))) l0_1 (l0_1.length : Int) (wrap64 (x19_2 + 1)) a0_0 l0_1))) else (impl_FramesOk.l0 kj11 (wrap64 (((rd_T73 l0_1 x19_2).f0) + (ji29))) l0_1 (l0_1.length : Int) (wrap64 (x19_2 + 1)) a0_0 l0_1)) else (impl_FramesOk.l0 kj11 (wrap64 (((rd_T73 l0_1 x19_2).f0) + (ji29))) l0_1 (l0_1.length : Int) (wrap64 (x19_2 + 1)) a0_0 l0_1)) else (impl_FramesOk.l0 kj11 (wrap64 (((rd_T73 l0_1 x19_2).f0) + (ji29))) l0_1 (l0_1.length : Int) (wrap64 (x19_2 + 1)) a0_0 l0_1)) else (none)) else (none)) else (impl_FramesOk.l0 kj11 (wrap64 (((rd_T73 l0_1 x19_2).f0) + (ji29))) l0_1 (l0_1.length : Int) (wrap64 (x19_2 + 1)) a0_0 l0_1)) = some r := by first | (rw [hji29] at H; exact H) | (simp only [hji29] at H ⊢; exact H)
        have hji29_ : (IntKind.i64.wrap (1 * 2 ^ min ((rd_T73 l0_1 x19_2).f1).toNat 64)) = ji29 := hji29
        have hji29z : ((rd_T73 l0_1 x19_2).f1) ≤ 64 → (IntKind.i64.wrap (1 * 2 ^ ((rd_T73 l0_1 x19_2).f1).toNat)) = ji29 := shl_small hji29
        have hji29u : (IntKind.i64.wrap (2 ^ min ((rd_T73 l0_1 x19_2).f1).toNat 64)) = ji29 := by have h_ := hji29_; rw [Int.one_mul] at h_; exact h_
        have hji29v : ((rd_T73 l0_1 x19_2).f1) ≤ 64 → (IntKind.i64.wrap (2 ^ ((rd_T73 l0_1 x19_2).f1).toNat)) = ji29 := fun hle_ => by have h_ := hji29z hle_; rw [Int.one_mul] at h_; exact h_
        have hji29y : (wrap64 (1 * 2 ^ min ((rd_T73 l0_1 x19_2).f1).toNat 64)) = ji29 := (i64_w _).symm.trans hji29_
        have hji29x : ((rd_T73 l0_1 x19_2).f1) ≤ 64 → (wrap64 (1 * 2 ^ ((rd_T73 l0_1 x19_2).f1).toNat)) = ji29 := fun h_ => (i64_w _).symm.trans (hji29z h_)
        by_cases c30 : x19_2 > 0
        ·rw [if_pos c30] at H
         have c30b0 : decide (0 < x19_2) = true := decide_eq_true c30
         clear c30
         obtain ⟨ji31, hji31⟩ : ∃ j_ : Int, (wrap64 (x19_2 - 1)) = j_ := ⟨_, rfl⟩
         replace H : (if 0 ≤ (ji31) then (if (ji31) < (l0_1.length : Int) then (if ((rd_T73 l0_1 (ji31)).f1) = ((rd_T73 l0_1 x19_2).f1) then (if ((rd_T73 l0_1 x19_2).f1) < 10 then (if ((rd_T73 l0_1 (ji31)).f0) = (wrap64 (((rd_T73 l0_1 x19_2).f0) - (ji29))) then (if (wrap64 (2 * (ji29))) = 0 then (none) else (if (Int.tmod ((rd_T73 l0_1 (ji31)).f0) (wrap64 (2 * (ji29)))) = 0 then (some false) else (impl_FramesOk.l0 kj11 (wrap64 (((rd_T73 l0_1 x19_2).f0) + (ji29))) l0_1 (l0_1.length : Int) (wrap64 (x19_2 + 1)) a0_0 l0_1))) else (impl_FramesOk.l0 kj11 (wrap64 (((rd_T73 l0_1 x19_2).f0) + (ji29))) l0_1 (l0_1.length : Int) (wrap64 (x19_2 + 1)) a0_0 l0_1)) else (impl_FramesOk.l0 kj11 (wrap64 (((rd_T73 l0_1 x19_2).f0) + (ji29))) l0_1 (l0_1.length : Int) (wrap64 (x19_2 + 1)) a0_0 l0_1)) else (impl_FramesOk.l0 kj11 (wrap64 (((rd_T73 l0_1 x19_2).f0) + (ji29))) l0_1 (l0_1.length : Int) (wrap64 (x19_2 + 1)) a0_0 l0_1)) else (none)) else (none)) = some r := by first | (rw [hji31] at H; exact H) | (simp only [hji31] at H ⊢; exact H)
         have hji31w : (IntKind.i64.wrap (x19_2 - 1)) = ji31 := (i64_w _).trans hji31
         by_cases c32 : 0 ≤ (ji31)
         ·rw [if_pos c32] at H
          have c32b0 : decide (0 ≤ (ji31)) = true := decide_eq_true c32
          clear c32
          by_cases c33 : (ji31) < (l0_1.length : Int)
          ·rw [if_pos c33] at H
           have c33b0 : decide ((ji31) < (l0_1.length : Int)) = true := decide_eq_true c33
           clear c33
           by_cases c34 : ((rd_T73 l0_1 (ji31)).f1) = ((rd_T73 l0_1 x19_2).f1)
           ·rw [if_pos c34] at H
            have c34b0 : (((rd_T73 l0_1 (ji31)).f1) == ((rd_T73 l0_1 x19_2).f1)) = true := beq_iff_eq.mpr c34
            have c34b1 : (((rd_T73 l0_1 (ji31)).f1) != ((rd_T73 l0_1 x19_2).f1)) = false := bne_eq_false_iff_eq.mpr c34
            clear c34
            by_cases c35 : ((rd_T73 l0_1 x19_2).f1) < 10
            ·rw [if_pos c35] at H
             have c35b0 : decide (((rd_T73 l0_1 x19_2).f1) < 10) = true := decide_eq_true c35
             clear c35
             by_cases c36 : ((rd_T73 l0_1 (ji31)).f0) = (wrap64 (((rd_T73 l0_1 x19_2).f0) - (ji29)))
             ·rw [if_pos c36] at H
              have c36b0 : (((rd_T73 l0_1 (ji31)).f0) == (wrap64 (((rd_T73 l0_1 x19_2).f0) - (ji29)))) = true := beq_iff_eq.mpr c36
              have c36b1 : (((rd_T73 l0_1 (ji31)).f0) != (wrap64 (((rd_T73 l0_1 x19_2).f0) - (ji29)))) = false := bne_eq_false_iff_eq.mpr c36
              clear c36
              by_cases c37 : (wrap64 (2 * (ji29))) = 0
              ·rw [if_pos c37] at H
               exact absurd H (by simp)
              rw [if_neg c37] at H
              have c37b0 : ((wrap64 (2 * (ji29))) == 0) = false := beq_eq_false_iff_ne.mpr c37
              have c37b1 : ((wrap64 (2 * (ji29))) != 0) = true := bne_iff_ne.mpr c37
              by_cases c38 : (Int.tmod ((rd_T73 l0_1 (ji31)).f0) (wrap64 (2 * (ji29)))) = 0
              ·rw [if_pos c38] at H
               have c38b0 : ((Int.tmod ((rd_T73 l0_1 (ji31)).f0) (wrap64 (2 * (ji29)))) == 0) = true := beq_iff_eq.mpr c38
               have c38b1 : ((Int.tmod ((rd_T73 l0_1 (ji31)).f0) (wrap64 (2 * (ji29)))) != 0) = false := bne_eq_false_iff_eq.mpr c38
               clear c38
               obtain rfl := Option.some.inj H
               have hnb39 := NB113_111.out
               have hnc39 := NB111_113.out
               have hcz40_0 : wc.cell? ⟨gb113, 0, none⟩ = some (.int .i64 ((rd_T73 l0_1 x19_2).f0)) := (blk_cell BK113.out 0).trans rfl
               have hcz40_1 : wc.cell? ⟨gb113, 1, none⟩ = some (.int .i64 ((rd_T73 l0_1 x19_2).f1)) := (blk_cell BK113.out 1).trans rfl
               have hfz40_0 := blk_frozen BK113.out 0
               have hfz40_1 := blk_frozen BK113.out 1
               have hcz41_0 : wc.cell? ⟨gb111, 0, none⟩ = some (.int .i64 a0_0) := (blk_cell BK111.out 0).trans rfl
               have hcz41_1 : wc.cell? ⟨gb111, 1, none⟩ = some (.slice (some ad112) l0_1.length c0_1) := (blk_cell BK111.out 1).trans rfl
               have hfz41_0 := blk_frozen BK111.out 0
               have hfz41_1 := blk_frozen BK111.out 1
               have p115 : 0 ≤ ((ji31) : Int) := of_decide_eq_true Z3_10
               have q115 : (ji31) < (l0_1.length : Int) := of_decide_eq_true Z3_10
               obtain ⟨ad115, e115, hx115_0, hx115_1⟩ := at_T73 HR0_1.out (ji31) p115 q115
               obtain rfl : ad112 = ad115 := (by injection e115)
               replace hx115_0 := (HB.out.cell (World.block_lt_of_cell? w _ hx115_0)).trans hx115_0
               replace hx115_1 := (HB.out.cell (World.block_lt_of_cell? w _ hx115_1)).trans hx115_1
               replace p115 := eq_true p115
               replace q115 := eq_true q115
               go_wp2_with (first | ((with_reducible refine gate_dst (N := 7) rfl ?_); refine box_event ?hg (N := 7) ?hd (cs := #[.int .i64 0, .int .i64 0]) (t := 73) ?hr ?_; (case hd => rfl); (case hg => rfl); (case hr => exact Z3_20); intro gb116 hg w42 hbox hb; have n0_ := Aside0.mk (blk_below (g := gb111) (o := .cells #[.int .i64 a0_0, .slice (some ad112) l0_1.length c0_1] 50 (0, 0)) Z3_2 hb); have n1_ := Aside0.mk (blk_below (g := gb113) (o := .cells #[.int .i64 ((rd_T73 l0_1 x19_2).f0), .int .i64 ((rd_T73 l0_1 x19_2).f1)] 73 (0, 0)) Z3_3 hb); have n2_ := Aside0.mk (below_step Z3_1 hb); have n3_ := Aside0.mk (hbox); have n4_ := Aside0.mk ((Z3_22 : w.heap.size ≤ gb116)); have n5_ := Aside0.mk ((Z3_22 : w.heap.size ≤ gb116)); have n6_ := Aside0.mk ((Z3_11 : gb111 ≠ gb116)); have n7_ := Aside0.mk ((Z3_12 : gb116 ≠ gb111)); have n8_ := Aside0.mk ((Z3_14 : gb113 ≠ gb116)); have n9_ := Aside0.mk ((Z3_15 : gb116 ≠ gb113)); clear BK111; clear BK113; clear HB; have BK111 := n0_; have BK113 := n1_; have HB := n2_; have BK116 := n3_; have GW116 := n4_; have GE116 := n5_; have NB111_116 := n6_; have NB116_111 := n7_; have NB113_116 := n8_; have NB116_113 := n9_; clear n0_ n1_ n2_ n3_ n4_ n5_ n6_ n7_ n8_ n9_; clear hb hbox hg; have hnb43 := NB116_111.out; have hnc43 := NB111_116.out; have hnb44 := NB116_113.out; have hnc44 := NB113_116.out; have hcz45_0 : w42.cell? ⟨gb116, 0, none⟩ = some (.int .i64 0) := (blk_cell BK116.out 0).trans rfl; have hcz45_1 : w42.cell? ⟨gb116, 1, none⟩ = some (.int .i64 0) := (blk_cell BK116.out 1).trans rfl; have hfz45_0 := blk_frozen BK116.out 0; have hfz45_1 := blk_frozen BK116.out 1; have hcz46_0 : w42.cell? ⟨gb113, 0, none⟩ = some (.int .i64 ((rd_T73 l0_1 x19_2).f0)) := (blk_cell BK113.out 0).trans rfl; have hcz46_1 : w42.cell? ⟨gb113, 1, none⟩ = some (.int .i64 ((rd_T73 l0_1 x19_2).f1)) := (blk_cell BK113.out 1).trans rfl; have hfz46_0 := blk_frozen BK113.out 0; have hfz46_1 := blk_frozen BK113.out 1))
               go_ret
               exact ⟨by first | rfl | (simp [errW_none, errW_some] <;> rfl) | (simp only [← hji29, ← hji31]; first | rfl | (simp [errW_none, errW_some] <;> rfl)) | (simp [*, errW_none, errW_some] <;> rfl), Z3_9⟩
              rw [if_neg c38] at H
              have c38b0 : ((Int.tmod ((rd_T73 l0_1 (ji31)).f0) (wrap64 (2 * (ji29)))) == 0) = false := beq_eq_false_iff_ne.mpr c38
              have c38b1 : ((Int.tmod ((rd_T73 l0_1 (ji31)).f0) (wrap64 (2 * (ji29)))) != 0) = true := bne_iff_ne.mpr c38
              have H' := Aside0.mk H
              clear H
              have hnb47 := NB113_111.out
              have hnc47 := NB111_113.out
              have hcz48_0 : wc.cell? ⟨gb113, 0, none⟩ = some (.int .i64 ((rd_T73 l0_1 x19_2).f0)) := (blk_cell BK113.out 0).trans rfl
              have hcz48_1 : wc.cell? ⟨gb113, 1, none⟩ = some (.int .i64 ((rd_T73 l0_1 x19_2).f1)) := (blk_cell BK113.out 1).trans rfl
              have hfz48_0 := blk_frozen BK113.out 0
              have hfz48_1 := blk_frozen BK113.out 1
              have hcz49_0 : wc.cell? ⟨gb111, 0, none⟩ = some (.int .i64 a0_0) := (blk_cell BK111.out 0).trans rfl
              have hcz49_1 : wc.cell? ⟨gb111, 1, none⟩ = some (.slice (some ad112) l0_1.length c0_1) := (blk_cell BK111.out 1).trans rfl
              have hfz49_0 := blk_frozen BK111.out 0
              have hfz49_1 := blk_frozen BK111.out 1
              have p115 : 0 ≤ ((ji31) : Int) := of_decide_eq_true Z3_10
              have q115 : (ji31) < (l0_1.length : Int) := of_decide_eq_true Z3_10
              obtain ⟨ad115, e115, hx115_0, hx115_1⟩ := at_T73 HR0_1.out (ji31) p115 q115
              obtain rfl : ad112 = ad115 := (by injection e115)
              replace hx115_0 := (HB.out.cell (World.block_lt_of_cell? w _ hx115_0)).trans hx115_0
              replace hx115_1 := (HB.out.cell (World.block_lt_of_cell? w _ hx115_1)).trans hx115_1
              replace p115 := eq_true p115
              replace q115 := eq_true q115
              go_wp2_with (first | ((with_reducible refine gate_dst (N := 7) rfl ?_); refine box_event ?hg (N := 7) ?hd (cs := #[.int .i64 0, .int .i64 0]) (t := 73) ?hr ?_; (case hd => rfl); (case hg => rfl); (case hr => exact Z3_20); intro gb116 hg w50 hbox hb; have n0_ := Aside0.mk (blk_below (g := gb111) (o := .cells #[.int .i64 a0_0, .slice (some ad112) l0_1.length c0_1] 50 (0, 0)) Z3_2 hb); have n1_ := Aside0.mk (blk_below (g := gb113) (o := .cells #[.int .i64 ((rd_T73 l0_1 x19_2).f0), .int .i64 ((rd_T73 l0_1 x19_2).f1)] 73 (0, 0)) Z3_3 hb); have n2_ := Aside0.mk (below_step Z3_1 hb); have n3_ := Aside0.mk (hbox); have n4_ := Aside0.mk ((Z3_22 : w.heap.size ≤ gb116)); have n5_ := Aside0.mk ((Z3_22 : w.heap.size ≤ gb116)); have n6_ := Aside0.mk ((Z3_11 : gb111 ≠ gb116)); have n7_ := Aside0.mk ((Z3_12 : gb116 ≠ gb111)); have n8_ := Aside0.mk ((Z3_14 : gb113 ≠ gb116)); have n9_ := Aside0.mk ((Z3_15 : gb116 ≠ gb113)); clear BK111; clear BK113; clear HB; have BK111 := n0_; have BK113 := n1_; have HB := n2_; have BK116 := n3_; have GW116 := n4_; have GE116 := n5_; have NB111_116 := n6_; have NB116_111 := n7_; have NB113_116 := n8_; have NB116_113 := n9_; clear n0_ n1_ n2_ n3_ n4_ n5_ n6_ n7_ n8_ n9_; clear hb hbox hg; have hnb51 := NB116_111.out; have hnc51 := NB111_116.out; have hnb52 := NB116_113.out; have hnc52 := NB113_116.out; have hcz53_0 : w50.cell? ⟨gb116, 0, none⟩ = some (.int .i64 0) := (blk_cell BK116.out 0).trans rfl; have hcz53_1 : w50.cell? ⟨gb116, 1, none⟩ = some (.int .i64 0) := (blk_cell BK116.out 1).trans rfl; have hfz53_0 := blk_frozen BK116.out 0; have hfz53_1 := blk_frozen BK116.out 1; have hcz54_0 : w50.cell? ⟨gb113, 0, none⟩ = some (.int .i64 ((rd_T73 l0_1 x19_2).f0)) := (blk_cell BK113.out 0).trans rfl; have hcz54_1 : w50.cell? ⟨gb113, 1, none⟩ = some (.int .i64 ((rd_T73 l0_1 x19_2).f1)) := (blk_cell BK113.out 1).trans rfl; have hfz54_0 := blk_frozen BK113.out 0; have hfz54_1 := blk_frozen BK113.out 1))
              go_roundg kj11
              case measure => have := HJ1.out; have := HK2.out; have := HJ11.out; omega
              case rel => exact ⟨(wrap64 (((rd_T73 l0_1 x19_2).f0) + (ji29))), (wrap64 (x19_2 + 1)), Z3_19, Z3_4, H', ⟨Z3_23⟩, ⟨Z3_8⟩, ⟨Z3_9⟩⟩
             rw [if_neg c36] at H
             have c36b0 : (((rd_T73 l0_1 (ji31)).f0) == (wrap64 (((rd_T73 l0_1 x19_2).f0) - (ji29)))) = false := beq_eq_false_iff_ne.mpr c36
             have c36b1 : (((rd_T73 l0_1 (ji31)).f0) != (wrap64 (((rd_T73 l0_1 x19_2).f0) - (ji29)))) = true := bne_iff_ne.mpr c36
             have H' := Aside0.mk H
             clear H
             have hnb55 := NB113_111.out
             have hnc55 := NB111_113.out
             have hcz56_0 : wc.cell? ⟨gb113, 0, none⟩ = some (.int .i64 ((rd_T73 l0_1 x19_2).f0)) := (blk_cell BK113.out 0).trans rfl
             have hcz56_1 : wc.cell? ⟨gb113, 1, none⟩ = some (.int .i64 ((rd_T73 l0_1 x19_2).f1)) := (blk_cell BK113.out 1).trans rfl
             have hfz56_0 := blk_frozen BK113.out 0
             have hfz56_1 := blk_frozen BK113.out 1
             have hcz57_0 : wc.cell? ⟨gb111, 0, none⟩ = some (.int .i64 a0_0) := (blk_cell BK111.out 0).trans rfl
             have hcz57_1 : wc.cell? ⟨gb111, 1, none⟩ = some (.slice (some ad112) l0_1.length c0_1) := (blk_cell BK111.out 1).trans rfl
             have hfz57_0 := blk_frozen BK111.out 0
             have hfz57_1 := blk_frozen BK111.out 1
             have p115 : 0 ≤ ((ji31) : Int) := of_decide_eq_true Z3_10
             have q115 : (ji31) < (l0_1.length : Int) := of_decide_eq_true Z3_10
             obtain ⟨ad115, e115, hx115_0, hx115_1⟩ := at_T73 HR0_1.out (ji31) p115 q115
             obtain rfl : ad112 = ad115 := (by injection e115)
             replace hx115_0 := (HB.out.cell (World.block_lt_of_cell? w _ hx115_0)).trans hx115_0
             replace hx115_1 := (HB.out.cell (World.block_lt_of_cell? w _ hx115_1)).trans hx115_1
             replace p115 := eq_true p115
             replace q115 := eq_true q115
             go_wp2_with (first | ((with_reducible refine gate_dst (N := 7) rfl ?_); refine box_event ?hg (N := 7) ?hd (cs := #[.int .i64 0, .int .i64 0]) (t := 73) ?hr ?_; (case hd => rfl); (case hg => rfl); (case hr => exact Z3_20); intro gb116 hg w58 hbox hb; have n0_ := Aside0.mk (blk_below (g := gb111) (o := .cells #[.int .i64 a0_0, .slice (some ad112) l0_1.length c0_1] 50 (0, 0)) Z3_2 hb); have n1_ := Aside0.mk (blk_below (g := gb113) (o := .cells #[.int .i64 ((rd_T73 l0_1 x19_2).f0), .int .i64 ((rd_T73 l0_1 x19_2).f1)] 73 (0, 0)) Z3_3 hb); have n2_ := Aside0.mk (below_step Z3_1 hb); have n3_ := Aside0.mk (hbox); have n4_ := Aside0.mk ((Z3_22 : w.heap.size ≤ gb116)); have n5_ := Aside0.mk ((Z3_22 : w.heap.size ≤ gb116)); have n6_ := Aside0.mk ((Z3_11 : gb111 ≠ gb116)); have n7_ := Aside0.mk ((Z3_12 : gb116 ≠ gb111)); have n8_ := Aside0.mk ((Z3_14 : gb113 ≠ gb116)); have n9_ := Aside0.mk ((Z3_15 : gb116 ≠ gb113)); clear BK111; clear BK113; clear HB; have BK111 := n0_; have BK113 := n1_; have HB := n2_; have BK116 := n3_; have GW116 := n4_; have GE116 := n5_; have NB111_116 := n6_; have NB116_111 := n7_; have NB113_116 := n8_; have NB116_113 := n9_; clear n0_ n1_ n2_ n3_ n4_ n5_ n6_ n7_ n8_ n9_; clear hb hbox hg; have hnb59 := NB116_111.out; have hnc59 := NB111_116.out; have hnb60 := NB116_113.out; have hnc60 := NB113_116.out; have hcz61_0 : w58.cell? ⟨gb116, 0, none⟩ = some (.int .i64 0) := (blk_cell BK116.out 0).trans rfl; have hcz61_1 : w58.cell? ⟨gb116, 1, none⟩ = some (.int .i64 0) := (blk_cell BK116.out 1).trans rfl; have hfz61_0 := blk_frozen BK116.out 0; have hfz61_1 := blk_frozen BK116.out 1; have hcz62_0 : w58.cell? ⟨gb113, 0, none⟩ = some (.int .i64 ((rd_T73 l0_1 x19_2).f0)) := (blk_cell BK113.out 0).trans rfl; have hcz62_1 : w58.cell? ⟨gb113, 1, none⟩ = some (.int .i64 ((rd_T73 l0_1 x19_2).f1)) := (blk_cell BK113.out 1).trans rfl; have hfz62_0 := blk_frozen BK113.out 0; have hfz62_1 := blk_frozen BK113.out 1))
             go_roundg kj11
             case measure => have := HJ1.out; have := HK2.out; have := HJ11.out; omega
             case rel => exact ⟨(wrap64 (((rd_T73 l0_1 x19_2).f0) + (ji29))), (wrap64 (x19_2 + 1)), Z3_19, Z3_4, H', ⟨Z3_23⟩, ⟨Z3_8⟩, ⟨Z3_9⟩⟩
            rw [if_neg c35] at H
            have c35b0 : decide (((rd_T73 l0_1 x19_2).f1) < 10) = false := decide_eq_false c35
            clear c35
            have H' := Aside0.mk H
            clear H
            have hnb63 := NB113_111.out
            have hnc63 := NB111_113.out
            have hcz64_0 : wc.cell? ⟨gb113, 0, none⟩ = some (.int .i64 ((rd_T73 l0_1 x19_2).f0)) := (blk_cell BK113.out 0).trans rfl
            have hcz64_1 : wc.cell? ⟨gb113, 1, none⟩ = some (.int .i64 ((rd_T73 l0_1 x19_2).f1)) := (blk_cell BK113.out 1).trans rfl
            have hfz64_0 := blk_frozen BK113.out 0
            have hfz64_1 := blk_frozen BK113.out 1
            have hcz65_0 : wc.cell? ⟨gb111, 0, none⟩ = some (.int .i64 a0_0) := (blk_cell BK111.out 0).trans rfl
            have hcz65_1 : wc.cell? ⟨gb111, 1, none⟩ = some (.slice (some ad112) l0_1.length c0_1) := (blk_cell BK111.out 1).trans rfl
            have hfz65_0 := blk_frozen BK111.out 0
            have hfz65_1 := blk_frozen BK111.out 1
            have p115 : 0 ≤ ((ji31) : Int) := of_decide_eq_true Z3_10
            have q115 : (ji31) < (l0_1.length : Int) := of_decide_eq_true Z3_10
            obtain ⟨ad115, e115, hx115_0, hx115_1⟩ := at_T73 HR0_1.out (ji31) p115 q115
            obtain rfl : ad112 = ad115 := (by injection e115)
            replace hx115_0 := (HB.out.cell (World.block_lt_of_cell? w _ hx115_0)).trans hx115_0
            replace hx115_1 := (HB.out.cell (World.block_lt_of_cell? w _ hx115_1)).trans hx115_1
            replace p115 := eq_true p115
            replace q115 := eq_true q115
            go_wp2_with (first | ((with_reducible refine gate_dst (N := 7) rfl ?_); refine box_event ?hg (N := 7) ?hd (cs := #[.int .i64 0, .int .i64 0]) (t := 73) ?hr ?_; (case hd => rfl); (case hg => rfl); (case hr => exact Z3_20); intro gb116 hg w66 hbox hb; have n0_ := Aside0.mk (blk_below (g := gb111) (o := .cells #[.int .i64 a0_0, .slice (some ad112) l0_1.length c0_1] 50 (0, 0)) Z3_2 hb); have n1_ := Aside0.mk (blk_below (g := gb113) (o := .cells #[.int .i64 ((rd_T73 l0_1 x19_2).f0), .int .i64 ((rd_T73 l0_1 x19_2).f1)] 73 (0, 0)) Z3_3 hb); have n2_ := Aside0.mk (below_step Z3_1 hb); have n3_ := Aside0.mk (hbox); have n4_ := Aside0.mk ((Z3_22 : w.heap.size ≤ gb116)); have n5_ := Aside0.mk ((Z3_22 : w.heap.size ≤ gb116)); have n6_ := Aside0.mk ((Z3_11 : gb111 ≠ gb116)); have n7_ := Aside0.mk ((Z3_12 : gb116 ≠ gb111)); have n8_ := Aside0.mk ((Z3_14 : gb113 ≠ gb116)); have n9_ := Aside0.mk ((Z3_15 : gb116 ≠ gb113)); clear BK111; clear BK113; clear HB; have BK111 := n0_; have BK113 := n1_; have HB := n2_; have BK116 := n3_; have GW116 := n4_; have GE116 := n5_; have NB111_116 := n6_; have NB116_111 := n7_; have NB113_116 := n8_; have NB116_113 := n9_; clear n0_ n1_ n2_ n3_ n4_ n5_ n6_ n7_ n8_ n9_; clear hb hbox hg; have hnb67 := NB116_111.out; have hnc67 := NB111_116.out; have hnb68 := NB116_113.out; have hnc68 := NB113_116.out; have hcz69_0 : w66.cell? ⟨gb116, 0, none⟩ = some (.int .i64 0) := (blk_cell BK116.out 0).trans rfl; have hcz69_1 : w66.cell? ⟨gb116, 1, none⟩ = some (.int .i64 0) := (blk_cell BK116.out 1).trans rfl; have hfz69_0 := blk_frozen BK116.out 0; have hfz69_1 := blk_frozen BK116.out 1; have hcz70_0 : w66.cell? ⟨gb113, 0, none⟩ = some (.int .i64 ((rd_T73 l0_1 x19_2).f0)) := (blk_cell BK113.out 0).trans rfl; have hcz70_1 : w66.cell? ⟨gb113, 1, none⟩ = some (.int .i64 ((rd_T73 l0_1 x19_2).f1)) := (blk_cell BK113.out 1).trans rfl; have hfz70_0 := blk_frozen BK113.out 0; have hfz70_1 := blk_frozen BK113.out 1))
            go_roundg kj11
            case measure => have := HJ1.out; have := HK2.out; have := HJ11.out; omega
            case rel => exact ⟨(wrap64 (((rd_T73 l0_1 x19_2).f0) + (ji29))), (wrap64 (x19_2 + 1)), Z3_19, Z3_4, H', ⟨Z3_23⟩, ⟨Z3_8⟩, ⟨Z3_9⟩⟩
           rw [if_neg c34] at H
           have c34b0 : (((rd_T73 l0_1 (ji31)).f1) == ((rd_T73 l0_1 x19_2).f1)) = false := beq_eq_false_iff_ne.mpr c34
           have c34b1 : (((rd_T73 l0_1 (ji31)).f1) != ((rd_T73 l0_1 x19_2).f1)) = true := bne_iff_ne.mpr c34
           have H' := Aside0.mk H
           clear H
           have hnb71 := NB113_111.out
           have hnc71 := NB111_113.out
           have hcz72_0 : wc.cell? ⟨gb113, 0, none⟩ = some (.int .i64 ((rd_T73 l0_1 x19_2).f0)) := (blk_cell BK113.out 0).trans rfl
           have hcz72_1 : wc.cell? ⟨gb113, 1, none⟩ = some (.int .i64 ((rd_T73 l0_1 x19_2).f1)) := (blk_cell BK113.out 1).trans rfl
           have hfz72_0 := blk_frozen BK113.out 0
           have hfz72_1 := blk_frozen BK113.out 1
           have hcz73_0 : wc.cell? ⟨gb111, 0, none⟩ = some (.int .i64 a0_0) := (blk_cell BK111.out 0).trans rfl
           have hcz73_1 : wc.cell? ⟨gb111, 1, none⟩ = some (.slice (some ad112) l0_1.length c0_1) := (blk_cell BK111.out 1).trans rfl
           have hfz73_0 := blk_frozen BK111.out 0
           have hfz73_1 := blk_frozen BK111.out 1
           have p115 : 0 ≤ ((ji31) : Int) := of_decide_eq_true Z3_10
           have q115 : (ji31) < (l0_1.length : Int) := of_decide_eq_true Z3_10
           obtain ⟨ad115, e115, hx115_0, hx115_1⟩ := at_T73 HR0_1.out (ji31) p115 q115
           obtain rfl : ad112 = ad115 := (by injection e115)
           replace hx115_0 := (HB.out.cell (World.block_lt_of_cell? w _ hx115_0)).trans hx115_0
           replace hx115_1 := (HB.out.cell (World.block_lt_of_cell? w _ hx115_1)).trans hx115_1
           replace p115 := eq_true p115
           replace q115 := eq_true q115
           go_wp2_with (first | ((with_reducible refine gate_dst (N := 7) rfl ?_); refine box_event ?hg (N := 7) ?hd (cs := #[.int .i64 0, .int .i64 0]) (t := 73) ?hr ?_; (case hd => rfl); (case hg => rfl); (case hr => exact Z3_20); intro gb116 hg w74 hbox hb; have n0_ := Aside0.mk (blk_below (g := gb111) (o := .cells #[.int .i64 a0_0, .slice (some ad112) l0_1.length c0_1] 50 (0, 0)) Z3_2 hb); have n1_ := Aside0.mk (blk_below (g := gb113) (o := .cells #[.int .i64 ((rd_T73 l0_1 x19_2).f0), .int .i64 ((rd_T73 l0_1 x19_2).f1)] 73 (0, 0)) Z3_3 hb); have n2_ := Aside0.mk (below_step Z3_1 hb); have n3_ := Aside0.mk (hbox); have n4_ := Aside0.mk ((Z3_22 : w.heap.size ≤ gb116)); have n5_ := Aside0.mk ((Z3_22 : w.heap.size ≤ gb116)); have n6_ := Aside0.mk ((Z3_11 : gb111 ≠ gb116)); have n7_ := Aside0.mk ((Z3_12 : gb116 ≠ gb111)); have n8_ := Aside0.mk ((Z3_14 : gb113 ≠ gb116)); have n9_ := Aside0.mk ((Z3_15 : gb116 ≠ gb113)); clear BK111; clear BK113; clear HB; have BK111 := n0_; have BK113 := n1_; have HB := n2_; have BK116 := n3_; have GW116 := n4_; have GE116 := n5_; have NB111_116 := n6_; have NB116_111 := n7_; have NB113_116 := n8_; have NB116_113 := n9_; clear n0_ n1_ n2_ n3_ n4_ n5_ n6_ n7_ n8_ n9_; clear hb hbox hg; have hnb75 := NB116_111.out; have hnc75 := NB111_116.out; have hnb76 := NB116_113.out; have hnc76 := NB113_116.out; have hcz77_0 : w74.cell? ⟨gb116, 0, none⟩ = some (.int .i64 0) := (blk_cell BK116.out 0).trans rfl; have hcz77_1 : w74.cell? ⟨gb116, 1, none⟩ = some (.int .i64 0) := (blk_cell BK116.out 1).trans rfl; have hfz77_0 := blk_frozen BK116.out 0; have hfz77_1 := blk_frozen BK116.out 1; have hcz78_0 : w74.cell? ⟨gb113, 0, none⟩ = some (.int .i64 ((rd_T73 l0_1 x19_2).f0)) := (blk_cell BK113.out 0).trans rfl; have hcz78_1 : w74.cell? ⟨gb113, 1, none⟩ = some (.int .i64 ((rd_T73 l0_1 x19_2).f1)) := (blk_cell BK113.out 1).trans rfl; have hfz78_0 := blk_frozen BK113.out 0; have hfz78_1 := blk_frozen BK113.out 1))
           go_roundg kj11
           case measure => have := HJ1.out; have := HK2.out; have := HJ11.out; omega
           case rel => exact ⟨(wrap64 (((rd_T73 l0_1 x19_2).f0) + (ji29))), (wrap64 (x19_2 + 1)), Z3_19, Z3_4, H', ⟨Z3_23⟩, ⟨Z3_8⟩, ⟨Z3_9⟩⟩
          rw [if_neg c33] at H
          exact absurd H (by simp)
         rw [if_neg c32] at H
         exact absurd H (by simp)
        rw [if_neg c30] at H
        have c30b0 : decide (0 < x19_2) = false := decide_eq_false c30
        clear c30
        have H' := Aside0.mk H
        clear H
        have hnb79 := NB113_111.out
        have hnc79 := NB111_113.out
        have hcz80_0 : wc.cell? ⟨gb113, 0, none⟩ = some (.int .i64 ((rd_T73 l0_1 x19_2).f0)) := (blk_cell BK113.out 0).trans rfl
        have hcz80_1 : wc.cell? ⟨gb113, 1, none⟩ = some (.int .i64 ((rd_T73 l0_1 x19_2).f1)) := (blk_cell BK113.out 1).trans rfl
        have hfz80_0 := blk_frozen BK113.out 0
        have hfz80_1 := blk_frozen BK113.out 1
        go_wp2
        go_roundg kj11
        case measure => have := HJ1.out; have := HK2.out; have := HJ11.out; omega
        case rel => exact ⟨(wrap64 (((rd_T73 l0_1 x19_2).f0) + (ji29))), (wrap64 (x19_2 + 1)), Z3_19, Z3_4, H', ⟨Z3_23⟩, ⟨Z3_2⟩, ⟨Z3_1⟩⟩
       rw [if_neg c28] at H
       exact absurd H (by simp)
     rw [if_neg c11] at H
     exact absurd H (by simp)
    rw [if_neg c10] at H
    exact absurd H (by simp)
   rw [if_neg c9] at H
   have c9b0 : decide (x19_2 < (l0_1.length : Int)) = false := decide_eq_false c9
   clear c9
   obtain rfl := Option.some.inj H
   go_wp2
   go_ret
   exact ⟨Z3_18, Z3_5⟩
/-! ### impl_FramesLeft: function 35 -/
def impl_FramesLeft.l0 : Nat → Int → List (S73) → Int → Int → Option (Int)
 | 0, _, _, _, _ => none
 | k + 1, x3, x10, x11, x12 => if x12 < x11 then (if 0 ≤ x12 then (if x12 < (x10.length : Int) then (if 0 ≤ ((rd_T73 x10 x12).f1) then (impl_FramesLeft.l0 k (wrap64 (x3 + (shl .i64 1 ((rd_T73 x10 x12).f1)))) x10 x11 (wrap64 (x12 + 1))) else (none)) else (none)) else (none)) else (some x3)
def impl_FramesLeft.f (k : Nat) (a0_0 : Int) (l0_1 : List (S73)) : Option (Int) := (impl_FramesOk.f k a0_0 l0_1).bind fun t118 => (if t118 = true then (impl_FramesLeft.l0 k 0 l0_1 (l0_1.length : Int) 0) else (some 0))
theorem impl_FramesLeft.mono_l : ∀ k, (∀ y0 y1 y2 y3, LeO (impl_FramesLeft.l0 k y0 y1 y2 y3) (impl_FramesLeft.l0 (k + 1) y0 y1 y2 y3))
 | 0 => fun _ _ _ _ r h => by simp [impl_FramesLeft.l0] at h
 | k + 1 => by
  have ih0 := impl_FramesLeft.mono_l k
  ·intro y0 y1 y2 y3
   unfold impl_FramesLeft.l0
   repeat' first
   | (with_reducible exact ih0 _ _ _ _)
   | (with_reducible exact impl_FramesOk.mono _ _ _)
   | (with_reducible exact LeO.refl _)
   | (with_reducible exact LeO.none _)
   | (with_reducible refine LeO.ite ?_ ?_)
   | (with_reducible refine LeO.bind ?_ (fun _ => ?_))
   | exact ih0 _ _ _ _
   | exact impl_FramesOk.mono _ _ _
   | exact LeO.none _
   | refine LeO.ite ?_ ?_
   | refine LeO.bind ?_ (fun _ => ?_)
theorem impl_FramesLeft.mono : ∀ a0 a1 k, LeO (impl_FramesLeft.f k a0 a1) (impl_FramesLeft.f (k + 1) a0 a1) := by
 intro a0 a1 k
 have ih0 := impl_FramesLeft.mono_l k
 unfold impl_FramesLeft.f
 repeat' first
   | (with_reducible exact ih0 _ _ _ _)
   | (with_reducible exact impl_FramesOk.mono _ _ _)
   | (with_reducible exact LeO.refl _)
   | (with_reducible exact LeO.none _)
   | (with_reducible refine LeO.ite ?_ ?_)
   | (with_reducible refine LeO.bind ?_ (fun _ => ?_))
   | exact ih0 _ _ _ _
   | exact impl_FramesOk.mono _ _ _
   | exact LeO.none _
   | refine LeO.ite ?_ ?_
   | refine LeO.bind ?_ (fun _ => ?_)
set_option maxHeartbeats 8000000 in
set_option maxRecDepth 100000 in
theorem impl_FramesLeft.calls (k : Nat) (a0_0 : Int) (A0_1 : Option Addr) (c0_1 : Nat) (l0_1 : List (S73)) (r : Int) (w : World) (hr0_1 : Kd.C k73 w A0_1 l0_1.length l0_1) (hc0_1 : l0_1.length ≤ c0_1) (h : impl_FramesLeft.f k a0_0 l0_1 = some r) :
  Calls Try.prog 35 #[.agg #[.int .i64 a0_0, .slice A0_1 l0_1.length c0_1]] w fun e w' => e = .returned (.int .i64 r) ∧ Below w.heap.size w w' := by
 have hu50 := Try.underlying50
 have hu73 := Try.underlying73
 have HR0_1 := Aside0.mk hr0_1
 have HC0_1 := Aside0.mk hc0_1
 clear hr0_1 hc0_1
 have HB := Aside0.mk (Below.refl w.heap.size w)
 have H : ((impl_FramesOk.f k a0_0 l0_1).bind fun t118 => (if t118 = true then (impl_FramesLeft.l0 k 0 l0_1 (l0_1.length : Int) 0) else (some 0))) = some r := h
 clear h
 replace H := Option.bind_eq_some_iff.mp H
 obtain ⟨t118, A20, H⟩ := H
 replace H : (if t118 = true then (impl_FramesLeft.l0 k 0 l0_1 (l0_1.length : Int) 0) else (some 0)) = some r := H
 have A2 := Aside0.mk A20
 clear A20
 by_cases c3 : t118 = true
 ·subst c3
  have H1 : (impl_FramesLeft.l0 k 0 l0_1 (l0_1.length : Int) 0) = some r := by rw [if_pos rfl] at H; exact H
  clear H
  have H := H1
  clear H1
  have H' := Aside0.mk H
  clear H
  go_enter Try.func35, Try.ntmps35
  go_wp2_with (first | ((with_reducible refine gate_dst (N := 1) rfl ?_); refine box_event ?hg (N := 1) ?hd (cs := #[.int .i64 a0_0, .slice A0_1 l0_1.length c0_1]) (t := 50) ?hr ?_; (case hd => rfl); (case hg => rfl); (case hr => exact Z3_20); intro gb117 hg w4 hbox hb; have n0_ := Aside0.mk (below_step Z3_7 hb); have n1_ := Aside0.mk (hbox); have n2_ := Aside0.mk ((Z3_26 : w.heap.size ≤ gb117)); have n3_ := Aside0.mk ((Z3_26 : w.heap.size ≤ gb117)); clear HB; have HB := n0_; have BK117 := n1_; have GW117 := n2_; have GE117 := n3_; clear n0_ n1_ n2_ n3_; clear hb hbox hg; have hcz5_0 : w4.cell? ⟨gb117, 0, none⟩ = some (.int .i64 a0_0) := (blk_cell BK117.out 0).trans rfl; have hcz5_1 : w4.cell? ⟨gb117, 1, none⟩ = some (.slice A0_1 l0_1.length c0_1) := (blk_cell BK117.out 1).trans rfl; have hfz5_0 := blk_frozen BK117.out 0; have hfz5_1 := blk_frozen BK117.out 1) | ((with_reducible refine gate_callee (f := 32) rfl ?_); refine goesL_ (some 7) rfl rfl Try.func32 (by kernel_rfl) rfl #[.agg #[.int .i64 a0_0, .slice A0_1 l0_1.length c0_1]] rfl Z3_13 ?_; (with_reducible refine (impl_FramesOk.calls k a0_0 _ _ l0_1 true _ ?side1 ?side2 A2.out).mono ?_); (case side1 => exact Z3_25); (case side2 => exact HC0_1.out); rintro e w6 ⟨rfl, hb⟩; refine ⟨_, rfl, ?_⟩; have n0_ := Aside0.mk (blk_below (g := gb117) (o := .cells #[.int .i64 a0_0, .slice A0_1 l0_1.length c0_1] 50 (0, 0)) Z3_16 hb); have n1_ := Aside0.mk (below_step Z3_6 hb); clear BK117; clear HB; have BK117 := n0_; have HB := n1_; clear n0_ n1_; (try clear hb); (try clear hb2); (try clear hk); (try clear hi); have hcz7_0 : w6.cell? ⟨gb117, 0, none⟩ = some (.int .i64 a0_0) := (blk_cell BK117.out 0).trans rfl; have hcz7_1 : w6.cell? ⟨gb117, 1, none⟩ = some (.slice A0_1 l0_1.length c0_1) := (blk_cell BK117.out 1).trans rfl; have hfz7_0 := blk_frozen BK117.out 0; have hfz7_1 := blk_frozen BK117.out 1))
  go_loopg [3, 12] k (fun kq v3 v12 w' => ∃ (x3_1 : Int) (x12_1 : Int), v3 = .int .i64 x3_1 ∧ v12 = .int .i64 x12_1 ∧ Aside0 (impl_FramesLeft.l0 kq x3_1 l0_1 (l0_1.length : Int) x12_1 = some r) ∧ Aside0 (kq ≤ k) ∧ Aside0 (w'.heap[gb117]? = some (.cells #[.int .i64 a0_0, (.slice A0_1 l0_1.length c0_1)] 50 (0, 0))) ∧ Aside0 (Below w.heap.size w w'))
  case atStart => exact ⟨(0), (0), Z3_4, Z3_4, H', ⟨Nat.le_refl _⟩, ⟨Z3_16⟩, ⟨Z3_6⟩⟩
  clear H'
  try clear p2
  try clear c3
  try clear hcz5_0
  try clear hcz5_1
  try clear hcz7_0
  try clear hcz7_1
  try clear hfz5_0
  try clear hfz5_1
  try clear hfz7_0
  try clear hfz7_1
  obtain ⟨x3_1, x12_1, rfl, rfl, HA, HK1, BK117, HB⟩ := hrel
  cases gk with
  | zero => exact absurd HA.out (by simp [impl_FramesLeft.l0])
  | succ k1 =>
   have H := HA.out
   clear HA
   simp only [impl_FramesLeft.l0] at H
   by_cases c8 : x12_1 < (l0_1.length : Int)
   ·rw [if_pos c8] at H
    have c8b0 : decide (x12_1 < (l0_1.length : Int)) = true := decide_eq_true c8
    clear c8
    by_cases c9 : 0 ≤ x12_1
    ·rw [if_pos c9] at H
     have c9b0 : decide (0 ≤ x12_1) = true := decide_eq_true c9
     clear c9
     by_cases c10 : x12_1 < (l0_1.length : Int)
     ·rw [if_pos c10] at H
      have c10b0 : decide (x12_1 < (l0_1.length : Int)) = true := decide_eq_true c10
      clear c10
      by_cases c11 : 0 ≤ ((rd_T73 l0_1 x12_1).f1)
      ·rw [if_pos c11] at H
       have c11b0 := eq_true c11
       have c11b1 : decide (0 ≤ ((rd_T73 l0_1 x12_1).f1)) = true := decide_eq_true c11
       clear c11
       obtain ⟨ji12, hji12⟩ : ∃ j_ : Int, (shl .i64 1 ((rd_T73 l0_1 x12_1).f1)) = j_ := ⟨_, rfl⟩
       replace H : (impl_FramesLeft.l0 k1 (wrap64 (x3_1 + (ji12))) l0_1 (l0_1.length : Int) (wrap64 (x12_1 + 1))) = some r := by first | (rw [hji12] at H; exact H) | (simp only [hji12] at H ⊢; exact H)
       have hji12_ : (IntKind.i64.wrap (1 * 2 ^ min ((rd_T73 l0_1 x12_1).f1).toNat 64)) = ji12 := hji12
       have hji12z : ((rd_T73 l0_1 x12_1).f1) ≤ 64 → (IntKind.i64.wrap (1 * 2 ^ ((rd_T73 l0_1 x12_1).f1).toNat)) = ji12 := shl_small hji12
       have hji12u : (IntKind.i64.wrap (2 ^ min ((rd_T73 l0_1 x12_1).f1).toNat 64)) = ji12 := by have h_ := hji12_; rw [Int.one_mul] at h_; exact h_
       have hji12v : ((rd_T73 l0_1 x12_1).f1) ≤ 64 → (IntKind.i64.wrap (2 ^ ((rd_T73 l0_1 x12_1).f1).toNat)) = ji12 := fun hle_ => by have h_ := hji12z hle_; rw [Int.one_mul] at h_; exact h_
       have hji12y : (wrap64 (1 * 2 ^ min ((rd_T73 l0_1 x12_1).f1).toNat 64)) = ji12 := (i64_w _).symm.trans hji12_
       have hji12x : ((rd_T73 l0_1 x12_1).f1) ≤ 64 → (wrap64 (1 * 2 ^ ((rd_T73 l0_1 x12_1).f1).toNat)) = ji12 := fun h_ => (i64_w _).symm.trans (hji12z h_)
       have H' := Aside0.mk H
       clear H
       have p119 : 0 ≤ (x12_1 : Int) := of_decide_eq_true Z3_10
       have q119 : x12_1 < (l0_1.length : Int) := of_decide_eq_true Z3_10
       obtain ⟨ad119, e119, hx119_0, hx119_1⟩ := at_T73 HR0_1.out x12_1 p119 q119
       cases e119
       replace hx119_0 := (HB.out.cell (World.block_lt_of_cell? w _ hx119_0)).trans hx119_0
       replace hx119_1 := (HB.out.cell (World.block_lt_of_cell? w _ hx119_1)).trans hx119_1
       replace p119 := eq_true p119
       replace q119 := eq_true q119
       go_wp2_with (first | ((with_reducible refine gate_dst (N := 5) rfl ?_); refine box_event ?hg (N := 5) ?hd (cs := #[.int .i64 0, .int .i64 0]) (t := 73) ?hr ?_; (case hd => rfl); (case hg => rfl); (case hr => exact Z3_20); intro gb120 hg w13 hbox hb; have n0_ := Aside0.mk (blk_below (g := gb117) (o := .cells #[.int .i64 a0_0, .slice (some ad119) l0_1.length c0_1] 50 (0, 0)) Z3_16 hb); have n1_ := Aside0.mk (below_step Z3_6 hb); have n2_ := Aside0.mk (hbox); have n3_ := Aside0.mk ((by rw [hg]; exact (below_size Z3_6) : w.heap.size ≤ gb120)); have n4_ := Aside0.mk ((by rw [hg]; exact (below_size Z3_6) : w.heap.size ≤ gb120)); have n5_ := Aside0.mk ((by rw [hg]; exact Nat.ne_of_lt (blk_lt (g := gb117) (o := .cells #[.int .i64 a0_0, .slice (some ad119) l0_1.length c0_1] 50 (0, 0)) Z3_16) : gb117 ≠ gb120)); have n6_ := Aside0.mk ((by rw [hg]; exact Nat.ne_of_gt (blk_lt (g := gb117) (o := .cells #[.int .i64 a0_0, .slice (some ad119) l0_1.length c0_1] 50 (0, 0)) Z3_16) : gb120 ≠ gb117)); clear BK117; clear HB; have BK117 := n0_; have HB := n1_; have BK120 := n2_; have GW120 := n3_; have GE120 := n4_; have NB117_120 := n5_; have NB120_117 := n6_; clear n0_ n1_ n2_ n3_ n4_ n5_ n6_; clear hb hbox hg; have hnb14 := NB120_117.out; have hnc14 := NB117_120.out; have hcz15_0 : w13.cell? ⟨gb120, 0, none⟩ = some (.int .i64 0) := (blk_cell BK120.out 0).trans rfl; have hcz15_1 : w13.cell? ⟨gb120, 1, none⟩ = some (.int .i64 0) := (blk_cell BK120.out 1).trans rfl; have hfz15_0 := blk_frozen BK120.out 0; have hfz15_1 := blk_frozen BK120.out 1))
       go_roundg k1
       case measure => have := HK1.out; omega
       case rel => exact ⟨(wrap64 (x3_1 + (ji12))), (wrap64 (x12_1 + 1)), (by first | rfl | (simp; done) | (simp only [← hji12] <;> (first | rfl | simp)) | (simp [*]; done)), Z3_4, H', ⟨by have := HK1.out; omega⟩, ⟨by (with_reducible repeat (first | apply blk_drewN | apply blk_drew | apply blk_alloc)); refine blk_far ?_ NB117_120.out _; (with_reducible repeat (first | apply blk_drewN | apply blk_drew | apply blk_alloc)); refine blk_far ?_ NB117_120.out _; (with_reducible repeat (first | apply blk_drewN | apply blk_drew | apply blk_alloc)); exact BK117.out⟩, ⟨by repeat (first | (with_reducible first | exact HB.out | apply below_alloc | apply pw_below_drewN | apply below_drew1 | refine below_set ?_ GE117.out | refine below_set ?_ GE120.out) | exact HB.out)⟩⟩
      rw [if_neg c11] at H
      exact absurd H (by simp)
     rw [if_neg c10] at H
     exact absurd H (by simp)
    rw [if_neg c9] at H
    exact absurd H (by simp)
   rw [if_neg c8] at H
   have c8b0 : decide (x12_1 < (l0_1.length : Int)) = false := decide_eq_false c8
   clear c8
   obtain rfl := Option.some.inj H
   go_wp2
   go_ret
   exact ⟨Z3_18, Z3_6⟩
 replace c3 := Bool.eq_false_iff.mpr c3
 subst c3
 have H1 : (some 0) = some r := by rw [if_neg (show ¬ (false = true) by decide)] at H; exact H
 clear H
 have H := H1
 clear H1
 obtain rfl := Option.some.inj H
 go_enter Try.func35, Try.ntmps35
 go_wp2_with (first | ((with_reducible refine gate_dst (N := 1) rfl ?_); refine box_event ?hg (N := 1) ?hd (cs := #[.int .i64 a0_0, .slice A0_1 l0_1.length c0_1]) (t := 50) ?hr ?_; (case hd => rfl); (case hg => rfl); (case hr => exact Z3_20); intro gb117 hg w16 hbox hb; have n0_ := Aside0.mk (below_step Z3_7 hb); have n1_ := Aside0.mk (hbox); have n2_ := Aside0.mk ((Z3_26 : w.heap.size ≤ gb117)); have n3_ := Aside0.mk ((Z3_26 : w.heap.size ≤ gb117)); clear HB; have HB := n0_; have BK117 := n1_; have GW117 := n2_; have GE117 := n3_; clear n0_ n1_ n2_ n3_; clear hb hbox hg; have hcz17_0 : w16.cell? ⟨gb117, 0, none⟩ = some (.int .i64 a0_0) := (blk_cell BK117.out 0).trans rfl; have hcz17_1 : w16.cell? ⟨gb117, 1, none⟩ = some (.slice A0_1 l0_1.length c0_1) := (blk_cell BK117.out 1).trans rfl; have hfz17_0 := blk_frozen BK117.out 0; have hfz17_1 := blk_frozen BK117.out 1) | ((with_reducible refine gate_callee (f := 32) rfl ?_); refine goesL_ (some 7) rfl rfl Try.func32 (by kernel_rfl) rfl #[.agg #[.int .i64 a0_0, .slice A0_1 l0_1.length c0_1]] rfl Z3_13 ?_; (with_reducible refine (impl_FramesOk.calls k a0_0 _ _ l0_1 false _ ?side1 ?side2 A2.out).mono ?_); (case side1 => exact Z3_25); (case side2 => exact HC0_1.out); rintro e w18 ⟨rfl, hb⟩; refine ⟨_, rfl, ?_⟩; have n0_ := Aside0.mk (blk_below (g := gb117) (o := .cells #[.int .i64 a0_0, .slice A0_1 l0_1.length c0_1] 50 (0, 0)) Z3_16 hb); have n1_ := Aside0.mk (below_step Z3_6 hb); clear BK117; clear HB; have BK117 := n0_; have HB := n1_; clear n0_ n1_; (try clear hb); (try clear hb2); (try clear hk); (try clear hi)))
 go_ret
 exact ⟨Z3_18, Z3_6⟩
/-! ### slices_Index_bool_bool: function 108 -/
def slices_Index_bool_bool.l0 : Nat → List Bool → Bool → Int → Int → Option (Int)
 | 0, _, _, _, _ => none
 | k + 1, x0, x1, x7, x8 => if x8 < x7 then (if 0 ≤ x8 then (if x8 < (x0.length : Int) then (if (x1 == (rdOf false x0 x8)) = true then (some x8) else (slices_Index_bool_bool.l0 k x0 x1 x7 (wrap64 (x8 + 1)))) else (none)) else (none)) else (some (-1))
def slices_Index_bool_bool.f (k : Nat) (l0 : List Bool) (a1 : Bool) : Option (Int) := slices_Index_bool_bool.l0 k l0 a1 (l0.length : Int) 0
theorem slices_Index_bool_bool.mono_l : ∀ k, (∀ y0 y1 y2 y3, LeO (slices_Index_bool_bool.l0 k y0 y1 y2 y3) (slices_Index_bool_bool.l0 (k + 1) y0 y1 y2 y3))
 | 0 => fun _ _ _ _ r h => by simp [slices_Index_bool_bool.l0] at h
 | k + 1 => by
  have ih0 := slices_Index_bool_bool.mono_l k
  ·intro y0 y1 y2 y3
   unfold slices_Index_bool_bool.l0
   repeat' first
   | (with_reducible exact ih0 _ _ _ _)
   | (with_reducible exact LeO.refl _)
   | (with_reducible exact LeO.none _)
   | (with_reducible refine LeO.ite ?_ ?_)
   | (with_reducible refine LeO.bind ?_ (fun _ => ?_))
   | exact ih0 _ _ _ _
   | exact LeO.none _
   | refine LeO.ite ?_ ?_
   | refine LeO.bind ?_ (fun _ => ?_)
theorem slices_Index_bool_bool.mono : ∀ a0 a1 k, LeO (slices_Index_bool_bool.f k a0 a1) (slices_Index_bool_bool.f (k + 1) a0 a1) := by
 intro a0 a1 k
 have ih0 := slices_Index_bool_bool.mono_l k
 unfold slices_Index_bool_bool.f
 repeat' first
   | (with_reducible exact ih0 _ _ _ _)
   | (with_reducible exact LeO.refl _)
   | (with_reducible exact LeO.none _)
   | (with_reducible refine LeO.ite ?_ ?_)
   | (with_reducible refine LeO.bind ?_ (fun _ => ?_))
   | exact ih0 _ _ _ _
   | exact LeO.none _
   | refine LeO.ite ?_ ?_
   | refine LeO.bind ?_ (fun _ => ?_)
set_option maxHeartbeats 8000000 in
set_option maxRecDepth 100000 in
theorem slices_Index_bool_bool.calls (k : Nat) (A0 : Option Addr) (c0 : Nat) (l0 : List Bool) (a1 : Bool) (r : Int) (w : World) (hr0 : Kd.C Kd.bool w A0 l0.length l0) (hc0 : l0.length ≤ c0) (h : slices_Index_bool_bool.f k l0 a1 = some r) :
  Calls Try.prog 108 #[.slice A0 l0.length c0, .bool a1] w fun e w' => e = .returned (.int .i64 r) ∧ Drawn0 w w' := by
 have HR0 := Aside0.mk hr0
 have HC0 := Aside0.mk hc0
 clear hr0 hc0
 have H : (slices_Index_bool_bool.l0 k l0 a1 (l0.length : Int) 0) = some r := h
 clear h
 have H' := Aside0.mk H
 clear H
 go_enter Try.func108, Try.ntmps108
 go_wp2
 go_loopg [8] k (fun kq v8 w' => ∃ (x8_1 : Int), v8 = .int .i64 x8_1 ∧ Aside0 (slices_Index_bool_bool.l0 kq l0 a1 (l0.length : Int) x8_1 = some r) ∧ Aside0 (kq ≤ k) ∧ Drawn0 w w')
 case atStart => exact ⟨(0), Z3_4, H', ⟨Nat.le_refl _⟩, Z3_24⟩
 clear H'
 try clear c1
 try clear p2
 obtain ⟨x8_1, rfl, HA, HK1, ⟨m1, rfl⟩⟩ := hrel
 cases gk with
 | zero => exact absurd HA.out (by simp [slices_Index_bool_bool.l0])
 | succ k1 =>
  have H := HA.out
  clear HA
  simp only [slices_Index_bool_bool.l0] at H
  by_cases c3 : x8_1 < (l0.length : Int)
  ·rw [if_pos c3] at H
   have c3b0 : decide (x8_1 < (l0.length : Int)) = true := decide_eq_true c3
   clear c3
   by_cases c4 : 0 ≤ x8_1
   ·rw [if_pos c4] at H
    have c4b0 : decide (0 ≤ x8_1) = true := decide_eq_true c4
    clear c4
    by_cases c5 : x8_1 < (l0.length : Int)
    ·rw [if_pos c5] at H
     have c5b0 : decide (x8_1 < (l0.length : Int)) = true := decide_eq_true c5
     clear c5
     by_cases c6 : (a1 == (rdOf false l0 x8_1)) = true
     ·rw [if_pos c6] at H
      have c6b0 : (a1 == (rdOf false l0 x8_1)) = true := c6
      (try (have c6b1 : decide (a1 = (rdOf false l0 x8_1)) = true := by simpa using c6))
      (try (have c6b2 : (a1 == (rdOf false l0 x8_1)) = true := by simpa using c6))
      clear c6
      obtain rfl := Option.some.inj H
      have p121 : 0 ≤ (x8_1 : Int) := of_decide_eq_true Z3_10
      have q121 : x8_1 < (l0.length : Int) := of_decide_eq_true Z3_10
      obtain ⟨ad121, e121, hx121_0⟩ := Kd.at_bool HR0.out x8_1 p121 q121
      cases e121
      replace p121 := eq_true p121
      replace q121 := eq_true q121
      go_wp2
      go_ret
      exact ⟨Z3_4, Z3_24⟩
     rw [if_neg c6] at H
     have c6b0 : (a1 == (rdOf false l0 x8_1)) = false := by simpa using c6
     (try (have c6b1 : decide (a1 = (rdOf false l0 x8_1)) = false := by simpa using c6))
     (try (have c6b2 : (a1 == (rdOf false l0 x8_1)) = false := by simpa using c6))
     (try (have c6b3 : ¬ (a1 = (rdOf false l0 x8_1)) := by simpa using c6))
     clear c6
     have H' := Aside0.mk H
     clear H
     have p121 : 0 ≤ (x8_1 : Int) := of_decide_eq_true Z3_10
     have q121 : x8_1 < (l0.length : Int) := of_decide_eq_true Z3_10
     obtain ⟨ad121, e121, hx121_0⟩ := Kd.at_bool HR0.out x8_1 p121 q121
     cases e121
     replace p121 := eq_true p121
     replace q121 := eq_true q121
     go_wp2
     go_roundg k1
     case measure => have := HK1.out; omega
     case rel => exact ⟨(wrap64 (x8_1 + 1)), Z3_4, H', ⟨by have := HK1.out; omega⟩, Z3_24⟩
    rw [if_neg c5] at H
    exact absurd H (by simp)
   rw [if_neg c4] at H
   exact absurd H (by simp)
  rw [if_neg c3] at H
  have c3b0 : decide (x8_1 < (l0.length : Int)) = false := decide_eq_false c3
  clear c3
  obtain rfl := Option.some.inj H
  go_wp2
  go_ret
  exact ⟨Z3_4, Z3_24⟩
/-! ### slices_Contains_bool_bool: function 105 -/
def slices_Contains_bool_bool.f (k : Nat) (l0 : List Bool) (a1 : Bool) : Option (Bool) := (slices_Index_bool_bool.f k l0 a1).bind fun t122 => (some (decide (t122 ≥ 0)))
theorem slices_Contains_bool_bool.mono : ∀ a0 a1 k, LeO (slices_Contains_bool_bool.f k a0 a1) (slices_Contains_bool_bool.f (k + 1) a0 a1) := by
 intro a0 a1 k
 unfold slices_Contains_bool_bool.f
 repeat' first
   | (with_reducible exact slices_Index_bool_bool.mono _ _ _)
   | (with_reducible exact LeO.refl _)
   | (with_reducible exact LeO.none _)
   | (with_reducible refine LeO.ite ?_ ?_)
   | (with_reducible refine LeO.bind ?_ (fun _ => ?_))
   | exact slices_Index_bool_bool.mono _ _ _
   | exact LeO.none _
   | refine LeO.ite ?_ ?_
   | refine LeO.bind ?_ (fun _ => ?_)
set_option maxHeartbeats 8000000 in
set_option maxRecDepth 100000 in
theorem slices_Contains_bool_bool.calls (k : Nat) (A0 : Option Addr) (c0 : Nat) (l0 : List Bool) (a1 : Bool) (r : Bool) (w : World) (hr0 : Kd.C Kd.bool w A0 l0.length l0) (hc0 : l0.length ≤ c0) (h : slices_Contains_bool_bool.f k l0 a1 = some r) :
  Calls Try.prog 105 #[.slice A0 l0.length c0, .bool a1] w fun e w' => e = .returned (.bool r) ∧ Drawn0 w w' := by
 have HR0 := Aside0.mk hr0
 have HC0 := Aside0.mk hc0
 clear hr0 hc0
 have H : ((slices_Index_bool_bool.f k l0 a1).bind fun t122 => (some (decide (t122 ≥ 0)))) = some r := h
 clear h
 replace H := Option.bind_eq_some_iff.mp H
 obtain ⟨t122, A30, H⟩ := H
 replace H : (some (decide (t122 ≥ 0))) = some r := H
 have A3 := Aside0.mk A30
 clear A30
 obtain rfl := Option.some.inj H
 go_enter Try.func105, Try.ntmps105
 go_wp2_with (first | ((with_reducible refine gate_callee (f := 108) rfl ?_); refine goesL_ (some 7) rfl rfl Try.func108 (by kernel_rfl) rfl #[.slice A0 l0.length c0, .bool a1] rfl Z3_13 ?_; (with_reducible refine (slices_Index_bool_bool.calls k _ _ l0 a1 t122 _ ?side1 ?side2 A3.out).mono ?_); (case side1 => repeat (first | exact HR0.out | (with_reducible refine Kd.C_alloc ?_ _) | (with_reducible refine Kd.C_drewN ?_ _) | (with_reducible refine Kd.C_drew ?_))); (case side2 => exact HC0.out); rintro e w' ⟨rfl, ⟨nd, rfl⟩⟩; refine ⟨_, rfl, ?_⟩))
 go_ret
 exact ⟨Z3_4, Z3_24⟩
end Go.Proofs.Ytmjdmaomakkhgaa.PFnFramesKept
