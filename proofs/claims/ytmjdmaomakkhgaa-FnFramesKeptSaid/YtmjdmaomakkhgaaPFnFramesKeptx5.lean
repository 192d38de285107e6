-- Written by a program of this session out of the translation. Not trusted: Lean checks it.
import Derived.Test.YtmjdmaomakkhgaaPFnFramesKeptx0
import Derived.Test.YtmjdmaomakkhgaaPFnFramesKeptx2
import Derived.Test.YtmjdmaomakkhgaaPFnFramesKeptx3
import Derived.Test.YtmjdmaomakkhgaaPFnFramesKeptx4
namespace Go.Proofs.Ytmjdmaomakkhgaa.PFnFramesKept
open Go.RowKit Go.Proofs.YtmjdmaomakkhgaaW.PrintWords Go.Proofs.YtmjdmaomakkhgaaW.PrintLast Go.Proofs.YtmjdmaomakkhgaaW.PrintMore
attribute [local go_sem] max2_int min2_int max_two min_two max_three min_three max_four min_four   -- for this text's walks alone
set_option linter.unusedVariables false
set_option linter.unusedSimpArgs false
theorem Z5_20 {P : Prop} (h : P := by have := HK1.out; have := HK2.out; omega) : P := h
theorem Z5_19 {P : Prop} (h : P := by first | (go_simp; done) | (go_simp; rfl)) : P := h
theorem Z5_18 {P : Prop} (h : P := by (with_reducible repeat (first | apply Kd.R_alloc | apply Kd.R_drewN | apply Kd.R_drew)); exact HO_8.out) : P := h
theorem Z5_17 {P : Prop} (h : P := by repeat (first | exact Drawn0.refl _ | apply Drawn0.step)) : P := h
theorem Z5_16 {P : Prop} (h : P := by repeat (first | (with_reducible first | exact HB.out | apply below_alloc | apply pw_below_drewN | apply below_drew1 | refine below_set ?_ GE144.out) | exact HB.out)) : P := h
theorem Z5_15 {P : Prop} (h : P := by (with_reducible repeat (first | apply blk_drewN | apply blk_drew | apply blk_alloc)); refine blk_far ?_ NB162_166.out _; (with_reducible repeat (first | apply blk_drewN | apply blk_drew | apply blk_alloc)); exact BK162.out) : P := h
theorem Z5_14 {P : Prop} (h : P := by repeat (first | exact (Kd.C_below HR0_1.out HB.out) | (with_reducible refine Kd.C_alloc ?_ _) | (with_reducible refine Kd.C_drewN ?_ _) | (with_reducible refine Kd.C_drew ?_))) : P := h
theorem Z5_13 {P : Prop} (h : P := by (with_reducible repeat (first | apply blk_drewN | apply blk_drew | apply blk_alloc)); refine blk_put (cs := #[.int .i64 (l0.length : Int), u167001]) ?_ 1 _ rfl; (with_reducible repeat (first | apply blk_drewN | apply blk_drew | apply blk_alloc)); exact BK166.out) : P := h
theorem Z5_12 {P : Prop} (h : P := by first | (with_reducible assumption) | assumption) : P := h
theorem Z5_11 {P : Prop} (h : P := by repeat (first | (with_reducible first | exact HB.out | apply below_alloc | apply pw_below_drewN | apply below_drew1 | refine below_set ?_ GE162.out) | exact HB.out)) : P := h
theorem Z5_10 {P : Prop} (h : P := by repeat (first | (with_reducible first | exact HB.out | apply below_alloc | apply pw_below_drewN | apply below_drew1) | exact HB.out)) : P := h
theorem Z5_9 {P : Prop} (h : P := by (with_reducible repeat (first | apply blk_drewN | apply blk_drew | apply blk_alloc)); exact BK166.out) : P := h
theorem Z5_8 {P : Prop} (h : P := by (with_reducible repeat (first | apply Kd.R_alloc | apply Kd.R_drewN | apply Kd.R_drew)); exact HO_167001.out) : P := h
theorem Z5_7 {P : Prop} (h : P := by (with_reducible repeat (first | apply blk_drewN | apply blk_drew | apply blk_alloc)); exact BK145.out) : P := h
theorem Z5_6 {P : Prop} (h : P := by (try simp only [List.map_toArray, List.map_cons, List.map_nil]); first | done | rfl | (simp only [List.length_drop, List.length_take]; first | done | rfl)) : P := h
theorem Z5_5 {P : Prop} (h : P := by first | rfl | exact congrArg (Value.int .i64) (i64_w _) | (simp; done) | (simp [*]; done)) : P := h
theorem Z5_4 {P : Prop} (h : P := by (with_reducible repeat (first | apply blk_drewN | apply blk_drew | apply blk_alloc)); exact BK162.out) : P := h
theorem Z5_3 {P : Prop} (h : P := by (with_reducible repeat (first | apply blk_drewN | apply blk_drew | apply blk_alloc)); exact BK144.out) : P := h
theorem Z5_2 {P : Prop} (h : P := by repeat (first | (with_reducible first | exact HB.out | apply below_alloc | apply pw_below_drewN | apply below_drew1 | refine below_set ?_ GE144.out | refine below_set ?_ GE145.out) | exact HB.out)) : P := h
theorem Z5_1 {P : Prop} (h : P := by repeat (first | (with_reducible first | exact HB.out | apply below_alloc | apply pw_below_drewN | apply below_drew1 | refine below_set ?_ GE162.out | refine below_set ?_ GE166.out) | exact HB.out)) : P := h

/-! ### impl_FramesGive: function 43 -/
mutual
def impl_FramesGive.j0 : Nat → Int → Int → Bool → Int → List (S73) → Option (Int × (List (S73)) × Bool)
 | 0, _, _, _, _, _ => none
 | k + 1, x1, x2, x21, x145000, x145001 => if x21 = true then (some (0, ([] : List (S73)), false)) else ((impl_freeMap.f k x145000 x145001).bind fun t148 => (if 0 ≤ x2 then (impl_FramesGive.l0 k x1 t148 (shl .i64 1 x2) 0 x145000 x145001) else (none)))
def impl_FramesGive.l0 : Nat → Int → List Bool → Int → Int → Int → List (S73) → Option (Int × (List (S73)) × Bool)
 | 0, _, _, _, _, _, _ => none
 | k + 1, x1, x8, x26, x27, x145000, x145001 => if x27 < x26 then (if 0 ≤ (wrap64 (x1 + x27)) then (if (wrap64 (x1 + x27)) < (x8.length : Int) then (if rdOf false x8 (wrap64 (x1 + x27)) = true then ((impl_copyFrames.f x145000 x145001).bind fun bt152 => (some (bt152.1, bt152.2, false))) else (impl_FramesGive.l0 k x1 (x8.set ((wrap64 (x1 + x27)) : Int).toNat true) x26 (wrap64 (x27 + 1)) x145000 x145001)) else (none)) else (none)) else ((impl_framesOf.f x8).bind fun bt157 => (some (bt157.1, bt157.2, true)))
end
def impl_FramesGive.f (k : Nat) (a0_0 : Int) (l0_1 : List (S73)) (a1 : Int) (a2 : Int) : Option (Int × (List (S73)) × Bool) := (impl_FramesOk.f k a0_0 l0_1).bind fun t146 => (if t146 = true then ((impl_blockOk.f a0_0 a1 a2).bind fun t147 => (impl_FramesGive.j0 k a1 a2 (!t147) a0_0 l0_1)) else (impl_FramesGive.j0 k a1 a2 true a0_0 l0_1))
theorem impl_FramesGive.mono_l : ∀ k, (∀ y0 y1 y2 y3 y4, LeO (impl_FramesGive.j0 k y0 y1 y2 y3 y4) (impl_FramesGive.j0 (k + 1) y0 y1 y2 y3 y4)) ∧ (∀ y0 y1 y2 y3 y4 y5, LeO (impl_FramesGive.l0 k y0 y1 y2 y3 y4 y5) (impl_FramesGive.l0 (k + 1) y0 y1 y2 y3 y4 y5))
 | 0 => ⟨fun _ _ _ _ _ r h => by simp [impl_FramesGive.j0] at h, fun _ _ _ _ _ _ r h => by simp [impl_FramesGive.l0] at h⟩
 | k + 1 => by
  obtain ⟨ih0, ih1⟩ := impl_FramesGive.mono_l k
  refine ⟨?_, ?_⟩
  ·intro y0 y1 y2 y3 y4
   unfold impl_FramesGive.j0
   repeat' first
   | (with_reducible exact ih0 _ _ _ _ _)
   | (with_reducible exact ih1 _ _ _ _ _ _)
   | (with_reducible exact impl_FramesOk.mono _ _ _)
   | (with_reducible exact impl_freeMap.mono _ _ _)
   | (with_reducible exact LeO.refl _)
   | (with_reducible exact LeO.none _)
   | (with_reducible refine LeO.ite ?_ ?_)
   | (with_reducible refine LeO.bind ?_ (fun _ => ?_))
   | exact ih0 _ _ _ _ _
   | exact ih1 _ _ _ _ _ _
   | exact impl_FramesOk.mono _ _ _
   | exact impl_freeMap.mono _ _ _
   | exact LeO.none _
   | refine LeO.ite ?_ ?_
   | refine LeO.bind ?_ (fun _ => ?_)
  ·intro y0 y1 y2 y3 y4 y5
   unfold impl_FramesGive.l0
   repeat' first
   | (with_reducible exact ih0 _ _ _ _ _)
   | (with_reducible exact ih1 _ _ _ _ _ _)
   | (with_reducible exact impl_FramesOk.mono _ _ _)
   | (with_reducible exact impl_freeMap.mono _ _ _)
   | (with_reducible exact LeO.refl _)
   | (with_reducible exact LeO.none _)
   | (with_reducible refine LeO.ite ?_ ?_)
   | (with_reducible refine LeO.bind ?_ (fun _ => ?_))
   | exact ih0 _ _ _ _ _
   | exact ih1 _ _ _ _ _ _
   | exact impl_FramesOk.mono _ _ _
   | exact impl_freeMap.mono _ _ _
   | exact LeO.none _
   | refine LeO.ite ?_ ?_
   | refine LeO.bind ?_ (fun _ => ?_)
theorem impl_FramesGive.mono : ∀ a0 a1 a2 a3 k, LeO (impl_FramesGive.f k a0 a1 a2 a3) (impl_FramesGive.f (k + 1) a0 a1 a2 a3) := by
 intro a0 a1 a2 a3 k
 obtain ⟨ih0, ih1⟩ := impl_FramesGive.mono_l k
 unfold impl_FramesGive.f
 repeat' first
   | (with_reducible exact ih0 _ _ _ _ _)
   | (with_reducible exact ih1 _ _ _ _ _ _)
   | (with_reducible exact impl_FramesOk.mono _ _ _)
   | (with_reducible exact impl_freeMap.mono _ _ _)
   | (with_reducible exact LeO.refl _)
   | (with_reducible exact LeO.none _)
   | (with_reducible refine LeO.ite ?_ ?_)
   | (with_reducible refine LeO.bind ?_ (fun _ => ?_))
   | exact ih0 _ _ _ _ _
   | exact ih1 _ _ _ _ _ _
   | exact impl_FramesOk.mono _ _ _
   | exact impl_freeMap.mono _ _ _
   | exact LeO.none _
   | refine LeO.ite ?_ ?_
   | refine LeO.bind ?_ (fun _ => ?_)
set_option maxHeartbeats 8000000 in
set_option maxRecDepth 100000 in
theorem impl_FramesGive.calls (k : Nat) (a0_0 : Int) (A0_1 : Option Addr) (c0_1 : Nat) (l0_1 : List (S73)) (a1 : Int) (a2 : Int) (r1 : Int) (r2 : List (S73)) (r3 : Bool) (w : World) (hr0_1 : Kd.C k73 w A0_1 l0_1.length l0_1) (hc0_1 : l0_1.length ≤ c0_1) (h : impl_FramesGive.f k a0_0 l0_1 a1 a2 = some (r1, r2, r3)) :
  Calls Try.prog 43 #[.agg #[.int .i64 a0_0, .slice A0_1 l0_1.length c0_1], .int .i64 a1, .int .i64 a2] w fun e w' => ∃ v1_ : Value, e = .returned (.tuple #[.agg #[.int .i64 r1, v1_], .bool r3]) ∧ Kd.R k73 73 w' w.heap.size (fun _ => True) v1_ r2 ∧ Below w.heap.size w w' := by
 have hu50 := Try.underlying50
 have hu73 := Try.underlying73
 have HR0_1 := Aside0.mk hr0_1
 have HC0_1 := Aside0.mk hc0_1
 clear hr0_1 hc0_1
 have HB := Aside0.mk (Below.refl w.heap.size w)
 have H : ((impl_FramesOk.f k a0_0 l0_1).bind fun t146 => (if t146 = true then ((impl_blockOk.f a0_0 a1 a2).bind fun t147 => (impl_FramesGive.j0 k a1 a2 (!t147) a0_0 l0_1)) else (impl_FramesGive.j0 k a1 a2 true a0_0 l0_1))) = some (r1, r2, r3) := h
 clear h
 have HC4 := Aside0.mk H
 clear H
 go_enter Try.func43, Try.ntmps43
 go_upto_region 1 with (first | ((with_reducible refine gate_dst (N := 3) rfl ?_); refine box_event ?hg (N := 3) ?hd (cs := #[.int .i64 a0_0, .slice A0_1 l0_1.length c0_1]) (t := 50) ?hr ?_; (case hd => rfl); (case hg => rfl); (case hr => exact Z5_19); intro gb144 hg w5 hbox hb; have n0_ := Aside0.mk (below_step Z5_10 hb); have n1_ := Aside0.mk (hbox); have n2_ := Aside0.mk ((by rw [hg]; exact (below_size Z5_10) : w.heap.size ≤ gb144)); have n3_ := Aside0.mk ((by rw [hg]; exact (below_size Z5_10) : w.heap.size ≤ gb144)); clear HB; have HB := n0_; have BK144 := n1_; have GW144 := n2_; have GE144 := n3_; clear n0_ n1_ n2_ n3_; clear hb hbox hg) | ((with_reducible refine gate_dst (N := 6) rfl ?_); refine box_event ?hg (N := 6) ?hd (cs := #[.int .i64 0, .slice none 0 0]) (t := 50) ?hr ?_; (case hd => rfl); (case hg => rfl); (case hr => exact Z5_19); intro gb145 hg w6 hbox hb; have n0_ := Aside0.mk (blk_below (g := gb144) (o := .cells #[.int .i64 a0_0, .slice A0_1 l0_1.length c0_1] 50 (0, 0)) Z5_3 hb); have n1_ := Aside0.mk (below_step Z5_16 hb); have n2_ := Aside0.mk (hbox); have n3_ := Aside0.mk ((by rw [hg]; exact (below_size Z5_16) : w.heap.size ≤ gb145)); have n4_ := Aside0.mk ((by rw [hg]; exact (below_size Z5_16) : w.heap.size ≤ gb145)); have n5_ := Aside0.mk ((by rw [hg]; exact Nat.ne_of_lt (blk_lt (g := gb144) (o := .cells #[.int .i64 a0_0, .slice A0_1 l0_1.length c0_1] 50 (0, 0)) Z5_3) : gb144 ≠ gb145)); have n6_ := Aside0.mk ((by rw [hg]; exact Nat.ne_of_gt (blk_lt (g := gb144) (o := .cells #[.int .i64 a0_0, .slice A0_1 l0_1.length c0_1] 50 (0, 0)) Z5_3) : gb145 ≠ gb144)); clear BK144; clear HB; have BK144 := n0_; have HB := n1_; have BK145 := n2_; have GW145 := n3_; have GE145 := n4_; have NB144_145 := n5_; have NB145_144 := n6_; clear n0_ n1_ n2_ n3_ n4_ n5_ n6_; clear hb hbox hg))
 (try simp only [Act.put, List.setIfInBounds_toArray, List.set_cons_zero, List.set_cons_succ])
 go_cut [21] (fun v21 wc => ∃ (kq : Nat) (x21_3 : Bool), v21 = .bool x21_3 ∧ Aside0 (impl_FramesGive.j0 kq a1 a2 x21_3 a0_0 l0_1 = some (r1, r2, r3)) ∧ Aside0 (kq ≤ k) ∧ Aside0 (wc.heap[gb144]? = some (.cells #[.int .i64 a0_0, (.slice A0_1 l0_1.length c0_1)] 50 (0, 0))) ∧ Aside0 (wc.heap[gb145]? = some (.cells #[.int .i64 0, (.slice none 0 0)] 50 (0, 0))) ∧ Aside0 (Below w.heap.size w wc))
 case first =>
  have H := HC4.out
  clear HC4
  replace H := Option.bind_eq_some_iff.mp H
  obtain ⟨t146, A70, H⟩ := H
  replace H : (if t146 = true then ((impl_blockOk.f a0_0 a1 a2).bind fun t147 => (impl_FramesGive.j0 k a1 a2 (!t147) a0_0 l0_1)) else (impl_FramesGive.j0 k a1 a2 true a0_0 l0_1)) = some (r1, r2, r3) := H
  have A7 := Aside0.mk A70
  clear A70
  by_cases c8 : t146 = true
  ·subst c8
   have H1 : ((impl_blockOk.f a0_0 a1 a2).bind fun t147 => (impl_FramesGive.j0 k a1 a2 (!t147) a0_0 l0_1)) = some (r1, r2, r3) := by rw [if_pos rfl] at H; exact H
   clear H
   have H := H1
   clear H1
   replace H := Option.bind_eq_some_iff.mp H
   obtain ⟨t147, A90, H⟩ := H
   replace H : (impl_FramesGive.j0 k a1 a2 (!t147) a0_0 l0_1) = some (r1, r2, r3) := H
   have A9 := Aside0.mk A90
   clear A90
   have H' := Aside0.mk H
   clear H
   have hnb10 := NB144_145.out
   have hnc10 := NB145_144.out
   have hcz11_0 : w6.cell? ⟨gb144, 0, none⟩ = some (.int .i64 a0_0) := (blk_cell BK144.out 0).trans rfl
   have hcz11_1 : w6.cell? ⟨gb144, 1, none⟩ = some (.slice A0_1 l0_1.length c0_1) := (blk_cell BK144.out 1).trans rfl
   have hfz11_0 := blk_frozen BK144.out 0
   have hfz11_1 := blk_frozen BK144.out 1
   go_wp2_with (first | ((with_reducible refine gate_callee (f := 32) rfl ?_); refine goesL_ (some 11) rfl rfl Try.func32 (by kernel_rfl) rfl #[.agg #[.int .i64 a0_0, .slice A0_1 l0_1.length c0_1]] rfl Z5_6 ?_; (with_reducible refine (impl_FramesOk.calls k a0_0 _ _ l0_1 true _ ?side1 ?side2 A7.out).mono ?_); (case side1 => exact Z5_14); (case side2 => exact HC0_1.out); rintro e w12 ⟨rfl, hb⟩; refine ⟨_, rfl, ?_⟩; have n0_ := Aside0.mk (blk_below (g := gb144) (o := .cells #[.int .i64 a0_0, .slice A0_1 l0_1.length c0_1] 50 (0, 0)) Z5_3 hb); have n1_ := Aside0.mk (blk_below (g := gb145) (o := .cells #[.int .i64 0, .slice none 0 0] 50 (0, 0)) Z5_7 hb); have n2_ := Aside0.mk (below_step Z5_2 hb); clear BK144; clear BK145; clear HB; have BK144 := n0_; have BK145 := n1_; have HB := n2_; clear n0_ n1_ n2_; (try clear hb); (try clear hb2); (try clear hk); (try clear hi); have hcz13_0 : w12.cell? ⟨gb144, 0, none⟩ = some (.int .i64 a0_0) := (blk_cell BK144.out 0).trans rfl; have hcz13_1 : w12.cell? ⟨gb144, 1, none⟩ = some (.slice A0_1 l0_1.length c0_1) := (blk_cell BK144.out 1).trans rfl; have hfz13_0 := blk_frozen BK144.out 0; have hfz13_1 := blk_frozen BK144.out 1) | (go_at_call 74; (with_reducible refine (impl_blockOk.calls a0_0 a1 a2 t147 _ A9.out).mono ?_); rintro e w14 ⟨rfl, hb⟩; have n0_ := Aside0.mk (blk_below (g := gb144) (o := .cells #[.int .i64 a0_0, .slice A0_1 l0_1.length c0_1] 50 (0, 0)) Z5_3 hb); have n1_ := Aside0.mk (blk_below (g := gb145) (o := .cells #[.int .i64 0, .slice none 0 0] 50 (0, 0)) Z5_7 hb); have n2_ := Aside0.mk (below_step Z5_2 hb); clear BK144; clear BK145; clear HB; have BK144 := n0_; have BK145 := n1_; have HB := n2_; clear n0_ n1_ n2_; (try clear hb); (try clear hb2); (try clear hk); (try clear hi)))
   go_meet
   case rel => exact ⟨_, (!t147), Z5_5, H', ⟨by first | omega | exact Nat.le_refl _⟩, ⟨Z5_3⟩, ⟨Z5_7⟩, ⟨Z5_2⟩⟩
  replace c8 := Bool.eq_false_iff.mpr c8
  subst c8
  have H1 : (impl_FramesGive.j0 k a1 a2 true a0_0 l0_1) = some (r1, r2, r3) := by rw [if_neg (show ¬ (false = true) by decide)] at H; exact H
  clear H
  have H := H1
  clear H1
  have H' := Aside0.mk H
  clear H
  have hnb15 := NB144_145.out
  have hnc15 := NB145_144.out
  have hcz16_0 : w6.cell? ⟨gb144, 0, none⟩ = some (.int .i64 a0_0) := (blk_cell BK144.out 0).trans rfl
  have hcz16_1 : w6.cell? ⟨gb144, 1, none⟩ = some (.slice A0_1 l0_1.length c0_1) := (blk_cell BK144.out 1).trans rfl
  have hfz16_0 := blk_frozen BK144.out 0
  have hfz16_1 := blk_frozen BK144.out 1
  go_wp2_with (first | ((with_reducible refine gate_callee (f := 32) rfl ?_); refine goesL_ (some 11) rfl rfl Try.func32 (by kernel_rfl) rfl #[.agg #[.int .i64 a0_0, .slice A0_1 l0_1.length c0_1]] rfl Z5_6 ?_; (with_reducible refine (impl_FramesOk.calls k a0_0 _ _ l0_1 false _ ?side1 ?side2 A7.out).mono ?_); (case side1 => exact Z5_14); (case side2 => exact HC0_1.out); rintro e w17 ⟨rfl, hb⟩; refine ⟨_, rfl, ?_⟩; have n0_ := Aside0.mk (blk_below (g := gb144) (o := .cells #[.int .i64 a0_0, .slice A0_1 l0_1.length c0_1] 50 (0, 0)) Z5_3 hb); have n1_ := Aside0.mk (blk_below (g := gb145) (o := .cells #[.int .i64 0, .slice none 0 0] 50 (0, 0)) Z5_7 hb); have n2_ := Aside0.mk (below_step Z5_2 hb); clear BK144; clear BK145; clear HB; have BK144 := n0_; have BK145 := n1_; have HB := n2_; clear n0_ n1_ n2_; (try clear hb); (try clear hb2); (try clear hk); (try clear hi)))
  go_meet
  case rel => exact ⟨_, (true), Z5_5, H', ⟨by first | omega | exact Nat.le_refl _⟩, ⟨Z5_3⟩, ⟨Z5_7⟩, ⟨Z5_2⟩⟩
 clear HC4
 try clear c1
 try clear p2
 try clear c3
 try clear c4
 try clear c8
 try clear c10
 try clear c15
 try clear hcz11_0
 try clear hcz11_1
 try clear hcz13_0
 try clear hcz13_1
 try clear hcz16_0
 try clear hcz16_1
 try clear hfz11_0
 try clear hfz11_1
 try clear hfz13_0
 try clear hfz13_1
 try clear hfz16_0
 try clear hfz16_1
 obtain ⟨kq, x21_3, rfl, HA, HJ3, BK144, BK145, HB⟩ := hcut
 cases kq with
 | zero => exact absurd HA.out (by simp [impl_FramesGive.j0])
 | succ kj3 =>
  have H := HA.out
  clear HA
  simp only [impl_FramesGive.j0] at H
  by_cases c18 : x21_3 = true
  ·subst c18
   have H1 : (some (0, ([] : List (S73)), false)) = some (r1, r2, r3) := by rw [if_pos rfl] at H; exact H
   clear H
   have H := H1
   clear H1
   simp only [Option.some.injEq, Prod.mk.injEq] at H
   obtain ⟨rfl, rfl, rfl⟩ := H
   have hnb19 := NB145_144.out
   have hnc19 := NB144_145.out
   have hcz20_0 : wc.cell? ⟨gb145, 0, none⟩ = some (.int .i64 0) := (blk_cell BK145.out 0).trans rfl
   have hcz20_1 : wc.cell? ⟨gb145, 1, none⟩ = some (.slice none 0 0) := (blk_cell BK145.out 1).trans rfl
   have hfz20_0 := blk_frozen BK145.out 0
   have hfz20_1 := blk_frozen BK145.out 1
   go_wp2
   refine bodyPost_ret (results_ct rfl _ _ gb145 50 #[.int .i64 0, .slice none 0 0] (0, 0) _ rfl (by (with_reducible repeat (first | apply blk_drewN | apply blk_drew | apply blk_alloc)); refine blk_put (cs := #[.int .i64 0, .slice none 0 0]) ?_ 1 _ rfl; (with_reducible repeat (first | apply blk_drewN | apply blk_drew | apply blk_alloc)); refine blk_put (cs := #[.int .i64 0, .slice none 0 0]) ?_ 0 _ rfl; (with_reducible repeat (first | apply blk_drewN | apply blk_drew | apply blk_alloc)); exact BK145.out) Try.underlying50 rfl (by kernel_rfl)) rfl ?_
   exact ⟨_, by first | rfl | (simp [errW_none, errW_some] <;> rfl) | (simp [*, errW_none, errW_some] <;> rfl), by first | exact Kd.R_nil _ _ _ _ _ | exact Kd.N_nil _ _ _ _ _ | exact Kd.V_nil _ _ _ _ _ | exact Kd.Q_nil _ _ _ _ _ | exact Kd.S_nil _ _ _ _ _, Z5_2⟩
  replace c18 := Bool.eq_false_iff.mpr c18
  subst c18
  have H1 : ((impl_freeMap.f kj3 a0_0 l0_1).bind fun t148 => (if 0 ≤ a2 then (impl_FramesGive.l0 kj3 a1 t148 (shl .i64 1 a2) 0 a0_0 l0_1) else (none))) = some (r1, r2, r3) := by rw [if_neg (show ¬ (false = true) by decide)] at H; exact H
  clear H
  have H := H1
  clear H1
  replace H := Option.bind_eq_some_iff.mp H
  obtain ⟨t148, A210, H⟩ := H
  replace H : (if 0 ≤ a2 then (impl_FramesGive.l0 kj3 a1 t148 (shl .i64 1 a2) 0 a0_0 l0_1) else (none)) = some (r1, r2, r3) := H
  have A21 := Aside0.mk A210
  clear A210
  by_cases c22 : 0 ≤ a2
  ·rw [if_pos c22] at H
   have c22b0 := eq_true c22
   have c22b1 : decide (0 ≤ a2) = true := decide_eq_true c22
   clear c22
   obtain ⟨ji23, hji23⟩ : ∃ j_ : Int, (shl .i64 1 a2) = j_ := ⟨_, rfl⟩
   replace H : (impl_FramesGive.l0 kj3 a1 t148 ji23 0 a0_0 l0_1) = some (r1, r2, r3) := by first | (rw [hji23] at H; exact H) | (simp only [hji23] at H ⊢; exact H)
   (try rw [hji23] at A21)
   have hji23_ : (IntKind.i64.wrap (1 * 2 ^ min a2.toNat 64)) = ji23 := hji23
   have hji23z : a2 ≤ 64 → (IntKind.i64.wrap (1 * 2 ^ a2.toNat)) = ji23 := shl_small hji23
   have hji23u : (IntKind.i64.wrap (2 ^ min a2.toNat 64)) = ji23 := by have h_ := hji23_; rw [Int.one_mul] at h_; exact h_
   have hji23v : a2 ≤ 64 → (IntKind.i64.wrap (2 ^ a2.toNat)) = ji23 := fun hle_ => by have h_ := hji23z hle_; rw [Int.one_mul] at h_; exact h_
   have hji23y : (wrap64 (1 * 2 ^ min a2.toNat 64)) = ji23 := (i64_w _).symm.trans hji23_
   have hji23x : a2 ≤ 64 → (wrap64 (1 * 2 ^ a2.toNat)) = ji23 := fun h_ => (i64_w _).symm.trans (hji23z h_)
   have H' := Aside0.mk H
   clear H
   have hnb24 := NB144_145.out
   have hnc24 := NB145_144.out
   have hcz25_0 : wc.cell? ⟨gb144, 0, none⟩ = some (.int .i64 a0_0) := (blk_cell BK144.out 0).trans rfl
   have hcz25_1 : wc.cell? ⟨gb144, 1, none⟩ = some (.slice A0_1 l0_1.length c0_1) := (blk_cell BK144.out 1).trans rfl
   have hfz25_0 := blk_frozen BK144.out 0
   have hfz25_1 := blk_frozen BK144.out 1
   go_wp2_with (first | ((with_reducible refine gate_callee (f := 84) rfl ?_); refine goesL_ (some 24) rfl rfl Try.func84 (by kernel_rfl) rfl #[.agg #[.int .i64 a0_0, .slice A0_1 l0_1.length c0_1]] rfl Z5_6 ?_; (with_reducible refine (impl_freeMap.calls kj3 a0_0 _ _ l0_1 t148 _ ?side1 ?side2 A21.out).mono ?_); (case side1 => exact Z5_14); (case side2 => exact HC0_1.out); rintro e w26 ⟨v149, rfl, ho0, hb⟩; refine ⟨_, rfl, ?_⟩; have n0_ := Aside0.mk (Kd.R_lower ho0 (below_size Z5_2)); have n1_ := Aside0.mk (blk_below (g := gb144) (o := .cells #[.int .i64 a0_0, .slice A0_1 l0_1.length c0_1] 50 (0, 0)) Z5_3 hb); have n2_ := Aside0.mk (blk_below (g := gb145) (o := .cells #[.int .i64 0, .slice none 0 0] 50 (0, 0)) Z5_7 hb); have n3_ := Aside0.mk (below_step Z5_2 hb); clear BK144; clear BK145; clear HB; have HO150 := n0_; have BK144 := n1_; have BK145 := n2_; have HB := n3_; clear n0_ n1_ n2_ n3_; (try clear hb); (try clear hb2 hk hi); (try clear ho0)))
   go_loopg [27] kj3 (fun kq v27 w' => ∃ (x8_2 : List Bool) (x27_2 : Int) (x146000_2 : Int), v27 = .int .i64 x27_2 ∧ Aside0 (impl_FramesGive.l0 kq a1 x8_2 ji23 x27_2 a0_0 l0_1 = some (r1, r2, r3)) ∧ Aside0 (kq ≤ kj3) ∧ Aside0 (Kd.R Kd.bool 4 w' w.heap.size (fun _ => True) v149 x8_2) ∧ Aside0 (w'.heap[gb144]? = some (.cells #[.int .i64 a0_0, (.slice A0_1 l0_1.length c0_1)] 50 (0, 0))) ∧ Aside0 (w'.heap[gb145]? = some (.cells #[.int .i64 x146000_2, (.slice none 0 0)] 50 (0, 0))) ∧ Aside0 (Below w.heap.size w w'))
   case atStart => exact ⟨(t148), (0), (0), Z5_5, H', ⟨Nat.le_refl _⟩, ⟨by (with_reducible repeat (first | apply Kd.R_alloc | apply Kd.R_drewN | apply Kd.R_drew)); exact HO150.out⟩, ⟨Z5_3⟩, ⟨Z5_7⟩, ⟨Z5_2⟩⟩
   clear H'
   try clear c1
   try clear c2
   try clear p2
   try clear c3
   try clear c4
   try clear p6
   try clear c8
   try clear c10
   try clear c15
   try clear c18
   try clear c19
   try clear c22
   try clear c22b0
   try clear c22b1
   try clear c24
   try clear hcz11_0
   try clear hcz11_1
   try clear hcz13_0
   try clear hcz13_1
   try clear hcz16_0
   try clear hcz16_1
   try clear hcz20_0
   try clear hcz20_1
   try clear hcz25_0
   try clear hcz25_1
   try clear hfz11_0
   try clear hfz11_1
   try clear hfz13_0
   try clear hfz13_1
   try clear hfz16_0
   try clear hfz16_1
   try clear hfz20_0
   try clear hfz20_1
   try clear hfz25_0
   try clear hfz25_1
   try clear p2
   obtain ⟨x8_2, x27_2, x146000_2, rfl, HA, HK2, HO_8, BK144, BK145, HB⟩ := hrel
   cases gk with
   | zero => exact absurd HA.out (by simp [impl_FramesGive.l0])
   | succ k2 =>
    have H := HA.out
    clear HA
    simp only [impl_FramesGive.l0] at H
    by_cases c27 : x27_2 < ji23
    ·rw [if_pos c27] at H
     have c27b0 : decide (x27_2 < ji23) = true := decide_eq_true c27
     clear c27
     obtain ⟨ji28, hji28⟩ : ∃ j_ : Int, (wrap64 (a1 + x27_2)) = j_ := ⟨_, rfl⟩
     replace H : (if 0 ≤ (ji28) then (if (ji28) < (x8_2.length : Int) then (if rdOf false x8_2 (ji28) = true then ((impl_copyFrames.f a0_0 l0_1).bind fun bt152 => (some (bt152.1, bt152.2, false))) else (impl_FramesGive.l0 k2 a1 (x8_2.set ((ji28) : Int).toNat true) ji23 (wrap64 (x27_2 + 1)) a0_0 l0_1)) else (none)) else (none)) = some (r1, r2, r3) := by first | (rw [hji28] at H; exact H) | (simp only [hji28] at H ⊢; exact H)
     have hji28w : (IntKind.i64.wrap (a1 + x27_2)) = ji28 := (i64_w _).trans hji28
     by_cases c29 : 0 ≤ (ji28)
     ·rw [if_pos c29] at H
      have c29b0 : decide (0 ≤ (ji28)) = true := decide_eq_true c29
      clear c29
      by_cases c30 : (ji28) < (x8_2.length : Int)
      ·rw [if_pos c30] at H
       have c30b0 : decide ((ji28) < (x8_2.length : Int)) = true := decide_eq_true c30
       clear c30
       obtain ⟨bq31, hbq31⟩ : ∃ b_ : Bool, b_ = (rdOf false x8_2 (ji28)) := ⟨_, rfl⟩
       replace H : (if bq31 = true then ((impl_copyFrames.f a0_0 l0_1).bind fun bt152 => (some (bt152.1, bt152.2, false))) else (impl_FramesGive.l0 k2 a1 (x8_2.set ((ji28) : Int).toNat true) ji23 (wrap64 (x27_2 + 1)) a0_0 l0_1)) = some (r1, r2, r3) := by rw [← hbq31] at H; exact H
       have Nbq31 := Aside0.mk hbq31
       clear hbq31
       by_cases c32 : bq31 = true
       ·subst c32
        have H1 : ((impl_copyFrames.f a0_0 l0_1).bind fun bt152 => (some (bt152.1, bt152.2, false))) = some (r1, r2, r3) := by rw [if_pos rfl] at H; exact H
        clear H
        have H := H1
        clear H1
        replace H := Option.bind_eq_some_iff.mp H
        obtain ⟨⟨t152, t153⟩, A330, H⟩ := H
        replace H : (some (t152, t153, false)) = some (r1, r2, r3) := H
        have A33 := Aside0.mk A330
        clear A330
        simp only [Option.some.injEq, Prod.mk.injEq] at H
        obtain ⟨rfl, rfl, rfl⟩ := H
        obtain ⟨Ao34, co34, eo34⟩ := Kd.R_slice HO_8.out
        subst eo34
        have p151 : 0 ≤ ((ji28) : Int) := of_decide_eq_true Z5_12
        have q151 : (ji28) < (x8_2.length : Int) := of_decide_eq_true Z5_12
        obtain ⟨ad151, e151, hx151_0⟩ := Kd.at_bool (Kd.R_reads' HO_8.out).2.2 (ji28) p151 q151
        (try rw [← Nbq31.out] at hx151_0)
        cases e151
        replace p151 := eq_true p151
        replace q151 := eq_true q151
        have hnb35 := NB144_145.out
        have hnc35 := NB145_144.out
        have hcz36_0 : wr.cell? ⟨gb144, 0, none⟩ = some (.int .i64 a0_0) := (blk_cell BK144.out 0).trans rfl
        have hcz36_1 : wr.cell? ⟨gb144, 1, none⟩ = some (.slice A0_1 l0_1.length c0_1) := (blk_cell BK144.out 1).trans rfl
        have hfz36_0 := blk_frozen BK144.out 0
        have hfz36_1 := blk_frozen BK144.out 1
        go_wp2_with (first | ((with_reducible refine gate_callee (f := 85) rfl ?_); refine goesL_ (some 37) rfl rfl Try.func85 (by kernel_rfl) rfl #[.agg #[.int .i64 a0_0, .slice A0_1 l0_1.length c0_1]] rfl Z5_6 ?_; (with_reducible refine (impl_copyFrames.calls a0_0 _ _ l0_1 t152 t153 _ ?side1 ?side2 A33.out).mono ?_); (case side1 => exact Z5_14); (case side2 => exact HC0_1.out); rintro e w37 ⟨v154, rfl, ho0, hb⟩; refine ⟨_, rfl, ?_⟩; have n0_ := Aside0.mk (Kd.R_below Z5_18 hb); have n1_ := Aside0.mk (Kd.R_lower ho0 (below_size Z5_2)); have n2_ := Aside0.mk (blk_below (g := gb144) (o := .cells #[.int .i64 a0_0, .slice A0_1 l0_1.length c0_1] 50 (0, 0)) Z5_3 hb); have n3_ := Aside0.mk (blk_below (g := gb145) (o := .cells #[.int .i64 x146000_2, .slice none 0 0] 50 (0, 0)) Z5_7 hb); have n4_ := Aside0.mk (below_step Z5_2 hb); clear HO_8; clear BK144; clear BK145; clear HB; have HO_8 := n0_; have HO155 := n1_; have BK144 := n2_; have BK145 := n3_; have HB := n4_; clear n0_ n1_ n2_ n3_ n4_; (try clear hb); (try clear hb2 hk hi); (try clear ho0); have hcz38_0 : w37.cell? ⟨gb145, 0, none⟩ = some (.int .i64 x146000_2) := (blk_cell BK145.out 0).trans rfl; have hcz38_1 : w37.cell? ⟨gb145, 1, none⟩ = some (.slice none 0 0) := (blk_cell BK145.out 1).trans rfl; have hfz38_0 := blk_frozen BK145.out 0; have hfz38_1 := blk_frozen BK145.out 1; obtain ⟨Ao39, co39, eo39⟩ := Kd.R_slice HO155.out; subst eo39))
        refine bodyPost_ret (results_ct rfl _ _ gb145 50 #[.int .i64 t152, .slice Ao39 t153.length co39] (0, 0) _ rfl (by (with_reducible repeat (first | apply blk_drewN | apply blk_drew | apply blk_alloc)); refine blk_put (cs := #[.int .i64 t152, .slice none 0 0]) ?_ 1 _ rfl; (with_reducible repeat (first | apply blk_drewN | apply blk_drew | apply blk_alloc)); refine blk_put (cs := #[.int .i64 x146000_2, .slice none 0 0]) ?_ 0 _ rfl; (with_reducible repeat (first | apply blk_drewN | apply blk_drew | apply blk_alloc)); exact BK145.out) Try.underlying50 rfl (by kernel_rfl)) rfl ?_
        exact ⟨_, by first | rfl | (simp [errW_none, errW_some] <;> rfl) | (simp only [← hji23, ← hji28]; first | rfl | (simp [errW_none, errW_some] <;> rfl)) | (simp [*, errW_none, errW_some] <;> rfl), by (with_reducible repeat (first | apply Kd.R_alloc | apply Kd.R_drewN | apply Kd.R_drew)); exact Kd.R_mono (Kd.R_far (p := ⟨gb145, 1, none⟩) (Kd.R_far (p := ⟨gb145, 0, none⟩) (Kd.R_types HO155.out BK145.out (by decide)) (fun _ hk => hk.2) (.int .i64 t152)) (fun _ hk => hk.2) (.slice Ao39 t153.length co39)) (fun _ hk => trivial), Z5_2⟩
       replace c32 := Bool.eq_false_iff.mpr c32
       subst c32
       have H1 : (impl_FramesGive.l0 k2 a1 (x8_2.set ((ji28) : Int).toNat true) ji23 (wrap64 (x27_2 + 1)) a0_0 l0_1) = some (r1, r2, r3) := by rw [if_neg (show ¬ (false = true) by decide)] at H; exact H
       clear H
       have H := H1
       clear H1
       obtain ⟨y156, hy156⟩ : ∃ y_ : List Bool, y_ = (x8_2.set ((ji28) : Int).toNat true) := ⟨_, rfl⟩
       replace H : (impl_FramesGive.l0 k2 a1 y156 ji23 (wrap64 (x27_2 + 1)) a0_0 l0_1) = some (r1, r2, r3) := by first | (rw [hy156]; with_reducible exact H) | (have H2_ := (Option.bind_some _ _).symm.trans H; rw [hy156]; with_reducible exact H2_) | (have H2_ := (Option.bind_some _ _).symm.trans H; with_reducible exact H2_) | with_reducible exact H | (rw [hy156]; exact H) | exact H
       have Ny156 := Aside0.mk hy156
       clear hy156
       have H' := Aside0.mk H
       clear H
       obtain ⟨Ao41, co41, eo41⟩ := Kd.R_slice HO_8.out
       subst eo41
       have p151 : 0 ≤ ((ji28) : Int) := of_decide_eq_true Z5_12
       have q151 : (ji28) < (x8_2.length : Int) := of_decide_eq_true Z5_12
       obtain ⟨ad151, e151, hx151_0⟩ := Kd.at_bool (Kd.R_reads' HO_8.out).2.2 (ji28) p151 q151
       (try rw [← Nbq31.out] at hx151_0)
       cases e151
       replace p151 := eq_true p151
       replace q151 := eq_true q151
       have p40 : 0 ≤ ((ji28) : Int) := of_decide_eq_true Z5_12
       have q40 : ((ji28) : Int) < ((x8_2.length : Int) : Int) := of_decide_eq_true Z5_12
       obtain ⟨go40, co40, eo40, gb40, gl40, cl40, HG40⟩ := Kd.R_form HO_8.out (by omega)
       (first | cases eo40 | (injection eo40 with ea_ en_ ec_; (first | subst ea_ | (injection ea_ with ea_; subst ea_)); subst ec_; clear en_))
       have GB40 := Aside0.mk gb40
       have GG40 := Aside0.mk HG40
       clear gb40 gl40 HG40
       (first | simp only [add_plain] at hx151_0 | skip)
       obtain ⟨hx40_0, hf40_0⟩ := Kd.R_celln false HO_8.out ((ji28) : Int) p40 q40
       replace p40 := eq_true p40
       replace q40 := eq_true q40
       have HP42 := Kd.R_putg HO_8.out ((ji28) : Int) true
       go_wp2_with (first | ((with_reducible refine gate_store (t := 4) (p := 42) rfl ?_); refine store_event (t := 4) (p := 42) (v := ?vo_w43) (w1 := (wr.setCell ⟨go40, ((ji28) : Int).toNat, none⟩ (.bool true))) ?hg ?ho ?hn ?hr ?_; (case ho => rfl); (case hg => rfl); (case hn => rfl); (case hr => exact Z5_19); intro w43 hw; have hg : wr.grownBy w43 (some go40) := (by rw [hw]; exact HP42.2); have hp_ : Kd.R Kd.bool 4 w43 w.heap.size (fun _ => True) (.slice (some ⟨go40, 0, none⟩) x8_2.length co41) y156 := (by rw [hw, Ny156.out]; exact HP42.1); clear HP42; have n0_ := Aside0.mk (hp_); have n1_ := Aside0.mk (blk_grown (g := gb144) (o := .cells #[.int .i64 a0_0, .slice A0_1 l0_1.length c0_1] 50 (0, 0)) Z5_3 hg (Kd.R_ne HO_8.out BK144.out (by decide))); have n2_ := Aside0.mk (blk_grown (g := gb145) (o := .cells #[.int .i64 x146000_2, .slice none 0 0] 50 (0, 0)) Z5_7 hg (Kd.R_ne HO_8.out BK145.out (by decide))); have n3_ := Aside0.mk ((by rw [hw]; exact below_set (HB.out) GB40.out : Below w.heap.size w w43)); clear HO_8; clear BK144; clear BK145; clear HB; have HO_8 := n0_; have BK144 := n1_; have BK145 := n2_; have HB := n3_; clear n0_ n1_ n2_ n3_; clear hg hw hp_))
       go_roundg k2
       case measure => have := HJ3.out; have := HK2.out; omega
       case rel => exact ⟨(y156), (wrap64 (x27_2 + 1)), (x146000_2), Z5_5, H', ⟨by have := HJ3.out; have := HK2.out; omega⟩, ⟨Z5_18⟩, ⟨Z5_3⟩, ⟨Z5_7⟩, ⟨Z5_2⟩⟩
      rw [if_neg c30] at H
      exact absurd H (by simp)
     rw [if_neg c29] at H
     exact absurd H (by simp)
    rw [if_neg c27] at H
    have c27b0 : decide (x27_2 < ji23) = false := decide_eq_false c27
    clear c27
    replace H := Option.bind_eq_some_iff.mp H
    obtain ⟨⟨t157, t158⟩, A440, H⟩ := H
    replace H : (some (t157, t158, true)) = some (r1, r2, r3) := H
    have A44 := Aside0.mk A440
    clear A440
    simp only [Option.some.injEq, Prod.mk.injEq] at H
    obtain ⟨rfl, rfl, rfl⟩ := H
    obtain ⟨Ao45, co45, eo45⟩ := Kd.R_slice HO_8.out
    subst eo45
    go_wp2_with (first | ((with_reducible refine gate_callee (f := 77) rfl ?_); refine goesL_ (some 45) rfl rfl Try.func77 (by kernel_rfl) rfl #[.slice Ao45 x8_2.length co45] rfl Z5_6 ?_; (with_reducible refine (impl_framesOf.calls _ _ x8_2 t157 t158 _ ?side1 ?side2 A44.out).mono ?_); (case side1 => repeat (first | exact (Kd.R_reads' HO_8.out).2.2 | (with_reducible refine Kd.C_alloc ?_ _) | (with_reducible refine Kd.C_drewN ?_ _) | (with_reducible refine Kd.C_drew ?_))); (case side2 => exact (Kd.R_reads' HO_8.out).2.1); rintro e w46 ⟨v159, rfl, ho0, hb⟩; refine ⟨_, rfl, ?_⟩; have n0_ := Aside0.mk (Kd.R_below Z5_18 hb); have n1_ := Aside0.mk (Kd.R_lower ho0 (below_size Z5_2)); have n2_ := Aside0.mk (blk_below (g := gb144) (o := .cells #[.int .i64 a0_0, .slice A0_1 l0_1.length c0_1] 50 (0, 0)) Z5_3 hb); have n3_ := Aside0.mk (blk_below (g := gb145) (o := .cells #[.int .i64 x146000_2, .slice none 0 0] 50 (0, 0)) Z5_7 hb); have n4_ := Aside0.mk (below_step Z5_2 hb); clear HO_8; clear BK144; clear BK145; clear HB; have HO_8 := n0_; have HO160 := n1_; have BK144 := n2_; have BK145 := n3_; have HB := n4_; clear n0_ n1_ n2_ n3_ n4_; (try clear hb); (try clear hb2 hk hi); (try clear ho0); have hnb47 := NB145_144.out; have hnc47 := NB144_145.out; have hcz48_0 : w46.cell? ⟨gb145, 0, none⟩ = some (.int .i64 x146000_2) := (blk_cell BK145.out 0).trans rfl; have hcz48_1 : w46.cell? ⟨gb145, 1, none⟩ = some (.slice none 0 0) := (blk_cell BK145.out 1).trans rfl; have hfz48_0 := blk_frozen BK145.out 0; have hfz48_1 := blk_frozen BK145.out 1; obtain ⟨Ao49, co49, eo49⟩ := Kd.R_slice HO160.out; subst eo49))
    refine bodyPost_ret (results_ct rfl _ _ gb145 50 #[.int .i64 t157, .slice Ao49 t158.length co49] (0, 0) _ rfl (by (with_reducible repeat (first | apply blk_drewN | apply blk_drew | apply blk_alloc)); refine blk_put (cs := #[.int .i64 t157, .slice none 0 0]) ?_ 1 _ rfl; (with_reducible repeat (first | apply blk_drewN | apply blk_drew | apply blk_alloc)); refine blk_put (cs := #[.int .i64 x146000_2, .slice none 0 0]) ?_ 0 _ rfl; (with_reducible repeat (first | apply blk_drewN | apply blk_drew | apply blk_alloc)); exact BK145.out) Try.underlying50 rfl (by kernel_rfl)) rfl ?_
    exact ⟨_, by first | rfl | (simp [errW_none, errW_some] <;> rfl) | (simp only [← hji23]; first | rfl | (simp [errW_none, errW_some] <;> rfl)) | (simp [*, errW_none, errW_some] <;> rfl), by (with_reducible repeat (first | apply Kd.R_alloc | apply Kd.R_drewN | apply Kd.R_drew)); exact Kd.R_mono (Kd.R_far (p := ⟨gb145, 1, none⟩) (Kd.R_far (p := ⟨gb145, 0, none⟩) (Kd.R_types HO160.out BK145.out (by decide)) (fun _ hk => hk.2) (.int .i64 t157)) (fun _ hk => hk.2) (.slice Ao49 t158.length co49)) (fun _ hk => trivial), Z5_2⟩
  rw [if_neg c22] at H
  exact absurd H (by simp)
/-! ### spec_l8Whole: function 81 -/
def spec_l8Whole.l0 : Nat → List Bool → Int → Int → Int → Option (Bool)
 | 0, _, _, _, _ => none
 | k + 1, x0, x1, x2, x7 => if x7 < x2 then (if 0 ≤ (wrap64 (x1 + x7)) then (if (wrap64 (x1 + x7)) < (x0.length : Int) then (if (rdOf false x0 (wrap64 (x1 + x7)) = true) then (spec_l8Whole.l0 k x0 x1 x2 (wrap64 (x7 + 1))) else (some false)) else (none)) else (none)) else (some true)
def spec_l8Whole.f (k : Nat) (l0 : List Bool) (a1 : Int) (a2 : Int) : Option (Bool) := if (wrap64 (a1 + a2)) > (l0.length : Int) then (some false) else (spec_l8Whole.l0 k l0 a1 a2 0)
theorem spec_l8Whole.mono_l : ∀ k, (∀ y0 y1 y2 y3, LeO (spec_l8Whole.l0 k y0 y1 y2 y3) (spec_l8Whole.l0 (k + 1) y0 y1 y2 y3))
 | 0 => fun _ _ _ _ r h => by simp [spec_l8Whole.l0] at h
 | k + 1 => by
  have ih0 := spec_l8Whole.mono_l k
  ·intro y0 y1 y2 y3
   unfold spec_l8Whole.l0
   repeat' first
   | (with_reducible exact ih0 _ _ _ _)
   | (with_reducible exact LeO.refl _)
   | (with_reducible exact LeO.none _)
   | (with_reducible refine LeO.ite ?_ ?_)
   | (with_reducible refine LeO.bind ?_ (fun _ => ?_))
   | exact ih0 _ _ _ _
   | exact LeO.none _
   | refine LeO.ite ?_ ?_
   | refine LeO.bind ?_ (fun _ => ?_)
theorem spec_l8Whole.mono : ∀ a0 a1 a2 k, LeO (spec_l8Whole.f k a0 a1 a2) (spec_l8Whole.f (k + 1) a0 a1 a2) := by
 intro a0 a1 a2 k
 have ih0 := spec_l8Whole.mono_l k
 unfold spec_l8Whole.f
 repeat' first
   | (with_reducible exact ih0 _ _ _ _)
   | (with_reducible exact LeO.refl _)
   | (with_reducible exact LeO.none _)
   | (with_reducible refine LeO.ite ?_ ?_)
   | (with_reducible refine LeO.bind ?_ (fun _ => ?_))
   | exact ih0 _ _ _ _
   | exact LeO.none _
   | refine LeO.ite ?_ ?_
   | refine LeO.bind ?_ (fun _ => ?_)
set_option maxHeartbeats 8000000 in
set_option maxRecDepth 100000 in
theorem spec_l8Whole.calls (k : Nat) (A0 : Option Addr) (c0 : Nat) (l0 : List Bool) (a1 : Int) (a2 : Int) (r : Bool) (w : World) (hr0 : Kd.C Kd.bool w A0 l0.length l0) (hc0 : l0.length ≤ c0) (h : spec_l8Whole.f k l0 a1 a2 = some r) :
  Calls Try.prog 81 #[.slice A0 l0.length c0, .int .i64 a1, .int .i64 a2] w fun e w' => e = .returned (.bool r) ∧ Drawn0 w w' := by
 have HR0 := Aside0.mk hr0
 have HC0 := Aside0.mk hc0
 clear hr0 hc0
 have H : (if (wrap64 (a1 + a2)) > (l0.length : Int) then (some false) else (spec_l8Whole.l0 k l0 a1 a2 0)) = some r := h
 clear h
 by_cases c4 : (wrap64 (a1 + a2)) > (l0.length : Int)
 ·rw [if_pos c4] at H
  have c4b0 : decide ((l0.length : Int) < (wrap64 (a1 + a2))) = true := decide_eq_true c4
  clear c4
  obtain rfl := Option.some.inj H
  go_enter Try.func81, Try.ntmps81
  go_wp2
  go_ret
  exact ⟨Z5_5, Z5_17⟩
 rw [if_neg c4] at H
 have c4b0 : decide ((l0.length : Int) < (wrap64 (a1 + a2))) = false := decide_eq_false c4
 clear c4
 have H' := Aside0.mk H
 clear H
 go_enter Try.func81, Try.ntmps81
 go_wp2
 go_loopg [7] k (fun kq v7 w' => ∃ (x7_1 : Int), v7 = .int .i64 x7_1 ∧ Aside0 (spec_l8Whole.l0 kq l0 a1 a2 x7_1 = some r) ∧ Aside0 (kq ≤ k) ∧ Drawn0 w w')
 case atStart => exact ⟨(0), Z5_5, H', ⟨Nat.le_refl _⟩, Z5_17⟩
 clear H'
 try clear p2
 try clear c4
 try clear c4b0
 obtain ⟨x7_1, rfl, HA, HK1, ⟨m1, rfl⟩⟩ := hrel
 cases gk with
 | zero => exact absurd HA.out (by simp [spec_l8Whole.l0])
 | succ k1 =>
  have H := HA.out
  clear HA
  simp only [spec_l8Whole.l0] at H
  by_cases c5 : x7_1 < a2
  ·rw [if_pos c5] at H
   have c5b0 : decide (x7_1 < a2) = true := decide_eq_true c5
   clear c5
   obtain ⟨ji6, hji6⟩ : ∃ j_ : Int, (wrap64 (a1 + x7_1)) = j_ := ⟨_, rfl⟩
   replace H : (if 0 ≤ (ji6) then (if (ji6) < (l0.length : Int) then (if (rdOf false l0 (ji6) = true) then (spec_l8Whole.l0 k1 l0 a1 a2 (wrap64 (x7_1 + 1))) else (some false)) else (none)) else (none)) = some r := by first | (rw [hji6] at H; exact H) | (simp only [hji6] at H ⊢; exact H)
   have hji6w : (IntKind.i64.wrap (a1 + x7_1)) = ji6 := (i64_w _).trans hji6
   by_cases c7 : 0 ≤ (ji6)
   ·rw [if_pos c7] at H
    have c7b0 : decide (0 ≤ (ji6)) = true := decide_eq_true c7
    clear c7
    by_cases c8 : (ji6) < (l0.length : Int)
    ·rw [if_pos c8] at H
     have c8b0 : decide ((ji6) < (l0.length : Int)) = true := decide_eq_true c8
     clear c8
     obtain ⟨bq9, hbq9⟩ : ∃ b_ : Bool, b_ = (rdOf false l0 (ji6)) := ⟨_, rfl⟩
     replace H : (if (bq9 = true) then (spec_l8Whole.l0 k1 l0 a1 a2 (wrap64 (x7_1 + 1))) else (some false)) = some r := by rw [← hbq9] at H; exact H
     have Nbq9 := Aside0.mk hbq9
     clear hbq9
     by_cases c10 : (bq9 = true)
     ·subst c10
      have H1 : (spec_l8Whole.l0 k1 l0 a1 a2 (wrap64 (x7_1 + 1))) = some r := by rw [if_pos rfl] at H; exact H
      clear H
      have H := H1
      clear H1
      have H' := Aside0.mk H
      clear H
      have p161 : 0 ≤ ((ji6) : Int) := of_decide_eq_true Z5_12
      have q161 : (ji6) < (l0.length : Int) := of_decide_eq_true Z5_12
      obtain ⟨ad161, e161, hx161_0⟩ := Kd.at_bool HR0.out (ji6) p161 q161
      (try rw [← Nbq9.out] at hx161_0)
      cases e161
      replace p161 := eq_true p161
      replace q161 := eq_true q161
      go_wp2
      go_roundg k1
      case measure => have := HK1.out; omega
      case rel => exact ⟨(wrap64 (x7_1 + 1)), Z5_5, H', ⟨by have := HK1.out; omega⟩, Z5_17⟩
     replace c10 := Bool.eq_false_iff.mpr c10
     subst c10
     have H1 : (some false) = some r := by rw [if_neg (show ¬ (false = true) by decide)] at H; exact H
     clear H
     have H := H1
     clear H1
     obtain rfl := Option.some.inj H
     have p161 : 0 ≤ ((ji6) : Int) := of_decide_eq_true Z5_12
     have q161 : (ji6) < (l0.length : Int) := of_decide_eq_true Z5_12
     obtain ⟨ad161, e161, hx161_0⟩ := Kd.at_bool HR0.out (ji6) p161 q161
     (try rw [← Nbq9.out] at hx161_0)
     cases e161
     replace p161 := eq_true p161
     replace q161 := eq_true q161
     go_wp2
     go_ret
     exact ⟨by first | rfl | (simp; done) | (simp only [← hji6] <;> (first | rfl | simp)) | (simp [*]; done), Z5_17⟩
    rw [if_neg c8] at H
    exact absurd H (by simp)
   rw [if_neg c7] at H
   exact absurd H (by simp)
  rw [if_neg c5] at H
  have c5b0 : decide (x7_1 < a2) = false := decide_eq_false c5
  clear c5
  obtain rfl := Option.some.inj H
  go_wp2
  go_ret
  exact ⟨Z5_5, Z5_17⟩
/-! ### spec_l8List: function 76 -/
mutual
def spec_l8List.l0 : Nat → List Bool → Int → Int → List (S73) → Option (Int × (List (S73)))
 | 0, _, _, _, _ => none
 | k + 1, x0, x4, x167000, x167001 => if x4 < (x0.length : Int) then (if 0 ≤ x4 then (if rdOf false x0 x4 = true then (spec_l8List.l1 k x0 x4 0 x167000 x167001) else (spec_l8List.l0 k x0 (wrap64 (x4 + 1)) x167000 x167001)) else (none)) else (some (x167000, x167001))
def spec_l8List.l1 : Nat → List Bool → Int → Int → Int → List (S73) → Option (Int × (List (S73)))
 | 0, _, _, _, _, _ => none
 | k + 1, x0, x4, x5, x167000, x167001 => if x5 < 10 then ((spec_l8Len.f k (wrap64 (x5 + 1))).bind fun t168 => (if t168 = 0 then (none) else (if (Int.tmod x4 t168) = 0 then ((spec_l8Len.f k (wrap64 (x5 + 1))).bind fun t169 => ((spec_l8Whole.f k x0 x4 t169).bind fun t170 => (if t170 = true then (spec_l8List.l1 k x0 x4 (wrap64 (x5 + 1)) x167000 x167001) else (if x167001.length < 8796093022208 then ((spec_l8Len.f k x5).bind fun t174 => (spec_l8List.l0 k x0 (wrap64 (x4 + t174)) x167000 (x167001 ++ [(⟨x4, x5⟩ : S73)]))) else (none))))) else (if x167001.length < 8796093022208 then ((spec_l8Len.f k x5).bind fun t178 => (spec_l8List.l0 k x0 (wrap64 (x4 + t178)) x167000 (x167001 ++ [(⟨x4, x5⟩ : S73)]))) else (none))))) else (if x167001.length < 8796093022208 then ((spec_l8Len.f k x5).bind fun t182 => (spec_l8List.l0 k x0 (wrap64 (x4 + t182)) x167000 (x167001 ++ [(⟨x4, x5⟩ : S73)]))) else (none))
end
def spec_l8List.f (k : Nat) (l0 : List Bool) : Option (Int × (List (S73))) := spec_l8List.l0 k l0 0 (l0.length : Int) (([] : List (S73)))
theorem spec_l8List.mono_l : ∀ k, (∀ y0 y1 y2 y3, LeO (spec_l8List.l0 k y0 y1 y2 y3) (spec_l8List.l0 (k + 1) y0 y1 y2 y3)) ∧ (∀ y0 y1 y2 y3 y4, LeO (spec_l8List.l1 k y0 y1 y2 y3 y4) (spec_l8List.l1 (k + 1) y0 y1 y2 y3 y4))
 | 0 => ⟨fun _ _ _ _ r h => by simp [spec_l8List.l0] at h, fun _ _ _ _ _ r h => by simp [spec_l8List.l1] at h⟩
 | k + 1 => by
  obtain ⟨ih0, ih1⟩ := spec_l8List.mono_l k
  refine ⟨?_, ?_⟩
  ·intro y0 y1 y2 y3
   unfold spec_l8List.l0
   repeat' first
   | (with_reducible exact ih0 _ _ _ _)
   | (with_reducible exact ih1 _ _ _ _ _)
   | (with_reducible exact spec_l8Len.mono _ _)
   | (with_reducible exact spec_l8Whole.mono _ _ _ _)
   | (with_reducible exact LeO.refl _)
   | (with_reducible exact LeO.none _)
   | (with_reducible refine LeO.ite ?_ ?_)
   | (with_reducible refine LeO.bind ?_ (fun _ => ?_))
   | exact ih0 _ _ _ _
   | exact ih1 _ _ _ _ _
   | exact spec_l8Len.mono _ _
   | exact spec_l8Whole.mono _ _ _ _
   | exact LeO.none _
   | refine LeO.ite ?_ ?_
   | refine LeO.bind ?_ (fun _ => ?_)
  ·intro y0 y1 y2 y3 y4
   unfold spec_l8List.l1
   repeat' first
   | (with_reducible exact ih0 _ _ _ _)
   | (with_reducible exact ih1 _ _ _ _ _)
   | (with_reducible exact spec_l8Len.mono _ _)
   | (with_reducible exact spec_l8Whole.mono _ _ _ _)
   | (with_reducible exact LeO.refl _)
   | (with_reducible exact LeO.none _)
   | (with_reducible refine LeO.ite ?_ ?_)
   | (with_reducible refine LeO.bind ?_ (fun _ => ?_))
   | exact ih0 _ _ _ _
   | exact ih1 _ _ _ _ _
   | exact spec_l8Len.mono _ _
   | exact spec_l8Whole.mono _ _ _ _
   | exact LeO.none _
   | refine LeO.ite ?_ ?_
   | refine LeO.bind ?_ (fun _ => ?_)
theorem spec_l8List.mono : ∀ a0 k, LeO (spec_l8List.f k a0) (spec_l8List.f (k + 1) a0) := by
 intro a0 k
 obtain ⟨ih0, ih1⟩ := spec_l8List.mono_l k
 unfold spec_l8List.f
 repeat' first
   | (with_reducible exact ih0 _ _ _ _)
   | (with_reducible exact ih1 _ _ _ _ _)
   | (with_reducible exact spec_l8Len.mono _ _)
   | (with_reducible exact spec_l8Whole.mono _ _ _ _)
   | (with_reducible exact LeO.refl _)
   | (with_reducible exact LeO.none _)
   | (with_reducible refine LeO.ite ?_ ?_)
   | (with_reducible refine LeO.bind ?_ (fun _ => ?_))
   | exact ih0 _ _ _ _
   | exact ih1 _ _ _ _ _
   | exact spec_l8Len.mono _ _
   | exact spec_l8Whole.mono _ _ _ _
   | exact LeO.none _
   | refine LeO.ite ?_ ?_
   | refine LeO.bind ?_ (fun _ => ?_)
set_option maxHeartbeats 8000000 in
set_option maxRecDepth 100000 in
theorem spec_l8List.calls (k : Nat) (A0 : Option Addr) (c0 : Nat) (l0 : List Bool) (r1 : Int) (r2 : List (S73)) (w : World) (hr0 : Kd.C Kd.bool w A0 l0.length l0) (hc0 : l0.length ≤ c0) (h : spec_l8List.f k l0 = some (r1, r2)) :
  Calls Try.prog 76 #[.slice A0 l0.length c0] w fun e w' => ∃ v1_ : Value, e = .returned (.agg #[.int .i64 r1, v1_]) ∧ Kd.R k73 73 w' w.heap.size (fun _ => True) v1_ r2 ∧ Below w.heap.size w w' := by
 have hu50 := Try.underlying50
 have hu73 := Try.underlying73
 have HR0 := Aside0.mk hr0
 have HC0 := Aside0.mk hc0
 clear hr0 hc0
 have HB := Aside0.mk (Below.refl w.heap.size w)
 have H : (spec_l8List.l0 k l0 0 (l0.length : Int) (([] : List (S73)))) = some (r1, r2) := h
 clear h
 obtain ⟨y163, hy163⟩ : ∃ y_ : List (S73), y_ = (([] : List (S73))) := ⟨_, rfl⟩
 replace H : (spec_l8List.l0 k l0 0 (l0.length : Int) y163) = some (r1, r2) := by first | (rw [hy163]; with_reducible exact H) | (have H2_ := (Option.bind_some _ _).symm.trans H; rw [hy163]; with_reducible exact H2_) | (have H2_ := (Option.bind_some _ _).symm.trans H; with_reducible exact H2_) | with_reducible exact H | (rw [hy163]; exact H) | exact H
 have Ny163 := Aside0.mk hy163
 clear hy163
 have H' := Aside0.mk H
 clear H
 go_enter Try.func76, Try.ntmps76
 go_wp2_with (first | ((with_reducible refine gate_dst (N := 2) rfl ?_); refine box_event ?hg (N := 2) ?hd (cs := #[.int .i64 0, .slice none 0 0]) (t := 50) ?hr ?_; (case hd => rfl); (case hg => rfl); (case hr => exact Z5_19); intro gb162 hg w2 hbox hb; have n0_ := Aside0.mk (below_step Z5_10 hb); have n1_ := Aside0.mk (hbox); have n2_ := Aside0.mk ((by rw [hg]; exact (below_size Z5_10) : w.heap.size ≤ gb162)); have n3_ := Aside0.mk ((by rw [hg]; exact (below_size Z5_10) : w.heap.size ≤ gb162)); clear HB; have HB := n0_; have BK162 := n1_; have GW162 := n2_; have GE162 := n3_; clear n0_ n1_ n2_ n3_; clear hb hbox hg) | ((with_reducible refine gate_dst (N := 8) rfl ?_); refine Kd.R_lit k73 _ 73 ?hg (N := 8) ?hd (xs := ([] : List (S73))) (inner := []) (ok := fun _ => True) (okp := fun _ => True) ?hr ?hp (fun _ hk => hk) trivial (Below.refl _ _) (Nat.le_refl _) (by simp) ?_; (case hd => rfl); (case hg => rfl); (case hr => exact Z5_19); (case hp => exact (Reps.none _ _)); intro v164 w3 ho4 hb hg_ hnew_; clear hg_ hnew_; (first | rw [← Ny163.out] at ho4 | (simp only [Int.reduceToNat] at ho4; rw [← Ny163.out] at ho4)); have n0_ := Aside0.mk (Kd.R_lower ho4 (below_size Z5_11)); have n1_ := Aside0.mk (blk_below (g := gb162) (o := .cells #[.int .i64 0, .slice none 0 0] 50 (0, 0)) Z5_4 hb); have n2_ := Aside0.mk (below_step Z5_11 hb); clear BK162; clear HB; have HO165 := n0_; have BK162 := n1_; have HB := n2_; clear n0_ n1_ n2_; clear hb ho4; obtain ⟨Ao5, co5, eo5⟩ := Kd.R_slice HO165.out; subst eo5) | ((with_reducible refine gate_dst (N := 3) rfl ?_); refine box_event ?hg (N := 3) ?hd (cs := #[.int .i64 0, .slice none 0 0]) (t := 50) ?hr ?_; (case hd => rfl); (case hg => rfl); (case hr => exact Z5_19); intro gb166 hg w6 hbox hb; have n0_ := Aside0.mk (Kd.R_below (by (with_reducible repeat (first | apply Kd.R_alloc | apply Kd.R_drewN | apply Kd.R_drew)); exact HO165.out) hb); have n1_ := Aside0.mk (blk_below (g := gb162) (o := .cells #[.int .i64 0, .slice none 0 0] 50 (0, 0)) Z5_4 hb); have n2_ := Aside0.mk (below_step Z5_11 hb); have n3_ := Aside0.mk (hbox); have n4_ := Aside0.mk ((by rw [hg]; exact (below_size Z5_11) : w.heap.size ≤ gb166)); have n5_ := Aside0.mk ((by rw [hg]; exact (below_size Z5_11) : w.heap.size ≤ gb166)); have n6_ := Aside0.mk ((by rw [hg]; exact Nat.ne_of_lt (blk_lt (g := gb162) (o := .cells #[.int .i64 0, .slice none 0 0] 50 (0, 0)) Z5_4) : gb162 ≠ gb166)); have n7_ := Aside0.mk ((by rw [hg]; exact Nat.ne_of_gt (blk_lt (g := gb162) (o := .cells #[.int .i64 0, .slice none 0 0] 50 (0, 0)) Z5_4) : gb166 ≠ gb162)); clear HO165; clear BK162; clear HB; have HO165 := n0_; have BK162 := n1_; have HB := n2_; have BK166 := n3_; have GW166 := n4_; have GE166 := n5_; have NB162_166 := n6_; have NB166_162 := n7_; clear n0_ n1_ n2_ n3_ n4_ n5_ n6_ n7_; clear hb hbox hg; have hnb7 := NB166_162.out; have hnc7 := NB162_166.out; have hcz8_0 : w6.cell? ⟨gb166, 0, none⟩ = some (.int .i64 0) := (blk_cell BK166.out 0).trans rfl; have hcz8_1 : w6.cell? ⟨gb166, 1, none⟩ = some (.slice none 0 0) := (blk_cell BK166.out 1).trans rfl; have hfz8_0 := blk_frozen BK166.out 0; have hfz8_1 := blk_frozen BK166.out 1))
 go_loopg [4] k (fun kq v4 w' => ∃ (x4_1 : Int) (x167001_1 : List (S73)) (u167001 : Value), v4 = .int .i64 x4_1 ∧ Aside0 (spec_l8List.l0 kq l0 x4_1 (l0.length : Int) x167001_1 = some (r1, r2)) ∧ Aside0 (kq ≤ k) ∧ Aside0 (Kd.R k73 73 w' w.heap.size (fun _ => True) u167001 x167001_1) ∧ Aside0 (w'.heap[gb162]? = some (.cells #[.int .i64 0, (.slice none 0 0)] 50 (0, 0))) ∧ Aside0 (w'.heap[gb166]? = some (.cells #[.int .i64 (l0.length : Int), u167001] 50 (0, 0))) ∧ Aside0 (Below w.heap.size w w'))
 case atStart => exact ⟨(0), (y163), (.slice Ao5 y163.length co5), Z5_5, H', ⟨Nat.le_refl _⟩, ⟨by (with_reducible repeat (first | apply Kd.R_alloc | apply Kd.R_drewN | apply Kd.R_drew)); exact Kd.R_mono (Kd.R_far (p := ⟨gb166, 1, none⟩) (Kd.R_far (p := ⟨gb166, 0, none⟩) (Kd.R_types HO165.out BK166.out (by decide)) (fun _ hk => hk.2) (.int .i64 (l0.length : Int))) (fun _ hk => hk.2) (.slice Ao5 y163.length co5)) (fun _ hk => trivial)⟩, ⟨by (with_reducible repeat (first | apply blk_drewN | apply blk_drew | apply blk_alloc)); refine blk_far ?_ NB162_166.out _; (with_reducible repeat (first | apply blk_drewN | apply blk_drew | apply blk_alloc)); refine blk_far ?_ NB162_166.out _; (with_reducible repeat (first | apply blk_drewN | apply blk_drew | apply blk_alloc)); exact BK162.out⟩, ⟨by (with_reducible repeat (first | apply blk_drewN | apply blk_drew | apply blk_alloc)); refine blk_put (cs := #[.int .i64 (l0.length : Int), .slice none 0 0]) ?_ 1 _ rfl; (with_reducible repeat (first | apply blk_drewN | apply blk_drew | apply blk_alloc)); refine blk_put (cs := #[.int .i64 0, .slice none 0 0]) ?_ 0 _ rfl; (with_reducible repeat (first | apply blk_drewN | apply blk_drew | apply blk_alloc)); exact BK166.out⟩, ⟨Z5_1⟩⟩
 clear H'
 try clear p2
 try clear c7
 try clear hcz8_0
 try clear hcz8_1
 try clear hfz8_0
 try clear hfz8_1
 obtain ⟨x4_1, x167001_1, u167001, rfl, HA, HK1, HO_167001, BK162, BK166, HB⟩ := hrel
 cases gk with
 | zero => exact absurd HA.out (by simp [spec_l8List.l0])
 | succ k1 =>
  have H := HA.out
  clear HA
  simp only [spec_l8List.l0] at H
  by_cases c9 : x4_1 < (l0.length : Int)
  ·rw [if_pos c9] at H
   have c9b0 : decide (x4_1 < (l0.length : Int)) = true := decide_eq_true c9
   clear c9
   by_cases c10 : 0 ≤ x4_1
   ·rw [if_pos c10] at H
    have c10b0 : decide (0 ≤ x4_1) = true := decide_eq_true c10
    clear c10
    obtain ⟨bq11, hbq11⟩ : ∃ b_ : Bool, b_ = (rdOf false l0 x4_1) := ⟨_, rfl⟩
    replace H : (if bq11 = true then (spec_l8List.l1 k1 l0 x4_1 0 (l0.length : Int) x167001_1) else (spec_l8List.l0 k1 l0 (wrap64 (x4_1 + 1)) (l0.length : Int) x167001_1)) = some (r1, r2) := by rw [← hbq11] at H; exact H
    have Nbq11 := Aside0.mk hbq11
    clear hbq11
    by_cases c12 : bq11 = true
    ·subst c12
     have H1 : (spec_l8List.l1 k1 l0 x4_1 0 (l0.length : Int) x167001_1) = some (r1, r2) := by rw [if_pos rfl] at H; exact H
     clear H
     have H := H1
     clear H1
     have H' := Aside0.mk H
     clear H
     have p167 : 0 ≤ (x4_1 : Int) := of_decide_eq_true Z5_12
     have q167 : x4_1 < (l0.length : Int) := of_decide_eq_true Z5_12
     obtain ⟨ad167, e167, hx167_0⟩ := Kd.at_bool HR0.out x4_1 p167 q167
     (try rw [← Nbq11.out] at hx167_0)
     cases e167
     replace hx167_0 := (HB.out.cell (World.block_lt_of_cell? w _ hx167_0)).trans hx167_0
     replace p167 := eq_true p167
     replace q167 := eq_true q167
     go_wp2
     go_loopg [5] k1 (fun kq v5 w' => ∃ (x5_2 : Int), v5 = .int .i64 x5_2 ∧ Aside0 (spec_l8List.l1 kq l0 x4_1 x5_2 (l0.length : Int) x167001_1 = some (r1, r2)) ∧ Aside0 (kq ≤ k1) ∧ Aside0 (Kd.R k73 73 w' w.heap.size (fun _ => True) u167001 x167001_1) ∧ Aside0 (w'.heap[gb162]? = some (.cells #[.int .i64 0, (.slice none 0 0)] 50 (0, 0))) ∧ Aside0 (w'.heap[gb166]? = some (.cells #[.int .i64 (l0.length : Int), u167001] 50 (0, 0))) ∧ Aside0 (Below w.heap.size w w'))
     case atStart => exact ⟨(0), Z5_5, H', ⟨Nat.le_refl _⟩, ⟨Z5_8⟩, ⟨Z5_4⟩, ⟨Z5_9⟩, ⟨Z5_1⟩⟩
     clear H'
     try clear c1
     try clear p1
     try clear q1
     try clear hx1
     try clear p2
     try clear p6
     try clear c7
     try clear c9
     try clear c9b0
     try clear c10
     try clear c10b0
     try clear q11
     try clear c12
     try clear hcz8_0
     try clear hcz8_1
     try clear hfz8_0
     try clear hfz8_1
     try clear hx167_0
     try clear p167
     try clear p2
     try clear q167
     obtain ⟨x5_2, rfl, HA, HK2, HO_167001, BK162, BK166, HB⟩ := hrel
     cases gk with
     | zero => exact absurd HA.out (by simp [spec_l8List.l1])
     | succ k2 =>
      have H := HA.out
      clear HA
      simp only [spec_l8List.l1] at H
      by_cases c13 : x5_2 < 10
      ·rw [if_pos c13] at H
       have c13b0 : decide (x5_2 < 10) = true := decide_eq_true c13
       clear c13
       replace H := Option.bind_eq_some_iff.mp H
       obtain ⟨t168, A140, H⟩ := H
       replace H : (if t168 = 0 then (none) else (if (Int.tmod x4_1 t168) = 0 then ((spec_l8Len.f k2 (wrap64 (x5_2 + 1))).bind fun t169 => ((spec_l8Whole.f k2 l0 x4_1 t169).bind fun t170 => (if t170 = true then (spec_l8List.l1 k2 l0 x4_1 (wrap64 (x5_2 + 1)) (l0.length : Int) x167001_1) else (if x167001_1.length < 8796093022208 then ((spec_l8Len.f k2 x5_2).bind fun t174 => (spec_l8List.l0 k2 l0 (wrap64 (x4_1 + t174)) (l0.length : Int) (x167001_1 ++ [(⟨x4_1, x5_2⟩ : S73)]))) else (none))))) else (if x167001_1.length < 8796093022208 then ((spec_l8Len.f k2 x5_2).bind fun t178 => (spec_l8List.l0 k2 l0 (wrap64 (x4_1 + t178)) (l0.length : Int) (x167001_1 ++ [(⟨x4_1, x5_2⟩ : S73)]))) else (none)))) = some (r1, r2) := H
       have A14 := Aside0.mk A140
       clear A140
       by_cases c15 : t168 = 0
       ·rw [if_pos c15] at H
        exact absurd H (by simp)
       rw [if_neg c15] at H
       have c15b0 : (t168 == 0) = false := beq_eq_false_iff_ne.mpr c15
       have c15b1 : (t168 != 0) = true := bne_iff_ne.mpr c15
       by_cases c16 : (Int.tmod x4_1 t168) = 0
       ·rw [if_pos c16] at H
        have c16b0 : ((Int.tmod x4_1 t168) == 0) = true := beq_iff_eq.mpr c16
        have c16b1 : ((Int.tmod x4_1 t168) != 0) = false := bne_eq_false_iff_eq.mpr c16
        clear c16
        replace H := Option.bind_eq_some_iff.mp H
        obtain ⟨t169, A170, H⟩ := H
        replace H : ((spec_l8Whole.f k2 l0 x4_1 t169).bind fun t170 => (if t170 = true then (spec_l8List.l1 k2 l0 x4_1 (wrap64 (x5_2 + 1)) (l0.length : Int) x167001_1) else (if x167001_1.length < 8796093022208 then ((spec_l8Len.f k2 x5_2).bind fun t174 => (spec_l8List.l0 k2 l0 (wrap64 (x4_1 + t174)) (l0.length : Int) (x167001_1 ++ [(⟨x4_1, x5_2⟩ : S73)]))) else (none)))) = some (r1, r2) := H
        have A17 := Aside0.mk A170
        clear A170
        have htw_ : t169 = t168 := Option.some.inj (A17.out.symm.trans A14.out)
        replace H := Option.bind_eq_some_iff.mp H
        obtain ⟨t170, A180, H⟩ := H
        replace H : (if t170 = true then (spec_l8List.l1 k2 l0 x4_1 (wrap64 (x5_2 + 1)) (l0.length : Int) x167001_1) else (if x167001_1.length < 8796093022208 then ((spec_l8Len.f k2 x5_2).bind fun t174 => (spec_l8List.l0 k2 l0 (wrap64 (x4_1 + t174)) (l0.length : Int) (x167001_1 ++ [(⟨x4_1, x5_2⟩ : S73)]))) else (none))) = some (r1, r2) := H
        have A18 := Aside0.mk A180
        clear A180
        rw [htw_] at A18
        by_cases c19 : t170 = true
        ·subst c19
         have H1 : (spec_l8List.l1 k2 l0 x4_1 (wrap64 (x5_2 + 1)) (l0.length : Int) x167001_1) = some (r1, r2) := by rw [if_pos rfl] at H; exact H
         clear H
         have H := H1
         clear H1
         have H' := Aside0.mk H
         clear H
         go_wp2_with (first | (go_at_call 72; (with_reducible refine (spec_l8Len.calls k2 (wrap64 (x5_2 + 1)) t168 _ A14.out).mono ?_); rintro e w' ⟨rfl, ⟨nd, rfl⟩⟩) | (go_at_call 72; (with_reducible refine (spec_l8Len.calls k2 (wrap64 (x5_2 + 1)) t169 _ A17.out).mono ?_); rintro e w' ⟨rfl, ⟨nd, rfl⟩⟩) | (go_at_call 81; (with_reducible refine (spec_l8Whole.calls k2 _ _ l0 x4_1 t168 true _ ?side1 ?side2 A18.out).mono ?_); (case side1 => repeat (first | exact (Kd.C_below HR0.out Z5_1) | (with_reducible refine Kd.C_alloc ?_ _) | (with_reducible refine Kd.C_drewN ?_ _) | (with_reducible refine Kd.C_drew ?_))); (case side2 => exact HC0.out); rintro e w' ⟨rfl, ⟨nd, rfl⟩⟩))
         go_roundg k2
         case measure => have := HK1.out; have := HK2.out; omega
         case rel => exact ⟨(wrap64 (x5_2 + 1)), Z5_5, H', ⟨Z5_20⟩, ⟨Z5_8⟩, ⟨Z5_4⟩, ⟨Z5_9⟩, ⟨Z5_1⟩⟩
        replace c19 := Bool.eq_false_iff.mpr c19
        subst c19
        have H1 : (if x167001_1.length < 8796093022208 then ((spec_l8Len.f k2 x5_2).bind fun t174 => (spec_l8List.l0 k2 l0 (wrap64 (x4_1 + t174)) (l0.length : Int) (x167001_1 ++ [(⟨x4_1, x5_2⟩ : S73)]))) else (none)) = some (r1, r2) := by rw [if_neg (show ¬ (false = true) by decide)] at H; exact H
        clear H
        have H := H1
        clear H1
        by_cases c20 : x167001_1.length < 8796093022208
        ·rw [if_pos c20] at H
         have LMc20 := Aside0.mk c20
         clear c20
         obtain ⟨y171, hy171⟩ : ∃ y_ : List (S73), y_ = (x167001_1 ++ [(⟨x4_1, x5_2⟩ : S73)]) := ⟨_, rfl⟩
         replace H : ((spec_l8Len.f k2 x5_2).bind fun t174 => (spec_l8List.l0 k2 l0 (wrap64 (x4_1 + t174)) (l0.length : Int) y171)) = some (r1, r2) := by first | (rw [hy171]; with_reducible exact H) | (have H2_ := (Option.bind_some _ _).symm.trans H; rw [hy171]; with_reducible exact H2_) | (have H2_ := (Option.bind_some _ _).symm.trans H; with_reducible exact H2_) | with_reducible exact H | (rw [hy171]; exact H) | exact H
         have Ny171 := Aside0.mk hy171
         clear hy171
         replace H := Option.bind_eq_some_iff.mp H
         obtain ⟨t174, A210, H⟩ := H
         replace H : (spec_l8List.l0 k2 l0 (wrap64 (x4_1 + t174)) (l0.length : Int) y171) = some (r1, r2) := H
         have A21 := Aside0.mk A210
         clear A210
         have H' := Aside0.mk H
         clear H
         go_wp2_with (first | (go_at_call 72; (with_reducible refine (spec_l8Len.calls k2 (wrap64 (x5_2 + 1)) t168 _ A14.out).mono ?_); rintro e w' ⟨rfl, ⟨nd, rfl⟩⟩; (try (rw [drewN_self wr]; generalize hq_ : World.drewN wr _ = wr; have n0_ : Aside0 (Kd.R k73 73 wr w.heap.size (fun _ => True) u167001 x167001_1) := ⟨by rw [← hq_]; exact Z5_8⟩; have n1_ : Aside0 (wr.heap[gb162]? = some (.cells #[.int .i64 0, .slice none 0 0] 50 (0, 0))) := ⟨by rw [← hq_]; exact Z5_4⟩; have n2_ : Aside0 (wr.heap[gb166]? = some (.cells #[.int .i64 (l0.length : Int), u167001] 50 (0, 0))) := ⟨by rw [← hq_]; exact Z5_9⟩; have n3_ : Aside0 (Below w.heap.size w wr) := ⟨by rw [← hq_]; exact Z5_1⟩; clear HO_167001 BK162 BK166 HB hq_; have HO_167001 := n0_; have BK162 := n1_; have BK166 := n2_; have HB := n3_; clear n0_ n1_ n2_ n3_))) | (go_at_call 72; (with_reducible refine (spec_l8Len.calls k2 (wrap64 (x5_2 + 1)) t169 _ A17.out).mono ?_); rintro e w' ⟨rfl, ⟨nd, rfl⟩⟩; (try (rw [drewN_self wr]; generalize hq_ : World.drewN wr _ = wr; have n0_ : Aside0 (Kd.R k73 73 wr w.heap.size (fun _ => True) u167001 x167001_1) := ⟨by rw [← hq_]; exact Z5_8⟩; have n1_ : Aside0 (wr.heap[gb162]? = some (.cells #[.int .i64 0, .slice none 0 0] 50 (0, 0))) := ⟨by rw [← hq_]; exact Z5_4⟩; have n2_ : Aside0 (wr.heap[gb166]? = some (.cells #[.int .i64 (l0.length : Int), u167001] 50 (0, 0))) := ⟨by rw [← hq_]; exact Z5_9⟩; have n3_ : Aside0 (Below w.heap.size w wr) := ⟨by rw [← hq_]; exact Z5_1⟩; clear HO_167001 BK162 BK166 HB hq_; have HO_167001 := n0_; have BK162 := n1_; have BK166 := n2_; have HB := n3_; clear n0_ n1_ n2_ n3_))) | (go_at_call 81; (with_reducible refine (spec_l8Whole.calls k2 _ _ l0 x4_1 t168 false _ ?side1 ?side2 A18.out).mono ?_); (case side1 => repeat (first | exact (Kd.C_below HR0.out HB.out) | (with_reducible refine Kd.C_alloc ?_ _) | (with_reducible refine Kd.C_drewN ?_ _) | (with_reducible refine Kd.C_drew ?_))); (case side2 => exact HC0.out); rintro e w' ⟨rfl, ⟨nd, rfl⟩⟩; (try (rw [drewN_self wr]; generalize hq_ : World.drewN wr _ = wr; have n0_ : Aside0 (Kd.R k73 73 wr w.heap.size (fun _ => True) u167001 x167001_1) := ⟨by rw [← hq_]; exact Z5_8⟩; have n1_ : Aside0 (wr.heap[gb162]? = some (.cells #[.int .i64 0, .slice none 0 0] 50 (0, 0))) := ⟨by rw [← hq_]; exact Z5_4⟩; have n2_ : Aside0 (wr.heap[gb166]? = some (.cells #[.int .i64 (l0.length : Int), u167001] 50 (0, 0))) := ⟨by rw [← hq_]; exact Z5_9⟩; have n3_ : Aside0 (Below w.heap.size w wr) := ⟨by rw [← hq_]; exact Z5_1⟩; clear HO_167001 BK162 BK166 HB hq_; have HO_167001 := n0_; have BK162 := n1_; have BK166 := n2_; have HB := n3_; clear n0_ n1_ n2_ n3_)); have hnb22 := NB166_162.out; have hnc22 := NB162_166.out; have hcz23_0 : wr.cell? ⟨gb166, 0, none⟩ = some (.int .i64 (l0.length : Int)) := (blk_cell BK166.out 0).trans rfl; have hcz23_1 : wr.cell? ⟨gb166, 1, none⟩ = some (u167001) := (blk_cell BK166.out 1).trans rfl; have hfz23_0 := blk_frozen BK166.out 0; have hfz23_1 := blk_frozen BK166.out 1) | ((with_reducible refine gate_builtin (b := .append) (xs := #[.tmp 42, .tmp 46]) rfl ?_); at_builtin; refine Kd.R_append k73 (w0 := w) w.heap.size rfl (.tmp 42) (.tmp 46) 48 73 (.agg #[(.int .i64 0), (.int .i64 0)]) 16 rfl Try.underlying48 info73 rfl (by decide) (by omega) u167001 x167001_1 (⟨x4_1, x5_2⟩ : S73) [.int .i64 x4_1, .int .i64 x5_2] (fun _ => True) (fun _ => False) rfl rfl ?aP (fun _ hk => hk.elim) ?aF ?aO ?aB ?aS ?aL ?_; (case aP => exact k73_mkM _ _ _ (⟨x4_1, x5_2⟩ : S73)); (case aB => exact Z5_1); (case aF => exact (fun _ _ => trivial)); (case aO => exact Z5_8); (case aS => exact (below_size Z5_1)); (case aL => have := LMc20.out; omega); intro v172 w24 ho hb hg hat; rw [← Ny171.out] at ho; have n0_ := Aside0.mk (blk_grown (g := gb162) (o := .cells #[.int .i64 0, .slice none 0 0] 50 (0, 0)) Z5_4 hg (Kd.R_ne HO_167001.out BK162.out (by decide))); have n1_ := Aside0.mk (blk_grown (g := gb166) (o := .cells #[.int .i64 (l0.length : Int), u167001] 50 (0, 0)) Z5_9 hg (Kd.R_ne HO_167001.out BK166.out (by decide))); have n2_ := Aside0.mk (hb); have n3_ := Aside0.mk (ho); clear BK162; clear BK166; clear HB; clear HO_167001; have BK162 := n0_; have BK166 := n1_; have HB := n2_; have HO173 := n3_; clear n0_ n1_ n2_ n3_; clear ho hb hg hat; obtain ⟨Ao25, co25, eo25⟩ := Kd.R_slice HO173.out; subst eo25; have hcz26_0 : w24.cell? ⟨gb166, 0, none⟩ = some (.int .i64 (l0.length : Int)) := (blk_cell BK166.out 0).trans rfl; have hcz26_1 : w24.cell? ⟨gb166, 1, none⟩ = some (u167001) := (blk_cell BK166.out 1).trans rfl; have hfz26_0 := blk_frozen BK166.out 0; have hfz26_1 := blk_frozen BK166.out 1) | ((with_reducible refine gate_callee (f := 72) rfl ?_); refine goesL_ (some 51) rfl rfl Try.func72 (by kernel_rfl) rfl #[.int .i64 x5_2] rfl Z5_6 ?_; (with_reducible refine (spec_l8Len.calls k2 x5_2 t174 _ A21.out).mono ?_); rintro e w' ⟨rfl, ⟨nd, rfl⟩⟩; refine ⟨_, rfl, ?_⟩))
         go_roundg k2
         case measure => have := HK1.out; have := HK2.out; omega
         case rel => exact ⟨(wrap64 (x4_1 + t174)), (y171), (.slice Ao25 y171.length co25), Z5_5, H', ⟨Z5_20⟩, ⟨by (with_reducible repeat (first | apply Kd.R_alloc | apply Kd.R_drewN | apply Kd.R_drew)); exact Kd.R_mono (Kd.R_far (p := ⟨gb166, 1, none⟩) (Kd.R_types HO173.out BK166.out (by decide)) (fun _ hk => hk.2) (.slice Ao25 y171.length co25)) (fun _ hk => trivial)⟩, ⟨Z5_15⟩, ⟨Z5_13⟩, ⟨Z5_1⟩⟩
        rw [if_neg c20] at H
        exact absurd H (by simp)
       rw [if_neg c16] at H
       have c16b0 : ((Int.tmod x4_1 t168) == 0) = false := beq_eq_false_iff_ne.mpr c16
       have c16b1 : ((Int.tmod x4_1 t168) != 0) = true := bne_iff_ne.mpr c16
       by_cases c27 : x167001_1.length < 8796093022208
       ·rw [if_pos c27] at H
        have LMc27 := Aside0.mk c27
        clear c27
        obtain ⟨y175, hy175⟩ : ∃ y_ : List (S73), y_ = (x167001_1 ++ [(⟨x4_1, x5_2⟩ : S73)]) := ⟨_, rfl⟩
        replace H : ((spec_l8Len.f k2 x5_2).bind fun t178 => (spec_l8List.l0 k2 l0 (wrap64 (x4_1 + t178)) (l0.length : Int) y175)) = some (r1, r2) := by first | (rw [hy175]; with_reducible exact H) | (have H2_ := (Option.bind_some _ _).symm.trans H; rw [hy175]; with_reducible exact H2_) | (have H2_ := (Option.bind_some _ _).symm.trans H; with_reducible exact H2_) | with_reducible exact H | (rw [hy175]; exact H) | exact H
        have Ny175 := Aside0.mk hy175
        clear hy175
        replace H := Option.bind_eq_some_iff.mp H
        obtain ⟨t178, A280, H⟩ := H
        replace H : (spec_l8List.l0 k2 l0 (wrap64 (x4_1 + t178)) (l0.length : Int) y175) = some (r1, r2) := H
        have A28 := Aside0.mk A280
        clear A280
        have H' := Aside0.mk H
        clear H
        go_wp2_with (first | (go_at_call 72; (with_reducible refine (spec_l8Len.calls k2 (wrap64 (x5_2 + 1)) t168 _ A14.out).mono ?_); rintro e w' ⟨rfl, ⟨nd, rfl⟩⟩; (try (rw [drewN_self wr]; generalize hq_ : World.drewN wr _ = wr; have n0_ : Aside0 (Kd.R k73 73 wr w.heap.size (fun _ => True) u167001 x167001_1) := ⟨by rw [← hq_]; exact Z5_8⟩; have n1_ : Aside0 (wr.heap[gb162]? = some (.cells #[.int .i64 0, .slice none 0 0] 50 (0, 0))) := ⟨by rw [← hq_]; exact Z5_4⟩; have n2_ : Aside0 (wr.heap[gb166]? = some (.cells #[.int .i64 (l0.length : Int), u167001] 50 (0, 0))) := ⟨by rw [← hq_]; exact Z5_9⟩; have n3_ : Aside0 (Below w.heap.size w wr) := ⟨by rw [← hq_]; exact Z5_1⟩; clear HO_167001 BK162 BK166 HB hq_; have HO_167001 := n0_; have BK162 := n1_; have BK166 := n2_; have HB := n3_; clear n0_ n1_ n2_ n3_)); have hnb29 := NB166_162.out; have hnc29 := NB162_166.out; have hcz30_0 : wr.cell? ⟨gb166, 0, none⟩ = some (.int .i64 (l0.length : Int)) := (blk_cell BK166.out 0).trans rfl; have hcz30_1 : wr.cell? ⟨gb166, 1, none⟩ = some (u167001) := (blk_cell BK166.out 1).trans rfl; have hfz30_0 := blk_frozen BK166.out 0; have hfz30_1 := blk_frozen BK166.out 1) | ((with_reducible refine gate_builtin (b := .append) (xs := #[.tmp 42, .tmp 46]) rfl ?_); at_builtin; refine Kd.R_append k73 (w0 := w) w.heap.size rfl (.tmp 42) (.tmp 46) 48 73 (.agg #[(.int .i64 0), (.int .i64 0)]) 16 rfl Try.underlying48 info73 rfl (by decide) (by omega) u167001 x167001_1 (⟨x4_1, x5_2⟩ : S73) [.int .i64 x4_1, .int .i64 x5_2] (fun _ => True) (fun _ => False) rfl rfl ?aP (fun _ hk => hk.elim) ?aF ?aO ?aB ?aS ?aL ?_; (case aP => exact k73_mkM _ _ _ (⟨x4_1, x5_2⟩ : S73)); (case aB => exact Z5_1); (case aF => exact (fun _ _ => trivial)); (case aO => exact Z5_8); (case aS => exact (below_size Z5_1)); (case aL => have := LMc27.out; omega); intro v176 w31 ho hb hg hat; rw [← Ny175.out] at ho; have n0_ := Aside0.mk (blk_grown (g := gb162) (o := .cells #[.int .i64 0, .slice none 0 0] 50 (0, 0)) Z5_4 hg (Kd.R_ne HO_167001.out BK162.out (by decide))); have n1_ := Aside0.mk (blk_grown (g := gb166) (o := .cells #[.int .i64 (l0.length : Int), u167001] 50 (0, 0)) Z5_9 hg (Kd.R_ne HO_167001.out BK166.out (by decide))); have n2_ := Aside0.mk (hb); have n3_ := Aside0.mk (ho); clear BK162; clear BK166; clear HB; clear HO_167001; have BK162 := n0_; have BK166 := n1_; have HB := n2_; have HO177 := n3_; clear n0_ n1_ n2_ n3_; clear ho hb hg hat; obtain ⟨Ao32, co32, eo32⟩ := Kd.R_slice HO177.out; subst eo32; have hcz33_0 : w31.cell? ⟨gb166, 0, none⟩ = some (.int .i64 (l0.length : Int)) := (blk_cell BK166.out 0).trans rfl; have hcz33_1 : w31.cell? ⟨gb166, 1, none⟩ = some (u167001) := (blk_cell BK166.out 1).trans rfl; have hfz33_0 := blk_frozen BK166.out 0; have hfz33_1 := blk_frozen BK166.out 1) | ((with_reducible refine gate_callee (f := 72) rfl ?_); refine goesL_ (some 51) rfl rfl Try.func72 (by kernel_rfl) rfl #[.int .i64 x5_2] rfl Z5_6 ?_; (with_reducible refine (spec_l8Len.calls k2 x5_2 t178 _ A28.out).mono ?_); rintro e w' ⟨rfl, ⟨nd, rfl⟩⟩; refine ⟨_, rfl, ?_⟩))
        go_roundg k2
        case measure => have := HK1.out; have := HK2.out; omega
        case rel => exact ⟨(wrap64 (x4_1 + t178)), (y175), (.slice Ao32 y175.length co32), Z5_5, H', ⟨Z5_20⟩, ⟨by (with_reducible repeat (first | apply Kd.R_alloc | apply Kd.R_drewN | apply Kd.R_drew)); exact Kd.R_mono (Kd.R_far (p := ⟨gb166, 1, none⟩) (Kd.R_types HO177.out BK166.out (by decide)) (fun _ hk => hk.2) (.slice Ao32 y175.length co32)) (fun _ hk => trivial)⟩, ⟨Z5_15⟩, ⟨Z5_13⟩, ⟨Z5_1⟩⟩
       rw [if_neg c27] at H
       exact absurd H (by simp)
      rw [if_neg c13] at H
      have c13b0 : decide (x5_2 < 10) = false := decide_eq_false c13
      clear c13
      by_cases c34 : x167001_1.length < 8796093022208
      ·rw [if_pos c34] at H
       have LMc34 := Aside0.mk c34
       clear c34
       obtain ⟨y179, hy179⟩ : ∃ y_ : List (S73), y_ = (x167001_1 ++ [(⟨x4_1, x5_2⟩ : S73)]) := ⟨_, rfl⟩
       replace H : ((spec_l8Len.f k2 x5_2).bind fun t182 => (spec_l8List.l0 k2 l0 (wrap64 (x4_1 + t182)) (l0.length : Int) y179)) = some (r1, r2) := by first | (rw [hy179]; with_reducible exact H) | (have H2_ := (Option.bind_some _ _).symm.trans H; rw [hy179]; with_reducible exact H2_) | (have H2_ := (Option.bind_some _ _).symm.trans H; with_reducible exact H2_) | with_reducible exact H | (rw [hy179]; exact H) | exact H
       have Ny179 := Aside0.mk hy179
       clear hy179
       replace H := Option.bind_eq_some_iff.mp H
       obtain ⟨t182, A350, H⟩ := H
       replace H : (spec_l8List.l0 k2 l0 (wrap64 (x4_1 + t182)) (l0.length : Int) y179) = some (r1, r2) := H
       have A35 := Aside0.mk A350
       clear A350
       have H' := Aside0.mk H
       clear H
       have hnb36 := NB166_162.out
       have hnc36 := NB162_166.out
       have hcz37_0 : wr.cell? ⟨gb166, 0, none⟩ = some (.int .i64 (l0.length : Int)) := (blk_cell BK166.out 0).trans rfl
       have hcz37_1 : wr.cell? ⟨gb166, 1, none⟩ = some (u167001) := (blk_cell BK166.out 1).trans rfl
       have hfz37_0 := blk_frozen BK166.out 0
       have hfz37_1 := blk_frozen BK166.out 1
       go_wp2_with (first | ((with_reducible refine gate_builtin (b := .append) (xs := #[.tmp 42, .tmp 46]) rfl ?_); at_builtin; refine Kd.R_append k73 (w0 := w) w.heap.size rfl (.tmp 42) (.tmp 46) 48 73 (.agg #[(.int .i64 0), (.int .i64 0)]) 16 rfl Try.underlying48 info73 rfl (by decide) (by omega) u167001 x167001_1 (⟨x4_1, x5_2⟩ : S73) [.int .i64 x4_1, .int .i64 x5_2] (fun _ => True) (fun _ => False) rfl rfl ?aP (fun _ hk => hk.elim) ?aF ?aO ?aB ?aS ?aL ?_; (case aP => exact k73_mkM _ _ _ (⟨x4_1, x5_2⟩ : S73)); (case aB => exact Z5_1); (case aF => exact (fun _ _ => trivial)); (case aO => exact Z5_8); (case aS => exact (below_size Z5_1)); (case aL => have := LMc34.out; omega); intro v180 w38 ho hb hg hat; rw [← Ny179.out] at ho; have n0_ := Aside0.mk (blk_grown (g := gb162) (o := .cells #[.int .i64 0, .slice none 0 0] 50 (0, 0)) Z5_4 hg (Kd.R_ne HO_167001.out BK162.out (by decide))); have n1_ := Aside0.mk (blk_grown (g := gb166) (o := .cells #[.int .i64 (l0.length : Int), u167001] 50 (0, 0)) Z5_9 hg (Kd.R_ne HO_167001.out BK166.out (by decide))); have n2_ := Aside0.mk (hb); have n3_ := Aside0.mk (ho); clear BK162; clear BK166; clear HB; clear HO_167001; have BK162 := n0_; have BK166 := n1_; have HB := n2_; have HO181 := n3_; clear n0_ n1_ n2_ n3_; clear ho hb hg hat; obtain ⟨Ao39, co39, eo39⟩ := Kd.R_slice HO181.out; subst eo39; have hcz40_0 : w38.cell? ⟨gb166, 0, none⟩ = some (.int .i64 (l0.length : Int)) := (blk_cell BK166.out 0).trans rfl; have hcz40_1 : w38.cell? ⟨gb166, 1, none⟩ = some (u167001) := (blk_cell BK166.out 1).trans rfl; have hfz40_0 := blk_frozen BK166.out 0; have hfz40_1 := blk_frozen BK166.out 1) | ((with_reducible refine gate_callee (f := 72) rfl ?_); refine goesL_ (some 51) rfl rfl Try.func72 (by kernel_rfl) rfl #[.int .i64 x5_2] rfl Z5_6 ?_; (with_reducible refine (spec_l8Len.calls k2 x5_2 t182 _ A35.out).mono ?_); rintro e w' ⟨rfl, ⟨nd, rfl⟩⟩; refine ⟨_, rfl, ?_⟩))
       go_roundg k2
       case measure => have := HK1.out; have := HK2.out; omega
       case rel => exact ⟨(wrap64 (x4_1 + t182)), (y179), (.slice Ao39 y179.length co39), Z5_5, H', ⟨Z5_20⟩, ⟨by (with_reducible repeat (first | apply Kd.R_alloc | apply Kd.R_drewN | apply Kd.R_drew)); exact Kd.R_mono (Kd.R_far (p := ⟨gb166, 1, none⟩) (Kd.R_types HO181.out BK166.out (by decide)) (fun _ hk => hk.2) (.slice Ao39 y179.length co39)) (fun _ hk => trivial)⟩, ⟨Z5_15⟩, ⟨Z5_13⟩, ⟨Z5_1⟩⟩
      rw [if_neg c34] at H
      exact absurd H (by simp)
    replace c12 := Bool.eq_false_iff.mpr c12
    subst c12
    have H1 : (spec_l8List.l0 k1 l0 (wrap64 (x4_1 + 1)) (l0.length : Int) x167001_1) = some (r1, r2) := by rw [if_neg (show ¬ (false = true) by decide)] at H; exact H
    clear H
    have H := H1
    clear H1
    have H' := Aside0.mk H
    clear H
    have p167 : 0 ≤ (x4_1 : Int) := of_decide_eq_true Z5_12
    have q167 : x4_1 < (l0.length : Int) := of_decide_eq_true Z5_12
    obtain ⟨ad167, e167, hx167_0⟩ := Kd.at_bool HR0.out x4_1 p167 q167
    (try rw [← Nbq11.out] at hx167_0)
    cases e167
    replace hx167_0 := (HB.out.cell (World.block_lt_of_cell? w _ hx167_0)).trans hx167_0
    replace p167 := eq_true p167
    replace q167 := eq_true q167
    go_wp2
    go_roundg k1
    case measure => have := HK1.out; omega
    case rel => exact ⟨(wrap64 (x4_1 + 1)), (x167001_1), (u167001), Z5_5, H', ⟨by have := HK1.out; omega⟩, ⟨Z5_8⟩, ⟨Z5_4⟩, ⟨Z5_9⟩, ⟨Z5_1⟩⟩
   rw [if_neg c10] at H
   exact absurd H (by simp)
  rw [if_neg c9] at H
  have c9b0 : decide (x4_1 < (l0.length : Int)) = false := decide_eq_false c9
  clear c9
  simp only [Option.some.injEq, Prod.mk.injEq] at H
  obtain ⟨rfl, rfl⟩ := H
  have hnb41 := NB166_162.out
  have hnc41 := NB162_166.out
  have hcz42_0 : wr.cell? ⟨gb166, 0, none⟩ = some (.int .i64 (l0.length : Int)) := (blk_cell BK166.out 0).trans rfl
  have hcz42_1 : wr.cell? ⟨gb166, 1, none⟩ = some (u167001) := (blk_cell BK166.out 1).trans rfl
  have hfz42_0 := blk_frozen BK166.out 0
  have hfz42_1 := blk_frozen BK166.out 1
  have hcz43_0 : wr.cell? ⟨gb162, 0, none⟩ = some (.int .i64 0) := (blk_cell BK162.out 0).trans rfl
  have hcz43_1 : wr.cell? ⟨gb162, 1, none⟩ = some (.slice none 0 0) := (blk_cell BK162.out 1).trans rfl
  have hfz43_0 := blk_frozen BK162.out 0
  have hfz43_1 := blk_frozen BK162.out 1
  obtain ⟨Ao44, co44, eo44⟩ := Kd.R_slice HO_167001.out
  subst eo44
  go_wp2
  refine bodyPost_ret (results_cell_row rfl _ _ gb162 50 #[.int .i64 (l0.length : Int), .slice Ao44 x167001_1.length co44] (0, 0) _ rfl (by (with_reducible repeat (first | apply blk_drewN | apply blk_drew | apply blk_alloc)); refine blk_put (cs := #[.int .i64 (l0.length : Int), .slice none 0 0]) ?_ 1 _ rfl; (with_reducible repeat (first | apply blk_drewN | apply blk_drew | apply blk_alloc)); refine blk_put (cs := #[.int .i64 0, .slice none 0 0]) ?_ 0 _ rfl; (with_reducible repeat (first | apply blk_drewN | apply blk_drew | apply blk_alloc)); exact BK162.out) Try.underlying50 rfl (by kernel_rfl)) rfl ?_
  exact ⟨_, by first | rfl | (simp [errW_none, errW_some] <;> rfl) | (simp [*, errW_none, errW_some] <;> rfl), by (with_reducible repeat (first | apply Kd.R_alloc | apply Kd.R_drewN | apply Kd.R_drew)); exact Kd.R_mono (Kd.R_far (p := ⟨gb162, 1, none⟩) (Kd.R_far (p := ⟨gb162, 0, none⟩) (Kd.R_types HO_167001.out BK162.out (by decide)) (fun _ hk => hk.2) (.int .i64 (l0.length : Int))) (fun _ hk => hk.2) (.slice Ao44 x167001_1.length co44)) (fun _ hk => trivial), Z5_1⟩
end Go.Proofs.Ytmjdmaomakkhgaa.PFnFramesKept
