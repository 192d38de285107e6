-- Written by a program of this session out of the translation. Not trusted: Lean checks it.
import Derived.Test.YtokiliilbopgkaaPFnExactLinkx0
import Derived.Test.YtokiliilbopgkaaPFnExactLinkx2
namespace Go.Proofs.Ytokiliilbopgkaa.PFnExactLink
open Go.RowKit Go.Proofs.YtokiliilbopgkaaW.PrintWords Go.Proofs.YtokiliilbopgkaaW.PrintLast Go.Proofs.YtokiliilbopgkaaW.PrintMore
attribute [local go_sem] max2_int min2_int max_two min_two max_three min_three max_four min_four   -- for this text's walks alone
set_option linter.unusedVariables false
set_option linter.unusedSimpArgs false
theorem Z3_16 {P : Prop} (h : P := by rw [hg]; exact (below_size Z3_4)) : P := h
theorem Z3_15 {P : Prop} (h : P := by rw [hg]; exact (below_size Z3_7)) : P := h
theorem Z3_14 {P : Prop} (h : P := by first | (go_simp; done) | (go_simp; rfl)) : P := h
theorem Z3_13 {P : Prop} (h : P := by have := HJ1.out; have := HK2.out; have := HJ11.out; have := HJ41.out; omega) : P := h
theorem Z3_12 {P : Prop} (h : P := by first | (with_reducible assumption) | assumption) : P := h
theorem Z3_11 {P : Prop} (h : P := by rw [hg]; exact Nat.ne_of_gt (blk_lt (g := gb128) (o := .cells #[.int .i64 a0_0, .slice (some ad129) l0_1.length c0_1] 29 (0, 0)) Z3_6)) : P := h
theorem Z3_10 {P : Prop} (h : P := by rw [hg]; exact Nat.ne_of_lt (blk_lt (g := gb128) (o := .cells #[.int .i64 a0_0, .slice (some ad129) l0_1.length c0_1] 29 (0, 0)) Z3_6)) : P := h
theorem Z3_9 {P : Prop} (h : P := by first | rfl | (simp [errW_none, errW_some] <;> rfl) | (simp [*, errW_none, errW_some] <;> rfl)) : P := h
theorem Z3_8 {P : Prop} (h : P := by have := HJ1.out; have := HK2.out; first | omega | exact Nat.le_refl _) : P := h
theorem Z3_7 {P : Prop} (h : P := by repeat (first | (with_reducible first | exact HB.out | apply below_alloc | apply pw_below_drewN | apply below_drew1) | exact HB.out)) : P := h
theorem Z3_6 {P : Prop} (h : P := by (with_reducible repeat (first | apply blk_drewN | apply blk_drew | apply blk_alloc)); exact BK128.out) : P := h
theorem Z3_5 {P : Prop} (h : P := by first | rfl | exact congrArg (Value.int .i64) (i64_w _) | (simp; done) | (simp [*]; done)) : P := h
theorem Z3_4 {P : Prop} (h : P := by repeat (first | (with_reducible first | exact HB.out | apply below_alloc | apply pw_below_drewN | apply below_drew1 | refine below_set ?_ GE128.out) | exact HB.out)) : P := h
theorem Z3_3 {P : Prop} (h : P := by repeat (first | (with_reducible first | exact HB.out | apply below_alloc | apply pw_below_drewN | apply below_drew1 | refine below_set ?_ GE128.out | refine below_set ?_ GE130.out) | exact HB.out)) : P := h
theorem Z3_2 {P : Prop} (h : P := by (with_reducible repeat (first | apply blk_drewN | apply blk_drew | apply blk_alloc)); refine blk_far ?_ NB128_130.out _; (with_reducible repeat (first | apply blk_drewN | apply blk_drew | apply blk_alloc)); refine blk_far ?_ NB128_130.out _; (with_reducible repeat (first | apply blk_drewN | apply blk_drew | apply blk_alloc)); refine blk_far ?_ NB128_130.out _; (with_reducible repeat (first | apply blk_drewN | apply blk_drew | apply blk_alloc)); refine blk_far ?_ NB128_130.out _; (with_reducible repeat (first | apply blk_drewN | apply blk_drew | apply blk_alloc)); exact BK128.out) : P := h
theorem Z3_1 {P : Prop} (h : P := by (with_reducible repeat (first | apply blk_drewN | apply blk_drew | apply blk_alloc)); refine blk_put (cs := #[.int .i64 ((rd_T58 l0_1 x5_2).f0), .int .i64 ((rd_T58 l0_1 x5_2).f1), .int .i64 ((rd_T58 l0_1 x5_2).f2), .slice none 0 0]) ?_ 3 _ rfl; (with_reducible repeat (first | apply blk_drewN | apply blk_drew | apply blk_alloc)); refine blk_put (cs := #[.int .i64 ((rd_T58 l0_1 x5_2).f0), .int .i64 ((rd_T58 l0_1 x5_2).f1), .int .i64 0, .slice none 0 0]) ?_ 2 _ rfl; (with_reducible repeat (first | apply blk_drewN | apply blk_drew | apply blk_alloc)); refine blk_put (cs := #[.int .i64 ((rd_T58 l0_1 x5_2).f0), .int .i64 0, .int .i64 0, .slice none 0 0]) ?_ 1 _ rfl; (with_reducible repeat (first | apply blk_drewN | apply blk_drew | apply blk_alloc)); refine blk_put (cs := #[.int .i64 0, .int .i64 0, .int .i64 0, .slice none 0 0]) ?_ 0 _ rfl; (with_reducible repeat (first | apply blk_drewN | apply blk_drew | apply blk_alloc)); exact BK130.out) : P := h

/-! ### spec_ImageOk: function 8 -/
mutual
def spec_ImageOk.j0 : Nat → Int → Bool → Int → List (S58) → Option (Bool)
 | 0, _, _, _, _ => none
 | k + 1, x3, x21, x129000, x129001 => if x21 = true then (some false) else (spec_ImageOk.l0 k x3 false 0 x129000 x129001)
def spec_ImageOk.l0 : Nat → Int → Bool → Int → Int → List (S58) → Option (Bool)
 | 0, _, _, _, _, _ => none
 | k + 1, x3, x4, x5, x129000, x129001 => if x5 < x3 then (if 0 ≤ x5 then (if x5 < (x129001.length : Int) then (if ((rd_T58 x129001 x5).f0) < 256 then (spec_ImageOk.j2 k x3 x4 x5 true x129000 x129001 ((rd_T58 x129001 x5).f0) ((rd_T58 x129001 x5).f1) ((rd_T58 x129001 x5).f2) ((rd_T58 x129001 x5).f3)) else (if ((rd_T58 x129001 x5).f0) > 4194304 then (spec_ImageOk.j2 k x3 x4 x5 true x129000 x129001 ((rd_T58 x129001 x5).f0) ((rd_T58 x129001 x5).f1) ((rd_T58 x129001 x5).f2) ((rd_T58 x129001 x5).f3)) else (if (Int.tmod ((rd_T58 x129001 x5).f0) 256) = 0 then (if ((rd_T58 x129001 x5).f2) < 1 then (spec_ImageOk.j2 k x3 x4 x5 true x129000 x129001 ((rd_T58 x129001 x5).f0) ((rd_T58 x129001 x5).f1) ((rd_T58 x129001 x5).f2) ((rd_T58 x129001 x5).f3)) else (if ((rd_T58 x129001 x5).f2) > 65536 then (spec_ImageOk.j2 k x3 x4 x5 true x129000 x129001 ((rd_T58 x129001 x5).f0) ((rd_T58 x129001 x5).f1) ((rd_T58 x129001 x5).f2) ((rd_T58 x129001 x5).f3)) else (if (wrap64 (((rd_T58 x129001 x5).f0) + ((rd_T58 x129001 x5).f2))) > 4194304 then (spec_ImageOk.j2 k x3 x4 x5 true x129000 x129001 ((rd_T58 x129001 x5).f0) ((rd_T58 x129001 x5).f1) ((rd_T58 x129001 x5).f2) ((rd_T58 x129001 x5).f3)) else (if (((rd_T58 x129001 x5).f3).length : Int) > ((rd_T58 x129001 x5).f2) then (spec_ImageOk.j2 k x3 x4 x5 true x129000 x129001 ((rd_T58 x129001 x5).f0) ((rd_T58 x129001 x5).f1) ((rd_T58 x129001 x5).f2) ((rd_T58 x129001 x5).f3)) else ((spec_l5ProtOk.f ((rd_T58 x129001 x5).f1)).bind fun t131 => (spec_ImageOk.j2 k x3 x4 x5 (!t131) x129000 x129001 ((rd_T58 x129001 x5).f0) ((rd_T58 x129001 x5).f1) ((rd_T58 x129001 x5).f2) ((rd_T58 x129001 x5).f3))))))) else (spec_ImageOk.j2 k x3 x4 x5 true x129000 x129001 ((rd_T58 x129001 x5).f0) ((rd_T58 x129001 x5).f1) ((rd_T58 x129001 x5).f2) ((rd_T58 x129001 x5).f3))))) else (none)) else (none)) else (some x4)
def spec_ImageOk.j2 : Nat → Int → Bool → Int → Bool → Int → List (S58) → Int → Int → Int → List Int → Option (Bool)
 | 0, _, _, _, _, _, _, _, _, _, _ => none
 | k + 1, x3, x4, x5, x77, x129000, x129001, x131000, x131001, x131002, x131003 => if x77 = true then (some false) else (if x5 > 0 then (if 0 ≤ (wrap64 (x5 - 1)) then (if (wrap64 (x5 - 1)) < (x129001.length : Int) then ((spec_l5PageUp.f k (wrap64 (((rd_T58 x129001 (wrap64 (x5 - 1))).f0) + ((rd_T58 x129001 (wrap64 (x5 - 1))).f2)))).bind fun t134 => (spec_ImageOk.j3 k x3 x4 x5 (decide (x131000 < t134)) x129000 x129001 x131000 x131001 x131002 x131003)) else (none)) else (none)) else (spec_ImageOk.j3 k x3 x4 x5 false x129000 x129001 x131000 x131001 x131002 x131003))
def spec_ImageOk.j3 : Nat → Int → Bool → Int → Bool → Int → List (S58) → Int → Int → Int → List Int → Option (Bool)
 | 0, _, _, _, _, _, _, _, _, _, _ => none
 | k + 1, x3, x4, x5, x100, x129000, x129001, x131000, x131001, x131002, x131003 => if x100 = true then (some false) else (if x131001 = 5 then (if x129000 ≥ x131000 then (if x129000 < (wrap64 (x131000 + x131002)) then (spec_ImageOk.l0 k x3 true (wrap64 (x5 + 1)) x129000 x129001) else (spec_ImageOk.l0 k x3 x4 (wrap64 (x5 + 1)) x129000 x129001)) else (spec_ImageOk.l0 k x3 x4 (wrap64 (x5 + 1)) x129000 x129001)) else (spec_ImageOk.l0 k x3 x4 (wrap64 (x5 + 1)) x129000 x129001))
end
def spec_ImageOk.f (k : Nat) (a0_0 : Int) (l0_1 : List (S58)) : Option (Bool) := if (l0_1.length : Int) < 1 then (spec_ImageOk.j0 k (l0_1.length : Int) true a0_0 l0_1) else (if (l0_1.length : Int) > 8 then (spec_ImageOk.j0 k (l0_1.length : Int) true a0_0 l0_1) else (spec_ImageOk.j0 k (l0_1.length : Int) ((Int.tmod a0_0 4) != 0) a0_0 l0_1))
theorem spec_ImageOk.mono_l : ∀ k, (∀ y0 y1 y2 y3, LeO (spec_ImageOk.j0 k y0 y1 y2 y3) (spec_ImageOk.j0 (k + 1) y0 y1 y2 y3)) ∧ (∀ y0 y1 y2 y3 y4, LeO (spec_ImageOk.l0 k y0 y1 y2 y3 y4) (spec_ImageOk.l0 (k + 1) y0 y1 y2 y3 y4)) ∧ (∀ y0 y1 y2 y3 y4 y5 y6 y7 y8 y9, LeO (spec_ImageOk.j2 k y0 y1 y2 y3 y4 y5 y6 y7 y8 y9) (spec_ImageOk.j2 (k + 1) y0 y1 y2 y3 y4 y5 y6 y7 y8 y9)) ∧ (∀ y0 y1 y2 y3 y4 y5 y6 y7 y8 y9, LeO (spec_ImageOk.j3 k y0 y1 y2 y3 y4 y5 y6 y7 y8 y9) (spec_ImageOk.j3 (k + 1) y0 y1 y2 y3 y4 y5 y6 y7 y8 y9))
 | 0 => ⟨fun _ _ _ _ r h => by simp [spec_ImageOk.j0] at h, fun _ _ _ _ _ r h => by simp [spec_ImageOk.l0] at h, fun _ _ _ _ _ _ _ _ _ _ r h => by simp [spec_ImageOk.j2] at h, fun _ _ _ _ _ _ _ _ _ _ r h => by simp [spec_ImageOk.j3] at h⟩
 | k + 1 => by
  obtain ⟨ih0, ih1, ih2, ih3⟩ := spec_ImageOk.mono_l k
  refine ⟨?_, ?_, ?_, ?_⟩
  ·intro y0 y1 y2 y3
   unfold spec_ImageOk.j0
   repeat' first
   | (with_reducible exact ih0 _ _ _ _)
   | (with_reducible exact ih1 _ _ _ _ _)
   | (with_reducible exact ih2 _ _ _ _ _ _ _ _ _ _)
   | (with_reducible exact ih3 _ _ _ _ _ _ _ _ _ _)
   | (with_reducible exact spec_l5PageUp.mono _ _)
   | (with_reducible exact LeO.refl _)
   | (with_reducible exact LeO.none _)
   | (with_reducible refine LeO.ite ?_ ?_)
   | (with_reducible refine LeO.bind ?_ (fun _ => ?_))
   | exact ih0 _ _ _ _
   | exact ih1 _ _ _ _ _
   | exact ih2 _ _ _ _ _ _ _ _ _ _
   | exact ih3 _ _ _ _ _ _ _ _ _ _
   | exact spec_l5PageUp.mono _ _
   | exact LeO.none _
   | refine LeO.ite ?_ ?_
   | refine LeO.bind ?_ (fun _ => ?_)
  ·intro y0 y1 y2 y3 y4
   unfold spec_ImageOk.l0
   repeat' first
   | (with_reducible exact ih0 _ _ _ _)
   | (with_reducible exact ih1 _ _ _ _ _)
   | (with_reducible exact ih2 _ _ _ _ _ _ _ _ _ _)
   | (with_reducible exact ih3 _ _ _ _ _ _ _ _ _ _)
   | (with_reducible exact spec_l5PageUp.mono _ _)
   | (with_reducible exact LeO.refl _)
   | (with_reducible exact LeO.none _)
   | (with_reducible refine LeO.ite ?_ ?_)
   | (with_reducible refine LeO.bind ?_ (fun _ => ?_))
   | exact ih0 _ _ _ _
   | exact ih1 _ _ _ _ _
   | exact ih2 _ _ _ _ _ _ _ _ _ _
   | exact ih3 _ _ _ _ _ _ _ _ _ _
   | exact spec_l5PageUp.mono _ _
   | exact LeO.none _
   | refine LeO.ite ?_ ?_
   | refine LeO.bind ?_ (fun _ => ?_)
  ·intro y0 y1 y2 y3 y4 y5 y6 y7 y8 y9
   unfold spec_ImageOk.j2
   repeat' first
   | (with_reducible exact ih0 _ _ _ _)
   | (with_reducible exact ih1 _ _ _ _ _)
   | (with_reducible exact ih2 _ _ _ _ _ _ _ _ _ _)
   | (with_reducible exact ih3 _ _ _ _ _ _ _ _ _ _)
   | (with_reducible exact spec_l5PageUp.mono _ _)
   | (with_reducible exact LeO.refl _)
   | (with_reducible exact LeO.none _)
   | (with_reducible refine LeO.ite ?_ ?_)
   | (with_reducible refine LeO.bind ?_ (fun _ => ?_))
   | exact ih0 _ _ _ _
   | exact ih1 _ _ _ _ _
   | exact ih2 _ _ _ _ _ _ _ _ _ _
   | exact ih3 _ _ _ _ _ _ _ _ _ _
   | exact spec_l5PageUp.mono _ _
   | exact LeO.none _
   | refine LeO.ite ?_ ?_
   | refine LeO.bind ?_ (fun _ => ?_)
  ·intro y0 y1 y2 y3 y4 y5 y6 y7 y8 y9
   unfold spec_ImageOk.j3
   repeat' first
   | (with_reducible exact ih0 _ _ _ _)
   | (with_reducible exact ih1 _ _ _ _ _)
   | (with_reducible exact ih2 _ _ _ _ _ _ _ _ _ _)
   | (with_reducible exact ih3 _ _ _ _ _ _ _ _ _ _)
   | (with_reducible exact spec_l5PageUp.mono _ _)
   | (with_reducible exact LeO.refl _)
   | (with_reducible exact LeO.none _)
   | (with_reducible refine LeO.ite ?_ ?_)
   | (with_reducible refine LeO.bind ?_ (fun _ => ?_))
   | exact ih0 _ _ _ _
   | exact ih1 _ _ _ _ _
   | exact ih2 _ _ _ _ _ _ _ _ _ _
   | exact ih3 _ _ _ _ _ _ _ _ _ _
   | exact spec_l5PageUp.mono _ _
   | exact LeO.none _
   | refine LeO.ite ?_ ?_
   | refine LeO.bind ?_ (fun _ => ?_)
theorem spec_ImageOk.mono : ∀ a0 a1 k, LeO (spec_ImageOk.f k a0 a1) (spec_ImageOk.f (k + 1) a0 a1) := by
 intro a0 a1 k
 obtain ⟨ih0, ih1, ih2, ih3⟩ := spec_ImageOk.mono_l k
 unfold spec_ImageOk.f
 repeat' first
   | (with_reducible exact ih0 _ _ _ _)
   | (with_reducible exact ih1 _ _ _ _ _)
   | (with_reducible exact ih2 _ _ _ _ _ _ _ _ _ _)
   | (with_reducible exact ih3 _ _ _ _ _ _ _ _ _ _)
   | (with_reducible exact spec_l5PageUp.mono _ _)
   | (with_reducible exact LeO.refl _)
   | (with_reducible exact LeO.none _)
   | (with_reducible refine LeO.ite ?_ ?_)
   | (with_reducible refine LeO.bind ?_ (fun _ => ?_))
   | exact ih0 _ _ _ _
   | exact ih1 _ _ _ _ _
   | exact ih2 _ _ _ _ _ _ _ _ _ _
   | exact ih3 _ _ _ _ _ _ _ _ _ _
   | exact spec_l5PageUp.mono _ _
   | exact LeO.none _
   | refine LeO.ite ?_ ?_
   | refine LeO.bind ?_ (fun _ => ?_)
set_option maxHeartbeats 8000000 in
set_option maxRecDepth 100000 in
theorem spec_ImageOk.calls (k : Nat) (a0_0 : Int) (A0_1 : Option Addr) (c0_1 : Nat) (l0_1 : List (S58)) (r : Bool) (w : World) (hr0_1 : Kd.C k58 w A0_1 l0_1.length l0_1) (hc0_1 : l0_1.length ≤ c0_1) (h : spec_ImageOk.f k a0_0 l0_1 = some r) :
  Calls Try.prog 8 #[.agg #[.int .i64 a0_0, .slice A0_1 l0_1.length c0_1]] w fun e w' => e = .returned (.bool r) ∧ Below w.heap.size w w' := by
 have hu29 := Try.underlying29
 have hu58 := Try.underlying58
 have HR0_1 := Aside0.mk hr0_1
 have HC0_1 := Aside0.mk hc0_1
 clear hr0_1 hc0_1
 have HB := Aside0.mk (Below.refl w.heap.size w)
 have H : (if (l0_1.length : Int) < 1 then (spec_ImageOk.j0 k (l0_1.length : Int) true a0_0 l0_1) else (if (l0_1.length : Int) > 8 then (spec_ImageOk.j0 k (l0_1.length : Int) true a0_0 l0_1) else (spec_ImageOk.j0 k (l0_1.length : Int) ((Int.tmod a0_0 4) != 0) a0_0 l0_1))) = some r := h
 clear h
 have HC2 := Aside0.mk H
 clear H
 go_enter Try.func8, Try.ntmps8
 go_upto_region 2 with (first | ((with_reducible refine gate_dst (N := 1) rfl ?_); (try (refine gate_guard (by rfl) ?_; dsimp only)); refine box_event ?hg (N := 1) ?hd (cs := #[.int .i64 a0_0, .slice A0_1 l0_1.length c0_1]) (t := 29) ?hr ?_; (case hd => rfl); (case hg => rfl); (case hr => exact Z3_14); intro gb128 hg w3 hbox hb; have n0_ := Aside0.mk (below_step Z3_7 hb); have n1_ := Aside0.mk (hbox); have n2_ := Aside0.mk ((Z3_15 : w.heap.size ≤ gb128)); have n3_ := Aside0.mk ((Z3_15 : w.heap.size ≤ gb128)); clear HB; have HB := n0_; have BK128 := n1_; have GW128 := n2_; have GE128 := n3_; clear n0_ n1_ n2_ n3_; clear hb hbox hg; have hcz4_0 : w3.cell? ⟨gb128, 0, none⟩ = some (.int .i64 a0_0) := (blk_cell BK128.out 0).trans rfl; have hcz4_1 : w3.cell? ⟨gb128, 1, none⟩ = some (.slice A0_1 l0_1.length c0_1) := (blk_cell BK128.out 1).trans rfl; have hfz4_0 := blk_frozen BK128.out 0; have hfz4_1 := blk_frozen BK128.out 1))
 repeat (go_quiet (first | ((with_reducible refine gate_dst (N := 1) rfl ?_); (try (refine gate_guard (by rfl) ?_; dsimp only)); refine box_event ?hg (N := 1) ?hd (cs := #[.int .i64 a0_0, .slice A0_1 l0_1.length c0_1]) (t := 29) ?hr ?_; (case hd => rfl); (case hg => rfl); (case hr => exact Z3_14); intro gb128 hg w3 hbox hb; have n0_ := Aside0.mk (below_step Z3_7 hb); have n1_ := Aside0.mk (hbox); have n2_ := Aside0.mk ((Z3_15 : w.heap.size ≤ gb128)); have n3_ := Aside0.mk ((Z3_15 : w.heap.size ≤ gb128)); clear HB; have HB := n0_; have BK128 := n1_; have GW128 := n2_; have GE128 := n3_; clear n0_ n1_ n2_ n3_; clear hb hbox hg; have hcz4_0 : w3.cell? ⟨gb128, 0, none⟩ = some (.int .i64 a0_0) := (blk_cell BK128.out 0).trans rfl; have hcz4_1 : w3.cell? ⟨gb128, 1, none⟩ = some (.slice A0_1 l0_1.length c0_1) := (blk_cell BK128.out 1).trans rfl; have hfz4_0 := blk_frozen BK128.out 0; have hfz4_1 := blk_frozen BK128.out 1)); go_upto_region 2 with (first | ((with_reducible refine gate_dst (N := 1) rfl ?_); (try (refine gate_guard (by rfl) ?_; dsimp only)); refine box_event ?hg (N := 1) ?hd (cs := #[.int .i64 a0_0, .slice A0_1 l0_1.length c0_1]) (t := 29) ?hr ?_; (case hd => rfl); (case hg => rfl); (case hr => exact Z3_14); intro gb128 hg w3 hbox hb; have n0_ := Aside0.mk (below_step Z3_7 hb); have n1_ := Aside0.mk (hbox); have n2_ := Aside0.mk ((Z3_15 : w.heap.size ≤ gb128)); have n3_ := Aside0.mk ((Z3_15 : w.heap.size ≤ gb128)); clear HB; have HB := n0_; have BK128 := n1_; have GW128 := n2_; have GE128 := n3_; clear n0_ n1_ n2_ n3_; clear hb hbox hg; have hcz4_0 : w3.cell? ⟨gb128, 0, none⟩ = some (.int .i64 a0_0) := (blk_cell BK128.out 0).trans rfl; have hcz4_1 : w3.cell? ⟨gb128, 1, none⟩ = some (.slice A0_1 l0_1.length c0_1) := (blk_cell BK128.out 1).trans rfl; have hfz4_0 := blk_frozen BK128.out 0; have hfz4_1 := blk_frozen BK128.out 1)))
 (try simp only [Act.put, List.setIfInBounds_toArray, List.set_cons_zero, List.set_cons_succ])
 go_cut [21] (fun v21 wc => ∃ (kq : Nat) (x21_1 : Bool), v21 = .bool x21_1 ∧ Aside0 (spec_ImageOk.j0 kq (l0_1.length : Int) x21_1 a0_0 l0_1 = some r) ∧ Aside0 (kq ≤ k) ∧ Aside0 (wc.heap[gb128]? = some (.cells #[.int .i64 a0_0, (.slice A0_1 l0_1.length c0_1)] 29 (0, 0))) ∧ Aside0 (Below w.heap.size w wc))
 case first =>
  have H := HC2.out
  clear HC2
  by_cases c5 : (l0_1.length : Int) < 1
  ·rw [if_pos c5] at H
   have c5b0 : decide ((l0_1.length : Int) < 1) = true := decide_eq_true c5
   have c5b1 : decide (l0_1.length < 1) = true := decide_eq_true (by omega)
   clear c5
   (first | rw [c5b0] | (simp only [i64_w, i32_w]; rw [c5b0]) | skip)
   have H' := Aside0.mk H
   clear H
   go_wp2
   repeat (go_quiet (fail); try go_wp2)
   go_meet
   case rel => exact ⟨_, (true), Z3_5, H', ⟨by first | omega | exact Nat.le_refl _⟩, ⟨Z3_6⟩, ⟨Z3_4⟩⟩
  rw [if_neg c5] at H
  have c5b0 : decide ((l0_1.length : Int) < 1) = false := decide_eq_false c5
  have c5b1 : decide (l0_1.length < 1) = false := decide_eq_false (by omega)
  clear c5
  (first | rw [c5b0] | (simp only [i64_w, i32_w]; rw [c5b0]) | skip)
  by_cases c6 : (l0_1.length : Int) > 8
  ·rw [if_pos c6] at H
   have c6b0 : decide (8 < (l0_1.length : Int)) = true := decide_eq_true c6
   have c6b1 : decide (8 < l0_1.length) = true := decide_eq_true (by omega)
   clear c6
   have H' := Aside0.mk H
   clear H
   go_wp2
   repeat (go_quiet (fail); try go_wp2)
   go_meet
   case rel => exact ⟨_, (true), Z3_5, H', ⟨by first | omega | exact Nat.le_refl _⟩, ⟨Z3_6⟩, ⟨Z3_4⟩⟩
  rw [if_neg c6] at H
  have c6b0 : decide (8 < (l0_1.length : Int)) = false := decide_eq_false c6
  have c6b1 : decide (8 < l0_1.length) = false := decide_eq_false (by omega)
  clear c6
  have H' := Aside0.mk H
  clear H
  have hcz7_0 : w3.cell? ⟨gb128, 0, none⟩ = some (.int .i64 a0_0) := (blk_cell BK128.out 0).trans rfl
  have hcz7_1 : w3.cell? ⟨gb128, 1, none⟩ = some (.slice A0_1 l0_1.length c0_1) := (blk_cell BK128.out 1).trans rfl
  have hfz7_0 := blk_frozen BK128.out 0
  have hfz7_1 := blk_frozen BK128.out 1
  go_wp2
  repeat (go_quiet (fail); try go_wp2)
  go_meet
  case rel => exact ⟨_, (((Int.tmod a0_0 4) != 0)), Z3_5, H', ⟨by first | omega | exact Nat.le_refl _⟩, ⟨Z3_6⟩, ⟨Z3_4⟩⟩
 clear HC2
 try clear p2
 try clear c5
 try clear c5b0
 try clear c5b1
 try clear c6
 try clear c6b0
 try clear c6b1
 try clear hcz4_0
 try clear hcz4_1
 try clear hcz7_0
 try clear hcz7_1
 try clear hfz4_0
 try clear hfz4_1
 try clear hfz7_0
 try clear hfz7_1
 obtain ⟨kq, x21_1, rfl, HA, HJ1, BK128, HB⟩ := hcut
 cases kq with
 | zero => exact absurd HA.out (by simp [spec_ImageOk.j0])
 | succ kj1 =>
  have H := HA.out
  clear HA
  simp only [spec_ImageOk.j0] at H
  by_cases c8 : x21_1 = true
  ·subst c8
   have H1 : (some false) = some r := by rw [if_pos rfl] at H; exact H
   clear H
   have H := H1
   clear H1
   obtain rfl := Option.some.inj H
   go_wp2
   repeat (go_quiet (fail); try go_wp2)
   go_ret
   exact ⟨Z3_9, Z3_4⟩
  replace c8 := Bool.eq_false_iff.mpr c8
  subst c8
  have H1 : (spec_ImageOk.l0 kj1 (l0_1.length : Int) false 0 a0_0 l0_1) = some r := by rw [if_neg (show ¬ (false = true) by decide)] at H; exact H
  clear H
  have H := H1
  clear H1
  have H' := Aside0.mk H
  clear H
  go_wp2
  repeat (go_quiet (fail); try go_wp2)
  go_loopg [4, 5] kj1 (fun kq v4 v5 w' => ∃ (x4_2 : Bool) (x5_2 : Int), v4 = .bool x4_2 ∧ v5 = .int .i64 x5_2 ∧ Aside0 (spec_ImageOk.l0 kq (l0_1.length : Int) x4_2 x5_2 a0_0 l0_1 = some r) ∧ Aside0 (kq ≤ kj1) ∧ Aside0 (w'.heap[gb128]? = some (.cells #[.int .i64 a0_0, (.slice A0_1 l0_1.length c0_1)] 29 (0, 0))) ∧ Aside0 (Below w.heap.size w w'))
  case atStart => exact ⟨(false), (0), Z3_5, Z3_5, H', ⟨Nat.le_refl _⟩, ⟨Z3_6⟩, ⟨Z3_4⟩⟩
  clear H'
  try clear p2
  try clear c5
  try clear c5b0
  try clear c5b1
  try clear c6
  try clear c6b0
  try clear c6b1
  try clear c8
  try clear hcz4_0
  try clear hcz4_1
  try clear hcz7_0
  try clear hcz7_1
  try clear hfz4_0
  try clear hfz4_1
  try clear hfz7_0
  try clear hfz7_1
  try clear p2
  obtain ⟨x4_2, x5_2, rfl, rfl, HA, HK2, BK128, HB⟩ := hrel
  cases gk with
  | zero => exact absurd HA.out (by simp [spec_ImageOk.l0])
  | succ k2 =>
   have H := HA.out
   clear HA
   simp only [spec_ImageOk.l0] at H
   by_cases c9 : x5_2 < (l0_1.length : Int)
   ·rw [if_pos c9] at H
    have c9b0 : decide (x5_2 < (l0_1.length : Int)) = true := decide_eq_true c9
    clear c9
    by_cases c10 : 0 ≤ x5_2
    ·rw [if_pos c10] at H
     have c10b0 : decide (0 ≤ x5_2) = true := decide_eq_true c10
     clear c10
     by_cases c11 : x5_2 < (l0_1.length : Int)
     ·rw [if_pos c11] at H
      have c11b0 : decide (x5_2 < (l0_1.length : Int)) = true := decide_eq_true c11
      clear c11
      have HC12 := Aside0.mk H
      clear H
      have hcz13_0 : wr.cell? ⟨gb128, 0, none⟩ = some (.int .i64 a0_0) := (blk_cell BK128.out 0).trans rfl
      have hcz13_1 : wr.cell? ⟨gb128, 1, none⟩ = some (.slice A0_1 l0_1.length c0_1) := (blk_cell BK128.out 1).trans rfl
      have hfz13_0 := blk_frozen BK128.out 0
      have hfz13_1 := blk_frozen BK128.out 1
      have p129 : 0 ≤ (x5_2 : Int) := of_decide_eq_true Z3_12
      have q129 : x5_2 < (l0_1.length : Int) := of_decide_eq_true Z3_12
      obtain ⟨ad129, A129_3, c129_3, e129, hx129_0, hx129_1, hx129_2, hx129_3, hl129_3, hi129_3⟩ := at_T58 HR0_1.out x5_2 p129 q129
      cases e129
      replace hx129_0 := (HB.out.cell (World.block_lt_of_cell? w _ hx129_0)).trans hx129_0
      replace hx129_1 := (HB.out.cell (World.block_lt_of_cell? w _ hx129_1)).trans hx129_1
      replace hx129_2 := (HB.out.cell (World.block_lt_of_cell? w _ hx129_2)).trans hx129_2
      replace hx129_3 := (HB.out.cell (World.block_lt_of_cell? w _ hx129_3)).trans hx129_3
      have HR129_3 := Aside0.mk hi129_3
      have HC129_3 := Aside0.mk hl129_3
      clear hi129_3 hl129_3
      replace p129 := eq_true p129
      replace q129 := eq_true q129
      go_upto_region 9 with (first | ((with_reducible refine gate_dst (N := 6) rfl ?_); (try (refine gate_guard (by rfl) ?_; dsimp only)); refine box_event ?hg (N := 6) ?hd (cs := #[.int .i64 0, .int .i64 0, .int .i64 0, .slice none 0 0]) (t := 58) ?hr ?_; (case hd => rfl); (case hg => rfl); (case hr => exact Z3_14); intro gb130 hg w14 hbox hb; have n0_ := Aside0.mk (blk_below (g := gb128) (o := .cells #[.int .i64 a0_0, .slice (some ad129) l0_1.length c0_1] 29 (0, 0)) Z3_6 hb); have n1_ := Aside0.mk (below_step Z3_4 hb); have n2_ := Aside0.mk (hbox); have n3_ := Aside0.mk ((Z3_16 : w.heap.size ≤ gb130)); have n4_ := Aside0.mk ((Z3_16 : w.heap.size ≤ gb130)); have n5_ := Aside0.mk ((Z3_10 : gb128 ≠ gb130)); have n6_ := Aside0.mk ((Z3_11 : gb130 ≠ gb128)); clear BK128; clear HB; have BK128 := n0_; have HB := n1_; have BK130 := n2_; have GW130 := n3_; have GE130 := n4_; have NB128_130 := n5_; have NB130_128 := n6_; clear n0_ n1_ n2_ n3_ n4_ n5_ n6_; clear hb hbox hg; have hnb15 := NB130_128.out; have hnc15 := NB128_130.out; have hcz16_0 : w14.cell? ⟨gb130, 0, none⟩ = some (.int .i64 0) := (blk_cell BK130.out 0).trans rfl; have hcz16_1 : w14.cell? ⟨gb130, 1, none⟩ = some (.int .i64 0) := (blk_cell BK130.out 1).trans rfl; have hcz16_2 : w14.cell? ⟨gb130, 2, none⟩ = some (.int .i64 0) := (blk_cell BK130.out 2).trans rfl; have hcz16_3 : w14.cell? ⟨gb130, 3, none⟩ = some (.slice none 0 0) := (blk_cell BK130.out 3).trans rfl; have hfz16_0 := blk_frozen BK130.out 0; have hfz16_1 := blk_frozen BK130.out 1; have hfz16_2 := blk_frozen BK130.out 2; have hfz16_3 := blk_frozen BK130.out 3))
      repeat (go_quiet (first | ((with_reducible refine gate_dst (N := 6) rfl ?_); (try (refine gate_guard (by rfl) ?_; dsimp only)); refine box_event ?hg (N := 6) ?hd (cs := #[.int .i64 0, .int .i64 0, .int .i64 0, .slice none 0 0]) (t := 58) ?hr ?_; (case hd => rfl); (case hg => rfl); (case hr => exact Z3_14); intro gb130 hg w14 hbox hb; have n0_ := Aside0.mk (blk_below (g := gb128) (o := .cells #[.int .i64 a0_0, .slice (some ad129) l0_1.length c0_1] 29 (0, 0)) Z3_6 hb); have n1_ := Aside0.mk (below_step Z3_4 hb); have n2_ := Aside0.mk (hbox); have n3_ := Aside0.mk ((Z3_16 : w.heap.size ≤ gb130)); have n4_ := Aside0.mk ((Z3_16 : w.heap.size ≤ gb130)); have n5_ := Aside0.mk ((Z3_10 : gb128 ≠ gb130)); have n6_ := Aside0.mk ((Z3_11 : gb130 ≠ gb128)); clear BK128; clear HB; have BK128 := n0_; have HB := n1_; have BK130 := n2_; have GW130 := n3_; have GE130 := n4_; have NB128_130 := n5_; have NB130_128 := n6_; clear n0_ n1_ n2_ n3_ n4_ n5_ n6_; clear hb hbox hg; have hnb15 := NB130_128.out; have hnc15 := NB128_130.out; have hcz16_0 : w14.cell? ⟨gb130, 0, none⟩ = some (.int .i64 0) := (blk_cell BK130.out 0).trans rfl; have hcz16_1 : w14.cell? ⟨gb130, 1, none⟩ = some (.int .i64 0) := (blk_cell BK130.out 1).trans rfl; have hcz16_2 : w14.cell? ⟨gb130, 2, none⟩ = some (.int .i64 0) := (blk_cell BK130.out 2).trans rfl; have hcz16_3 : w14.cell? ⟨gb130, 3, none⟩ = some (.slice none 0 0) := (blk_cell BK130.out 3).trans rfl; have hfz16_0 := blk_frozen BK130.out 0; have hfz16_1 := blk_frozen BK130.out 1; have hfz16_2 := blk_frozen BK130.out 2; have hfz16_3 := blk_frozen BK130.out 3)); go_upto_region 9 with (first | ((with_reducible refine gate_dst (N := 6) rfl ?_); (try (refine gate_guard (by rfl) ?_; dsimp only)); refine box_event ?hg (N := 6) ?hd (cs := #[.int .i64 0, .int .i64 0, .int .i64 0, .slice none 0 0]) (t := 58) ?hr ?_; (case hd => rfl); (case hg => rfl); (case hr => exact Z3_14); intro gb130 hg w14 hbox hb; have n0_ := Aside0.mk (blk_below (g := gb128) (o := .cells #[.int .i64 a0_0, .slice (some ad129) l0_1.length c0_1] 29 (0, 0)) Z3_6 hb); have n1_ := Aside0.mk (below_step Z3_4 hb); have n2_ := Aside0.mk (hbox); have n3_ := Aside0.mk ((Z3_16 : w.heap.size ≤ gb130)); have n4_ := Aside0.mk ((Z3_16 : w.heap.size ≤ gb130)); have n5_ := Aside0.mk ((Z3_10 : gb128 ≠ gb130)); have n6_ := Aside0.mk ((Z3_11 : gb130 ≠ gb128)); clear BK128; clear HB; have BK128 := n0_; have HB := n1_; have BK130 := n2_; have GW130 := n3_; have GE130 := n4_; have NB128_130 := n5_; have NB130_128 := n6_; clear n0_ n1_ n2_ n3_ n4_ n5_ n6_; clear hb hbox hg; have hnb15 := NB130_128.out; have hnc15 := NB128_130.out; have hcz16_0 : w14.cell? ⟨gb130, 0, none⟩ = some (.int .i64 0) := (blk_cell BK130.out 0).trans rfl; have hcz16_1 : w14.cell? ⟨gb130, 1, none⟩ = some (.int .i64 0) := (blk_cell BK130.out 1).trans rfl; have hcz16_2 : w14.cell? ⟨gb130, 2, none⟩ = some (.int .i64 0) := (blk_cell BK130.out 2).trans rfl; have hcz16_3 : w14.cell? ⟨gb130, 3, none⟩ = some (.slice none 0 0) := (blk_cell BK130.out 3).trans rfl; have hfz16_0 := blk_frozen BK130.out 0; have hfz16_1 := blk_frozen BK130.out 1; have hfz16_2 := blk_frozen BK130.out 2; have hfz16_3 := blk_frozen BK130.out 3)))
      (try simp only [Act.put, List.setIfInBounds_toArray, List.set_cons_zero, List.set_cons_succ])
      go_cut [77] (fun v77 wc => ∃ (kq : Nat) (x77_11 : Bool), v77 = .bool x77_11 ∧ Aside0 (spec_ImageOk.j2 kq (l0_1.length : Int) x4_2 x5_2 x77_11 a0_0 l0_1 ((rd_T58 l0_1 x5_2).f0) ((rd_T58 l0_1 x5_2).f1) ((rd_T58 l0_1 x5_2).f2) ((rd_T58 l0_1 x5_2).f3) = some r) ∧ Aside0 (kq ≤ k2) ∧ Aside0 (wc.heap[gb128]? = some (.cells #[.int .i64 a0_0, (.slice (some ad129) l0_1.length c0_1)] 29 (0, 0))) ∧ Aside0 (wc.heap[gb130]? = some (.cells #[.int .i64 ((rd_T58 l0_1 x5_2).f0), .int .i64 ((rd_T58 l0_1 x5_2).f1), .int .i64 ((rd_T58 l0_1 x5_2).f2), (.slice A129_3 ((rd_T58 l0_1 x5_2).f3).length c129_3)] 58 (0, 0))) ∧ Aside0 (Below w.heap.size w wc))
      case first =>
       have H := HC12.out
       clear HC12
       by_cases c17 : ((rd_T58 l0_1 x5_2).f0) < 256
       ·rw [if_pos c17] at H
        have c17b0 : decide (((rd_T58 l0_1 x5_2).f0) < 256) = true := decide_eq_true c17
        clear c17
        (first | rw [c17b0] | (simp only [i64_w, i32_w]; rw [c17b0]) | skip)
        have H' := Aside0.mk H
        clear H
        have hnb18 := NB130_128.out
        have hnc18 := NB128_130.out
        have hcz19_0 : w14.cell? ⟨gb130, 0, none⟩ = some (.int .i64 0) := (blk_cell BK130.out 0).trans rfl
        have hcz19_1 : w14.cell? ⟨gb130, 1, none⟩ = some (.int .i64 0) := (blk_cell BK130.out 1).trans rfl
        have hcz19_2 : w14.cell? ⟨gb130, 2, none⟩ = some (.int .i64 0) := (blk_cell BK130.out 2).trans rfl
        have hcz19_3 : w14.cell? ⟨gb130, 3, none⟩ = some (.slice none 0 0) := (blk_cell BK130.out 3).trans rfl
        have hfz19_0 := blk_frozen BK130.out 0
        have hfz19_1 := blk_frozen BK130.out 1
        have hfz19_2 := blk_frozen BK130.out 2
        have hfz19_3 := blk_frozen BK130.out 3
        go_wp2
        repeat (go_quiet (fail); try go_wp2)
        go_meet
        case rel => exact ⟨_, (true), Z3_5, H', ⟨Z3_8⟩, ⟨Z3_2⟩, ⟨Z3_1⟩, ⟨Z3_3⟩⟩
       rw [if_neg c17] at H
       have c17b0 : decide (((rd_T58 l0_1 x5_2).f0) < 256) = false := decide_eq_false c17
       clear c17
       (first | rw [c17b0] | (simp only [i64_w, i32_w]; rw [c17b0]) | skip)
       by_cases c20 : ((rd_T58 l0_1 x5_2).f0) > 4194304
       ·rw [if_pos c20] at H
        have c20b0 : decide (4194304 < ((rd_T58 l0_1 x5_2).f0)) = true := decide_eq_true c20
        clear c20
        have H' := Aside0.mk H
        clear H
        have hnb21 := NB130_128.out
        have hnc21 := NB128_130.out
        have hcz22_0 : w14.cell? ⟨gb130, 0, none⟩ = some (.int .i64 0) := (blk_cell BK130.out 0).trans rfl
        have hcz22_1 : w14.cell? ⟨gb130, 1, none⟩ = some (.int .i64 0) := (blk_cell BK130.out 1).trans rfl
        have hcz22_2 : w14.cell? ⟨gb130, 2, none⟩ = some (.int .i64 0) := (blk_cell BK130.out 2).trans rfl
        have hcz22_3 : w14.cell? ⟨gb130, 3, none⟩ = some (.slice none 0 0) := (blk_cell BK130.out 3).trans rfl
        have hfz22_0 := blk_frozen BK130.out 0
        have hfz22_1 := blk_frozen BK130.out 1
        have hfz22_2 := blk_frozen BK130.out 2
        have hfz22_3 := blk_frozen BK130.out 3
        go_wp2
        repeat (go_quiet (fail); try go_wp2)
        go_meet
        case rel => exact ⟨_, (true), Z3_5, H', ⟨Z3_8⟩, ⟨Z3_2⟩, ⟨Z3_1⟩, ⟨Z3_3⟩⟩
       rw [if_neg c20] at H
       have c20b0 : decide (4194304 < ((rd_T58 l0_1 x5_2).f0)) = false := decide_eq_false c20
       clear c20
       by_cases c23 : (Int.tmod ((rd_T58 l0_1 x5_2).f0) 256) = 0
       ·rw [if_pos c23] at H
        have c23b0 : ((Int.tmod ((rd_T58 l0_1 x5_2).f0) 256) == 0) = true := beq_iff_eq.mpr c23
        have c23b1 : ((Int.tmod ((rd_T58 l0_1 x5_2).f0) 256) != 0) = false := bne_eq_false_iff_eq.mpr c23
        clear c23
        by_cases c24 : ((rd_T58 l0_1 x5_2).f2) < 1
        ·rw [if_pos c24] at H
         have c24b0 : decide (((rd_T58 l0_1 x5_2).f2) < 1) = true := decide_eq_true c24
         clear c24
         have H' := Aside0.mk H
         clear H
         have hnb25 := NB130_128.out
         have hnc25 := NB128_130.out
         have hcz26_0 : w14.cell? ⟨gb130, 0, none⟩ = some (.int .i64 0) := (blk_cell BK130.out 0).trans rfl
         have hcz26_1 : w14.cell? ⟨gb130, 1, none⟩ = some (.int .i64 0) := (blk_cell BK130.out 1).trans rfl
         have hcz26_2 : w14.cell? ⟨gb130, 2, none⟩ = some (.int .i64 0) := (blk_cell BK130.out 2).trans rfl
         have hcz26_3 : w14.cell? ⟨gb130, 3, none⟩ = some (.slice none 0 0) := (blk_cell BK130.out 3).trans rfl
         have hfz26_0 := blk_frozen BK130.out 0
         have hfz26_1 := blk_frozen BK130.out 1
         have hfz26_2 := blk_frozen BK130.out 2
         have hfz26_3 := blk_frozen BK130.out 3
         go_wp2
         repeat (go_quiet (fail); try go_wp2)
         go_meet
         case rel => exact ⟨_, (true), Z3_5, H', ⟨Z3_8⟩, ⟨Z3_2⟩, ⟨Z3_1⟩, ⟨Z3_3⟩⟩
        rw [if_neg c24] at H
        have c24b0 : decide (((rd_T58 l0_1 x5_2).f2) < 1) = false := decide_eq_false c24
        clear c24
        by_cases c27 : ((rd_T58 l0_1 x5_2).f2) > 65536
        ·rw [if_pos c27] at H
         have c27b0 : decide (65536 < ((rd_T58 l0_1 x5_2).f2)) = true := decide_eq_true c27
         clear c27
         have H' := Aside0.mk H
         clear H
         have hnb28 := NB130_128.out
         have hnc28 := NB128_130.out
         have hcz29_0 : w14.cell? ⟨gb130, 0, none⟩ = some (.int .i64 0) := (blk_cell BK130.out 0).trans rfl
         have hcz29_1 : w14.cell? ⟨gb130, 1, none⟩ = some (.int .i64 0) := (blk_cell BK130.out 1).trans rfl
         have hcz29_2 : w14.cell? ⟨gb130, 2, none⟩ = some (.int .i64 0) := (blk_cell BK130.out 2).trans rfl
         have hcz29_3 : w14.cell? ⟨gb130, 3, none⟩ = some (.slice none 0 0) := (blk_cell BK130.out 3).trans rfl
         have hfz29_0 := blk_frozen BK130.out 0
         have hfz29_1 := blk_frozen BK130.out 1
         have hfz29_2 := blk_frozen BK130.out 2
         have hfz29_3 := blk_frozen BK130.out 3
         go_wp2
         repeat (go_quiet (fail); try go_wp2)
         go_meet
         case rel => exact ⟨_, (true), Z3_5, H', ⟨Z3_8⟩, ⟨Z3_2⟩, ⟨Z3_1⟩, ⟨Z3_3⟩⟩
        rw [if_neg c27] at H
        have c27b0 : decide (65536 < ((rd_T58 l0_1 x5_2).f2)) = false := decide_eq_false c27
        clear c27
        by_cases c30 : (wrap64 (((rd_T58 l0_1 x5_2).f0) + ((rd_T58 l0_1 x5_2).f2))) > 4194304
        ·rw [if_pos c30] at H
         have c30b0 : decide (4194304 < (wrap64 (((rd_T58 l0_1 x5_2).f0) + ((rd_T58 l0_1 x5_2).f2)))) = true := decide_eq_true c30
         clear c30
         have H' := Aside0.mk H
         clear H
         have hnb31 := NB130_128.out
         have hnc31 := NB128_130.out
         have hcz32_0 : w14.cell? ⟨gb130, 0, none⟩ = some (.int .i64 0) := (blk_cell BK130.out 0).trans rfl
         have hcz32_1 : w14.cell? ⟨gb130, 1, none⟩ = some (.int .i64 0) := (blk_cell BK130.out 1).trans rfl
         have hcz32_2 : w14.cell? ⟨gb130, 2, none⟩ = some (.int .i64 0) := (blk_cell BK130.out 2).trans rfl
         have hcz32_3 : w14.cell? ⟨gb130, 3, none⟩ = some (.slice none 0 0) := (blk_cell BK130.out 3).trans rfl
         have hfz32_0 := blk_frozen BK130.out 0
         have hfz32_1 := blk_frozen BK130.out 1
         have hfz32_2 := blk_frozen BK130.out 2
         have hfz32_3 := blk_frozen BK130.out 3
         go_wp2
         repeat (go_quiet (fail); try go_wp2)
         go_meet
         case rel => exact ⟨_, (true), Z3_5, H', ⟨Z3_8⟩, ⟨Z3_2⟩, ⟨Z3_1⟩, ⟨Z3_3⟩⟩
        rw [if_neg c30] at H
        have c30b0 : decide (4194304 < (wrap64 (((rd_T58 l0_1 x5_2).f0) + ((rd_T58 l0_1 x5_2).f2)))) = false := decide_eq_false c30
        clear c30
        by_cases c33 : (((rd_T58 l0_1 x5_2).f3).length : Int) > ((rd_T58 l0_1 x5_2).f2)
        ·rw [if_pos c33] at H
         have c33b0 : decide (((rd_T58 l0_1 x5_2).f2) < (((rd_T58 l0_1 x5_2).f3).length : Int)) = true := decide_eq_true c33
         clear c33
         have H' := Aside0.mk H
         clear H
         have hnb34 := NB130_128.out
         have hnc34 := NB128_130.out
         have hcz35_0 : w14.cell? ⟨gb130, 0, none⟩ = some (.int .i64 0) := (blk_cell BK130.out 0).trans rfl
         have hcz35_1 : w14.cell? ⟨gb130, 1, none⟩ = some (.int .i64 0) := (blk_cell BK130.out 1).trans rfl
         have hcz35_2 : w14.cell? ⟨gb130, 2, none⟩ = some (.int .i64 0) := (blk_cell BK130.out 2).trans rfl
         have hcz35_3 : w14.cell? ⟨gb130, 3, none⟩ = some (.slice none 0 0) := (blk_cell BK130.out 3).trans rfl
         have hfz35_0 := blk_frozen BK130.out 0
         have hfz35_1 := blk_frozen BK130.out 1
         have hfz35_2 := blk_frozen BK130.out 2
         have hfz35_3 := blk_frozen BK130.out 3
         go_wp2
         repeat (go_quiet (fail); try go_wp2)
         go_meet
         case rel => exact ⟨_, (true), Z3_5, H', ⟨Z3_8⟩, ⟨Z3_2⟩, ⟨Z3_1⟩, ⟨Z3_3⟩⟩
        rw [if_neg c33] at H
        have c33b0 : decide (((rd_T58 l0_1 x5_2).f2) < (((rd_T58 l0_1 x5_2).f3).length : Int)) = false := decide_eq_false c33
        clear c33
        replace H := Option.bind_eq_some_iff.mp H
        obtain ⟨t131, A360, H⟩ := H
        replace H : (spec_ImageOk.j2 k2 (l0_1.length : Int) x4_2 x5_2 (!t131) a0_0 l0_1 ((rd_T58 l0_1 x5_2).f0) ((rd_T58 l0_1 x5_2).f1) ((rd_T58 l0_1 x5_2).f2) ((rd_T58 l0_1 x5_2).f3)) = some r := H
        have A36 := Aside0.mk A360
        clear A360
        have H' := Aside0.mk H
        clear H
        have hnb37 := NB130_128.out
        have hnc37 := NB128_130.out
        have hcz38_0 : w14.cell? ⟨gb130, 0, none⟩ = some (.int .i64 0) := (blk_cell BK130.out 0).trans rfl
        have hcz38_1 : w14.cell? ⟨gb130, 1, none⟩ = some (.int .i64 0) := (blk_cell BK130.out 1).trans rfl
        have hcz38_2 : w14.cell? ⟨gb130, 2, none⟩ = some (.int .i64 0) := (blk_cell BK130.out 2).trans rfl
        have hcz38_3 : w14.cell? ⟨gb130, 3, none⟩ = some (.slice none 0 0) := (blk_cell BK130.out 3).trans rfl
        have hfz38_0 := blk_frozen BK130.out 0
        have hfz38_1 := blk_frozen BK130.out 1
        have hfz38_2 := blk_frozen BK130.out 2
        have hfz38_3 := blk_frozen BK130.out 3
        go_wp2_with (first | (go_at_call 29; (with_reducible refine (spec_l5ProtOk.calls ((rd_T58 l0_1 x5_2).f1) t131 _ A36.out).mono ?_); rintro e w' ⟨rfl, ⟨nd, rfl⟩⟩; (try first | exact ⟨rfl, _, World.drewN_drewN _ _ _⟩ | exact ⟨rfl, _, Eq.trans (World.drewN_drewN _ _ _) (congrArg (World.drewN _) (Nat.add_assoc _ _ _))⟩)))
        repeat (go_quiet (first | (go_at_call 29; (with_reducible refine (spec_l5ProtOk.calls ((rd_T58 l0_1 x5_2).f1) t131 _ A36.out).mono ?_); rintro e w' ⟨rfl, ⟨nd, rfl⟩⟩; (try first | exact ⟨rfl, _, World.drewN_drewN _ _ _⟩ | exact ⟨rfl, _, Eq.trans (World.drewN_drewN _ _ _) (congrArg (World.drewN _) (Nat.add_assoc _ _ _))⟩))); try go_wp2_with (first | (go_at_call 29; (with_reducible refine (spec_l5ProtOk.calls ((rd_T58 l0_1 x5_2).f1) t131 _ A36.out).mono ?_); rintro e w' ⟨rfl, ⟨nd, rfl⟩⟩; (try first | exact ⟨rfl, _, World.drewN_drewN _ _ _⟩ | exact ⟨rfl, _, Eq.trans (World.drewN_drewN _ _ _) (congrArg (World.drewN _) (Nat.add_assoc _ _ _))⟩))))
        go_meet
        case rel => exact ⟨_, (!t131), Z3_5, H', ⟨Z3_8⟩, ⟨Z3_2⟩, ⟨Z3_1⟩, ⟨Z3_3⟩⟩
       rw [if_neg c23] at H
       have c23b0 : ((Int.tmod ((rd_T58 l0_1 x5_2).f0) 256) == 0) = false := beq_eq_false_iff_ne.mpr c23
       have c23b1 : ((Int.tmod ((rd_T58 l0_1 x5_2).f0) 256) != 0) = true := bne_iff_ne.mpr c23
       have H' := Aside0.mk H
       clear H
       have hnb39 := NB130_128.out
       have hnc39 := NB128_130.out
       have hcz40_0 : w14.cell? ⟨gb130, 0, none⟩ = some (.int .i64 0) := (blk_cell BK130.out 0).trans rfl
       have hcz40_1 : w14.cell? ⟨gb130, 1, none⟩ = some (.int .i64 0) := (blk_cell BK130.out 1).trans rfl
       have hcz40_2 : w14.cell? ⟨gb130, 2, none⟩ = some (.int .i64 0) := (blk_cell BK130.out 2).trans rfl
       have hcz40_3 : w14.cell? ⟨gb130, 3, none⟩ = some (.slice none 0 0) := (blk_cell BK130.out 3).trans rfl
       have hfz40_0 := blk_frozen BK130.out 0
       have hfz40_1 := blk_frozen BK130.out 1
       have hfz40_2 := blk_frozen BK130.out 2
       have hfz40_3 := blk_frozen BK130.out 3
       go_wp2
       repeat (go_quiet (fail); try go_wp2)
       go_meet
       case rel => exact ⟨_, (true), Z3_5, H', ⟨Z3_8⟩, ⟨Z3_2⟩, ⟨Z3_1⟩, ⟨Z3_3⟩⟩
      clear HC12
      try clear c1
      try clear p1
      try clear q1
      try clear hx1
      try clear c2
      try clear p2
      try clear c3
      try clear c5
      try clear c5b0
      try clear c5b1
      try clear c6
      try clear c6b0
      try clear c6b1
      try clear p6
      try clear c8
      try clear c9
      try clear c9b0
      try clear c10
      try clear c10b0
      try clear c11
      try clear c11b0
      try clear c12
      try clear p12
      try clear q12
      try clear hx12
      try clear c15
      try clear c17
      try clear c17b0
      try clear c18
      try clear c20
      try clear c20b0
      try clear c21
      try clear c23
      try clear c23b0
      try clear c23b1
      try clear c24
      try clear c24b0
      try clear c25
      try clear c27
      try clear c27b0
      try clear c28
      try clear c30
      try clear c30b0
      try clear c31
      try clear c33
      try clear c33b0
      try clear c34
      try clear c37
      try clear c39
      try clear hcz13_0
      try clear hcz13_1
      try clear hcz16_0
      try clear hcz16_1
      try clear hcz16_2
      try clear hcz16_3
      try clear hcz19_0
      try clear hcz19_1
      try clear hcz19_2
      try clear hcz19_3
      try clear hcz22_0
      try clear hcz22_1
      try clear hcz22_2
      try clear hcz22_3
      try clear hcz26_0
      try clear hcz26_1
      try clear hcz26_2
      try clear hcz26_3
      try clear hcz29_0
      try clear hcz29_1
      try clear hcz29_2
      try clear hcz29_3
      try clear hcz32_0
      try clear hcz32_1
      try clear hcz32_2
      try clear hcz32_3
      try clear hcz35_0
      try clear hcz35_1
      try clear hcz35_2
      try clear hcz35_3
      try clear hcz38_0
      try clear hcz38_1
      try clear hcz38_2
      try clear hcz38_3
      try clear hcz40_0
      try clear hcz40_1
      try clear hcz40_2
      try clear hcz40_3
      try clear hcz4_0
      try clear hcz4_1
      try clear hcz7_0
      try clear hcz7_1
      try clear hfz13_0
      try clear hfz13_1
      try clear hfz16_0
      try clear hfz16_1
      try clear hfz16_2
      try clear hfz16_3
      try clear hfz19_0
      try clear hfz19_1
      try clear hfz19_2
      try clear hfz19_3
      try clear hfz22_0
      try clear hfz22_1
      try clear hfz22_2
      try clear hfz22_3
      try clear hfz26_0
      try clear hfz26_1
      try clear hfz26_2
      try clear hfz26_3
      try clear hfz29_0
      try clear hfz29_1
      try clear hfz29_2
      try clear hfz29_3
      try clear hfz32_0
      try clear hfz32_1
      try clear hfz32_2
      try clear hfz32_3
      try clear hfz35_0
      try clear hfz35_1
      try clear hfz35_2
      try clear hfz35_3
      try clear hfz38_0
      try clear hfz38_1
      try clear hfz38_2
      try clear hfz38_3
      try clear hfz40_0
      try clear hfz40_1
      try clear hfz40_2
      try clear hfz40_3
      try clear hfz4_0
      try clear hfz4_1
      try clear hfz7_0
      try clear hfz7_1
      try clear hx129_0
      try clear hx129_1
      try clear hx129_2
      try clear hx129_3
      try clear p129
      try clear p2
      try clear q129
      obtain ⟨kq, x77_11, rfl, HA, HJ11, BK128, BK130, HB⟩ := hcut
      cases kq with
      | zero => exact absurd HA.out (by simp [spec_ImageOk.j2])
      | succ kj11 =>
       have H := HA.out
       clear HA
       simp only [spec_ImageOk.j2] at H
       by_cases c41 : x77_11 = true
       ·subst c41
        have H1 : (some false) = some r := by rw [if_pos rfl] at H; exact H
        clear H
        have H := H1
        clear H1
        obtain rfl := Option.some.inj H
        go_wp2
        repeat (go_quiet (fail); try go_wp2)
        go_ret
        exact ⟨Z3_9, Z3_3⟩
       replace c41 := Bool.eq_false_iff.mpr c41
       subst c41
       have H1 : (if x5_2 > 0 then (if 0 ≤ (wrap64 (x5_2 - 1)) then (if (wrap64 (x5_2 - 1)) < (l0_1.length : Int) then ((spec_l5PageUp.f kj11 (wrap64 (((rd_T58 l0_1 (wrap64 (x5_2 - 1))).f0) + ((rd_T58 l0_1 (wrap64 (x5_2 - 1))).f2)))).bind fun t134 => (spec_ImageOk.j3 kj11 (l0_1.length : Int) x4_2 x5_2 (decide (((rd_T58 l0_1 x5_2).f0) < t134)) a0_0 l0_1 ((rd_T58 l0_1 x5_2).f0) ((rd_T58 l0_1 x5_2).f1) ((rd_T58 l0_1 x5_2).f2) ((rd_T58 l0_1 x5_2).f3))) else (none)) else (none)) else (spec_ImageOk.j3 kj11 (l0_1.length : Int) x4_2 x5_2 false a0_0 l0_1 ((rd_T58 l0_1 x5_2).f0) ((rd_T58 l0_1 x5_2).f1) ((rd_T58 l0_1 x5_2).f2) ((rd_T58 l0_1 x5_2).f3))) = some r := by rw [if_neg (show ¬ (false = true) by decide)] at H; exact H
       clear H
       have H := H1
       clear H1
       have HC42 := Aside0.mk H
       clear H
       go_upto_region 11 with (fail)
       repeat (go_quiet (fail); go_upto_region 11 with (fail))
       go_cut [100] (fun v100 wc => ∃ (kq : Nat) (x100_41 : Bool), v100 = .bool x100_41 ∧ Aside0 (spec_ImageOk.j3 kq (l0_1.length : Int) x4_2 x5_2 x100_41 a0_0 l0_1 ((rd_T58 l0_1 x5_2).f0) ((rd_T58 l0_1 x5_2).f1) ((rd_T58 l0_1 x5_2).f2) ((rd_T58 l0_1 x5_2).f3) = some r) ∧ Aside0 (kq ≤ kj11) ∧ Aside0 (wc.heap[gb128]? = some (.cells #[.int .i64 a0_0, (.slice (some ad129) l0_1.length c0_1)] 29 (0, 0))) ∧ Aside0 (wc.heap[gb130]? = some (.cells #[.int .i64 ((rd_T58 l0_1 x5_2).f0), .int .i64 ((rd_T58 l0_1 x5_2).f1), .int .i64 ((rd_T58 l0_1 x5_2).f2), (.slice A129_3 ((rd_T58 l0_1 x5_2).f3).length c129_3)] 58 (0, 0))) ∧ Aside0 (Below w.heap.size w wc))
       case first =>
        have H := HC42.out
        clear HC42
        by_cases c43 : x5_2 > 0
        ·rw [if_pos c43] at H
         have c43b0 : decide (0 < x5_2) = true := decide_eq_true c43
         clear c43
         (first | rw [c43b0] | (simp only [i64_w, i32_w]; rw [c43b0]) | skip)
         obtain ⟨ji44, hji44⟩ : ∃ j_ : Int, (wrap64 (x5_2 - 1)) = j_ := ⟨_, rfl⟩
         replace H : (if 0 ≤ (ji44) then (if (ji44) < (l0_1.length : Int) then ((spec_l5PageUp.f kj11 (wrap64 (((rd_T58 l0_1 (ji44)).f0) + ((rd_T58 l0_1 (ji44)).f2)))).bind fun t134 => (spec_ImageOk.j3 kj11 (l0_1.length : Int) x4_2 x5_2 (decide (((rd_T58 l0_1 x5_2).f0) < t134)) a0_0 l0_1 ((rd_T58 l0_1 x5_2).f0) ((rd_T58 l0_1 x5_2).f1) ((rd_T58 l0_1 x5_2).f2) ((rd_T58 l0_1 x5_2).f3))) else (none)) else (none)) = some r := by first | (rw [hji44] at H; exact H) | (simp only [hji44] at H ⊢; exact H)
         have hji44w : (IntKind.i64.wrap (x5_2 - 1)) = ji44 := (i64_w _).trans hji44
         by_cases c45 : 0 ≤ (ji44)
         ·rw [if_pos c45] at H
          have c45b0 : decide (0 ≤ (ji44)) = true := decide_eq_true c45
          clear c45
          by_cases c46 : (ji44) < (l0_1.length : Int)
          ·rw [if_pos c46] at H
           have c46b0 : decide ((ji44) < (l0_1.length : Int)) = true := decide_eq_true c46
           clear c46
           replace H := Option.bind_eq_some_iff.mp H
           obtain ⟨t134, A470, H⟩ := H
           replace H : (spec_ImageOk.j3 kj11 (l0_1.length : Int) x4_2 x5_2 (decide (((rd_T58 l0_1 x5_2).f0) < t134)) a0_0 l0_1 ((rd_T58 l0_1 x5_2).f0) ((rd_T58 l0_1 x5_2).f1) ((rd_T58 l0_1 x5_2).f2) ((rd_T58 l0_1 x5_2).f3)) = some r := H
           have A47 := Aside0.mk A470
           clear A470
           have H' := Aside0.mk H
           clear H
           have hnb48 := NB130_128.out
           have hnc48 := NB128_130.out
           have hcz49_0 : wc.cell? ⟨gb130, 0, none⟩ = some (.int .i64 ((rd_T58 l0_1 x5_2).f0)) := (blk_cell BK130.out 0).trans rfl
           have hcz49_1 : wc.cell? ⟨gb130, 1, none⟩ = some (.int .i64 ((rd_T58 l0_1 x5_2).f1)) := (blk_cell BK130.out 1).trans rfl
           have hcz49_2 : wc.cell? ⟨gb130, 2, none⟩ = some (.int .i64 ((rd_T58 l0_1 x5_2).f2)) := (blk_cell BK130.out 2).trans rfl
           have hcz49_3 : wc.cell? ⟨gb130, 3, none⟩ = some (.slice A129_3 ((rd_T58 l0_1 x5_2).f3).length c129_3) := (blk_cell BK130.out 3).trans rfl
           have hfz49_0 := blk_frozen BK130.out 0
           have hfz49_1 := blk_frozen BK130.out 1
           have hfz49_2 := blk_frozen BK130.out 2
           have hfz49_3 := blk_frozen BK130.out 3
           have hcz50_0 : wc.cell? ⟨gb128, 0, none⟩ = some (.int .i64 a0_0) := (blk_cell BK128.out 0).trans rfl
           have hcz50_1 : wc.cell? ⟨gb128, 1, none⟩ = some (.slice (some ad129) l0_1.length c0_1) := (blk_cell BK128.out 1).trans rfl
           have hfz50_0 := blk_frozen BK128.out 0
           have hfz50_1 := blk_frozen BK128.out 1
           have p132 : 0 ≤ ((ji44) : Int) := of_decide_eq_true Z3_12
           have q132 : (ji44) < (l0_1.length : Int) := of_decide_eq_true Z3_12
           obtain ⟨ad132, A132_3, c132_3, e132, hx132_0, hx132_1, hx132_2, hx132_3, hl132_3, hi132_3⟩ := at_T58 HR0_1.out (ji44) p132 q132
           obtain rfl : ad129 = ad132 := (by injection e132)
           replace hx132_0 := (HB.out.cell (World.block_lt_of_cell? w _ hx132_0)).trans hx132_0
           replace hx132_1 := (HB.out.cell (World.block_lt_of_cell? w _ hx132_1)).trans hx132_1
           replace hx132_2 := (HB.out.cell (World.block_lt_of_cell? w _ hx132_2)).trans hx132_2
           replace hx132_3 := (HB.out.cell (World.block_lt_of_cell? w _ hx132_3)).trans hx132_3
           have HR132_3 := Aside0.mk hi132_3
           have HC132_3 := Aside0.mk hl132_3
           clear hi132_3 hl132_3
           replace p132 := eq_true p132
           replace q132 := eq_true q132
           have p133 : 0 ≤ ((ji44) : Int) := of_decide_eq_true Z3_12
           have q133 : (ji44) < (l0_1.length : Int) := of_decide_eq_true Z3_12
           obtain ⟨ad133, A133_3, c133_3, e133, hx133_0, hx133_1, hx133_2, hx133_3, hl133_3, hi133_3⟩ := at_T58 HR0_1.out (ji44) p133 q133
           obtain rfl : ad129 = ad133 := (by injection e133)
           replace hx133_0 := (HB.out.cell (World.block_lt_of_cell? w _ hx133_0)).trans hx133_0
           replace hx133_1 := (HB.out.cell (World.block_lt_of_cell? w _ hx133_1)).trans hx133_1
           replace hx133_2 := (HB.out.cell (World.block_lt_of_cell? w _ hx133_2)).trans hx133_2
           replace hx133_3 := (HB.out.cell (World.block_lt_of_cell? w _ hx133_3)).trans hx133_3
           have HR133_3 := Aside0.mk hi133_3
           have HC133_3 := Aside0.mk hl133_3
           clear hi133_3 hl133_3
           replace p133 := eq_true p133
           replace q133 := eq_true q133
           have ea_ := Option.some.inj (hx132_3.symm.trans hx133_3)
           injection ea_ with ea_ en_ ec_
           subst ea_
           subst ec_
           clear en_
           go_wp2_with (first | (go_at_call 30; (with_reducible refine (spec_l5PageUp.calls kj11 (wrap64 (((rd_T58 l0_1 (ji44)).f0) + ((rd_T58 l0_1 (ji44)).f2))) t134 _ A47.out).mono ?_); rintro e w' ⟨rfl, ⟨nd, rfl⟩⟩; (try first | exact ⟨rfl, _, World.drewN_drewN _ _ _⟩ | exact ⟨rfl, _, Eq.trans (World.drewN_drewN _ _ _) (congrArg (World.drewN _) (Nat.add_assoc _ _ _))⟩)))
           repeat (go_quiet (first | (go_at_call 30; (with_reducible refine (spec_l5PageUp.calls kj11 (wrap64 (((rd_T58 l0_1 (ji44)).f0) + ((rd_T58 l0_1 (ji44)).f2))) t134 _ A47.out).mono ?_); rintro e w' ⟨rfl, ⟨nd, rfl⟩⟩; (try first | exact ⟨rfl, _, World.drewN_drewN _ _ _⟩ | exact ⟨rfl, _, Eq.trans (World.drewN_drewN _ _ _) (congrArg (World.drewN _) (Nat.add_assoc _ _ _))⟩))); try go_wp2_with (first | (go_at_call 30; (with_reducible refine (spec_l5PageUp.calls kj11 (wrap64 (((rd_T58 l0_1 (ji44)).f0) + ((rd_T58 l0_1 (ji44)).f2))) t134 _ A47.out).mono ?_); rintro e w' ⟨rfl, ⟨nd, rfl⟩⟩; (try first | exact ⟨rfl, _, World.drewN_drewN _ _ _⟩ | exact ⟨rfl, _, Eq.trans (World.drewN_drewN _ _ _) (congrArg (World.drewN _) (Nat.add_assoc _ _ _))⟩))))
           go_meet
           case rel => exact ⟨_, (decide (((rd_T58 l0_1 x5_2).f0) < t134)), Z3_5, H', ⟨by have := HJ1.out; have := HK2.out; have := HJ11.out; first | omega | exact Nat.le_refl _⟩, ⟨Z3_6⟩, ⟨by (with_reducible repeat (first | apply blk_drewN | apply blk_drew | apply blk_alloc)); exact BK130.out⟩, ⟨Z3_3⟩⟩
          rw [if_neg c46] at H
          exact absurd H (by simp)
         rw [if_neg c45] at H
         exact absurd H (by simp)
        rw [if_neg c43] at H
        have c43b0 : decide (0 < x5_2) = false := decide_eq_false c43
        clear c43
        (first | rw [c43b0] | (simp only [i64_w, i32_w]; rw [c43b0]) | skip)
        have H' := Aside0.mk H
        clear H
        go_wp2
        repeat (go_quiet (fail); try go_wp2)
        go_meet
        case rel => exact ⟨_, (false), Z3_5, H', ⟨by have := HJ1.out; have := HK2.out; have := HJ11.out; first | omega | exact Nat.le_refl _⟩, ⟨Z3_6⟩, ⟨by (with_reducible repeat (first | apply blk_drewN | apply blk_drew | apply blk_alloc)); exact BK130.out⟩, ⟨Z3_3⟩⟩
       clear HC42
       try clear c1
       try clear p1
       try clear q1
       try clear hx1
       try clear c2
       try clear p2
       try clear c3
       try clear c4
       try clear c5
       try clear c5b0
       try clear c5b1
       try clear c6
       try clear c6b0
       try clear c6b1
       try clear p6
       try clear c8
       try clear c9
       try clear c9b0
       try clear c10
       try clear c10b0
       try clear c11
       try clear c11b0
       try clear c12
       try clear p12
       try clear q12
       try clear hx12
       try clear c13
       try clear p13
       try clear q13
       try clear hx13
       try clear c15
       try clear c17
       try clear c17b0
       try clear c18
       try clear c20
       try clear c20b0
       try clear c21
       try clear c23
       try clear c23b0
       try clear c23b1
       try clear c24
       try clear c24b0
       try clear c25
       try clear c27
       try clear c27b0
       try clear c28
       try clear c30
       try clear c30b0
       try clear c31
       try clear c33
       try clear c33b0
       try clear c34
       try clear c37
       try clear c39
       try clear c41
       try clear c43
       try clear c43b0
       try clear c45
       try clear c45b0
       try clear c46
       try clear c46b0
       try clear c48
       try clear hcz13_0
       try clear hcz13_1
       try clear hcz16_0
       try clear hcz16_1
       try clear hcz16_2
       try clear hcz16_3
       try clear hcz19_0
       try clear hcz19_1
       try clear hcz19_2
       try clear hcz19_3
       try clear hcz22_0
       try clear hcz22_1
       try clear hcz22_2
       try clear hcz22_3
       try clear hcz26_0
       try clear hcz26_1
       try clear hcz26_2
       try clear hcz26_3
       try clear hcz29_0
       try clear hcz29_1
       try clear hcz29_2
       try clear hcz29_3
       try clear hcz32_0
       try clear hcz32_1
       try clear hcz32_2
       try clear hcz32_3
       try clear hcz35_0
       try clear hcz35_1
       try clear hcz35_2
       try clear hcz35_3
       try clear hcz38_0
       try clear hcz38_1
       try clear hcz38_2
       try clear hcz38_3
       try clear hcz40_0
       try clear hcz40_1
       try clear hcz40_2
       try clear hcz40_3
       try clear hcz49_0
       try clear hcz49_1
       try clear hcz49_2
       try clear hcz49_3
       try clear hcz4_0
       try clear hcz4_1
       try clear hcz50_0
       try clear hcz50_1
       try clear hcz7_0
       try clear hcz7_1
       try clear hfz13_0
       try clear hfz13_1
       try clear hfz16_0
       try clear hfz16_1
       try clear hfz16_2
       try clear hfz16_3
       try clear hfz19_0
       try clear hfz19_1
       try clear hfz19_2
       try clear hfz19_3
       try clear hfz22_0
       try clear hfz22_1
       try clear hfz22_2
       try clear hfz22_3
       try clear hfz26_0
       try clear hfz26_1
       try clear hfz26_2
       try clear hfz26_3
       try clear hfz29_0
       try clear hfz29_1
       try clear hfz29_2
       try clear hfz29_3
       try clear hfz32_0
       try clear hfz32_1
       try clear hfz32_2
       try clear hfz32_3
       try clear hfz35_0
       try clear hfz35_1
       try clear hfz35_2
       try clear hfz35_3
       try clear hfz38_0
       try clear hfz38_1
       try clear hfz38_2
       try clear hfz38_3
       try clear hfz40_0
       try clear hfz40_1
       try clear hfz40_2
       try clear hfz40_3
       try clear hfz49_0
       try clear hfz49_1
       try clear hfz49_2
       try clear hfz49_3
       try clear hfz4_0
       try clear hfz4_1
       try clear hfz50_0
       try clear hfz50_1
       try clear hfz7_0
       try clear hfz7_1
       try clear hx129_0
       try clear hx129_1
       try clear hx129_2
       try clear hx129_3
       try clear hx132_0
       try clear hx132_1
       try clear hx132_2
       try clear hx132_3
       try clear hx133_0
       try clear hx133_1
       try clear hx133_2
       try clear hx133_3
       try clear p1
       try clear p12
       try clear p129
       try clear p132
       try clear p133
       try clear p2
       try clear p6
       try clear q1
       try clear q12
       try clear q129
       try clear q132
       try clear q133
       obtain ⟨kq, x100_41, rfl, HA, HJ41, BK128, BK130, HB⟩ := hcut
       cases kq with
       | zero => exact absurd HA.out (by simp [spec_ImageOk.j3])
       | succ kj41 =>
        have H := HA.out
        clear HA
        simp only [spec_ImageOk.j3] at H
        by_cases c51 : x100_41 = true
        ·subst c51
         have H1 : (some false) = some r := by rw [if_pos rfl] at H; exact H
         clear H
         have H := H1
         clear H1
         obtain rfl := Option.some.inj H
         go_wp2
         repeat (go_quiet (fail); try go_wp2)
         go_ret
         exact ⟨Z3_9, Z3_3⟩
        replace c51 := Bool.eq_false_iff.mpr c51
        subst c51
        have H1 : (if ((rd_T58 l0_1 x5_2).f1) = 5 then (if a0_0 ≥ ((rd_T58 l0_1 x5_2).f0) then (if a0_0 < (wrap64 (((rd_T58 l0_1 x5_2).f0) + ((rd_T58 l0_1 x5_2).f2))) then (spec_ImageOk.l0 kj41 (l0_1.length : Int) true (wrap64 (x5_2 + 1)) a0_0 l0_1) else (spec_ImageOk.l0 kj41 (l0_1.length : Int) x4_2 (wrap64 (x5_2 + 1)) a0_0 l0_1)) else (spec_ImageOk.l0 kj41 (l0_1.length : Int) x4_2 (wrap64 (x5_2 + 1)) a0_0 l0_1)) else (spec_ImageOk.l0 kj41 (l0_1.length : Int) x4_2 (wrap64 (x5_2 + 1)) a0_0 l0_1)) = some r := by rw [if_neg (show ¬ (false = true) by decide)] at H; exact H
        clear H
        have H := H1
        clear H1
        by_cases c52 : ((rd_T58 l0_1 x5_2).f1) = 5
        ·rw [if_pos c52] at H
         have c52b0 : (((rd_T58 l0_1 x5_2).f1) == 5) = true := beq_iff_eq.mpr c52
         have c52b1 : (((rd_T58 l0_1 x5_2).f1) != 5) = false := bne_eq_false_iff_eq.mpr c52
         clear c52
         by_cases c53 : a0_0 ≥ ((rd_T58 l0_1 x5_2).f0)
         ·rw [if_pos c53] at H
          have c53b0 : decide (((rd_T58 l0_1 x5_2).f0) ≤ a0_0) = true := decide_eq_true c53
          clear c53
          by_cases c54 : a0_0 < (wrap64 (((rd_T58 l0_1 x5_2).f0) + ((rd_T58 l0_1 x5_2).f2)))
          ·rw [if_pos c54] at H
           have c54b0 : decide (a0_0 < (wrap64 (((rd_T58 l0_1 x5_2).f0) + ((rd_T58 l0_1 x5_2).f2)))) = true := decide_eq_true c54
           clear c54
           have H' := Aside0.mk H
           clear H
           have hnb55 := NB130_128.out
           have hnc55 := NB128_130.out
           have hcz56_0 : wc.cell? ⟨gb130, 0, none⟩ = some (.int .i64 ((rd_T58 l0_1 x5_2).f0)) := (blk_cell BK130.out 0).trans rfl
           have hcz56_1 : wc.cell? ⟨gb130, 1, none⟩ = some (.int .i64 ((rd_T58 l0_1 x5_2).f1)) := (blk_cell BK130.out 1).trans rfl
           have hcz56_2 : wc.cell? ⟨gb130, 2, none⟩ = some (.int .i64 ((rd_T58 l0_1 x5_2).f2)) := (blk_cell BK130.out 2).trans rfl
           have hcz56_3 : wc.cell? ⟨gb130, 3, none⟩ = some (.slice A129_3 ((rd_T58 l0_1 x5_2).f3).length c129_3) := (blk_cell BK130.out 3).trans rfl
           have hfz56_0 := blk_frozen BK130.out 0
           have hfz56_1 := blk_frozen BK130.out 1
           have hfz56_2 := blk_frozen BK130.out 2
           have hfz56_3 := blk_frozen BK130.out 3
           have hcz57_0 : wc.cell? ⟨gb128, 0, none⟩ = some (.int .i64 a0_0) := (blk_cell BK128.out 0).trans rfl
           have hcz57_1 : wc.cell? ⟨gb128, 1, none⟩ = some (.slice (some ad129) l0_1.length c0_1) := (blk_cell BK128.out 1).trans rfl
           have hfz57_0 := blk_frozen BK128.out 0
           have hfz57_1 := blk_frozen BK128.out 1
           go_wp2
           repeat (go_quiet (fail); try go_wp2)
           go_roundg kj41
           case measure => have := HJ1.out; have := HK2.out; have := HJ11.out; have := HJ41.out; omega
           case rel => exact ⟨(true), (wrap64 (x5_2 + 1)), Z3_5, Z3_5, H', ⟨Z3_13⟩, ⟨Z3_6⟩, ⟨Z3_3⟩⟩
          rw [if_neg c54] at H
          have c54b0 : decide (a0_0 < (wrap64 (((rd_T58 l0_1 x5_2).f0) + ((rd_T58 l0_1 x5_2).f2)))) = false := decide_eq_false c54
          clear c54
          have H' := Aside0.mk H
          clear H
          have hnb58 := NB130_128.out
          have hnc58 := NB128_130.out
          have hcz59_0 : wc.cell? ⟨gb130, 0, none⟩ = some (.int .i64 ((rd_T58 l0_1 x5_2).f0)) := (blk_cell BK130.out 0).trans rfl
          have hcz59_1 : wc.cell? ⟨gb130, 1, none⟩ = some (.int .i64 ((rd_T58 l0_1 x5_2).f1)) := (blk_cell BK130.out 1).trans rfl
          have hcz59_2 : wc.cell? ⟨gb130, 2, none⟩ = some (.int .i64 ((rd_T58 l0_1 x5_2).f2)) := (blk_cell BK130.out 2).trans rfl
          have hcz59_3 : wc.cell? ⟨gb130, 3, none⟩ = some (.slice A129_3 ((rd_T58 l0_1 x5_2).f3).length c129_3) := (blk_cell BK130.out 3).trans rfl
          have hfz59_0 := blk_frozen BK130.out 0
          have hfz59_1 := blk_frozen BK130.out 1
          have hfz59_2 := blk_frozen BK130.out 2
          have hfz59_3 := blk_frozen BK130.out 3
          have hcz60_0 : wc.cell? ⟨gb128, 0, none⟩ = some (.int .i64 a0_0) := (blk_cell BK128.out 0).trans rfl
          have hcz60_1 : wc.cell? ⟨gb128, 1, none⟩ = some (.slice (some ad129) l0_1.length c0_1) := (blk_cell BK128.out 1).trans rfl
          have hfz60_0 := blk_frozen BK128.out 0
          have hfz60_1 := blk_frozen BK128.out 1
          go_wp2
          repeat (go_quiet (fail); try go_wp2)
          go_roundg kj41
          case measure => have := HJ1.out; have := HK2.out; have := HJ11.out; have := HJ41.out; omega
          case rel => exact ⟨(x4_2), (wrap64 (x5_2 + 1)), Z3_5, Z3_5, H', ⟨Z3_13⟩, ⟨Z3_6⟩, ⟨Z3_3⟩⟩
         rw [if_neg c53] at H
         have c53b0 : decide (((rd_T58 l0_1 x5_2).f0) ≤ a0_0) = false := decide_eq_false c53
         clear c53
         have H' := Aside0.mk H
         clear H
         have hnb61 := NB130_128.out
         have hnc61 := NB128_130.out
         have hcz62_0 : wc.cell? ⟨gb130, 0, none⟩ = some (.int .i64 ((rd_T58 l0_1 x5_2).f0)) := (blk_cell BK130.out 0).trans rfl
         have hcz62_1 : wc.cell? ⟨gb130, 1, none⟩ = some (.int .i64 ((rd_T58 l0_1 x5_2).f1)) := (blk_cell BK130.out 1).trans rfl
         have hcz62_2 : wc.cell? ⟨gb130, 2, none⟩ = some (.int .i64 ((rd_T58 l0_1 x5_2).f2)) := (blk_cell BK130.out 2).trans rfl
         have hcz62_3 : wc.cell? ⟨gb130, 3, none⟩ = some (.slice A129_3 ((rd_T58 l0_1 x5_2).f3).length c129_3) := (blk_cell BK130.out 3).trans rfl
         have hfz62_0 := blk_frozen BK130.out 0
         have hfz62_1 := blk_frozen BK130.out 1
         have hfz62_2 := blk_frozen BK130.out 2
         have hfz62_3 := blk_frozen BK130.out 3
         have hcz63_0 : wc.cell? ⟨gb128, 0, none⟩ = some (.int .i64 a0_0) := (blk_cell BK128.out 0).trans rfl
         have hcz63_1 : wc.cell? ⟨gb128, 1, none⟩ = some (.slice (some ad129) l0_1.length c0_1) := (blk_cell BK128.out 1).trans rfl
         have hfz63_0 := blk_frozen BK128.out 0
         have hfz63_1 := blk_frozen BK128.out 1
         go_wp2
         repeat (go_quiet (fail); try go_wp2)
         go_roundg kj41
         case measure => have := HJ1.out; have := HK2.out; have := HJ11.out; have := HJ41.out; omega
         case rel => exact ⟨(x4_2), (wrap64 (x5_2 + 1)), Z3_5, Z3_5, H', ⟨Z3_13⟩, ⟨Z3_6⟩, ⟨Z3_3⟩⟩
        rw [if_neg c52] at H
        have c52b0 : (((rd_T58 l0_1 x5_2).f1) == 5) = false := beq_eq_false_iff_ne.mpr c52
        have c52b1 : (((rd_T58 l0_1 x5_2).f1) != 5) = true := bne_iff_ne.mpr c52
        have H' := Aside0.mk H
        clear H
        have hnb64 := NB130_128.out
        have hnc64 := NB128_130.out
        have hcz65_0 : wc.cell? ⟨gb130, 0, none⟩ = some (.int .i64 ((rd_T58 l0_1 x5_2).f0)) := (blk_cell BK130.out 0).trans rfl
        have hcz65_1 : wc.cell? ⟨gb130, 1, none⟩ = some (.int .i64 ((rd_T58 l0_1 x5_2).f1)) := (blk_cell BK130.out 1).trans rfl
        have hcz65_2 : wc.cell? ⟨gb130, 2, none⟩ = some (.int .i64 ((rd_T58 l0_1 x5_2).f2)) := (blk_cell BK130.out 2).trans rfl
        have hcz65_3 : wc.cell? ⟨gb130, 3, none⟩ = some (.slice A129_3 ((rd_T58 l0_1 x5_2).f3).length c129_3) := (blk_cell BK130.out 3).trans rfl
        have hfz65_0 := blk_frozen BK130.out 0
        have hfz65_1 := blk_frozen BK130.out 1
        have hfz65_2 := blk_frozen BK130.out 2
        have hfz65_3 := blk_frozen BK130.out 3
        go_wp2
        repeat (go_quiet (fail); try go_wp2)
        go_roundg kj41
        case measure => have := HJ1.out; have := HK2.out; have := HJ11.out; have := HJ41.out; omega
        case rel => exact ⟨(x4_2), (wrap64 (x5_2 + 1)), Z3_5, Z3_5, H', ⟨Z3_13⟩, ⟨Z3_6⟩, ⟨Z3_3⟩⟩
     rw [if_neg c11] at H
     exact absurd H (by simp)
    rw [if_neg c10] at H
    exact absurd H (by simp)
   rw [if_neg c9] at H
   have c9b0 : decide (x5_2 < (l0_1.length : Int)) = false := decide_eq_false c9
   clear c9
   obtain rfl := Option.some.inj H
   go_wp2
   repeat (go_quiet (fail); try go_wp2)
   go_ret
   exact ⟨Z3_9, Z3_4⟩
end Go.Proofs.Ytokiliilbopgkaa.PFnExactLink
