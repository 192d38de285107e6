-- Written by a program of this session out of the translation. Not trusted: Lean checks it.
import Derived.Test.YtdhafphhkokniaaPFnLeavesFoundx0
import Derived.Test.YtdhafphhkokniaaPFnLeavesFoundx3
namespace Go.Proofs.Ytdhafphhkokniaa.PFnLeavesFound
open Go.RowKit Go.Proofs.YtdhafphhkokniaaW.PrintWords Go.Proofs.YtdhafphhkokniaaW.PrintLast Go.Proofs.YtdhafphhkokniaaW.PrintMore
attribute [local go_sem] max2_int min2_int max_two min_two max_three min_three max_four min_four   -- for this text's walks alone
set_option linter.unusedVariables false
set_option linter.unusedSimpArgs false
theorem Z4_7 {P : Prop} (h : P := by rw [hg]; exact (below_size Z4_2)) : P := h
theorem Z4_6 {P : Prop} (h : P := by have := HJ5.out; have := HJ14.out; first | omega | exact Nat.le_refl _) : P := h
theorem Z4_5 {P : Prop} (h : P := by first | rfl | (simp [errW_none, errW_some] <;> rfl) | (simp [*, errW_none, errW_some] <;> rfl)) : P := h
theorem Z4_4 {P : Prop} (h : P := by (with_reducible repeat (first | apply blk_drewN | apply blk_drew | apply blk_alloc)); exact BK157.out) : P := h
theorem Z4_3 {P : Prop} (h : P := by first | rfl | exact congrArg (Value.int .i64) (i64_w _) | (simp; done) | (simp [*]; done)) : P := h
theorem Z4_2 {P : Prop} (h : P := by repeat (first | (with_reducible first | exact HB.out | apply below_alloc | apply pw_below_drewN | apply below_drew1) | exact HB.out)) : P := h
theorem Z4_1 {P : Prop} (h : P := by repeat (first | (with_reducible first | exact HB.out | apply below_alloc | apply pw_below_drewN | apply below_drew1 | refine below_set ?_ GE157.out) | exact HB.out)) : P := h

/-! ### spec_l6Kind: function 89 -/
mutual
def spec_l6Kind.j0 : Nat → Int → Bool → Bool → Bool → Bool → Bool → Bool → Bool → Bool → Bool → Int → Option (Int)
 | 0, _, _, _, _, _, _, _, _, _, _, _ => none
 | k + 1, x1, x25, x158000, x158001, x158002, x158003, x158004, x158005, x158006, x158007, x158008 => if x25 = true then (some (-5)) else (if x158001 = true then (spec_l6Kind.j1 k x1 false x158000 x158001 x158002 x158003 x158004 x158005 x158006 x158007 x158008) else (if x158002 = true then (spec_l6Kind.j1 k x1 false x158000 x158001 x158002 x158003 x158004 x158005 x158006 x158007 x158008) else (spec_l6Kind.j1 k x1 (!x158003) x158000 x158001 x158002 x158003 x158004 x158005 x158006 x158007 x158008)))
def spec_l6Kind.j1 : Nat → Int → Bool → Bool → Bool → Bool → Bool → Bool → Bool → Bool → Bool → Int → Option (Int)
 | 0, _, _, _, _, _, _, _, _, _, _, _ => none
 | k + 1, x1, x38, x158000, x158001, x158002, x158003, x158004, x158005, x158006, x158007, x158008 => if x38 = true then (if x158004 = true then (spec_l6Kind.j2 k true) else (if x158005 = true then (spec_l6Kind.j2 k true) else (if x158006 = true then (spec_l6Kind.j2 k true) else (spec_l6Kind.j2 k (x1 == 0))))) else ((spec_l6Pages.f k x1).bind fun t158 => (if t158 = 0 then (none) else (if (Int.tmod x158008 t158) = 0 then (some 1) else (some (-6)))))
def spec_l6Kind.j2 : Nat → Bool → Option (Int)
 | 0, _ => none
 | k + 1, x52 => if x52 = true then (some (-5)) else (some 0)
end
def spec_l6Kind.f (k : Nat) (a0 : Int) (a1 : Int) : Option (Int) := (spec_l6Is.f k a0 0).bind fun t146 => (if t146 = true then ((spec_GetEntry.f k a0).bind fun bt147 => (if bt147.2.2.2.2.2.2.2.2.2 = true then (if bt147.2.2.1 = true then (spec_l6Kind.j0 k a1 (!bt147.2.1) bt147.1 bt147.2.1 bt147.2.2.1 bt147.2.2.2.1 bt147.2.2.2.2.1 bt147.2.2.2.2.2.1 bt147.2.2.2.2.2.2.1 bt147.2.2.2.2.2.2.2.1 bt147.2.2.2.2.2.2.2.2.1) else (spec_l6Kind.j0 k a1 false bt147.1 bt147.2.1 bt147.2.2.1 bt147.2.2.2.1 bt147.2.2.2.2.1 bt147.2.2.2.2.2.1 bt147.2.2.2.2.2.2.1 bt147.2.2.2.2.2.2.2.1 bt147.2.2.2.2.2.2.2.2.1)) else (spec_l6Kind.j0 k a1 true bt147.1 bt147.2.1 bt147.2.2.1 bt147.2.2.2.1 bt147.2.2.2.2.1 bt147.2.2.2.2.2.1 bt147.2.2.2.2.2.2.1 bt147.2.2.2.2.2.2.2.1 bt147.2.2.2.2.2.2.2.2.1))) else (some (-4)))
theorem spec_l6Kind.mono_l : ∀ k, (∀ y0 y1 y2 y3 y4 y5 y6 y7 y8 y9 y10, LeO (spec_l6Kind.j0 k y0 y1 y2 y3 y4 y5 y6 y7 y8 y9 y10) (spec_l6Kind.j0 (k + 1) y0 y1 y2 y3 y4 y5 y6 y7 y8 y9 y10)) ∧ (∀ y0 y1 y2 y3 y4 y5 y6 y7 y8 y9 y10, LeO (spec_l6Kind.j1 k y0 y1 y2 y3 y4 y5 y6 y7 y8 y9 y10) (spec_l6Kind.j1 (k + 1) y0 y1 y2 y3 y4 y5 y6 y7 y8 y9 y10)) ∧ (∀ y0, LeO (spec_l6Kind.j2 k y0) (spec_l6Kind.j2 (k + 1) y0))
 | 0 => ⟨fun _ _ _ _ _ _ _ _ _ _ _ r h => by simp [spec_l6Kind.j0] at h, fun _ _ _ _ _ _ _ _ _ _ _ r h => by simp [spec_l6Kind.j1] at h, fun _ r h => by simp [spec_l6Kind.j2] at h⟩
 | k + 1 => by
  obtain ⟨ih0, ih1, ih2⟩ := spec_l6Kind.mono_l k
  refine ⟨?_, ?_, ?_⟩
  ·intro y0 y1 y2 y3 y4 y5 y6 y7 y8 y9 y10
   unfold spec_l6Kind.j0
   repeat' first
   | (with_reducible exact ih0 _ _ _ _ _ _ _ _ _ _ _)
   | (with_reducible exact ih1 _ _ _ _ _ _ _ _ _ _ _)
   | (with_reducible exact ih2 _)
   | (with_reducible exact spec_GetEntry.mono _ _)
   | (with_reducible exact spec_l6Is.mono _ _ _)
   | (with_reducible exact spec_l6Pages.mono _ _)
   | (with_reducible exact LeO.refl _)
   | (with_reducible exact LeO.none _)
   | (with_reducible refine LeO.ite ?_ ?_)
   | (with_reducible refine LeO.bind ?_ (fun _ => ?_))
   | exact ih0 _ _ _ _ _ _ _ _ _ _ _
   | exact ih1 _ _ _ _ _ _ _ _ _ _ _
   | exact ih2 _
   | exact spec_GetEntry.mono _ _
   | exact spec_l6Is.mono _ _ _
   | exact spec_l6Pages.mono _ _
   | exact LeO.none _
   | refine LeO.ite ?_ ?_
   | refine LeO.bind ?_ (fun _ => ?_)
  ·intro y0 y1 y2 y3 y4 y5 y6 y7 y8 y9 y10
   unfold spec_l6Kind.j1
   repeat' first
   | (with_reducible exact ih0 _ _ _ _ _ _ _ _ _ _ _)
   | (with_reducible exact ih1 _ _ _ _ _ _ _ _ _ _ _)
   | (with_reducible exact ih2 _)
   | (with_reducible exact spec_GetEntry.mono _ _)
   | (with_reducible exact spec_l6Is.mono _ _ _)
   | (with_reducible exact spec_l6Pages.mono _ _)
   | (with_reducible exact LeO.refl _)
   | (with_reducible exact LeO.none _)
   | (with_reducible refine LeO.ite ?_ ?_)
   | (with_reducible refine LeO.bind ?_ (fun _ => ?_))
   | exact ih0 _ _ _ _ _ _ _ _ _ _ _
   | exact ih1 _ _ _ _ _ _ _ _ _ _ _
   | exact ih2 _
   | exact spec_GetEntry.mono _ _
   | exact spec_l6Is.mono _ _ _
   | exact spec_l6Pages.mono _ _
   | exact LeO.none _
   | refine LeO.ite ?_ ?_
   | refine LeO.bind ?_ (fun _ => ?_)
  ·intro y0
   unfold spec_l6Kind.j2
   repeat' first
   | (with_reducible exact ih0 _ _ _ _ _ _ _ _ _ _ _)
   | (with_reducible exact ih1 _ _ _ _ _ _ _ _ _ _ _)
   | (with_reducible exact ih2 _)
   | (with_reducible exact spec_GetEntry.mono _ _)
   | (with_reducible exact spec_l6Is.mono _ _ _)
   | (with_reducible exact spec_l6Pages.mono _ _)
   | (with_reducible exact LeO.refl _)
   | (with_reducible exact LeO.none _)
   | (with_reducible refine LeO.ite ?_ ?_)
   | (with_reducible refine LeO.bind ?_ (fun _ => ?_))
   | exact ih0 _ _ _ _ _ _ _ _ _ _ _
   | exact ih1 _ _ _ _ _ _ _ _ _ _ _
   | exact ih2 _
   | exact spec_GetEntry.mono _ _
   | exact spec_l6Is.mono _ _ _
   | exact spec_l6Pages.mono _ _
   | exact LeO.none _
   | refine LeO.ite ?_ ?_
   | refine LeO.bind ?_ (fun _ => ?_)
theorem spec_l6Kind.mono : ∀ a0 a1 k, LeO (spec_l6Kind.f k a0 a1) (spec_l6Kind.f (k + 1) a0 a1) := by
 intro a0 a1 k
 obtain ⟨ih0, ih1, ih2⟩ := spec_l6Kind.mono_l k
 unfold spec_l6Kind.f
 repeat' first
   | (with_reducible exact ih0 _ _ _ _ _ _ _ _ _ _ _)
   | (with_reducible exact ih1 _ _ _ _ _ _ _ _ _ _ _)
   | (with_reducible exact ih2 _)
   | (with_reducible exact spec_GetEntry.mono _ _)
   | (with_reducible exact spec_l6Is.mono _ _ _)
   | (with_reducible exact spec_l6Pages.mono _ _)
   | (with_reducible exact LeO.refl _)
   | (with_reducible exact LeO.none _)
   | (with_reducible refine LeO.ite ?_ ?_)
   | (with_reducible refine LeO.bind ?_ (fun _ => ?_))
   | exact ih0 _ _ _ _ _ _ _ _ _ _ _
   | exact ih1 _ _ _ _ _ _ _ _ _ _ _
   | exact ih2 _
   | exact spec_GetEntry.mono _ _
   | exact spec_l6Is.mono _ _ _
   | exact spec_l6Pages.mono _ _
   | exact LeO.none _
   | refine LeO.ite ?_ ?_
   | refine LeO.bind ?_ (fun _ => ?_)
set_option maxHeartbeats 8000000 in
set_option maxRecDepth 100000 in
theorem spec_l6Kind.calls (k : Nat) (a0 : Int) (a1 : Int) (r : Int) (w : World) (h : spec_l6Kind.f k a0 a1 = some r) :
  Calls Try.prog 89 #[.int .u64 a0, .int .i64 a1] w fun e w' => e = .returned (.int .i64 r) ∧ Below w.heap.size w w' := by
 have hu27 := Try.underlying27
 have HB := Aside0.mk (Below.refl w.heap.size w)
 have H : ((spec_l6Is.f k a0 0).bind fun t146 => (if t146 = true then ((spec_GetEntry.f k a0).bind fun bt147 => (if bt147.2.2.2.2.2.2.2.2.2 = true then (if bt147.2.2.1 = true then (spec_l6Kind.j0 k a1 (!bt147.2.1) bt147.1 bt147.2.1 bt147.2.2.1 bt147.2.2.2.1 bt147.2.2.2.2.1 bt147.2.2.2.2.2.1 bt147.2.2.2.2.2.2.1 bt147.2.2.2.2.2.2.2.1 bt147.2.2.2.2.2.2.2.2.1) else (spec_l6Kind.j0 k a1 false bt147.1 bt147.2.1 bt147.2.2.1 bt147.2.2.2.1 bt147.2.2.2.2.1 bt147.2.2.2.2.2.1 bt147.2.2.2.2.2.2.1 bt147.2.2.2.2.2.2.2.1 bt147.2.2.2.2.2.2.2.2.1)) else (spec_l6Kind.j0 k a1 true bt147.1 bt147.2.1 bt147.2.2.1 bt147.2.2.2.1 bt147.2.2.2.2.1 bt147.2.2.2.2.2.1 bt147.2.2.2.2.2.2.1 bt147.2.2.2.2.2.2.2.1 bt147.2.2.2.2.2.2.2.2.1))) else (some (-4)))) = some r := h
 clear h
 replace H := Option.bind_eq_some_iff.mp H
 obtain ⟨t146, A30, H⟩ := H
 replace H : (if t146 = true then ((spec_GetEntry.f k a0).bind fun bt147 => (if bt147.2.2.2.2.2.2.2.2.2 = true then (if bt147.2.2.1 = true then (spec_l6Kind.j0 k a1 (!bt147.2.1) bt147.1 bt147.2.1 bt147.2.2.1 bt147.2.2.2.1 bt147.2.2.2.2.1 bt147.2.2.2.2.2.1 bt147.2.2.2.2.2.2.1 bt147.2.2.2.2.2.2.2.1 bt147.2.2.2.2.2.2.2.2.1) else (spec_l6Kind.j0 k a1 false bt147.1 bt147.2.1 bt147.2.2.1 bt147.2.2.2.1 bt147.2.2.2.2.1 bt147.2.2.2.2.2.1 bt147.2.2.2.2.2.2.1 bt147.2.2.2.2.2.2.2.1 bt147.2.2.2.2.2.2.2.2.1)) else (spec_l6Kind.j0 k a1 true bt147.1 bt147.2.1 bt147.2.2.1 bt147.2.2.2.1 bt147.2.2.2.2.1 bt147.2.2.2.2.2.1 bt147.2.2.2.2.2.2.1 bt147.2.2.2.2.2.2.2.1 bt147.2.2.2.2.2.2.2.2.1))) else (some (-4))) = some r := H
 have A3 := Aside0.mk A30
 clear A30
 by_cases c4 : t146 = true
 ·subst c4
  have H1 : ((spec_GetEntry.f k a0).bind fun bt147 => (if bt147.2.2.2.2.2.2.2.2.2 = true then (if bt147.2.2.1 = true then (spec_l6Kind.j0 k a1 (!bt147.2.1) bt147.1 bt147.2.1 bt147.2.2.1 bt147.2.2.2.1 bt147.2.2.2.2.1 bt147.2.2.2.2.2.1 bt147.2.2.2.2.2.2.1 bt147.2.2.2.2.2.2.2.1 bt147.2.2.2.2.2.2.2.2.1) else (spec_l6Kind.j0 k a1 false bt147.1 bt147.2.1 bt147.2.2.1 bt147.2.2.2.1 bt147.2.2.2.2.1 bt147.2.2.2.2.2.1 bt147.2.2.2.2.2.2.1 bt147.2.2.2.2.2.2.2.1 bt147.2.2.2.2.2.2.2.2.1)) else (spec_l6Kind.j0 k a1 true bt147.1 bt147.2.1 bt147.2.2.1 bt147.2.2.2.1 bt147.2.2.2.2.1 bt147.2.2.2.2.2.1 bt147.2.2.2.2.2.2.1 bt147.2.2.2.2.2.2.2.1 bt147.2.2.2.2.2.2.2.2.1))) = some r := by rw [if_pos rfl] at H; exact H
  clear H
  have H := H1
  clear H1
  replace H := Option.bind_eq_some_iff.mp H
  obtain ⟨⟨t147, t148, t149, t150, t151, t152, t153, t154, t155, t156⟩, A50, H⟩ := H
  replace H : (if t156 = true then (if t149 = true then (spec_l6Kind.j0 k a1 (!t148) t147 t148 t149 t150 t151 t152 t153 t154 t155) else (spec_l6Kind.j0 k a1 false t147 t148 t149 t150 t151 t152 t153 t154 t155)) else (spec_l6Kind.j0 k a1 true t147 t148 t149 t150 t151 t152 t153 t154 t155)) = some r := H
  have A5 := Aside0.mk A50
  clear A50
  have HC6 := Aside0.mk H
  clear H
  go_enter Try.func89, Try.ntmps89
  go_upto_region 4 with (first | (go_at_call 49; (with_reducible refine (spec_l6Is.calls k a0 0 true _ A3.out).mono ?_); rintro e w' ⟨rfl, ⟨nd, rfl⟩⟩; (try first | exact ⟨rfl, _, World.drewN_drewN _ _ _⟩ | exact ⟨rfl, _, Eq.trans (World.drewN_drewN _ _ _) (congrArg (World.drewN _) (Nat.add_assoc _ _ _))⟩)) | (go_at_call 15; (with_reducible refine (spec_GetEntry.calls k a0 t147 t148 t149 t150 t151 t152 t153 t154 t155 t156 _ A5.out).mono ?_); rintro e w7 ⟨rfl, hb⟩; have n0_ := Aside0.mk (below_step Z4_2 hb); clear HB; have HB := n0_; clear n0_; (try clear hb); (try clear hb2); (try clear hk); (try clear hi)) | ((with_reducible refine gate_dst (N := 5) rfl ?_); refine box_event ?hg (N := 5) ?hd (cs := #[.bool false, .bool false, .bool false, .bool false, .bool false, .bool false, .bool false, .bool false, .int .i64 0]) (t := 27) ?hr ?_; (case hd => rfl); (case hg => rfl); (case hr => first | (go_simp; done) | (go_simp; rfl)); intro gb157 hg w8 hbox hb; have n0_ := Aside0.mk (below_step Z4_2 hb); have n1_ := Aside0.mk (hbox); have n2_ := Aside0.mk ((Z4_7 : w.heap.size ≤ gb157)); have n3_ := Aside0.mk ((Z4_7 : w.heap.size ≤ gb157)); clear HB; have HB := n0_; have BK157 := n1_; have GW157 := n2_; have GE157 := n3_; clear n0_ n1_ n2_ n3_; clear hb hbox hg; have hcz9_0 : w8.cell? ⟨gb157, 0, none⟩ = some (.bool false) := (blk_cell BK157.out 0).trans rfl; have hcz9_1 : w8.cell? ⟨gb157, 1, none⟩ = some (.bool false) := (blk_cell BK157.out 1).trans rfl; have hcz9_2 : w8.cell? ⟨gb157, 2, none⟩ = some (.bool false) := (blk_cell BK157.out 2).trans rfl; have hcz9_3 : w8.cell? ⟨gb157, 3, none⟩ = some (.bool false) := (blk_cell BK157.out 3).trans rfl; have hcz9_4 : w8.cell? ⟨gb157, 4, none⟩ = some (.bool false) := (blk_cell BK157.out 4).trans rfl; have hcz9_5 : w8.cell? ⟨gb157, 5, none⟩ = some (.bool false) := (blk_cell BK157.out 5).trans rfl; have hcz9_6 : w8.cell? ⟨gb157, 6, none⟩ = some (.bool false) := (blk_cell BK157.out 6).trans rfl; have hcz9_7 : w8.cell? ⟨gb157, 7, none⟩ = some (.bool false) := (blk_cell BK157.out 7).trans rfl; have hcz9_8 : w8.cell? ⟨gb157, 8, none⟩ = some (.int .i64 0) := (blk_cell BK157.out 8).trans rfl; have hfz9_0 := blk_frozen BK157.out 0; have hfz9_1 := blk_frozen BK157.out 1; have hfz9_2 := blk_frozen BK157.out 2; have hfz9_3 := blk_frozen BK157.out 3; have hfz9_4 := blk_frozen BK157.out 4; have hfz9_5 := blk_frozen BK157.out 5; have hfz9_6 := blk_frozen BK157.out 6; have hfz9_7 := blk_frozen BK157.out 7; have hfz9_8 := blk_frozen BK157.out 8))
  repeat (go_quiet (first | (go_at_call 49; (with_reducible refine (spec_l6Is.calls k a0 0 true _ A3.out).mono ?_); rintro e w' ⟨rfl, ⟨nd, rfl⟩⟩; (try first | exact ⟨rfl, _, World.drewN_drewN _ _ _⟩ | exact ⟨rfl, _, Eq.trans (World.drewN_drewN _ _ _) (congrArg (World.drewN _) (Nat.add_assoc _ _ _))⟩)) | (go_at_call 15; (with_reducible refine (spec_GetEntry.calls k a0 t147 t148 t149 t150 t151 t152 t153 t154 t155 t156 _ A5.out).mono ?_); rintro e w7 ⟨rfl, hb⟩; have n0_ := Aside0.mk (below_step Z4_2 hb); clear HB; have HB := n0_; clear n0_; (try clear hb); (try clear hb2); (try clear hk); (try clear hi)) | ((with_reducible refine gate_dst (N := 5) rfl ?_); refine box_event ?hg (N := 5) ?hd (cs := #[.bool false, .bool false, .bool false, .bool false, .bool false, .bool false, .bool false, .bool false, .int .i64 0]) (t := 27) ?hr ?_; (case hd => rfl); (case hg => rfl); (case hr => first | (go_simp; done) | (go_simp; rfl)); intro gb157 hg w8 hbox hb; have n0_ := Aside0.mk (below_step Z4_2 hb); have n1_ := Aside0.mk (hbox); have n2_ := Aside0.mk ((Z4_7 : w.heap.size ≤ gb157)); have n3_ := Aside0.mk ((Z4_7 : w.heap.size ≤ gb157)); clear HB; have HB := n0_; have BK157 := n1_; have GW157 := n2_; have GE157 := n3_; clear n0_ n1_ n2_ n3_; clear hb hbox hg; have hcz9_0 : w8.cell? ⟨gb157, 0, none⟩ = some (.bool false) := (blk_cell BK157.out 0).trans rfl; have hcz9_1 : w8.cell? ⟨gb157, 1, none⟩ = some (.bool false) := (blk_cell BK157.out 1).trans rfl; have hcz9_2 : w8.cell? ⟨gb157, 2, none⟩ = some (.bool false) := (blk_cell BK157.out 2).trans rfl; have hcz9_3 : w8.cell? ⟨gb157, 3, none⟩ = some (.bool false) := (blk_cell BK157.out 3).trans rfl; have hcz9_4 : w8.cell? ⟨gb157, 4, none⟩ = some (.bool false) := (blk_cell BK157.out 4).trans rfl; have hcz9_5 : w8.cell? ⟨gb157, 5, none⟩ = some (.bool false) := (blk_cell BK157.out 5).trans rfl; have hcz9_6 : w8.cell? ⟨gb157, 6, none⟩ = some (.bool false) := (blk_cell BK157.out 6).trans rfl; have hcz9_7 : w8.cell? ⟨gb157, 7, none⟩ = some (.bool false) := (blk_cell BK157.out 7).trans rfl; have hcz9_8 : w8.cell? ⟨gb157, 8, none⟩ = some (.int .i64 0) := (blk_cell BK157.out 8).trans rfl; have hfz9_0 := blk_frozen BK157.out 0; have hfz9_1 := blk_frozen BK157.out 1; have hfz9_2 := blk_frozen BK157.out 2; have hfz9_3 := blk_frozen BK157.out 3; have hfz9_4 := blk_frozen BK157.out 4; have hfz9_5 := blk_frozen BK157.out 5; have hfz9_6 := blk_frozen BK157.out 6; have hfz9_7 := blk_frozen BK157.out 7; have hfz9_8 := blk_frozen BK157.out 8)); go_upto_region 4 with (first | (go_at_call 49; (with_reducible refine (spec_l6Is.calls k a0 0 true _ A3.out).mono ?_); rintro e w' ⟨rfl, ⟨nd, rfl⟩⟩; (try first | exact ⟨rfl, _, World.drewN_drewN _ _ _⟩ | exact ⟨rfl, _, Eq.trans (World.drewN_drewN _ _ _) (congrArg (World.drewN _) (Nat.add_assoc _ _ _))⟩)) | (go_at_call 15; (with_reducible refine (spec_GetEntry.calls k a0 t147 t148 t149 t150 t151 t152 t153 t154 t155 t156 _ A5.out).mono ?_); rintro e w7 ⟨rfl, hb⟩; have n0_ := Aside0.mk (below_step Z4_2 hb); clear HB; have HB := n0_; clear n0_; (try clear hb); (try clear hb2); (try clear hk); (try clear hi)) | ((with_reducible refine gate_dst (N := 5) rfl ?_); refine box_event ?hg (N := 5) ?hd (cs := #[.bool false, .bool false, .bool false, .bool false, .bool false, .bool false, .bool false, .bool false, .int .i64 0]) (t := 27) ?hr ?_; (case hd => rfl); (case hg => rfl); (case hr => first | (go_simp; done) | (go_simp; rfl)); intro gb157 hg w8 hbox hb; have n0_ := Aside0.mk (below_step Z4_2 hb); have n1_ := Aside0.mk (hbox); have n2_ := Aside0.mk ((Z4_7 : w.heap.size ≤ gb157)); have n3_ := Aside0.mk ((Z4_7 : w.heap.size ≤ gb157)); clear HB; have HB := n0_; have BK157 := n1_; have GW157 := n2_; have GE157 := n3_; clear n0_ n1_ n2_ n3_; clear hb hbox hg; have hcz9_0 : w8.cell? ⟨gb157, 0, none⟩ = some (.bool false) := (blk_cell BK157.out 0).trans rfl; have hcz9_1 : w8.cell? ⟨gb157, 1, none⟩ = some (.bool false) := (blk_cell BK157.out 1).trans rfl; have hcz9_2 : w8.cell? ⟨gb157, 2, none⟩ = some (.bool false) := (blk_cell BK157.out 2).trans rfl; have hcz9_3 : w8.cell? ⟨gb157, 3, none⟩ = some (.bool false) := (blk_cell BK157.out 3).trans rfl; have hcz9_4 : w8.cell? ⟨gb157, 4, none⟩ = some (.bool false) := (blk_cell BK157.out 4).trans rfl; have hcz9_5 : w8.cell? ⟨gb157, 5, none⟩ = some (.bool false) := (blk_cell BK157.out 5).trans rfl; have hcz9_6 : w8.cell? ⟨gb157, 6, none⟩ = some (.bool false) := (blk_cell BK157.out 6).trans rfl; have hcz9_7 : w8.cell? ⟨gb157, 7, none⟩ = some (.bool false) := (blk_cell BK157.out 7).trans rfl; have hcz9_8 : w8.cell? ⟨gb157, 8, none⟩ = some (.int .i64 0) := (blk_cell BK157.out 8).trans rfl; have hfz9_0 := blk_frozen BK157.out 0; have hfz9_1 := blk_frozen BK157.out 1; have hfz9_2 := blk_frozen BK157.out 2; have hfz9_3 := blk_frozen BK157.out 3; have hfz9_4 := blk_frozen BK157.out 4; have hfz9_5 := blk_frozen BK157.out 5; have hfz9_6 := blk_frozen BK157.out 6; have hfz9_7 := blk_frozen BK157.out 7; have hfz9_8 := blk_frozen BK157.out 8)))
  (try simp only [Act.put, List.setIfInBounds_toArray, List.set_cons_zero, List.set_cons_succ])
  go_cut [25] (fun v25 wc => ∃ (kq : Nat) (x25_5 : Bool), v25 = .bool x25_5 ∧ Aside0 (spec_l6Kind.j0 kq a1 x25_5 t147 t148 t149 t150 t151 t152 t153 t154 t155 = some r) ∧ Aside0 (kq ≤ k) ∧ Aside0 (wc.heap[gb157]? = some (.cells #[.bool t147, .bool t148, .bool t149, .bool t150, .bool t151, .bool t152, .bool t153, .bool t154, .int .i64 t155] 27 (0, 0))) ∧ Aside0 (Below w.heap.size w wc))
  case first =>
   have H := HC6.out
   clear HC6
   by_cases c10 : t156 = true
   ·subst c10
    have H1 : (if t149 = true then (spec_l6Kind.j0 k a1 (!t148) t147 t148 t149 t150 t151 t152 t153 t154 t155) else (spec_l6Kind.j0 k a1 false t147 t148 t149 t150 t151 t152 t153 t154 t155)) = some r := by rw [if_pos rfl] at H; exact H
    clear H
    have H := H1
    clear H1
    by_cases c11 : t149 = true
    ·subst c11
     have H1 : (spec_l6Kind.j0 k a1 (!t148) t147 t148 true t150 t151 t152 t153 t154 t155) = some r := by rw [if_pos rfl] at H; exact H
     clear H
     have H := H1
     clear H1
     have H' := Aside0.mk H
     clear H
     have hcz12_0 : w8.cell? ⟨gb157, 0, none⟩ = some (.bool false) := (blk_cell BK157.out 0).trans rfl
     have hcz12_1 : w8.cell? ⟨gb157, 1, none⟩ = some (.bool false) := (blk_cell BK157.out 1).trans rfl
     have hcz12_2 : w8.cell? ⟨gb157, 2, none⟩ = some (.bool false) := (blk_cell BK157.out 2).trans rfl
     have hcz12_3 : w8.cell? ⟨gb157, 3, none⟩ = some (.bool false) := (blk_cell BK157.out 3).trans rfl
     have hcz12_4 : w8.cell? ⟨gb157, 4, none⟩ = some (.bool false) := (blk_cell BK157.out 4).trans rfl
     have hcz12_5 : w8.cell? ⟨gb157, 5, none⟩ = some (.bool false) := (blk_cell BK157.out 5).trans rfl
     have hcz12_6 : w8.cell? ⟨gb157, 6, none⟩ = some (.bool false) := (blk_cell BK157.out 6).trans rfl
     have hcz12_7 : w8.cell? ⟨gb157, 7, none⟩ = some (.bool false) := (blk_cell BK157.out 7).trans rfl
     have hcz12_8 : w8.cell? ⟨gb157, 8, none⟩ = some (.int .i64 0) := (blk_cell BK157.out 8).trans rfl
     have hfz12_0 := blk_frozen BK157.out 0
     have hfz12_1 := blk_frozen BK157.out 1
     have hfz12_2 := blk_frozen BK157.out 2
     have hfz12_3 := blk_frozen BK157.out 3
     have hfz12_4 := blk_frozen BK157.out 4
     have hfz12_5 := blk_frozen BK157.out 5
     have hfz12_6 := blk_frozen BK157.out 6
     have hfz12_7 := blk_frozen BK157.out 7
     have hfz12_8 := blk_frozen BK157.out 8
     go_wp2
     repeat (go_quiet (fail); try go_wp2)
     go_meet
     case rel => exact ⟨_, (!t148), Z4_3, H', ⟨by first | omega | exact Nat.le_refl _⟩, ⟨by (with_reducible repeat (first | apply blk_drewN | apply blk_drew | apply blk_alloc)); refine blk_put (cs := #[.bool t147, .bool t148, .bool true, .bool t150, .bool t151, .bool t152, .bool t153, .bool t154, .int .i64 0]) ?_ 8 _ rfl; (with_reducible repeat (first | apply blk_drewN | apply blk_drew | apply blk_alloc)); refine blk_put (cs := #[.bool t147, .bool t148, .bool true, .bool t150, .bool t151, .bool t152, .bool t153, .bool false, .int .i64 0]) ?_ 7 _ rfl; (with_reducible repeat (first | apply blk_drewN | apply blk_drew | apply blk_alloc)); refine blk_put (cs := #[.bool t147, .bool t148, .bool true, .bool t150, .bool t151, .bool t152, .bool false, .bool false, .int .i64 0]) ?_ 6 _ rfl; (with_reducible repeat (first | apply blk_drewN | apply blk_drew | apply blk_alloc)); refine blk_put (cs := #[.bool t147, .bool t148, .bool true, .bool t150, .bool t151, .bool false, .bool false, .bool false, .int .i64 0]) ?_ 5 _ rfl; (with_reducible repeat (first | apply blk_drewN | apply blk_drew | apply blk_alloc)); refine blk_put (cs := #[.bool t147, .bool t148, .bool true, .bool t150, .bool false, .bool false, .bool false, .bool false, .int .i64 0]) ?_ 4 _ rfl; (with_reducible repeat (first | apply blk_drewN | apply blk_drew | apply blk_alloc)); refine blk_put (cs := #[.bool t147, .bool t148, .bool true, .bool false, .bool false, .bool false, .bool false, .bool false, .int .i64 0]) ?_ 3 _ rfl; (with_reducible repeat (first | apply blk_drewN | apply blk_drew | apply blk_alloc)); refine blk_put (cs := #[.bool t147, .bool t148, .bool false, .bool false, .bool false, .bool false, .bool false, .bool false, .int .i64 0]) ?_ 2 _ rfl; (with_reducible repeat (first | apply blk_drewN | apply blk_drew | apply blk_alloc)); refine blk_put (cs := #[.bool t147, .bool false, .bool false, .bool false, .bool false, .bool false, .bool false, .bool false, .int .i64 0]) ?_ 1 _ rfl; (with_reducible repeat (first | apply blk_drewN | apply blk_drew | apply blk_alloc)); refine blk_put (cs := #[.bool false, .bool false, .bool false, .bool false, .bool false, .bool false, .bool false, .bool false, .int .i64 0]) ?_ 0 _ rfl; (with_reducible repeat (first | apply blk_drewN | apply blk_drew | apply blk_alloc)); exact BK157.out⟩, ⟨Z4_1⟩⟩
    replace c11 := Bool.eq_false_iff.mpr c11
    subst c11
    have H1 : (spec_l6Kind.j0 k a1 false t147 t148 false t150 t151 t152 t153 t154 t155) = some r := by rw [if_neg (show ¬ (false = true) by decide)] at H; exact H
    clear H
    have H := H1
    clear H1
    have H' := Aside0.mk H
    clear H
    have hcz13_0 : w8.cell? ⟨gb157, 0, none⟩ = some (.bool false) := (blk_cell BK157.out 0).trans rfl
    have hcz13_1 : w8.cell? ⟨gb157, 1, none⟩ = some (.bool false) := (blk_cell BK157.out 1).trans rfl
    have hcz13_2 : w8.cell? ⟨gb157, 2, none⟩ = some (.bool false) := (blk_cell BK157.out 2).trans rfl
    have hcz13_3 : w8.cell? ⟨gb157, 3, none⟩ = some (.bool false) := (blk_cell BK157.out 3).trans rfl
    have hcz13_4 : w8.cell? ⟨gb157, 4, none⟩ = some (.bool false) := (blk_cell BK157.out 4).trans rfl
    have hcz13_5 : w8.cell? ⟨gb157, 5, none⟩ = some (.bool false) := (blk_cell BK157.out 5).trans rfl
    have hcz13_6 : w8.cell? ⟨gb157, 6, none⟩ = some (.bool false) := (blk_cell BK157.out 6).trans rfl
    have hcz13_7 : w8.cell? ⟨gb157, 7, none⟩ = some (.bool false) := (blk_cell BK157.out 7).trans rfl
    have hcz13_8 : w8.cell? ⟨gb157, 8, none⟩ = some (.int .i64 0) := (blk_cell BK157.out 8).trans rfl
    have hfz13_0 := blk_frozen BK157.out 0
    have hfz13_1 := blk_frozen BK157.out 1
    have hfz13_2 := blk_frozen BK157.out 2
    have hfz13_3 := blk_frozen BK157.out 3
    have hfz13_4 := blk_frozen BK157.out 4
    have hfz13_5 := blk_frozen BK157.out 5
    have hfz13_6 := blk_frozen BK157.out 6
    have hfz13_7 := blk_frozen BK157.out 7
    have hfz13_8 := blk_frozen BK157.out 8
    go_wp2
    repeat (go_quiet (fail); try go_wp2)
    go_meet
    case rel => exact ⟨_, (false), Z4_3, H', ⟨by first | omega | exact Nat.le_refl _⟩, ⟨by (with_reducible repeat (first | apply blk_drewN | apply blk_drew | apply blk_alloc)); refine blk_put (cs := #[.bool t147, .bool t148, .bool false, .bool t150, .bool t151, .bool t152, .bool t153, .bool t154, .int .i64 0]) ?_ 8 _ rfl; (with_reducible repeat (first | apply blk_drewN | apply blk_drew | apply blk_alloc)); refine blk_put (cs := #[.bool t147, .bool t148, .bool false, .bool t150, .bool t151, .bool t152, .bool t153, .bool false, .int .i64 0]) ?_ 7 _ rfl; (with_reducible repeat (first | apply blk_drewN | apply blk_drew | apply blk_alloc)); refine blk_put (cs := #[.bool t147, .bool t148, .bool false, .bool t150, .bool t151, .bool t152, .bool false, .bool false, .int .i64 0]) ?_ 6 _ rfl; (with_reducible repeat (first | apply blk_drewN | apply blk_drew | apply blk_alloc)); refine blk_put (cs := #[.bool t147, .bool t148, .bool false, .bool t150, .bool t151, .bool false, .bool false, .bool false, .int .i64 0]) ?_ 5 _ rfl; (with_reducible repeat (first | apply blk_drewN | apply blk_drew | apply blk_alloc)); refine blk_put (cs := #[.bool t147, .bool t148, .bool false, .bool t150, .bool false, .bool false, .bool false, .bool false, .int .i64 0]) ?_ 4 _ rfl; (with_reducible repeat (first | apply blk_drewN | apply blk_drew | apply blk_alloc)); refine blk_put (cs := #[.bool t147, .bool t148, .bool false, .bool false, .bool false, .bool false, .bool false, .bool false, .int .i64 0]) ?_ 3 _ rfl; (with_reducible repeat (first | apply blk_drewN | apply blk_drew | apply blk_alloc)); refine blk_put (cs := #[.bool t147, .bool t148, .bool false, .bool false, .bool false, .bool false, .bool false, .bool false, .int .i64 0]) ?_ 2 _ rfl; (with_reducible repeat (first | apply blk_drewN | apply blk_drew | apply blk_alloc)); refine blk_put (cs := #[.bool t147, .bool false, .bool false, .bool false, .bool false, .bool false, .bool false, .bool false, .int .i64 0]) ?_ 1 _ rfl; (with_reducible repeat (first | apply blk_drewN | apply blk_drew | apply blk_alloc)); refine blk_put (cs := #[.bool false, .bool false, .bool false, .bool false, .bool false, .bool false, .bool false, .bool false, .int .i64 0]) ?_ 0 _ rfl; (with_reducible repeat (first | apply blk_drewN | apply blk_drew | apply blk_alloc)); exact BK157.out⟩, ⟨Z4_1⟩⟩
   replace c10 := Bool.eq_false_iff.mpr c10
   subst c10
   have H1 : (spec_l6Kind.j0 k a1 true t147 t148 t149 t150 t151 t152 t153 t154 t155) = some r := by rw [if_neg (show ¬ (false = true) by decide)] at H; exact H
   clear H
   have H := H1
   clear H1
   have H' := Aside0.mk H
   clear H
   go_wp2
   repeat (go_quiet (fail); try go_wp2)
   go_meet
   case rel => exact ⟨_, (true), Z4_3, H', ⟨by first | omega | exact Nat.le_refl _⟩, ⟨by (with_reducible repeat (first | apply blk_drewN | apply blk_drew | apply blk_alloc)); refine blk_put (cs := #[.bool t147, .bool t148, .bool t149, .bool t150, .bool t151, .bool t152, .bool t153, .bool t154, .int .i64 0]) ?_ 8 _ rfl; (with_reducible repeat (first | apply blk_drewN | apply blk_drew | apply blk_alloc)); refine blk_put (cs := #[.bool t147, .bool t148, .bool t149, .bool t150, .bool t151, .bool t152, .bool t153, .bool false, .int .i64 0]) ?_ 7 _ rfl; (with_reducible repeat (first | apply blk_drewN | apply blk_drew | apply blk_alloc)); refine blk_put (cs := #[.bool t147, .bool t148, .bool t149, .bool t150, .bool t151, .bool t152, .bool false, .bool false, .int .i64 0]) ?_ 6 _ rfl; (with_reducible repeat (first | apply blk_drewN | apply blk_drew | apply blk_alloc)); refine blk_put (cs := #[.bool t147, .bool t148, .bool t149, .bool t150, .bool t151, .bool false, .bool false, .bool false, .int .i64 0]) ?_ 5 _ rfl; (with_reducible repeat (first | apply blk_drewN | apply blk_drew | apply blk_alloc)); refine blk_put (cs := #[.bool t147, .bool t148, .bool t149, .bool t150, .bool false, .bool false, .bool false, .bool false, .int .i64 0]) ?_ 4 _ rfl; (with_reducible repeat (first | apply blk_drewN | apply blk_drew | apply blk_alloc)); refine blk_put (cs := #[.bool t147, .bool t148, .bool t149, .bool false, .bool false, .bool false, .bool false, .bool false, .int .i64 0]) ?_ 3 _ rfl; (with_reducible repeat (first | apply blk_drewN | apply blk_drew | apply blk_alloc)); refine blk_put (cs := #[.bool t147, .bool t148, .bool false, .bool false, .bool false, .bool false, .bool false, .bool false, .int .i64 0]) ?_ 2 _ rfl; (with_reducible repeat (first | apply blk_drewN | apply blk_drew | apply blk_alloc)); refine blk_put (cs := #[.bool t147, .bool false, .bool false, .bool false, .bool false, .bool false, .bool false, .bool false, .int .i64 0]) ?_ 1 _ rfl; (with_reducible repeat (first | apply blk_drewN | apply blk_drew | apply blk_alloc)); refine blk_put (cs := #[.bool false, .bool false, .bool false, .bool false, .bool false, .bool false, .bool false, .bool false, .int .i64 0]) ?_ 0 _ rfl; (with_reducible repeat (first | apply blk_drewN | apply blk_drew | apply blk_alloc)); exact BK157.out⟩, ⟨Z4_1⟩⟩
  clear HC6
  try clear c1
  try clear p2
  try clear c4
  try clear c8
  try clear c10
  try clear c11
  try clear hcz12_0
  try clear hcz12_1
  try clear hcz12_2
  try clear hcz12_3
  try clear hcz12_4
  try clear hcz12_5
  try clear hcz12_6
  try clear hcz12_7
  try clear hcz12_8
  try clear hcz13_0
  try clear hcz13_1
  try clear hcz13_2
  try clear hcz13_3
  try clear hcz13_4
  try clear hcz13_5
  try clear hcz13_6
  try clear hcz13_7
  try clear hcz13_8
  try clear hcz9_0
  try clear hcz9_1
  try clear hcz9_2
  try clear hcz9_3
  try clear hcz9_4
  try clear hcz9_5
  try clear hcz9_6
  try clear hcz9_7
  try clear hcz9_8
  try clear hfz12_0
  try clear hfz12_1
  try clear hfz12_2
  try clear hfz12_3
  try clear hfz12_4
  try clear hfz12_5
  try clear hfz12_6
  try clear hfz12_7
  try clear hfz12_8
  try clear hfz13_0
  try clear hfz13_1
  try clear hfz13_2
  try clear hfz13_3
  try clear hfz13_4
  try clear hfz13_5
  try clear hfz13_6
  try clear hfz13_7
  try clear hfz13_8
  try clear hfz9_0
  try clear hfz9_1
  try clear hfz9_2
  try clear hfz9_3
  try clear hfz9_4
  try clear hfz9_5
  try clear hfz9_6
  try clear hfz9_7
  try clear hfz9_8
  obtain ⟨kq, x25_5, rfl, HA, HJ5, BK157, HB⟩ := hcut
  cases kq with
  | zero => exact absurd HA.out (by simp [spec_l6Kind.j0])
  | succ kj5 =>
   have H := HA.out
   clear HA
   simp only [spec_l6Kind.j0] at H
   by_cases c14 : x25_5 = true
   ·subst c14
    have H1 : (some (-5)) = some r := by rw [if_pos rfl] at H; exact H
    clear H
    have H := H1
    clear H1
    obtain rfl := Option.some.inj H
    go_wp2
    repeat (go_quiet (fail); try go_wp2)
    go_ret
    exact ⟨Z4_5, Z4_1⟩
   replace c14 := Bool.eq_false_iff.mpr c14
   subst c14
   have H1 : (if t148 = true then (spec_l6Kind.j1 kj5 a1 false t147 t148 t149 t150 t151 t152 t153 t154 t155) else (if t149 = true then (spec_l6Kind.j1 kj5 a1 false t147 t148 t149 t150 t151 t152 t153 t154 t155) else (spec_l6Kind.j1 kj5 a1 (!t150) t147 t148 t149 t150 t151 t152 t153 t154 t155))) = some r := by rw [if_neg (show ¬ (false = true) by decide)] at H; exact H
   clear H
   have H := H1
   clear H1
   have HC15 := Aside0.mk H
   clear H
   go_upto_region 6 with (fail)
   repeat (go_quiet (fail); go_upto_region 6 with (fail))
   go_cut [38] (fun v38 wc => ∃ (kq : Nat) (x38_14 : Bool), v38 = .bool x38_14 ∧ Aside0 (spec_l6Kind.j1 kq a1 x38_14 t147 t148 t149 t150 t151 t152 t153 t154 t155 = some r) ∧ Aside0 (kq ≤ kj5) ∧ Aside0 (wc.heap[gb157]? = some (.cells #[.bool t147, .bool t148, .bool t149, .bool t150, .bool t151, .bool t152, .bool t153, .bool t154, .int .i64 t155] 27 (0, 0))) ∧ Aside0 (Below w.heap.size w wc))
   case first =>
    have H := HC15.out
    clear HC15
    by_cases c16 : t148 = true
    ·subst c16
     have H1 : (spec_l6Kind.j1 kj5 a1 false t147 true t149 t150 t151 t152 t153 t154 t155) = some r := by rw [if_pos rfl] at H; exact H
     clear H
     have H := H1
     clear H1
     have H' := Aside0.mk H
     clear H
     have hcz17_0 : wc.cell? ⟨gb157, 0, none⟩ = some (.bool t147) := (blk_cell BK157.out 0).trans rfl
     have hcz17_1 : wc.cell? ⟨gb157, 1, none⟩ = some (.bool true) := (blk_cell BK157.out 1).trans rfl
     have hcz17_2 : wc.cell? ⟨gb157, 2, none⟩ = some (.bool t149) := (blk_cell BK157.out 2).trans rfl
     have hcz17_3 : wc.cell? ⟨gb157, 3, none⟩ = some (.bool t150) := (blk_cell BK157.out 3).trans rfl
     have hcz17_4 : wc.cell? ⟨gb157, 4, none⟩ = some (.bool t151) := (blk_cell BK157.out 4).trans rfl
     have hcz17_5 : wc.cell? ⟨gb157, 5, none⟩ = some (.bool t152) := (blk_cell BK157.out 5).trans rfl
     have hcz17_6 : wc.cell? ⟨gb157, 6, none⟩ = some (.bool t153) := (blk_cell BK157.out 6).trans rfl
     have hcz17_7 : wc.cell? ⟨gb157, 7, none⟩ = some (.bool t154) := (blk_cell BK157.out 7).trans rfl
     have hcz17_8 : wc.cell? ⟨gb157, 8, none⟩ = some (.int .i64 t155) := (blk_cell BK157.out 8).trans rfl
     have hfz17_0 := blk_frozen BK157.out 0
     have hfz17_1 := blk_frozen BK157.out 1
     have hfz17_2 := blk_frozen BK157.out 2
     have hfz17_3 := blk_frozen BK157.out 3
     have hfz17_4 := blk_frozen BK157.out 4
     have hfz17_5 := blk_frozen BK157.out 5
     have hfz17_6 := blk_frozen BK157.out 6
     have hfz17_7 := blk_frozen BK157.out 7
     have hfz17_8 := blk_frozen BK157.out 8
     go_wp2
     repeat (go_quiet (fail); try go_wp2)
     go_meet
     case rel => exact ⟨_, (false), Z4_3, H', ⟨by have := HJ5.out; first | omega | exact Nat.le_refl _⟩, ⟨Z4_4⟩, ⟨Z4_1⟩⟩
    replace c16 := Bool.eq_false_iff.mpr c16
    subst c16
    have H1 : (if t149 = true then (spec_l6Kind.j1 kj5 a1 false t147 false t149 t150 t151 t152 t153 t154 t155) else (spec_l6Kind.j1 kj5 a1 (!t150) t147 false t149 t150 t151 t152 t153 t154 t155)) = some r := by rw [if_neg (show ¬ (false = true) by decide)] at H; exact H
    clear H
    have H := H1
    clear H1
    by_cases c18 : t149 = true
    ·subst c18
     have H1 : (spec_l6Kind.j1 kj5 a1 false t147 false true t150 t151 t152 t153 t154 t155) = some r := by rw [if_pos rfl] at H; exact H
     clear H
     have H := H1
     clear H1
     have H' := Aside0.mk H
     clear H
     have hcz19_0 : wc.cell? ⟨gb157, 0, none⟩ = some (.bool t147) := (blk_cell BK157.out 0).trans rfl
     have hcz19_1 : wc.cell? ⟨gb157, 1, none⟩ = some (.bool false) := (blk_cell BK157.out 1).trans rfl
     have hcz19_2 : wc.cell? ⟨gb157, 2, none⟩ = some (.bool true) := (blk_cell BK157.out 2).trans rfl
     have hcz19_3 : wc.cell? ⟨gb157, 3, none⟩ = some (.bool t150) := (blk_cell BK157.out 3).trans rfl
     have hcz19_4 : wc.cell? ⟨gb157, 4, none⟩ = some (.bool t151) := (blk_cell BK157.out 4).trans rfl
     have hcz19_5 : wc.cell? ⟨gb157, 5, none⟩ = some (.bool t152) := (blk_cell BK157.out 5).trans rfl
     have hcz19_6 : wc.cell? ⟨gb157, 6, none⟩ = some (.bool t153) := (blk_cell BK157.out 6).trans rfl
     have hcz19_7 : wc.cell? ⟨gb157, 7, none⟩ = some (.bool t154) := (blk_cell BK157.out 7).trans rfl
     have hcz19_8 : wc.cell? ⟨gb157, 8, none⟩ = some (.int .i64 t155) := (blk_cell BK157.out 8).trans rfl
     have hfz19_0 := blk_frozen BK157.out 0
     have hfz19_1 := blk_frozen BK157.out 1
     have hfz19_2 := blk_frozen BK157.out 2
     have hfz19_3 := blk_frozen BK157.out 3
     have hfz19_4 := blk_frozen BK157.out 4
     have hfz19_5 := blk_frozen BK157.out 5
     have hfz19_6 := blk_frozen BK157.out 6
     have hfz19_7 := blk_frozen BK157.out 7
     have hfz19_8 := blk_frozen BK157.out 8
     go_wp2
     repeat (go_quiet (fail); try go_wp2)
     go_meet
     case rel => exact ⟨_, (false), Z4_3, H', ⟨by have := HJ5.out; first | omega | exact Nat.le_refl _⟩, ⟨Z4_4⟩, ⟨Z4_1⟩⟩
    replace c18 := Bool.eq_false_iff.mpr c18
    subst c18
    have H1 : (spec_l6Kind.j1 kj5 a1 (!t150) t147 false false t150 t151 t152 t153 t154 t155) = some r := by rw [if_neg (show ¬ (false = true) by decide)] at H; exact H
    clear H
    have H := H1
    clear H1
    have H' := Aside0.mk H
    clear H
    have hcz20_0 : wc.cell? ⟨gb157, 0, none⟩ = some (.bool t147) := (blk_cell BK157.out 0).trans rfl
    have hcz20_1 : wc.cell? ⟨gb157, 1, none⟩ = some (.bool false) := (blk_cell BK157.out 1).trans rfl
    have hcz20_2 : wc.cell? ⟨gb157, 2, none⟩ = some (.bool false) := (blk_cell BK157.out 2).trans rfl
    have hcz20_3 : wc.cell? ⟨gb157, 3, none⟩ = some (.bool t150) := (blk_cell BK157.out 3).trans rfl
    have hcz20_4 : wc.cell? ⟨gb157, 4, none⟩ = some (.bool t151) := (blk_cell BK157.out 4).trans rfl
    have hcz20_5 : wc.cell? ⟨gb157, 5, none⟩ = some (.bool t152) := (blk_cell BK157.out 5).trans rfl
    have hcz20_6 : wc.cell? ⟨gb157, 6, none⟩ = some (.bool t153) := (blk_cell BK157.out 6).trans rfl
    have hcz20_7 : wc.cell? ⟨gb157, 7, none⟩ = some (.bool t154) := (blk_cell BK157.out 7).trans rfl
    have hcz20_8 : wc.cell? ⟨gb157, 8, none⟩ = some (.int .i64 t155) := (blk_cell BK157.out 8).trans rfl
    have hfz20_0 := blk_frozen BK157.out 0
    have hfz20_1 := blk_frozen BK157.out 1
    have hfz20_2 := blk_frozen BK157.out 2
    have hfz20_3 := blk_frozen BK157.out 3
    have hfz20_4 := blk_frozen BK157.out 4
    have hfz20_5 := blk_frozen BK157.out 5
    have hfz20_6 := blk_frozen BK157.out 6
    have hfz20_7 := blk_frozen BK157.out 7
    have hfz20_8 := blk_frozen BK157.out 8
    go_wp2
    repeat (go_quiet (fail); try go_wp2)
    go_meet
    case rel => exact ⟨_, (!t150), Z4_3, H', ⟨by have := HJ5.out; first | omega | exact Nat.le_refl _⟩, ⟨Z4_4⟩, ⟨Z4_1⟩⟩
   clear HC15
   try clear c1
   try clear p2
   try clear c4
   try clear c8
   try clear c10
   try clear c11
   try clear c14
   try clear c16
   try clear c18
   try clear hcz12_0
   try clear hcz12_1
   try clear hcz12_2
   try clear hcz12_3
   try clear hcz12_4
   try clear hcz12_5
   try clear hcz12_6
   try clear hcz12_7
   try clear hcz12_8
   try clear hcz13_0
   try clear hcz13_1
   try clear hcz13_2
   try clear hcz13_3
   try clear hcz13_4
   try clear hcz13_5
   try clear hcz13_6
   try clear hcz13_7
   try clear hcz13_8
   try clear hcz17_0
   try clear hcz17_1
   try clear hcz17_2
   try clear hcz17_3
   try clear hcz17_4
   try clear hcz17_5
   try clear hcz17_6
   try clear hcz17_7
   try clear hcz17_8
   try clear hcz19_0
   try clear hcz19_1
   try clear hcz19_2
   try clear hcz19_3
   try clear hcz19_4
   try clear hcz19_5
   try clear hcz19_6
   try clear hcz19_7
   try clear hcz19_8
   try clear hcz20_0
   try clear hcz20_1
   try clear hcz20_2
   try clear hcz20_3
   try clear hcz20_4
   try clear hcz20_5
   try clear hcz20_6
   try clear hcz20_7
   try clear hcz20_8
   try clear hcz9_0
   try clear hcz9_1
   try clear hcz9_2
   try clear hcz9_3
   try clear hcz9_4
   try clear hcz9_5
   try clear hcz9_6
   try clear hcz9_7
   try clear hcz9_8
   try clear hfz12_0
   try clear hfz12_1
   try clear hfz12_2
   try clear hfz12_3
   try clear hfz12_4
   try clear hfz12_5
   try clear hfz12_6
   try clear hfz12_7
   try clear hfz12_8
   try clear hfz13_0
   try clear hfz13_1
   try clear hfz13_2
   try clear hfz13_3
   try clear hfz13_4
   try clear hfz13_5
   try clear hfz13_6
   try clear hfz13_7
   try clear hfz13_8
   try clear hfz17_0
   try clear hfz17_1
   try clear hfz17_2
   try clear hfz17_3
   try clear hfz17_4
   try clear hfz17_5
   try clear hfz17_6
   try clear hfz17_7
   try clear hfz17_8
   try clear hfz19_0
   try clear hfz19_1
   try clear hfz19_2
   try clear hfz19_3
   try clear hfz19_4
   try clear hfz19_5
   try clear hfz19_6
   try clear hfz19_7
   try clear hfz19_8
   try clear hfz20_0
   try clear hfz20_1
   try clear hfz20_2
   try clear hfz20_3
   try clear hfz20_4
   try clear hfz20_5
   try clear hfz20_6
   try clear hfz20_7
   try clear hfz20_8
   try clear hfz9_0
   try clear hfz9_1
   try clear hfz9_2
   try clear hfz9_3
   try clear hfz9_4
   try clear hfz9_5
   try clear hfz9_6
   try clear hfz9_7
   try clear hfz9_8
   try clear p2
   obtain ⟨kq, x38_14, rfl, HA, HJ14, BK157, HB⟩ := hcut
   cases kq with
   | zero => exact absurd HA.out (by simp [spec_l6Kind.j1])
   | succ kj14 =>
    have H := HA.out
    clear HA
    simp only [spec_l6Kind.j1] at H
    by_cases c21 : x38_14 = true
    ·subst c21
     have H1 : (if t151 = true then (spec_l6Kind.j2 kj14 true) else (if t152 = true then (spec_l6Kind.j2 kj14 true) else (if t153 = true then (spec_l6Kind.j2 kj14 true) else (spec_l6Kind.j2 kj14 (a1 == 0))))) = some r := by rw [if_pos rfl] at H; exact H
     clear H
     have H := H1
     clear H1
     have HC22 := Aside0.mk H
     clear H
     go_upto_region 7 with (fail)
     repeat (go_quiet (fail); go_upto_region 7 with (fail))
     go_cut [52] (fun v52 wc => ∃ (kq : Nat) (x52_21 : Bool), v52 = .bool x52_21 ∧ Aside0 (spec_l6Kind.j2 kq x52_21 = some r) ∧ Aside0 (kq ≤ kj14) ∧ Aside0 (wc.heap[gb157]? = some (.cells #[.bool t147, .bool t148, .bool t149, .bool t150, .bool t151, .bool t152, .bool t153, .bool t154, .int .i64 t155] 27 (0, 0))) ∧ Aside0 (Below w.heap.size w wc))
     case first =>
      have H := HC22.out
      clear HC22
      by_cases c23 : t151 = true
      ·subst c23
       have H1 : (spec_l6Kind.j2 kj14 true) = some r := by rw [if_pos rfl] at H; exact H
       clear H
       have H := H1
       clear H1
       have H' := Aside0.mk H
       clear H
       have hcz24_0 : wc.cell? ⟨gb157, 0, none⟩ = some (.bool t147) := (blk_cell BK157.out 0).trans rfl
       have hcz24_1 : wc.cell? ⟨gb157, 1, none⟩ = some (.bool t148) := (blk_cell BK157.out 1).trans rfl
       have hcz24_2 : wc.cell? ⟨gb157, 2, none⟩ = some (.bool t149) := (blk_cell BK157.out 2).trans rfl
       have hcz24_3 : wc.cell? ⟨gb157, 3, none⟩ = some (.bool t150) := (blk_cell BK157.out 3).trans rfl
       have hcz24_4 : wc.cell? ⟨gb157, 4, none⟩ = some (.bool true) := (blk_cell BK157.out 4).trans rfl
       have hcz24_5 : wc.cell? ⟨gb157, 5, none⟩ = some (.bool t152) := (blk_cell BK157.out 5).trans rfl
       have hcz24_6 : wc.cell? ⟨gb157, 6, none⟩ = some (.bool t153) := (blk_cell BK157.out 6).trans rfl
       have hcz24_7 : wc.cell? ⟨gb157, 7, none⟩ = some (.bool t154) := (blk_cell BK157.out 7).trans rfl
       have hcz24_8 : wc.cell? ⟨gb157, 8, none⟩ = some (.int .i64 t155) := (blk_cell BK157.out 8).trans rfl
       have hfz24_0 := blk_frozen BK157.out 0
       have hfz24_1 := blk_frozen BK157.out 1
       have hfz24_2 := blk_frozen BK157.out 2
       have hfz24_3 := blk_frozen BK157.out 3
       have hfz24_4 := blk_frozen BK157.out 4
       have hfz24_5 := blk_frozen BK157.out 5
       have hfz24_6 := blk_frozen BK157.out 6
       have hfz24_7 := blk_frozen BK157.out 7
       have hfz24_8 := blk_frozen BK157.out 8
       go_wp2
       repeat (go_quiet (fail); try go_wp2)
       go_meet
       case rel => exact ⟨_, (true), Z4_3, H', ⟨Z4_6⟩, ⟨Z4_4⟩, ⟨Z4_1⟩⟩
      replace c23 := Bool.eq_false_iff.mpr c23
      subst c23
      have H1 : (if t152 = true then (spec_l6Kind.j2 kj14 true) else (if t153 = true then (spec_l6Kind.j2 kj14 true) else (spec_l6Kind.j2 kj14 (a1 == 0)))) = some r := by rw [if_neg (show ¬ (false = true) by decide)] at H; exact H
      clear H
      have H := H1
      clear H1
      by_cases c25 : t152 = true
      ·subst c25
       have H1 : (spec_l6Kind.j2 kj14 true) = some r := by rw [if_pos rfl] at H; exact H
       clear H
       have H := H1
       clear H1
       have H' := Aside0.mk H
       clear H
       have hcz26_0 : wc.cell? ⟨gb157, 0, none⟩ = some (.bool t147) := (blk_cell BK157.out 0).trans rfl
       have hcz26_1 : wc.cell? ⟨gb157, 1, none⟩ = some (.bool t148) := (blk_cell BK157.out 1).trans rfl
       have hcz26_2 : wc.cell? ⟨gb157, 2, none⟩ = some (.bool t149) := (blk_cell BK157.out 2).trans rfl
       have hcz26_3 : wc.cell? ⟨gb157, 3, none⟩ = some (.bool t150) := (blk_cell BK157.out 3).trans rfl
       have hcz26_4 : wc.cell? ⟨gb157, 4, none⟩ = some (.bool false) := (blk_cell BK157.out 4).trans rfl
       have hcz26_5 : wc.cell? ⟨gb157, 5, none⟩ = some (.bool true) := (blk_cell BK157.out 5).trans rfl
       have hcz26_6 : wc.cell? ⟨gb157, 6, none⟩ = some (.bool t153) := (blk_cell BK157.out 6).trans rfl
       have hcz26_7 : wc.cell? ⟨gb157, 7, none⟩ = some (.bool t154) := (blk_cell BK157.out 7).trans rfl
       have hcz26_8 : wc.cell? ⟨gb157, 8, none⟩ = some (.int .i64 t155) := (blk_cell BK157.out 8).trans rfl
       have hfz26_0 := blk_frozen BK157.out 0
       have hfz26_1 := blk_frozen BK157.out 1
       have hfz26_2 := blk_frozen BK157.out 2
       have hfz26_3 := blk_frozen BK157.out 3
       have hfz26_4 := blk_frozen BK157.out 4
       have hfz26_5 := blk_frozen BK157.out 5
       have hfz26_6 := blk_frozen BK157.out 6
       have hfz26_7 := blk_frozen BK157.out 7
       have hfz26_8 := blk_frozen BK157.out 8
       go_wp2
       repeat (go_quiet (fail); try go_wp2)
       go_meet
       case rel => exact ⟨_, (true), Z4_3, H', ⟨Z4_6⟩, ⟨Z4_4⟩, ⟨Z4_1⟩⟩
      replace c25 := Bool.eq_false_iff.mpr c25
      subst c25
      have H1 : (if t153 = true then (spec_l6Kind.j2 kj14 true) else (spec_l6Kind.j2 kj14 (a1 == 0))) = some r := by rw [if_neg (show ¬ (false = true) by decide)] at H; exact H
      clear H
      have H := H1
      clear H1
      by_cases c27 : t153 = true
      ·subst c27
       have H1 : (spec_l6Kind.j2 kj14 true) = some r := by rw [if_pos rfl] at H; exact H
       clear H
       have H := H1
       clear H1
       have H' := Aside0.mk H
       clear H
       have hcz28_0 : wc.cell? ⟨gb157, 0, none⟩ = some (.bool t147) := (blk_cell BK157.out 0).trans rfl
       have hcz28_1 : wc.cell? ⟨gb157, 1, none⟩ = some (.bool t148) := (blk_cell BK157.out 1).trans rfl
       have hcz28_2 : wc.cell? ⟨gb157, 2, none⟩ = some (.bool t149) := (blk_cell BK157.out 2).trans rfl
       have hcz28_3 : wc.cell? ⟨gb157, 3, none⟩ = some (.bool t150) := (blk_cell BK157.out 3).trans rfl
       have hcz28_4 : wc.cell? ⟨gb157, 4, none⟩ = some (.bool false) := (blk_cell BK157.out 4).trans rfl
       have hcz28_5 : wc.cell? ⟨gb157, 5, none⟩ = some (.bool false) := (blk_cell BK157.out 5).trans rfl
       have hcz28_6 : wc.cell? ⟨gb157, 6, none⟩ = some (.bool true) := (blk_cell BK157.out 6).trans rfl
       have hcz28_7 : wc.cell? ⟨gb157, 7, none⟩ = some (.bool t154) := (blk_cell BK157.out 7).trans rfl
       have hcz28_8 : wc.cell? ⟨gb157, 8, none⟩ = some (.int .i64 t155) := (blk_cell BK157.out 8).trans rfl
       have hfz28_0 := blk_frozen BK157.out 0
       have hfz28_1 := blk_frozen BK157.out 1
       have hfz28_2 := blk_frozen BK157.out 2
       have hfz28_3 := blk_frozen BK157.out 3
       have hfz28_4 := blk_frozen BK157.out 4
       have hfz28_5 := blk_frozen BK157.out 5
       have hfz28_6 := blk_frozen BK157.out 6
       have hfz28_7 := blk_frozen BK157.out 7
       have hfz28_8 := blk_frozen BK157.out 8
       go_wp2
       repeat (go_quiet (fail); try go_wp2)
       go_meet
       case rel => exact ⟨_, (true), Z4_3, H', ⟨Z4_6⟩, ⟨Z4_4⟩, ⟨Z4_1⟩⟩
      replace c27 := Bool.eq_false_iff.mpr c27
      subst c27
      have H1 : (spec_l6Kind.j2 kj14 (a1 == 0)) = some r := by rw [if_neg (show ¬ (false = true) by decide)] at H; exact H
      clear H
      have H := H1
      clear H1
      have H' := Aside0.mk H
      clear H
      have hcz29_0 : wc.cell? ⟨gb157, 0, none⟩ = some (.bool t147) := (blk_cell BK157.out 0).trans rfl
      have hcz29_1 : wc.cell? ⟨gb157, 1, none⟩ = some (.bool t148) := (blk_cell BK157.out 1).trans rfl
      have hcz29_2 : wc.cell? ⟨gb157, 2, none⟩ = some (.bool t149) := (blk_cell BK157.out 2).trans rfl
      have hcz29_3 : wc.cell? ⟨gb157, 3, none⟩ = some (.bool t150) := (blk_cell BK157.out 3).trans rfl
      have hcz29_4 : wc.cell? ⟨gb157, 4, none⟩ = some (.bool false) := (blk_cell BK157.out 4).trans rfl
      have hcz29_5 : wc.cell? ⟨gb157, 5, none⟩ = some (.bool false) := (blk_cell BK157.out 5).trans rfl
      have hcz29_6 : wc.cell? ⟨gb157, 6, none⟩ = some (.bool false) := (blk_cell BK157.out 6).trans rfl
      have hcz29_7 : wc.cell? ⟨gb157, 7, none⟩ = some (.bool t154) := (blk_cell BK157.out 7).trans rfl
      have hcz29_8 : wc.cell? ⟨gb157, 8, none⟩ = some (.int .i64 t155) := (blk_cell BK157.out 8).trans rfl
      have hfz29_0 := blk_frozen BK157.out 0
      have hfz29_1 := blk_frozen BK157.out 1
      have hfz29_2 := blk_frozen BK157.out 2
      have hfz29_3 := blk_frozen BK157.out 3
      have hfz29_4 := blk_frozen BK157.out 4
      have hfz29_5 := blk_frozen BK157.out 5
      have hfz29_6 := blk_frozen BK157.out 6
      have hfz29_7 := blk_frozen BK157.out 7
      have hfz29_8 := blk_frozen BK157.out 8
      go_wp2
      repeat (go_quiet (fail); try go_wp2)
      go_meet
      case rel => exact ⟨_, ((a1 == 0)), Z4_3, H', ⟨Z4_6⟩, ⟨Z4_4⟩, ⟨Z4_1⟩⟩
     clear HC22
     try clear c1
     try clear c2
     try clear p2
     try clear c4
     try clear c8
     try clear c10
     try clear c11
     try clear c14
     try clear c16
     try clear c18
     try clear c21
     try clear c23
     try clear c25
     try clear c27
     try clear hcz12_0
     try clear hcz12_1
     try clear hcz12_2
     try clear hcz12_3
     try clear hcz12_4
     try clear hcz12_5
     try clear hcz12_6
     try clear hcz12_7
     try clear hcz12_8
     try clear hcz13_0
     try clear hcz13_1
     try clear hcz13_2
     try clear hcz13_3
     try clear hcz13_4
     try clear hcz13_5
     try clear hcz13_6
     try clear hcz13_7
     try clear hcz13_8
     try clear hcz17_0
     try clear hcz17_1
     try clear hcz17_2
     try clear hcz17_3
     try clear hcz17_4
     try clear hcz17_5
     try clear hcz17_6
     try clear hcz17_7
     try clear hcz17_8
     try clear hcz19_0
     try clear hcz19_1
     try clear hcz19_2
     try clear hcz19_3
     try clear hcz19_4
     try clear hcz19_5
     try clear hcz19_6
     try clear hcz19_7
     try clear hcz19_8
     try clear hcz20_0
     try clear hcz20_1
     try clear hcz20_2
     try clear hcz20_3
     try clear hcz20_4
     try clear hcz20_5
     try clear hcz20_6
     try clear hcz20_7
     try clear hcz20_8
     try clear hcz24_0
     try clear hcz24_1
     try clear hcz24_2
     try clear hcz24_3
     try clear hcz24_4
     try clear hcz24_5
     try clear hcz24_6
     try clear hcz24_7
     try clear hcz24_8
     try clear hcz26_0
     try clear hcz26_1
     try clear hcz26_2
     try clear hcz26_3
     try clear hcz26_4
     try clear hcz26_5
     try clear hcz26_6
     try clear hcz26_7
     try clear hcz26_8
     try clear hcz28_0
     try clear hcz28_1
     try clear hcz28_2
     try clear hcz28_3
     try clear hcz28_4
     try clear hcz28_5
     try clear hcz28_6
     try clear hcz28_7
     try clear hcz28_8
     try clear hcz29_0
     try clear hcz29_1
     try clear hcz29_2
     try clear hcz29_3
     try clear hcz29_4
     try clear hcz29_5
     try clear hcz29_6
     try clear hcz29_7
     try clear hcz29_8
     try clear hcz9_0
     try clear hcz9_1
     try clear hcz9_2
     try clear hcz9_3
     try clear hcz9_4
     try clear hcz9_5
     try clear hcz9_6
     try clear hcz9_7
     try clear hcz9_8
     try clear hfz12_0
     try clear hfz12_1
     try clear hfz12_2
     try clear hfz12_3
     try clear hfz12_4
     try clear hfz12_5
     try clear hfz12_6
     try clear hfz12_7
     try clear hfz12_8
     try clear hfz13_0
     try clear hfz13_1
     try clear hfz13_2
     try clear hfz13_3
     try clear hfz13_4
     try clear hfz13_5
     try clear hfz13_6
     try clear hfz13_7
     try clear hfz13_8
     try clear hfz17_0
     try clear hfz17_1
     try clear hfz17_2
     try clear hfz17_3
     try clear hfz17_4
     try clear hfz17_5
     try clear hfz17_6
     try clear hfz17_7
     try clear hfz17_8
     try clear hfz19_0
     try clear hfz19_1
     try clear hfz19_2
     try clear hfz19_3
     try clear hfz19_4
     try clear hfz19_5
     try clear hfz19_6
     try clear hfz19_7
     try clear hfz19_8
     try clear hfz20_0
     try clear hfz20_1
     try clear hfz20_2
     try clear hfz20_3
     try clear hfz20_4
     try clear hfz20_5
     try clear hfz20_6
     try clear hfz20_7
     try clear hfz20_8
     try clear hfz24_0
     try clear hfz24_1
     try clear hfz24_2
     try clear hfz24_3
     try clear hfz24_4
     try clear hfz24_5
     try clear hfz24_6
     try clear hfz24_7
     try clear hfz24_8
     try clear hfz26_0
     try clear hfz26_1
     try clear hfz26_2
     try clear hfz26_3
     try clear hfz26_4
     try clear hfz26_5
     try clear hfz26_6
     try clear hfz26_7
     try clear hfz26_8
     try clear hfz28_0
     try clear hfz28_1
     try clear hfz28_2
     try clear hfz28_3
     try clear hfz28_4
     try clear hfz28_5
     try clear hfz28_6
     try clear hfz28_7
     try clear hfz28_8
     try clear hfz29_0
     try clear hfz29_1
     try clear hfz29_2
     try clear hfz29_3
     try clear hfz29_4
     try clear hfz29_5
     try clear hfz29_6
     try clear hfz29_7
     try clear hfz29_8
     try clear hfz9_0
     try clear hfz9_1
     try clear hfz9_2
     try clear hfz9_3
     try clear hfz9_4
     try clear hfz9_5
     try clear hfz9_6
     try clear hfz9_7
     try clear hfz9_8
     try clear p2
     obtain ⟨kq, x52_21, rfl, HA, HJ21, BK157, HB⟩ := hcut
     cases kq with
     | zero => exact absurd HA.out (by simp [spec_l6Kind.j2])
     | succ kj21 =>
      have H := HA.out
      clear HA
      simp only [spec_l6Kind.j2] at H
      by_cases c30 : x52_21 = true
      ·subst c30
       have H1 : (some (-5)) = some r := by rw [if_pos rfl] at H; exact H
       clear H
       have H := H1
       clear H1
       obtain rfl := Option.some.inj H
       go_wp2
       repeat (go_quiet (fail); try go_wp2)
       go_ret
       exact ⟨Z4_5, Z4_1⟩
      replace c30 := Bool.eq_false_iff.mpr c30
      subst c30
      have H1 : (some 0) = some r := by rw [if_neg (show ¬ (false = true) by decide)] at H; exact H
      clear H
      have H := H1
      clear H1
      obtain rfl := Option.some.inj H
      go_wp2
      repeat (go_quiet (fail); try go_wp2)
      go_ret
      exact ⟨Z4_5, Z4_1⟩
    replace c21 := Bool.eq_false_iff.mpr c21
    subst c21
    have H1 : ((spec_l6Pages.f kj14 a1).bind fun t158 => (if t158 = 0 then (none) else (if (Int.tmod t155 t158) = 0 then (some 1) else (some (-6))))) = some r := by rw [if_neg (show ¬ (false = true) by decide)] at H; exact H
    clear H
    have H := H1
    clear H1
    replace H := Option.bind_eq_some_iff.mp H
    obtain ⟨t158, A310, H⟩ := H
    replace H : (if t158 = 0 then (none) else (if (Int.tmod t155 t158) = 0 then (some 1) else (some (-6)))) = some r := H
    have A31 := Aside0.mk A310
    clear A310
    by_cases c32 : t158 = 0
    ·rw [if_pos c32] at H
     exact absurd H (by simp)
    rw [if_neg c32] at H
    have c32b0 : (t158 == 0) = false := beq_eq_false_iff_ne.mpr c32
    have c32b1 : (t158 != 0) = true := bne_iff_ne.mpr c32
    by_cases c33 : (Int.tmod t155 t158) = 0
    ·rw [if_pos c33] at H
     have c33b0 : ((Int.tmod t155 t158) == 0) = true := beq_iff_eq.mpr c33
     have c33b1 : ((Int.tmod t155 t158) != 0) = false := bne_eq_false_iff_eq.mpr c33
     clear c33
     obtain rfl := Option.some.inj H
     have hcz34_0 : wc.cell? ⟨gb157, 0, none⟩ = some (.bool t147) := (blk_cell BK157.out 0).trans rfl
     have hcz34_1 : wc.cell? ⟨gb157, 1, none⟩ = some (.bool t148) := (blk_cell BK157.out 1).trans rfl
     have hcz34_2 : wc.cell? ⟨gb157, 2, none⟩ = some (.bool t149) := (blk_cell BK157.out 2).trans rfl
     have hcz34_3 : wc.cell? ⟨gb157, 3, none⟩ = some (.bool t150) := (blk_cell BK157.out 3).trans rfl
     have hcz34_4 : wc.cell? ⟨gb157, 4, none⟩ = some (.bool t151) := (blk_cell BK157.out 4).trans rfl
     have hcz34_5 : wc.cell? ⟨gb157, 5, none⟩ = some (.bool t152) := (blk_cell BK157.out 5).trans rfl
     have hcz34_6 : wc.cell? ⟨gb157, 6, none⟩ = some (.bool t153) := (blk_cell BK157.out 6).trans rfl
     have hcz34_7 : wc.cell? ⟨gb157, 7, none⟩ = some (.bool t154) := (blk_cell BK157.out 7).trans rfl
     have hcz34_8 : wc.cell? ⟨gb157, 8, none⟩ = some (.int .i64 t155) := (blk_cell BK157.out 8).trans rfl
     have hfz34_0 := blk_frozen BK157.out 0
     have hfz34_1 := blk_frozen BK157.out 1
     have hfz34_2 := blk_frozen BK157.out 2
     have hfz34_3 := blk_frozen BK157.out 3
     have hfz34_4 := blk_frozen BK157.out 4
     have hfz34_5 := blk_frozen BK157.out 5
     have hfz34_6 := blk_frozen BK157.out 6
     have hfz34_7 := blk_frozen BK157.out 7
     have hfz34_8 := blk_frozen BK157.out 8
     go_wp2_with (first | (go_at_call 87; (with_reducible refine (spec_l6Pages.calls kj14 a1 t158 _ A31.out).mono ?_); rintro e w' ⟨rfl, ⟨nd, rfl⟩⟩; (try first | exact ⟨rfl, _, World.drewN_drewN _ _ _⟩ | exact ⟨rfl, _, Eq.trans (World.drewN_drewN _ _ _) (congrArg (World.drewN _) (Nat.add_assoc _ _ _))⟩)))
     repeat (go_quiet (first | (go_at_call 87; (with_reducible refine (spec_l6Pages.calls kj14 a1 t158 _ A31.out).mono ?_); rintro e w' ⟨rfl, ⟨nd, rfl⟩⟩; (try first | exact ⟨rfl, _, World.drewN_drewN _ _ _⟩ | exact ⟨rfl, _, Eq.trans (World.drewN_drewN _ _ _) (congrArg (World.drewN _) (Nat.add_assoc _ _ _))⟩))); try go_wp2_with (first | (go_at_call 87; (with_reducible refine (spec_l6Pages.calls kj14 a1 t158 _ A31.out).mono ?_); rintro e w' ⟨rfl, ⟨nd, rfl⟩⟩; (try first | exact ⟨rfl, _, World.drewN_drewN _ _ _⟩ | exact ⟨rfl, _, Eq.trans (World.drewN_drewN _ _ _) (congrArg (World.drewN _) (Nat.add_assoc _ _ _))⟩))))
     go_ret
     exact ⟨Z4_5, Z4_1⟩
    rw [if_neg c33] at H
    have c33b0 : ((Int.tmod t155 t158) == 0) = false := beq_eq_false_iff_ne.mpr c33
    have c33b1 : ((Int.tmod t155 t158) != 0) = true := bne_iff_ne.mpr c33
    obtain rfl := Option.some.inj H
    have hcz35_0 : wc.cell? ⟨gb157, 0, none⟩ = some (.bool t147) := (blk_cell BK157.out 0).trans rfl
    have hcz35_1 : wc.cell? ⟨gb157, 1, none⟩ = some (.bool t148) := (blk_cell BK157.out 1).trans rfl
    have hcz35_2 : wc.cell? ⟨gb157, 2, none⟩ = some (.bool t149) := (blk_cell BK157.out 2).trans rfl
    have hcz35_3 : wc.cell? ⟨gb157, 3, none⟩ = some (.bool t150) := (blk_cell BK157.out 3).trans rfl
    have hcz35_4 : wc.cell? ⟨gb157, 4, none⟩ = some (.bool t151) := (blk_cell BK157.out 4).trans rfl
    have hcz35_5 : wc.cell? ⟨gb157, 5, none⟩ = some (.bool t152) := (blk_cell BK157.out 5).trans rfl
    have hcz35_6 : wc.cell? ⟨gb157, 6, none⟩ = some (.bool t153) := (blk_cell BK157.out 6).trans rfl
    have hcz35_7 : wc.cell? ⟨gb157, 7, none⟩ = some (.bool t154) := (blk_cell BK157.out 7).trans rfl
    have hcz35_8 : wc.cell? ⟨gb157, 8, none⟩ = some (.int .i64 t155) := (blk_cell BK157.out 8).trans rfl
    have hfz35_0 := blk_frozen BK157.out 0
    have hfz35_1 := blk_frozen BK157.out 1
    have hfz35_2 := blk_frozen BK157.out 2
    have hfz35_3 := blk_frozen BK157.out 3
    have hfz35_4 := blk_frozen BK157.out 4
    have hfz35_5 := blk_frozen BK157.out 5
    have hfz35_6 := blk_frozen BK157.out 6
    have hfz35_7 := blk_frozen BK157.out 7
    have hfz35_8 := blk_frozen BK157.out 8
    go_wp2_with (first | (go_at_call 87; (with_reducible refine (spec_l6Pages.calls kj14 a1 t158 _ A31.out).mono ?_); rintro e w' ⟨rfl, ⟨nd, rfl⟩⟩; (try first | exact ⟨rfl, _, World.drewN_drewN _ _ _⟩ | exact ⟨rfl, _, Eq.trans (World.drewN_drewN _ _ _) (congrArg (World.drewN _) (Nat.add_assoc _ _ _))⟩)))
    repeat (go_quiet (first | (go_at_call 87; (with_reducible refine (spec_l6Pages.calls kj14 a1 t158 _ A31.out).mono ?_); rintro e w' ⟨rfl, ⟨nd, rfl⟩⟩; (try first | exact ⟨rfl, _, World.drewN_drewN _ _ _⟩ | exact ⟨rfl, _, Eq.trans (World.drewN_drewN _ _ _) (congrArg (World.drewN _) (Nat.add_assoc _ _ _))⟩))); try go_wp2_with (first | (go_at_call 87; (with_reducible refine (spec_l6Pages.calls kj14 a1 t158 _ A31.out).mono ?_); rintro e w' ⟨rfl, ⟨nd, rfl⟩⟩; (try first | exact ⟨rfl, _, World.drewN_drewN _ _ _⟩ | exact ⟨rfl, _, Eq.trans (World.drewN_drewN _ _ _) (congrArg (World.drewN _) (Nat.add_assoc _ _ _))⟩))))
    go_ret
    exact ⟨Z4_5, Z4_1⟩
 replace c4 := Bool.eq_false_iff.mpr c4
 subst c4
 have H1 : (some (-4)) = some r := by rw [if_neg (show ¬ (false = true) by decide)] at H; exact H
 clear H
 have H := H1
 clear H1
 obtain rfl := Option.some.inj H
 go_enter Try.func89, Try.ntmps89
 go_wp2_with (first | (go_at_call 49; (with_reducible refine (spec_l6Is.calls k a0 0 false _ A3.out).mono ?_); rintro e w' ⟨rfl, ⟨nd, rfl⟩⟩; (try first | exact ⟨rfl, _, World.drewN_drewN _ _ _⟩ | exact ⟨rfl, _, Eq.trans (World.drewN_drewN _ _ _) (congrArg (World.drewN _) (Nat.add_assoc _ _ _))⟩)))
 repeat (go_quiet (first | (go_at_call 49; (with_reducible refine (spec_l6Is.calls k a0 0 false _ A3.out).mono ?_); rintro e w' ⟨rfl, ⟨nd, rfl⟩⟩; (try first | exact ⟨rfl, _, World.drewN_drewN _ _ _⟩ | exact ⟨rfl, _, Eq.trans (World.drewN_drewN _ _ _) (congrArg (World.drewN _) (Nat.add_assoc _ _ _))⟩))); try go_wp2_with (first | (go_at_call 49; (with_reducible refine (spec_l6Is.calls k a0 0 false _ A3.out).mono ?_); rintro e w' ⟨rfl, ⟨nd, rfl⟩⟩; (try first | exact ⟨rfl, _, World.drewN_drewN _ _ _⟩ | exact ⟨rfl, _, Eq.trans (World.drewN_drewN _ _ _) (congrArg (World.drewN _) (Nat.add_assoc _ _ _))⟩))))
 go_ret
 exact ⟨Z4_5, Z4_2⟩
end Go.Proofs.Ytdhafphhkokniaa.PFnLeavesFound
