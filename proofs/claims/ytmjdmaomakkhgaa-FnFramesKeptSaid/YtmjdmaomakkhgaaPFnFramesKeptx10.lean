-- Written by a program of this session out of the translation. Not trusted: Lean checks it.
import Derived.Test.YtmjdmaomakkhgaaPFnFramesKeptx0
import Derived.Test.YtmjdmaomakkhgaaPFnFramesKeptx2
import Derived.Test.YtmjdmaomakkhgaaPFnFramesKeptx9
namespace Go.Proofs.Ytmjdmaomakkhgaa.PFnFramesKept
open Go.RowKit Go.Proofs.YtmjdmaomakkhgaaW.PrintWords Go.Proofs.YtmjdmaomakkhgaaW.PrintLast Go.Proofs.YtmjdmaomakkhgaaW.PrintMore
attribute [local go_sem] max2_int min2_int max_two min_two max_three min_three max_four min_four   -- for this text's walks alone
set_option linter.unusedVariables false
set_option linter.unusedSimpArgs false
theorem Z10_22 {P : Prop} (h : P := by first | rfl | (simp [errW_none, errW_some] <;> rfl) | (simp [*, errW_none, errW_some] <;> rfl)) : P := h
theorem Z10_21 {P : Prop} (h : P := by first | omega | exact Nat.le_refl _) : P := h
theorem Z10_20 {P : Prop} (h : P := by (with_reducible repeat (first | apply Kd.R_alloc | apply Kd.R_drewN | apply Kd.R_drew)); exact HO_7.out) : P := h
theorem Z10_19 {P : Prop} (h : P := by (with_reducible repeat (first | apply Kd.R_alloc | apply Kd.R_drewN | apply Kd.R_drew)); exact HO302.out) : P := h
theorem Z10_18 {P : Prop} (h : P := by rw [hg]; exact (keep_size (w := w) (g := g) (row := none) Z10_9)) : P := h
theorem Z10_17 {P : Prop} (h : P := by first | (go_simp; done) | (go_simp; rfl)) : P := h
theorem Z10_16 {P : Prop} (h : P := by repeat (first | (with_reducible first | exact HB.out | apply below_alloc | apply pw_below_drewN | apply below_drew1 | refine below_set ?_ (IsS134.ge HI0.out)) | exact HB.out)) : P := h
theorem Z10_15 {P : Prop} (h : P := by repeat (first | (with_reducible first | exact HI0.out | apply IsS134.alloc | apply IsS134.drewN | apply IsS134.drew | apply IsS134.set_1 | apply IsS134.set_2) | exact HI0.out)) : P := h
theorem Z10_14 {P : Prop} (h : P := by first | (with_reducible assumption) | assumption) : P := h
theorem Z10_13 {P : Prop} (h : P := by rw [hg]; exact Nat.ne_of_gt (IsS134.lt (show IsS134 w0 _ g s0_0 s0_1 s0_2 from by repeat (first | (with_reducible first | exact HI0.out | apply IsS134.alloc | apply IsS134.drewN | apply IsS134.drew | apply IsS134.set_1 | apply IsS134.set_2) | exact HI0.out)))) : P := h
theorem Z10_12 {P : Prop} (h : P := by rw [hg]; exact Nat.ne_of_lt (IsS134.lt (show IsS134 w0 _ g s0_0 s0_1 s0_2 from by repeat (first | (with_reducible first | exact HI0.out | apply IsS134.alloc | apply IsS134.drewN | apply IsS134.drew | apply IsS134.set_1 | apply IsS134.set_2) | exact HI0.out)))) : P := h
theorem Z10_11 {P : Prop} (h : P := by (with_reducible repeat (first | apply blk_drewN | apply blk_drew | apply blk_alloc)); refine blk_put (cs := #[.int .i64 (rd y273 t276), .int .i64 x9_9, .int .i64 0]) ?_ 2 _ rfl; (with_reducible repeat (first | apply blk_drewN | apply blk_drew | apply blk_alloc)); refine blk_put (cs := #[.int .i64 (rd y273 t276), .int .i64 0, .int .i64 0]) ?_ 1 _ rfl; (with_reducible repeat (first | apply blk_drewN | apply blk_drew | apply blk_alloc)); refine blk_put (cs := #[.int .i64 0, .int .i64 0, .int .i64 0]) ?_ 0 _ rfl; (with_reducible repeat (first | apply blk_drewN | apply blk_drew | apply blk_alloc)); exact BK272.out) : P := h
theorem Z10_10 {P : Prop} (h : P := by (try simp only [List.map_toArray, List.map_cons, List.map_nil]); first | done | rfl | (simp only [List.length_drop, List.length_take]; first | done | rfl)) : P := h
theorem Z10_9 {P : Prop} (h : P := by repeat (first | (with_reducible first | exact HK.out | apply KeepBut.set_ | apply keep_drewN | apply keep_drew | apply keep_alloc) | exact HK.out)) : P := h
theorem Z10_8 {P : Prop} (h : P := by first | rfl | exact congrArg (Value.int .i64) (i64_w _) | (simp; done) | (simp [*]; done)) : P := h
theorem Z10_7 {P : Prop} (h : P := by (with_reducible repeat (first | apply Kd.R_alloc | apply Kd.R_drewN | apply Kd.R_drew)); exact HO275.out) : P := h
theorem Z10_6 {P : Prop} (h : P := by repeat (first | (with_reducible first | exact HI310.out | apply IsS134.alloc | apply IsS134.drewN | apply IsS134.drew | apply IsS134.set_1 | apply IsS134.set_2) | exact HI310.out)) : P := h
theorem Z10_5 {P : Prop} (h : P := by repeat (first | (with_reducible first | exact HB.out | apply below_alloc | apply pw_below_drewN | apply below_drew1 | refine below_set ?_ (IsS134.ge HI310.out)) | exact HB.out)) : P := h
theorem Z10_4 {P : Prop} (h : P := by (with_reducible repeat (first | apply blk_drewN | apply blk_drew | apply blk_alloc)); exact BK272.out) : P := h
theorem Z10_3 {P : Prop} (h : P := by repeat (first | (with_reducible first | exact HK.out | apply KeepBut.set_ | apply keep_drewN | apply keep_drew | apply keep_alloc | refine keep_far ?_ GW272.out _) | exact HK.out)) : P := h
theorem Z10_2 {P : Prop} (h : P := by repeat (first | (with_reducible first | exact HB.out | apply below_alloc | apply pw_below_drewN | apply below_drew1 | refine below_set ?_ (IsS134.ge HI0.out) | refine below_set ?_ GE272.out) | exact HB.out)) : P := h
theorem Z10_1 {P : Prop} (h : P := by repeat (first | (with_reducible first | exact HI0.out | apply IsS134.alloc | apply IsS134.drewN | apply IsS134.drew | apply IsS134.set_1 | apply IsS134.set_2 | refine IsS134.far ?_ NB0_272.out _) | exact HI0.out)) : P := h

/-! ### spec_l8DrawFrameOp: function 90 -/
mutual
def spec_l8DrawFrameOp.j1 : Nat → Int → Int → Int → List Int → Int → Int → Option (Int × Int × Int × Int × Int)
 | 0, _, _, _, _, _, _ => none
 | k + 1, x7, x8, x9, x1000, x1001, x1002 => if x7 = 3 then ((spec_l1Below.f x1000 x1001 x1002 9).bind fun bt294 => (spec_l8DrawFrameOp.j2 k x7 bt294.1 x9 x1000 bt294.2.1 bt294.2.2)) else (spec_l8DrawFrameOp.j2 k x7 x8 x9 x1000 x1001 x1002)
def spec_l8DrawFrameOp.j2 : Nat → Int → Int → Int → List Int → Int → Int → Option (Int × Int × Int × Int × Int)
 | 0, _, _, _, _, _, _ => none
 | k + 1, x7, x8, x9, x1000, x1001, x1002 => (spec_l1Once.f x1000 x1001 x1002 20).bind fun bt297 => (if bt297.1 = true then ((some (([(-1), 11, 10, 4611686018427387904] : List Int) : List Int)).bind fun y300 => ((spec_l1Below.f x1000 bt297.2.1 bt297.2.2 4).bind fun bt303 => (if 0 ≤ bt303.1 then (if bt303.1 < (y300.length : Int) then (some (x7, x9, rd y300 bt303.1, bt303.2.1, bt303.2.2)) else (none)) else (none)))) else (some (x7, x9, x8, bt297.2.1, bt297.2.2)))
def spec_l8DrawFrameOp.j0 : Nat → Int → Int → Int → Bool → List Int → Int → Int → Option (Int × Int × Int × Int × Int)
 | 0, _, _, _, _, _, _, _ => none
 | k + 1, x7, x8, x9, x31, x1000, x1001, x1002 => if x31 = true then ((spec_l8Len.f k x8).bind fun t292 => (if t292 = 0 then (none) else ((spec_l8Len.f k x8).bind fun t293 => (spec_l8DrawFrameOp.j1 k x7 x8 (wrap64 ((wrap64 (Int.tdiv x9 t292)) * t293)) x1000 x1001 x1002)))) else (spec_l8DrawFrameOp.j1 k x7 x8 x9 x1000 x1001 x1002)
end
def spec_l8DrawFrameOp.f (k : Nat) (s0_0 : List Int) (s0_1 : Int) (s0_2 : Int) (a1 : Int) (a2 : Int) : Option (Int × Int × Int × Int × Int) := (some (([1, 1, 1, 2, 2, 3, 4, 0] : List Int) : List Int)).bind fun y273 => ((spec_l1Below.f s0_0 s0_1 s0_2 8).bind fun bt276 => (if 0 ≤ bt276.1 then (if bt276.1 < (y273.length : Int) then ((spec_l1Below.f s0_0 bt276.2.1 bt276.2.2 5).bind fun bt280 => ((spec_l1Below.f s0_0 bt280.2.1 bt280.2.2 (wrap64 (a1 + 1))).bind fun bt283 => ((spec_l1Below.f s0_0 bt283.2.1 bt283.2.2 8).bind fun bt286 => (if bt286.1 = 0 then ((spec_l1Below.f s0_0 bt286.2.1 bt286.2.2 14).bind fun bt289 => (spec_l8DrawFrameOp.j1 k (rd y273 bt276.1) (wrap64 (bt289.1 - 1)) bt283.1 s0_0 bt289.2.1 bt289.2.2)) else (if bt286.1 = 1 then (spec_l8DrawFrameOp.j1 k (rd y273 bt276.1) bt280.1 a2 s0_0 bt286.2.1 bt286.2.2) else (if bt286.1 = 2 then (spec_l8DrawFrameOp.j0 k (rd y273 bt276.1) bt280.1 bt283.1 (bt286.1 == 2) s0_0 bt286.2.1 bt286.2.2) else (if bt286.1 = 3 then (spec_l8DrawFrameOp.j0 k (rd y273 bt276.1) bt280.1 bt283.1 (bt286.1 == 3) s0_0 bt286.2.1 bt286.2.2) else (spec_l8DrawFrameOp.j0 k (rd y273 bt276.1) bt280.1 bt283.1 (bt286.1 == 4) s0_0 bt286.2.1 bt286.2.2)))))))) else (none)) else (none)))
theorem spec_l8DrawFrameOp.mono_l : ∀ k, (∀ y0 y1 y2 y3 y4 y5, LeO (spec_l8DrawFrameOp.j1 k y0 y1 y2 y3 y4 y5) (spec_l8DrawFrameOp.j1 (k + 1) y0 y1 y2 y3 y4 y5)) ∧ (∀ y0 y1 y2 y3 y4 y5, LeO (spec_l8DrawFrameOp.j2 k y0 y1 y2 y3 y4 y5) (spec_l8DrawFrameOp.j2 (k + 1) y0 y1 y2 y3 y4 y5)) ∧ (∀ y0 y1 y2 y3 y4 y5 y6, LeO (spec_l8DrawFrameOp.j0 k y0 y1 y2 y3 y4 y5 y6) (spec_l8DrawFrameOp.j0 (k + 1) y0 y1 y2 y3 y4 y5 y6))
 | 0 => ⟨fun _ _ _ _ _ _ r h => by simp [spec_l8DrawFrameOp.j1] at h, fun _ _ _ _ _ _ r h => by simp [spec_l8DrawFrameOp.j2] at h, fun _ _ _ _ _ _ _ r h => by simp [spec_l8DrawFrameOp.j0] at h⟩
 | k + 1 => by
  obtain ⟨ih0, ih1, ih2⟩ := spec_l8DrawFrameOp.mono_l k
  refine ⟨?_, ?_, ?_⟩
  ·intro y0 y1 y2 y3 y4 y5
   unfold spec_l8DrawFrameOp.j1
   repeat' first
   | (with_reducible exact ih0 _ _ _ _ _ _)
   | (with_reducible exact ih1 _ _ _ _ _ _)
   | (with_reducible exact ih2 _ _ _ _ _ _ _)
   | (with_reducible exact spec_l8Len.mono _ _)
   | (with_reducible exact LeO.refl _)
   | (with_reducible exact LeO.none _)
   | (with_reducible refine LeO.ite ?_ ?_)
   | (with_reducible refine LeO.bind ?_ (fun _ => ?_))
   | exact ih0 _ _ _ _ _ _
   | exact ih1 _ _ _ _ _ _
   | exact ih2 _ _ _ _ _ _ _
   | exact spec_l8Len.mono _ _
   | exact LeO.none _
   | refine LeO.ite ?_ ?_
   | refine LeO.bind ?_ (fun _ => ?_)
  ·intro y0 y1 y2 y3 y4 y5
   unfold spec_l8DrawFrameOp.j2
   repeat' first
   | (with_reducible exact ih0 _ _ _ _ _ _)
   | (with_reducible exact ih1 _ _ _ _ _ _)
   | (with_reducible exact ih2 _ _ _ _ _ _ _)
   | (with_reducible exact spec_l8Len.mono _ _)
   | (with_reducible exact LeO.refl _)
   | (with_reducible exact LeO.none _)
   | (with_reducible refine LeO.ite ?_ ?_)
   | (with_reducible refine LeO.bind ?_ (fun _ => ?_))
   | exact ih0 _ _ _ _ _ _
   | exact ih1 _ _ _ _ _ _
   | exact ih2 _ _ _ _ _ _ _
   | exact spec_l8Len.mono _ _
   | exact LeO.none _
   | refine LeO.ite ?_ ?_
   | refine LeO.bind ?_ (fun _ => ?_)
  ·intro y0 y1 y2 y3 y4 y5 y6
   unfold spec_l8DrawFrameOp.j0
   repeat' first
   | (with_reducible exact ih0 _ _ _ _ _ _)
   | (with_reducible exact ih1 _ _ _ _ _ _)
   | (with_reducible exact ih2 _ _ _ _ _ _ _)
   | (with_reducible exact spec_l8Len.mono _ _)
   | (with_reducible exact LeO.refl _)
   | (with_reducible exact LeO.none _)
   | (with_reducible refine LeO.ite ?_ ?_)
   | (with_reducible refine LeO.bind ?_ (fun _ => ?_))
   | exact ih0 _ _ _ _ _ _
   | exact ih1 _ _ _ _ _ _
   | exact ih2 _ _ _ _ _ _ _
   | exact spec_l8Len.mono _ _
   | exact LeO.none _
   | refine LeO.ite ?_ ?_
   | refine LeO.bind ?_ (fun _ => ?_)
theorem spec_l8DrawFrameOp.mono : ∀ a0 a1 a2 a3 a4 k, LeO (spec_l8DrawFrameOp.f k a0 a1 a2 a3 a4) (spec_l8DrawFrameOp.f (k + 1) a0 a1 a2 a3 a4) := by
 intro a0 a1 a2 a3 a4 k
 obtain ⟨ih0, ih1, ih2⟩ := spec_l8DrawFrameOp.mono_l k
 unfold spec_l8DrawFrameOp.f
 repeat' first
   | (with_reducible exact ih0 _ _ _ _ _ _)
   | (with_reducible exact ih1 _ _ _ _ _ _)
   | (with_reducible exact ih2 _ _ _ _ _ _ _)
   | (with_reducible exact spec_l8Len.mono _ _)
   | (with_reducible exact LeO.refl _)
   | (with_reducible exact LeO.none _)
   | (with_reducible refine LeO.ite ?_ ?_)
   | (with_reducible refine LeO.bind ?_ (fun _ => ?_))
   | exact ih0 _ _ _ _ _ _
   | exact ih1 _ _ _ _ _ _
   | exact ih2 _ _ _ _ _ _ _
   | exact spec_l8Len.mono _ _
   | exact LeO.none _
   | refine LeO.ite ?_ ?_
   | refine LeO.bind ?_ (fun _ => ?_)
set_option maxHeartbeats 8000000 in
set_option maxRecDepth 100000 in
theorem spec_l8DrawFrameOp.calls (k : Nat) (g : Nat) (s0_0 : List Int) (s0_1 : Int) (s0_2 : Int) (a1 : Int) (a2 : Int) (r1 : Int) (r2 : Int) (r3 : Int) (r4 : Int) (r5 : Int) (w0 w : World) (hI : IsS134 w0 w g s0_0 s0_1 s0_2) (hB : Below w0.heap.size w0 w) (h : spec_l8DrawFrameOp.f k s0_0 s0_1 s0_2 a1 a2 = some (r1, r2, r3, r4, r5)) :
  Calls Try.prog 90 #[.pointer (some ⟨g, 0, none⟩), .int .i64 a1, .int .i64 a2] w fun e w' => e = .returned (.agg #[.int .i64 r1, .int .i64 r2, .int .i64 r3]) ∧ IsS134 w0 w' g s0_0 r4 r5 ∧ Below w0.heap.size w0 w' ∧ KeepBut w w' g none := by
 have hu70 := Try.underlying70
 have HI0 := Aside0.mk hI
 have HK := Aside0.mk (KeepBut.refl w g none)
 have HL := Aside0.mk hB.size
 clear hI
 have HW0 := Aside0.mk hB.size
 have HB := Aside0.mk hB
 clear hB
 have H : ((some (([1, 1, 1, 2, 2, 3, 4, 0] : List Int) : List Int)).bind fun y273 => ((spec_l1Below.f s0_0 s0_1 s0_2 8).bind fun bt276 => (if 0 ≤ bt276.1 then (if bt276.1 < (y273.length : Int) then ((spec_l1Below.f s0_0 bt276.2.1 bt276.2.2 5).bind fun bt280 => ((spec_l1Below.f s0_0 bt280.2.1 bt280.2.2 (wrap64 (a1 + 1))).bind fun bt283 => ((spec_l1Below.f s0_0 bt283.2.1 bt283.2.2 8).bind fun bt286 => (if bt286.1 = 0 then ((spec_l1Below.f s0_0 bt286.2.1 bt286.2.2 14).bind fun bt289 => (spec_l8DrawFrameOp.j1 k (rd y273 bt276.1) (wrap64 (bt289.1 - 1)) bt283.1 s0_0 bt289.2.1 bt289.2.2)) else (if bt286.1 = 1 then (spec_l8DrawFrameOp.j1 k (rd y273 bt276.1) bt280.1 a2 s0_0 bt286.2.1 bt286.2.2) else (if bt286.1 = 2 then (spec_l8DrawFrameOp.j0 k (rd y273 bt276.1) bt280.1 bt283.1 (bt286.1 == 2) s0_0 bt286.2.1 bt286.2.2) else (if bt286.1 = 3 then (spec_l8DrawFrameOp.j0 k (rd y273 bt276.1) bt280.1 bt283.1 (bt286.1 == 3) s0_0 bt286.2.1 bt286.2.2) else (spec_l8DrawFrameOp.j0 k (rd y273 bt276.1) bt280.1 bt283.1 (bt286.1 == 4) s0_0 bt286.2.1 bt286.2.2)))))))) else (none)) else (none)))) = some (r1, r2, r3, r4, r5) := h
 clear h
 obtain ⟨y273, hy273⟩ : ∃ y_ : List Int, y_ = (([1, 1, 1, 2, 2, 3, 4, 0] : List Int)) := ⟨_, rfl⟩
 replace H : ((spec_l1Below.f s0_0 s0_1 s0_2 8).bind fun bt276 => (if 0 ≤ bt276.1 then (if bt276.1 < (y273.length : Int) then ((spec_l1Below.f s0_0 bt276.2.1 bt276.2.2 5).bind fun bt280 => ((spec_l1Below.f s0_0 bt280.2.1 bt280.2.2 (wrap64 (a1 + 1))).bind fun bt283 => ((spec_l1Below.f s0_0 bt283.2.1 bt283.2.2 8).bind fun bt286 => (if bt286.1 = 0 then ((spec_l1Below.f s0_0 bt286.2.1 bt286.2.2 14).bind fun bt289 => (spec_l8DrawFrameOp.j1 k (rd y273 bt276.1) (wrap64 (bt289.1 - 1)) bt283.1 s0_0 bt289.2.1 bt289.2.2)) else (if bt286.1 = 1 then (spec_l8DrawFrameOp.j1 k (rd y273 bt276.1) bt280.1 a2 s0_0 bt286.2.1 bt286.2.2) else (if bt286.1 = 2 then (spec_l8DrawFrameOp.j0 k (rd y273 bt276.1) bt280.1 bt283.1 (bt286.1 == 2) s0_0 bt286.2.1 bt286.2.2) else (if bt286.1 = 3 then (spec_l8DrawFrameOp.j0 k (rd y273 bt276.1) bt280.1 bt283.1 (bt286.1 == 3) s0_0 bt286.2.1 bt286.2.2) else (spec_l8DrawFrameOp.j0 k (rd y273 bt276.1) bt280.1 bt283.1 (bt286.1 == 4) s0_0 bt286.2.1 bt286.2.2)))))))) else (none)) else (none))) = some (r1, r2, r3, r4, r5) := by first | (rw [hy273]; with_reducible exact H) | (have H2_ := (Option.bind_some _ _).symm.trans H; rw [hy273]; with_reducible exact H2_) | (have H2_ := (Option.bind_some _ _).symm.trans H; with_reducible exact H2_) | with_reducible exact H | (rw [hy273]; exact H) | exact H
 have Ny273 := Aside0.mk hy273
 clear hy273
 replace H := Option.bind_eq_some_iff.mp H
 obtain ⟨⟨t276, t277, t278⟩, A40, H⟩ := H
 replace H : (if 0 ≤ t276 then (if t276 < (y273.length : Int) then ((spec_l1Below.f s0_0 t277 t278 5).bind fun bt280 => ((spec_l1Below.f s0_0 bt280.2.1 bt280.2.2 (wrap64 (a1 + 1))).bind fun bt283 => ((spec_l1Below.f s0_0 bt283.2.1 bt283.2.2 8).bind fun bt286 => (if bt286.1 = 0 then ((spec_l1Below.f s0_0 bt286.2.1 bt286.2.2 14).bind fun bt289 => (spec_l8DrawFrameOp.j1 k (rd y273 t276) (wrap64 (bt289.1 - 1)) bt283.1 s0_0 bt289.2.1 bt289.2.2)) else (if bt286.1 = 1 then (spec_l8DrawFrameOp.j1 k (rd y273 t276) bt280.1 a2 s0_0 bt286.2.1 bt286.2.2) else (if bt286.1 = 2 then (spec_l8DrawFrameOp.j0 k (rd y273 t276) bt280.1 bt283.1 (bt286.1 == 2) s0_0 bt286.2.1 bt286.2.2) else (if bt286.1 = 3 then (spec_l8DrawFrameOp.j0 k (rd y273 t276) bt280.1 bt283.1 (bt286.1 == 3) s0_0 bt286.2.1 bt286.2.2) else (spec_l8DrawFrameOp.j0 k (rd y273 t276) bt280.1 bt283.1 (bt286.1 == 4) s0_0 bt286.2.1 bt286.2.2)))))))) else (none)) else (none)) = some (r1, r2, r3, r4, r5) := H
 have A4 := Aside0.mk A40
 clear A40
 by_cases c5 : 0 ≤ t276
 ·rw [if_pos c5] at H
  have c5b0 : decide (0 ≤ t276) = true := decide_eq_true c5
  clear c5
  by_cases c6 : t276 < (y273.length : Int)
  ·rw [if_pos c6] at H
   have c6b0 : decide (t276 < (y273.length : Int)) = true := decide_eq_true c6
   clear c6
   replace H := Option.bind_eq_some_iff.mp H
   obtain ⟨⟨t280, t281, t282⟩, A70, H⟩ := H
   replace H : ((spec_l1Below.f s0_0 t281 t282 (wrap64 (a1 + 1))).bind fun bt283 => ((spec_l1Below.f s0_0 bt283.2.1 bt283.2.2 8).bind fun bt286 => (if bt286.1 = 0 then ((spec_l1Below.f s0_0 bt286.2.1 bt286.2.2 14).bind fun bt289 => (spec_l8DrawFrameOp.j1 k (rd y273 t276) (wrap64 (bt289.1 - 1)) bt283.1 s0_0 bt289.2.1 bt289.2.2)) else (if bt286.1 = 1 then (spec_l8DrawFrameOp.j1 k (rd y273 t276) t280 a2 s0_0 bt286.2.1 bt286.2.2) else (if bt286.1 = 2 then (spec_l8DrawFrameOp.j0 k (rd y273 t276) t280 bt283.1 (bt286.1 == 2) s0_0 bt286.2.1 bt286.2.2) else (if bt286.1 = 3 then (spec_l8DrawFrameOp.j0 k (rd y273 t276) t280 bt283.1 (bt286.1 == 3) s0_0 bt286.2.1 bt286.2.2) else (spec_l8DrawFrameOp.j0 k (rd y273 t276) t280 bt283.1 (bt286.1 == 4) s0_0 bt286.2.1 bt286.2.2))))))) = some (r1, r2, r3, r4, r5) := H
   have A7 := Aside0.mk A70
   clear A70
   replace H := Option.bind_eq_some_iff.mp H
   obtain ⟨⟨t283, t284, t285⟩, A80, H⟩ := H
   replace H : ((spec_l1Below.f s0_0 t284 t285 8).bind fun bt286 => (if bt286.1 = 0 then ((spec_l1Below.f s0_0 bt286.2.1 bt286.2.2 14).bind fun bt289 => (spec_l8DrawFrameOp.j1 k (rd y273 t276) (wrap64 (bt289.1 - 1)) t283 s0_0 bt289.2.1 bt289.2.2)) else (if bt286.1 = 1 then (spec_l8DrawFrameOp.j1 k (rd y273 t276) t280 a2 s0_0 bt286.2.1 bt286.2.2) else (if bt286.1 = 2 then (spec_l8DrawFrameOp.j0 k (rd y273 t276) t280 t283 (bt286.1 == 2) s0_0 bt286.2.1 bt286.2.2) else (if bt286.1 = 3 then (spec_l8DrawFrameOp.j0 k (rd y273 t276) t280 t283 (bt286.1 == 3) s0_0 bt286.2.1 bt286.2.2) else (spec_l8DrawFrameOp.j0 k (rd y273 t276) t280 t283 (bt286.1 == 4) s0_0 bt286.2.1 bt286.2.2)))))) = some (r1, r2, r3, r4, r5) := H
   have A8 := Aside0.mk A80
   clear A80
   replace H := Option.bind_eq_some_iff.mp H
   obtain ⟨⟨t286, t287, t288⟩, A90, H⟩ := H
   replace H : (if t286 = 0 then ((spec_l1Below.f s0_0 t287 t288 14).bind fun bt289 => (spec_l8DrawFrameOp.j1 k (rd y273 t276) (wrap64 (bt289.1 - 1)) t283 s0_0 bt289.2.1 bt289.2.2)) else (if t286 = 1 then (spec_l8DrawFrameOp.j1 k (rd y273 t276) t280 a2 s0_0 t287 t288) else (if t286 = 2 then (spec_l8DrawFrameOp.j0 k (rd y273 t276) t280 t283 (t286 == 2) s0_0 t287 t288) else (if t286 = 3 then (spec_l8DrawFrameOp.j0 k (rd y273 t276) t280 t283 (t286 == 3) s0_0 t287 t288) else (spec_l8DrawFrameOp.j0 k (rd y273 t276) t280 t283 (t286 == 4) s0_0 t287 t288))))) = some (r1, r2, r3, r4, r5) := H
   have A9 := Aside0.mk A90
   clear A90
   have HC10 := Aside0.mk H
   clear H
   go_enter Try.func90, Try.ntmps90
   go_upto_block 0 with (first | ((with_reducible refine gate_dst (N := 6) rfl ?_); refine box_event ?hg (N := 6) ?hd (cs := #[.int .i64 0, .int .i64 0, .int .i64 0]) (t := 70) ?hr ?_; (case hd => rfl); (case hg => rfl); (case hr => exact Z10_17); intro gb272 hg w11 hbox hb; have n0_ := Aside0.mk (IsS134.below Z10_15 hb); have n1_ := Aside0.mk (KeepBut.trans Z10_9 (KeepBut.of_below hb g none) (.inl rfl)); have n2_ := Aside0.mk (below_step Z10_16 hb); have n3_ := Aside0.mk (hbox); have n4_ := Aside0.mk ((Z10_18 : w.heap.size ≤ gb272)); have n5_ := Aside0.mk ((Nat.le_trans HW0.out (Z10_18 : w.heap.size ≤ gb272) : w0.heap.size ≤ gb272)); have n6_ := Aside0.mk ((Z10_12 : g ≠ gb272)); have n7_ := Aside0.mk ((Z10_13 : gb272 ≠ g)); clear HI0; clear HK; clear HB; have HI0 := n0_; have HK := n1_; have HB := n2_; have BK272 := n3_; have GW272 := n4_; have GE272 := n5_; have NB0_272 := n6_; have NB272_0 := n7_; clear n0_ n1_ n2_ n3_ n4_ n5_ n6_ n7_; clear hb hbox hg) | ((with_reducible refine gate_dst (N := 10) rfl ?_); refine Kd.R_lit (Kd.int .i64) _ 2 ?hg (N := 10) ?hd (xs := ([1, 1, 1, 2, 2, 3, 4, 0] : List Int)) (inner := [.int .i64 1, .int .i64 1, .int .i64 1, .int .i64 2, .int .i64 2, .int .i64 3, .int .i64 4, .int .i64 0]) (ok := fun _ => True) (okp := fun _ => True) ?hr ?hp (fun _ hk => hk) trivial (Below.refl _ _) (Nat.le_refl _) (by simp) ?_; (case hd => rfl); (case hg => rfl); (case hr => exact Z10_17); (case hp => exact (Reps.one (show Kd.M (Kd.int .i64) _ _ _ 1 [.int .i64 1] from rfl) (Reps.one (show Kd.M (Kd.int .i64) _ _ _ 1 [.int .i64 1] from rfl) (Reps.one (show Kd.M (Kd.int .i64) _ _ _ 1 [.int .i64 1] from rfl) (Reps.one (show Kd.M (Kd.int .i64) _ _ _ 2 [.int .i64 2] from rfl) (Reps.one (show Kd.M (Kd.int .i64) _ _ _ 2 [.int .i64 2] from rfl) (Reps.one (show Kd.M (Kd.int .i64) _ _ _ 3 [.int .i64 3] from rfl) (Reps.one (show Kd.M (Kd.int .i64) _ _ _ 4 [.int .i64 4] from rfl) (Reps.one (show Kd.M (Kd.int .i64) _ _ _ 0 [.int .i64 0] from rfl) (Reps.none _ _)))))))))); intro v274 w12 ho13 hb hg_ hnew_; clear hg_ hnew_; (first | rw [← Ny273.out] at ho13 | (simp only [Int.reduceToNat] at ho13; rw [← Ny273.out] at ho13)); have n0_ := Aside0.mk (Kd.R_lower ho13 (keep_size (w := w) (g := g) (row := none) Z10_3)); have n1_ := Aside0.mk (IsS134.below Z10_1 hb); have n2_ := Aside0.mk (blk_below (g := gb272) (o := .cells #[.int .i64 0, .int .i64 0, .int .i64 0] 70 (0, 0)) Z10_4 hb); have n3_ := Aside0.mk (KeepBut.trans Z10_3 (KeepBut.of_below hb g none) (.inl rfl)); have n4_ := Aside0.mk (below_step Z10_2 hb); clear HI0; clear BK272; clear HK; clear HB; have HO275 := n0_; have HI0 := n1_; have BK272 := n2_; have HK := n3_; have HB := n4_; clear n0_ n1_ n2_ n3_ n4_; clear hb ho13) | (go_at_call 88; (with_reducible refine (spec_l1Below.calls g s0_0 s0_1 s0_2 8 t276 t277 t278 w0 _ ?side1 ?side2 A4.out).mono ?_); (case side1 => exact Z10_1); (case side2 => exact Z10_2); rintro e w14 ⟨rfl, hi, hb, hk⟩; have n0_ := Aside0.mk (KeepBut.blk hk (g' := gb272) (o := .cells #[.int .i64 0, .int .i64 0, .int .i64 0] 70 (0, 0)) Z10_4 NB272_0.out (by simp)); have n1_ := Aside0.mk (Kd.R_mono (Kd.R_keep (IsS134.apart (show IsS134 w0 _ g s0_0 s0_1 s0_2 from by repeat (first | (with_reducible first | exact HI0.out | apply IsS134.alloc | apply IsS134.drewN | apply IsS134.drew | apply IsS134.set_1 | apply IsS134.set_2 | refine IsS134.far ?_ NB0_272.out _) | exact HI0.out)) Z10_7 (by decide)) hk (fun _ h => h.2)) (fun _ h => h.1)); have n2_ := Aside0.mk (KeepBut.trans Z10_3 hk (.inl rfl)); have n3_ := Aside0.mk (hb); have n4_ := Aside0.mk (hi); clear BK272; clear HO275; clear HK; clear HB; clear HI0; have BK272 := n0_; have HO275 := n1_; have HK := n2_; have HB := n3_; have HI0 := n4_; clear n0_ n1_ n2_ n3_ n4_; (try clear hb); (try clear hb2); (try clear hk); (try clear hi); obtain ⟨Ao15, co15, eo15⟩ := Kd.R_slice HO275.out; subst eo15; have p279 : 0 ≤ (t276 : Int) := of_decide_eq_true Z10_14; have q279 : t276 < (y273.length : Int) := of_decide_eq_true Z10_14; obtain ⟨ad279, e279, hx279_0⟩ := Kd.at_int (Kd.R_reads' HO275.out).2.2 t276 p279 q279; cases e279; replace p279 := eq_true p279; replace q279 := eq_true q279) | (go_at_call 88; (with_reducible refine (spec_l1Below.calls g s0_0 t277 t278 5 t280 t281 t282 w0 _ ?side1 ?side2 A7.out).mono ?_); (case side1 => exact Z10_1); (case side2 => exact Z10_2); rintro e w16 ⟨rfl, hi, hb, hk⟩; have n0_ := Aside0.mk (KeepBut.blk hk (g' := gb272) (o := .cells #[.int .i64 0, .int .i64 0, .int .i64 0] 70 (0, 0)) Z10_4 NB272_0.out (by simp)); have n1_ := Aside0.mk (Kd.R_mono (Kd.R_keep (IsS134.apart (show IsS134 w0 _ g s0_0 t277 t278 from by repeat (first | (with_reducible first | exact HI0.out | apply IsS134.alloc | apply IsS134.drewN | apply IsS134.drew | apply IsS134.set_1 | apply IsS134.set_2 | refine IsS134.far ?_ NB0_272.out _) | exact HI0.out)) Z10_7 (by decide)) hk (fun _ h => h.2)) (fun _ h => h.1)); have n2_ := Aside0.mk (KeepBut.trans Z10_3 hk (.inl rfl)); have n3_ := Aside0.mk (hb); have n4_ := Aside0.mk (hi); clear BK272; clear HO275; clear HK; clear HB; clear HI0; have BK272 := n0_; have HO275 := n1_; have HK := n2_; have HB := n3_; have HI0 := n4_; clear n0_ n1_ n2_ n3_ n4_; (try clear hb); (try clear hb2); (try clear hk); (try clear hi)) | (go_at_call 88; (with_reducible refine (spec_l1Below.calls g s0_0 t281 t282 (wrap64 (a1 + 1)) t283 t284 t285 w0 _ ?side1 ?side2 A8.out).mono ?_); (case side1 => exact Z10_1); (case side2 => exact Z10_2); rintro e w17 ⟨rfl, hi, hb, hk⟩; have n0_ := Aside0.mk (KeepBut.blk hk (g' := gb272) (o := .cells #[.int .i64 0, .int .i64 0, .int .i64 0] 70 (0, 0)) Z10_4 NB272_0.out (by simp)); have n1_ := Aside0.mk (Kd.R_mono (Kd.R_keep (IsS134.apart (show IsS134 w0 _ g s0_0 t281 t282 from by repeat (first | (with_reducible first | exact HI0.out | apply IsS134.alloc | apply IsS134.drewN | apply IsS134.drew | apply IsS134.set_1 | apply IsS134.set_2 | refine IsS134.far ?_ NB0_272.out _) | exact HI0.out)) Z10_7 (by decide)) hk (fun _ h => h.2)) (fun _ h => h.1)); have n2_ := Aside0.mk (KeepBut.trans Z10_3 hk (.inl rfl)); have n3_ := Aside0.mk (hb); have n4_ := Aside0.mk (hi); clear BK272; clear HO275; clear HK; clear HB; clear HI0; have BK272 := n0_; have HO275 := n1_; have HK := n2_; have HB := n3_; have HI0 := n4_; clear n0_ n1_ n2_ n3_ n4_; (try clear hb); (try clear hb2); (try clear hk); (try clear hi)) | (go_at_call 88; (with_reducible refine (spec_l1Below.calls g s0_0 t284 t285 8 t286 t287 t288 w0 _ ?side1 ?side2 A9.out).mono ?_); (case side1 => exact Z10_1); (case side2 => exact Z10_2); rintro e w18 ⟨rfl, hi, hb, hk⟩; have n0_ := Aside0.mk (KeepBut.blk hk (g' := gb272) (o := .cells #[.int .i64 0, .int .i64 0, .int .i64 0] 70 (0, 0)) Z10_4 NB272_0.out (by simp)); have n1_ := Aside0.mk (Kd.R_mono (Kd.R_keep (IsS134.apart (show IsS134 w0 _ g s0_0 t284 t285 from by repeat (first | (with_reducible first | exact HI0.out | apply IsS134.alloc | apply IsS134.drewN | apply IsS134.drew | apply IsS134.set_1 | apply IsS134.set_2 | refine IsS134.far ?_ NB0_272.out _) | exact HI0.out)) Z10_7 (by decide)) hk (fun _ h => h.2)) (fun _ h => h.1)); have n2_ := Aside0.mk (KeepBut.trans Z10_3 hk (.inl rfl)); have n3_ := Aside0.mk (hb); have n4_ := Aside0.mk (hi); clear BK272; clear HO275; clear HK; clear HB; clear HI0; have BK272 := n0_; have HO275 := n1_; have HK := n2_; have HB := n3_; have HI0 := n4_; clear n0_ n1_ n2_ n3_ n4_; (try clear hb); (try clear hb2); (try clear hk); (try clear hi)))
   repeat (go_quiet (first | ((with_reducible refine gate_dst (N := 6) rfl ?_); refine box_event ?hg (N := 6) ?hd (cs := #[.int .i64 0, .int .i64 0, .int .i64 0]) (t := 70) ?hr ?_; (case hd => rfl); (case hg => rfl); (case hr => exact Z10_17); intro gb272 hg w11 hbox hb; have n0_ := Aside0.mk (IsS134.below Z10_15 hb); have n1_ := Aside0.mk (KeepBut.trans Z10_9 (KeepBut.of_below hb g none) (.inl rfl)); have n2_ := Aside0.mk (below_step Z10_16 hb); have n3_ := Aside0.mk (hbox); have n4_ := Aside0.mk ((Z10_18 : w.heap.size ≤ gb272)); have n5_ := Aside0.mk ((Nat.le_trans HW0.out (Z10_18 : w.heap.size ≤ gb272) : w0.heap.size ≤ gb272)); have n6_ := Aside0.mk ((Z10_12 : g ≠ gb272)); have n7_ := Aside0.mk ((Z10_13 : gb272 ≠ g)); clear HI0; clear HK; clear HB; have HI0 := n0_; have HK := n1_; have HB := n2_; have BK272 := n3_; have GW272 := n4_; have GE272 := n5_; have NB0_272 := n6_; have NB272_0 := n7_; clear n0_ n1_ n2_ n3_ n4_ n5_ n6_ n7_; clear hb hbox hg) | ((with_reducible refine gate_dst (N := 10) rfl ?_); refine Kd.R_lit (Kd.int .i64) _ 2 ?hg (N := 10) ?hd (xs := ([1, 1, 1, 2, 2, 3, 4, 0] : List Int)) (inner := [.int .i64 1, .int .i64 1, .int .i64 1, .int .i64 2, .int .i64 2, .int .i64 3, .int .i64 4, .int .i64 0]) (ok := fun _ => True) (okp := fun _ => True) ?hr ?hp (fun _ hk => hk) trivial (Below.refl _ _) (Nat.le_refl _) (by simp) ?_; (case hd => rfl); (case hg => rfl); (case hr => exact Z10_17); (case hp => exact (Reps.one (show Kd.M (Kd.int .i64) _ _ _ 1 [.int .i64 1] from rfl) (Reps.one (show Kd.M (Kd.int .i64) _ _ _ 1 [.int .i64 1] from rfl) (Reps.one (show Kd.M (Kd.int .i64) _ _ _ 1 [.int .i64 1] from rfl) (Reps.one (show Kd.M (Kd.int .i64) _ _ _ 2 [.int .i64 2] from rfl) (Reps.one (show Kd.M (Kd.int .i64) _ _ _ 2 [.int .i64 2] from rfl) (Reps.one (show Kd.M (Kd.int .i64) _ _ _ 3 [.int .i64 3] from rfl) (Reps.one (show Kd.M (Kd.int .i64) _ _ _ 4 [.int .i64 4] from rfl) (Reps.one (show Kd.M (Kd.int .i64) _ _ _ 0 [.int .i64 0] from rfl) (Reps.none _ _)))))))))); intro v274 w12 ho13 hb hg_ hnew_; clear hg_ hnew_; (first | rw [← Ny273.out] at ho13 | (simp only [Int.reduceToNat] at ho13; rw [← Ny273.out] at ho13)); have n0_ := Aside0.mk (Kd.R_lower ho13 (keep_size (w := w) (g := g) (row := none) Z10_3)); have n1_ := Aside0.mk (IsS134.below Z10_1 hb); have n2_ := Aside0.mk (blk_below (g := gb272) (o := .cells #[.int .i64 0, .int .i64 0, .int .i64 0] 70 (0, 0)) Z10_4 hb); have n3_ := Aside0.mk (KeepBut.trans Z10_3 (KeepBut.of_below hb g none) (.inl rfl)); have n4_ := Aside0.mk (below_step Z10_2 hb); clear HI0; clear BK272; clear HK; clear HB; have HO275 := n0_; have HI0 := n1_; have BK272 := n2_; have HK := n3_; have HB := n4_; clear n0_ n1_ n2_ n3_ n4_; clear hb ho13) | (go_at_call 88; (with_reducible refine (spec_l1Below.calls g s0_0 s0_1 s0_2 8 t276 t277 t278 w0 _ ?side1 ?side2 A4.out).mono ?_); (case side1 => exact Z10_1); (case side2 => exact Z10_2); rintro e w14 ⟨rfl, hi, hb, hk⟩; have n0_ := Aside0.mk (KeepBut.blk hk (g' := gb272) (o := .cells #[.int .i64 0, .int .i64 0, .int .i64 0] 70 (0, 0)) Z10_4 NB272_0.out (by simp)); have n1_ := Aside0.mk (Kd.R_mono (Kd.R_keep (IsS134.apart (show IsS134 w0 _ g s0_0 s0_1 s0_2 from by repeat (first | (with_reducible first | exact HI0.out | apply IsS134.alloc | apply IsS134.drewN | apply IsS134.drew | apply IsS134.set_1 | apply IsS134.set_2 | refine IsS134.far ?_ NB0_272.out _) | exact HI0.out)) Z10_7 (by decide)) hk (fun _ h => h.2)) (fun _ h => h.1)); have n2_ := Aside0.mk (KeepBut.trans Z10_3 hk (.inl rfl)); have n3_ := Aside0.mk (hb); have n4_ := Aside0.mk (hi); clear BK272; clear HO275; clear HK; clear HB; clear HI0; have BK272 := n0_; have HO275 := n1_; have HK := n2_; have HB := n3_; have HI0 := n4_; clear n0_ n1_ n2_ n3_ n4_; (try clear hb); (try clear hb2); (try clear hk); (try clear hi); obtain ⟨Ao15, co15, eo15⟩ := Kd.R_slice HO275.out; subst eo15; have p279 : 0 ≤ (t276 : Int) := of_decide_eq_true Z10_14; have q279 : t276 < (y273.length : Int) := of_decide_eq_true Z10_14; obtain ⟨ad279, e279, hx279_0⟩ := Kd.at_int (Kd.R_reads' HO275.out).2.2 t276 p279 q279; cases e279; replace p279 := eq_true p279; replace q279 := eq_true q279) | (go_at_call 88; (with_reducible refine (spec_l1Below.calls g s0_0 t277 t278 5 t280 t281 t282 w0 _ ?side1 ?side2 A7.out).mono ?_); (case side1 => exact Z10_1); (case side2 => exact Z10_2); rintro e w16 ⟨rfl, hi, hb, hk⟩; have n0_ := Aside0.mk (KeepBut.blk hk (g' := gb272) (o := .cells #[.int .i64 0, .int .i64 0, .int .i64 0] 70 (0, 0)) Z10_4 NB272_0.out (by simp)); have n1_ := Aside0.mk (Kd.R_mono (Kd.R_keep (IsS134.apart (show IsS134 w0 _ g s0_0 t277 t278 from by repeat (first | (with_reducible first | exact HI0.out | apply IsS134.alloc | apply IsS134.drewN | apply IsS134.drew | apply IsS134.set_1 | apply IsS134.set_2 | refine IsS134.far ?_ NB0_272.out _) | exact HI0.out)) Z10_7 (by decide)) hk (fun _ h => h.2)) (fun _ h => h.1)); have n2_ := Aside0.mk (KeepBut.trans Z10_3 hk (.inl rfl)); have n3_ := Aside0.mk (hb); have n4_ := Aside0.mk (hi); clear BK272; clear HO275; clear HK; clear HB; clear HI0; have BK272 := n0_; have HO275 := n1_; have HK := n2_; have HB := n3_; have HI0 := n4_; clear n0_ n1_ n2_ n3_ n4_; (try clear hb); (try clear hb2); (try clear hk); (try clear hi)) | (go_at_call 88; (with_reducible refine (spec_l1Below.calls g s0_0 t281 t282 (wrap64 (a1 + 1)) t283 t284 t285 w0 _ ?side1 ?side2 A8.out).mono ?_); (case side1 => exact Z10_1); (case side2 => exact Z10_2); rintro e w17 ⟨rfl, hi, hb, hk⟩; have n0_ := Aside0.mk (KeepBut.blk hk (g' := gb272) (o := .cells #[.int .i64 0, .int .i64 0, .int .i64 0] 70 (0, 0)) Z10_4 NB272_0.out (by simp)); have n1_ := Aside0.mk (Kd.R_mono (Kd.R_keep (IsS134.apart (show IsS134 w0 _ g s0_0 t281 t282 from by repeat (first | (with_reducible first | exact HI0.out | apply IsS134.alloc | apply IsS134.drewN | apply IsS134.drew | apply IsS134.set_1 | apply IsS134.set_2 | refine IsS134.far ?_ NB0_272.out _) | exact HI0.out)) Z10_7 (by decide)) hk (fun _ h => h.2)) (fun _ h => h.1)); have n2_ := Aside0.mk (KeepBut.trans Z10_3 hk (.inl rfl)); have n3_ := Aside0.mk (hb); have n4_ := Aside0.mk (hi); clear BK272; clear HO275; clear HK; clear HB; clear HI0; have BK272 := n0_; have HO275 := n1_; have HK := n2_; have HB := n3_; have HI0 := n4_; clear n0_ n1_ n2_ n3_ n4_; (try clear hb); (try clear hb2); (try clear hk); (try clear hi)) | (go_at_call 88; (with_reducible refine (spec_l1Below.calls g s0_0 t284 t285 8 t286 t287 t288 w0 _ ?side1 ?side2 A9.out).mono ?_); (case side1 => exact Z10_1); (case side2 => exact Z10_2); rintro e w18 ⟨rfl, hi, hb, hk⟩; have n0_ := Aside0.mk (KeepBut.blk hk (g' := gb272) (o := .cells #[.int .i64 0, .int .i64 0, .int .i64 0] 70 (0, 0)) Z10_4 NB272_0.out (by simp)); have n1_ := Aside0.mk (Kd.R_mono (Kd.R_keep (IsS134.apart (show IsS134 w0 _ g s0_0 t284 t285 from by repeat (first | (with_reducible first | exact HI0.out | apply IsS134.alloc | apply IsS134.drewN | apply IsS134.drew | apply IsS134.set_1 | apply IsS134.set_2 | refine IsS134.far ?_ NB0_272.out _) | exact HI0.out)) Z10_7 (by decide)) hk (fun _ h => h.2)) (fun _ h => h.1)); have n2_ := Aside0.mk (KeepBut.trans Z10_3 hk (.inl rfl)); have n3_ := Aside0.mk (hb); have n4_ := Aside0.mk (hi); clear BK272; clear HO275; clear HK; clear HB; clear HI0; have BK272 := n0_; have HO275 := n1_; have HK := n2_; have HB := n3_; have HI0 := n4_; clear n0_ n1_ n2_ n3_ n4_; (try clear hb); (try clear hb2); (try clear hk); (try clear hi))); go_upto_block 0 with (first | ((with_reducible refine gate_dst (N := 6) rfl ?_); refine box_event ?hg (N := 6) ?hd (cs := #[.int .i64 0, .int .i64 0, .int .i64 0]) (t := 70) ?hr ?_; (case hd => rfl); (case hg => rfl); (case hr => exact Z10_17); intro gb272 hg w11 hbox hb; have n0_ := Aside0.mk (IsS134.below Z10_15 hb); have n1_ := Aside0.mk (KeepBut.trans Z10_9 (KeepBut.of_below hb g none) (.inl rfl)); have n2_ := Aside0.mk (below_step Z10_16 hb); have n3_ := Aside0.mk (hbox); have n4_ := Aside0.mk ((Z10_18 : w.heap.size ≤ gb272)); have n5_ := Aside0.mk ((Nat.le_trans HW0.out (Z10_18 : w.heap.size ≤ gb272) : w0.heap.size ≤ gb272)); have n6_ := Aside0.mk ((Z10_12 : g ≠ gb272)); have n7_ := Aside0.mk ((Z10_13 : gb272 ≠ g)); clear HI0; clear HK; clear HB; have HI0 := n0_; have HK := n1_; have HB := n2_; have BK272 := n3_; have GW272 := n4_; have GE272 := n5_; have NB0_272 := n6_; have NB272_0 := n7_; clear n0_ n1_ n2_ n3_ n4_ n5_ n6_ n7_; clear hb hbox hg) | ((with_reducible refine gate_dst (N := 10) rfl ?_); refine Kd.R_lit (Kd.int .i64) _ 2 ?hg (N := 10) ?hd (xs := ([1, 1, 1, 2, 2, 3, 4, 0] : List Int)) (inner := [.int .i64 1, .int .i64 1, .int .i64 1, .int .i64 2, .int .i64 2, .int .i64 3, .int .i64 4, .int .i64 0]) (ok := fun _ => True) (okp := fun _ => True) ?hr ?hp (fun _ hk => hk) trivial (Below.refl _ _) (Nat.le_refl _) (by simp) ?_; (case hd => rfl); (case hg => rfl); (case hr => exact Z10_17); (case hp => exact (Reps.one (show Kd.M (Kd.int .i64) _ _ _ 1 [.int .i64 1] from rfl) (Reps.one (show Kd.M (Kd.int .i64) _ _ _ 1 [.int .i64 1] from rfl) (Reps.one (show Kd.M (Kd.int .i64) _ _ _ 1 [.int .i64 1] from rfl) (Reps.one (show Kd.M (Kd.int .i64) _ _ _ 2 [.int .i64 2] from rfl) (Reps.one (show Kd.M (Kd.int .i64) _ _ _ 2 [.int .i64 2] from rfl) (Reps.one (show Kd.M (Kd.int .i64) _ _ _ 3 [.int .i64 3] from rfl) (Reps.one (show Kd.M (Kd.int .i64) _ _ _ 4 [.int .i64 4] from rfl) (Reps.one (show Kd.M (Kd.int .i64) _ _ _ 0 [.int .i64 0] from rfl) (Reps.none _ _)))))))))); intro v274 w12 ho13 hb hg_ hnew_; clear hg_ hnew_; (first | rw [← Ny273.out] at ho13 | (simp only [Int.reduceToNat] at ho13; rw [← Ny273.out] at ho13)); have n0_ := Aside0.mk (Kd.R_lower ho13 (keep_size (w := w) (g := g) (row := none) Z10_3)); have n1_ := Aside0.mk (IsS134.below Z10_1 hb); have n2_ := Aside0.mk (blk_below (g := gb272) (o := .cells #[.int .i64 0, .int .i64 0, .int .i64 0] 70 (0, 0)) Z10_4 hb); have n3_ := Aside0.mk (KeepBut.trans Z10_3 (KeepBut.of_below hb g none) (.inl rfl)); have n4_ := Aside0.mk (below_step Z10_2 hb); clear HI0; clear BK272; clear HK; clear HB; have HO275 := n0_; have HI0 := n1_; have BK272 := n2_; have HK := n3_; have HB := n4_; clear n0_ n1_ n2_ n3_ n4_; clear hb ho13) | (go_at_call 88; (with_reducible refine (spec_l1Below.calls g s0_0 s0_1 s0_2 8 t276 t277 t278 w0 _ ?side1 ?side2 A4.out).mono ?_); (case side1 => exact Z10_1); (case side2 => exact Z10_2); rintro e w14 ⟨rfl, hi, hb, hk⟩; have n0_ := Aside0.mk (KeepBut.blk hk (g' := gb272) (o := .cells #[.int .i64 0, .int .i64 0, .int .i64 0] 70 (0, 0)) Z10_4 NB272_0.out (by simp)); have n1_ := Aside0.mk (Kd.R_mono (Kd.R_keep (IsS134.apart (show IsS134 w0 _ g s0_0 s0_1 s0_2 from by repeat (first | (with_reducible first | exact HI0.out | apply IsS134.alloc | apply IsS134.drewN | apply IsS134.drew | apply IsS134.set_1 | apply IsS134.set_2 | refine IsS134.far ?_ NB0_272.out _) | exact HI0.out)) Z10_7 (by decide)) hk (fun _ h => h.2)) (fun _ h => h.1)); have n2_ := Aside0.mk (KeepBut.trans Z10_3 hk (.inl rfl)); have n3_ := Aside0.mk (hb); have n4_ := Aside0.mk (hi); clear BK272; clear HO275; clear HK; clear HB; clear HI0; have BK272 := n0_; have HO275 := n1_; have HK := n2_; have HB := n3_; have HI0 := n4_; clear n0_ n1_ n2_ n3_ n4_; (try clear hb); (try clear hb2); (try clear hk); (try clear hi); obtain ⟨Ao15, co15, eo15⟩ := Kd.R_slice HO275.out; subst eo15; have p279 : 0 ≤ (t276 : Int) := of_decide_eq_true Z10_14; have q279 : t276 < (y273.length : Int) := of_decide_eq_true Z10_14; obtain ⟨ad279, e279, hx279_0⟩ := Kd.at_int (Kd.R_reads' HO275.out).2.2 t276 p279 q279; cases e279; replace p279 := eq_true p279; replace q279 := eq_true q279) | (go_at_call 88; (with_reducible refine (spec_l1Below.calls g s0_0 t277 t278 5 t280 t281 t282 w0 _ ?side1 ?side2 A7.out).mono ?_); (case side1 => exact Z10_1); (case side2 => exact Z10_2); rintro e w16 ⟨rfl, hi, hb, hk⟩; have n0_ := Aside0.mk (KeepBut.blk hk (g' := gb272) (o := .cells #[.int .i64 0, .int .i64 0, .int .i64 0] 70 (0, 0)) Z10_4 NB272_0.out (by simp)); have n1_ := Aside0.mk (Kd.R_mono (Kd.R_keep (IsS134.apart (show IsS134 w0 _ g s0_0 t277 t278 from by repeat (first | (with_reducible first | exact HI0.out | apply IsS134.alloc | apply IsS134.drewN | apply IsS134.drew | apply IsS134.set_1 | apply IsS134.set_2 | refine IsS134.far ?_ NB0_272.out _) | exact HI0.out)) Z10_7 (by decide)) hk (fun _ h => h.2)) (fun _ h => h.1)); have n2_ := Aside0.mk (KeepBut.trans Z10_3 hk (.inl rfl)); have n3_ := Aside0.mk (hb); have n4_ := Aside0.mk (hi); clear BK272; clear HO275; clear HK; clear HB; clear HI0; have BK272 := n0_; have HO275 := n1_; have HK := n2_; have HB := n3_; have HI0 := n4_; clear n0_ n1_ n2_ n3_ n4_; (try clear hb); (try clear hb2); (try clear hk); (try clear hi)) | (go_at_call 88; (with_reducible refine (spec_l1Below.calls g s0_0 t281 t282 (wrap64 (a1 + 1)) t283 t284 t285 w0 _ ?side1 ?side2 A8.out).mono ?_); (case side1 => exact Z10_1); (case side2 => exact Z10_2); rintro e w17 ⟨rfl, hi, hb, hk⟩; have n0_ := Aside0.mk (KeepBut.blk hk (g' := gb272) (o := .cells #[.int .i64 0, .int .i64 0, .int .i64 0] 70 (0, 0)) Z10_4 NB272_0.out (by simp)); have n1_ := Aside0.mk (Kd.R_mono (Kd.R_keep (IsS134.apart (show IsS134 w0 _ g s0_0 t281 t282 from by repeat (first | (with_reducible first | exact HI0.out | apply IsS134.alloc | apply IsS134.drewN | apply IsS134.drew | apply IsS134.set_1 | apply IsS134.set_2 | refine IsS134.far ?_ NB0_272.out _) | exact HI0.out)) Z10_7 (by decide)) hk (fun _ h => h.2)) (fun _ h => h.1)); have n2_ := Aside0.mk (KeepBut.trans Z10_3 hk (.inl rfl)); have n3_ := Aside0.mk (hb); have n4_ := Aside0.mk (hi); clear BK272; clear HO275; clear HK; clear HB; clear HI0; have BK272 := n0_; have HO275 := n1_; have HK := n2_; have HB := n3_; have HI0 := n4_; clear n0_ n1_ n2_ n3_ n4_; (try clear hb); (try clear hb2); (try clear hk); (try clear hi)) | (go_at_call 88; (with_reducible refine (spec_l1Below.calls g s0_0 t284 t285 8 t286 t287 t288 w0 _ ?side1 ?side2 A9.out).mono ?_); (case side1 => exact Z10_1); (case side2 => exact Z10_2); rintro e w18 ⟨rfl, hi, hb, hk⟩; have n0_ := Aside0.mk (KeepBut.blk hk (g' := gb272) (o := .cells #[.int .i64 0, .int .i64 0, .int .i64 0] 70 (0, 0)) Z10_4 NB272_0.out (by simp)); have n1_ := Aside0.mk (Kd.R_mono (Kd.R_keep (IsS134.apart (show IsS134 w0 _ g s0_0 t284 t285 from by repeat (first | (with_reducible first | exact HI0.out | apply IsS134.alloc | apply IsS134.drewN | apply IsS134.drew | apply IsS134.set_1 | apply IsS134.set_2 | refine IsS134.far ?_ NB0_272.out _) | exact HI0.out)) Z10_7 (by decide)) hk (fun _ h => h.2)) (fun _ h => h.1)); have n2_ := Aside0.mk (KeepBut.trans Z10_3 hk (.inl rfl)); have n3_ := Aside0.mk (hb); have n4_ := Aside0.mk (hi); clear BK272; clear HO275; clear HK; clear HB; clear HI0; have BK272 := n0_; have HO275 := n1_; have HK := n2_; have HB := n3_; have HI0 := n4_; clear n0_ n1_ n2_ n3_ n4_; (try clear hb); (try clear hb2); (try clear hk); (try clear hi))))
   (try simp only [Act.put, List.setIfInBounds_toArray, List.set_cons_zero, List.set_cons_succ])
   go_cut [8, 9] (fun v8 v9 wc => ∃ (kq : Nat) (x8_9 : Int) (x9_9 : Int) (x1001_9 : Int) (x1002_9 : Int), v8 = .int .i64 x8_9 ∧ v9 = .int .i64 x9_9 ∧ Aside0 (spec_l8DrawFrameOp.j1 kq (rd y273 t276) x8_9 x9_9 s0_0 x1001_9 x1002_9 = some (r1, r2, r3, r4, r5)) ∧ Aside0 (kq ≤ k) ∧ Aside0 (wc.heap[gb272]? = some (.cells #[.int .i64 0, .int .i64 0, .int .i64 0] 70 (0, 0))) ∧ Aside0 (IsS134 w0 wc g s0_0 x1001_9 x1002_9) ∧ Aside0 (KeepBut w wc g none) ∧ Aside0 (Below w0.heap.size w0 wc))
   case first =>
    have H := HC10.out
    clear HC10
    by_cases c19 : t286 = 0
    ·rw [if_pos c19] at H
     have c19b0 : (t286 == 0) = true := beq_iff_eq.mpr c19
     have c19b1 : (t286 != 0) = false := bne_eq_false_iff_eq.mpr c19
     clear c19
     (first | rw [c19b0] | (simp only [i64_w, i32_w]; rw [c19b0]) | skip)
     replace H := Option.bind_eq_some_iff.mp H
     obtain ⟨⟨t289, t290, t291⟩, A200, H⟩ := H
     replace H : (spec_l8DrawFrameOp.j1 k (rd y273 t276) (wrap64 (t289 - 1)) t283 s0_0 t290 t291) = some (r1, r2, r3, r4, r5) := H
     have A20 := Aside0.mk A200
     clear A200
     have H' := Aside0.mk H
     clear H
     go_wp2_with (first | (go_at_call 88; (with_reducible refine (spec_l1Below.calls g s0_0 t287 t288 14 t289 t290 t291 w0 _ ?side1 ?side2 A20.out).mono ?_); (case side1 => exact Z10_1); (case side2 => exact Z10_2); rintro e w21 ⟨rfl, hi, hb, hk⟩; have n0_ := Aside0.mk (KeepBut.blk hk (g' := gb272) (o := .cells #[.int .i64 0, .int .i64 0, .int .i64 0] 70 (0, 0)) Z10_4 NB272_0.out (by simp)); have n1_ := Aside0.mk (Kd.R_mono (Kd.R_keep (IsS134.apart (show IsS134 w0 _ g s0_0 t287 t288 from by repeat (first | (with_reducible first | exact HI0.out | apply IsS134.alloc | apply IsS134.drewN | apply IsS134.drew | apply IsS134.set_1 | apply IsS134.set_2 | refine IsS134.far ?_ NB0_272.out _) | exact HI0.out)) Z10_7 (by decide)) hk (fun _ h => h.2)) (fun _ h => h.1)); have n2_ := Aside0.mk (KeepBut.trans Z10_3 hk (.inl rfl)); have n3_ := Aside0.mk (hb); have n4_ := Aside0.mk (hi); clear BK272; clear HO275; clear HK; clear HB; clear HI0; have BK272 := n0_; have HO275 := n1_; have HK := n2_; have HB := n3_; have HI0 := n4_; clear n0_ n1_ n2_ n3_ n4_; (try clear hb); (try clear hb2); (try clear hk); (try clear hi)))
     repeat (go_quiet (first | (go_at_call 88; (with_reducible refine (spec_l1Below.calls g s0_0 t287 t288 14 t289 t290 t291 w0 _ ?side1 ?side2 A20.out).mono ?_); (case side1 => exact Z10_1); (case side2 => exact Z10_2); rintro e w21 ⟨rfl, hi, hb, hk⟩; have n0_ := Aside0.mk (KeepBut.blk hk (g' := gb272) (o := .cells #[.int .i64 0, .int .i64 0, .int .i64 0] 70 (0, 0)) Z10_4 NB272_0.out (by simp)); have n1_ := Aside0.mk (Kd.R_mono (Kd.R_keep (IsS134.apart (show IsS134 w0 _ g s0_0 t287 t288 from by repeat (first | (with_reducible first | exact HI0.out | apply IsS134.alloc | apply IsS134.drewN | apply IsS134.drew | apply IsS134.set_1 | apply IsS134.set_2 | refine IsS134.far ?_ NB0_272.out _) | exact HI0.out)) Z10_7 (by decide)) hk (fun _ h => h.2)) (fun _ h => h.1)); have n2_ := Aside0.mk (KeepBut.trans Z10_3 hk (.inl rfl)); have n3_ := Aside0.mk (hb); have n4_ := Aside0.mk (hi); clear BK272; clear HO275; clear HK; clear HB; clear HI0; have BK272 := n0_; have HO275 := n1_; have HK := n2_; have HB := n3_; have HI0 := n4_; clear n0_ n1_ n2_ n3_ n4_; (try clear hb); (try clear hb2); (try clear hk); (try clear hi))); try go_wp2_with (first | (go_at_call 88; (with_reducible refine (spec_l1Below.calls g s0_0 t287 t288 14 t289 t290 t291 w0 _ ?side1 ?side2 A20.out).mono ?_); (case side1 => exact Z10_1); (case side2 => exact Z10_2); rintro e w21 ⟨rfl, hi, hb, hk⟩; have n0_ := Aside0.mk (KeepBut.blk hk (g' := gb272) (o := .cells #[.int .i64 0, .int .i64 0, .int .i64 0] 70 (0, 0)) Z10_4 NB272_0.out (by simp)); have n1_ := Aside0.mk (Kd.R_mono (Kd.R_keep (IsS134.apart (show IsS134 w0 _ g s0_0 t287 t288 from by repeat (first | (with_reducible first | exact HI0.out | apply IsS134.alloc | apply IsS134.drewN | apply IsS134.drew | apply IsS134.set_1 | apply IsS134.set_2 | refine IsS134.far ?_ NB0_272.out _) | exact HI0.out)) Z10_7 (by decide)) hk (fun _ h => h.2)) (fun _ h => h.1)); have n2_ := Aside0.mk (KeepBut.trans Z10_3 hk (.inl rfl)); have n3_ := Aside0.mk (hb); have n4_ := Aside0.mk (hi); clear BK272; clear HO275; clear HK; clear HB; clear HI0; have BK272 := n0_; have HO275 := n1_; have HK := n2_; have HB := n3_; have HI0 := n4_; clear n0_ n1_ n2_ n3_ n4_; (try clear hb); (try clear hb2); (try clear hk); (try clear hi))))
     go_meet
     case rel => exact ⟨_, (wrap64 (t289 - 1)), (t283), (t290), (t291), Z10_8, Z10_8, H', ⟨Z10_21⟩, ⟨Z10_4⟩, ⟨Z10_1⟩, ⟨Z10_3⟩, ⟨Z10_2⟩⟩
    rw [if_neg c19] at H
    have c19b0 : (t286 == 0) = false := beq_eq_false_iff_ne.mpr c19
    have c19b1 : (t286 != 0) = true := bne_iff_ne.mpr c19
    (first | rw [c19b0] | (simp only [i64_w, i32_w]; rw [c19b0]) | skip)
    by_cases c22 : t286 = 1
    ·rw [if_pos c22] at H
     have c22b0 : (t286 == 1) = true := beq_iff_eq.mpr c22
     have c22b1 : (t286 != 1) = false := bne_eq_false_iff_eq.mpr c22
     clear c22
     have H' := Aside0.mk H
     clear H
     go_wp2
     repeat (go_quiet (fail); try go_wp2)
     go_meet
     case rel => exact ⟨_, (t280), (a2), (t287), (t288), Z10_8, Z10_8, H', ⟨Z10_21⟩, ⟨Z10_4⟩, ⟨Z10_1⟩, ⟨Z10_3⟩, ⟨Z10_2⟩⟩
    rw [if_neg c22] at H
    have c22b0 : (t286 == 1) = false := beq_eq_false_iff_ne.mpr c22
    have c22b1 : (t286 != 1) = true := bne_iff_ne.mpr c22
    have HC23 := Aside0.mk H
    clear H
    go_upto_if 31 with (fail)
    repeat (go_quiet (fail); go_upto_if 31 with (fail))
    go_cut [31] (fun v31 wc => ∃ (kq : Nat) (x31_22 : Bool), v31 = .bool x31_22 ∧ Aside0 (spec_l8DrawFrameOp.j0 kq (rd y273 t276) t280 t283 x31_22 s0_0 t287 t288 = some (r1, r2, r3, r4, r5)) ∧ Aside0 (kq ≤ k) ∧ Aside0 (wc.heap[gb272]? = some (.cells #[.int .i64 0, .int .i64 0, .int .i64 0] 70 (0, 0))) ∧ Aside0 (IsS134 w0 wc g s0_0 t287 t288) ∧ Aside0 (KeepBut w wc g none) ∧ Aside0 (Below w0.heap.size w0 wc))
    case first =>
     have H := HC23.out
     clear HC23
     by_cases c24 : t286 = 2
     ·rw [if_pos c24] at H
      have c24b0 : (t286 == 2) = true := beq_iff_eq.mpr c24
      have c24b1 : (t286 != 2) = false := bne_eq_false_iff_eq.mpr c24
      clear c24
      (first | rw [c24b0] | (simp only [i64_w, i32_w]; rw [c24b0]) | skip)
      have H' := Aside0.mk H
      clear H
      go_wp2
      repeat (go_quiet (fail); try go_wp2)
      go_meet
      case rel => exact ⟨_, ((t286 == 2)), Z10_8, H', ⟨Z10_21⟩, ⟨Z10_4⟩, ⟨Z10_1⟩, ⟨Z10_3⟩, ⟨Z10_2⟩⟩
     rw [if_neg c24] at H
     have c24b0 : (t286 == 2) = false := beq_eq_false_iff_ne.mpr c24
     have c24b1 : (t286 != 2) = true := bne_iff_ne.mpr c24
     (first | rw [c24b0] | (simp only [i64_w, i32_w]; rw [c24b0]) | skip)
     by_cases c25 : t286 = 3
     ·rw [if_pos c25] at H
      have c25b0 : (t286 == 3) = true := beq_iff_eq.mpr c25
      have c25b1 : (t286 != 3) = false := bne_eq_false_iff_eq.mpr c25
      clear c25
      have H' := Aside0.mk H
      clear H
      go_wp2
      repeat (go_quiet (fail); try go_wp2)
      go_meet
      case rel => exact ⟨_, ((t286 == 3)), Z10_8, H', ⟨Z10_21⟩, ⟨Z10_4⟩, ⟨Z10_1⟩, ⟨Z10_3⟩, ⟨Z10_2⟩⟩
     rw [if_neg c25] at H
     have c25b0 : (t286 == 3) = false := beq_eq_false_iff_ne.mpr c25
     have c25b1 : (t286 != 3) = true := bne_iff_ne.mpr c25
     have H' := Aside0.mk H
     clear H
     go_wp2
     repeat (go_quiet (fail); try go_wp2)
     go_meet
     case rel => exact ⟨_, ((t286 == 4)), Z10_8, H', ⟨Z10_21⟩, ⟨Z10_4⟩, ⟨Z10_1⟩, ⟨Z10_3⟩, ⟨Z10_2⟩⟩
    clear HC23
    try clear c1
    try clear c2
    try clear p2
    try clear q2
    try clear hx2
    try clear c5
    try clear c5b0
    try clear c6
    try clear c6b0
    try clear p6
    try clear c9
    try clear c19
    try clear c19b0
    try clear c19b1
    try clear c22
    try clear c22b0
    try clear c22b1
    try clear c24
    try clear c24b0
    try clear c24b1
    try clear c25
    try clear c25b0
    try clear c25b1
    try clear hx279_0
    try clear p279
    try clear q279
    obtain ⟨kq, x31_22, rfl, HA, HJ22, BK272, HI0, HK, HB⟩ := hcut
    cases kq with
    | zero => exact absurd HA.out (by simp [spec_l8DrawFrameOp.j0])
    | succ kj22 =>
     have H := HA.out
     clear HA
     simp only [spec_l8DrawFrameOp.j0] at H
     by_cases c26 : x31_22 = true
     ·subst c26
      have H1 : ((spec_l8Len.f kj22 t280).bind fun t292 => (if t292 = 0 then (none) else ((spec_l8Len.f kj22 t280).bind fun t293 => (spec_l8DrawFrameOp.j1 kj22 (rd y273 t276) t280 (wrap64 ((wrap64 (Int.tdiv t283 t292)) * t293)) s0_0 t287 t288)))) = some (r1, r2, r3, r4, r5) := by rw [if_pos rfl] at H; exact H
      clear H
      have H := H1
      clear H1
      replace H := Option.bind_eq_some_iff.mp H
      obtain ⟨t292, A270, H⟩ := H
      replace H : (if t292 = 0 then (none) else ((spec_l8Len.f kj22 t280).bind fun t293 => (spec_l8DrawFrameOp.j1 kj22 (rd y273 t276) t280 (wrap64 ((wrap64 (Int.tdiv t283 t292)) * t293)) s0_0 t287 t288))) = some (r1, r2, r3, r4, r5) := H
      have A27 := Aside0.mk A270
      clear A270
      by_cases c28 : t292 = 0
      ·rw [if_pos c28] at H
       exact absurd H (by simp)
      rw [if_neg c28] at H
      have c28b0 : (t292 == 0) = false := beq_eq_false_iff_ne.mpr c28
      have c28b1 : (t292 != 0) = true := bne_iff_ne.mpr c28
      replace H := Option.bind_eq_some_iff.mp H
      obtain ⟨t293, A290, H⟩ := H
      replace H : (spec_l8DrawFrameOp.j1 kj22 (rd y273 t276) t280 (wrap64 ((wrap64 (Int.tdiv t283 t292)) * t293)) s0_0 t287 t288) = some (r1, r2, r3, r4, r5) := H
      have A29 := Aside0.mk A290
      clear A290
      obtain rfl : t292 = t293 := Option.some.inj (A27.out.symm.trans A29.out)
      have H' := Aside0.mk H
      clear H
      go_wp2_with (first | (go_at_call 72; (with_reducible refine (spec_l8Len.calls kj22 t280 t292 _ A27.out).mono ?_); rintro e w' ⟨rfl, ⟨nd, rfl⟩⟩; (try first | exact ⟨rfl, _, World.drewN_drewN _ _ _⟩ | exact ⟨rfl, _, Eq.trans (World.drewN_drewN _ _ _) (congrArg (World.drewN _) (Nat.add_assoc _ _ _))⟩)) | (go_at_call 72; (with_reducible refine (spec_l8Len.calls kj22 t280 t292 _ A29.out).mono ?_); rintro e w' ⟨rfl, ⟨nd, rfl⟩⟩; (try first | exact ⟨rfl, _, World.drewN_drewN _ _ _⟩ | exact ⟨rfl, _, Eq.trans (World.drewN_drewN _ _ _) (congrArg (World.drewN _) (Nat.add_assoc _ _ _))⟩)))
      repeat (go_quiet (first | (go_at_call 72; (with_reducible refine (spec_l8Len.calls kj22 t280 t292 _ A27.out).mono ?_); rintro e w' ⟨rfl, ⟨nd, rfl⟩⟩; (try first | exact ⟨rfl, _, World.drewN_drewN _ _ _⟩ | exact ⟨rfl, _, Eq.trans (World.drewN_drewN _ _ _) (congrArg (World.drewN _) (Nat.add_assoc _ _ _))⟩)) | (go_at_call 72; (with_reducible refine (spec_l8Len.calls kj22 t280 t292 _ A29.out).mono ?_); rintro e w' ⟨rfl, ⟨nd, rfl⟩⟩; (try first | exact ⟨rfl, _, World.drewN_drewN _ _ _⟩ | exact ⟨rfl, _, Eq.trans (World.drewN_drewN _ _ _) (congrArg (World.drewN _) (Nat.add_assoc _ _ _))⟩))); try go_wp2_with (first | (go_at_call 72; (with_reducible refine (spec_l8Len.calls kj22 t280 t292 _ A27.out).mono ?_); rintro e w' ⟨rfl, ⟨nd, rfl⟩⟩; (try first | exact ⟨rfl, _, World.drewN_drewN _ _ _⟩ | exact ⟨rfl, _, Eq.trans (World.drewN_drewN _ _ _) (congrArg (World.drewN _) (Nat.add_assoc _ _ _))⟩)) | (go_at_call 72; (with_reducible refine (spec_l8Len.calls kj22 t280 t292 _ A29.out).mono ?_); rintro e w' ⟨rfl, ⟨nd, rfl⟩⟩; (try first | exact ⟨rfl, _, World.drewN_drewN _ _ _⟩ | exact ⟨rfl, _, Eq.trans (World.drewN_drewN _ _ _) (congrArg (World.drewN _) (Nat.add_assoc _ _ _))⟩))))
      go_meet
      case rel => exact ⟨_, (t280), (wrap64 ((wrap64 (Int.tdiv t283 t292)) * t292)), (t287), (t288), Z10_8, Z10_8, H', ⟨by have := HJ22.out; first | omega | exact Nat.le_refl _⟩, ⟨Z10_4⟩, ⟨Z10_1⟩, ⟨Z10_3⟩, ⟨Z10_2⟩⟩
     replace c26 := Bool.eq_false_iff.mpr c26
     subst c26
     have H1 : (spec_l8DrawFrameOp.j1 kj22 (rd y273 t276) t280 t283 s0_0 t287 t288) = some (r1, r2, r3, r4, r5) := by rw [if_neg (show ¬ (false = true) by decide)] at H; exact H
     clear H
     have H := H1
     clear H1
     have H' := Aside0.mk H
     clear H
     go_wp2
     repeat (go_quiet (fail); try go_wp2)
     go_meet
     case rel => exact ⟨_, (t280), (t283), (t287), (t288), Z10_8, Z10_8, H', ⟨by have := HJ22.out; first | omega | exact Nat.le_refl _⟩, ⟨Z10_4⟩, ⟨Z10_1⟩, ⟨Z10_3⟩, ⟨Z10_2⟩⟩
   clear HC10
   try clear c1
   try clear c2
   try clear p2
   try clear q2
   try clear hx2
   try clear c5
   try clear c5b0
   try clear c6
   try clear c6b0
   try clear p6
   try clear c9
   try clear c19
   try clear c19b0
   try clear c19b1
   try clear c22
   try clear c22b0
   try clear c22b1
   try clear c24
   try clear c24b0
   try clear c24b1
   try clear c25
   try clear c25b0
   try clear c25b1
   try clear c26
   try clear p27
   try clear q27
   try clear hx27
   try clear c28
   try clear c28b0
   try clear c28b1
   try clear hx279_0
   try clear p2
   try clear p279
   try clear p6
   try clear q2
   try clear q279
   obtain ⟨kq, x8_9, x9_9, x1001_9, x1002_9, rfl, rfl, HA, HJ9, BK272, HI0, HK, HB⟩ := hcut
   cases kq with
   | zero => exact absurd HA.out (by simp [spec_l8DrawFrameOp.j1])
   | succ kj9 =>
    have H := HA.out
    clear HA
    simp only [spec_l8DrawFrameOp.j1] at H
    have HC30 := Aside0.mk H
    clear H
    go_upto_if 43 with (fail)
    repeat (go_quiet (fail); go_upto_if 43 with (fail))
    go_cut [8] (fun v8 wc => ∃ (kq : Nat) (x8_29 : Int) (x1001_29 : Int) (x1002_29 : Int), v8 = .int .i64 x8_29 ∧ Aside0 (spec_l8DrawFrameOp.j2 kq (rd y273 t276) x8_29 x9_9 s0_0 x1001_29 x1002_29 = some (r1, r2, r3, r4, r5)) ∧ Aside0 (kq ≤ kj9) ∧ Aside0 (wc.heap[gb272]? = some (.cells #[.int .i64 0, .int .i64 0, .int .i64 0] 70 (0, 0))) ∧ Aside0 (IsS134 w0 wc g s0_0 x1001_29 x1002_29) ∧ Aside0 (KeepBut w wc g none) ∧ Aside0 (Below w0.heap.size w0 wc))
    case first =>
     have H := HC30.out
     clear HC30
     by_cases c31 : (rd y273 t276) = 3
     ·rw [if_pos c31] at H
      have c31b0 : ((rd y273 t276) == 3) = true := beq_iff_eq.mpr c31
      have c31b1 : ((rd y273 t276) != 3) = false := bne_eq_false_iff_eq.mpr c31
      clear c31
      (first | rw [c31b0] | (simp only [i64_w, i32_w]; rw [c31b0]) | skip)
      replace H := Option.bind_eq_some_iff.mp H
      obtain ⟨⟨t294, t295, t296⟩, A320, H⟩ := H
      replace H : (spec_l8DrawFrameOp.j2 kj9 (rd y273 t276) t294 x9_9 s0_0 t295 t296) = some (r1, r2, r3, r4, r5) := H
      have A32 := Aside0.mk A320
      clear A320
      have H' := Aside0.mk H
      clear H
      go_wp2_with (first | (go_at_call 88; (with_reducible refine (spec_l1Below.calls g s0_0 x1001_9 x1002_9 9 t294 t295 t296 w0 _ ?side1 ?side2 A32.out).mono ?_); (case side1 => exact Z10_1); (case side2 => exact Z10_2); rintro e w33 ⟨rfl, hi, hb, hk⟩; have n0_ := Aside0.mk (KeepBut.blk hk (g' := gb272) (o := .cells #[.int .i64 0, .int .i64 0, .int .i64 0] 70 (0, 0)) Z10_4 NB272_0.out (by simp)); have n1_ := Aside0.mk (KeepBut.trans Z10_3 hk (.inl rfl)); have n2_ := Aside0.mk (hb); have n3_ := Aside0.mk (hi); clear BK272; clear HK; clear HB; clear HI0; have BK272 := n0_; have HK := n1_; have HB := n2_; have HI0 := n3_; clear n0_ n1_ n2_ n3_; (try clear hb); (try clear hb2); (try clear hk); (try clear hi)))
      repeat (go_quiet (first | (go_at_call 88; (with_reducible refine (spec_l1Below.calls g s0_0 x1001_9 x1002_9 9 t294 t295 t296 w0 _ ?side1 ?side2 A32.out).mono ?_); (case side1 => exact Z10_1); (case side2 => exact Z10_2); rintro e w33 ⟨rfl, hi, hb, hk⟩; have n0_ := Aside0.mk (KeepBut.blk hk (g' := gb272) (o := .cells #[.int .i64 0, .int .i64 0, .int .i64 0] 70 (0, 0)) Z10_4 NB272_0.out (by simp)); have n1_ := Aside0.mk (KeepBut.trans Z10_3 hk (.inl rfl)); have n2_ := Aside0.mk (hb); have n3_ := Aside0.mk (hi); clear BK272; clear HK; clear HB; clear HI0; have BK272 := n0_; have HK := n1_; have HB := n2_; have HI0 := n3_; clear n0_ n1_ n2_ n3_; (try clear hb); (try clear hb2); (try clear hk); (try clear hi))); try go_wp2_with (first | (go_at_call 88; (with_reducible refine (spec_l1Below.calls g s0_0 x1001_9 x1002_9 9 t294 t295 t296 w0 _ ?side1 ?side2 A32.out).mono ?_); (case side1 => exact Z10_1); (case side2 => exact Z10_2); rintro e w33 ⟨rfl, hi, hb, hk⟩; have n0_ := Aside0.mk (KeepBut.blk hk (g' := gb272) (o := .cells #[.int .i64 0, .int .i64 0, .int .i64 0] 70 (0, 0)) Z10_4 NB272_0.out (by simp)); have n1_ := Aside0.mk (KeepBut.trans Z10_3 hk (.inl rfl)); have n2_ := Aside0.mk (hb); have n3_ := Aside0.mk (hi); clear BK272; clear HK; clear HB; clear HI0; have BK272 := n0_; have HK := n1_; have HB := n2_; have HI0 := n3_; clear n0_ n1_ n2_ n3_; (try clear hb); (try clear hb2); (try clear hk); (try clear hi))))
      go_meet
      case rel => exact ⟨_, (t294), (t295), (t296), Z10_8, H', ⟨by have := HJ9.out; first | omega | exact Nat.le_refl _⟩, ⟨Z10_4⟩, ⟨Z10_1⟩, ⟨Z10_3⟩, ⟨Z10_2⟩⟩
     rw [if_neg c31] at H
     have c31b0 : ((rd y273 t276) == 3) = false := beq_eq_false_iff_ne.mpr c31
     have c31b1 : ((rd y273 t276) != 3) = true := bne_iff_ne.mpr c31
     (first | rw [c31b0] | (simp only [i64_w, i32_w]; rw [c31b0]) | skip)
     have H' := Aside0.mk H
     clear H
     go_wp2
     repeat (go_quiet (fail); try go_wp2)
     go_meet
     case rel => exact ⟨_, (x8_9), (x1001_9), (x1002_9), Z10_8, H', ⟨by have := HJ9.out; first | omega | exact Nat.le_refl _⟩, ⟨Z10_4⟩, ⟨Z10_1⟩, ⟨Z10_3⟩, ⟨Z10_2⟩⟩
    clear HC30
    try clear c1
    try clear c2
    try clear p2
    try clear q2
    try clear hx2
    try clear c3
    try clear c5
    try clear c5b0
    try clear c6
    try clear c6b0
    try clear p6
    try clear c9
    try clear c19
    try clear c19b0
    try clear c19b1
    try clear c22
    try clear c22b0
    try clear c22b1
    try clear c24
    try clear c24b0
    try clear c24b1
    try clear c25
    try clear c25b0
    try clear c25b1
    try clear c26
    try clear p27
    try clear q27
    try clear hx27
    try clear c28
    try clear c28b0
    try clear c28b1
    try clear c31
    try clear c31b0
    try clear c31b1
    try clear hx279_0
    try clear p2
    try clear p27
    try clear p279
    try clear p6
    try clear q2
    try clear q27
    try clear q279
    obtain ⟨kq, x8_29, x1001_29, x1002_29, rfl, HA, HJ29, BK272, HI0, HK, HB⟩ := hcut
    cases kq with
    | zero => exact absurd HA.out (by simp [spec_l8DrawFrameOp.j2])
    | succ kj29 =>
     have H := HA.out
     clear HA
     simp only [spec_l8DrawFrameOp.j2] at H
     replace H := Option.bind_eq_some_iff.mp H
     obtain ⟨⟨t297, t298, t299⟩, A340, H⟩ := H
     replace H : (if t297 = true then ((some (([(-1), 11, 10, 4611686018427387904] : List Int) : List Int)).bind fun y300 => ((spec_l1Below.f s0_0 t298 t299 4).bind fun bt303 => (if 0 ≤ bt303.1 then (if bt303.1 < (y300.length : Int) then (some ((rd y273 t276), x9_9, rd y300 bt303.1, bt303.2.1, bt303.2.2)) else (none)) else (none)))) else (some ((rd y273 t276), x9_9, x8_29, t298, t299))) = some (r1, r2, r3, r4, r5) := H
     have A34 := Aside0.mk A340
     clear A340
     by_cases c35 : t297 = true
     ·subst c35
      have H1 : ((some (([(-1), 11, 10, 4611686018427387904] : List Int) : List Int)).bind fun y300 => ((spec_l1Below.f s0_0 t298 t299 4).bind fun bt303 => (if 0 ≤ bt303.1 then (if bt303.1 < (y300.length : Int) then (some ((rd y273 t276), x9_9, rd y300 bt303.1, bt303.2.1, bt303.2.2)) else (none)) else (none)))) = some (r1, r2, r3, r4, r5) := by rw [if_pos rfl] at H; exact H
      clear H
      have H := H1
      clear H1
      obtain ⟨y300, hy300⟩ : ∃ y_ : List Int, y_ = (([(-1), 11, 10, 4611686018427387904] : List Int)) := ⟨_, rfl⟩
      replace H : ((spec_l1Below.f s0_0 t298 t299 4).bind fun bt303 => (if 0 ≤ bt303.1 then (if bt303.1 < (y300.length : Int) then (some ((rd y273 t276), x9_9, rd y300 bt303.1, bt303.2.1, bt303.2.2)) else (none)) else (none))) = some (r1, r2, r3, r4, r5) := by first | (rw [hy300]; with_reducible exact H) | (have H2_ := (Option.bind_some _ _).symm.trans H; rw [hy300]; with_reducible exact H2_) | (have H2_ := (Option.bind_some _ _).symm.trans H; with_reducible exact H2_) | with_reducible exact H | (rw [hy300]; exact H) | exact H
      have Ny300 := Aside0.mk hy300
      clear hy300
      replace H := Option.bind_eq_some_iff.mp H
      obtain ⟨⟨t303, t304, t305⟩, A360, H⟩ := H
      replace H : (if 0 ≤ t303 then (if t303 < (y300.length : Int) then (some ((rd y273 t276), x9_9, rd y300 t303, t304, t305)) else (none)) else (none)) = some (r1, r2, r3, r4, r5) := H
      have A36 := Aside0.mk A360
      clear A360
      by_cases c37 : 0 ≤ t303
      ·rw [if_pos c37] at H
       have c37b0 : decide (0 ≤ t303) = true := decide_eq_true c37
       clear c37
       by_cases c38 : t303 < (y300.length : Int)
       ·rw [if_pos c38] at H
        have c38b0 : decide (t303 < (y300.length : Int)) = true := decide_eq_true c38
        clear c38
        simp only [Option.some.injEq, Prod.mk.injEq] at H
        obtain ⟨rfl, rfl, rfl, rfl, rfl⟩ := H
        go_wp2_with (first | (go_at_call 89; (with_reducible refine (spec_l1Once.calls g s0_0 x1001_29 x1002_29 20 true t298 t299 w0 _ ?side1 ?side2 A34.out).mono ?_); (case side1 => exact Z10_1); (case side2 => exact Z10_2); rintro e w39 ⟨rfl, hi, hb, hk⟩; have n0_ := Aside0.mk (KeepBut.blk hk (g' := gb272) (o := .cells #[.int .i64 0, .int .i64 0, .int .i64 0] 70 (0, 0)) Z10_4 NB272_0.out (by simp)); have n1_ := Aside0.mk (KeepBut.trans Z10_3 hk (.inl rfl)); have n2_ := Aside0.mk (hb); have n3_ := Aside0.mk (hi); clear BK272; clear HK; clear HB; clear HI0; have BK272 := n0_; have HK := n1_; have HB := n2_; have HI0 := n3_; clear n0_ n1_ n2_ n3_; (try clear hb); (try clear hb2); (try clear hk); (try clear hi)) | ((with_reducible refine gate_dst (N := 48) rfl ?_); refine Kd.R_lit (Kd.int .i64) _ 2 ?hg (N := 48) ?hd (xs := ([(-1), 11, 10, 4611686018427387904] : List Int)) (inner := [.int .i64 (-1), .int .i64 11, .int .i64 10, .int .i64 4611686018427387904]) (ok := fun _ => True) (okp := fun _ => True) ?hr ?hp (fun _ hk => hk) trivial (Below.refl _ _) (Nat.le_refl _) (by simp) ?_; (case hd => rfl); (case hg => rfl); (case hr => exact Z10_17); (case hp => exact (Reps.one (show Kd.M (Kd.int .i64) _ _ _ (-1) [.int .i64 (-1)] from rfl) (Reps.one (show Kd.M (Kd.int .i64) _ _ _ 11 [.int .i64 11] from rfl) (Reps.one (show Kd.M (Kd.int .i64) _ _ _ 10 [.int .i64 10] from rfl) (Reps.one (show Kd.M (Kd.int .i64) _ _ _ 4611686018427387904 [.int .i64 4611686018427387904] from rfl) (Reps.none _ _)))))); intro v301 w40 ho41 hb hg_ hnew_; clear hg_ hnew_; (first | rw [← Ny300.out] at ho41 | (simp only [Int.reduceToNat] at ho41; rw [← Ny300.out] at ho41)); have n0_ := Aside0.mk (Kd.R_lower ho41 (keep_size (w := w) (g := g) (row := none) Z10_3)); have n1_ := Aside0.mk (blk_below (g := gb272) (o := .cells #[.int .i64 0, .int .i64 0, .int .i64 0] 70 (0, 0)) Z10_4 hb); have n2_ := Aside0.mk (IsS134.below Z10_1 hb); have n3_ := Aside0.mk (KeepBut.trans Z10_3 (KeepBut.of_below hb g none) (.inl rfl)); have n4_ := Aside0.mk (below_step Z10_2 hb); clear BK272; clear HI0; clear HK; clear HB; have HO302 := n0_; have BK272 := n1_; have HI0 := n2_; have HK := n3_; have HB := n4_; clear n0_ n1_ n2_ n3_ n4_; clear hb ho41) | (go_at_call 88; (with_reducible refine (spec_l1Below.calls g s0_0 t298 t299 4 t303 t304 t305 w0 _ ?side1 ?side2 A36.out).mono ?_); (case side1 => exact Z10_1); (case side2 => exact Z10_2); rintro e w42 ⟨rfl, hi, hb, hk⟩; have n0_ := Aside0.mk (KeepBut.blk hk (g' := gb272) (o := .cells #[.int .i64 0, .int .i64 0, .int .i64 0] 70 (0, 0)) Z10_4 NB272_0.out (by simp)); have n1_ := Aside0.mk (Kd.R_mono (Kd.R_keep (IsS134.apart (show IsS134 w0 _ g s0_0 t298 t299 from by repeat (first | (with_reducible first | exact HI0.out | apply IsS134.alloc | apply IsS134.drewN | apply IsS134.drew | apply IsS134.set_1 | apply IsS134.set_2 | refine IsS134.far ?_ NB0_272.out _) | exact HI0.out)) Z10_19 (by decide)) hk (fun _ h => h.2)) (fun _ h => h.1)); have n2_ := Aside0.mk (KeepBut.trans Z10_3 hk (.inl rfl)); have n3_ := Aside0.mk (hb); have n4_ := Aside0.mk (hi); clear BK272; clear HO302; clear HK; clear HB; clear HI0; have BK272 := n0_; have HO302 := n1_; have HK := n2_; have HB := n3_; have HI0 := n4_; clear n0_ n1_ n2_ n3_ n4_; (try clear hb); (try clear hb2); (try clear hk); (try clear hi); obtain ⟨Ao43, co43, eo43⟩ := Kd.R_slice HO302.out; subst eo43; have p306 : 0 ≤ (t303 : Int) := of_decide_eq_true Z10_14; have q306 : t303 < (y300.length : Int) := of_decide_eq_true Z10_14; obtain ⟨ad306, e306, hx306_0⟩ := Kd.at_int (Kd.R_reads' HO302.out).2.2 t303 p306 q306; cases e306; replace p306 := eq_true p306; replace q306 := eq_true q306; have hnb44 := NB272_0.out; have hnc44 := NB0_272.out; have hcz45_0 : w42.cell? ⟨gb272, 0, none⟩ = some (.int .i64 0) := (blk_cell BK272.out 0).trans rfl; have hcz45_1 : w42.cell? ⟨gb272, 1, none⟩ = some (.int .i64 0) := (blk_cell BK272.out 1).trans rfl; have hcz45_2 : w42.cell? ⟨gb272, 2, none⟩ = some (.int .i64 0) := (blk_cell BK272.out 2).trans rfl; have hfz45_0 := blk_frozen BK272.out 0; have hfz45_1 := blk_frozen BK272.out 1; have hfz45_2 := blk_frozen BK272.out 2))
        repeat (go_quiet (first | (go_at_call 89; (with_reducible refine (spec_l1Once.calls g s0_0 x1001_29 x1002_29 20 true t298 t299 w0 _ ?side1 ?side2 A34.out).mono ?_); (case side1 => exact Z10_1); (case side2 => exact Z10_2); rintro e w39 ⟨rfl, hi, hb, hk⟩; have n0_ := Aside0.mk (KeepBut.blk hk (g' := gb272) (o := .cells #[.int .i64 0, .int .i64 0, .int .i64 0] 70 (0, 0)) Z10_4 NB272_0.out (by simp)); have n1_ := Aside0.mk (KeepBut.trans Z10_3 hk (.inl rfl)); have n2_ := Aside0.mk (hb); have n3_ := Aside0.mk (hi); clear BK272; clear HK; clear HB; clear HI0; have BK272 := n0_; have HK := n1_; have HB := n2_; have HI0 := n3_; clear n0_ n1_ n2_ n3_; (try clear hb); (try clear hb2); (try clear hk); (try clear hi)) | ((with_reducible refine gate_dst (N := 48) rfl ?_); refine Kd.R_lit (Kd.int .i64) _ 2 ?hg (N := 48) ?hd (xs := ([(-1), 11, 10, 4611686018427387904] : List Int)) (inner := [.int .i64 (-1), .int .i64 11, .int .i64 10, .int .i64 4611686018427387904]) (ok := fun _ => True) (okp := fun _ => True) ?hr ?hp (fun _ hk => hk) trivial (Below.refl _ _) (Nat.le_refl _) (by simp) ?_; (case hd => rfl); (case hg => rfl); (case hr => exact Z10_17); (case hp => exact (Reps.one (show Kd.M (Kd.int .i64) _ _ _ (-1) [.int .i64 (-1)] from rfl) (Reps.one (show Kd.M (Kd.int .i64) _ _ _ 11 [.int .i64 11] from rfl) (Reps.one (show Kd.M (Kd.int .i64) _ _ _ 10 [.int .i64 10] from rfl) (Reps.one (show Kd.M (Kd.int .i64) _ _ _ 4611686018427387904 [.int .i64 4611686018427387904] from rfl) (Reps.none _ _)))))); intro v301 w40 ho41 hb hg_ hnew_; clear hg_ hnew_; (first | rw [← Ny300.out] at ho41 | (simp only [Int.reduceToNat] at ho41; rw [← Ny300.out] at ho41)); have n0_ := Aside0.mk (Kd.R_lower ho41 (keep_size (w := w) (g := g) (row := none) Z10_3)); have n1_ := Aside0.mk (blk_below (g := gb272) (o := .cells #[.int .i64 0, .int .i64 0, .int .i64 0] 70 (0, 0)) Z10_4 hb); have n2_ := Aside0.mk (IsS134.below Z10_1 hb); have n3_ := Aside0.mk (KeepBut.trans Z10_3 (KeepBut.of_below hb g none) (.inl rfl)); have n4_ := Aside0.mk (below_step Z10_2 hb); clear BK272; clear HI0; clear HK; clear HB; have HO302 := n0_; have BK272 := n1_; have HI0 := n2_; have HK := n3_; have HB := n4_; clear n0_ n1_ n2_ n3_ n4_; clear hb ho41) | (go_at_call 88; (with_reducible refine (spec_l1Below.calls g s0_0 t298 t299 4 t303 t304 t305 w0 _ ?side1 ?side2 A36.out).mono ?_); (case side1 => exact Z10_1); (case side2 => exact Z10_2); rintro e w42 ⟨rfl, hi, hb, hk⟩; have n0_ := Aside0.mk (KeepBut.blk hk (g' := gb272) (o := .cells #[.int .i64 0, .int .i64 0, .int .i64 0] 70 (0, 0)) Z10_4 NB272_0.out (by simp)); have n1_ := Aside0.mk (Kd.R_mono (Kd.R_keep (IsS134.apart (show IsS134 w0 _ g s0_0 t298 t299 from by repeat (first | (with_reducible first | exact HI0.out | apply IsS134.alloc | apply IsS134.drewN | apply IsS134.drew | apply IsS134.set_1 | apply IsS134.set_2 | refine IsS134.far ?_ NB0_272.out _) | exact HI0.out)) Z10_19 (by decide)) hk (fun _ h => h.2)) (fun _ h => h.1)); have n2_ := Aside0.mk (KeepBut.trans Z10_3 hk (.inl rfl)); have n3_ := Aside0.mk (hb); have n4_ := Aside0.mk (hi); clear BK272; clear HO302; clear HK; clear HB; clear HI0; have BK272 := n0_; have HO302 := n1_; have HK := n2_; have HB := n3_; have HI0 := n4_; clear n0_ n1_ n2_ n3_ n4_; (try clear hb); (try clear hb2); (try clear hk); (try clear hi); obtain ⟨Ao43, co43, eo43⟩ := Kd.R_slice HO302.out; subst eo43; have p306 : 0 ≤ (t303 : Int) := of_decide_eq_true Z10_14; have q306 : t303 < (y300.length : Int) := of_decide_eq_true Z10_14; obtain ⟨ad306, e306, hx306_0⟩ := Kd.at_int (Kd.R_reads' HO302.out).2.2 t303 p306 q306; cases e306; replace p306 := eq_true p306; replace q306 := eq_true q306; have hnb44 := NB272_0.out; have hnc44 := NB0_272.out; have hcz45_0 : w42.cell? ⟨gb272, 0, none⟩ = some (.int .i64 0) := (blk_cell BK272.out 0).trans rfl; have hcz45_1 : w42.cell? ⟨gb272, 1, none⟩ = some (.int .i64 0) := (blk_cell BK272.out 1).trans rfl; have hcz45_2 : w42.cell? ⟨gb272, 2, none⟩ = some (.int .i64 0) := (blk_cell BK272.out 2).trans rfl; have hfz45_0 := blk_frozen BK272.out 0; have hfz45_1 := blk_frozen BK272.out 1; have hfz45_2 := blk_frozen BK272.out 2)); try go_wp2_with (first | (go_at_call 89; (with_reducible refine (spec_l1Once.calls g s0_0 x1001_29 x1002_29 20 true t298 t299 w0 _ ?side1 ?side2 A34.out).mono ?_); (case side1 => exact Z10_1); (case side2 => exact Z10_2); rintro e w39 ⟨rfl, hi, hb, hk⟩; have n0_ := Aside0.mk (KeepBut.blk hk (g' := gb272) (o := .cells #[.int .i64 0, .int .i64 0, .int .i64 0] 70 (0, 0)) Z10_4 NB272_0.out (by simp)); have n1_ := Aside0.mk (KeepBut.trans Z10_3 hk (.inl rfl)); have n2_ := Aside0.mk (hb); have n3_ := Aside0.mk (hi); clear BK272; clear HK; clear HB; clear HI0; have BK272 := n0_; have HK := n1_; have HB := n2_; have HI0 := n3_; clear n0_ n1_ n2_ n3_; (try clear hb); (try clear hb2); (try clear hk); (try clear hi)) | ((with_reducible refine gate_dst (N := 48) rfl ?_); refine Kd.R_lit (Kd.int .i64) _ 2 ?hg (N := 48) ?hd (xs := ([(-1), 11, 10, 4611686018427387904] : List Int)) (inner := [.int .i64 (-1), .int .i64 11, .int .i64 10, .int .i64 4611686018427387904]) (ok := fun _ => True) (okp := fun _ => True) ?hr ?hp (fun _ hk => hk) trivial (Below.refl _ _) (Nat.le_refl _) (by simp) ?_; (case hd => rfl); (case hg => rfl); (case hr => exact Z10_17); (case hp => exact (Reps.one (show Kd.M (Kd.int .i64) _ _ _ (-1) [.int .i64 (-1)] from rfl) (Reps.one (show Kd.M (Kd.int .i64) _ _ _ 11 [.int .i64 11] from rfl) (Reps.one (show Kd.M (Kd.int .i64) _ _ _ 10 [.int .i64 10] from rfl) (Reps.one (show Kd.M (Kd.int .i64) _ _ _ 4611686018427387904 [.int .i64 4611686018427387904] from rfl) (Reps.none _ _)))))); intro v301 w40 ho41 hb hg_ hnew_; clear hg_ hnew_; (first | rw [← Ny300.out] at ho41 | (simp only [Int.reduceToNat] at ho41; rw [← Ny300.out] at ho41)); have n0_ := Aside0.mk (Kd.R_lower ho41 (keep_size (w := w) (g := g) (row := none) Z10_3)); have n1_ := Aside0.mk (blk_below (g := gb272) (o := .cells #[.int .i64 0, .int .i64 0, .int .i64 0] 70 (0, 0)) Z10_4 hb); have n2_ := Aside0.mk (IsS134.below Z10_1 hb); have n3_ := Aside0.mk (KeepBut.trans Z10_3 (KeepBut.of_below hb g none) (.inl rfl)); have n4_ := Aside0.mk (below_step Z10_2 hb); clear BK272; clear HI0; clear HK; clear HB; have HO302 := n0_; have BK272 := n1_; have HI0 := n2_; have HK := n3_; have HB := n4_; clear n0_ n1_ n2_ n3_ n4_; clear hb ho41) | (go_at_call 88; (with_reducible refine (spec_l1Below.calls g s0_0 t298 t299 4 t303 t304 t305 w0 _ ?side1 ?side2 A36.out).mono ?_); (case side1 => exact Z10_1); (case side2 => exact Z10_2); rintro e w42 ⟨rfl, hi, hb, hk⟩; have n0_ := Aside0.mk (KeepBut.blk hk (g' := gb272) (o := .cells #[.int .i64 0, .int .i64 0, .int .i64 0] 70 (0, 0)) Z10_4 NB272_0.out (by simp)); have n1_ := Aside0.mk (Kd.R_mono (Kd.R_keep (IsS134.apart (show IsS134 w0 _ g s0_0 t298 t299 from by repeat (first | (with_reducible first | exact HI0.out | apply IsS134.alloc | apply IsS134.drewN | apply IsS134.drew | apply IsS134.set_1 | apply IsS134.set_2 | refine IsS134.far ?_ NB0_272.out _) | exact HI0.out)) Z10_19 (by decide)) hk (fun _ h => h.2)) (fun _ h => h.1)); have n2_ := Aside0.mk (KeepBut.trans Z10_3 hk (.inl rfl)); have n3_ := Aside0.mk (hb); have n4_ := Aside0.mk (hi); clear BK272; clear HO302; clear HK; clear HB; clear HI0; have BK272 := n0_; have HO302 := n1_; have HK := n2_; have HB := n3_; have HI0 := n4_; clear n0_ n1_ n2_ n3_ n4_; (try clear hb); (try clear hb2); (try clear hk); (try clear hi); obtain ⟨Ao43, co43, eo43⟩ := Kd.R_slice HO302.out; subst eo43; have p306 : 0 ≤ (t303 : Int) := of_decide_eq_true Z10_14; have q306 : t303 < (y300.length : Int) := of_decide_eq_true Z10_14; obtain ⟨ad306, e306, hx306_0⟩ := Kd.at_int (Kd.R_reads' HO302.out).2.2 t303 p306 q306; cases e306; replace p306 := eq_true p306; replace q306 := eq_true q306; have hnb44 := NB272_0.out; have hnc44 := NB0_272.out; have hcz45_0 : w42.cell? ⟨gb272, 0, none⟩ = some (.int .i64 0) := (blk_cell BK272.out 0).trans rfl; have hcz45_1 : w42.cell? ⟨gb272, 1, none⟩ = some (.int .i64 0) := (blk_cell BK272.out 1).trans rfl; have hcz45_2 : w42.cell? ⟨gb272, 2, none⟩ = some (.int .i64 0) := (blk_cell BK272.out 2).trans rfl; have hfz45_0 := blk_frozen BK272.out 0; have hfz45_1 := blk_frozen BK272.out 1; have hfz45_2 := blk_frozen BK272.out 2)))
        refine bodyPost_ret (results_cell_row rfl _ _ gb272 70 #[.int .i64 (rd y273 t276), .int .i64 x9_9, .int .i64 (rd y300 t303)] (0, 0) _ rfl Z10_11 Try.underlying70 rfl (by kernel_rfl)) rfl ?_
        exact ⟨Z10_22, Z10_1, Z10_2, Z10_3⟩
       rw [if_neg c38] at H
       exact absurd H (by simp)
      rw [if_neg c37] at H
      exact absurd H (by simp)
     replace c35 := Bool.eq_false_iff.mpr c35
     subst c35
     have H1 : (some ((rd y273 t276), x9_9, x8_29, t298, t299)) = some (r1, r2, r3, r4, r5) := by rw [if_neg (show ¬ (false = true) by decide)] at H; exact H
     clear H
     have H := H1
     clear H1
     simp only [Option.some.injEq, Prod.mk.injEq] at H
     obtain ⟨rfl, rfl, rfl, rfl, rfl⟩ := H
     go_wp2_with (first | (go_at_call 89; (with_reducible refine (spec_l1Once.calls g s0_0 x1001_29 x1002_29 20 false t298 t299 w0 _ ?side1 ?side2 A34.out).mono ?_); (case side1 => exact Z10_1); (case side2 => exact Z10_2); rintro e w46 ⟨rfl, hi, hb, hk⟩; have n0_ := Aside0.mk (KeepBut.blk hk (g' := gb272) (o := .cells #[.int .i64 0, .int .i64 0, .int .i64 0] 70 (0, 0)) Z10_4 NB272_0.out (by simp)); have n1_ := Aside0.mk (KeepBut.trans Z10_3 hk (.inl rfl)); have n2_ := Aside0.mk (hb); have n3_ := Aside0.mk (hi); clear BK272; clear HK; clear HB; clear HI0; have BK272 := n0_; have HK := n1_; have HB := n2_; have HI0 := n3_; clear n0_ n1_ n2_ n3_; (try clear hb); (try clear hb2); (try clear hk); (try clear hi); have hnb47 := NB272_0.out; have hnc47 := NB0_272.out; have hcz48_0 : w46.cell? ⟨gb272, 0, none⟩ = some (.int .i64 0) := (blk_cell BK272.out 0).trans rfl; have hcz48_1 : w46.cell? ⟨gb272, 1, none⟩ = some (.int .i64 0) := (blk_cell BK272.out 1).trans rfl; have hcz48_2 : w46.cell? ⟨gb272, 2, none⟩ = some (.int .i64 0) := (blk_cell BK272.out 2).trans rfl; have hfz48_0 := blk_frozen BK272.out 0; have hfz48_1 := blk_frozen BK272.out 1; have hfz48_2 := blk_frozen BK272.out 2))
     repeat (go_quiet (first | (go_at_call 89; (with_reducible refine (spec_l1Once.calls g s0_0 x1001_29 x1002_29 20 false t298 t299 w0 _ ?side1 ?side2 A34.out).mono ?_); (case side1 => exact Z10_1); (case side2 => exact Z10_2); rintro e w46 ⟨rfl, hi, hb, hk⟩; have n0_ := Aside0.mk (KeepBut.blk hk (g' := gb272) (o := .cells #[.int .i64 0, .int .i64 0, .int .i64 0] 70 (0, 0)) Z10_4 NB272_0.out (by simp)); have n1_ := Aside0.mk (KeepBut.trans Z10_3 hk (.inl rfl)); have n2_ := Aside0.mk (hb); have n3_ := Aside0.mk (hi); clear BK272; clear HK; clear HB; clear HI0; have BK272 := n0_; have HK := n1_; have HB := n2_; have HI0 := n3_; clear n0_ n1_ n2_ n3_; (try clear hb); (try clear hb2); (try clear hk); (try clear hi); have hnb47 := NB272_0.out; have hnc47 := NB0_272.out; have hcz48_0 : w46.cell? ⟨gb272, 0, none⟩ = some (.int .i64 0) := (blk_cell BK272.out 0).trans rfl; have hcz48_1 : w46.cell? ⟨gb272, 1, none⟩ = some (.int .i64 0) := (blk_cell BK272.out 1).trans rfl; have hcz48_2 : w46.cell? ⟨gb272, 2, none⟩ = some (.int .i64 0) := (blk_cell BK272.out 2).trans rfl; have hfz48_0 := blk_frozen BK272.out 0; have hfz48_1 := blk_frozen BK272.out 1; have hfz48_2 := blk_frozen BK272.out 2)); try go_wp2_with (first | (go_at_call 89; (with_reducible refine (spec_l1Once.calls g s0_0 x1001_29 x1002_29 20 false t298 t299 w0 _ ?side1 ?side2 A34.out).mono ?_); (case side1 => exact Z10_1); (case side2 => exact Z10_2); rintro e w46 ⟨rfl, hi, hb, hk⟩; have n0_ := Aside0.mk (KeepBut.blk hk (g' := gb272) (o := .cells #[.int .i64 0, .int .i64 0, .int .i64 0] 70 (0, 0)) Z10_4 NB272_0.out (by simp)); have n1_ := Aside0.mk (KeepBut.trans Z10_3 hk (.inl rfl)); have n2_ := Aside0.mk (hb); have n3_ := Aside0.mk (hi); clear BK272; clear HK; clear HB; clear HI0; have BK272 := n0_; have HK := n1_; have HB := n2_; have HI0 := n3_; clear n0_ n1_ n2_ n3_; (try clear hb); (try clear hb2); (try clear hk); (try clear hi); have hnb47 := NB272_0.out; have hnc47 := NB0_272.out; have hcz48_0 : w46.cell? ⟨gb272, 0, none⟩ = some (.int .i64 0) := (blk_cell BK272.out 0).trans rfl; have hcz48_1 : w46.cell? ⟨gb272, 1, none⟩ = some (.int .i64 0) := (blk_cell BK272.out 1).trans rfl; have hcz48_2 : w46.cell? ⟨gb272, 2, none⟩ = some (.int .i64 0) := (blk_cell BK272.out 2).trans rfl; have hfz48_0 := blk_frozen BK272.out 0; have hfz48_1 := blk_frozen BK272.out 1; have hfz48_2 := blk_frozen BK272.out 2)))
     refine bodyPost_ret (results_cell_row rfl _ _ gb272 70 #[.int .i64 (rd y273 t276), .int .i64 x9_9, .int .i64 x8_29] (0, 0) _ rfl Z10_11 Try.underlying70 rfl (by kernel_rfl)) rfl ?_
     exact ⟨Z10_22, Z10_1, Z10_2, Z10_3⟩
  rw [if_neg c6] at H
  exact absurd H (by simp)
 rw [if_neg c5] at H
 exact absurd H (by simp)
/-! ### spec_DrawFramesRun: function 47 -/
mutual
def spec_DrawFramesRun.j0 : Nat → Int → Int → List Int → Int → Int → Option (Int × (List (S70)))
 | 0, _, _, _, _, _ => none
 | k + 1, x5, x6, x311000, x311001, x311002 => spec_DrawFramesRun.l0 k x5 x6 (([] : List (S70))) 0 x311000 x311001 x311002
def spec_DrawFramesRun.l0 : Nat → Int → Int → List (S70) → Int → List Int → Int → Int → Option (Int × (List (S70)))
 | 0, _, _, _, _, _, _, _ => none
 | k + 1, x5, x6, x7, x8, x311000, x311001, x311002 => if x8 < x6 then ((spec_l8DrawFrameOp.f k x311000 x311001 x311002 x5 0).bind fun bt326 => (if x7.length < 5864062014805 then (spec_DrawFramesRun.l0 k x5 x6 (x7 ++ [(⟨bt326.1, bt326.2.1, bt326.2.2.1⟩ : S70)]) (wrap64 (x8 + 1)) x311000 bt326.2.2.2.1 bt326.2.2.2.2) else (none))) else (some (x5, x7))
end
def spec_DrawFramesRun.f (k : Nat) (l0 : List Int) : Option (Int × (List (S70))) := (spec_l1New.f k l0).bind fun bt307 => ((spec_l8DrawTotal.f bt307.1 bt307.2.1 bt307.2.2).bind fun bt311 => ((spec_l1Below.f bt307.1 bt311.2.1 bt311.2.2 30).bind fun bt314 => ((spec_l1Once.f bt307.1 bt314.2.1 bt314.2.2 30).bind fun bt317 => (if bt317.1 = true then ((spec_l1Below.f bt307.1 bt317.2.1 bt317.2.2 2).bind fun bt320 => (spec_DrawFramesRun.j0 k bt311.1 (wrap64 (4096 + bt320.1)) bt307.1 bt320.2.1 bt320.2.2)) else (spec_DrawFramesRun.j0 k bt311.1 bt314.1 bt307.1 bt317.2.1 bt317.2.2)))))
theorem spec_DrawFramesRun.mono_l : ∀ k, (∀ y0 y1 y2 y3 y4, LeO (spec_DrawFramesRun.j0 k y0 y1 y2 y3 y4) (spec_DrawFramesRun.j0 (k + 1) y0 y1 y2 y3 y4)) ∧ (∀ y0 y1 y2 y3 y4 y5 y6, LeO (spec_DrawFramesRun.l0 k y0 y1 y2 y3 y4 y5 y6) (spec_DrawFramesRun.l0 (k + 1) y0 y1 y2 y3 y4 y5 y6))
 | 0 => ⟨fun _ _ _ _ _ r h => by simp [spec_DrawFramesRun.j0] at h, fun _ _ _ _ _ _ _ r h => by simp [spec_DrawFramesRun.l0] at h⟩
 | k + 1 => by
  obtain ⟨ih0, ih1⟩ := spec_DrawFramesRun.mono_l k
  refine ⟨?_, ?_⟩
  ·intro y0 y1 y2 y3 y4
   unfold spec_DrawFramesRun.j0
   repeat' first
   | (with_reducible exact ih0 _ _ _ _ _)
   | (with_reducible exact ih1 _ _ _ _ _ _ _)
   | (with_reducible exact spec_l1New.mono _ _)
   | (with_reducible exact spec_l8DrawFrameOp.mono _ _ _ _ _ _)
   | (with_reducible exact LeO.refl _)
   | (with_reducible exact LeO.none _)
   | (with_reducible refine LeO.ite ?_ ?_)
   | (with_reducible refine LeO.bind ?_ (fun _ => ?_))
   | exact ih0 _ _ _ _ _
   | exact ih1 _ _ _ _ _ _ _
   | exact spec_l1New.mono _ _
   | exact spec_l8DrawFrameOp.mono _ _ _ _ _ _
   | exact LeO.none _
   | refine LeO.ite ?_ ?_
   | refine LeO.bind ?_ (fun _ => ?_)
  ·intro y0 y1 y2 y3 y4 y5 y6
   unfold spec_DrawFramesRun.l0
   repeat' first
   | (with_reducible exact ih0 _ _ _ _ _)
   | (with_reducible exact ih1 _ _ _ _ _ _ _)
   | (with_reducible exact spec_l1New.mono _ _)
   | (with_reducible exact spec_l8DrawFrameOp.mono _ _ _ _ _ _)
   | (with_reducible exact LeO.refl _)
   | (with_reducible exact LeO.none _)
   | (with_reducible refine LeO.ite ?_ ?_)
   | (with_reducible refine LeO.bind ?_ (fun _ => ?_))
   | exact ih0 _ _ _ _ _
   | exact ih1 _ _ _ _ _ _ _
   | exact spec_l1New.mono _ _
   | exact spec_l8DrawFrameOp.mono _ _ _ _ _ _
   | exact LeO.none _
   | refine LeO.ite ?_ ?_
   | refine LeO.bind ?_ (fun _ => ?_)
theorem spec_DrawFramesRun.mono : ∀ a0 k, LeO (spec_DrawFramesRun.f k a0) (spec_DrawFramesRun.f (k + 1) a0) := by
 intro a0 k
 obtain ⟨ih0, ih1⟩ := spec_DrawFramesRun.mono_l k
 unfold spec_DrawFramesRun.f
 repeat' first
   | (with_reducible exact ih0 _ _ _ _ _)
   | (with_reducible exact ih1 _ _ _ _ _ _ _)
   | (with_reducible exact spec_l1New.mono _ _)
   | (with_reducible exact spec_l8DrawFrameOp.mono _ _ _ _ _ _)
   | (with_reducible exact LeO.refl _)
   | (with_reducible exact LeO.none _)
   | (with_reducible refine LeO.ite ?_ ?_)
   | (with_reducible refine LeO.bind ?_ (fun _ => ?_))
   | exact ih0 _ _ _ _ _
   | exact ih1 _ _ _ _ _ _ _
   | exact spec_l1New.mono _ _
   | exact spec_l8DrawFrameOp.mono _ _ _ _ _ _
   | exact LeO.none _
   | refine LeO.ite ?_ ?_
   | refine LeO.bind ?_ (fun _ => ?_)
set_option maxHeartbeats 8000000 in
set_option maxRecDepth 100000 in
theorem spec_DrawFramesRun.calls (k : Nat) (A0 : Option Addr) (c0 : Nat) (l0 : List Int) (r1 : Int) (r2 : List (S70)) (w : World) (hr0 : Kd.C (Kd.int .u8) w A0 l0.length l0) (hc0 : l0.length ≤ c0) (h : spec_DrawFramesRun.f k l0 = some (r1, r2)) :
  Calls Try.prog 47 #[.slice A0 l0.length c0] w fun e w' => ∃ v1_ : Value, e = .returned (.tuple #[.int .i64 r1, v1_]) ∧ Kd.R k70 70 w' w.heap.size (fun _ => True) v1_ r2 ∧ Below w.heap.size w w' := by
 have HR0 := Aside0.mk hr0
 have HC0 := Aside0.mk hc0
 clear hr0 hc0
 have HB := Aside0.mk (Below.refl w.heap.size w)
 have H : ((spec_l1New.f k l0).bind fun bt307 => ((spec_l8DrawTotal.f bt307.1 bt307.2.1 bt307.2.2).bind fun bt311 => ((spec_l1Below.f bt307.1 bt311.2.1 bt311.2.2 30).bind fun bt314 => ((spec_l1Once.f bt307.1 bt314.2.1 bt314.2.2 30).bind fun bt317 => (if bt317.1 = true then ((spec_l1Below.f bt307.1 bt317.2.1 bt317.2.2 2).bind fun bt320 => (spec_DrawFramesRun.j0 k bt311.1 (wrap64 (4096 + bt320.1)) bt307.1 bt320.2.1 bt320.2.2)) else (spec_DrawFramesRun.j0 k bt311.1 bt314.1 bt307.1 bt317.2.1 bt317.2.2)))))) = some (r1, r2) := h
 clear h
 replace H := Option.bind_eq_some_iff.mp H
 obtain ⟨⟨t307, t308, t309⟩, A20, H⟩ := H
 replace H : ((spec_l8DrawTotal.f t307 t308 t309).bind fun bt311 => ((spec_l1Below.f t307 bt311.2.1 bt311.2.2 30).bind fun bt314 => ((spec_l1Once.f t307 bt314.2.1 bt314.2.2 30).bind fun bt317 => (if bt317.1 = true then ((spec_l1Below.f t307 bt317.2.1 bt317.2.2 2).bind fun bt320 => (spec_DrawFramesRun.j0 k bt311.1 (wrap64 (4096 + bt320.1)) t307 bt320.2.1 bt320.2.2)) else (spec_DrawFramesRun.j0 k bt311.1 bt314.1 t307 bt317.2.1 bt317.2.2))))) = some (r1, r2) := H
 have A2 := Aside0.mk A20
 clear A20
 replace H := Option.bind_eq_some_iff.mp H
 obtain ⟨⟨t311, t312, t313⟩, A30, H⟩ := H
 replace H : ((spec_l1Below.f t307 t312 t313 30).bind fun bt314 => ((spec_l1Once.f t307 bt314.2.1 bt314.2.2 30).bind fun bt317 => (if bt317.1 = true then ((spec_l1Below.f t307 bt317.2.1 bt317.2.2 2).bind fun bt320 => (spec_DrawFramesRun.j0 k t311 (wrap64 (4096 + bt320.1)) t307 bt320.2.1 bt320.2.2)) else (spec_DrawFramesRun.j0 k t311 bt314.1 t307 bt317.2.1 bt317.2.2)))) = some (r1, r2) := H
 have A3 := Aside0.mk A30
 clear A30
 replace H := Option.bind_eq_some_iff.mp H
 obtain ⟨⟨t314, t315, t316⟩, A40, H⟩ := H
 replace H : ((spec_l1Once.f t307 t315 t316 30).bind fun bt317 => (if bt317.1 = true then ((spec_l1Below.f t307 bt317.2.1 bt317.2.2 2).bind fun bt320 => (spec_DrawFramesRun.j0 k t311 (wrap64 (4096 + bt320.1)) t307 bt320.2.1 bt320.2.2)) else (spec_DrawFramesRun.j0 k t311 t314 t307 bt317.2.1 bt317.2.2))) = some (r1, r2) := H
 have A4 := Aside0.mk A40
 clear A40
 replace H := Option.bind_eq_some_iff.mp H
 obtain ⟨⟨t317, t318, t319⟩, A50, H⟩ := H
 replace H : (if t317 = true then ((spec_l1Below.f t307 t318 t319 2).bind fun bt320 => (spec_DrawFramesRun.j0 k t311 (wrap64 (4096 + bt320.1)) t307 bt320.2.1 bt320.2.2)) else (spec_DrawFramesRun.j0 k t311 t314 t307 t318 t319)) = some (r1, r2) := H
 have A5 := Aside0.mk A50
 clear A50
 have HC6 := Aside0.mk H
 clear H
 go_enter Try.func47, Try.ntmps47
 go_upto_if 16 with (first | ((with_reducible refine gate_callee (f := 86) rfl ?_); refine goesL_ (some 10) rfl rfl Try.func86 (by kernel_rfl) rfl #[.slice A0 l0.length c0] rfl Z10_10 ?_; (with_reducible refine (spec_l1New.calls k _ _ l0 t307 t308 t309 w _ ?side1 ?side2 ?side3 A2.out).mono ?_); (case side1 => repeat (first | (with_reducible first | exact HB.out | apply below_alloc | apply pw_below_drewN | apply below_drew1) | exact HB.out)); (case side2 => exact HR0.out); (case side3 => exact HC0.out); rintro e w7 ⟨g310, rfl, hi, hb, hb2⟩; refine ⟨_, rfl, ?_⟩; have n0_ := Aside0.mk (hb); have n1_ := Aside0.mk (hi); clear HB; have HB := n0_; have HI310 := n1_; clear n0_ n1_; (try clear hb); (try clear hb2); (try clear hk); (try clear hi)) | ((with_reducible refine gate_callee (f := 87) rfl ?_); refine goesL_ (some 12) rfl rfl Try.func87 (by kernel_rfl) rfl #[.pointer (some ⟨g310, 0, none⟩)] rfl Z10_10 ?_; (with_reducible refine (spec_l8DrawTotal.calls g310 t307 t308 t309 t311 t312 t313 w _ ?side1 ?side2 A3.out).mono ?_); (case side1 => exact Z10_6); (case side2 => exact Z10_5); rintro e w8 ⟨rfl, hi, hb, hk⟩; refine ⟨_, rfl, ?_⟩; have n0_ := Aside0.mk (hb); have n1_ := Aside0.mk (hi); clear HB; clear HI310; have HB := n0_; have HI310 := n1_; clear n0_ n1_; (try clear hb); (try clear hb2); (try clear hk); (try clear hi)) | ((with_reducible refine gate_callee (f := 88) rfl ?_); refine goesL_ (some 14) rfl rfl Try.func88 (by kernel_rfl) rfl #[.pointer (some ⟨g310, 0, none⟩), .int .i64 30] rfl Z10_10 ?_; (with_reducible refine (spec_l1Below.calls g310 t307 t312 t313 30 t314 t315 t316 w _ ?side1 ?side2 A4.out).mono ?_); (case side1 => exact Z10_6); (case side2 => exact Z10_5); rintro e w9 ⟨rfl, hi, hb, hk⟩; refine ⟨_, rfl, ?_⟩; have n0_ := Aside0.mk (hb); have n1_ := Aside0.mk (hi); clear HB; clear HI310; have HB := n0_; have HI310 := n1_; clear n0_ n1_; (try clear hb); (try clear hb2); (try clear hk); (try clear hi)) | ((with_reducible refine gate_callee (f := 89) rfl ?_); refine goesL_ (some 16) rfl rfl Try.func89 (by kernel_rfl) rfl #[.pointer (some ⟨g310, 0, none⟩), .int .i64 30] rfl Z10_10 ?_; (with_reducible refine (spec_l1Once.calls g310 t307 t315 t316 30 t317 t318 t319 w _ ?side1 ?side2 A5.out).mono ?_); (case side1 => exact Z10_6); (case side2 => exact Z10_5); rintro e w10 ⟨rfl, hi, hb, hk⟩; refine ⟨_, rfl, ?_⟩; have n0_ := Aside0.mk (hb); have n1_ := Aside0.mk (hi); clear HB; clear HI310; have HB := n0_; have HI310 := n1_; clear n0_ n1_; (try clear hb); (try clear hb2); (try clear hk); (try clear hi)))
 (try simp only [Act.put, List.setIfInBounds_toArray, List.set_cons_zero, List.set_cons_succ])
 go_cut [6] (fun v6 wc => ∃ (kq : Nat) (x6_5 : Int) (x311001_5 : Int) (x311002_5 : Int), v6 = .int .i64 x6_5 ∧ Aside0 (spec_DrawFramesRun.j0 kq t311 x6_5 t307 x311001_5 x311002_5 = some (r1, r2)) ∧ Aside0 (kq ≤ k) ∧ Aside0 (IsS134 w wc g310 t307 x311001_5 x311002_5) ∧ Aside0 (Below w.heap.size w wc))
 case first =>
  have H := HC6.out
  clear HC6
  by_cases c11 : t317 = true
  ·subst c11
   have H1 : ((spec_l1Below.f t307 t318 t319 2).bind fun bt320 => (spec_DrawFramesRun.j0 k t311 (wrap64 (4096 + bt320.1)) t307 bt320.2.1 bt320.2.2)) = some (r1, r2) := by rw [if_pos rfl] at H; exact H
   clear H
   have H := H1
   clear H1
   replace H := Option.bind_eq_some_iff.mp H
   obtain ⟨⟨t320, t321, t322⟩, A120, H⟩ := H
   replace H : (spec_DrawFramesRun.j0 k t311 (wrap64 (4096 + t320)) t307 t321 t322) = some (r1, r2) := H
   have A12 := Aside0.mk A120
   clear A120
   have H' := Aside0.mk H
   clear H
   go_wp2_with (first | ((with_reducible refine gate_callee (f := 88) rfl ?_); refine goesL_ (some 18) rfl rfl Try.func88 (by kernel_rfl) rfl #[.pointer (some ⟨g310, 0, none⟩), .int .i64 2] rfl Z10_10 ?_; (with_reducible refine (spec_l1Below.calls g310 t307 t318 t319 2 t320 t321 t322 w _ ?side1 ?side2 A12.out).mono ?_); (case side1 => exact Z10_6); (case side2 => exact Z10_5); rintro e w13 ⟨rfl, hi, hb, hk⟩; refine ⟨_, rfl, ?_⟩; have n0_ := Aside0.mk (hb); have n1_ := Aside0.mk (hi); clear HB; clear HI310; have HB := n0_; have HI310 := n1_; clear n0_ n1_; (try clear hb); (try clear hb2); (try clear hk); (try clear hi)))
   go_meet
   case rel => exact ⟨_, (wrap64 (4096 + t320)), (t321), (t322), Z10_8, H', ⟨Z10_21⟩, ⟨Z10_6⟩, ⟨Z10_5⟩⟩
  replace c11 := Bool.eq_false_iff.mpr c11
  subst c11
  have H1 : (spec_DrawFramesRun.j0 k t311 t314 t307 t318 t319) = some (r1, r2) := by rw [if_neg (show ¬ (false = true) by decide)] at H; exact H
  clear H
  have H := H1
  clear H1
  have H' := Aside0.mk H
  clear H
  go_wp2
  go_meet
  case rel => exact ⟨_, (t314), (t318), (t319), Z10_8, H', ⟨Z10_21⟩, ⟨Z10_6⟩, ⟨Z10_5⟩⟩
 clear HC6
 try clear c1
 try clear p2
 try clear c4
 try clear p6
 try clear c8
 try clear c11
 obtain ⟨kq, x6_5, x311001_5, x311002_5, rfl, HA, HJ5, HI310, HB⟩ := hcut
 cases kq with
 | zero => exact absurd HA.out (by simp [spec_DrawFramesRun.j0])
 | succ kj5 =>
  have H := HA.out
  clear HA
  simp only [spec_DrawFramesRun.j0] at H
  obtain ⟨y323, hy323⟩ : ∃ y_ : List (S70), y_ = (([] : List (S70))) := ⟨_, rfl⟩
  replace H : (spec_DrawFramesRun.l0 kj5 t311 x6_5 y323 0 t307 x311001_5 x311002_5) = some (r1, r2) := by first | (rw [hy323]; with_reducible exact H) | (have H2_ := (Option.bind_some _ _).symm.trans H; rw [hy323]; with_reducible exact H2_) | (have H2_ := (Option.bind_some _ _).symm.trans H; with_reducible exact H2_) | with_reducible exact H | (rw [hy323]; exact H) | exact H
  have Ny323 := Aside0.mk hy323
  clear hy323
  have H' := Aside0.mk H
  clear H
  go_wp2_with (first | ((with_reducible refine gate_dst (N := 20) rfl ?_); refine Kd.R_lit k70 _ 70 ?hg (N := 20) ?hd (xs := ([] : List (S70))) (inner := []) (ok := fun _ => True) (okp := fun _ => True) ?hr ?hp (fun _ hk => hk) trivial (Below.refl _ _) (Nat.le_refl _) (by simp) ?_; (case hd => rfl); (case hg => rfl); (case hr => exact Z10_17); (case hp => exact (Reps.none _ _)); intro v324 w14 ho15 hb hg_ hnew_; clear hg_ hnew_; (first | rw [← Ny323.out] at ho15 | (simp only [Int.reduceToNat] at ho15; rw [← Ny323.out] at ho15)); have n0_ := Aside0.mk (Kd.R_lower ho15 (below_size Z10_5)); have n1_ := Aside0.mk (IsS134.below Z10_6 hb); have n2_ := Aside0.mk (below_step Z10_5 hb); clear HI310; clear HB; have HO325 := n0_; have HI310 := n1_; have HB := n2_; clear n0_ n1_ n2_; clear hb ho15))
  go_loopg [7, 8] kj5 (fun kq v7 v8 w' => ∃ (x7_2 : List (S70)) (x8_2 : Int) (x311001_2 : Int) (x311002_2 : Int), v8 = .int .i64 x8_2 ∧ Aside0 (spec_DrawFramesRun.l0 kq t311 x6_5 x7_2 x8_2 t307 x311001_2 x311002_2 = some (r1, r2)) ∧ Aside0 (kq ≤ kj5) ∧ Aside0 (Kd.R k70 70 w' w.heap.size (fun _ => True) v7 x7_2) ∧ Aside0 (IsS134 w w' g310 t307 x311001_2 x311002_2) ∧ Aside0 (Below w.heap.size w w'))
  case atStart => exact ⟨(y323), (0), (x311001_5), (x311002_5), Z10_8, H', ⟨Nat.le_refl _⟩, ⟨by (with_reducible repeat (first | apply Kd.R_alloc | apply Kd.R_drewN | apply Kd.R_drew)); exact HO325.out⟩, ⟨Z10_6⟩, ⟨Z10_5⟩⟩
  clear H'
  try clear c1
  try clear p2
  try clear c4
  try clear p6
  try clear c8
  try clear c11
  try clear p2
  try clear p6
  obtain ⟨x7_2, x8_2, x311001_2, x311002_2, rfl, HA, HK2, HO_7, HI310, HB⟩ := hrel
  cases gk with
  | zero => exact absurd HA.out (by simp [spec_DrawFramesRun.l0])
  | succ k2 =>
   have H := HA.out
   clear HA
   simp only [spec_DrawFramesRun.l0] at H
   by_cases c16 : x8_2 < x6_5
   ·rw [if_pos c16] at H
    have c16b0 : decide (x8_2 < x6_5) = true := decide_eq_true c16
    clear c16
    replace H := Option.bind_eq_some_iff.mp H
    obtain ⟨⟨t326, t327, t328, t329, t330⟩, A170, H⟩ := H
    replace H : (if x7_2.length < 5864062014805 then (spec_DrawFramesRun.l0 k2 t311 x6_5 (x7_2 ++ [(⟨t326, t327, t328⟩ : S70)]) (wrap64 (x8_2 + 1)) t307 t329 t330) else (none)) = some (r1, r2) := H
    have A17 := Aside0.mk A170
    clear A170
    by_cases c18 : x7_2.length < 5864062014805
    ·rw [if_pos c18] at H
     have LMc18 := Aside0.mk c18
     clear c18
     obtain ⟨y331, hy331⟩ : ∃ y_ : List (S70), y_ = (x7_2 ++ [(⟨t326, t327, t328⟩ : S70)]) := ⟨_, rfl⟩
     replace H : (spec_DrawFramesRun.l0 k2 t311 x6_5 y331 (wrap64 (x8_2 + 1)) t307 t329 t330) = some (r1, r2) := by first | (rw [hy331]; with_reducible exact H) | (have H2_ := (Option.bind_some _ _).symm.trans H; rw [hy331]; with_reducible exact H2_) | (have H2_ := (Option.bind_some _ _).symm.trans H; with_reducible exact H2_) | with_reducible exact H | (rw [hy331]; exact H) | exact H
     have Ny331 := Aside0.mk hy331
     clear hy331
     have H' := Aside0.mk H
     clear H
     go_wp2_with (first | ((with_reducible refine gate_callee (f := 90) rfl ?_); refine goesL_ (some 29) rfl rfl Try.func90 (by kernel_rfl) rfl #[.pointer (some ⟨g310, 0, none⟩), .int .i64 t311, .int .i64 0] rfl Z10_10 ?_; (with_reducible refine (spec_l8DrawFrameOp.calls k2 g310 t307 x311001_2 x311002_2 t311 0 t326 t327 t328 t329 t330 w _ ?side1 ?side2 A17.out).mono ?_); (case side1 => exact Z10_6); (case side2 => exact Z10_5); rintro e w19 ⟨rfl, hi, hb, hk⟩; refine ⟨_, rfl, ?_⟩; have n0_ := Aside0.mk (Kd.R_mono (Kd.R_keep (IsS134.apart (show IsS134 w _ g310 t307 x311001_2 x311002_2 from by repeat (first | (with_reducible first | exact HI310.out | apply IsS134.alloc | apply IsS134.drewN | apply IsS134.drew | apply IsS134.set_1 | apply IsS134.set_2) | exact HI310.out)) Z10_20 (by decide)) hk (fun _ h => h.2)) (fun _ h => h.1)); have n1_ := Aside0.mk (hb); have n2_ := Aside0.mk (hi); clear HO_7; clear HB; clear HI310; have HO_7 := n0_; have HB := n1_; have HI310 := n2_; clear n0_ n1_ n2_; (try clear hb); (try clear hb2); (try clear hk); (try clear hi)) | ((with_reducible refine gate_builtin (b := .append) (xs := #[.tmp 26, .tmp 30]) rfl ?_); at_builtin; refine Kd.R_append k70 (w0 := w) w.heap.size rfl (.tmp 26) (.tmp 30) 66 70 (.agg #[(.int .i64 0), (.int .i64 0), (.int .i64 0)]) 24 rfl Try.underlying66 info70 rfl (by decide) (by omega) u7 x7_2 (⟨t326, t327, t328⟩ : S70) [.int .i64 t326, .int .i64 t327, .int .i64 t328] (fun _ => True) (fun _ => False) rfl rfl ?aP (fun _ hk => hk.elim) ?aF ?aO ?aB ?aS ?aL ?_; (case aP => exact k70_mkM _ _ _ (⟨t326, t327, t328⟩ : S70)); (case aB => exact Z10_5); (case aF => exact (fun _ _ => trivial)); (case aO => exact Z10_20); (case aS => exact (below_size Z10_5)); (case aL => have := LMc18.out; omega); intro v332 w20 ho hb hg hat; rw [← Ny331.out] at ho; have n0_ := Aside0.mk (IsS134.grown Z10_6 hg (IsS134.own_ne HI310.out HO_7.out (by decide))); have n1_ := Aside0.mk (hb); have n2_ := Aside0.mk (ho); clear HI310; clear HB; clear HO_7; have HI310 := n0_; have HB := n1_; have HO333 := n2_; clear n0_ n1_ n2_; clear ho hb hg hat))
     go_roundg k2
     case measure => have := HJ5.out; have := HK2.out; omega
     case rel => exact ⟨(y331), (wrap64 (x8_2 + 1)), (t329), (t330), Z10_8, H', ⟨by have := HJ5.out; have := HK2.out; omega⟩, ⟨by (with_reducible repeat (first | apply Kd.R_alloc | apply Kd.R_drewN | apply Kd.R_drew)); exact HO333.out⟩, ⟨Z10_6⟩, ⟨Z10_5⟩⟩
    rw [if_neg c18] at H
    exact absurd H (by simp)
   rw [if_neg c16] at H
   have c16b0 : decide (x8_2 < x6_5) = false := decide_eq_false c16
   clear c16
   simp only [Option.some.injEq, Prod.mk.injEq] at H
   obtain ⟨rfl, rfl⟩ := H
   go_wp2
   go_ret2
   exact ⟨_, Z10_22, Z10_20, Z10_5⟩
end Go.Proofs.Ytmjdmaomakkhgaa.PFnFramesKept
