-- Written by a program of this session out of the translation. Not trusted: Lean checks it.
import Derived.Test.YtflmbjoipmglbaaPFnExactJnlMendx0
import Derived.Test.YtflmbjoipmglbaaPFnExactJnlMendx5
import Derived.Test.YtflmbjoipmglbaaPFnExactJnlMendx6
namespace Go.Proofs.Ytflmbjoipmglbaa.PFnExactJnlMend
open Go.RowKit Go.Proofs.YtflmbjoipmglbaaW.PrintWords Go.Proofs.YtflmbjoipmglbaaW.PrintLast Go.Proofs.YtflmbjoipmglbaaW.PrintMore
attribute [local go_sem] max2_int min2_int max_two min_two max_three min_three max_four min_four   -- for this text's walks alone
set_option linter.unusedVariables false
set_option linter.unusedSimpArgs false

/-! ### impl_JnlRead: function 39 -/
mutual
def impl_JnlRead.j0 : Nat → List Int → Bool → Int → Int → Option (Int × Int × List Int)
  | 0, _, _, _, _ => none
  | k + 1, x0, x18, x290000, x290001 => if x18 = true then (some (0, 0, ([] : List Int))) else (if 128 ≤ (x0.length : Int) then (if 128 ≤ 384 then (if 384 ≤ (x0.length : Int) then ((impl_get8.f k (x0.take 128) 24).bind fun t293 => (if t293 > 16 then (some (4, 0, ([] : List Int))) else ((impl_get8.f k (x0.take 128) 16).bind fun t294 => ((impl_jnlHead.f k t294 ((x0.take 384).drop 128) (wrap64 (t293))).bind fun t295 => (if 32 ≤ 40 then (if 40 ≤ (t295.length : Int) then (if 40 ≤ ((x0.take 128).length : Int) then ((copyC.f t295 32 40 (((x0.take 128).take 40).drop 32)).bind fun t303 => ((impl_Crc.f k (t303.take 40)).bind fun t308 => ((impl_put8.f k t303 40 t308).bind fun t309 => (if (strOfNums t309).toList = (strOfNums (x0.take 128)).toList then ((impl_get8.f k (x0.take 128) 16).bind fun t310 => (if t293 = 0 then ((impl_get8.f k (x0.take 128) 32).bind fun t311 => (impl_JnlRead.j1 k x0 (x0.take 128) ((x0.take 384).drop 128) t293 (t311 != 0) x290000 t310)) else (impl_JnlRead.j1 k x0 (x0.take 128) ((x0.take 384).drop 128) t293 false x290000 t310))) else (some (4, 0, ([] : List Int))))))) else (none)) else (none)) else (none)))))) else (none)) else (none)) else (none))
def impl_JnlRead.j1 : Nat → List Int → List Int → List Int → Int → Bool → Int → Int → Option (Int × Int × List Int)
  | 0, _, _, _, _, _, _, _ => none
  | k + 1, x0, x3, x4, x5, x60, x290000, x290001 => if x60 = true then (some (4, 0, ([] : List Int))) else (if x5 = 0 then (some (1, x290001, ([] : List Int))) else ((impl_get8.f k x3 32).bind fun t312 => (if 0 ≤ (IntKind.u64.wrap (16 * x5)) then (if (IntKind.u64.wrap (16 * x5)) ≤ (x4.length : Int) then ((impl_Crc.f k (x4.take ((IntKind.u64.wrap (16 * x5)) : Int).toNat)).bind fun t314 => (if t312 = t314 then (impl_JnlRead.l0 k x0 x4 x5 ([] : List Int) 19 (wrap64 (x5)) 0 3 x290001) else (some (3, x290001, ([] : List Int))))) else (none)) else (none))))
def impl_JnlRead.l0 : Nat → List Int → List Int → Int → List Int → Int → Int → Int → Int → Int → Option (Int × Int × List Int)
  | 0, _, _, _, _, _, _, _, _, _ => none
  | k + 1, x0, x4, x5, x7, x8, x77, x78, x290000, x290001 => if x78 < x77 then ((impl_get8.f k x4 (wrap64 (16 * x78))).bind fun t317 => (if t317 ≤ x8 then (some (x290000, x290001, ([] : List Int))) else (if t317 ≥ (IntKind.u64.wrap (wrap64 ((x0.length : Int) / 128))) then (some (x290000, x290001, ([] : List Int))) else ((impl_get8.f k x4 (wrap64 ((wrap64 (16 * x78)) + 8))).bind fun t318 => ((impl_sectorOf.f x0 (wrap64 (3 + x78))).bind fun t319 => ((impl_Crc.f k t319).bind fun t322 => (if t318 = t322 then (if x7.length < 17592186044416 then (impl_JnlRead.l0 k x0 x4 x5 (x7 ++ [wrap64 (t317)]) t317 x77 (wrap64 (x78 + 1)) x290000 x290001) else (none)) else (some (x290000, x290001, ([] : List Int)))))))))) else (if 0 ≤ (IntKind.u64.wrap (16 * x5)) then (if (IntKind.u64.wrap (16 * x5)) ≤ (x4.length : Int) then ((impl_zeros.f k (x4.drop ((IntKind.u64.wrap (16 * x5)) : Int).toNat)).bind fun t316 => (if t316 = true then (some (2, x290001, x7)) else (some (x290000, x290001, ([] : List Int))))) else (none)) else (none))
end
def impl_JnlRead.f (k : Nat) (l0 : List Int) : Option (Int × Int × List Int) := (impl_diskOk.f l0).bind fun t290 => (if t290 = true then (impl_JnlRead.j0 k l0 (decide ((l0.length : Int) < 2688)) 0 0) else (impl_JnlRead.j0 k l0 true 0 0))
theorem impl_JnlRead.mono_l : ∀ k, (∀ y0 y1 y2 y3, LeO (impl_JnlRead.j0 k y0 y1 y2 y3) (impl_JnlRead.j0 (k + 1) y0 y1 y2 y3)) ∧ (∀ y0 y1 y2 y3 y4 y5 y6, LeO (impl_JnlRead.j1 k y0 y1 y2 y3 y4 y5 y6) (impl_JnlRead.j1 (k + 1) y0 y1 y2 y3 y4 y5 y6)) ∧ (∀ y0 y1 y2 y3 y4 y5 y6 y7 y8, LeO (impl_JnlRead.l0 k y0 y1 y2 y3 y4 y5 y6 y7 y8) (impl_JnlRead.l0 (k + 1) y0 y1 y2 y3 y4 y5 y6 y7 y8))
  | 0 => ⟨fun _ _ _ _ r h => by simp [impl_JnlRead.j0] at h, fun _ _ _ _ _ _ _ r h => by simp [impl_JnlRead.j1] at h, fun _ _ _ _ _ _ _ _ _ r h => by simp [impl_JnlRead.l0] at h⟩
  | k + 1 => by
    obtain ⟨ih0, ih1, ih2⟩ := impl_JnlRead.mono_l k
    refine ⟨?_, ?_, ?_⟩
    · intro y0 y1 y2 y3
      unfold impl_JnlRead.j0
      repeat' first
      | (with_reducible exact ih0 _ _ _ _)
      | (with_reducible exact ih1 _ _ _ _ _ _ _)
      | (with_reducible exact ih2 _ _ _ _ _ _ _ _ _)
      | (with_reducible exact impl_Crc.mono _ _)
      | (with_reducible exact impl_get8.mono _ _ _)
      | (with_reducible exact impl_jnlHead.mono _ _ _ _)
      | (with_reducible exact impl_put8.mono _ _ _ _)
      | (with_reducible exact impl_zeros.mono _ _)
      | (with_reducible exact LeO.refl _)
      | (with_reducible exact LeO.none _)
      | (with_reducible refine LeO.ite ?_ ?_)
      | (with_reducible refine LeO.bind ?_ (fun _ => ?_))
      | exact ih0 _ _ _ _
      | exact ih1 _ _ _ _ _ _ _
      | exact ih2 _ _ _ _ _ _ _ _ _
      | exact impl_Crc.mono _ _
      | exact impl_get8.mono _ _ _
      | exact impl_jnlHead.mono _ _ _ _
      | exact impl_put8.mono _ _ _ _
      | exact impl_zeros.mono _ _
      | exact LeO.none _
      | refine LeO.ite ?_ ?_
      | refine LeO.bind ?_ (fun _ => ?_)
    · intro y0 y1 y2 y3 y4 y5 y6
      unfold impl_JnlRead.j1
      repeat' first
      | (with_reducible exact ih0 _ _ _ _)
      | (with_reducible exact ih1 _ _ _ _ _ _ _)
      | (with_reducible exact ih2 _ _ _ _ _ _ _ _ _)
      | (with_reducible exact impl_Crc.mono _ _)
      | (with_reducible exact impl_get8.mono _ _ _)
      | (with_reducible exact impl_jnlHead.mono _ _ _ _)
      | (with_reducible exact impl_put8.mono _ _ _ _)
      | (with_reducible exact impl_zeros.mono _ _)
      | (with_reducible exact LeO.refl _)
      | (with_reducible exact LeO.none _)
      | (with_reducible refine LeO.ite ?_ ?_)
      | (with_reducible refine LeO.bind ?_ (fun _ => ?_))
      | exact ih0 _ _ _ _
      | exact ih1 _ _ _ _ _ _ _
      | exact ih2 _ _ _ _ _ _ _ _ _
      | exact impl_Crc.mono _ _
      | exact impl_get8.mono _ _ _
      | exact impl_jnlHead.mono _ _ _ _
      | exact impl_put8.mono _ _ _ _
      | exact impl_zeros.mono _ _
      | exact LeO.none _
      | refine LeO.ite ?_ ?_
      | refine LeO.bind ?_ (fun _ => ?_)
    · intro y0 y1 y2 y3 y4 y5 y6 y7 y8
      unfold impl_JnlRead.l0
      repeat' first
      | (with_reducible exact ih0 _ _ _ _)
      | (with_reducible exact ih1 _ _ _ _ _ _ _)
      | (with_reducible exact ih2 _ _ _ _ _ _ _ _ _)
      | (with_reducible exact impl_Crc.mono _ _)
      | (with_reducible exact impl_get8.mono _ _ _)
      | (with_reducible exact impl_jnlHead.mono _ _ _ _)
      | (with_reducible exact impl_put8.mono _ _ _ _)
      | (with_reducible exact impl_zeros.mono _ _)
      | (with_reducible exact LeO.refl _)
      | (with_reducible exact LeO.none _)
      | (with_reducible refine LeO.ite ?_ ?_)
      | (with_reducible refine LeO.bind ?_ (fun _ => ?_))
      | exact ih0 _ _ _ _
      | exact ih1 _ _ _ _ _ _ _
      | exact ih2 _ _ _ _ _ _ _ _ _
      | exact impl_Crc.mono _ _
      | exact impl_get8.mono _ _ _
      | exact impl_jnlHead.mono _ _ _ _
      | exact impl_put8.mono _ _ _ _
      | exact impl_zeros.mono _ _
      | exact LeO.none _
      | refine LeO.ite ?_ ?_
      | refine LeO.bind ?_ (fun _ => ?_)
theorem impl_JnlRead.mono : ∀ a0 k, LeO (impl_JnlRead.f k a0) (impl_JnlRead.f (k + 1) a0) := by
  intro a0 k
  obtain ⟨ih0, ih1, ih2⟩ := impl_JnlRead.mono_l k
  unfold impl_JnlRead.f
  repeat' first
      | (with_reducible exact ih0 _ _ _ _)
      | (with_reducible exact ih1 _ _ _ _ _ _ _)
      | (with_reducible exact ih2 _ _ _ _ _ _ _ _ _)
      | (with_reducible exact impl_Crc.mono _ _)
      | (with_reducible exact impl_get8.mono _ _ _)
      | (with_reducible exact impl_jnlHead.mono _ _ _ _)
      | (with_reducible exact impl_put8.mono _ _ _ _)
      | (with_reducible exact impl_zeros.mono _ _)
      | (with_reducible exact LeO.refl _)
      | (with_reducible exact LeO.none _)
      | (with_reducible refine LeO.ite ?_ ?_)
      | (with_reducible refine LeO.bind ?_ (fun _ => ?_))
      | exact ih0 _ _ _ _
      | exact ih1 _ _ _ _ _ _ _
      | exact ih2 _ _ _ _ _ _ _ _ _
      | exact impl_Crc.mono _ _
      | exact impl_get8.mono _ _ _
      | exact impl_jnlHead.mono _ _ _ _
      | exact impl_put8.mono _ _ _ _
      | exact impl_zeros.mono _ _
      | exact LeO.none _
      | refine LeO.ite ?_ ?_
      | refine LeO.bind ?_ (fun _ => ?_)
def impl_JnlRead.T20 : Bool × List (List Nat × List Nat) := (true, [([], []), ([0], [0]), ([], []), ([], []), ([3], [3]), ([2, 4], [2, 4]), ([5, 1], [5]), ([1, 6], [1, 6])])
def impl_JnlRead.B20 : List Nat := [0, 1, 0, 0, 8, 28, 63, 127]
theorem impl_JnlRead.tab20 : rtab .any (opsOf Try.f39 20) = impl_JnlRead.T20 := by kernel_rfl
theorem impl_JnlRead.bits20 : waitsOk impl_JnlRead.T20.2 impl_JnlRead.B20 = true := by kernel_rfl
set_option maxHeartbeats 8000000 in
set_option maxRecDepth 100000 in
theorem impl_JnlRead.calls (k : Nat) (A0 : Option Addr) (c0 : Nat) (l0 : List Int) (r1 : Int) (r2 : Int) (r3 : List Int) (w : World) (hr0 : Kd.C (Kd.int .u8) w A0 l0.length l0) (hc0 : l0.length ≤ c0) (h : impl_JnlRead.f k l0 = some (r1, r2, r3)) :
    Calls Try.prog 39 #[.slice A0 l0.length c0] w fun e w' => ∃ v2_ : Value, e = .returned (.agg #[.int .i64 r1, .int .u64 r2, v2_]) ∧ Kd.R (Kd.int .i64) 2 w' w.heap.size (fun _ => True) v2_ r3 ∧ Below w.heap.size w w' := by
  have hu58 := Try.underlying58
  have HR0 := Aside0.mk hr0
  have HC0 := Aside0.mk hc0
  clear hr0 hc0
  have HB := Aside0.mk (Below.refl w.heap.size w)
  have H : ((impl_diskOk.f l0).bind fun t290 => (if t290 = true then (impl_JnlRead.j0 k l0 (decide ((l0.length : Int) < 2688)) 0 0) else (impl_JnlRead.j0 k l0 true 0 0))) = some (r1, r2, r3) := h
  clear h
  have HC2 := Aside0.mk H
  clear H
  go_enter Try.func39, Try.ntmps39
  go_upto_region 1 with (first | ((with_reducible refine gate_dst (N := 2) rfl ?_); (try (refine gate_guard (by rfl) ?_; dsimp only)); refine box_event ?hg (N := 2) ?hd (cs := #[.int .i64 0, .int .u64 0, .slice none 0 0]) (t := 58) ?hr ?_; (case hd => rfl); (case hg => rfl); (case hr => first | (go_simp; done) | (go_simp; rfl)); intro gb289 hg w3 hbox hb; have n0_ := Aside0.mk (below_step (by repeat (first | (with_reducible first | exact HB.out | apply below_alloc | apply pw_below_drewN | apply below_drew1) | exact HB.out)) hb); have n1_ := Aside0.mk (hbox); have n2_ := Aside0.mk ((by rw [hg]; exact (below_size (by repeat (first | (with_reducible first | exact HB.out | apply below_alloc | apply pw_below_drewN | apply below_drew1) | exact HB.out))) : w.heap.size ≤ gb289)); have n3_ := Aside0.mk ((by rw [hg]; exact (below_size (by repeat (first | (with_reducible first | exact HB.out | apply below_alloc | apply pw_below_drewN | apply below_drew1) | exact HB.out))) : w.heap.size ≤ gb289)); clear HB; have HB := n0_; have BK289 := n1_; have GW289 := n2_; have GE289 := n3_; clear n0_ n1_ n2_ n3_; clear hb hbox hg))
  (try simp only [Act.put, List.setIfInBounds_toArray, List.set_cons_zero, List.set_cons_succ])
  go_cut [18] (fun v18 wc => ∃ (kq : Nat) (x18_1 : Bool), v18 = .bool x18_1 ∧ Aside0 (impl_JnlRead.j0 kq l0 x18_1 0 0 = some (r1, r2, r3)) ∧ Aside0 (kq ≤ k) ∧ Aside0 (wc.heap[gb289]? = some (.cells #[.int .i64 0, .int .u64 0, (.slice none 0 0)] 58 (0, 0))) ∧ Aside0 (Below w.heap.size w wc))
  case first =>
    have H := HC2.out
    clear HC2
    replace H := Option.bind_eq_some_iff.mp H
    obtain ⟨t290, A40, H⟩ := H
    replace H : (if t290 = true then (impl_JnlRead.j0 k l0 (decide ((l0.length : Int) < 2688)) 0 0) else (impl_JnlRead.j0 k l0 true 0 0)) = some (r1, r2, r3) := H
    have A4 := Aside0.mk A40
    clear A40
    by_cases c5 : t290 = true
    · subst c5
      have H1 : (impl_JnlRead.j0 k l0 (decide ((l0.length : Int) < 2688)) 0 0) = some (r1, r2, r3) := by rw [if_pos rfl] at H; exact H
      clear H
      have H := H1
      clear H1
      have H' := Aside0.mk H
      clear H
      go_wp2_with (first | ((with_reducible refine gate_callee (f := 54) rfl ?_); refine goesL_ (some 12) rfl rfl Try.func54 (by kernel_rfl) rfl #[.slice A0 l0.length c0] rfl (by (try simp only [List.map_toArray, List.map_cons, List.map_nil]); first | done | rfl | (simp only [List.length_drop, List.length_take]; first | done | rfl)) ?_; (with_reducible refine (impl_diskOk.calls _ _ l0 true _ ?side1 ?side2 A4.out).mono ?_); (case side1 => repeat (first | exact (Kd.C_below HR0.out HB.out) | (with_reducible refine Kd.C_alloc ?_ _) | (with_reducible refine Kd.C_drewN ?_ _) | (with_reducible refine Kd.C_drew ?_))); (case side2 => exact HC0.out); rintro e w' ⟨rfl, ⟨nd, rfl⟩⟩; refine ⟨_, rfl, ?_⟩))
      go_meet
      case rel => exact ⟨_, (decide ((l0.length : Int) < 2688)), (by first | rfl | exact congrArg (Value.int .i64) (i64_w _) | (simp; done) | (simp [*]; done)), H', ⟨by first | omega | exact Nat.le_refl _⟩, ⟨by (with_reducible repeat (first | refine blk_drewN ?_ _ | refine blk_drew ?_ | refine blk_alloc ?_ _)); exact BK289.out⟩, ⟨by repeat (first | (with_reducible first | exact HB.out | apply below_alloc | apply pw_below_drewN | apply below_drew1 | refine below_set ?_ GE289.out) | exact HB.out)⟩⟩
    · replace c5 := Bool.eq_false_iff.mpr c5
      subst c5
      have H1 : (impl_JnlRead.j0 k l0 true 0 0) = some (r1, r2, r3) := by rw [if_neg (show ¬ (false = true) by decide)] at H; exact H
      clear H
      have H := H1
      clear H1
      have H' := Aside0.mk H
      clear H
      go_wp2_with (first | ((with_reducible refine gate_callee (f := 54) rfl ?_); refine goesL_ (some 12) rfl rfl Try.func54 (by kernel_rfl) rfl #[.slice A0 l0.length c0] rfl (by (try simp only [List.map_toArray, List.map_cons, List.map_nil]); first | done | rfl | (simp only [List.length_drop, List.length_take]; first | done | rfl)) ?_; (with_reducible refine (impl_diskOk.calls _ _ l0 false _ ?side1 ?side2 A4.out).mono ?_); (case side1 => repeat (first | exact (Kd.C_below HR0.out HB.out) | (with_reducible refine Kd.C_alloc ?_ _) | (with_reducible refine Kd.C_drewN ?_ _) | (with_reducible refine Kd.C_drew ?_))); (case side2 => exact HC0.out); rintro e w' ⟨rfl, ⟨nd, rfl⟩⟩; refine ⟨_, rfl, ?_⟩))
      go_meet
      case rel => exact ⟨_, (true), (by first | rfl | exact congrArg (Value.int .i64) (i64_w _) | (simp; done) | (simp [*]; done)), H', ⟨by first | omega | exact Nat.le_refl _⟩, ⟨by (with_reducible repeat (first | refine blk_drewN ?_ _ | refine blk_drew ?_ | refine blk_alloc ?_ _)); exact BK289.out⟩, ⟨by repeat (first | (with_reducible first | exact HB.out | apply below_alloc | apply pw_below_drewN | apply below_drew1 | refine below_set ?_ GE289.out) | exact HB.out)⟩⟩
  case rest =>
    clear HC2
    try clear p2
    try clear c3
    try clear c5
    obtain ⟨kq, x18_1, rfl, HA, HJ1, BK289, HB⟩ := hcut
    cases kq with
    | zero => exact absurd HA.out (by simp [impl_JnlRead.j0])
    | succ kj1 =>
      have H := HA.out
      clear HA
      simp only [impl_JnlRead.j0] at H
      by_cases c6 : x18_1 = true
      · subst c6
        have H1 : (some (0, 0, ([] : List Int))) = some (r1, r2, r3) := by rw [if_pos rfl] at H; exact H
        clear H
        have H := H1
        clear H1
        simp only [Option.some.injEq, Prod.mk.injEq] at H
        obtain ⟨rfl, rfl, rfl⟩ := H
        have hcz7_0 : wc.cell? ⟨gb289, 0, none⟩ = some (.int .i64 0) := (blk_cell BK289.out 0).trans rfl
        have hcz7_1 : wc.cell? ⟨gb289, 1, none⟩ = some (.int .u64 0) := (blk_cell BK289.out 1).trans rfl
        have hcz7_2 : wc.cell? ⟨gb289, 2, none⟩ = some (.slice none 0 0) := (blk_cell BK289.out 2).trans rfl
        have hfz7_0 := blk_frozen BK289.out 0
        have hfz7_1 := blk_frozen BK289.out 1
        have hfz7_2 := blk_frozen BK289.out 2
        go_wp2
        refine bodyPost_ret (results_cell_row rfl _ _ gb289 58 #[.int .i64 0, .int .u64 0, .slice none 0 0] (0, 0) _ rfl (by (with_reducible repeat (first | refine blk_drewN ?_ _ | refine blk_drew ?_ | refine blk_alloc ?_ _)); refine blk_put (cs := #[.int .i64 0, .int .u64 0, .slice none 0 0]) ?_ 2 _ rfl; (with_reducible repeat (first | refine blk_drewN ?_ _ | refine blk_drew ?_ | refine blk_alloc ?_ _)); refine blk_put (cs := #[.int .i64 0, .int .u64 0, .slice none 0 0]) ?_ 1 _ rfl; (with_reducible repeat (first | refine blk_drewN ?_ _ | refine blk_drew ?_ | refine blk_alloc ?_ _)); refine blk_put (cs := #[.int .i64 0, .int .u64 0, .slice none 0 0]) ?_ 0 _ rfl; (with_reducible repeat (first | refine blk_drewN ?_ _ | refine blk_drew ?_ | refine blk_alloc ?_ _)); exact BK289.out) Try.underlying58 rfl (by kernel_rfl)) rfl ?_
        exact ⟨_, by first | rfl | (simp [errW_none, errW_some] <;> rfl) | (simp [*, errW_none, errW_some] <;> rfl), by first | exact Kd.R_nil _ _ _ _ _ | exact Kd.N_nil _ _ _ _ _ | exact Kd.V_nil _ _ _ _ _ | exact Kd.Q_nil _ _ _ _ _ | exact Kd.S_nil _ _ _ _ _, by repeat (first | (with_reducible first | exact HB.out | apply below_alloc | apply pw_below_drewN | apply below_drew1 | refine below_set ?_ GE289.out) | exact HB.out)⟩
      · replace c6 := Bool.eq_false_iff.mpr c6
        subst c6
        have H1 : (if 128 ≤ (l0.length : Int) then (if 128 ≤ 384 then (if 384 ≤ (l0.length : Int) then ((impl_get8.f kj1 (l0.take 128) 24).bind fun t293 => (if t293 > 16 then (some (4, 0, ([] : List Int))) else ((impl_get8.f kj1 (l0.take 128) 16).bind fun t294 => ((impl_jnlHead.f kj1 t294 ((l0.take 384).drop 128) (wrap64 (t293))).bind fun t295 => (if 32 ≤ 40 then (if 40 ≤ (t295.length : Int) then (if 40 ≤ ((l0.take 128).length : Int) then ((copyC.f t295 32 40 (((l0.take 128).take 40).drop 32)).bind fun t303 => ((impl_Crc.f kj1 (t303.take 40)).bind fun t308 => ((impl_put8.f kj1 t303 40 t308).bind fun t309 => (if (strOfNums t309).toList = (strOfNums (l0.take 128)).toList then ((impl_get8.f kj1 (l0.take 128) 16).bind fun t310 => (if t293 = 0 then ((impl_get8.f kj1 (l0.take 128) 32).bind fun t311 => (impl_JnlRead.j1 kj1 l0 (l0.take 128) ((l0.take 384).drop 128) t293 (t311 != 0) 0 t310)) else (impl_JnlRead.j1 kj1 l0 (l0.take 128) ((l0.take 384).drop 128) t293 false 0 t310))) else (some (4, 0, ([] : List Int))))))) else (none)) else (none)) else (none)))))) else (none)) else (none)) else (none)) = some (r1, r2, r3) := by rw [if_neg (show ¬ (false = true) by decide)] at H; exact H
        clear H
        have H := H1
        clear H1
        by_cases c8 : 128 ≤ (l0.length : Int)
        · rw [if_pos c8] at H
          have c8b0 := eq_true c8
          have c8b1 : decide (128 ≤ (l0.length : Int)) = true := decide_eq_true c8
          clear c8
          by_cases c9 : 128 ≤ 384
          · rw [if_pos c9] at H
            have c9b0 := eq_true c9
            have c9b1 : decide (128 ≤ 384) = true := decide_eq_true c9
            clear c9
            by_cases c10 : 384 ≤ (l0.length : Int)
            · rw [if_pos c10] at H
              have c10b0 := eq_true c10
              have c10b1 : decide (384 ≤ (l0.length : Int)) = true := decide_eq_true c10
              clear c10
              replace H := Option.bind_eq_some_iff.mp H
              obtain ⟨t293, A110, H⟩ := H
              replace H : (if t293 > 16 then (some (4, 0, ([] : List Int))) else ((impl_get8.f kj1 (l0.take 128) 16).bind fun t294 => ((impl_jnlHead.f kj1 t294 ((l0.take 384).drop 128) (wrap64 (t293))).bind fun t295 => (if 32 ≤ 40 then (if 40 ≤ (t295.length : Int) then (if 40 ≤ ((l0.take 128).length : Int) then ((copyC.f t295 32 40 (((l0.take 128).take 40).drop 32)).bind fun t303 => ((impl_Crc.f kj1 (t303.take 40)).bind fun t308 => ((impl_put8.f kj1 t303 40 t308).bind fun t309 => (if (strOfNums t309).toList = (strOfNums (l0.take 128)).toList then ((impl_get8.f kj1 (l0.take 128) 16).bind fun t310 => (if t293 = 0 then ((impl_get8.f kj1 (l0.take 128) 32).bind fun t311 => (impl_JnlRead.j1 kj1 l0 (l0.take 128) ((l0.take 384).drop 128) t293 (t311 != 0) 0 t310)) else (impl_JnlRead.j1 kj1 l0 (l0.take 128) ((l0.take 384).drop 128) t293 false 0 t310))) else (some (4, 0, ([] : List Int))))))) else (none)) else (none)) else (none))))) = some (r1, r2, r3) := H
              have A11 := Aside0.mk A110
              clear A110
              by_cases c12 : t293 > 16
              · rw [if_pos c12] at H
                have c12b0 : decide (16 < t293) = true := decide_eq_true c12
                clear c12
                simp only [Option.some.injEq, Prod.mk.injEq] at H
                obtain ⟨rfl, rfl, rfl⟩ := H
                obtain ⟨i013, hi013, _, hsz13, _⟩ := info_parts info5
                obtain ⟨hcut13, hA13, hC13⟩ := print_take_of (P := Try.prog) (Value.int .u8) 0 22 5 .i64 Try.underlying22 hi013 hsz13 A0 c0 l0 128 (by omega) (of_decide_eq_true (by first | (with_reducible assumption) | assumption)) HC0.out
                have HR291 := Aside0.mk (Kd.C_of_reads (h1 := fun _ => rfl) (hA13 _ (Kd.reads_of_C HR0.out)))
                have HC291 := Aside0.mk hC13
                clear hA13 hC13 hi013 hsz13
                obtain ⟨i014, hi014, _, hsz14, _⟩ := info_parts info5
                obtain ⟨A14, hcut14, hA14, hC14⟩ := print_mid_of (P := Try.prog) (Value.int .u8) 0 22 5 .i64 .i64 Try.underlying22 hi014 hsz14 A0 c0 l0 128 384 (by omega) (by first | omega | exact of_decide_eq_true (by first | (with_reducible assumption) | assumption)) (of_decide_eq_true (by first | (with_reducible assumption) | assumption)) HC0.out
                have HR292 := Aside0.mk (Kd.C_of_reads (h1 := fun _ => rfl) (hA14 _ (Kd.reads_of_C HR0.out)))
                have HC292 := Aside0.mk hC14
                clear hA14 hC14 hi014 hsz14
                go_wp2_with (first | ((with_reducible refine gate_callee (f := 75) rfl ?_); refine goesL_ (some 25) rfl rfl Try.func75 (by kernel_rfl) rfl #[.slice A0 (l0.take 128).length c0, .int .i64 24] rfl (by (try simp only [List.map_toArray, List.map_cons, List.map_nil]); first | done | (rw [show (l0.take 128).length = 128 from (by rw [List.length_take]; have h_ : (128 : Int) ≤ (l0.length : Int) := of_decide_eq_true (by first | (with_reducible assumption) | assumption); omega)] <;> rfl) | rfl | (simp only [List.length_drop, List.length_take]; first | done | rfl)) ?_; (with_reducible refine (impl_get8.calls kj1 _ _ (l0.take 128) 24 t293 _ ?side1 ?side2 A11.out).mono ?_); (case side1 => repeat (first | exact (Kd.C_below HR291.out HB.out) | (with_reducible refine Kd.C_alloc ?_ _) | (with_reducible refine Kd.C_drewN ?_ _) | (with_reducible refine Kd.C_drew ?_))); (case side2 => exact HC291.out); rintro e w' ⟨rfl, ⟨nd, rfl⟩⟩; refine ⟨_, rfl, ?_⟩; (try (rw [drewN_self wc]; generalize hq_ : World.drewN wc _ = wc; have n0_ : Aside0 (wc.heap[gb289]? = some (.cells #[.int .i64 0, .int .u64 0, .slice none 0 0] 58 (0, 0))) := ⟨by rw [← hq_]; exact (by (with_reducible repeat (first | refine blk_drewN ?_ _ | refine blk_drew ?_ | refine blk_alloc ?_ _)); exact BK289.out)⟩; have n1_ : Aside0 (Below w.heap.size w wc) := ⟨by rw [← hq_]; exact (by repeat (first | (with_reducible first | exact HB.out | apply below_alloc | apply pw_below_drewN | apply below_drew1 | refine below_set ?_ GE289.out) | exact HB.out))⟩; clear BK289 HB hq_; have BK289 := n0_; have HB := n1_; clear n0_ n1_)); have hcz15_0 : wc.cell? ⟨gb289, 0, none⟩ = some (.int .i64 0) := (blk_cell BK289.out 0).trans rfl; have hcz15_1 : wc.cell? ⟨gb289, 1, none⟩ = some (.int .u64 0) := (blk_cell BK289.out 1).trans rfl; have hcz15_2 : wc.cell? ⟨gb289, 2, none⟩ = some (.slice none 0 0) := (blk_cell BK289.out 2).trans rfl; have hfz15_0 := blk_frozen BK289.out 0; have hfz15_1 := blk_frozen BK289.out 1; have hfz15_2 := blk_frozen BK289.out 2))
                refine bodyPost_ret (results_cell_row rfl _ _ gb289 58 #[.int .i64 4, .int .u64 0, .slice none 0 0] (0, 0) _ rfl (by (with_reducible repeat (first | refine blk_drewN ?_ _ | refine blk_drew ?_ | refine blk_alloc ?_ _)); refine blk_put (cs := #[.int .i64 4, .int .u64 0, .slice none 0 0]) ?_ 2 _ rfl; (with_reducible repeat (first | refine blk_drewN ?_ _ | refine blk_drew ?_ | refine blk_alloc ?_ _)); refine blk_put (cs := #[.int .i64 4, .int .u64 0, .slice none 0 0]) ?_ 1 _ rfl; (with_reducible repeat (first | refine blk_drewN ?_ _ | refine blk_drew ?_ | refine blk_alloc ?_ _)); refine blk_put (cs := #[.int .i64 0, .int .u64 0, .slice none 0 0]) ?_ 0 _ rfl; (with_reducible repeat (first | refine blk_drewN ?_ _ | refine blk_drew ?_ | refine blk_alloc ?_ _)); exact BK289.out) Try.underlying58 rfl (by kernel_rfl)) rfl ?_
                exact ⟨_, by first | rfl | (simp [errW_none, errW_some] <;> rfl) | (simp [*, errW_none, errW_some] <;> rfl), by first | exact Kd.R_nil _ _ _ _ _ | exact Kd.N_nil _ _ _ _ _ | exact Kd.V_nil _ _ _ _ _ | exact Kd.Q_nil _ _ _ _ _ | exact Kd.S_nil _ _ _ _ _, by repeat (first | (with_reducible first | exact HB.out | apply below_alloc | apply pw_below_drewN | apply below_drew1 | refine below_set ?_ GE289.out) | exact HB.out)⟩
              · rw [if_neg c12] at H
                have c12b0 : decide (16 < t293) = false := decide_eq_false c12
                clear c12
                replace H := Option.bind_eq_some_iff.mp H
                obtain ⟨t294, A160, H⟩ := H
                replace H : ((impl_jnlHead.f kj1 t294 ((l0.take 384).drop 128) (wrap64 (t293))).bind fun t295 => (if 32 ≤ 40 then (if 40 ≤ (t295.length : Int) then (if 40 ≤ ((l0.take 128).length : Int) then ((copyC.f t295 32 40 (((l0.take 128).take 40).drop 32)).bind fun t303 => ((impl_Crc.f kj1 (t303.take 40)).bind fun t308 => ((impl_put8.f kj1 t303 40 t308).bind fun t309 => (if (strOfNums t309).toList = (strOfNums (l0.take 128)).toList then ((impl_get8.f kj1 (l0.take 128) 16).bind fun t310 => (if t293 = 0 then ((impl_get8.f kj1 (l0.take 128) 32).bind fun t311 => (impl_JnlRead.j1 kj1 l0 (l0.take 128) ((l0.take 384).drop 128) t293 (t311 != 0) 0 t310)) else (impl_JnlRead.j1 kj1 l0 (l0.take 128) ((l0.take 384).drop 128) t293 false 0 t310))) else (some (4, 0, ([] : List Int))))))) else (none)) else (none)) else (none))) = some (r1, r2, r3) := H
                have A16 := Aside0.mk A160
                clear A160
                replace H := Option.bind_eq_some_iff.mp H
                obtain ⟨t295, A170, H⟩ := H
                replace H : (if 32 ≤ 40 then (if 40 ≤ (t295.length : Int) then (if 40 ≤ ((l0.take 128).length : Int) then ((copyC.f t295 32 40 (((l0.take 128).take 40).drop 32)).bind fun t303 => ((impl_Crc.f kj1 (t303.take 40)).bind fun t308 => ((impl_put8.f kj1 t303 40 t308).bind fun t309 => (if (strOfNums t309).toList = (strOfNums (l0.take 128)).toList then ((impl_get8.f kj1 (l0.take 128) 16).bind fun t310 => (if t293 = 0 then ((impl_get8.f kj1 (l0.take 128) 32).bind fun t311 => (impl_JnlRead.j1 kj1 l0 (l0.take 128) ((l0.take 384).drop 128) t293 (t311 != 0) 0 t310)) else (impl_JnlRead.j1 kj1 l0 (l0.take 128) ((l0.take 384).drop 128) t293 false 0 t310))) else (some (4, 0, ([] : List Int))))))) else (none)) else (none)) else (none)) = some (r1, r2, r3) := H
                have A17 := Aside0.mk A170
                clear A170
                by_cases c18 : 32 ≤ 40
                · rw [if_pos c18] at H
                  have c18b0 := eq_true c18
                  have c18b1 : decide (32 ≤ 40) = true := decide_eq_true c18
                  clear c18
                  by_cases c19 : 40 ≤ (t295.length : Int)
                  · rw [if_pos c19] at H
                    have c19b0 := eq_true c19
                    have c19b1 : decide (40 ≤ (t295.length : Int)) = true := decide_eq_true c19
                    clear c19
                    obtain ⟨y298, hy298⟩ : ∃ y_ : List Int, y_ = ((t295.take 40).drop 32) := ⟨_, rfl⟩
                    replace H : (if 40 ≤ ((l0.take 128).length : Int) then ((copyC.f t295 32 40 (((l0.take 128).take 40).drop 32)).bind fun t303 => ((impl_Crc.f kj1 (t303.take 40)).bind fun t308 => ((impl_put8.f kj1 t303 40 t308).bind fun t309 => (if (strOfNums t309).toList = (strOfNums (l0.take 128)).toList then ((impl_get8.f kj1 (l0.take 128) 16).bind fun t310 => (if t293 = 0 then ((impl_get8.f kj1 (l0.take 128) 32).bind fun t311 => (impl_JnlRead.j1 kj1 l0 (l0.take 128) ((l0.take 384).drop 128) t293 (t311 != 0) 0 t310)) else (impl_JnlRead.j1 kj1 l0 (l0.take 128) ((l0.take 384).drop 128) t293 false 0 t310))) else (some (4, 0, ([] : List Int))))))) else (none)) = some (r1, r2, r3) := by first | (rw [hy298]; with_reducible exact H) | (have H2_ := (Option.bind_some _ _).symm.trans H; rw [hy298]; with_reducible exact H2_) | (have H2_ := (Option.bind_some _ _).symm.trans H; with_reducible exact H2_) | with_reducible exact H | (rw [hy298]; exact H) | exact H
                    have Ny298 := Aside0.mk hy298
                    clear hy298
                    have c20b0 := eq_true (of_decide_eq_true (by first | (with_reducible assumption) | assumption) : 32 ≤ 40)
                    by_cases c21 : 40 ≤ ((l0.take 128).length : Int)
                    · rw [if_pos c21] at H
                      have c21b0 := eq_true c21
                      have c21b1 : decide (40 ≤ ((l0.take 128).length : Int)) = true := decide_eq_true c21
                      clear c21
                      replace H := Option.bind_eq_some_iff.mp H
                      obtain ⟨t303, A220, H⟩ := H
                      replace H : ((impl_Crc.f kj1 (t303.take 40)).bind fun t308 => ((impl_put8.f kj1 t303 40 t308).bind fun t309 => (if (strOfNums t309).toList = (strOfNums (l0.take 128)).toList then ((impl_get8.f kj1 (l0.take 128) 16).bind fun t310 => (if t293 = 0 then ((impl_get8.f kj1 (l0.take 128) 32).bind fun t311 => (impl_JnlRead.j1 kj1 l0 (l0.take 128) ((l0.take 384).drop 128) t293 (t311 != 0) 0 t310)) else (impl_JnlRead.j1 kj1 l0 (l0.take 128) ((l0.take 384).drop 128) t293 false 0 t310))) else (some (4, 0, ([] : List Int)))))) = some (r1, r2, r3) := H
                      have A22 := Aside0.mk A220
                      clear A220
                      have c23b0 := eq_true (of_decide_eq_true (by first | (with_reducible assumption) | assumption) : 40 ≤ (t295.length : Int))
                      obtain ⟨y304, hy304⟩ : ∃ y_ : List Int, y_ = (t303.take 40) := ⟨_, rfl⟩
                      replace H : ((impl_Crc.f kj1 y304).bind fun t308 => ((impl_put8.f kj1 t303 40 t308).bind fun t309 => (if (strOfNums t309).toList = (strOfNums (l0.take 128)).toList then ((impl_get8.f kj1 (l0.take 128) 16).bind fun t310 => (if t293 = 0 then ((impl_get8.f kj1 (l0.take 128) 32).bind fun t311 => (impl_JnlRead.j1 kj1 l0 (l0.take 128) ((l0.take 384).drop 128) t293 (t311 != 0) 0 t310)) else (impl_JnlRead.j1 kj1 l0 (l0.take 128) ((l0.take 384).drop 128) t293 false 0 t310))) else (some (4, 0, ([] : List Int)))))) = some (r1, r2, r3) := by first | (rw [hy304]; with_reducible exact H) | (have H2_ := (Option.bind_some _ _).symm.trans H; rw [hy304]; with_reducible exact H2_) | (have H2_ := (Option.bind_some _ _).symm.trans H; with_reducible exact H2_) | with_reducible exact H | (rw [hy304]; exact H) | exact H
                      have Ny304 := Aside0.mk hy304
                      clear hy304
                      replace H := Option.bind_eq_some_iff.mp H
                      obtain ⟨t308, A240, H⟩ := H
                      replace H : ((impl_put8.f kj1 t303 40 t308).bind fun t309 => (if (strOfNums t309).toList = (strOfNums (l0.take 128)).toList then ((impl_get8.f kj1 (l0.take 128) 16).bind fun t310 => (if t293 = 0 then ((impl_get8.f kj1 (l0.take 128) 32).bind fun t311 => (impl_JnlRead.j1 kj1 l0 (l0.take 128) ((l0.take 384).drop 128) t293 (t311 != 0) 0 t310)) else (impl_JnlRead.j1 kj1 l0 (l0.take 128) ((l0.take 384).drop 128) t293 false 0 t310))) else (some (4, 0, ([] : List Int))))) = some (r1, r2, r3) := H
                      have A24 := Aside0.mk A240
                      clear A240
                      replace H := Option.bind_eq_some_iff.mp H
                      obtain ⟨t309, A250, H⟩ := H
                      replace H : (if (strOfNums t309).toList = (strOfNums (l0.take 128)).toList then ((impl_get8.f kj1 (l0.take 128) 16).bind fun t310 => (if t293 = 0 then ((impl_get8.f kj1 (l0.take 128) 32).bind fun t311 => (impl_JnlRead.j1 kj1 l0 (l0.take 128) ((l0.take 384).drop 128) t293 (t311 != 0) 0 t310)) else (impl_JnlRead.j1 kj1 l0 (l0.take 128) ((l0.take 384).drop 128) t293 false 0 t310))) else (some (4, 0, ([] : List Int)))) = some (r1, r2, r3) := H
                      have A25 := Aside0.mk A250
                      clear A250
                      by_cases c26 : (strOfNums t309).toList = (strOfNums (l0.take 128)).toList
                      · rw [if_pos c26] at H
                        have c26b0 : ((strOfNums t309).toList == (strOfNums (l0.take 128)).toList) = true := beq_iff_eq.mpr c26
                        have c26b1 : ((strOfNums t309).toList != (strOfNums (l0.take 128)).toList) = false := bne_eq_false_iff_eq.mpr c26
                        clear c26
                        replace H := Option.bind_eq_some_iff.mp H
                        obtain ⟨t310, A270, H⟩ := H
                        replace H : (if t293 = 0 then ((impl_get8.f kj1 (l0.take 128) 32).bind fun t311 => (impl_JnlRead.j1 kj1 l0 (l0.take 128) ((l0.take 384).drop 128) t293 (t311 != 0) 0 t310)) else (impl_JnlRead.j1 kj1 l0 (l0.take 128) ((l0.take 384).drop 128) t293 false 0 t310)) = some (r1, r2, r3) := H
                        have A27 := Aside0.mk A270
                        clear A270
                        have HC28 := Aside0.mk H
                        clear H
                        obtain ⟨i029, hi029, _, hsz29, _⟩ := info_parts info5
                        obtain ⟨hcut29, hA29, hC29⟩ := print_take_of (P := Try.prog) (Value.int .u8) 0 22 5 .i64 Try.underlying22 hi029 hsz29 A0 c0 l0 128 (by omega) (of_decide_eq_true (by first | (with_reducible assumption) | assumption)) HC0.out
                        have HR291 := Aside0.mk (Kd.C_of_reads (h1 := fun _ => rfl) (hA29 _ (Kd.reads_of_C HR0.out)))
                        have HC291 := Aside0.mk hC29
                        clear hA29 hC29 hi029 hsz29
                        obtain ⟨i030, hi030, _, hsz30, _⟩ := info_parts info5
                        obtain ⟨A30, hcut30, hA30, hC30⟩ := print_mid_of (P := Try.prog) (Value.int .u8) 0 22 5 .i64 .i64 Try.underlying22 hi030 hsz30 A0 c0 l0 128 384 (by omega) (by first | omega | exact of_decide_eq_true (by first | (with_reducible assumption) | assumption)) (of_decide_eq_true (by first | (with_reducible assumption) | assumption)) HC0.out
                        have HR292 := Aside0.mk (Kd.C_of_reads (h1 := fun _ => rfl) (hA30 _ (Kd.reads_of_C HR0.out)))
                        have HC292 := Aside0.mk hC30
                        clear hA30 hC30 hi030 hsz30
                        try go_wp2_with (first | ((with_reducible refine gate_callee (f := 75) rfl ?_); refine goesL_ (some 25) rfl rfl Try.func75 (by kernel_rfl) rfl #[.slice A0 (l0.take 128).length c0, .int .i64 24] rfl (by (try simp only [List.map_toArray, List.map_cons, List.map_nil]); first | done | (rw [show (l0.take 128).length = 128 from (by rw [List.length_take]; have h_ : (128 : Int) ≤ (l0.length : Int) := of_decide_eq_true (by first | (with_reducible assumption) | assumption); omega)] <;> rfl) | rfl | (simp only [List.length_drop, List.length_take]; first | done | rfl)) ?_; (with_reducible refine (impl_get8.calls kj1 _ _ (l0.take 128) 24 t293 _ ?side1 ?side2 A11.out).mono ?_); (case side1 => repeat (first | exact (Kd.C_below HR291.out HB.out) | (with_reducible refine Kd.C_alloc ?_ _) | (with_reducible refine Kd.C_drewN ?_ _) | (with_reducible refine Kd.C_drew ?_))); (case side2 => exact HC291.out); rintro e w' ⟨rfl, ⟨nd, rfl⟩⟩; refine ⟨_, rfl, ?_⟩; (try (rw [drewN_self wc]; generalize hq_ : World.drewN wc _ = wc; have n0_ : Aside0 (wc.heap[gb289]? = some (.cells #[.int .i64 0, .int .u64 0, .slice none 0 0] 58 (0, 0))) := ⟨by rw [← hq_]; exact (by (with_reducible repeat (first | refine blk_drewN ?_ _ | refine blk_drew ?_ | refine blk_alloc ?_ _)); exact BK289.out)⟩; have n1_ : Aside0 (Below w.heap.size w wc) := ⟨by rw [← hq_]; exact (by repeat (first | (with_reducible first | exact HB.out | apply below_alloc | apply pw_below_drewN | apply below_drew1 | refine below_set ?_ GE289.out) | exact HB.out))⟩; clear BK289 HB hq_; have BK289 := n0_; have HB := n1_; clear n0_ n1_))) | ((with_reducible refine gate_callee (f := 75) rfl ?_); refine goesL_ (some 30) rfl rfl Try.func75 (by kernel_rfl) rfl #[.slice A0 (l0.take 128).length c0, .int .i64 16] rfl (by (try simp only [List.map_toArray, List.map_cons, List.map_nil]); first | done | (rw [show (l0.take 128).length = 128 from (by rw [List.length_take]; have h_ : (128 : Int) ≤ (l0.length : Int) := of_decide_eq_true (by first | (with_reducible assumption) | assumption); omega)] <;> rfl) | rfl | (simp only [List.length_drop, List.length_take]; first | done | rfl)) ?_; (with_reducible refine (impl_get8.calls kj1 _ _ (l0.take 128) 16 t294 _ ?side1 ?side2 A16.out).mono ?_); (case side1 => repeat (first | exact (Kd.C_below HR291.out HB.out) | (with_reducible refine Kd.C_alloc ?_ _) | (with_reducible refine Kd.C_drewN ?_ _) | (with_reducible refine Kd.C_drew ?_))); (case side2 => exact HC291.out); rintro e w' ⟨rfl, ⟨nd, rfl⟩⟩; refine ⟨_, rfl, ?_⟩; (try (rw [drewN_self wc]; generalize hq_ : World.drewN wc _ = wc; have n0_ : Aside0 (wc.heap[gb289]? = some (.cells #[.int .i64 0, .int .u64 0, .slice none 0 0] 58 (0, 0))) := ⟨by rw [← hq_]; exact (by (with_reducible repeat (first | refine blk_drewN ?_ _ | refine blk_drew ?_ | refine blk_alloc ?_ _)); exact BK289.out)⟩; have n1_ : Aside0 (Below w.heap.size w wc) := ⟨by rw [← hq_]; exact (by repeat (first | (with_reducible first | exact HB.out | apply below_alloc | apply pw_below_drewN | apply below_drew1 | refine below_set ?_ GE289.out) | exact HB.out))⟩; clear BK289 HB hq_; have BK289 := n0_; have HB := n1_; clear n0_ n1_))) | ((with_reducible refine gate_callee (f := 71) rfl ?_); refine goesL_ (some 34) rfl rfl Try.func71 (by kernel_rfl) rfl #[.int .u64 t294, .slice A30 ((l0.take 384).drop 128).length (c0 - 128), .int .i64 (wrap64 (t293))] rfl (by (try simp only [List.map_toArray, List.map_cons, List.map_nil]); first | done | (rw [show ((l0.take 384).drop 128).length = (384 - 128) from (by rw [List.length_drop, List.length_take]; have h_ : (384 : Int) ≤ (l0.length : Int) := of_decide_eq_true (by first | (with_reducible assumption) | assumption); omega)] <;> rfl) | rfl | (simp only [List.length_drop, List.length_take]; first | done | rfl)) ?_; (with_reducible refine (impl_jnlHead.calls kj1 t294 _ _ ((l0.take 384).drop 128) (wrap64 (t293)) t295 _ ?side1 ?side2 A17.out).mono ?_); (case side1 => repeat (first | exact (Kd.C_below HR292.out HB.out) | (with_reducible refine Kd.C_alloc ?_ _) | (with_reducible refine Kd.C_drewN ?_ _) | (with_reducible refine Kd.C_drew ?_))); (case side2 => exact HC292.out); rintro e w31 ⟨v296, rfl, ho0, hb⟩; refine ⟨_, rfl, ?_⟩; have n0_ := Aside0.mk (Kd.R_lower ho0 (below_size (by repeat (first | (with_reducible first | exact HB.out | apply below_alloc | apply pw_below_drewN | apply below_drew1 | refine below_set ?_ GE289.out) | exact HB.out)))); have n1_ := Aside0.mk (blk_below (g := gb289) (o := .cells #[.int .i64 0, .int .u64 0, .slice none 0 0] 58 (0, 0)) (by (with_reducible repeat (first | refine blk_drewN ?_ _ | refine blk_drew ?_ | refine blk_alloc ?_ _)); exact BK289.out) hb); have n2_ := Aside0.mk (below_step (by repeat (first | (with_reducible first | exact HB.out | apply below_alloc | apply pw_below_drewN | apply below_drew1 | refine below_set ?_ GE289.out) | exact HB.out)) hb); clear BK289; clear HB; have HO297 := n0_; have BK289 := n1_; have HB := n2_; clear n0_ n1_ n2_; (try clear hb); (try clear hb2); (try clear hk); (try clear hi); (try clear ho0)))
                        have n0_ := Aside0.mk (Kd.R_drew HO297.out)
                        have n1_ := Aside0.mk (blk_drew BK289.out)
                        have n2_ := Aside0.mk (below_drew1 HB.out)
                        clear HO297
                        clear BK289
                        clear HB
                        have HO297 := n0_
                        have BK289 := n1_
                        have HB := n2_
                        clear n0_ n1_ n2_
                        obtain ⟨Ao34, co34, eo34⟩ := Kd.R_slice HO297.out
                        (first | subst eo34 | (injection eo34 with f1_ f2_ f3_; have f4_ := f1_.symm; have f5_ := f3_.symm; clear f1_ f2_ f3_; subst f4_; subst f5_))
                        have q33 : (40 : Int) ≤ ((t295.length : Int) : Int) := of_decide_eq_true (by first | (with_reducible assumption) | assumption)
                        obtain ⟨i033, hi033, _, hsz33, _⟩ := info_parts info5
                        have hroom33 : t295.length ≤ co34 := (Kd.R_reads' HO297.out).2.1
                        have hC33 : Kd.C (Kd.int .u8) _ Ao34 t295.length t295 := (Kd.R_reads' HO297.out).2.2
                        have ql33 : (32 : Int) ≤ (40 : Int) := (by omega)
                        have hcut33 := cut_mid (P := Try.prog) 22 5 .i64 .i64 Try.underlying22 hi033 1 hsz33 Ao34 t295.length co34 32 40 (by omega) ql33 q33 hroom33
                        have hr33 := Kd.C_mid (lo := (32 : Int).toNat) (hi := (40 : Int).toNat) (c := co34) hC33 (by omega) (by omega) hroom33
                        obtain ⟨A33, hA33⟩ : ∃ A1, A1 = (if co34 = (32 : Int).toNat then Ao34 else (Ao34 : Option Addr).map (·.add ((32 : Int).toNat * 1))) := ⟨_, rfl⟩
                        obtain ⟨c33, hc33⟩ : ∃ c1, c1 = co34 - (32 : Int).toNat := ⟨_, rfl⟩
                        have hy33 : y298.length = (40 : Int).toNat - (32 : Int).toNat := (by rw [Ny298.out, List.length_drop, List.length_take] <;> omega)
                        rw [show ((t295).take (40 : Int).toNat).drop (32 : Int).toNat = y298 from Ny298.out.symm] at hr33
                        replace hr33 : Kd.C (Kd.int .u8) _ A33 y298.length y298 := (by rw [hA33]; exact hr33)
                        rw [← hy33, ← hA33, ← hc33] at hcut33
                        have HR301 := Aside0.mk hr33
                        have HC301 := Aside0.mk (show y298.length ≤ c33 from by rw [hy33, hc33]; exact Nat.sub_le_sub_right (Nat.le_trans (by omega) hroom33) _)
                        clear hr33 hC33 hroom33 hi033 hsz33 hc33
                        have KY33 := Aside0.mk hy33
                        have KA33 := Aside0.mk hA33
                        clear hy33 hA33
                        have KL33 := Aside0.mk (show 40 ≤ t295.length from by omega)
                        have KM33 := Aside0.mk (show 32 ≤ 40 from by omega)
                        replace q33 := eq_true q33
                        obtain ⟨i035, hi035, _, hsz35, _⟩ := info_parts info5
                        obtain ⟨A35, hcut35, hA35, hC35⟩ := print_mid_of (P := Try.prog) (Value.int .u8) 0 22 5 .i64 .i64 Try.underlying22 hi035 hsz35 A0 c0 (l0.take 128) 32 40 (by omega) (by first | omega | exact of_decide_eq_true (by first | (with_reducible assumption) | assumption)) (of_decide_eq_true (by first | (with_reducible assumption) | assumption)) HC291.out
                        have HR302 := Aside0.mk (Kd.C_of_reads (h1 := fun _ => rfl) (hA35 _ (Kd.reads_of_C HR291.out)))
                        have HC302 := Aside0.mk hC35
                        clear hA35 hC35 hi035 hsz35
                        try simp only [List.length_take, List.length_drop, Int.reduceToNat] at hcut35
                        refine start_ (n := 5) (S := fun w' => True) (ds := []) #[false, false, false, false, false] (by kernel_rfl) rfl rfl trivial (fun hHeld => ?_)
                        generalize w31.drew = w32 at HO297 BK289 HB HR301 HR302 hHeld ⊢
                        refine pure_ (i := 0) (N := some 35) (v := ?_) (a' := ?_) #[true, false, false, false, false] rfl rfl (by kernel_rfl) (fun _ _ _ h => h) (Or.inl ⟨by rfl, ?_⟩) ?_ ?_
                        rotate_left
                        · intro w'
                          go_simp
                          with_reducible rfl
                        rotate_left
                        · simp only [Act.put, List.setIfInBounds_toArray, List.set_cons_zero, List.set_cons_succ, i64_w, i32_w]
                          rfl
                        refine pure_ (i := 1) (N := some 36) (v := ?_) (a' := ?_) #[true, true, false, false, false] rfl rfl (by kernel_rfl) (fun _ _ _ h => h) (Or.inl ⟨by rfl, ?_⟩) ?_ ?_
                        rotate_left
                        · intro w'
                          go_simp
                          with_reducible rfl
                        rotate_left
                        · simp only [Act.put, List.setIfInBounds_toArray, List.set_cons_zero, List.set_cons_succ, i64_w, i32_w]
                          rfl
                        refine pure_ (i := 2) (N := some 37) (v := ?_) (a' := ?_) #[true, true, true, false, false] rfl rfl (by kernel_rfl) (fun _ _ _ h => h) (Or.inl ⟨by rfl, ?_⟩) ?_ ?_
                        rotate_left
                        · intro w'
                          go_simp
                          with_reducible rfl
                        rotate_left
                        · simp only [Act.put, List.setIfInBounds_toArray, List.set_cons_zero, List.set_cons_succ, i64_w, i32_w]
                          rfl
                        refine pure_ (i := 3) (N := some 38) (v := ?_) (a' := ?_) #[true, true, true, true, false] rfl rfl (by kernel_rfl) (fun _ _ _ h => h) (Or.inl ⟨by rfl, ?_⟩) ?_ ?_
                        rotate_left
                        · intro w'
                          go_simp
                          with_reducible rfl
                        rotate_left
                        · simp only [Act.put, List.setIfInBounds_toArray, List.set_cons_zero, List.set_cons_succ, i64_w, i32_w]
                          rfl
                        refine one_ (i := 4) (N := some 39) #[true, true, true, true, true] rfl rfl (by kernel_rfl) (by decide) (fun K hK => ?_)
                        refine goesBr_ #[.slice A33 y298.length c33, .slice A35 (((l0.take 128).take 40).drop 32).length (c0 - 32)] (by rfl) rfl rfl (by (try simp only [List.map_toArray, List.map_cons, List.map_nil]); first | done | (rw [show (((l0.take 128).take 40).drop 32).length = (40 - 32) from (by rw [List.length_drop, List.length_take]; have h_ : (40 : Int) ≤ ((l0.take 128).length : Int) := of_decide_eq_true (by first | (with_reducible assumption) | assumption); omega)] <;> rfl) | rfl | (simp only [List.length_drop, List.length_take]; first | done | rfl)) ?_
                        with_reducible refine (copyC.calls (fun k_ => some k_ = (.slice Ao34 t295.length co34 : Value).ownBlock) (.slice Ao34 t295.length co34) t295 32 40 _ _ (((l0.take 128).take 40).drop 32) t303 w _ ?side1 ?side2 ?side3 ?side4 ?side5 A22.out).mono ?_
                        (case side1 => repeat (first | (with_reducible first | exact HB.out | apply below_alloc | apply pw_below_drewN | apply below_drew1 | refine below_set ?_ GE289.out) | exact HB.out))
                        (case side2 => exact Kd.R_tight rfl HO297.out)
                        (case side3 => exact ⟨_, _, _, rfl, KA33.out, (by first | exact KY33.out | (have h_ := KY33.out; omega))⟩)
                        (case side4 => exact Kd.C_kept_came (Kd.heap_int .u8) HR302.out (by repeat (first | (with_reducible first | exact HB.out | apply below_alloc | apply pw_below_drewN | apply below_drew1 | refine below_set ?_ GE289.out) | exact HB.out)) (fun k_ hs_ => (fun e_ => Kd.R_base HO297.out k_ e_.symm) hs_))
                        (case side5 => exact HC302.out)
                        rintro e w36 ⟨rfl, hy0, hb, hkp⟩
                        refine ⟨_, rfl, ?_⟩
                        have n0_ := Aside0.mk (blk_kept (by (with_reducible repeat (first | refine blk_drewN ?_ _ | refine blk_drew ?_ | refine blk_alloc ?_ _)); exact BK289.out) hkp (fun hs_ => (fun e_ => (Kd.R_ne HO297.out BK289.out (by decide)) e_) hs_))
                        have n1_ := Aside0.mk (Kd.R_reok rfl hy0 (fun k_ e_ => HO297.out.1 k_ e_))
                        have n2_ := Aside0.mk (hb)
                        clear BK289
                        clear HO297
                        clear HB
                        have BK289 := n0_
                        have HO297 := n1_
                        have HB := n2_
                        clear n0_ n1_ n2_
                        (try clear hb)
                        (try clear hkp)
                        (try clear hy0)
                        refine hK.out _ _ trivial (fun hHeld => ?_)
                        clear hK K
                        refine norm_ (a' := ?_) ?_ ?_
                        rotate_left
                        · show Act.put _ (some 39) _ = _
                          simp only [Act.put, List.setIfInBounds_toArray, List.set_cons_zero, List.set_cons_succ, i64_w, i32_w]
                          rfl
                        refine done_ (by kernel_rfl) ?_
                        have hlx37 := (Kd.R_reads' HO297.out).1
                        have q37 : (40 : Int) ≤ ((t295.length : Int) : Int) := of_decide_eq_true (by first | (with_reducible assumption) | assumption)
                        obtain ⟨i037, hi037, _, hsz37, _⟩ := info_parts info5
                        have hroom37 : t295.length ≤ co34 := (Kd.R_reads' HO297.out).2.1
                        have hroomc37 : t303.length ≤ co34 := (by rw [← hlx37]; exact hroom37)
                        have hC37 : Kd.C (Kd.int .u8) _ Ao34 t303.length t303 := (Kd.R_reads' HO297.out).2.2
                        have hcut37 := cut_to (P := Try.prog) 22 5 .i64 Try.underlying22 hi037 Ao34 t295.length co34 40 (by omega) q37 hroom37
                        have hr37 := Kd.C_take (m := 40) hC37 (by omega)
                        have hy37 : y304.length = (40 : Int).toNat := (by rw [Ny304.out, List.length_take]; omega)
                        rw [← Ny304.out] at hr37
                        rw [← hy37] at hcut37
                        have HR307 := Aside0.mk hr37
                        have HC307 := Aside0.mk (show y304.length ≤ co34 from by omega)
                        clear hr37 hC37 hroom37 hi037 hsz37 hroomc37
                        have KY37 := Aside0.mk hy37
                        clear hy37
                        have KE37 := Aside0.mk hlx37
                        have KL37 := Aside0.mk (show 40 ≤ t303.length from by omega)
                        clear hlx37
                        replace q37 := eq_true q37
                        go_upto_region 14 with (first | ((with_reducible refine gate_callee (f := 77) rfl ?_); refine goesL_ (some 43) rfl rfl Try.func77 (by kernel_rfl) rfl #[.slice Ao34 y304.length co34] rfl (by (try simp only [List.map_toArray, List.map_cons, List.map_nil]); first | done | rfl | (simp only [List.length_drop, List.length_take]; first | done | rfl)) ?_; (with_reducible refine (impl_Crc.calls kj1 _ _ y304 t308 _ ?side1 ?side2 A24.out).mono ?_); (case side1 => repeat (first | exact (by repeat (first | (with_reducible exact HR307.out) | (with_reducible refine Kd.C_alloc ?_ _) | (with_reducible refine Kd.C_drewN ?_ _) | (with_reducible refine Kd.C_drew ?_) | exact HR307.out)) | (with_reducible refine Kd.C_alloc ?_ _) | (with_reducible refine Kd.C_drewN ?_ _) | (with_reducible refine Kd.C_drew ?_))); (case side2 => exact HC307.out); rintro e w' ⟨rfl, ⟨nd, rfl⟩⟩; refine ⟨_, rfl, ?_⟩; (try (rw [drewN_self w36]; generalize hq_ : World.drewN w36 _ = w36; have n0_ : Aside0 (Kd.R (Kd.int .u8) 5 w36 w.heap.size (fun _ => True) (.slice Ao34 t295.length co34) t303) := ⟨by rw [← hq_]; exact (by (with_reducible repeat (first | apply Kd.R_alloc | apply Kd.R_drewN | apply Kd.R_drew)); exact HO297.out)⟩; have n1_ : Aside0 (w36.heap[gb289]? = some (.cells #[.int .i64 0, .int .u64 0, .slice none 0 0] 58 (0, 0))) := ⟨by rw [← hq_]; exact (by (with_reducible repeat (first | refine blk_drewN ?_ _ | refine blk_drew ?_ | refine blk_alloc ?_ _)); exact BK289.out)⟩; have n2_ : Aside0 (Below w.heap.size w w36) := ⟨by rw [← hq_]; exact (by repeat (first | (with_reducible first | exact HB.out | apply below_alloc | apply pw_below_drewN | apply below_drew1 | refine below_set ?_ GE289.out) | exact HB.out))⟩; have n3_ : Aside0 (Kd.C (Kd.int .u8) w36 Ao34 y304.length y304) := ⟨by rw [← hq_]; exact (by repeat (first | (with_reducible exact HR307.out) | (with_reducible refine Kd.C_alloc ?_ _) | (with_reducible refine Kd.C_drewN ?_ _) | (with_reducible refine Kd.C_drew ?_) | exact HR307.out))⟩; clear HO297 BK289 HB HR307 hq_; have HO297 := n0_; have BK289 := n1_; have HB := n2_; have HR307 := n3_; clear n0_ n1_ n2_ n3_))) | ((with_reducible refine gate_callee (f := 76) rfl ?_); refine goesL_ (some 44) rfl rfl Try.func76 (by kernel_rfl) rfl #[.slice Ao34 t295.length co34, .int .i64 40, .int .u64 t308] rfl (by (try simp only [List.map_toArray, List.map_cons, List.map_nil]); first | done | rfl | (simp only [List.length_drop, List.length_take]; first | done | rfl)) ?_; (with_reducible refine (impl_put8.calls kj1 (fun k_ => some k_ = (.slice Ao34 t295.length co34 : Value).ownBlock) (.slice Ao34 t295.length co34) t303 40 t308 t309 w _ ?side1 ?side2 A25.out).mono ?_); (case side1 => repeat (first | (with_reducible first | exact HB.out | apply below_alloc | apply pw_below_drewN | apply below_drew1 | refine below_set ?_ GE289.out) | exact HB.out)); (case side2 => exact Kd.R_tight rfl HO297.out); rintro e w38 ⟨rfl, hy0, hb, hkp⟩; refine ⟨_, rfl, ?_⟩; have n0_ := Aside0.mk (blk_kept (by (with_reducible repeat (first | refine blk_drewN ?_ _ | refine blk_drew ?_ | refine blk_alloc ?_ _)); exact BK289.out) hkp (fun hs_ => (fun e_ => (Kd.R_ne HO297.out BK289.out (by decide)) e_) hs_)); have n1_ := Aside0.mk (Kd.R_reok rfl hy0 (fun k_ e_ => HO297.out.1 k_ e_)); have n2_ := Aside0.mk (hb); clear BK289; clear HO297; clear HB; have BK289 := n0_; have HO297 := n1_; have HB := n2_; clear n0_ n1_ n2_; (try clear hb); (try clear hkp); (try clear hy0); have hcv39 := own_string (P := Try.prog) Try.underlying22 Try.underlying5 Try.underlying9 (Kd.own_of_R HO297.out); have hcv40 := Kd.C_string (P := Try.prog) (A := A0) (c := c0) Try.underlying22 Try.underlying5 Try.underlying9 (Kd.C_below HR291.out HB.out); try simp only [List.length_take, List.length_drop, Int.reduceToNat] at hcv40) | ((with_reducible refine gate_callee (f := 75) rfl ?_); refine goesL_ (some 52) rfl rfl Try.func75 (by kernel_rfl) rfl #[.slice A0 (l0.take 128).length c0, .int .i64 16] rfl (by (try simp only [List.map_toArray, List.map_cons, List.map_nil]); first | done | (rw [show (l0.take 128).length = 128 from (by rw [List.length_take]; have h_ : (128 : Int) ≤ (l0.length : Int) := of_decide_eq_true (by first | (with_reducible assumption) | assumption); omega)] <;> rfl) | rfl | (simp only [List.length_drop, List.length_take]; first | done | rfl)) ?_; (with_reducible refine (impl_get8.calls kj1 _ _ (l0.take 128) 16 t310 _ ?side1 ?side2 A27.out).mono ?_); (case side1 => repeat (first | exact (Kd.C_below HR291.out HB.out) | (with_reducible refine Kd.C_alloc ?_ _) | (with_reducible refine Kd.C_drewN ?_ _) | (with_reducible refine Kd.C_drew ?_))); (case side2 => exact HC291.out); rintro e w' ⟨rfl, ⟨nd, rfl⟩⟩; refine ⟨_, rfl, ?_⟩; (try (rw [drewN_self w38]; generalize hq_ : World.drewN w38 _ = w38; have n0_ : Aside0 (Kd.R (Kd.int .u8) 5 w38 w.heap.size (fun _ => True) (.slice Ao34 t295.length co34) t309) := ⟨by rw [← hq_]; exact (by (with_reducible repeat (first | apply Kd.R_alloc | apply Kd.R_drewN | apply Kd.R_drew)); exact HO297.out)⟩; have n1_ : Aside0 (w38.heap[gb289]? = some (.cells #[.int .i64 0, .int .u64 0, .slice none 0 0] 58 (0, 0))) := ⟨by rw [← hq_]; exact (by (with_reducible repeat (first | refine blk_drewN ?_ _ | refine blk_drew ?_ | refine blk_alloc ?_ _)); exact BK289.out)⟩; have n2_ : Aside0 (Below w.heap.size w w38) := ⟨by rw [← hq_]; exact (by repeat (first | (with_reducible first | exact HB.out | apply below_alloc | apply pw_below_drewN | apply below_drew1 | refine below_set ?_ GE289.out) | exact HB.out))⟩; clear HO297 BK289 HB hq_; have HO297 := n0_; have BK289 := n1_; have HB := n2_; clear n0_ n1_ n2_)); have hcz41_0 : w38.cell? ⟨gb289, 0, none⟩ = some (.int .i64 0) := (blk_cell BK289.out 0).trans rfl; have hcz41_1 : w38.cell? ⟨gb289, 1, none⟩ = some (.int .u64 0) := (blk_cell BK289.out 1).trans rfl; have hcz41_2 : w38.cell? ⟨gb289, 2, none⟩ = some (.slice none 0 0) := (blk_cell BK289.out 2).trans rfl; have hfz41_0 := blk_frozen BK289.out 0; have hfz41_1 := blk_frozen BK289.out 1; have hfz41_2 := blk_frozen BK289.out 2))
                        (try simp only [Act.put, List.setIfInBounds_toArray, List.set_cons_zero, List.set_cons_succ])
                        go_cut [60] (fun v60 wc => ∃ (kq : Nat) (x60_27 : Bool), v60 = .bool x60_27 ∧ Aside0 (impl_JnlRead.j1 kq l0 (l0.take 128) ((l0.take 384).drop 128) t293 x60_27 0 t310 = some (r1, r2, r3)) ∧ Aside0 (kq ≤ kj1) ∧ Aside0 (wc.heap[gb289]? = some (.cells #[.int .i64 0, .int .u64 t310, (.slice none 0 0)] 58 (0, 0))) ∧ Aside0 (Below w.heap.size w wc))
                        case first =>
                          have H := HC28.out
                          clear HC28
                          by_cases c42 : t293 = 0
                          · rw [if_pos c42] at H
                            have c42b0 : (t293 == 0) = true := beq_iff_eq.mpr c42
                            have c42b1 : (t293 != 0) = false := bne_eq_false_iff_eq.mpr c42
                            clear c42
                            (first | rw [c42b0] | (simp only [i64_w, i32_w]; rw [c42b0]) | skip)
                            replace H := Option.bind_eq_some_iff.mp H
                            obtain ⟨t311, A430, H⟩ := H
                            replace H : (impl_JnlRead.j1 kj1 l0 (l0.take 128) ((l0.take 384).drop 128) t293 (t311 != 0) 0 t310) = some (r1, r2, r3) := H
                            have A43 := Aside0.mk A430
                            clear A430
                            have H' := Aside0.mk H
                            clear H
                            go_wp2_with (first | (go_at_call 75; refine calls_of_args (args' := #[.slice A0 (l0.take 128).length c0, .int .i64 32]) (by first | (rw [show (l0.take 128).length = 128 from (by rw [List.length_take]; have h_ : (128 : Int) ≤ (l0.length : Int) := of_decide_eq_true (by first | (with_reducible assumption) | assumption); omega)] <;> rfl) | rfl | (simp only [List.length_drop, List.length_take]; first | done | rfl)) ?_; (with_reducible refine (impl_get8.calls kj1 _ _ (l0.take 128) 32 t311 _ ?side1 ?side2 A43.out).mono ?_); (case side1 => exact Kd.C_below HR291.out (by repeat (first | (with_reducible first | exact HB.out | apply below_alloc | apply pw_below_drewN | apply below_drew1 | refine below_set ?_ GE289.out) | exact HB.out))); (case side2 => exact HC291.out); rintro e w' ⟨rfl, ⟨nd, rfl⟩⟩))
                            go_meet
                            case rel => exact ⟨_, ((t311 != 0)), (by first | rfl | exact congrArg (Value.int .i64) (i64_w _) | (simp; done) | (simp [*]; done)), H', ⟨by have := HJ1.out; first | omega | exact Nat.le_refl _⟩, ⟨by (with_reducible repeat (first | refine blk_drewN ?_ _ | refine blk_drew ?_ | refine blk_alloc ?_ _)); refine blk_put (cs := #[.int .i64 0, .int .u64 0, .slice none 0 0]) ?_ 1 _ rfl; (with_reducible repeat (first | refine blk_drewN ?_ _ | refine blk_drew ?_ | refine blk_alloc ?_ _)); exact BK289.out⟩, ⟨by repeat (first | (with_reducible first | exact HB.out | apply below_alloc | apply pw_below_drewN | apply below_drew1 | refine below_set ?_ GE289.out) | exact HB.out)⟩⟩
                          · rw [if_neg c42] at H
                            have c42b0 : (t293 == 0) = false := beq_eq_false_iff_ne.mpr c42
                            have c42b1 : (t293 != 0) = true := bne_iff_ne.mpr c42
                            (first | rw [c42b0] | (simp only [i64_w, i32_w]; rw [c42b0]) | skip)
                            have H' := Aside0.mk H
                            clear H
                            go_wp2
                            go_meet
                            case rel => exact ⟨_, (false), (by first | rfl | exact congrArg (Value.int .i64) (i64_w _) | (simp; done) | (simp [*]; done)), H', ⟨by have := HJ1.out; first | omega | exact Nat.le_refl _⟩, ⟨by (with_reducible repeat (first | refine blk_drewN ?_ _ | refine blk_drew ?_ | refine blk_alloc ?_ _)); refine blk_put (cs := #[.int .i64 0, .int .u64 0, .slice none 0 0]) ?_ 1 _ rfl; (with_reducible repeat (first | refine blk_drewN ?_ _ | refine blk_drew ?_ | refine blk_alloc ?_ _)); exact BK289.out⟩, ⟨by repeat (first | (with_reducible first | exact HB.out | apply below_alloc | apply pw_below_drewN | apply below_drew1 | refine below_set ?_ GE289.out) | exact HB.out)⟩⟩
                        case rest =>
                          clear HC28
                          try clear c1
                          try clear c2
                          try clear p2
                          try clear c3
                          try clear q3
                          try clear hcv3
                          try clear c4
                          try clear hcv4
                          try clear c5
                          try clear c6
                          try clear p6
                          try clear c7
                          try clear c8
                          try clear c8b0
                          try clear c8b1
                          try clear c9
                          try clear c9b0
                          try clear c9b1
                          try clear c10
                          try clear c10b0
                          try clear c10b1
                          try clear c12
                          try clear c12b0
                          try clear c18
                          try clear c18b0
                          try clear c18b1
                          try clear c19
                          try clear c19b0
                          try clear c19b1
                          try clear c20
                          try clear c20b0
                          try clear c21
                          try clear c21b0
                          try clear c21b1
                          try clear c23
                          try clear c23b0
                          try clear c26
                          try clear c26b0
                          try clear c26b1
                          try clear c33
                          try clear q33
                          try clear c37
                          try clear q37
                          try clear c39
                          try clear hcv39
                          try clear hcv40
                          try clear c42
                          try clear c42b0
                          try clear c42b1
                          try clear hcz15_0
                          try clear hcz15_1
                          try clear hcz15_2
                          try clear hcz41_0
                          try clear hcz41_1
                          try clear hcz41_2
                          try clear hcz7_0
                          try clear hcz7_1
                          try clear hcz7_2
                          try clear hfz15_0
                          try clear hfz15_1
                          try clear hfz15_2
                          try clear hfz41_0
                          try clear hfz41_1
                          try clear hfz41_2
                          try clear hfz7_0
                          try clear hfz7_1
                          try clear hfz7_2
                          try clear p2
                          try clear q33
                          try clear q37
                          obtain ⟨kq, x60_27, rfl, HA, HJ27, BK289, HB⟩ := hcut
                          cases kq with
                          | zero => exact absurd HA.out (by simp [impl_JnlRead.j1])
                          | succ kj27 =>
                            have H := HA.out
                            clear HA
                            simp only [impl_JnlRead.j1] at H
                            by_cases c44 : x60_27 = true
                            · subst c44
                              have H1 : (some (4, 0, ([] : List Int))) = some (r1, r2, r3) := by rw [if_pos rfl] at H; exact H
                              clear H
                              have H := H1
                              clear H1
                              simp only [Option.some.injEq, Prod.mk.injEq] at H
                              obtain ⟨rfl, rfl, rfl⟩ := H
                              have hcz45_0 : wc.cell? ⟨gb289, 0, none⟩ = some (.int .i64 0) := (blk_cell BK289.out 0).trans rfl
                              have hcz45_1 : wc.cell? ⟨gb289, 1, none⟩ = some (.int .u64 t310) := (blk_cell BK289.out 1).trans rfl
                              have hcz45_2 : wc.cell? ⟨gb289, 2, none⟩ = some (.slice none 0 0) := (blk_cell BK289.out 2).trans rfl
                              have hfz45_0 := blk_frozen BK289.out 0
                              have hfz45_1 := blk_frozen BK289.out 1
                              have hfz45_2 := blk_frozen BK289.out 2
                              go_wp2
                              refine bodyPost_ret (results_cell_row rfl _ _ gb289 58 #[.int .i64 4, .int .u64 0, .slice none 0 0] (0, 0) _ rfl (by (with_reducible repeat (first | refine blk_drewN ?_ _ | refine blk_drew ?_ | refine blk_alloc ?_ _)); refine blk_put (cs := #[.int .i64 4, .int .u64 0, .slice none 0 0]) ?_ 2 _ rfl; (with_reducible repeat (first | refine blk_drewN ?_ _ | refine blk_drew ?_ | refine blk_alloc ?_ _)); refine blk_put (cs := #[.int .i64 4, .int .u64 t310, .slice none 0 0]) ?_ 1 _ rfl; (with_reducible repeat (first | refine blk_drewN ?_ _ | refine blk_drew ?_ | refine blk_alloc ?_ _)); refine blk_put (cs := #[.int .i64 0, .int .u64 t310, .slice none 0 0]) ?_ 0 _ rfl; (with_reducible repeat (first | refine blk_drewN ?_ _ | refine blk_drew ?_ | refine blk_alloc ?_ _)); exact BK289.out) Try.underlying58 rfl (by kernel_rfl)) rfl ?_
                              exact ⟨_, by first | rfl | (simp [errW_none, errW_some] <;> rfl) | (simp [*, errW_none, errW_some] <;> rfl), by first | exact Kd.R_nil _ _ _ _ _ | exact Kd.N_nil _ _ _ _ _ | exact Kd.V_nil _ _ _ _ _ | exact Kd.Q_nil _ _ _ _ _ | exact Kd.S_nil _ _ _ _ _, by repeat (first | (with_reducible first | exact HB.out | apply below_alloc | apply pw_below_drewN | apply below_drew1 | refine below_set ?_ GE289.out) | exact HB.out)⟩
                            · replace c44 := Bool.eq_false_iff.mpr c44
                              subst c44
                              have H1 : (if t293 = 0 then (some (1, t310, ([] : List Int))) else ((impl_get8.f kj27 (l0.take 128) 32).bind fun t312 => (if 0 ≤ (IntKind.u64.wrap (16 * t293)) then (if (IntKind.u64.wrap (16 * t293)) ≤ (((l0.take 384).drop 128).length : Int) then ((impl_Crc.f kj27 (((l0.take 384).drop 128).take ((IntKind.u64.wrap (16 * t293)) : Int).toNat)).bind fun t314 => (if t312 = t314 then (impl_JnlRead.l0 kj27 l0 ((l0.take 384).drop 128) t293 ([] : List Int) 19 (wrap64 (t293)) 0 3 t310) else (some (3, t310, ([] : List Int))))) else (none)) else (none)))) = some (r1, r2, r3) := by rw [if_neg (show ¬ (false = true) by decide)] at H; exact H
                              clear H
                              have H := H1
                              clear H1
                              by_cases c46 : t293 = 0
                              · rw [if_pos c46] at H
                                have c46b0 : (t293 == 0) = true := beq_iff_eq.mpr c46
                                have c46b1 : (t293 != 0) = false := bne_eq_false_iff_eq.mpr c46
                                clear c46
                                simp only [Option.some.injEq, Prod.mk.injEq] at H
                                obtain ⟨rfl, rfl, rfl⟩ := H
                                have hcz47_0 : wc.cell? ⟨gb289, 0, none⟩ = some (.int .i64 0) := (blk_cell BK289.out 0).trans rfl
                                have hcz47_1 : wc.cell? ⟨gb289, 1, none⟩ = some (.int .u64 t310) := (blk_cell BK289.out 1).trans rfl
                                have hcz47_2 : wc.cell? ⟨gb289, 2, none⟩ = some (.slice none 0 0) := (blk_cell BK289.out 2).trans rfl
                                have hfz47_0 := blk_frozen BK289.out 0
                                have hfz47_1 := blk_frozen BK289.out 1
                                have hfz47_2 := blk_frozen BK289.out 2
                                go_wp2
                                refine bodyPost_ret (results_cell_row rfl _ _ gb289 58 #[.int .i64 1, .int .u64 t310, .slice none 0 0] (0, 0) _ rfl (by (with_reducible repeat (first | refine blk_drewN ?_ _ | refine blk_drew ?_ | refine blk_alloc ?_ _)); refine blk_put (cs := #[.int .i64 1, .int .u64 t310, .slice none 0 0]) ?_ 2 _ rfl; (with_reducible repeat (first | refine blk_drewN ?_ _ | refine blk_drew ?_ | refine blk_alloc ?_ _)); refine blk_put (cs := #[.int .i64 1, .int .u64 t310, .slice none 0 0]) ?_ 1 _ rfl; (with_reducible repeat (first | refine blk_drewN ?_ _ | refine blk_drew ?_ | refine blk_alloc ?_ _)); refine blk_put (cs := #[.int .i64 1, .int .u64 t310, .slice none 0 0]) ?_ 0 _ rfl; (with_reducible repeat (first | refine blk_drewN ?_ _ | refine blk_drew ?_ | refine blk_alloc ?_ _)); refine blk_put (cs := #[.int .i64 0, .int .u64 t310, .slice none 0 0]) ?_ 0 _ rfl; (with_reducible repeat (first | refine blk_drewN ?_ _ | refine blk_drew ?_ | refine blk_alloc ?_ _)); exact BK289.out) Try.underlying58 rfl (by kernel_rfl)) rfl ?_
                                exact ⟨_, by first | rfl | (simp [errW_none, errW_some] <;> rfl) | (simp [*, errW_none, errW_some] <;> rfl), by first | exact Kd.R_nil _ _ _ _ _ | exact Kd.N_nil _ _ _ _ _ | exact Kd.V_nil _ _ _ _ _ | exact Kd.Q_nil _ _ _ _ _ | exact Kd.S_nil _ _ _ _ _, by repeat (first | (with_reducible first | exact HB.out | apply below_alloc | apply pw_below_drewN | apply below_drew1 | refine below_set ?_ GE289.out) | exact HB.out)⟩
                              · rw [if_neg c46] at H
                                have c46b0 : (t293 == 0) = false := beq_eq_false_iff_ne.mpr c46
                                have c46b1 : (t293 != 0) = true := bne_iff_ne.mpr c46
                                replace H := Option.bind_eq_some_iff.mp H
                                obtain ⟨t312, A480, H⟩ := H
                                replace H : (if 0 ≤ (IntKind.u64.wrap (16 * t293)) then (if (IntKind.u64.wrap (16 * t293)) ≤ (((l0.take 384).drop 128).length : Int) then ((impl_Crc.f kj27 (((l0.take 384).drop 128).take ((IntKind.u64.wrap (16 * t293)) : Int).toNat)).bind fun t314 => (if t312 = t314 then (impl_JnlRead.l0 kj27 l0 ((l0.take 384).drop 128) t293 ([] : List Int) 19 (wrap64 (t293)) 0 3 t310) else (some (3, t310, ([] : List Int))))) else (none)) else (none)) = some (r1, r2, r3) := H
                                have A48 := Aside0.mk A480
                                clear A480
                                obtain ⟨ji49, hji49⟩ : ∃ j_ : Int, (IntKind.u64.wrap (16 * t293)) = j_ := ⟨_, rfl⟩
                                replace H : (if 0 ≤ (ji49) then (if (ji49) ≤ (((l0.take 384).drop 128).length : Int) then ((impl_Crc.f kj27 (((l0.take 384).drop 128).take ((ji49) : Int).toNat)).bind fun t314 => (if t312 = t314 then (impl_JnlRead.l0 kj27 l0 ((l0.take 384).drop 128) t293 ([] : List Int) 19 (wrap64 (t293)) 0 3 t310) else (some (3, t310, ([] : List Int))))) else (none)) else (none)) = some (r1, r2, r3) := by first | (rw [hji49] at H; exact H) | (simp only [hji49] at H ⊢; exact H)
                                (try rw [hji49] at A48)
                                by_cases c50 : 0 ≤ (ji49)
                                · rw [if_pos c50] at H
                                  have c50b0 := eq_true c50
                                  have c50b1 : decide (0 ≤ (ji49)) = true := decide_eq_true c50
                                  clear c50
                                  by_cases c51 : (ji49) ≤ (((l0.take 384).drop 128).length : Int)
                                  · rw [if_pos c51] at H
                                    have c51b0 := eq_true c51
                                    have c51b1 : decide ((ji49) ≤ (((l0.take 384).drop 128).length : Int)) = true := decide_eq_true c51
                                    clear c51
                                    replace H := Option.bind_eq_some_iff.mp H
                                    obtain ⟨t314, A520, H⟩ := H
                                    replace H : (if t312 = t314 then (impl_JnlRead.l0 kj27 l0 ((l0.take 384).drop 128) t293 ([] : List Int) 19 (wrap64 (t293)) 0 3 t310) else (some (3, t310, ([] : List Int)))) = some (r1, r2, r3) := H
                                    have A52 := Aside0.mk A520
                                    clear A520
                                    by_cases c53 : t312 = t314
                                    · rw [if_pos c53] at H
                                      have c53b0 : (t312 == t314) = true := beq_iff_eq.mpr c53
                                      have c53b1 : (t312 != t314) = false := bne_eq_false_iff_eq.mpr c53
                                      clear c53
                                      have H' := Aside0.mk H
                                      clear H
                                      have hcz54_0 : wc.cell? ⟨gb289, 0, none⟩ = some (.int .i64 0) := (blk_cell BK289.out 0).trans rfl
                                      have hcz54_1 : wc.cell? ⟨gb289, 1, none⟩ = some (.int .u64 t310) := (blk_cell BK289.out 1).trans rfl
                                      have hcz54_2 : wc.cell? ⟨gb289, 2, none⟩ = some (.slice none 0 0) := (blk_cell BK289.out 2).trans rfl
                                      have hfz54_0 := blk_frozen BK289.out 0
                                      have hfz54_1 := blk_frozen BK289.out 1
                                      have hfz54_2 := blk_frozen BK289.out 2
                                      try go_wp2
                                      have n0_ : Aside0 ((wc.setCell ⟨gb289, 0, none⟩ (.int .i64 3)).heap[gb289]? = some (.cells #[.int .i64 3, .int .u64 t310, .slice none 0 0] 58 (0, 0))) := ⟨by (with_reducible repeat (first | refine blk_drewN ?_ _ | refine blk_drew ?_ | refine blk_alloc ?_ _)); refine blk_put (cs := #[.int .i64 0, .int .u64 t310, .slice none 0 0]) ?_ 0 _ rfl; (with_reducible repeat (first | refine blk_drewN ?_ _ | refine blk_drew ?_ | refine blk_alloc ?_ _)); exact BK289.out⟩
                                      have n1_ : Aside0 (Below w.heap.size w (wc.setCell ⟨gb289, 0, none⟩ (.int .i64 3))) := ⟨by repeat (first | (with_reducible first | exact HB.out | apply below_alloc | apply pw_below_drewN | apply below_drew1 | refine below_set ?_ GE289.out) | exact HB.out)⟩
                                      (try clear BK289)
                                      (try clear HB)
                                      generalize (wc.setCell ⟨gb289, 0, none⟩ (.int .i64 3)) = w55 at n0_ n1_ ⊢
                                      have BK289 := n0_
                                      have HB := n1_
                                      clear n0_ n1_
                                      have n0_ := Aside0.mk (blk_drew BK289.out)
                                      have n1_ := Aside0.mk (below_drew1 HB.out)
                                      clear BK289
                                      clear HB
                                      have BK289 := n0_
                                      have HB := n1_
                                      clear n0_ n1_
                                      obtain ⟨i057, hi057, _, hsz57, _⟩ := info_parts info5
                                      obtain ⟨hcut57, hA57, hC57⟩ := print_take_of (P := Try.prog) (Value.int .u8) 0 22 5 .u64 Try.underlying22 hi057 hsz57 A30 (c0 - 128) ((l0.take 384).drop 128) (ji49) (of_decide_eq_true (by first | (with_reducible assumption) | assumption)) (of_decide_eq_true (by first | (with_reducible assumption) | assumption)) HC292.out
                                      have HR313 := Aside0.mk (Kd.C_of_reads (h1 := fun _ => rfl) (hA57 _ (Kd.reads_of_C HR292.out)))
                                      have HC313 := Aside0.mk hC57
                                      clear hA57 hC57 hi057 hsz57
                                      try simp only [List.length_take, List.length_drop, Int.reduceToNat] at hcut57
                                      refine start_ (n := 8) (S := fun w' => True) (ds := []) #[false, false, false, false, false, false, false, false] (by kernel_rfl) rfl rfl trivial (fun hHeld => ?_); refine with_tabW impl_JnlRead.tab20 impl_JnlRead.bits20 (fun HT_ HW_ => ?_)
                                      generalize w55.drew = w56 at BK289 HB HR313 hHeld ⊢
                                      refine pure_ (i := 0) (N := some 67) (v := ?_) (a' := ?_) #[true, false, false, false, false, false, false, false] rfl rfl (any_of HT_.out (by kernel_rfl)) (fun _ _ _ h => h) (Or.inl ⟨by rfl, ?_⟩) ?_ ?_
                                      rotate_left
                                      · intro w'
                                        go_simp
                                        with_reducible rfl
                                      rotate_left
                                      · simp only [Act.put, List.setIfInBounds_toArray, List.set_cons_zero, List.set_cons_succ, i64_w, i32_w]
                                        rfl
                                      refine pure_ (i := 2) (N := some 69) (v := ?_) (a' := ?_) #[true, false, true, false, false, false, false, false] rfl rfl (any_of HT_.out (by kernel_rfl)) (fun _ _ _ h => h) (Or.inl ⟨by rfl, ?_⟩) ?_ ?_
                                      rotate_left
                                      · intro w'
                                        go_simp
                                        with_reducible rfl
                                      rotate_left
                                      · simp only [Act.put, List.setIfInBounds_toArray, List.set_cons_zero, List.set_cons_succ, i64_w, i32_w]
                                        rfl
                                      refine pure_ (i := 3) (N := some 70) (v := ?_) (a' := ?_) #[true, false, true, true, false, false, false, false] rfl rfl (any_of HT_.out (by kernel_rfl)) (fun _ _ _ h => h) (Or.inl ⟨by rfl, ?_⟩) ?_ ?_
                                      rotate_left
                                      · intro w'
                                        go_simp
                                        with_reducible rfl
                                      rotate_left
                                      · simp only [Act.put, List.setIfInBounds_toArray, List.set_cons_zero, List.set_cons_succ, i64_w, i32_w]
                                        rfl
                                      refine pure_ (i := 4) (N := some 71) (v := ?_) (a' := ?_) #[true, false, true, true, true, false, false, false] rfl rfl (any_of HT_.out (by kernel_rfl)) (fun _ _ _ h => h) (Or.inl ⟨by rfl, ?_⟩) ?_ ?_
                                      rotate_left
                                      · intro w'
                                        go_simp
                                        with_reducible rfl
                                      rotate_left
                                      · simp only [Act.put, List.setIfInBounds_toArray, List.set_cons_zero, List.set_cons_succ, i64_w, i32_w]
                                        rfl
                                      refine pure_ (i := 5) (N := some 72) (v := ?_) (a' := ?_) #[true, false, true, true, true, true, false, false] rfl rfl (any_of HT_.out (by kernel_rfl)) (fun _ _ _ h => h) (Or.inl ⟨by rfl, ?_⟩) ?_ ?_
                                      rotate_left
                                      · intro w'
                                        go_simp
                                        with_reducible rfl
                                      rotate_left
                                      · simp only [Act.put, List.setIfInBounds_toArray, List.set_cons_zero, List.set_cons_succ, i64_w, i32_w]
                                        rfl
                                      refine one_ (i := 1) (N := some 68) #[true, true, true, true, true, true, false, false] rfl rfl (one_of HT_.out (by kernel_rfl)) (by decide) (fun K hK => ?_)
                                      refine goes_ Try.func75 (by kernel_rfl) rfl #[.slice A0 (l0.take 128).length c0, .int .i64 32] (by rfl) rfl rfl (by (try simp only [List.map_toArray, List.map_cons, List.map_nil]); first | done | (rw [show (l0.take 128).length = 128 from (by rw [List.length_take]; have h_ : (128 : Int) ≤ (l0.length : Int) := of_decide_eq_true (by first | (with_reducible assumption) | assumption); omega)] <;> rfl) | rfl | (simp only [List.length_drop, List.length_take]; first | done | rfl)) ?_
                                      with_reducible refine (impl_get8.calls kj27 _ _ (l0.take 128) 32 t312 _ ?side1 ?side2 A48.out).mono ?_
                                      (case side1 => repeat (first | exact (Kd.C_below HR291.out HB.out) | (with_reducible refine Kd.C_alloc ?_ _) | (with_reducible refine Kd.C_drewN ?_ _) | (with_reducible refine Kd.C_drew ?_)))
                                      (case side2 => exact HC291.out)
                                      rintro e w' ⟨rfl, ⟨nd, rfl⟩⟩
                                      refine ⟨_, rfl, ?_⟩
                                      refine hK.out _ _ trivial (fun hHeld => ?_)
                                      clear hK K
                                      refine norm_ (a' := ?_) ?_ ?_
                                      rotate_left
                                      · show Act.put _ (some 68) _ = _
                                        simp only [Act.put, List.setIfInBounds_toArray, List.set_cons_zero, List.set_cons_succ, i64_w, i32_w]
                                        rfl
                                      refine one_ (i := 6) (N := some 73) #[true, true, true, true, true, true, true, false] rfl rfl (one_of HT_.out (by kernel_rfl)) (by decide) (fun K hK => ?_)
                                      refine goes_ Try.func77 (by kernel_rfl) rfl #[.slice A30 (((l0.take 384).drop 128).take ((ji49) : Int).toNat).length (c0 - 128)] (by rfl) rfl rfl (by (try simp only [List.map_toArray, List.map_cons, List.map_nil]); first | done | (rw [show (((l0.take 384).drop 128).take ((ji49) : Int).toNat).length = (ji49).toNat from (by rw [List.length_take]; have h_ : ((ji49) : Int) ≤ (((l0.take 384).drop 128).length : Int) := of_decide_eq_true (by first | (with_reducible assumption) | assumption); omega)] <;> rfl) | (simp only [hji49]; rfl) | rfl | (simp only [List.length_drop, List.length_take]; first | done | rfl)) ?_
                                      with_reducible refine (impl_Crc.calls kj27 _ _ (((l0.take 384).drop 128).take ((ji49) : Int).toNat) t314 _ ?side1 ?side2 A52.out).mono ?_
                                      (case side1 => repeat (first | exact (Kd.C_below HR313.out (by repeat (first | (with_reducible first | exact HB.out | apply below_alloc | apply pw_below_drewN | apply below_drew1 | refine below_set ?_ GE289.out) | exact HB.out))) | (with_reducible refine Kd.C_alloc ?_ _) | (with_reducible refine Kd.C_drewN ?_ _) | (with_reducible refine Kd.C_drew ?_)))
                                      (case side2 => exact HC313.out)
                                      rintro e w' ⟨rfl, ⟨nd, rfl⟩⟩
                                      refine ⟨_, rfl, ?_⟩
                                      refine hK.out _ _ trivial (fun hHeld => ?_)
                                      clear hK K
                                      refine norm_ (a' := ?_) ?_ ?_
                                      rotate_left
                                      · show Act.put _ (some 73) _ = _
                                        simp only [Act.put, List.setIfInBounds_toArray, List.set_cons_zero, List.set_cons_succ, i64_w, i32_w]
                                        rfl
                                      refine pure_ (i := 7) (N := some 74) (v := ?_) (a' := ?_) #[true, true, true, true, true, true, true, true] rfl rfl (any_of HT_.out (by kernel_rfl)) (fun _ _ _ h => h) (Or.inl ⟨by rfl, ?_⟩) ?_ ?_
                                      rotate_left
                                      · intro w'
                                        go_simp
                                        with_reducible rfl
                                      rotate_left
                                      · simp only [Act.put, List.setIfInBounds_toArray, List.set_cons_zero, List.set_cons_succ, i64_w, i32_w]
                                        rfl
                                      refine done_ (done_of HT_.out (by kernel_rfl)) ?_
                                      try go_wp2
                                      go_loopg [7, 8, 78] kj27 (fun kq v7 v8 v78 w' => ∃ (x7_3 : List Int) (x8_3 : Int) (x78_3 : Int) (x290000_3 : Int) (x290001_3 : Int), v8 = .int .u64 x8_3 ∧ v78 = .int .i64 x78_3 ∧ Aside0 (impl_JnlRead.l0 kq l0 ((l0.take 384).drop 128) t293 x7_3 x8_3 (wrap64 (t293)) x78_3 x290000_3 x290001_3 = some (r1, r2, r3)) ∧ Aside0 (kq ≤ kj27) ∧ Aside0 (Kd.R (Kd.int .i64) 2 w' w.heap.size (fun _ => True) v7 x7_3) ∧ Aside0 (w'.heap[gb289]? = some (.cells #[.int .i64 x290000_3, .int .u64 x290001_3, (.slice none 0 0)] 58 (0, 0))) ∧ Aside0 (Below w.heap.size w w'))
                                      case atStart => exact ⟨(([] : List Int)), (19), (0), (3), (t310), (by first | rfl | exact congrArg (Value.int .i64) (i64_w _) | (simp; done) | (simp [*]; done)), (by first | rfl | exact congrArg (Value.int .i64) (i64_w _) | (simp; done) | (simp [*]; done)), H', ⟨Nat.le_refl _⟩, ⟨by first | exact Kd.R_nil _ _ _ _ _ | exact Kd.N_nil _ _ _ _ _ | exact Kd.V_nil _ _ _ _ _ | exact Kd.Q_nil _ _ _ _ _ | exact Kd.S_nil _ _ _ _ _⟩, ⟨by (with_reducible repeat (first | refine blk_drewN ?_ _ | refine blk_drew ?_ | refine blk_alloc ?_ _)); exact BK289.out⟩, ⟨by repeat (first | (with_reducible first | exact HB.out | apply below_alloc | apply pw_below_drewN | apply below_drew1 | refine below_set ?_ GE289.out) | exact HB.out)⟩⟩
                                      case round =>
                                        clear H'
                                        try clear c1
                                        try clear c2
                                        try clear p2
                                        try clear c3
                                        try clear q3
                                        try clear hcv3
                                        try clear c4
                                        try clear hcv4
                                        try clear c5
                                        try clear c6
                                        try clear p6
                                        try clear c7
                                        try clear c8
                                        try clear c8b0
                                        try clear c8b1
                                        try clear c9
                                        try clear c9b0
                                        try clear c9b1
                                        try clear c10
                                        try clear c10b0
                                        try clear c10b1
                                        try clear c12
                                        try clear c12b0
                                        try clear c18
                                        try clear c18b0
                                        try clear c18b1
                                        try clear c19
                                        try clear c19b0
                                        try clear c19b1
                                        try clear c20
                                        try clear c20b0
                                        try clear c21
                                        try clear c21b0
                                        try clear c21b1
                                        try clear c23
                                        try clear c23b0
                                        try clear c26
                                        try clear c26b0
                                        try clear c26b1
                                        try clear c33
                                        try clear q33
                                        try clear c37
                                        try clear q37
                                        try clear c39
                                        try clear hcv39
                                        try clear hcv40
                                        try clear c42
                                        try clear c42b0
                                        try clear c42b1
                                        try clear c44
                                        try clear c46
                                        try clear c46b0
                                        try clear c46b1
                                        try clear c50
                                        try clear c50b0
                                        try clear c50b1
                                        try clear c51
                                        try clear c51b0
                                        try clear c51b1
                                        try clear c53
                                        try clear c53b0
                                        try clear c53b1
                                        try clear c54
                                        try clear hcz15_0
                                        try clear hcz15_1
                                        try clear hcz15_2
                                        try clear hcz41_0
                                        try clear hcz41_1
                                        try clear hcz41_2
                                        try clear hcz45_0
                                        try clear hcz45_1
                                        try clear hcz45_2
                                        try clear hcz47_0
                                        try clear hcz47_1
                                        try clear hcz47_2
                                        try clear hcz54_0
                                        try clear hcz54_1
                                        try clear hcz54_2
                                        try clear hcz7_0
                                        try clear hcz7_1
                                        try clear hcz7_2
                                        try clear hfz15_0
                                        try clear hfz15_1
                                        try clear hfz15_2
                                        try clear hfz41_0
                                        try clear hfz41_1
                                        try clear hfz41_2
                                        try clear hfz45_0
                                        try clear hfz45_1
                                        try clear hfz45_2
                                        try clear hfz47_0
                                        try clear hfz47_1
                                        try clear hfz47_2
                                        try clear hfz54_0
                                        try clear hfz54_1
                                        try clear hfz54_2
                                        try clear hfz7_0
                                        try clear hfz7_1
                                        try clear hfz7_2
                                        try clear p2
                                        try clear p6
                                        try clear q3
                                        try clear q33
                                        try clear q37
                                        obtain ⟨x7_3, x8_3, x78_3, x290000_3, x290001_3, rfl, rfl, HA, HK3, HO_7, BK289, HB⟩ := hrel
                                        cases gk with
                                        | zero => exact absurd HA.out (by simp [impl_JnlRead.l0])
                                        | succ k3 =>
                                          have H := HA.out
                                          clear HA
                                          simp only [impl_JnlRead.l0] at H
                                          by_cases c58 : x78_3 < (wrap64 (t293))
                                          · rw [if_pos c58] at H
                                            have c58b0 : decide (x78_3 < (wrap64 (t293))) = true := decide_eq_true c58
                                            clear c58
                                            replace H := Option.bind_eq_some_iff.mp H
                                            obtain ⟨t317, A590, H⟩ := H
                                            replace H : (if t317 ≤ x8_3 then (some (x290000_3, x290001_3, ([] : List Int))) else (if t317 ≥ (IntKind.u64.wrap (wrap64 ((l0.length : Int) / 128))) then (some (x290000_3, x290001_3, ([] : List Int))) else ((impl_get8.f k3 ((l0.take 384).drop 128) (wrap64 ((wrap64 (16 * x78_3)) + 8))).bind fun t318 => ((impl_sectorOf.f l0 (wrap64 (3 + x78_3))).bind fun t319 => ((impl_Crc.f k3 t319).bind fun t322 => (if t318 = t322 then (if x7_3.length < 17592186044416 then (impl_JnlRead.l0 k3 l0 ((l0.take 384).drop 128) t293 (x7_3 ++ [wrap64 (t317)]) t317 (wrap64 (t293)) (wrap64 (x78_3 + 1)) x290000_3 x290001_3) else (none)) else (some (x290000_3, x290001_3, ([] : List Int))))))))) = some (r1, r2, r3) := H
                                            have A59 := Aside0.mk A590
                                            clear A590
                                            by_cases c60 : t317 ≤ x8_3
                                            · rw [if_pos c60] at H
                                              have c60b0 : decide (t317 ≤ x8_3) = true := decide_eq_true c60
                                              clear c60
                                              simp only [Option.some.injEq, Prod.mk.injEq] at H
                                              obtain ⟨rfl, rfl, rfl⟩ := H
                                              go_wp2_with (first | ((with_reducible refine gate_callee (f := 75) rfl ?_); refine goesL_ (some 84) rfl rfl Try.func75 (by kernel_rfl) rfl #[.slice A30 ((l0.take 384).drop 128).length (c0 - 128), .int .i64 (wrap64 (16 * x78_3))] rfl (by (try simp only [List.map_toArray, List.map_cons, List.map_nil]); first | done | (rw [show ((l0.take 384).drop 128).length = (384 - 128) from (by rw [List.length_drop, List.length_take]; have h_ : (384 : Int) ≤ (l0.length : Int) := of_decide_eq_true (by first | (with_reducible assumption) | assumption); omega)] <;> rfl) | rfl | (simp only [List.length_drop, List.length_take]; first | done | rfl)) ?_; (with_reducible refine (impl_get8.calls k3 _ _ ((l0.take 384).drop 128) (wrap64 (16 * x78_3)) t317 _ ?side1 ?side2 A59.out).mono ?_); (case side1 => repeat (first | exact (Kd.C_below HR292.out HB.out) | (with_reducible refine Kd.C_alloc ?_ _) | (with_reducible refine Kd.C_drewN ?_ _) | (with_reducible refine Kd.C_drew ?_))); (case side2 => exact HC292.out); rintro e w' ⟨rfl, ⟨nd, rfl⟩⟩; refine ⟨_, rfl, ?_⟩; (try (rw [drewN_self wr]; generalize hq_ : World.drewN wr _ = wr; have n0_ : Aside0 (Kd.R (Kd.int .i64) 2 wr w.heap.size (fun _ => True) u7 x7_3) := ⟨by rw [← hq_]; exact (by (with_reducible repeat (first | apply Kd.R_alloc | apply Kd.R_drewN | apply Kd.R_drew)); exact HO_7.out)⟩; have n1_ : Aside0 (wr.heap[gb289]? = some (.cells #[.int .i64 x290000_3, .int .u64 x290001_3, .slice none 0 0] 58 (0, 0))) := ⟨by rw [← hq_]; exact (by (with_reducible repeat (first | refine blk_drewN ?_ _ | refine blk_drew ?_ | refine blk_alloc ?_ _)); exact BK289.out)⟩; have n2_ : Aside0 (Below w.heap.size w wr) := ⟨by rw [← hq_]; exact (by repeat (first | (with_reducible first | exact HB.out | apply below_alloc | apply pw_below_drewN | apply below_drew1 | refine below_set ?_ GE289.out) | exact HB.out))⟩; clear HO_7 BK289 HB hq_; have HO_7 := n0_; have BK289 := n1_; have HB := n2_; clear n0_ n1_ n2_)); have hcz61_0 : wr.cell? ⟨gb289, 0, none⟩ = some (.int .i64 x290000_3) := (blk_cell BK289.out 0).trans rfl; have hcz61_1 : wr.cell? ⟨gb289, 1, none⟩ = some (.int .u64 x290001_3) := (blk_cell BK289.out 1).trans rfl; have hcz61_2 : wr.cell? ⟨gb289, 2, none⟩ = some (.slice none 0 0) := (blk_cell BK289.out 2).trans rfl; have hfz61_0 := blk_frozen BK289.out 0; have hfz61_1 := blk_frozen BK289.out 1; have hfz61_2 := blk_frozen BK289.out 2))
                                              refine bodyPost_ret (results_cell_row rfl _ _ gb289 58 #[.int .i64 x290000_3, .int .u64 x290001_3, .slice none 0 0] (0, 0) _ rfl (by (with_reducible repeat (first | refine blk_drewN ?_ _ | refine blk_drew ?_ | refine blk_alloc ?_ _)); refine blk_put (cs := #[.int .i64 x290000_3, .int .u64 x290001_3, .slice none 0 0]) ?_ 2 _ rfl; (with_reducible repeat (first | refine blk_drewN ?_ _ | refine blk_drew ?_ | refine blk_alloc ?_ _)); refine blk_put (cs := #[.int .i64 x290000_3, .int .u64 x290001_3, .slice none 0 0]) ?_ 1 _ rfl; (with_reducible repeat (first | refine blk_drewN ?_ _ | refine blk_drew ?_ | refine blk_alloc ?_ _)); refine blk_put (cs := #[.int .i64 x290000_3, .int .u64 x290001_3, .slice none 0 0]) ?_ 0 _ rfl; (with_reducible repeat (first | refine blk_drewN ?_ _ | refine blk_drew ?_ | refine blk_alloc ?_ _)); exact BK289.out) Try.underlying58 rfl (by kernel_rfl)) rfl ?_
                                              exact ⟨_, by first | rfl | (simp [errW_none, errW_some] <;> rfl) | (simp only [← hji49]; first | rfl | (simp [errW_none, errW_some] <;> rfl)) | (simp [*, errW_none, errW_some] <;> rfl), by first | exact Kd.R_nil _ _ _ _ _ | exact Kd.N_nil _ _ _ _ _ | exact Kd.V_nil _ _ _ _ _ | exact Kd.Q_nil _ _ _ _ _ | exact Kd.S_nil _ _ _ _ _, by repeat (first | (with_reducible first | exact HB.out | apply below_alloc | apply pw_below_drewN | apply below_drew1 | refine below_set ?_ GE289.out) | exact HB.out)⟩
                                            · rw [if_neg c60] at H
                                              have c60b0 : decide (t317 ≤ x8_3) = false := decide_eq_false c60
                                              clear c60
                                              by_cases c62 : t317 ≥ (IntKind.u64.wrap (wrap64 ((l0.length : Int) / 128)))
                                              · rw [if_pos c62] at H
                                                have c62b0 : decide ((IntKind.u64.wrap (wrap64 ((l0.length : Int) / 128))) ≤ t317) = true := decide_eq_true c62
                                                clear c62
                                                simp only [Option.some.injEq, Prod.mk.injEq] at H
                                                obtain ⟨rfl, rfl, rfl⟩ := H
                                                go_wp2_with (first | ((with_reducible refine gate_callee (f := 75) rfl ?_); refine goesL_ (some 84) rfl rfl Try.func75 (by kernel_rfl) rfl #[.slice A30 ((l0.take 384).drop 128).length (c0 - 128), .int .i64 (wrap64 (16 * x78_3))] rfl (by (try simp only [List.map_toArray, List.map_cons, List.map_nil]); first | done | (rw [show ((l0.take 384).drop 128).length = (384 - 128) from (by rw [List.length_drop, List.length_take]; have h_ : (384 : Int) ≤ (l0.length : Int) := of_decide_eq_true (by first | (with_reducible assumption) | assumption); omega)] <;> rfl) | rfl | (simp only [List.length_drop, List.length_take]; first | done | rfl)) ?_; (with_reducible refine (impl_get8.calls k3 _ _ ((l0.take 384).drop 128) (wrap64 (16 * x78_3)) t317 _ ?side1 ?side2 A59.out).mono ?_); (case side1 => repeat (first | exact (Kd.C_below HR292.out HB.out) | (with_reducible refine Kd.C_alloc ?_ _) | (with_reducible refine Kd.C_drewN ?_ _) | (with_reducible refine Kd.C_drew ?_))); (case side2 => exact HC292.out); rintro e w' ⟨rfl, ⟨nd, rfl⟩⟩; refine ⟨_, rfl, ?_⟩; (try (rw [drewN_self wr]; generalize hq_ : World.drewN wr _ = wr; have n0_ : Aside0 (Kd.R (Kd.int .i64) 2 wr w.heap.size (fun _ => True) u7 x7_3) := ⟨by rw [← hq_]; exact (by (with_reducible repeat (first | apply Kd.R_alloc | apply Kd.R_drewN | apply Kd.R_drew)); exact HO_7.out)⟩; have n1_ : Aside0 (wr.heap[gb289]? = some (.cells #[.int .i64 x290000_3, .int .u64 x290001_3, .slice none 0 0] 58 (0, 0))) := ⟨by rw [← hq_]; exact (by (with_reducible repeat (first | refine blk_drewN ?_ _ | refine blk_drew ?_ | refine blk_alloc ?_ _)); exact BK289.out)⟩; have n2_ : Aside0 (Below w.heap.size w wr) := ⟨by rw [← hq_]; exact (by repeat (first | (with_reducible first | exact HB.out | apply below_alloc | apply pw_below_drewN | apply below_drew1 | refine below_set ?_ GE289.out) | exact HB.out))⟩; clear HO_7 BK289 HB hq_; have HO_7 := n0_; have BK289 := n1_; have HB := n2_; clear n0_ n1_ n2_)); have hcz63_0 : wr.cell? ⟨gb289, 0, none⟩ = some (.int .i64 x290000_3) := (blk_cell BK289.out 0).trans rfl; have hcz63_1 : wr.cell? ⟨gb289, 1, none⟩ = some (.int .u64 x290001_3) := (blk_cell BK289.out 1).trans rfl; have hcz63_2 : wr.cell? ⟨gb289, 2, none⟩ = some (.slice none 0 0) := (blk_cell BK289.out 2).trans rfl; have hfz63_0 := blk_frozen BK289.out 0; have hfz63_1 := blk_frozen BK289.out 1; have hfz63_2 := blk_frozen BK289.out 2))
                                                refine bodyPost_ret (results_cell_row rfl _ _ gb289 58 #[.int .i64 x290000_3, .int .u64 x290001_3, .slice none 0 0] (0, 0) _ rfl (by (with_reducible repeat (first | refine blk_drewN ?_ _ | refine blk_drew ?_ | refine blk_alloc ?_ _)); refine blk_put (cs := #[.int .i64 x290000_3, .int .u64 x290001_3, .slice none 0 0]) ?_ 2 _ rfl; (with_reducible repeat (first | refine blk_drewN ?_ _ | refine blk_drew ?_ | refine blk_alloc ?_ _)); refine blk_put (cs := #[.int .i64 x290000_3, .int .u64 x290001_3, .slice none 0 0]) ?_ 1 _ rfl; (with_reducible repeat (first | refine blk_drewN ?_ _ | refine blk_drew ?_ | refine blk_alloc ?_ _)); refine blk_put (cs := #[.int .i64 x290000_3, .int .u64 x290001_3, .slice none 0 0]) ?_ 0 _ rfl; (with_reducible repeat (first | refine blk_drewN ?_ _ | refine blk_drew ?_ | refine blk_alloc ?_ _)); exact BK289.out) Try.underlying58 rfl (by kernel_rfl)) rfl ?_
                                                exact ⟨_, by first | rfl | (simp [errW_none, errW_some] <;> rfl) | (simp only [← hji49]; first | rfl | (simp [errW_none, errW_some] <;> rfl)) | (simp [*, errW_none, errW_some] <;> rfl), by first | exact Kd.R_nil _ _ _ _ _ | exact Kd.N_nil _ _ _ _ _ | exact Kd.V_nil _ _ _ _ _ | exact Kd.Q_nil _ _ _ _ _ | exact Kd.S_nil _ _ _ _ _, by repeat (first | (with_reducible first | exact HB.out | apply below_alloc | apply pw_below_drewN | apply below_drew1 | refine below_set ?_ GE289.out) | exact HB.out)⟩
                                              · rw [if_neg c62] at H
                                                have c62b0 : decide ((IntKind.u64.wrap (wrap64 ((l0.length : Int) / 128))) ≤ t317) = false := decide_eq_false c62
                                                clear c62
                                                replace H := Option.bind_eq_some_iff.mp H
                                                obtain ⟨t318, A640, H⟩ := H
                                                replace H : ((impl_sectorOf.f l0 (wrap64 (3 + x78_3))).bind fun t319 => ((impl_Crc.f k3 t319).bind fun t322 => (if t318 = t322 then (if x7_3.length < 17592186044416 then (impl_JnlRead.l0 k3 l0 ((l0.take 384).drop 128) t293 (x7_3 ++ [wrap64 (t317)]) t317 (wrap64 (t293)) (wrap64 (x78_3 + 1)) x290000_3 x290001_3) else (none)) else (some (x290000_3, x290001_3, ([] : List Int)))))) = some (r1, r2, r3) := H
                                                have A64 := Aside0.mk A640
                                                clear A640
                                                replace H := Option.bind_eq_some_iff.mp H
                                                obtain ⟨t319, A650, H⟩ := H
                                                replace H : ((impl_Crc.f k3 t319).bind fun t322 => (if t318 = t322 then (if x7_3.length < 17592186044416 then (impl_JnlRead.l0 k3 l0 ((l0.take 384).drop 128) t293 (x7_3 ++ [wrap64 (t317)]) t317 (wrap64 (t293)) (wrap64 (x78_3 + 1)) x290000_3 x290001_3) else (none)) else (some (x290000_3, x290001_3, ([] : List Int))))) = some (r1, r2, r3) := H
                                                have A65 := Aside0.mk A650
                                                clear A650
                                                replace H := Option.bind_eq_some_iff.mp H
                                                obtain ⟨t322, A660, H⟩ := H
                                                replace H : (if t318 = t322 then (if x7_3.length < 17592186044416 then (impl_JnlRead.l0 k3 l0 ((l0.take 384).drop 128) t293 (x7_3 ++ [wrap64 (t317)]) t317 (wrap64 (t293)) (wrap64 (x78_3 + 1)) x290000_3 x290001_3) else (none)) else (some (x290000_3, x290001_3, ([] : List Int)))) = some (r1, r2, r3) := H
                                                have A66 := Aside0.mk A660
                                                clear A660
                                                by_cases c67 : t318 = t322
                                                · rw [if_pos c67] at H
                                                  have c67b0 : (t318 == t322) = true := beq_iff_eq.mpr c67
                                                  have c67b1 : (t318 != t322) = false := bne_eq_false_iff_eq.mpr c67
                                                  clear c67
                                                  by_cases c68 : x7_3.length < 17592186044416
                                                  · rw [if_pos c68] at H
                                                    have LMc68 := Aside0.mk c68
                                                    clear c68
                                                    obtain ⟨y323, hy323⟩ : ∃ y_ : List Int, y_ = (x7_3 ++ [wrap64 (t317)]) := ⟨_, rfl⟩
                                                    replace H : (impl_JnlRead.l0 k3 l0 ((l0.take 384).drop 128) t293 y323 t317 (wrap64 (t293)) (wrap64 (x78_3 + 1)) x290000_3 x290001_3) = some (r1, r2, r3) := by first | (rw [hy323]; with_reducible exact H) | (have H2_ := (Option.bind_some _ _).symm.trans H; rw [hy323]; with_reducible exact H2_) | (have H2_ := (Option.bind_some _ _).symm.trans H; with_reducible exact H2_) | with_reducible exact H | (rw [hy323]; exact H) | exact H
                                                    have Ny323 := Aside0.mk hy323
                                                    clear hy323
                                                    have H' := Aside0.mk H
                                                    clear H
                                                    go_wp2_with (first | ((with_reducible refine gate_callee (f := 75) rfl ?_); refine goesL_ (some 84) rfl rfl Try.func75 (by kernel_rfl) rfl #[.slice A30 ((l0.take 384).drop 128).length (c0 - 128), .int .i64 (wrap64 (16 * x78_3))] rfl (by (try simp only [List.map_toArray, List.map_cons, List.map_nil]); first | done | (rw [show ((l0.take 384).drop 128).length = (384 - 128) from (by rw [List.length_drop, List.length_take]; have h_ : (384 : Int) ≤ (l0.length : Int) := of_decide_eq_true (by first | (with_reducible assumption) | assumption); omega)] <;> rfl) | rfl | (simp only [List.length_drop, List.length_take]; first | done | rfl)) ?_; (with_reducible refine (impl_get8.calls k3 _ _ ((l0.take 384).drop 128) (wrap64 (16 * x78_3)) t317 _ ?side1 ?side2 A59.out).mono ?_); (case side1 => repeat (first | exact (Kd.C_below HR292.out HB.out) | (with_reducible refine Kd.C_alloc ?_ _) | (with_reducible refine Kd.C_drewN ?_ _) | (with_reducible refine Kd.C_drew ?_))); (case side2 => exact HC292.out); rintro e w' ⟨rfl, ⟨nd, rfl⟩⟩; refine ⟨_, rfl, ?_⟩) | (go_at_call 75; refine calls_of_args (args' := #[.slice A30 ((l0.take 384).drop 128).length (c0 - 128), .int .i64 (wrap64 ((wrap64 (16 * x78_3)) + 8))]) (by first | (rw [show ((l0.take 384).drop 128).length = (384 - 128) from (by rw [List.length_drop, List.length_take]; have h_ : (384 : Int) ≤ (l0.length : Int) := of_decide_eq_true (by first | (with_reducible assumption) | assumption); omega)] <;> rfl) | rfl | (simp only [List.length_drop, List.length_take]; first | done | rfl)) ?_; (with_reducible refine (impl_get8.calls k3 _ _ ((l0.take 384).drop 128) (wrap64 ((wrap64 (16 * x78_3)) + 8)) t318 _ ?side1 ?side2 A64.out).mono ?_); (case side1 => repeat (first | exact (Kd.C_below HR292.out (by repeat (first | (with_reducible first | exact HB.out | apply below_alloc | apply pw_below_drewN | apply below_drew1 | refine below_set ?_ GE289.out) | exact HB.out))) | (with_reducible refine Kd.C_alloc ?_ _) | (with_reducible refine Kd.C_drewN ?_ _) | (with_reducible refine Kd.C_drew ?_))); (case side2 => exact HC292.out); rintro e w' ⟨rfl, ⟨nd, rfl⟩⟩) | (go_at_call 62; (with_reducible refine (impl_sectorOf.calls _ _ l0 (wrap64 (3 + x78_3)) t319 _ ?side1 ?side2 A65.out).mono ?_); (case side1 => repeat (first | exact (Kd.C_below HR0.out (by repeat (first | (with_reducible first | exact HB.out | apply below_alloc | apply pw_below_drewN | apply below_drew1 | refine below_set ?_ GE289.out) | exact HB.out))) | (with_reducible refine Kd.C_alloc ?_ _) | (with_reducible refine Kd.C_drewN ?_ _) | (with_reducible refine Kd.C_drew ?_))); (case side2 => exact HC0.out); rintro e w69 ⟨v320, rfl, ho0, hb⟩; have n0_ := Aside0.mk (Kd.R_below (by (with_reducible repeat (first | apply Kd.R_alloc | apply Kd.R_drewN | apply Kd.R_drew)); exact HO_7.out) hb); have n1_ := Aside0.mk (Kd.R_lower ho0 (below_size (by repeat (first | (with_reducible first | exact HB.out | apply below_alloc | apply pw_below_drewN | apply below_drew1 | refine below_set ?_ GE289.out) | exact HB.out)))); have n2_ := Aside0.mk (blk_below (g := gb289) (o := .cells #[.int .i64 x290000_3, .int .u64 x290001_3, .slice none 0 0] 58 (0, 0)) (by (with_reducible repeat (first | refine blk_drewN ?_ _ | refine blk_drew ?_ | refine blk_alloc ?_ _)); exact BK289.out) hb); have n3_ := Aside0.mk (below_step (by repeat (first | (with_reducible first | exact HB.out | apply below_alloc | apply pw_below_drewN | apply below_drew1 | refine below_set ?_ GE289.out) | exact HB.out)) hb); clear HO_7; clear BK289; clear HB; have HO_7 := n0_; have HO321 := n1_; have BK289 := n2_; have HB := n3_; clear n0_ n1_ n2_ n3_; (try clear hb); (try clear hb2); (try clear hk); (try clear hi); (try clear ho0); obtain ⟨Ao70, co70, eo70⟩ := Kd.R_slice HO321.out; subst eo70) | (go_at_call 77; (with_reducible refine (impl_Crc.calls k3 _ _ t319 t322 _ ?side1 ?side2 A66.out).mono ?_); (case side1 => repeat (first | exact (Kd.R_reads' HO321.out).2.2 | (with_reducible refine Kd.C_alloc ?_ _) | (with_reducible refine Kd.C_drewN ?_ _) | (with_reducible refine Kd.C_drew ?_))); (case side2 => exact (Kd.R_reads' HO321.out).2.1); rintro e w' ⟨rfl, ⟨nd, rfl⟩⟩) | ((with_reducible refine gate_builtin (b := .append) (xs := #[.tmp 111, .tmp 114]) rfl ?_); (try (refine gate_guard (by rfl) ?_; dsimp only)); at_builtin; refine Kd.R_append (Kd.int .i64) (w0 := w) w.heap.size rfl (.tmp 111) (.tmp 114) 56 2 (.int .i64 0) 8 rfl Try.underlying56 info2 rfl (by decide) (by omega) u7 x7_3 (wrap64 (t317)) [.int .i64 (wrap64 (t317))] (fun _ => True) (fun _ => False) rfl rfl ?aP (fun _ hk => hk.elim) ?aF ?aO ?aB ?aS ?aL ?_; (case aP => exact rfl); (case aB => exact (by repeat (first | (with_reducible first | exact HB.out | apply below_alloc | apply pw_below_drewN | apply below_drew1 | refine below_set ?_ GE289.out) | exact HB.out))); (case aF => exact (fun _ _ => trivial)); (case aO => exact (by (with_reducible repeat (first | apply Kd.R_alloc | apply Kd.R_drewN | apply Kd.R_drew)); exact HO_7.out)); (case aS => exact (below_size (by repeat (first | (with_reducible first | exact HB.out | apply below_alloc | apply pw_below_drewN | apply below_drew1 | refine below_set ?_ GE289.out) | exact HB.out)))); (case aL => have := LMc68.out; omega); intro v324 w71 ho hb hg hat; rw [← Ny323.out] at ho; have n0_ := Aside0.mk (blk_grown (g := gb289) (o := .cells #[.int .i64 x290000_3, .int .u64 x290001_3, .slice none 0 0] 58 (0, 0)) (by (with_reducible repeat (first | refine blk_drewN ?_ _ | refine blk_drew ?_ | refine blk_alloc ?_ _)); exact BK289.out) hg (Kd.R_ne HO_7.out BK289.out (by decide))); have n1_ := Aside0.mk (Kd.R_over' (by (with_reducible repeat (first | apply Kd.R_alloc | apply Kd.R_drewN | apply Kd.R_drew)); exact HO321.out) (Kd.R_typed (by (with_reducible repeat (first | apply Kd.R_alloc | apply Kd.R_drewN | apply Kd.R_drew)); exact HO_7.out)) (by decide) hg); have n2_ := Aside0.mk (hb); have n3_ := Aside0.mk (ho); clear BK289; clear HO321; clear HB; clear HO_7; have BK289 := n0_; have HO321 := n1_; have HB := n2_; have HO325 := n3_; clear n0_ n1_ n2_ n3_; clear ho hb hg hat))
                                                    go_roundg k3
                                                    case measure => have := HJ1.out; have := HJ27.out; have := HK3.out; omega
                                                    case rel => exact ⟨(y323), (t317), (wrap64 (x78_3 + 1)), (x290000_3), (x290001_3), (by first | rfl | exact congrArg (Value.int .i64) (i64_w _) | (simp; done) | (simp [*]; done)), (by first | rfl | exact congrArg (Value.int .i64) (i64_w _) | (simp; done) | (simp [*]; done)), H', ⟨by have := HJ1.out; have := HJ27.out; have := HK3.out; omega⟩, ⟨by (with_reducible repeat (first | apply Kd.R_alloc | apply Kd.R_drewN | apply Kd.R_drew)); exact HO325.out⟩, ⟨by (with_reducible repeat (first | refine blk_drewN ?_ _ | refine blk_drew ?_ | refine blk_alloc ?_ _)); exact BK289.out⟩, ⟨by repeat (first | (with_reducible first | exact HB.out | apply below_alloc | apply pw_below_drewN | apply below_drew1 | refine below_set ?_ GE289.out) | exact HB.out)⟩⟩
                                                  · rw [if_neg c68] at H
                                                    exact absurd H (by simp)
                                                · rw [if_neg c67] at H
                                                  have c67b0 : (t318 == t322) = false := beq_eq_false_iff_ne.mpr c67
                                                  have c67b1 : (t318 != t322) = true := bne_iff_ne.mpr c67
                                                  simp only [Option.some.injEq, Prod.mk.injEq] at H
                                                  obtain ⟨rfl, rfl, rfl⟩ := H
                                                  go_wp2_with (first | ((with_reducible refine gate_callee (f := 75) rfl ?_); refine goesL_ (some 84) rfl rfl Try.func75 (by kernel_rfl) rfl #[.slice A30 ((l0.take 384).drop 128).length (c0 - 128), .int .i64 (wrap64 (16 * x78_3))] rfl (by (try simp only [List.map_toArray, List.map_cons, List.map_nil]); first | done | (rw [show ((l0.take 384).drop 128).length = (384 - 128) from (by rw [List.length_drop, List.length_take]; have h_ : (384 : Int) ≤ (l0.length : Int) := of_decide_eq_true (by first | (with_reducible assumption) | assumption); omega)] <;> rfl) | rfl | (simp only [List.length_drop, List.length_take]; first | done | rfl)) ?_; (with_reducible refine (impl_get8.calls k3 _ _ ((l0.take 384).drop 128) (wrap64 (16 * x78_3)) t317 _ ?side1 ?side2 A59.out).mono ?_); (case side1 => repeat (first | exact (Kd.C_below HR292.out HB.out) | (with_reducible refine Kd.C_alloc ?_ _) | (with_reducible refine Kd.C_drewN ?_ _) | (with_reducible refine Kd.C_drew ?_))); (case side2 => exact HC292.out); rintro e w' ⟨rfl, ⟨nd, rfl⟩⟩; refine ⟨_, rfl, ?_⟩; (try (rw [drewN_self wr]; generalize hq_ : World.drewN wr _ = wr; have n0_ : Aside0 (Kd.R (Kd.int .i64) 2 wr w.heap.size (fun _ => True) u7 x7_3) := ⟨by rw [← hq_]; exact (by (with_reducible repeat (first | apply Kd.R_alloc | apply Kd.R_drewN | apply Kd.R_drew)); exact HO_7.out)⟩; have n1_ : Aside0 (wr.heap[gb289]? = some (.cells #[.int .i64 x290000_3, .int .u64 x290001_3, .slice none 0 0] 58 (0, 0))) := ⟨by rw [← hq_]; exact (by (with_reducible repeat (first | refine blk_drewN ?_ _ | refine blk_drew ?_ | refine blk_alloc ?_ _)); exact BK289.out)⟩; have n2_ : Aside0 (Below w.heap.size w wr) := ⟨by rw [← hq_]; exact (by repeat (first | (with_reducible first | exact HB.out | apply below_alloc | apply pw_below_drewN | apply below_drew1 | refine below_set ?_ GE289.out) | exact HB.out))⟩; clear HO_7 BK289 HB hq_; have HO_7 := n0_; have BK289 := n1_; have HB := n2_; clear n0_ n1_ n2_))) | (go_at_call 75; refine calls_of_args (args' := #[.slice A30 ((l0.take 384).drop 128).length (c0 - 128), .int .i64 (wrap64 ((wrap64 (16 * x78_3)) + 8))]) (by first | (rw [show ((l0.take 384).drop 128).length = (384 - 128) from (by rw [List.length_drop, List.length_take]; have h_ : (384 : Int) ≤ (l0.length : Int) := of_decide_eq_true (by first | (with_reducible assumption) | assumption); omega)] <;> rfl) | rfl | (simp only [List.length_drop, List.length_take]; first | done | rfl)) ?_; (with_reducible refine (impl_get8.calls k3 _ _ ((l0.take 384).drop 128) (wrap64 ((wrap64 (16 * x78_3)) + 8)) t318 _ ?side1 ?side2 A64.out).mono ?_); (case side1 => repeat (first | exact (Kd.C_below HR292.out HB.out) | (with_reducible refine Kd.C_alloc ?_ _) | (with_reducible refine Kd.C_drewN ?_ _) | (with_reducible refine Kd.C_drew ?_))); (case side2 => exact HC292.out); rintro e w' ⟨rfl, ⟨nd, rfl⟩⟩; (try (rw [drewN_self wr]; generalize hq_ : World.drewN wr _ = wr; have n0_ : Aside0 (Kd.R (Kd.int .i64) 2 wr w.heap.size (fun _ => True) u7 x7_3) := ⟨by rw [← hq_]; exact (by (with_reducible repeat (first | apply Kd.R_alloc | apply Kd.R_drewN | apply Kd.R_drew)); exact HO_7.out)⟩; have n1_ : Aside0 (wr.heap[gb289]? = some (.cells #[.int .i64 x290000_3, .int .u64 x290001_3, .slice none 0 0] 58 (0, 0))) := ⟨by rw [← hq_]; exact (by (with_reducible repeat (first | refine blk_drewN ?_ _ | refine blk_drew ?_ | refine blk_alloc ?_ _)); exact BK289.out)⟩; have n2_ : Aside0 (Below w.heap.size w wr) := ⟨by rw [← hq_]; exact (by repeat (first | (with_reducible first | exact HB.out | apply below_alloc | apply pw_below_drewN | apply below_drew1 | refine below_set ?_ GE289.out) | exact HB.out))⟩; clear HO_7 BK289 HB hq_; have HO_7 := n0_; have BK289 := n1_; have HB := n2_; clear n0_ n1_ n2_))) | (go_at_call 62; (with_reducible refine (impl_sectorOf.calls _ _ l0 (wrap64 (3 + x78_3)) t319 _ ?side1 ?side2 A65.out).mono ?_); (case side1 => repeat (first | exact (Kd.C_below HR0.out HB.out) | (with_reducible refine Kd.C_alloc ?_ _) | (with_reducible refine Kd.C_drewN ?_ _) | (with_reducible refine Kd.C_drew ?_))); (case side2 => exact HC0.out); rintro e w72 ⟨v320, rfl, ho0, hb⟩; have n0_ := Aside0.mk (Kd.R_below (by (with_reducible repeat (first | apply Kd.R_alloc | apply Kd.R_drewN | apply Kd.R_drew)); exact HO_7.out) hb); have n1_ := Aside0.mk (Kd.R_lower ho0 (below_size (by repeat (first | (with_reducible first | exact HB.out | apply below_alloc | apply pw_below_drewN | apply below_drew1 | refine below_set ?_ GE289.out) | exact HB.out)))); have n2_ := Aside0.mk (blk_below (g := gb289) (o := .cells #[.int .i64 x290000_3, .int .u64 x290001_3, .slice none 0 0] 58 (0, 0)) (by (with_reducible repeat (first | refine blk_drewN ?_ _ | refine blk_drew ?_ | refine blk_alloc ?_ _)); exact BK289.out) hb); have n3_ := Aside0.mk (below_step (by repeat (first | (with_reducible first | exact HB.out | apply below_alloc | apply pw_below_drewN | apply below_drew1 | refine below_set ?_ GE289.out) | exact HB.out)) hb); clear HO_7; clear BK289; clear HB; have HO_7 := n0_; have HO321 := n1_; have BK289 := n2_; have HB := n3_; clear n0_ n1_ n2_ n3_; (try clear hb); (try clear hb2); (try clear hk); (try clear hi); (try clear ho0); obtain ⟨Ao73, co73, eo73⟩ := Kd.R_slice HO321.out; subst eo73) | (go_at_call 77; (with_reducible refine (impl_Crc.calls k3 _ _ t319 t322 _ ?side1 ?side2 A66.out).mono ?_); (case side1 => repeat (first | exact (Kd.R_reads' HO321.out).2.2 | (with_reducible refine Kd.C_alloc ?_ _) | (with_reducible refine Kd.C_drewN ?_ _) | (with_reducible refine Kd.C_drew ?_))); (case side2 => exact (Kd.R_reads' HO321.out).2.1); rintro e w' ⟨rfl, ⟨nd, rfl⟩⟩; (try (rw [drewN_self w72]; generalize hq_ : World.drewN w72 _ = w72; have n0_ : Aside0 (Kd.R (Kd.int .u8) 5 w72 w.heap.size (fun _ => True) (.slice Ao73 t319.length co73) t319) := ⟨by rw [← hq_]; exact (by (with_reducible repeat (first | apply Kd.R_alloc | apply Kd.R_drewN | apply Kd.R_drew)); exact HO321.out)⟩; have n1_ : Aside0 (Kd.R (Kd.int .i64) 2 w72 w.heap.size (fun _ => True) u7 x7_3) := ⟨by rw [← hq_]; exact (by (with_reducible repeat (first | apply Kd.R_alloc | apply Kd.R_drewN | apply Kd.R_drew)); exact HO_7.out)⟩; have n2_ : Aside0 (w72.heap[gb289]? = some (.cells #[.int .i64 x290000_3, .int .u64 x290001_3, .slice none 0 0] 58 (0, 0))) := ⟨by rw [← hq_]; exact (by (with_reducible repeat (first | refine blk_drewN ?_ _ | refine blk_drew ?_ | refine blk_alloc ?_ _)); exact BK289.out)⟩; have n3_ : Aside0 (Below w.heap.size w w72) := ⟨by rw [← hq_]; exact (by repeat (first | (with_reducible first | exact HB.out | apply below_alloc | apply pw_below_drewN | apply below_drew1 | refine below_set ?_ GE289.out) | exact HB.out))⟩; clear HO321 HO_7 BK289 HB hq_; have HO321 := n0_; have HO_7 := n1_; have BK289 := n2_; have HB := n3_; clear n0_ n1_ n2_ n3_)); have hcz74_0 : w72.cell? ⟨gb289, 0, none⟩ = some (.int .i64 x290000_3) := (blk_cell BK289.out 0).trans rfl; have hcz74_1 : w72.cell? ⟨gb289, 1, none⟩ = some (.int .u64 x290001_3) := (blk_cell BK289.out 1).trans rfl; have hcz74_2 : w72.cell? ⟨gb289, 2, none⟩ = some (.slice none 0 0) := (blk_cell BK289.out 2).trans rfl; have hfz74_0 := blk_frozen BK289.out 0; have hfz74_1 := blk_frozen BK289.out 1; have hfz74_2 := blk_frozen BK289.out 2))
                                                  refine bodyPost_ret (results_cell_row rfl _ _ gb289 58 #[.int .i64 x290000_3, .int .u64 x290001_3, .slice none 0 0] (0, 0) _ rfl (by (with_reducible repeat (first | refine blk_drewN ?_ _ | refine blk_drew ?_ | refine blk_alloc ?_ _)); refine blk_put (cs := #[.int .i64 x290000_3, .int .u64 x290001_3, .slice none 0 0]) ?_ 2 _ rfl; (with_reducible repeat (first | refine blk_drewN ?_ _ | refine blk_drew ?_ | refine blk_alloc ?_ _)); refine blk_put (cs := #[.int .i64 x290000_3, .int .u64 x290001_3, .slice none 0 0]) ?_ 1 _ rfl; (with_reducible repeat (first | refine blk_drewN ?_ _ | refine blk_drew ?_ | refine blk_alloc ?_ _)); refine blk_put (cs := #[.int .i64 x290000_3, .int .u64 x290001_3, .slice none 0 0]) ?_ 0 _ rfl; (with_reducible repeat (first | refine blk_drewN ?_ _ | refine blk_drew ?_ | refine blk_alloc ?_ _)); exact BK289.out) Try.underlying58 rfl (by kernel_rfl)) rfl ?_
                                                  exact ⟨_, by first | rfl | (simp [errW_none, errW_some] <;> rfl) | (simp only [← hji49]; first | rfl | (simp [errW_none, errW_some] <;> rfl)) | (simp [*, errW_none, errW_some] <;> rfl), by first | exact Kd.R_nil _ _ _ _ _ | exact Kd.N_nil _ _ _ _ _ | exact Kd.V_nil _ _ _ _ _ | exact Kd.Q_nil _ _ _ _ _ | exact Kd.S_nil _ _ _ _ _, by repeat (first | (with_reducible first | exact HB.out | apply below_alloc | apply pw_below_drewN | apply below_drew1 | refine below_set ?_ GE289.out) | exact HB.out)⟩
                                          · rw [if_neg c58] at H
                                            have c58b0 : decide (x78_3 < (wrap64 (t293))) = false := decide_eq_false c58
                                            clear c58
                                            replace H : (if 0 ≤ (ji49) then (if (ji49) ≤ (((l0.take 384).drop 128).length : Int) then ((impl_zeros.f k3 (((l0.take 384).drop 128).drop ((ji49) : Int).toNat)).bind fun t316 => (if t316 = true then (some (2, x290001_3, x7_3)) else (some (x290000_3, x290001_3, ([] : List Int))))) else (none)) else (none)) = some (r1, r2, r3) := by first | (rw [hji49] at H; exact H) | (simp only [hji49] at H ⊢; exact H)
                                            by_cases c75 : 0 ≤ (ji49)
                                            · rw [if_pos c75] at H
                                              have c75b0 := eq_true c75
                                              have c75b1 : decide (0 ≤ (ji49)) = true := decide_eq_true c75
                                              clear c75
                                              by_cases c76 : (ji49) ≤ (((l0.take 384).drop 128).length : Int)
                                              · rw [if_pos c76] at H
                                                have c76b0 := eq_true c76
                                                have c76b1 : decide ((ji49) ≤ (((l0.take 384).drop 128).length : Int)) = true := decide_eq_true c76
                                                clear c76
                                                replace H := Option.bind_eq_some_iff.mp H
                                                obtain ⟨t316, A770, H⟩ := H
                                                replace H : (if t316 = true then (some (2, x290001_3, x7_3)) else (some (x290000_3, x290001_3, ([] : List Int)))) = some (r1, r2, r3) := H
                                                have A77 := Aside0.mk A770
                                                clear A770
                                                by_cases c78 : t316 = true
                                                · subst c78
                                                  have H1 : (some (2, x290001_3, x7_3)) = some (r1, r2, r3) := by rw [if_pos rfl] at H; exact H
                                                  clear H
                                                  have H := H1
                                                  clear H1
                                                  simp only [Option.some.injEq, Prod.mk.injEq] at H
                                                  obtain ⟨rfl, rfl, rfl⟩ := H
                                                  obtain ⟨i079, hi079, _, hsz79, _⟩ := info_parts info5
                                                  obtain ⟨A79, hcut79, hA79, hC79⟩ := print_drop_of (P := Try.prog) (Value.int .u8) 0 22 5 .u64 Try.underlying22 hi079 hsz79 A30 (c0 - 128) ((l0.take 384).drop 128) (ji49) (of_decide_eq_true (by first | (with_reducible assumption) | assumption)) (of_decide_eq_true (by first | (with_reducible assumption) | assumption)) HC292.out
                                                  have HR315 := Aside0.mk (Kd.C_of_reads (h1 := fun _ => rfl) (hA79 _ (Kd.reads_of_C HR292.out)))
                                                  have HC315 := Aside0.mk hC79
                                                  clear hA79 hC79 hi079 hsz79
                                                  try simp only [List.length_take, List.length_drop, Int.reduceToNat] at hcut79
                                                  go_wp2_with (first | ((with_reducible refine gate_callee (f := 78) rfl ?_); refine goesL_ (some 121) rfl rfl Try.func78 (by kernel_rfl) rfl #[.slice A79 (((l0.take 384).drop 128).drop ((ji49) : Int).toNat).length ((c0 - 128) - (ji49).toNat)] rfl (by (try simp only [List.map_toArray, List.map_cons, List.map_nil]); first | done | (rw [show (((l0.take 384).drop 128).drop ((ji49) : Int).toNat).length = (((l0.take 384).drop 128).length - (ji49).toNat) from List.length_drop] <;> rfl) | (simp only [hji49]; rfl) | rfl | (simp only [List.length_drop, List.length_take]; first | done | rfl)) ?_; (with_reducible refine (impl_zeros.calls k3 _ _ (((l0.take 384).drop 128).drop ((ji49) : Int).toNat) true _ ?side1 ?side2 A77.out).mono ?_); (case side1 => repeat (first | exact (Kd.C_below HR315.out HB.out) | (with_reducible refine Kd.C_alloc ?_ _) | (with_reducible refine Kd.C_drewN ?_ _) | (with_reducible refine Kd.C_drew ?_))); (case side2 => exact HC315.out); rintro e w' ⟨rfl, ⟨nd, rfl⟩⟩; refine ⟨_, rfl, ?_⟩; (try (rw [drewN_self wr]; generalize hq_ : World.drewN wr _ = wr; have n0_ : Aside0 (Kd.R (Kd.int .i64) 2 wr w.heap.size (fun _ => True) u7 x7_3) := ⟨by rw [← hq_]; exact (by (with_reducible repeat (first | apply Kd.R_alloc | apply Kd.R_drewN | apply Kd.R_drew)); exact HO_7.out)⟩; have n1_ : Aside0 (wr.heap[gb289]? = some (.cells #[.int .i64 x290000_3, .int .u64 x290001_3, .slice none 0 0] 58 (0, 0))) := ⟨by rw [← hq_]; exact (by (with_reducible repeat (first | refine blk_drewN ?_ _ | refine blk_drew ?_ | refine blk_alloc ?_ _)); exact BK289.out)⟩; have n2_ : Aside0 (Below w.heap.size w wr) := ⟨by rw [← hq_]; exact (by repeat (first | (with_reducible first | exact HB.out | apply below_alloc | apply pw_below_drewN | apply below_drew1 | refine below_set ?_ GE289.out) | exact HB.out))⟩; clear HO_7 BK289 HB hq_; have HO_7 := n0_; have BK289 := n1_; have HB := n2_; clear n0_ n1_ n2_)); have hcz80_0 : wr.cell? ⟨gb289, 0, none⟩ = some (.int .i64 x290000_3) := (blk_cell BK289.out 0).trans rfl; have hcz80_1 : wr.cell? ⟨gb289, 1, none⟩ = some (.int .u64 x290001_3) := (blk_cell BK289.out 1).trans rfl; have hcz80_2 : wr.cell? ⟨gb289, 2, none⟩ = some (.slice none 0 0) := (blk_cell BK289.out 2).trans rfl; have hfz80_0 := blk_frozen BK289.out 0; have hfz80_1 := blk_frozen BK289.out 1; have hfz80_2 := blk_frozen BK289.out 2; obtain ⟨Ao81, co81, eo81⟩ := Kd.R_slice HO_7.out; subst eo81))
                                                  refine bodyPost_ret (results_cell_row rfl _ _ gb289 58 #[.int .i64 2, .int .u64 x290001_3, .slice Ao81 x7_3.length co81] (0, 0) _ rfl (by (with_reducible repeat (first | refine blk_drewN ?_ _ | refine blk_drew ?_ | refine blk_alloc ?_ _)); refine blk_put (cs := #[.int .i64 2, .int .u64 x290001_3, .slice Ao81 x7_3.length co81]) ?_ 2 _ rfl; (with_reducible repeat (first | refine blk_drewN ?_ _ | refine blk_drew ?_ | refine blk_alloc ?_ _)); refine blk_put (cs := #[.int .i64 2, .int .u64 x290001_3, .slice Ao81 x7_3.length co81]) ?_ 1 _ rfl; (with_reducible repeat (first | refine blk_drewN ?_ _ | refine blk_drew ?_ | refine blk_alloc ?_ _)); refine blk_put (cs := #[.int .i64 2, .int .u64 x290001_3, .slice Ao81 x7_3.length co81]) ?_ 0 _ rfl; (with_reducible repeat (first | refine blk_drewN ?_ _ | refine blk_drew ?_ | refine blk_alloc ?_ _)); refine blk_put (cs := #[.int .i64 2, .int .u64 x290001_3, .slice none 0 0]) ?_ 2 _ rfl; (with_reducible repeat (first | refine blk_drewN ?_ _ | refine blk_drew ?_ | refine blk_alloc ?_ _)); refine blk_put (cs := #[.int .i64 x290000_3, .int .u64 x290001_3, .slice none 0 0]) ?_ 0 _ rfl; (with_reducible repeat (first | refine blk_drewN ?_ _ | refine blk_drew ?_ | refine blk_alloc ?_ _)); exact BK289.out) Try.underlying58 rfl (by kernel_rfl)) rfl ?_
                                                  exact ⟨_, by first | rfl | (simp [errW_none, errW_some] <;> rfl) | (simp only [← hji49, ← hji49]; first | rfl | (simp [errW_none, errW_some] <;> rfl)) | (simp [*, errW_none, errW_some] <;> rfl), by (with_reducible repeat (first | apply Kd.R_alloc | apply Kd.R_drewN | apply Kd.R_drew)); exact Kd.R_mono (Kd.R_far (p := ⟨gb289, 2, none⟩) (Kd.R_far (p := ⟨gb289, 1, none⟩) (Kd.R_far (p := ⟨gb289, 0, none⟩) (Kd.R_far (p := ⟨gb289, 2, none⟩) (Kd.R_far (p := ⟨gb289, 0, none⟩) (Kd.R_types HO_7.out BK289.out (by decide)) (fun _ hk => hk.2) (.int .i64 2)) (fun _ hk => hk.2) (.slice Ao81 x7_3.length co81)) (fun _ hk => hk.2) (.int .i64 2)) (fun _ hk => hk.2) (.int .u64 x290001_3)) (fun _ hk => hk.2) (.slice Ao81 x7_3.length co81)) (fun _ hk => trivial), by repeat (first | (with_reducible first | exact HB.out | apply below_alloc | apply pw_below_drewN | apply below_drew1 | refine below_set ?_ GE289.out) | exact HB.out)⟩
                                                · replace c78 := Bool.eq_false_iff.mpr c78
                                                  subst c78
                                                  have H1 : (some (x290000_3, x290001_3, ([] : List Int))) = some (r1, r2, r3) := by rw [if_neg (show ¬ (false = true) by decide)] at H; exact H
                                                  clear H
                                                  have H := H1
                                                  clear H1
                                                  simp only [Option.some.injEq, Prod.mk.injEq] at H
                                                  obtain ⟨rfl, rfl, rfl⟩ := H
                                                  obtain ⟨i082, hi082, _, hsz82, _⟩ := info_parts info5
                                                  obtain ⟨A82, hcut82, hA82, hC82⟩ := print_drop_of (P := Try.prog) (Value.int .u8) 0 22 5 .u64 Try.underlying22 hi082 hsz82 A30 (c0 - 128) ((l0.take 384).drop 128) (ji49) (of_decide_eq_true (by first | (with_reducible assumption) | assumption)) (of_decide_eq_true (by first | (with_reducible assumption) | assumption)) HC292.out
                                                  have HR315 := Aside0.mk (Kd.C_of_reads (h1 := fun _ => rfl) (hA82 _ (Kd.reads_of_C HR292.out)))
                                                  have HC315 := Aside0.mk hC82
                                                  clear hA82 hC82 hi082 hsz82
                                                  try simp only [List.length_take, List.length_drop, Int.reduceToNat] at hcut82
                                                  go_wp2_with (first | ((with_reducible refine gate_callee (f := 78) rfl ?_); refine goesL_ (some 121) rfl rfl Try.func78 (by kernel_rfl) rfl #[.slice A82 (((l0.take 384).drop 128).drop ((ji49) : Int).toNat).length ((c0 - 128) - (ji49).toNat)] rfl (by (try simp only [List.map_toArray, List.map_cons, List.map_nil]); first | done | (rw [show (((l0.take 384).drop 128).drop ((ji49) : Int).toNat).length = (((l0.take 384).drop 128).length - (ji49).toNat) from List.length_drop] <;> rfl) | (simp only [hji49]; rfl) | rfl | (simp only [List.length_drop, List.length_take]; first | done | rfl)) ?_; (with_reducible refine (impl_zeros.calls k3 _ _ (((l0.take 384).drop 128).drop ((ji49) : Int).toNat) false _ ?side1 ?side2 A77.out).mono ?_); (case side1 => repeat (first | exact (Kd.C_below HR315.out HB.out) | (with_reducible refine Kd.C_alloc ?_ _) | (with_reducible refine Kd.C_drewN ?_ _) | (with_reducible refine Kd.C_drew ?_))); (case side2 => exact HC315.out); rintro e w' ⟨rfl, ⟨nd, rfl⟩⟩; refine ⟨_, rfl, ?_⟩; (try (rw [drewN_self wr]; generalize hq_ : World.drewN wr _ = wr; have n0_ : Aside0 (Kd.R (Kd.int .i64) 2 wr w.heap.size (fun _ => True) u7 x7_3) := ⟨by rw [← hq_]; exact (by (with_reducible repeat (first | apply Kd.R_alloc | apply Kd.R_drewN | apply Kd.R_drew)); exact HO_7.out)⟩; have n1_ : Aside0 (wr.heap[gb289]? = some (.cells #[.int .i64 x290000_3, .int .u64 x290001_3, .slice none 0 0] 58 (0, 0))) := ⟨by rw [← hq_]; exact (by (with_reducible repeat (first | refine blk_drewN ?_ _ | refine blk_drew ?_ | refine blk_alloc ?_ _)); exact BK289.out)⟩; have n2_ : Aside0 (Below w.heap.size w wr) := ⟨by rw [← hq_]; exact (by repeat (first | (with_reducible first | exact HB.out | apply below_alloc | apply pw_below_drewN | apply below_drew1 | refine below_set ?_ GE289.out) | exact HB.out))⟩; clear HO_7 BK289 HB hq_; have HO_7 := n0_; have BK289 := n1_; have HB := n2_; clear n0_ n1_ n2_)); have hcz83_0 : wr.cell? ⟨gb289, 0, none⟩ = some (.int .i64 x290000_3) := (blk_cell BK289.out 0).trans rfl; have hcz83_1 : wr.cell? ⟨gb289, 1, none⟩ = some (.int .u64 x290001_3) := (blk_cell BK289.out 1).trans rfl; have hcz83_2 : wr.cell? ⟨gb289, 2, none⟩ = some (.slice none 0 0) := (blk_cell BK289.out 2).trans rfl; have hfz83_0 := blk_frozen BK289.out 0; have hfz83_1 := blk_frozen BK289.out 1; have hfz83_2 := blk_frozen BK289.out 2))
                                                  refine bodyPost_ret (results_cell_row rfl _ _ gb289 58 #[.int .i64 x290000_3, .int .u64 x290001_3, .slice none 0 0] (0, 0) _ rfl (by (with_reducible repeat (first | refine blk_drewN ?_ _ | refine blk_drew ?_ | refine blk_alloc ?_ _)); refine blk_put (cs := #[.int .i64 x290000_3, .int .u64 x290001_3, .slice none 0 0]) ?_ 2 _ rfl; (with_reducible repeat (first | refine blk_drewN ?_ _ | refine blk_drew ?_ | refine blk_alloc ?_ _)); refine blk_put (cs := #[.int .i64 x290000_3, .int .u64 x290001_3, .slice none 0 0]) ?_ 1 _ rfl; (with_reducible repeat (first | refine blk_drewN ?_ _ | refine blk_drew ?_ | refine blk_alloc ?_ _)); refine blk_put (cs := #[.int .i64 x290000_3, .int .u64 x290001_3, .slice none 0 0]) ?_ 0 _ rfl; (with_reducible repeat (first | refine blk_drewN ?_ _ | refine blk_drew ?_ | refine blk_alloc ?_ _)); exact BK289.out) Try.underlying58 rfl (by kernel_rfl)) rfl ?_
                                                  exact ⟨_, by first | rfl | (simp [errW_none, errW_some] <;> rfl) | (simp only [← hji49, ← hji49]; first | rfl | (simp [errW_none, errW_some] <;> rfl)) | (simp [*, errW_none, errW_some] <;> rfl), by first | exact Kd.R_nil _ _ _ _ _ | exact Kd.N_nil _ _ _ _ _ | exact Kd.V_nil _ _ _ _ _ | exact Kd.Q_nil _ _ _ _ _ | exact Kd.S_nil _ _ _ _ _, by repeat (first | (with_reducible first | exact HB.out | apply below_alloc | apply pw_below_drewN | apply below_drew1 | refine below_set ?_ GE289.out) | exact HB.out)⟩
                                              · rw [if_neg c76] at H
                                                exact absurd H (by simp)
                                            · rw [if_neg c75] at H
                                              exact absurd H (by simp)
                                    · rw [if_neg c53] at H
                                      have c53b0 : (t312 == t314) = false := beq_eq_false_iff_ne.mpr c53
                                      have c53b1 : (t312 != t314) = true := bne_iff_ne.mpr c53
                                      simp only [Option.some.injEq, Prod.mk.injEq] at H
                                      obtain ⟨rfl, rfl, rfl⟩ := H
                                      have hcz84_0 : wc.cell? ⟨gb289, 0, none⟩ = some (.int .i64 0) := (blk_cell BK289.out 0).trans rfl
                                      have hcz84_1 : wc.cell? ⟨gb289, 1, none⟩ = some (.int .u64 t310) := (blk_cell BK289.out 1).trans rfl
                                      have hcz84_2 : wc.cell? ⟨gb289, 2, none⟩ = some (.slice none 0 0) := (blk_cell BK289.out 2).trans rfl
                                      have hfz84_0 := blk_frozen BK289.out 0
                                      have hfz84_1 := blk_frozen BK289.out 1
                                      have hfz84_2 := blk_frozen BK289.out 2
                                      try go_wp2
                                      have n0_ : Aside0 ((wc.setCell ⟨gb289, 0, none⟩ (.int .i64 3)).heap[gb289]? = some (.cells #[.int .i64 3, .int .u64 t310, .slice none 0 0] 58 (0, 0))) := ⟨by (with_reducible repeat (first | refine blk_drewN ?_ _ | refine blk_drew ?_ | refine blk_alloc ?_ _)); refine blk_put (cs := #[.int .i64 0, .int .u64 t310, .slice none 0 0]) ?_ 0 _ rfl; (with_reducible repeat (first | refine blk_drewN ?_ _ | refine blk_drew ?_ | refine blk_alloc ?_ _)); exact BK289.out⟩
                                      have n1_ : Aside0 (Below w.heap.size w (wc.setCell ⟨gb289, 0, none⟩ (.int .i64 3))) := ⟨by repeat (first | (with_reducible first | exact HB.out | apply below_alloc | apply pw_below_drewN | apply below_drew1 | refine below_set ?_ GE289.out) | exact HB.out)⟩
                                      (try clear BK289)
                                      (try clear HB)
                                      generalize (wc.setCell ⟨gb289, 0, none⟩ (.int .i64 3)) = w85 at n0_ n1_ ⊢
                                      have BK289 := n0_
                                      have HB := n1_
                                      clear n0_ n1_
                                      have n0_ := Aside0.mk (blk_drew BK289.out)
                                      have n1_ := Aside0.mk (below_drew1 HB.out)
                                      clear BK289
                                      clear HB
                                      have BK289 := n0_
                                      have HB := n1_
                                      clear n0_ n1_
                                      obtain ⟨i087, hi087, _, hsz87, _⟩ := info_parts info5
                                      obtain ⟨hcut87, hA87, hC87⟩ := print_take_of (P := Try.prog) (Value.int .u8) 0 22 5 .u64 Try.underlying22 hi087 hsz87 A30 (c0 - 128) ((l0.take 384).drop 128) (ji49) (of_decide_eq_true (by first | (with_reducible assumption) | assumption)) (of_decide_eq_true (by first | (with_reducible assumption) | assumption)) HC292.out
                                      have HR313 := Aside0.mk (Kd.C_of_reads (h1 := fun _ => rfl) (hA87 _ (Kd.reads_of_C HR292.out)))
                                      have HC313 := Aside0.mk hC87
                                      clear hA87 hC87 hi087 hsz87
                                      try simp only [List.length_take, List.length_drop, Int.reduceToNat] at hcut87
                                      refine start_ (n := 8) (S := fun w' => True) (ds := []) #[false, false, false, false, false, false, false, false] (by kernel_rfl) rfl rfl trivial (fun hHeld => ?_); refine with_tabW impl_JnlRead.tab20 impl_JnlRead.bits20 (fun HT_ HW_ => ?_)
                                      generalize w85.drew = w86 at BK289 HB HR313 hHeld ⊢
                                      refine pure_ (i := 0) (N := some 67) (v := ?_) (a' := ?_) #[true, false, false, false, false, false, false, false] rfl rfl (any_of HT_.out (by kernel_rfl)) (fun _ _ _ h => h) (Or.inl ⟨by rfl, ?_⟩) ?_ ?_
                                      rotate_left
                                      · intro w'
                                        go_simp
                                        with_reducible rfl
                                      rotate_left
                                      · simp only [Act.put, List.setIfInBounds_toArray, List.set_cons_zero, List.set_cons_succ, i64_w, i32_w]
                                        rfl
                                      refine pure_ (i := 2) (N := some 69) (v := ?_) (a' := ?_) #[true, false, true, false, false, false, false, false] rfl rfl (any_of HT_.out (by kernel_rfl)) (fun _ _ _ h => h) (Or.inl ⟨by rfl, ?_⟩) ?_ ?_
                                      rotate_left
                                      · intro w'
                                        go_simp
                                        with_reducible rfl
                                      rotate_left
                                      · simp only [Act.put, List.setIfInBounds_toArray, List.set_cons_zero, List.set_cons_succ, i64_w, i32_w]
                                        rfl
                                      refine pure_ (i := 3) (N := some 70) (v := ?_) (a' := ?_) #[true, false, true, true, false, false, false, false] rfl rfl (any_of HT_.out (by kernel_rfl)) (fun _ _ _ h => h) (Or.inl ⟨by rfl, ?_⟩) ?_ ?_
                                      rotate_left
                                      · intro w'
                                        go_simp
                                        with_reducible rfl
                                      rotate_left
                                      · simp only [Act.put, List.setIfInBounds_toArray, List.set_cons_zero, List.set_cons_succ, i64_w, i32_w]
                                        rfl
                                      refine pure_ (i := 4) (N := some 71) (v := ?_) (a' := ?_) #[true, false, true, true, true, false, false, false] rfl rfl (any_of HT_.out (by kernel_rfl)) (fun _ _ _ h => h) (Or.inl ⟨by rfl, ?_⟩) ?_ ?_
                                      rotate_left
                                      · intro w'
                                        go_simp
                                        with_reducible rfl
                                      rotate_left
                                      · simp only [Act.put, List.setIfInBounds_toArray, List.set_cons_zero, List.set_cons_succ, i64_w, i32_w]
                                        rfl
                                      refine pure_ (i := 5) (N := some 72) (v := ?_) (a' := ?_) #[true, false, true, true, true, true, false, false] rfl rfl (any_of HT_.out (by kernel_rfl)) (fun _ _ _ h => h) (Or.inl ⟨by rfl, ?_⟩) ?_ ?_
                                      rotate_left
                                      · intro w'
                                        go_simp
                                        with_reducible rfl
                                      rotate_left
                                      · simp only [Act.put, List.setIfInBounds_toArray, List.set_cons_zero, List.set_cons_succ, i64_w, i32_w]
                                        rfl
                                      refine one_ (i := 1) (N := some 68) #[true, true, true, true, true, true, false, false] rfl rfl (one_of HT_.out (by kernel_rfl)) (by decide) (fun K hK => ?_)
                                      refine goes_ Try.func75 (by kernel_rfl) rfl #[.slice A0 (l0.take 128).length c0, .int .i64 32] (by rfl) rfl rfl (by (try simp only [List.map_toArray, List.map_cons, List.map_nil]); first | done | (rw [show (l0.take 128).length = 128 from (by rw [List.length_take]; have h_ : (128 : Int) ≤ (l0.length : Int) := of_decide_eq_true (by first | (with_reducible assumption) | assumption); omega)] <;> rfl) | rfl | (simp only [List.length_drop, List.length_take]; first | done | rfl)) ?_
                                      with_reducible refine (impl_get8.calls kj27 _ _ (l0.take 128) 32 t312 _ ?side1 ?side2 A48.out).mono ?_
                                      (case side1 => repeat (first | exact (Kd.C_below HR291.out HB.out) | (with_reducible refine Kd.C_alloc ?_ _) | (with_reducible refine Kd.C_drewN ?_ _) | (with_reducible refine Kd.C_drew ?_)))
                                      (case side2 => exact HC291.out)
                                      rintro e w' ⟨rfl, ⟨nd, rfl⟩⟩
                                      refine ⟨_, rfl, ?_⟩
                                      refine hK.out _ _ trivial (fun hHeld => ?_)
                                      clear hK K
                                      refine norm_ (a' := ?_) ?_ ?_
                                      rotate_left
                                      · show Act.put _ (some 68) _ = _
                                        simp only [Act.put, List.setIfInBounds_toArray, List.set_cons_zero, List.set_cons_succ, i64_w, i32_w]
                                        rfl
                                      refine one_ (i := 6) (N := some 73) #[true, true, true, true, true, true, true, false] rfl rfl (one_of HT_.out (by kernel_rfl)) (by decide) (fun K hK => ?_)
                                      refine goes_ Try.func77 (by kernel_rfl) rfl #[.slice A30 (((l0.take 384).drop 128).take ((ji49) : Int).toNat).length (c0 - 128)] (by rfl) rfl rfl (by (try simp only [List.map_toArray, List.map_cons, List.map_nil]); first | done | (rw [show (((l0.take 384).drop 128).take ((ji49) : Int).toNat).length = (ji49).toNat from (by rw [List.length_take]; have h_ : ((ji49) : Int) ≤ (((l0.take 384).drop 128).length : Int) := of_decide_eq_true (by first | (with_reducible assumption) | assumption); omega)] <;> rfl) | (simp only [hji49]; rfl) | rfl | (simp only [List.length_drop, List.length_take]; first | done | rfl)) ?_
                                      with_reducible refine (impl_Crc.calls kj27 _ _ (((l0.take 384).drop 128).take ((ji49) : Int).toNat) t314 _ ?side1 ?side2 A52.out).mono ?_
                                      (case side1 => repeat (first | exact (Kd.C_below HR313.out (by repeat (first | (with_reducible first | exact HB.out | apply below_alloc | apply pw_below_drewN | apply below_drew1 | refine below_set ?_ GE289.out) | exact HB.out))) | (with_reducible refine Kd.C_alloc ?_ _) | (with_reducible refine Kd.C_drewN ?_ _) | (with_reducible refine Kd.C_drew ?_)))
                                      (case side2 => exact HC313.out)
                                      rintro e w' ⟨rfl, ⟨nd, rfl⟩⟩
                                      refine ⟨_, rfl, ?_⟩
                                      refine hK.out _ _ trivial (fun hHeld => ?_)
                                      clear hK K
                                      refine norm_ (a' := ?_) ?_ ?_
                                      rotate_left
                                      · show Act.put _ (some 73) _ = _
                                        simp only [Act.put, List.setIfInBounds_toArray, List.set_cons_zero, List.set_cons_succ, i64_w, i32_w]
                                        rfl
                                      refine pure_ (i := 7) (N := some 74) (v := ?_) (a' := ?_) #[true, true, true, true, true, true, true, true] rfl rfl (any_of HT_.out (by kernel_rfl)) (fun _ _ _ h => h) (Or.inl ⟨by rfl, ?_⟩) ?_ ?_
                                      rotate_left
                                      · intro w'
                                        go_simp
                                        with_reducible rfl
                                      rotate_left
                                      · simp only [Act.put, List.setIfInBounds_toArray, List.set_cons_zero, List.set_cons_succ, i64_w, i32_w]
                                        rfl
                                      refine done_ (done_of HT_.out (by kernel_rfl)) ?_
                                      have hcz88_0 : w86.cell? ⟨gb289, 0, none⟩ = some (.int .i64 3) := (blk_cell BK289.out 0).trans rfl
                                      have hcz88_1 : w86.cell? ⟨gb289, 1, none⟩ = some (.int .u64 t310) := (blk_cell BK289.out 1).trans rfl
                                      have hcz88_2 : w86.cell? ⟨gb289, 2, none⟩ = some (.slice none 0 0) := (blk_cell BK289.out 2).trans rfl
                                      have hfz88_0 := blk_frozen BK289.out 0
                                      have hfz88_1 := blk_frozen BK289.out 1
                                      have hfz88_2 := blk_frozen BK289.out 2
                                      try go_wp2
                                      refine bodyPost_ret (results_cell_row rfl _ _ gb289 58 #[.int .i64 3, .int .u64 t310, .slice none 0 0] (0, 0) _ rfl (by (with_reducible repeat (first | refine blk_drewN ?_ _ | refine blk_drew ?_ | refine blk_alloc ?_ _)); refine blk_put (cs := #[.int .i64 3, .int .u64 t310, .slice none 0 0]) ?_ 2 _ rfl; (with_reducible repeat (first | refine blk_drewN ?_ _ | refine blk_drew ?_ | refine blk_alloc ?_ _)); refine blk_put (cs := #[.int .i64 3, .int .u64 t310, .slice none 0 0]) ?_ 1 _ rfl; (with_reducible repeat (first | refine blk_drewN ?_ _ | refine blk_drew ?_ | refine blk_alloc ?_ _)); refine blk_put (cs := #[.int .i64 3, .int .u64 t310, .slice none 0 0]) ?_ 0 _ rfl; (with_reducible repeat (first | refine blk_drewN ?_ _ | refine blk_drew ?_ | refine blk_alloc ?_ _)); exact BK289.out) Try.underlying58 rfl (by kernel_rfl)) rfl ?_
                                      exact ⟨_, by first | rfl | (simp [errW_none, errW_some] <;> rfl) | (simp only [← hji49]; first | rfl | (simp [errW_none, errW_some] <;> rfl)) | (simp [*, errW_none, errW_some] <;> rfl), by first | exact Kd.R_nil _ _ _ _ _ | exact Kd.N_nil _ _ _ _ _ | exact Kd.V_nil _ _ _ _ _ | exact Kd.Q_nil _ _ _ _ _ | exact Kd.S_nil _ _ _ _ _, by repeat (first | (with_reducible first | exact HB.out | apply below_alloc | apply pw_below_drewN | apply below_drew1 | refine below_set ?_ GE289.out) | exact HB.out)⟩
                                  · rw [if_neg c51] at H
                                    exact absurd H (by simp)
                                · rw [if_neg c50] at H
                                  exact absurd H (by simp)
                      · rw [if_neg c26] at H
                        have c26b0 : ((strOfNums t309).toList == (strOfNums (l0.take 128)).toList) = false := beq_eq_false_iff_ne.mpr c26
                        have c26b1 : ((strOfNums t309).toList != (strOfNums (l0.take 128)).toList) = true := bne_iff_ne.mpr c26
                        simp only [Option.some.injEq, Prod.mk.injEq] at H
                        obtain ⟨rfl, rfl, rfl⟩ := H
                        obtain ⟨i089, hi089, _, hsz89, _⟩ := info_parts info5
                        obtain ⟨hcut89, hA89, hC89⟩ := print_take_of (P := Try.prog) (Value.int .u8) 0 22 5 .i64 Try.underlying22 hi089 hsz89 A0 c0 l0 128 (by omega) (of_decide_eq_true (by first | (with_reducible assumption) | assumption)) HC0.out
                        have HR291 := Aside0.mk (Kd.C_of_reads (h1 := fun _ => rfl) (hA89 _ (Kd.reads_of_C HR0.out)))
                        have HC291 := Aside0.mk hC89
                        clear hA89 hC89 hi089 hsz89
                        obtain ⟨i090, hi090, _, hsz90, _⟩ := info_parts info5
                        obtain ⟨A90, hcut90, hA90, hC90⟩ := print_mid_of (P := Try.prog) (Value.int .u8) 0 22 5 .i64 .i64 Try.underlying22 hi090 hsz90 A0 c0 l0 128 384 (by omega) (by first | omega | exact of_decide_eq_true (by first | (with_reducible assumption) | assumption)) (of_decide_eq_true (by first | (with_reducible assumption) | assumption)) HC0.out
                        have HR292 := Aside0.mk (Kd.C_of_reads (h1 := fun _ => rfl) (hA90 _ (Kd.reads_of_C HR0.out)))
                        have HC292 := Aside0.mk hC90
                        clear hA90 hC90 hi090 hsz90
                        try go_wp2_with (first | ((with_reducible refine gate_callee (f := 75) rfl ?_); refine goesL_ (some 25) rfl rfl Try.func75 (by kernel_rfl) rfl #[.slice A0 (l0.take 128).length c0, .int .i64 24] rfl (by (try simp only [List.map_toArray, List.map_cons, List.map_nil]); first | done | (rw [show (l0.take 128).length = 128 from (by rw [List.length_take]; have h_ : (128 : Int) ≤ (l0.length : Int) := of_decide_eq_true (by first | (with_reducible assumption) | assumption); omega)] <;> rfl) | rfl | (simp only [List.length_drop, List.length_take]; first | done | rfl)) ?_; (with_reducible refine (impl_get8.calls kj1 _ _ (l0.take 128) 24 t293 _ ?side1 ?side2 A11.out).mono ?_); (case side1 => repeat (first | exact (Kd.C_below HR291.out HB.out) | (with_reducible refine Kd.C_alloc ?_ _) | (with_reducible refine Kd.C_drewN ?_ _) | (with_reducible refine Kd.C_drew ?_))); (case side2 => exact HC291.out); rintro e w' ⟨rfl, ⟨nd, rfl⟩⟩; refine ⟨_, rfl, ?_⟩; (try (rw [drewN_self wc]; generalize hq_ : World.drewN wc _ = wc; have n0_ : Aside0 (wc.heap[gb289]? = some (.cells #[.int .i64 0, .int .u64 0, .slice none 0 0] 58 (0, 0))) := ⟨by rw [← hq_]; exact (by (with_reducible repeat (first | refine blk_drewN ?_ _ | refine blk_drew ?_ | refine blk_alloc ?_ _)); exact BK289.out)⟩; have n1_ : Aside0 (Below w.heap.size w wc) := ⟨by rw [← hq_]; exact (by repeat (first | (with_reducible first | exact HB.out | apply below_alloc | apply pw_below_drewN | apply below_drew1 | refine below_set ?_ GE289.out) | exact HB.out))⟩; clear BK289 HB hq_; have BK289 := n0_; have HB := n1_; clear n0_ n1_))) | ((with_reducible refine gate_callee (f := 75) rfl ?_); refine goesL_ (some 30) rfl rfl Try.func75 (by kernel_rfl) rfl #[.slice A0 (l0.take 128).length c0, .int .i64 16] rfl (by (try simp only [List.map_toArray, List.map_cons, List.map_nil]); first | done | (rw [show (l0.take 128).length = 128 from (by rw [List.length_take]; have h_ : (128 : Int) ≤ (l0.length : Int) := of_decide_eq_true (by first | (with_reducible assumption) | assumption); omega)] <;> rfl) | rfl | (simp only [List.length_drop, List.length_take]; first | done | rfl)) ?_; (with_reducible refine (impl_get8.calls kj1 _ _ (l0.take 128) 16 t294 _ ?side1 ?side2 A16.out).mono ?_); (case side1 => repeat (first | exact (Kd.C_below HR291.out HB.out) | (with_reducible refine Kd.C_alloc ?_ _) | (with_reducible refine Kd.C_drewN ?_ _) | (with_reducible refine Kd.C_drew ?_))); (case side2 => exact HC291.out); rintro e w' ⟨rfl, ⟨nd, rfl⟩⟩; refine ⟨_, rfl, ?_⟩; (try (rw [drewN_self wc]; generalize hq_ : World.drewN wc _ = wc; have n0_ : Aside0 (wc.heap[gb289]? = some (.cells #[.int .i64 0, .int .u64 0, .slice none 0 0] 58 (0, 0))) := ⟨by rw [← hq_]; exact (by (with_reducible repeat (first | refine blk_drewN ?_ _ | refine blk_drew ?_ | refine blk_alloc ?_ _)); exact BK289.out)⟩; have n1_ : Aside0 (Below w.heap.size w wc) := ⟨by rw [← hq_]; exact (by repeat (first | (with_reducible first | exact HB.out | apply below_alloc | apply pw_below_drewN | apply below_drew1 | refine below_set ?_ GE289.out) | exact HB.out))⟩; clear BK289 HB hq_; have BK289 := n0_; have HB := n1_; clear n0_ n1_))) | ((with_reducible refine gate_callee (f := 71) rfl ?_); refine goesL_ (some 34) rfl rfl Try.func71 (by kernel_rfl) rfl #[.int .u64 t294, .slice A90 ((l0.take 384).drop 128).length (c0 - 128), .int .i64 (wrap64 (t293))] rfl (by (try simp only [List.map_toArray, List.map_cons, List.map_nil]); first | done | (rw [show ((l0.take 384).drop 128).length = (384 - 128) from (by rw [List.length_drop, List.length_take]; have h_ : (384 : Int) ≤ (l0.length : Int) := of_decide_eq_true (by first | (with_reducible assumption) | assumption); omega)] <;> rfl) | rfl | (simp only [List.length_drop, List.length_take]; first | done | rfl)) ?_; (with_reducible refine (impl_jnlHead.calls kj1 t294 _ _ ((l0.take 384).drop 128) (wrap64 (t293)) t295 _ ?side1 ?side2 A17.out).mono ?_); (case side1 => repeat (first | exact (Kd.C_below HR292.out HB.out) | (with_reducible refine Kd.C_alloc ?_ _) | (with_reducible refine Kd.C_drewN ?_ _) | (with_reducible refine Kd.C_drew ?_))); (case side2 => exact HC292.out); rintro e w91 ⟨v296, rfl, ho0, hb⟩; refine ⟨_, rfl, ?_⟩; have n0_ := Aside0.mk (Kd.R_lower ho0 (below_size (by repeat (first | (with_reducible first | exact HB.out | apply below_alloc | apply pw_below_drewN | apply below_drew1 | refine below_set ?_ GE289.out) | exact HB.out)))); have n1_ := Aside0.mk (blk_below (g := gb289) (o := .cells #[.int .i64 0, .int .u64 0, .slice none 0 0] 58 (0, 0)) (by (with_reducible repeat (first | refine blk_drewN ?_ _ | refine blk_drew ?_ | refine blk_alloc ?_ _)); exact BK289.out) hb); have n2_ := Aside0.mk (below_step (by repeat (first | (with_reducible first | exact HB.out | apply below_alloc | apply pw_below_drewN | apply below_drew1 | refine below_set ?_ GE289.out) | exact HB.out)) hb); clear BK289; clear HB; have HO297 := n0_; have BK289 := n1_; have HB := n2_; clear n0_ n1_ n2_; (try clear hb); (try clear hb2); (try clear hk); (try clear hi); (try clear ho0)))
                        have n0_ := Aside0.mk (Kd.R_drew HO297.out)
                        have n1_ := Aside0.mk (blk_drew BK289.out)
                        have n2_ := Aside0.mk (below_drew1 HB.out)
                        clear HO297
                        clear BK289
                        clear HB
                        have HO297 := n0_
                        have BK289 := n1_
                        have HB := n2_
                        clear n0_ n1_ n2_
                        obtain ⟨Ao94, co94, eo94⟩ := Kd.R_slice HO297.out
                        (first | subst eo94 | (injection eo94 with f1_ f2_ f3_; have f4_ := f1_.symm; have f5_ := f3_.symm; clear f1_ f2_ f3_; subst f4_; subst f5_))
                        have q93 : (40 : Int) ≤ ((t295.length : Int) : Int) := of_decide_eq_true (by first | (with_reducible assumption) | assumption)
                        obtain ⟨i093, hi093, _, hsz93, _⟩ := info_parts info5
                        have hroom93 : t295.length ≤ co94 := (Kd.R_reads' HO297.out).2.1
                        have hC93 : Kd.C (Kd.int .u8) _ Ao94 t295.length t295 := (Kd.R_reads' HO297.out).2.2
                        have ql93 : (32 : Int) ≤ (40 : Int) := (by omega)
                        have hcut93 := cut_mid (P := Try.prog) 22 5 .i64 .i64 Try.underlying22 hi093 1 hsz93 Ao94 t295.length co94 32 40 (by omega) ql93 q93 hroom93
                        have hr93 := Kd.C_mid (lo := (32 : Int).toNat) (hi := (40 : Int).toNat) (c := co94) hC93 (by omega) (by omega) hroom93
                        obtain ⟨A93, hA93⟩ : ∃ A1, A1 = (if co94 = (32 : Int).toNat then Ao94 else (Ao94 : Option Addr).map (·.add ((32 : Int).toNat * 1))) := ⟨_, rfl⟩
                        obtain ⟨c93, hc93⟩ : ∃ c1, c1 = co94 - (32 : Int).toNat := ⟨_, rfl⟩
                        have hy93 : y298.length = (40 : Int).toNat - (32 : Int).toNat := (by rw [Ny298.out, List.length_drop, List.length_take] <;> omega)
                        rw [show ((t295).take (40 : Int).toNat).drop (32 : Int).toNat = y298 from Ny298.out.symm] at hr93
                        replace hr93 : Kd.C (Kd.int .u8) _ A93 y298.length y298 := (by rw [hA93]; exact hr93)
                        rw [← hy93, ← hA93, ← hc93] at hcut93
                        have HR301 := Aside0.mk hr93
                        have HC301 := Aside0.mk (show y298.length ≤ c93 from by rw [hy93, hc93]; exact Nat.sub_le_sub_right (Nat.le_trans (by omega) hroom93) _)
                        clear hr93 hC93 hroom93 hi093 hsz93 hc93
                        have KY93 := Aside0.mk hy93
                        have KA93 := Aside0.mk hA93
                        clear hy93 hA93
                        have KL93 := Aside0.mk (show 40 ≤ t295.length from by omega)
                        have KM93 := Aside0.mk (show 32 ≤ 40 from by omega)
                        replace q93 := eq_true q93
                        obtain ⟨i095, hi095, _, hsz95, _⟩ := info_parts info5
                        obtain ⟨A95, hcut95, hA95, hC95⟩ := print_mid_of (P := Try.prog) (Value.int .u8) 0 22 5 .i64 .i64 Try.underlying22 hi095 hsz95 A0 c0 (l0.take 128) 32 40 (by omega) (by first | omega | exact of_decide_eq_true (by first | (with_reducible assumption) | assumption)) (of_decide_eq_true (by first | (with_reducible assumption) | assumption)) HC291.out
                        have HR302 := Aside0.mk (Kd.C_of_reads (h1 := fun _ => rfl) (hA95 _ (Kd.reads_of_C HR291.out)))
                        have HC302 := Aside0.mk hC95
                        clear hA95 hC95 hi095 hsz95
                        try simp only [List.length_take, List.length_drop, Int.reduceToNat] at hcut95
                        refine start_ (n := 5) (S := fun w' => True) (ds := []) #[false, false, false, false, false] (by kernel_rfl) rfl rfl trivial (fun hHeld => ?_)
                        generalize w91.drew = w92 at HO297 BK289 HB HR301 HR302 hHeld ⊢
                        refine pure_ (i := 0) (N := some 35) (v := ?_) (a' := ?_) #[true, false, false, false, false] rfl rfl (by kernel_rfl) (fun _ _ _ h => h) (Or.inl ⟨by rfl, ?_⟩) ?_ ?_
                        rotate_left
                        · intro w'
                          go_simp
                          with_reducible rfl
                        rotate_left
                        · simp only [Act.put, List.setIfInBounds_toArray, List.set_cons_zero, List.set_cons_succ, i64_w, i32_w]
                          rfl
                        refine pure_ (i := 1) (N := some 36) (v := ?_) (a' := ?_) #[true, true, false, false, false] rfl rfl (by kernel_rfl) (fun _ _ _ h => h) (Or.inl ⟨by rfl, ?_⟩) ?_ ?_
                        rotate_left
                        · intro w'
                          go_simp
                          with_reducible rfl
                        rotate_left
                        · simp only [Act.put, List.setIfInBounds_toArray, List.set_cons_zero, List.set_cons_succ, i64_w, i32_w]
                          rfl
                        refine pure_ (i := 2) (N := some 37) (v := ?_) (a' := ?_) #[true, true, true, false, false] rfl rfl (by kernel_rfl) (fun _ _ _ h => h) (Or.inl ⟨by rfl, ?_⟩) ?_ ?_
                        rotate_left
                        · intro w'
                          go_simp
                          with_reducible rfl
                        rotate_left
                        · simp only [Act.put, List.setIfInBounds_toArray, List.set_cons_zero, List.set_cons_succ, i64_w, i32_w]
                          rfl
                        refine pure_ (i := 3) (N := some 38) (v := ?_) (a' := ?_) #[true, true, true, true, false] rfl rfl (by kernel_rfl) (fun _ _ _ h => h) (Or.inl ⟨by rfl, ?_⟩) ?_ ?_
                        rotate_left
                        · intro w'
                          go_simp
                          with_reducible rfl
                        rotate_left
                        · simp only [Act.put, List.setIfInBounds_toArray, List.set_cons_zero, List.set_cons_succ, i64_w, i32_w]
                          rfl
                        refine one_ (i := 4) (N := some 39) #[true, true, true, true, true] rfl rfl (by kernel_rfl) (by decide) (fun K hK => ?_)
                        refine goesBr_ #[.slice A93 y298.length c93, .slice A95 (((l0.take 128).take 40).drop 32).length (c0 - 32)] (by rfl) rfl rfl (by (try simp only [List.map_toArray, List.map_cons, List.map_nil]); first | done | (rw [show (((l0.take 128).take 40).drop 32).length = (40 - 32) from (by rw [List.length_drop, List.length_take]; have h_ : (40 : Int) ≤ ((l0.take 128).length : Int) := of_decide_eq_true (by first | (with_reducible assumption) | assumption); omega)] <;> rfl) | rfl | (simp only [List.length_drop, List.length_take]; first | done | rfl)) ?_
                        with_reducible refine (copyC.calls (fun k_ => some k_ = (.slice Ao94 t295.length co94 : Value).ownBlock) (.slice Ao94 t295.length co94) t295 32 40 _ _ (((l0.take 128).take 40).drop 32) t303 w _ ?side1 ?side2 ?side3 ?side4 ?side5 A22.out).mono ?_
                        (case side1 => repeat (first | (with_reducible first | exact HB.out | apply below_alloc | apply pw_below_drewN | apply below_drew1 | refine below_set ?_ GE289.out) | exact HB.out))
                        (case side2 => exact Kd.R_tight rfl HO297.out)
                        (case side3 => exact ⟨_, _, _, rfl, KA93.out, (by first | exact KY93.out | (have h_ := KY93.out; omega))⟩)
                        (case side4 => exact Kd.C_kept_came (Kd.heap_int .u8) HR302.out (by repeat (first | (with_reducible first | exact HB.out | apply below_alloc | apply pw_below_drewN | apply below_drew1 | refine below_set ?_ GE289.out) | exact HB.out)) (fun k_ hs_ => (fun e_ => Kd.R_base HO297.out k_ e_.symm) hs_))
                        (case side5 => exact HC302.out)
                        rintro e w96 ⟨rfl, hy0, hb, hkp⟩
                        refine ⟨_, rfl, ?_⟩
                        have n0_ := Aside0.mk (blk_kept (by (with_reducible repeat (first | refine blk_drewN ?_ _ | refine blk_drew ?_ | refine blk_alloc ?_ _)); exact BK289.out) hkp (fun hs_ => (fun e_ => (Kd.R_ne HO297.out BK289.out (by decide)) e_) hs_))
                        have n1_ := Aside0.mk (Kd.R_reok rfl hy0 (fun k_ e_ => HO297.out.1 k_ e_))
                        have n2_ := Aside0.mk (hb)
                        clear BK289
                        clear HO297
                        clear HB
                        have BK289 := n0_
                        have HO297 := n1_
                        have HB := n2_
                        clear n0_ n1_ n2_
                        (try clear hb)
                        (try clear hkp)
                        (try clear hy0)
                        refine hK.out _ _ trivial (fun hHeld => ?_)
                        clear hK K
                        refine norm_ (a' := ?_) ?_ ?_
                        rotate_left
                        · show Act.put _ (some 39) _ = _
                          simp only [Act.put, List.setIfInBounds_toArray, List.set_cons_zero, List.set_cons_succ, i64_w, i32_w]
                          rfl
                        refine done_ (by kernel_rfl) ?_
                        have hlx97 := (Kd.R_reads' HO297.out).1
                        have q97 : (40 : Int) ≤ ((t295.length : Int) : Int) := of_decide_eq_true (by first | (with_reducible assumption) | assumption)
                        obtain ⟨i097, hi097, _, hsz97, _⟩ := info_parts info5
                        have hroom97 : t295.length ≤ co94 := (Kd.R_reads' HO297.out).2.1
                        have hroomc97 : t303.length ≤ co94 := (by rw [← hlx97]; exact hroom97)
                        have hC97 : Kd.C (Kd.int .u8) _ Ao94 t303.length t303 := (Kd.R_reads' HO297.out).2.2
                        have hcut97 := cut_to (P := Try.prog) 22 5 .i64 Try.underlying22 hi097 Ao94 t295.length co94 40 (by omega) q97 hroom97
                        have hr97 := Kd.C_take (m := 40) hC97 (by omega)
                        have hy97 : y304.length = (40 : Int).toNat := (by rw [Ny304.out, List.length_take]; omega)
                        rw [← Ny304.out] at hr97
                        rw [← hy97] at hcut97
                        have HR307 := Aside0.mk hr97
                        have HC307 := Aside0.mk (show y304.length ≤ co94 from by omega)
                        clear hr97 hC97 hroom97 hi097 hsz97 hroomc97
                        have KY97 := Aside0.mk hy97
                        clear hy97
                        have KE97 := Aside0.mk hlx97
                        have KL97 := Aside0.mk (show 40 ≤ t303.length from by omega)
                        clear hlx97
                        replace q97 := eq_true q97
                        try go_wp2_with (first | ((with_reducible refine gate_callee (f := 77) rfl ?_); refine goesL_ (some 43) rfl rfl Try.func77 (by kernel_rfl) rfl #[.slice Ao94 y304.length co94] rfl (by (try simp only [List.map_toArray, List.map_cons, List.map_nil]); first | done | rfl | (simp only [List.length_drop, List.length_take]; first | done | rfl)) ?_; (with_reducible refine (impl_Crc.calls kj1 _ _ y304 t308 _ ?side1 ?side2 A24.out).mono ?_); (case side1 => repeat (first | exact (by repeat (first | (with_reducible exact HR307.out) | (with_reducible refine Kd.C_alloc ?_ _) | (with_reducible refine Kd.C_drewN ?_ _) | (with_reducible refine Kd.C_drew ?_) | exact HR307.out)) | (with_reducible refine Kd.C_alloc ?_ _) | (with_reducible refine Kd.C_drewN ?_ _) | (with_reducible refine Kd.C_drew ?_))); (case side2 => exact HC307.out); rintro e w' ⟨rfl, ⟨nd, rfl⟩⟩; refine ⟨_, rfl, ?_⟩; (try (rw [drewN_self w96]; generalize hq_ : World.drewN w96 _ = w96; have n0_ : Aside0 (Kd.R (Kd.int .u8) 5 w96 w.heap.size (fun _ => True) (.slice Ao94 t295.length co94) t303) := ⟨by rw [← hq_]; exact (by (with_reducible repeat (first | apply Kd.R_alloc | apply Kd.R_drewN | apply Kd.R_drew)); exact HO297.out)⟩; have n1_ : Aside0 (w96.heap[gb289]? = some (.cells #[.int .i64 0, .int .u64 0, .slice none 0 0] 58 (0, 0))) := ⟨by rw [← hq_]; exact (by (with_reducible repeat (first | refine blk_drewN ?_ _ | refine blk_drew ?_ | refine blk_alloc ?_ _)); exact BK289.out)⟩; have n2_ : Aside0 (Below w.heap.size w w96) := ⟨by rw [← hq_]; exact (by repeat (first | (with_reducible first | exact HB.out | apply below_alloc | apply pw_below_drewN | apply below_drew1 | refine below_set ?_ GE289.out) | exact HB.out))⟩; have n3_ : Aside0 (Kd.C (Kd.int .u8) w96 Ao94 y304.length y304) := ⟨by rw [← hq_]; exact (by repeat (first | (with_reducible exact HR307.out) | (with_reducible refine Kd.C_alloc ?_ _) | (with_reducible refine Kd.C_drewN ?_ _) | (with_reducible refine Kd.C_drew ?_) | exact HR307.out))⟩; clear HO297 BK289 HB HR307 hq_; have HO297 := n0_; have BK289 := n1_; have HB := n2_; have HR307 := n3_; clear n0_ n1_ n2_ n3_))) | ((with_reducible refine gate_callee (f := 76) rfl ?_); refine goesL_ (some 44) rfl rfl Try.func76 (by kernel_rfl) rfl #[.slice Ao94 t295.length co94, .int .i64 40, .int .u64 t308] rfl (by (try simp only [List.map_toArray, List.map_cons, List.map_nil]); first | done | rfl | (simp only [List.length_drop, List.length_take]; first | done | rfl)) ?_; (with_reducible refine (impl_put8.calls kj1 (fun k_ => some k_ = (.slice Ao94 t295.length co94 : Value).ownBlock) (.slice Ao94 t295.length co94) t303 40 t308 t309 w _ ?side1 ?side2 A25.out).mono ?_); (case side1 => repeat (first | (with_reducible first | exact HB.out | apply below_alloc | apply pw_below_drewN | apply below_drew1 | refine below_set ?_ GE289.out) | exact HB.out)); (case side2 => exact Kd.R_tight rfl HO297.out); rintro e w98 ⟨rfl, hy0, hb, hkp⟩; refine ⟨_, rfl, ?_⟩; have n0_ := Aside0.mk (blk_kept (by (with_reducible repeat (first | refine blk_drewN ?_ _ | refine blk_drew ?_ | refine blk_alloc ?_ _)); exact BK289.out) hkp (fun hs_ => (fun e_ => (Kd.R_ne HO297.out BK289.out (by decide)) e_) hs_)); have n1_ := Aside0.mk (Kd.R_reok rfl hy0 (fun k_ e_ => HO297.out.1 k_ e_)); have n2_ := Aside0.mk (hb); clear BK289; clear HO297; clear HB; have BK289 := n0_; have HO297 := n1_; have HB := n2_; clear n0_ n1_ n2_; (try clear hb); (try clear hkp); (try clear hy0); have hcv99 := own_string (P := Try.prog) Try.underlying22 Try.underlying5 Try.underlying9 (Kd.own_of_R HO297.out); have hcv100 := Kd.C_string (P := Try.prog) (A := A0) (c := c0) Try.underlying22 Try.underlying5 Try.underlying9 (Kd.C_below HR291.out HB.out); try simp only [List.length_take, List.length_drop, Int.reduceToNat] at hcv100; have hcz101_0 : w98.cell? ⟨gb289, 0, none⟩ = some (.int .i64 0) := (blk_cell BK289.out 0).trans rfl; have hcz101_1 : w98.cell? ⟨gb289, 1, none⟩ = some (.int .u64 0) := (blk_cell BK289.out 1).trans rfl; have hcz101_2 : w98.cell? ⟨gb289, 2, none⟩ = some (.slice none 0 0) := (blk_cell BK289.out 2).trans rfl; have hfz101_0 := blk_frozen BK289.out 0; have hfz101_1 := blk_frozen BK289.out 1; have hfz101_2 := blk_frozen BK289.out 2))
                        refine bodyPost_ret (results_cell_row rfl _ _ gb289 58 #[.int .i64 4, .int .u64 0, .slice none 0 0] (0, 0) _ rfl (by (with_reducible repeat (first | refine blk_drewN ?_ _ | refine blk_drew ?_ | refine blk_alloc ?_ _)); refine blk_put (cs := #[.int .i64 4, .int .u64 0, .slice none 0 0]) ?_ 2 _ rfl; (with_reducible repeat (first | refine blk_drewN ?_ _ | refine blk_drew ?_ | refine blk_alloc ?_ _)); refine blk_put (cs := #[.int .i64 4, .int .u64 0, .slice none 0 0]) ?_ 1 _ rfl; (with_reducible repeat (first | refine blk_drewN ?_ _ | refine blk_drew ?_ | refine blk_alloc ?_ _)); refine blk_put (cs := #[.int .i64 0, .int .u64 0, .slice none 0 0]) ?_ 0 _ rfl; (with_reducible repeat (first | refine blk_drewN ?_ _ | refine blk_drew ?_ | refine blk_alloc ?_ _)); exact BK289.out) Try.underlying58 rfl (by kernel_rfl)) rfl ?_
                        exact ⟨_, by first | rfl | (simp [errW_none, errW_some] <;> rfl) | (simp [*, errW_none, errW_some] <;> rfl), by first | exact Kd.R_nil _ _ _ _ _ | exact Kd.N_nil _ _ _ _ _ | exact Kd.V_nil _ _ _ _ _ | exact Kd.Q_nil _ _ _ _ _ | exact Kd.S_nil _ _ _ _ _, by repeat (first | (with_reducible first | exact HB.out | apply below_alloc | apply pw_below_drewN | apply below_drew1 | refine below_set ?_ GE289.out) | exact HB.out)⟩
                    · rw [if_neg c21] at H
                      exact absurd H (by simp)
                  · rw [if_neg c19] at H
                    exact absurd H (by simp)
                · rw [if_neg c18] at H
                  exact absurd H (by simp)
            · rw [if_neg c10] at H
              exact absurd H (by simp)
          · rw [if_neg c9] at H
            exact absurd H (by simp)
        · rw [if_neg c8] at H
          exact absurd H (by simp)

end Go.Proofs.Ytflmbjoipmglbaa.PFnExactJnlMend
