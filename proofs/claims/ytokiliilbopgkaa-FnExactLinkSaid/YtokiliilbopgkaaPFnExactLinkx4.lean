-- Written by a program of this session out of the translation. Not trusted: Lean checks it.
import Derived.Test.YtokiliilbopgkaaPFnExactLinkx0
import Derived.Test.YtokiliilbopgkaaPFnExactLinkx3
namespace Go.Proofs.Ytokiliilbopgkaa.PFnExactLink
open Go.RowKit Go.Proofs.YtokiliilbopgkaaW.PrintWords Go.Proofs.YtokiliilbopgkaaW.PrintLast Go.Proofs.YtokiliilbopgkaaW.PrintMore
attribute [local go_sem] max2_int min2_int max_two min_two max_three min_three max_four min_four   -- for this text's walks alone
set_option linter.unusedVariables false
set_option linter.unusedSimpArgs false
theorem Z4_40 {P : Prop} (h : P := by rfl) : P := h
theorem Z4_39 {P : Prop} (h : P := by (with_reducible repeat (first | apply Kd.R_alloc | apply Kd.R_drewN | apply Kd.R_drew)); exact HO149.out) : P := h
theorem Z4_38 {P : Prop} (h : P := by (with_reducible repeat (first | apply Kd.S_alloc | apply Kd.S_drewN | apply Kd.S_drew)); exact (Kd.S_mono (Kd.S_far (p := ⟨gb137, 1, none⟩) (Kd.S_types HO155.out BK137.out Z4_25) (fun _ hk => hk.2) (.slice Ao67 y153.length co67)) (fun _ h_ => h_.1))) : P := h
theorem Z4_37 {P : Prop} (h : P := by (with_reducible repeat (first | apply Kd.S_alloc | apply Kd.S_drewN | apply Kd.S_drew)); exact (Kd.S_mono (Kd.S_far (p := ⟨gb137, 1, none⟩) (Kd.S_types HO155.out BK137.out Z4_25) (fun _ hk => hk.2) (.slice Ao35 y153.length co35)) (fun _ h_ => h_.1))) : P := h
theorem Z4_36 {P : Prop} (h : P := by (with_reducible repeat (first | apply Kd.S_alloc | apply Kd.S_drewN | apply Kd.S_drew)); exact (Kd.S_mono (Kd.S_far (p := ⟨gb137, 1, none⟩) (Kd.S_types HO146.out BK137.out Z4_25) (fun _ hk => hk.2) (.slice Ao142 y144.length co142)) (fun _ h_ => h_.1))) : P := h
theorem Z4_35 {P : Prop} (h : P := by (with_reducible repeat (first | apply Kd.S_alloc | apply Kd.S_drewN | apply Kd.S_drew)); exact (Kd.S_mono (Kd.S_far (p := ⟨gb137, 1, none⟩) (Kd.S_types HO146.out BK137.out Z4_25) (fun _ hk => hk.2) (.slice Ao120 y144.length co120)) (fun _ h_ => h_.1))) : P := h
theorem Z4_34 {P : Prop} (h : P := by (with_reducible repeat (first | apply Kd.S_alloc | apply Kd.S_drewN | apply Kd.S_drew)); exact Kd.S_mono HO146.out (fun k_ hk => ⟨trivial, fun e_ => hk.2 e_⟩)) : P := h
theorem Z4_33 {P : Prop} (h : P := by rw [hg]; exact (below_size Z4_4)) : P := h
theorem Z4_32 {P : Prop} (h : P := by rw [hg]; exact (below_size Z4_5)) : P := h
theorem Z4_31 {P : Prop} (h : P := by rw [hg]; exact (below_size Z4_9)) : P := h
theorem Z4_30 {P : Prop} (h : P := by repeat (first | exact (Kd.C_below HR0_3.out HB.out) | (with_reducible refine Kd.C_alloc ?_ _) | (with_reducible refine Kd.C_drewN ?_ _) | (with_reducible refine Kd.C_drew ?_))) : P := h
theorem Z4_29 {P : Prop} (h : P := by (with_reducible repeat (first | apply blk_drewN | apply blk_drew | apply blk_alloc)); refine blk_put (cs := #[.int .i64 0, .slice none 0 0]) ?_ 1 _ rfl; (with_reducible repeat (first | apply blk_drewN | apply blk_drew | apply blk_alloc)); refine blk_put (cs := #[.int .i64 0, .slice none 0 0]) ?_ 0 _ rfl; (with_reducible repeat (first | apply blk_drewN | apply blk_drew | apply blk_alloc)); exact BK136.out) : P := h
theorem Z4_28 {P : Prop} (h : P := by (with_reducible repeat (first | apply blk_drewN | apply blk_drew | apply blk_alloc)); refine blk_put (cs := #[.int .i64 a0_4, .slice none 0 0]) ?_ 1 _ rfl; (with_reducible repeat (first | apply blk_drewN | apply blk_drew | apply blk_alloc)); refine blk_put (cs := #[.int .i64 0, .slice none 0 0]) ?_ 0 _ rfl; (with_reducible repeat (first | apply blk_drewN | apply blk_drew | apply blk_alloc)); exact BK136.out) : P := h
theorem Z4_27 {P : Prop} (h : P := by first | exact Kd.S_nil _ _ _ _ _ | exact Kd.N_nil _ _ _ _ _ | exact Kd.V_nil _ _ _ _ _ | exact Kd.Q_nil _ _ _ _ _ | exact Kd.R_nil _ _ _ _ _) : P := h
theorem Z4_26 {P : Prop} (h : P := by first | rfl | (simp [errW_none, errW_some] <;> rfl) | (simp [*, errW_none, errW_some] <;> rfl)) : P := h
theorem Z4_25 {P : Prop} (h : P := by decide) : P := h
theorem Z4_24 {P : Prop} (h : P := by (with_reducible repeat (first | apply Kd.S_alloc | apply Kd.S_drewN | apply Kd.S_drew)); exact HO146.out) : P := h
theorem Z4_23 {P : Prop} (h : P := by (with_reducible repeat (first | apply Kd.R_alloc | apply Kd.R_drewN | apply Kd.R_drew)); exact HO140.out) : P := h
theorem Z4_22 {P : Prop} (h : P := by (with_reducible repeat (first | apply blk_drewN | apply blk_drew | apply blk_alloc)); refine blk_put (cs := #[.int .i64 0, .slice none 0 0]) ?_ 1 _ rfl; (with_reducible repeat (first | apply blk_drewN | apply blk_drew | apply blk_alloc)); refine blk_put (cs := #[.int .i64 0, .slice none 0 0]) ?_ 0 _ rfl; (with_reducible repeat (first | apply blk_drewN | apply blk_drew | apply blk_alloc)); refine blk_far ?_ NB136_137.out _; (with_reducible repeat (first | apply blk_drewN | apply blk_drew | apply blk_alloc)); exact BK136.out) : P := h
theorem Z4_21 {P : Prop} (h : P := by rw [hg]; exact Nat.ne_of_gt (blk_lt (g := gb136) (o := .cells #[.int .i64 0, .slice none 0 0] 29 (0, 0)) Z4_3)) : P := h
theorem Z4_20 {P : Prop} (h : P := by rw [hg]; exact Nat.ne_of_lt (blk_lt (g := gb136) (o := .cells #[.int .i64 0, .slice none 0 0] 29 (0, 0)) Z4_3)) : P := h
theorem Z4_19 {P : Prop} (h : P := by simp [Value.ownBlock]) : P := h
theorem Z4_18 {P : Prop} (h : P := by repeat (first | exact (Kd.C_below HR0_2.out HB.out) | (with_reducible refine Kd.C_alloc ?_ _) | (with_reducible refine Kd.C_drewN ?_ _) | (with_reducible refine Kd.C_drew ?_))) : P := h
theorem Z4_17 {P : Prop} (h : P := by first | (go_simp; done) | (go_simp; rfl)) : P := h
theorem Z4_16 {P : Prop} (h : P := by (with_reducible repeat (first | apply blk_drewN | apply blk_drew | apply blk_alloc)); refine blk_put (cs := #[.int .i64 a0_4, .slice none 0 0]) ?_ 1 _ rfl; (with_reducible repeat (first | apply blk_drewN | apply blk_drew | apply blk_alloc)); exact BK137.out) : P := h
theorem Z4_15 {P : Prop} (h : P := by kernel_rfl) : P := h
theorem Z4_14 {P : Prop} (h : P := by (with_reducible repeat (first | apply blk_drewN | apply blk_drew | apply blk_alloc)); refine blk_far ?_ NB136_137.out _; (with_reducible repeat (first | apply blk_drewN | apply blk_drew | apply blk_alloc)); exact BK136.out) : P := h
theorem Z4_13 {P : Prop} (h : P := by (with_reducible repeat (first | apply blk_drewN | apply blk_drew | apply blk_alloc)); refine blk_far ?_ NB135_137.out _; (with_reducible repeat (first | apply blk_drewN | apply blk_drew | apply blk_alloc)); exact BK135.out) : P := h
theorem Z4_12 {P : Prop} (h : P := by (with_reducible repeat (first | apply blk_drewN | apply blk_drew | apply blk_alloc)); refine blk_far ?_ NB136_137.out _; (with_reducible repeat (first | apply blk_drewN | apply blk_drew | apply blk_alloc)); refine blk_far ?_ NB136_137.out _; (with_reducible repeat (first | apply blk_drewN | apply blk_drew | apply blk_alloc)); exact BK136.out) : P := h
theorem Z4_11 {P : Prop} (h : P := by (with_reducible repeat (first | apply blk_drewN | apply blk_drew | apply blk_alloc)); refine blk_far ?_ NB135_137.out _; (with_reducible repeat (first | apply blk_drewN | apply blk_drew | apply blk_alloc)); refine blk_far ?_ NB135_137.out _; (with_reducible repeat (first | apply blk_drewN | apply blk_drew | apply blk_alloc)); exact BK135.out) : P := h
theorem Z4_10 {P : Prop} (h : P := by (with_reducible repeat (first | apply blk_drewN | apply blk_drew | apply blk_alloc)); refine blk_put (cs := #[.int .i64 a0_4, .slice none 0 0]) ?_ 1 _ rfl; (with_reducible repeat (first | apply blk_drewN | apply blk_drew | apply blk_alloc)); refine blk_put (cs := #[.int .i64 0, .slice none 0 0]) ?_ 0 _ rfl; (with_reducible repeat (first | apply blk_drewN | apply blk_drew | apply blk_alloc)); exact BK137.out) : P := h
theorem Z4_9 {P : Prop} (h : P := by repeat (first | (with_reducible first | exact HB.out | apply below_alloc | apply pw_below_drewN | apply below_drew1) | exact HB.out)) : P := h
theorem Z4_8 {P : Prop} (h : P := by rw [hg]; exact Nat.ne_of_gt (blk_lt (g := gb135) (o := .cells #[.int .i64 a0_0, .int .i64 a0_1, .slice A0_2 l0_2.length c0_2, .slice A0_3 l0_3.length c0_3, .int .i64 a0_4, .slice A0_5 l0_5.length c0_5] 51 (0, 0)) Z4_2)) : P := h
theorem Z4_7 {P : Prop} (h : P := by rw [hg]; exact Nat.ne_of_lt (blk_lt (g := gb135) (o := .cells #[.int .i64 a0_0, .int .i64 a0_1, .slice A0_2 l0_2.length c0_2, .slice A0_3 l0_3.length c0_3, .int .i64 a0_4, .slice A0_5 l0_5.length c0_5] 51 (0, 0)) Z4_2)) : P := h
theorem Z4_6 {P : Prop} (h : P := by (with_reducible repeat (first | apply blk_drewN | apply blk_drew | apply blk_alloc)); exact BK137.out) : P := h
theorem Z4_5 {P : Prop} (h : P := by repeat (first | (with_reducible first | exact HB.out | apply below_alloc | apply pw_below_drewN | apply below_drew1 | refine below_set ?_ GE135.out) | exact HB.out)) : P := h
theorem Z4_4 {P : Prop} (h : P := by repeat (first | (with_reducible first | exact HB.out | apply below_alloc | apply pw_below_drewN | apply below_drew1 | refine below_set ?_ GE135.out | refine below_set ?_ GE136.out) | exact HB.out)) : P := h
theorem Z4_3 {P : Prop} (h : P := by (with_reducible repeat (first | apply blk_drewN | apply blk_drew | apply blk_alloc)); exact BK136.out) : P := h
theorem Z4_2 {P : Prop} (h : P := by (with_reducible repeat (first | apply blk_drewN | apply blk_drew | apply blk_alloc)); exact BK135.out) : P := h
theorem Z4_1 {P : Prop} (h : P := by repeat (first | (with_reducible first | exact HB.out | apply below_alloc | apply pw_below_drewN | apply below_drew1 | refine below_set ?_ GE135.out | refine below_set ?_ GE136.out | refine below_set ?_ GE137.out) | exact HB.out)) : P := h

/-! ### spec_Link: function 23 -/
def spec_Link.f (k : Nat) (a0_0 : Int) (a0_1 : Int) (l0_2 : List Int) (l0_3 : List Int) (a0_4 : Int) (l0_5 : List (S87)) : Option (Int × (List (S58)) × Bool) := (some (([] : List Int) : List Int)).bind fun y138 => (if y138.length + l0_2.length < 140737488355328 then (if ([] : List (S58)).length < 2932031007402 then ((some (([] : List (S58)) ++ [(⟨4096, 5, (l0_2.length : Int), (y138 ++ l0_2)⟩ : S58)] : List (S58))).bind fun y144 => (if (l0_3.length : Int) > 0 then ((some (([] : List Int) : List Int)).bind fun y147 => (if y147.length + l0_3.length < 140737488355328 then (if y144.length < 2932031007402 then ((some (y144 ++ [(⟨262144, 3, (l0_3.length : Int), (y147 ++ l0_3)⟩ : S58)] : List (S58))).bind fun y153 => (if a0_0 = 0 then ((spec_ImageOk.f k a0_4 y153).bind fun t156 => (if t156 = true then (some (a0_4, y153, true)) else (some (0, ([] : List (S58)), false)))) else (some (0, ([] : List (S58)), false)))) else (none)) else (none))) else (if a0_0 = 0 then ((spec_ImageOk.f k a0_4 y144).bind fun t157 => (if t157 = true then (some (a0_4, y144, true)) else (some (0, ([] : List (S58)), false)))) else (some (0, ([] : List (S58)), false))))) else (none)) else (none))
theorem spec_Link.mono : ∀ a0 a1 a2 a3 a4 a5 k, LeO (spec_Link.f k a0 a1 a2 a3 a4 a5) (spec_Link.f (k + 1) a0 a1 a2 a3 a4 a5) := by
 intro a0 a1 a2 a3 a4 a5 k
 unfold spec_Link.f
 repeat' first
   | (with_reducible exact spec_ImageOk.mono _ _ _)
   | (with_reducible exact LeO.refl _)
   | (with_reducible exact LeO.none _)
   | (with_reducible refine LeO.ite ?_ ?_)
   | (with_reducible refine LeO.bind ?_ (fun _ => ?_))
   | exact spec_ImageOk.mono _ _ _
   | exact LeO.none _
   | refine LeO.ite ?_ ?_
   | refine LeO.bind ?_ (fun _ => ?_)
def spec_Link.T2 : Bool × List (List Nat × List Nat) := (true, [([], []), ([0], [0]), ([], []), ([2], [2]), ([3], [3]), ([], []), ([], []), ([6], [6]), ([5, 7], [5, 7]), ([4, 8], [4, 8]), ([9], [9]), ([1, 10, 8], [1, 10]), ([0, 1, 2, 3, 4, 5, 6, 7, 8, 9, 10, 11], []), ([12, 11, 11, 0, 1, 2, 3, 4, 5, 6, 7, 8, 9, 10, 11], [11, 12])])
def spec_Link.B2 : List Nat := [0, 1, 0, 4, 12, 0, 0, 64, 224, 508, 1020, 2047, 4095, 8191]
theorem spec_Link.tab2 : rtab .any (opsOf Try.f23 2) = spec_Link.T2 := by kernel_rfl
theorem spec_Link.bits2 : waitsOk spec_Link.T2.2 spec_Link.B2 = true := by kernel_rfl
def spec_Link.T4 : Bool × List (List Nat × List Nat) := (true, [([], []), ([0], [0]), ([], []), ([2], [2]), ([3], [3]), ([], []), ([], []), ([6], [6]), ([5, 7], [5, 7]), ([4, 8], [4, 8]), ([9], [9]), ([1, 10, 8], [1, 10]), ([0, 1, 2, 3, 4, 5, 6, 7, 8, 9, 10, 11], []), ([12, 11, 11, 0, 1, 2, 3, 4, 5, 6, 7, 8, 9, 10, 11], [11, 12])])
def spec_Link.B4 : List Nat := [0, 1, 0, 4, 12, 0, 0, 64, 224, 508, 1020, 2047, 4095, 8191]
theorem spec_Link.tab4 : rtab .any (opsOf Try.f23 4) = spec_Link.T4 := by kernel_rfl
theorem spec_Link.bits4 : waitsOk spec_Link.T4.2 spec_Link.B4 = true := by kernel_rfl
set_option maxHeartbeats 8000000 in
set_option maxRecDepth 100000 in
theorem spec_Link.calls (k : Nat) (a0_0 : Int) (a0_1 : Int) (A0_2 : Option Addr) (c0_2 : Nat) (l0_2 : List Int) (A0_3 : Option Addr) (c0_3 : Nat) (l0_3 : List Int) (a0_4 : Int) (A0_5 : Option Addr) (c0_5 : Nat) (l0_5 : List (S87)) (r1 : Int) (r2 : List (S58)) (r3 : Bool) (w : World) (hr0_2 : Kd.C (Kd.int .u8) w A0_2 l0_2.length l0_2) (hc0_2 : l0_2.length ≤ c0_2) (hr0_3 : Kd.C (Kd.int .u8) w A0_3 l0_3.length l0_3) (hc0_3 : l0_3.length ≤ c0_3) (hr0_5 : Kd.C k87 w A0_5 l0_5.length l0_5) (hc0_5 : l0_5.length ≤ c0_5) (h : spec_Link.f k a0_0 a0_1 l0_2 l0_3 a0_4 l0_5 = some (r1, r2, r3)) :
  Calls Try.prog 23 #[.agg #[.int .i64 a0_0, .int .i64 a0_1, .slice A0_2 l0_2.length c0_2, .slice A0_3 l0_3.length c0_3, .int .i64 a0_4, .slice A0_5 l0_5.length c0_5]] w fun e w' => ∃ v1_ : Value, e = .returned (.tuple #[.agg #[.int .i64 r1, v1_], .bool r3]) ∧ Kd.S k58 58 w' w.heap.size (fun _ => True) v1_ r2 ∧ Below w.heap.size w w' := by
 have hu51 := Try.underlying51
 have hu29 := Try.underlying29
 have hu58 := Try.underlying58
 have HR0_2 := Aside0.mk hr0_2
 have HC0_2 := Aside0.mk hc0_2
 clear hr0_2 hc0_2
 have HR0_3 := Aside0.mk hr0_3
 have HC0_3 := Aside0.mk hc0_3
 clear hr0_3 hc0_3
 have HR0_5 := Aside0.mk hr0_5
 have HC0_5 := Aside0.mk hc0_5
 clear hr0_5 hc0_5
 have HB := Aside0.mk (Below.refl w.heap.size w)
 have H : ((some (([] : List Int) : List Int)).bind fun y138 => (if y138.length + l0_2.length < 140737488355328 then (if ([] : List (S58)).length < 2932031007402 then ((some (([] : List (S58)) ++ [(⟨4096, 5, (l0_2.length : Int), (y138 ++ l0_2)⟩ : S58)] : List (S58))).bind fun y144 => (if (l0_3.length : Int) > 0 then ((some (([] : List Int) : List Int)).bind fun y147 => (if y147.length + l0_3.length < 140737488355328 then (if y144.length < 2932031007402 then ((some (y144 ++ [(⟨262144, 3, (l0_3.length : Int), (y147 ++ l0_3)⟩ : S58)] : List (S58))).bind fun y153 => (if a0_0 = 0 then ((spec_ImageOk.f k a0_4 y153).bind fun t156 => (if t156 = true then (some (a0_4, y153, true)) else (some (0, ([] : List (S58)), false)))) else (some (0, ([] : List (S58)), false)))) else (none)) else (none))) else (if a0_0 = 0 then ((spec_ImageOk.f k a0_4 y144).bind fun t157 => (if t157 = true then (some (a0_4, y144, true)) else (some (0, ([] : List (S58)), false)))) else (some (0, ([] : List (S58)), false))))) else (none)) else (none))) = some (r1, r2, r3) := h
 clear h
 obtain ⟨y138, hy138⟩ : ∃ y_ : List Int, y_ = (([] : List Int)) := ⟨_, rfl⟩
 replace H : (if y138.length + l0_2.length < 140737488355328 then (if ([] : List (S58)).length < 2932031007402 then ((some (([] : List (S58)) ++ [(⟨4096, 5, (l0_2.length : Int), (y138 ++ l0_2)⟩ : S58)] : List (S58))).bind fun y144 => (if (l0_3.length : Int) > 0 then ((some (([] : List Int) : List Int)).bind fun y147 => (if y147.length + l0_3.length < 140737488355328 then (if y144.length < 2932031007402 then ((some (y144 ++ [(⟨262144, 3, (l0_3.length : Int), (y147 ++ l0_3)⟩ : S58)] : List (S58))).bind fun y153 => (if a0_0 = 0 then ((spec_ImageOk.f k a0_4 y153).bind fun t156 => (if t156 = true then (some (a0_4, y153, true)) else (some (0, ([] : List (S58)), false)))) else (some (0, ([] : List (S58)), false)))) else (none)) else (none))) else (if a0_0 = 0 then ((spec_ImageOk.f k a0_4 y144).bind fun t157 => (if t157 = true then (some (a0_4, y144, true)) else (some (0, ([] : List (S58)), false)))) else (some (0, ([] : List (S58)), false))))) else (none)) else (none)) = some (r1, r2, r3) := by first | (rw [hy138]; with_reducible exact H) | (have H2_ := (Option.bind_some _ _).symm.trans H; rw [hy138]; with_reducible exact H2_) | (have H2_ := (Option.bind_some _ _).symm.trans H; with_reducible exact H2_) | with_reducible exact H | (rw [hy138]; exact H) | exact H
 have Ny138 := Aside0.mk hy138
 clear hy138
 by_cases c2 : y138.length + l0_2.length < 140737488355328
 ·rw [if_pos c2] at H
  have LMc2 := Aside0.mk c2
  clear c2
  obtain ⟨y141, hy141⟩ : ∃ y_ : List Int, y_ = (y138 ++ l0_2) := ⟨_, rfl⟩
  replace H : (if ([] : List (S58)).length < 2932031007402 then ((some (([] : List (S58)) ++ [(⟨4096, 5, (l0_2.length : Int), y141⟩ : S58)] : List (S58))).bind fun y144 => (if (l0_3.length : Int) > 0 then ((some (([] : List Int) : List Int)).bind fun y147 => (if y147.length + l0_3.length < 140737488355328 then (if y144.length < 2932031007402 then ((some (y144 ++ [(⟨262144, 3, (l0_3.length : Int), (y147 ++ l0_3)⟩ : S58)] : List (S58))).bind fun y153 => (if a0_0 = 0 then ((spec_ImageOk.f k a0_4 y153).bind fun t156 => (if t156 = true then (some (a0_4, y153, true)) else (some (0, ([] : List (S58)), false)))) else (some (0, ([] : List (S58)), false)))) else (none)) else (none))) else (if a0_0 = 0 then ((spec_ImageOk.f k a0_4 y144).bind fun t157 => (if t157 = true then (some (a0_4, y144, true)) else (some (0, ([] : List (S58)), false)))) else (some (0, ([] : List (S58)), false))))) else (none)) = some (r1, r2, r3) := by first | (rw [hy141]; with_reducible exact H) | (have H2_ := (Option.bind_some _ _).symm.trans H; rw [hy141]; with_reducible exact H2_) | (have H2_ := (Option.bind_some _ _).symm.trans H; with_reducible exact H2_) | with_reducible exact H | (rw [hy141]; exact H) | exact H
  have Ny141 := Aside0.mk hy141
  clear hy141
  by_cases c3 : ([] : List (S58)).length < 2932031007402
  ·rw [if_pos c3] at H
   have LMc3 := Aside0.mk c3
   clear c3
   obtain ⟨y144, hy144⟩ : ∃ y_ : List (S58), y_ = (([] : List (S58)) ++ [(⟨4096, 5, (l0_2.length : Int), y141⟩ : S58)]) := ⟨_, rfl⟩
   replace H : (if (l0_3.length : Int) > 0 then ((some (([] : List Int) : List Int)).bind fun y147 => (if y147.length + l0_3.length < 140737488355328 then (if y144.length < 2932031007402 then ((some (y144 ++ [(⟨262144, 3, (l0_3.length : Int), (y147 ++ l0_3)⟩ : S58)] : List (S58))).bind fun y153 => (if a0_0 = 0 then ((spec_ImageOk.f k a0_4 y153).bind fun t156 => (if t156 = true then (some (a0_4, y153, true)) else (some (0, ([] : List (S58)), false)))) else (some (0, ([] : List (S58)), false)))) else (none)) else (none))) else (if a0_0 = 0 then ((spec_ImageOk.f k a0_4 y144).bind fun t157 => (if t157 = true then (some (a0_4, y144, true)) else (some (0, ([] : List (S58)), false)))) else (some (0, ([] : List (S58)), false)))) = some (r1, r2, r3) := by first | (rw [hy144]; with_reducible exact H) | (have H2_ := (Option.bind_some _ _).symm.trans H; rw [hy144]; with_reducible exact H2_) | (have H2_ := (Option.bind_some _ _).symm.trans H; with_reducible exact H2_) | with_reducible exact H | (rw [hy144]; exact H) | exact H
   have Ny144 := Aside0.mk hy144
   clear hy144
   by_cases c4 : (l0_3.length : Int) > 0
   ·rw [if_pos c4] at H
    have c4b0 : decide (0 < (l0_3.length : Int)) = true := decide_eq_true c4
    have c4b1 : decide (0 < l0_3.length) = true := decide_eq_true (by omega)
    clear c4
    obtain ⟨y147, hy147⟩ : ∃ y_ : List Int, y_ = (([] : List Int)) := ⟨_, rfl⟩
    replace H : (if y147.length + l0_3.length < 140737488355328 then (if y144.length < 2932031007402 then ((some (y144 ++ [(⟨262144, 3, (l0_3.length : Int), (y147 ++ l0_3)⟩ : S58)] : List (S58))).bind fun y153 => (if a0_0 = 0 then ((spec_ImageOk.f k a0_4 y153).bind fun t156 => (if t156 = true then (some (a0_4, y153, true)) else (some (0, ([] : List (S58)), false)))) else (some (0, ([] : List (S58)), false)))) else (none)) else (none)) = some (r1, r2, r3) := by first | (rw [hy147]; with_reducible exact H) | (have H2_ := (Option.bind_some _ _).symm.trans H; rw [hy147]; with_reducible exact H2_) | (have H2_ := (Option.bind_some _ _).symm.trans H; with_reducible exact H2_) | with_reducible exact H | (rw [hy147]; exact H) | exact H
    have Ny147 := Aside0.mk hy147
    clear hy147
    by_cases c5 : y147.length + l0_3.length < 140737488355328
    ·rw [if_pos c5] at H
     have LMc5 := Aside0.mk c5
     clear c5
     obtain ⟨y150, hy150⟩ : ∃ y_ : List Int, y_ = (y147 ++ l0_3) := ⟨_, rfl⟩
     replace H : (if y144.length < 2932031007402 then ((some (y144 ++ [(⟨262144, 3, (l0_3.length : Int), y150⟩ : S58)] : List (S58))).bind fun y153 => (if a0_0 = 0 then ((spec_ImageOk.f k a0_4 y153).bind fun t156 => (if t156 = true then (some (a0_4, y153, true)) else (some (0, ([] : List (S58)), false)))) else (some (0, ([] : List (S58)), false)))) else (none)) = some (r1, r2, r3) := by first | (rw [hy150]; with_reducible exact H) | (have H2_ := (Option.bind_some _ _).symm.trans H; rw [hy150]; with_reducible exact H2_) | (have H2_ := (Option.bind_some _ _).symm.trans H; with_reducible exact H2_) | with_reducible exact H | (rw [hy150]; exact H) | exact H
     have Ny150 := Aside0.mk hy150
     clear hy150
     by_cases c6 : y144.length < 2932031007402
     ·rw [if_pos c6] at H
      have LMc6 := Aside0.mk c6
      clear c6
      obtain ⟨y153, hy153⟩ : ∃ y_ : List (S58), y_ = (y144 ++ [(⟨262144, 3, (l0_3.length : Int), y150⟩ : S58)]) := ⟨_, rfl⟩
      replace H : (if a0_0 = 0 then ((spec_ImageOk.f k a0_4 y153).bind fun t156 => (if t156 = true then (some (a0_4, y153, true)) else (some (0, ([] : List (S58)), false)))) else (some (0, ([] : List (S58)), false))) = some (r1, r2, r3) := by first | (rw [hy153]; with_reducible exact H) | (have H2_ := (Option.bind_some _ _).symm.trans H; rw [hy153]; with_reducible exact H2_) | (have H2_ := (Option.bind_some _ _).symm.trans H; with_reducible exact H2_) | with_reducible exact H | (rw [hy153]; exact H) | exact H
      have Ny153 := Aside0.mk hy153
      clear hy153
      by_cases c7 : a0_0 = 0
      ·rw [if_pos c7] at H
       have c7b0 : (a0_0 == 0) = true := beq_iff_eq.mpr c7
       have c7b1 : (a0_0 != 0) = false := bne_eq_false_iff_eq.mpr c7
       clear c7
       replace H := Option.bind_eq_some_iff.mp H
       obtain ⟨t156, A80, H⟩ := H
       replace H : (if t156 = true then (some (a0_4, y153, true)) else (some (0, ([] : List (S58)), false))) = some (r1, r2, r3) := H
       have A8 := Aside0.mk A80
       clear A80
       by_cases c9 : t156 = true
       ·subst c9
        have H1 : (some (a0_4, y153, true)) = some (r1, r2, r3) := by rw [if_pos rfl] at H; exact H
        clear H
        have H := H1
        clear H1
        simp only [Option.some.injEq, Prod.mk.injEq] at H
        obtain ⟨rfl, rfl, rfl⟩ := H
        go_enter Try.func23, Try.ntmps23
        try go_wp2_with (first | ((with_reducible refine gate_dst (N := 1) rfl ?_); refine box_event ?hg (N := 1) ?hd (cs := #[.int .i64 a0_0, .int .i64 a0_1, .slice A0_2 l0_2.length c0_2, .slice A0_3 l0_3.length c0_3, .int .i64 a0_4, .slice A0_5 l0_5.length c0_5]) (t := 51) ?hr ?_; (case hd => rfl); (case hg => rfl); (case hr => exact Z4_17); intro gb135 hg w10 hbox hb; have n0_ := Aside0.mk (below_step Z4_9 hb); have n1_ := Aside0.mk (hbox); have n2_ := Aside0.mk ((Z4_31 : w.heap.size ≤ gb135)); have n3_ := Aside0.mk ((Z4_31 : w.heap.size ≤ gb135)); clear HB; have HB := n0_; have BK135 := n1_; have GW135 := n2_; have GE135 := n3_; clear n0_ n1_ n2_ n3_; clear hb hbox hg) | ((with_reducible refine gate_dst (N := 2) rfl ?_); refine box_event ?hg (N := 2) ?hd (cs := #[.int .i64 0, .slice none 0 0]) (t := 29) ?hr ?_; (case hd => rfl); (case hg => rfl); (case hr => exact Z4_17); intro gb136 hg w11 hbox hb; have n0_ := Aside0.mk (blk_below (g := gb135) (o := .cells #[.int .i64 a0_0, .int .i64 a0_1, .slice A0_2 l0_2.length c0_2, .slice A0_3 l0_3.length c0_3, .int .i64 a0_4, .slice A0_5 l0_5.length c0_5] 51 (0, 0)) Z4_2 hb); have n1_ := Aside0.mk (below_step Z4_5 hb); have n2_ := Aside0.mk (hbox); have n3_ := Aside0.mk ((Z4_32 : w.heap.size ≤ gb136)); have n4_ := Aside0.mk ((Z4_32 : w.heap.size ≤ gb136)); have n5_ := Aside0.mk ((Z4_7 : gb135 ≠ gb136)); have n6_ := Aside0.mk ((Z4_8 : gb136 ≠ gb135)); clear BK135; clear HB; have BK135 := n0_; have HB := n1_; have BK136 := n2_; have GW136 := n3_; have GE136 := n4_; have NB135_136 := n5_; have NB136_135 := n6_; clear n0_ n1_ n2_ n3_ n4_ n5_ n6_; clear hb hbox hg; have hnb12 := NB135_136.out; have hnc12 := NB136_135.out; have hcz13_0 : w11.cell? ⟨gb135, 0, none⟩ = some (.int .i64 a0_0) := (blk_cell BK135.out 0).trans rfl; have hcz13_1 : w11.cell? ⟨gb135, 1, none⟩ = some (.int .i64 a0_1) := (blk_cell BK135.out 1).trans rfl; have hcz13_2 : w11.cell? ⟨gb135, 2, none⟩ = some (.slice A0_2 l0_2.length c0_2) := (blk_cell BK135.out 2).trans rfl; have hcz13_3 : w11.cell? ⟨gb135, 3, none⟩ = some (.slice A0_3 l0_3.length c0_3) := (blk_cell BK135.out 3).trans rfl; have hcz13_4 : w11.cell? ⟨gb135, 4, none⟩ = some (.int .i64 a0_4) := (blk_cell BK135.out 4).trans rfl; have hcz13_5 : w11.cell? ⟨gb135, 5, none⟩ = some (.slice A0_5 l0_5.length c0_5) := (blk_cell BK135.out 5).trans rfl; have hfz13_0 := blk_frozen BK135.out 0; have hfz13_1 := blk_frozen BK135.out 1; have hfz13_2 := blk_frozen BK135.out 2; have hfz13_3 := blk_frozen BK135.out 3; have hfz13_4 := blk_frozen BK135.out 4; have hfz13_5 := blk_frozen BK135.out 5) | ((with_reducible refine gate_dst (N := 4) rfl ?_); refine box_event ?hg (N := 4) ?hd (cs := #[.int .i64 0, .slice none 0 0]) (t := 29) ?hr ?_; (case hd => rfl); (case hg => rfl); (case hr => exact Z4_17); intro gb137 hg w14 hbox hb; have n0_ := Aside0.mk (blk_below (g := gb135) (o := .cells #[.int .i64 a0_0, .int .i64 a0_1, .slice A0_2 l0_2.length c0_2, .slice A0_3 l0_3.length c0_3, .int .i64 a0_4, .slice A0_5 l0_5.length c0_5] 51 (0, 0)) Z4_2 hb); have n1_ := Aside0.mk (blk_below (g := gb136) (o := .cells #[.int .i64 0, .slice none 0 0] 29 (0, 0)) Z4_3 hb); have n2_ := Aside0.mk (below_step Z4_4 hb); have n3_ := Aside0.mk (hbox); have n4_ := Aside0.mk ((Z4_33 : w.heap.size ≤ gb137)); have n5_ := Aside0.mk ((Z4_33 : w.heap.size ≤ gb137)); have n6_ := Aside0.mk ((Z4_7 : gb135 ≠ gb137)); have n7_ := Aside0.mk ((Z4_8 : gb137 ≠ gb135)); have n8_ := Aside0.mk ((Z4_20 : gb136 ≠ gb137)); have n9_ := Aside0.mk ((Z4_21 : gb137 ≠ gb136)); clear BK135; clear BK136; clear HB; have BK135 := n0_; have BK136 := n1_; have HB := n2_; have BK137 := n3_; have GW137 := n4_; have GE137 := n5_; have NB135_137 := n6_; have NB137_135 := n7_; have NB136_137 := n8_; have NB137_136 := n9_; clear n0_ n1_ n2_ n3_ n4_ n5_ n6_ n7_ n8_ n9_; clear hb hbox hg; have hnb15 := NB137_135.out; have hnc15 := NB135_137.out; have hnb16 := NB137_136.out; have hnc16 := NB136_137.out; have hcz17_0 : w14.cell? ⟨gb137, 0, none⟩ = some (.int .i64 0) := (blk_cell BK137.out 0).trans rfl; have hcz17_1 : w14.cell? ⟨gb137, 1, none⟩ = some (.slice none 0 0) := (blk_cell BK137.out 1).trans rfl; have hfz17_0 := blk_frozen BK137.out 0; have hfz17_1 := blk_frozen BK137.out 1))
        have n0_ : Aside0 (((w14.setCell ⟨gb137, 0, none⟩ (.int .i64 a0_4)).setCell ⟨gb137, 1, none⟩ (.slice none 0 0)).heap[gb135]? = some (.cells #[.int .i64 a0_0, .int .i64 a0_1, .slice A0_2 l0_2.length c0_2, .slice A0_3 l0_3.length c0_3, .int .i64 a0_4, .slice A0_5 l0_5.length c0_5] 51 (0, 0))) := ⟨Z4_11⟩
        have n1_ : Aside0 (((w14.setCell ⟨gb137, 0, none⟩ (.int .i64 a0_4)).setCell ⟨gb137, 1, none⟩ (.slice none 0 0)).heap[gb136]? = some (.cells #[.int .i64 0, .slice none 0 0] 29 (0, 0))) := ⟨Z4_12⟩
        have n2_ : Aside0 (((w14.setCell ⟨gb137, 0, none⟩ (.int .i64 a0_4)).setCell ⟨gb137, 1, none⟩ (.slice none 0 0)).heap[gb137]? = some (.cells #[.int .i64 a0_4, .slice none 0 0] 29 (0, 0))) := ⟨Z4_10⟩
        have n3_ : Aside0 (Below w.heap.size w ((w14.setCell ⟨gb137, 0, none⟩ (.int .i64 a0_4)).setCell ⟨gb137, 1, none⟩ (.slice none 0 0))) := ⟨Z4_1⟩
        (try clear BK135)
        (try clear BK136)
        (try clear BK137)
        (try clear HB)
        generalize ((w14.setCell ⟨gb137, 0, none⟩ (.int .i64 a0_4)).setCell ⟨gb137, 1, none⟩ (.slice none 0 0)) = w18 at n0_ n1_ n2_ n3_ ⊢
        have BK135 := n0_
        have BK136 := n1_
        have BK137 := n2_
        have HB := n3_
        clear n0_ n1_ n2_ n3_
        have n0_ := Aside0.mk (blk_drew BK135.out)
        have n1_ := Aside0.mk (blk_drew BK136.out)
        have n2_ := Aside0.mk (blk_drew BK137.out)
        have n3_ := Aside0.mk (below_drew1 HB.out)
        clear BK135
        clear BK136
        clear BK137
        clear HB
        have BK135 := n0_
        have BK136 := n1_
        have BK137 := n2_
        have HB := n3_
        clear n0_ n1_ n2_ n3_
        refine start_ (n := 14) (S := fun w' => w'.cell? ⟨gb137, 0, none⟩ = some (.int .i64 a0_4) ∧ w'.cell? ⟨gb137, 1, none⟩ = some (.slice none 0 0) ∧ w'.cell? ⟨gb135, 0, none⟩ = some (.int .i64 a0_0) ∧ w'.cell? ⟨gb135, 1, none⟩ = some (.int .i64 a0_1) ∧ w'.cell? ⟨gb135, 2, none⟩ = some (.slice A0_2 l0_2.length c0_2) ∧ w'.cell? ⟨gb135, 3, none⟩ = some (.slice A0_3 l0_3.length c0_3) ∧ w'.cell? ⟨gb135, 4, none⟩ = some (.int .i64 a0_4) ∧ w'.cell? ⟨gb135, 5, none⟩ = some (.slice A0_5 l0_5.length c0_5)) (ds := [13]) #[false, false, false, false, false, false, false, false, false, false, false, false, false, false] Z4_15 rfl rfl ⟨(blk_cell BK137.out 0).trans rfl, (blk_cell BK137.out 1).trans rfl, (blk_cell BK135.out 0).trans rfl, (blk_cell BK135.out 1).trans rfl, (blk_cell BK135.out 2).trans rfl, (blk_cell BK135.out 3).trans rfl, (blk_cell BK135.out 4).trans rfl, (blk_cell BK135.out 5).trans rfl⟩ (fun hHeld => ?_); refine with_tabW spec_Link.tab2 spec_Link.bits2 (fun HT_ HW_ => ?_)
        generalize w18.drew = w19 at BK135 BK136 BK137 HB hHeld ⊢
        refine pure_ (i := 0) (N := some 8) (v := ?_) (a' := ?_) #[true, false, false, false, false, false, false, false, false, false, false, false, false, false] rfl rfl (any_of HT_.out Z4_15) (fun _ _ _ h => h) (Or.inl ⟨Z4_40, ?_⟩) ?_ ?_
        rotate_left
        ·intro w'
         go_simp
         with_reducible rfl
        rotate_left
        ·simp only [Act.put, List.setIfInBounds_toArray, List.set_cons_zero, List.set_cons_succ, i64_w, i32_w]
         rfl
        refine pure_ (i := 2) (N := some 10) (v := ?_) (a' := ?_) #[true, false, true, false, false, false, false, false, false, false, false, false, false, false] rfl rfl (any_of HT_.out Z4_15) (fun _ _ _ h => h) (Or.inl ⟨Z4_40, ?_⟩) ?_ ?_
        rotate_left
        ·intro w'
         go_simp
         with_reducible rfl
        rotate_left
        ·simp only [Act.put, List.setIfInBounds_toArray, List.set_cons_zero, List.set_cons_succ, i64_w, i32_w]
         rfl
        refine pure_ (i := 6) (N := some 14) (v := ?_) (a' := ?_) #[true, false, true, false, false, false, true, false, false, false, false, false, false, false] rfl rfl (any_of HT_.out Z4_15) (fun _ _ _ h => h) (Or.inl ⟨Z4_40, ?_⟩) ?_ ?_
        rotate_left
        ·intro w'
         go_simp
         with_reducible rfl
        rotate_left
        ·simp only [Act.put, List.setIfInBounds_toArray, List.set_cons_zero, List.set_cons_succ, i64_w, i32_w]
         rfl
        refine take_ (i := 1) (N := some 9) (v := ?_) (a' := ?_) #[true, true, true, false, false, false, true, false, false, false, false, false, false, false] rfl rfl (take_ofW HT_.out HW_.out Z4_15) (fun _ _ _ h => h) (Or.inl ⟨Z4_40, ?_⟩) hHeld ?_ ?_
        rotate_left
        ·rintro w' ⟨s0, s1, s2, s3, s4, s5, s6, s7⟩
         go_simp
         with_reducible rfl
        rotate_left
        ·simp only [Act.put, List.setIfInBounds_toArray, List.set_cons_zero, List.set_cons_succ, i64_w, i32_w]
         rfl
        refine take_ (i := 3) (N := some 11) (v := ?_) (a' := ?_) #[true, true, true, true, false, false, true, false, false, false, false, false, false, false] rfl rfl (take_ofW HT_.out HW_.out Z4_15) (fun _ _ _ h => h) (Or.inl ⟨Z4_40, ?_⟩) hHeld ?_ ?_
        rotate_left
        ·rintro w' ⟨s0, s1, s2, s3, s4, s5, s6, s7⟩
         go_simp
         with_reducible rfl
        rotate_left
        ·simp only [Act.put, List.setIfInBounds_toArray, List.set_cons_zero, List.set_cons_succ, i64_w, i32_w]
         rfl
        refine pure_ (i := 4) (N := some 12) (v := ?_) (a' := ?_) #[true, true, true, true, true, false, true, false, false, false, false, false, false, false] rfl rfl (any_of HT_.out Z4_15) (fun _ _ _ h => h) (Or.inl ⟨Z4_40, ?_⟩) ?_ ?_
        rotate_left
        ·intro w'
         go_simp
         with_reducible rfl
        rotate_left
        ·simp only [Act.put, List.setIfInBounds_toArray, List.set_cons_zero, List.set_cons_succ, i64_w, i32_w]
         rfl
        refine take_ (i := 7) (N := some 15) (v := ?_) (a' := ?_) #[true, true, true, true, true, false, true, true, false, false, false, false, false, false] rfl rfl (take_ofW HT_.out HW_.out Z4_15) (fun _ _ _ h => h) (Or.inl ⟨Z4_40, ?_⟩) hHeld ?_ ?_
        rotate_left
        ·rintro w' ⟨s0, s1, s2, s3, s4, s5, s6, s7⟩
         go_simp
         with_reducible rfl
        rotate_left
        ·simp only [Act.put, List.setIfInBounds_toArray, List.set_cons_zero, List.set_cons_succ, i64_w, i32_w]
         rfl
        refine one_ (i := 5) (N := some 13) #[true, true, true, true, true, true, true, true, false, false, false, false, false, false] rfl rfl (one_of HT_.out Z4_15) Z4_25 (fun K hK => ?_)
        refine Kd.R_lit_step (Kd.int .u8) _ 5 ?hg (N := 13) ?hd (xs := ([] : List Int)) (inner := []) (ok := fun _ => True) (okp := fun _ => True) ?hr ?hp (fun _ hk => hk) trivial (Below.refl _ _) (Nat.le_refl _) (by simp) ?_; (case hd => rfl); (case hg => rfl); (case hr => exact Z4_17); (case hp => exact (Reps.none _ _))
        intro v139 w20 ho21 hb hg_ hnew_
        clear hg_ hnew_
        (first | rw [← Ny138.out] at ho21 | (simp only [Int.reduceToNat] at ho21; rw [← Ny138.out] at ho21))
        have n0_ := Aside0.mk (Kd.R_lower ho21 (below_size Z4_1))
        have n1_ := Aside0.mk (blk_below (g := gb135) (o := .cells #[.int .i64 a0_0, .int .i64 a0_1, .slice A0_2 l0_2.length c0_2, .slice A0_3 l0_3.length c0_3, .int .i64 a0_4, .slice A0_5 l0_5.length c0_5] 51 (0, 0)) Z4_2 hb)
        have n2_ := Aside0.mk (blk_below (g := gb136) (o := .cells #[.int .i64 0, .slice none 0 0] 29 (0, 0)) Z4_3 hb)
        have n3_ := Aside0.mk (blk_below (g := gb137) (o := .cells #[.int .i64 a0_4, .slice none 0 0] 29 (0, 0)) Z4_6 hb)
        have n4_ := Aside0.mk (below_step Z4_1 hb)
        clear BK135
        clear BK136
        clear BK137
        clear HB
        have HO140 := n0_
        have BK135 := n1_
        have BK136 := n2_
        have BK137 := n3_
        have HB := n4_
        clear n0_ n1_ n2_ n3_ n4_
        clear hb ho21
        refine hK.out _ _ ⟨(blk_cell BK137.out 0).trans rfl, (blk_cell BK137.out 1).trans rfl, (blk_cell BK135.out 0).trans rfl, (blk_cell BK135.out 1).trans rfl, (blk_cell BK135.out 2).trans rfl, (blk_cell BK135.out 3).trans rfl, (blk_cell BK135.out 4).trans rfl, (blk_cell BK135.out 5).trans rfl⟩ (fun hHeld => ?_)
        clear hK K
        refine norm_ (a' := ?_) ?_ ?_
        rotate_left
        ·show Act.put _ (some 13) _ = _
         simp only [Act.put, List.setIfInBounds_toArray, List.set_cons_zero, List.set_cons_succ, i64_w, i32_w]
         rfl
        refine one_ (i := 8) (N := some 16) #[true, true, true, true, true, true, true, true, true, false, false, false, false, false] rfl rfl (one_of HT_.out Z4_15) Z4_25 (fun K hK => ?_)
        refine Kd.R_append_rows_step (Kd.int .u8) (w0 := w) w.heap.size Z4_40 (.tmp 13) (.tmp 15) 33 5 (.int .u8 0) 1 rfl Try.underlying33 info5 rfl Z4_25 (by omega) v139 y138 l0_2 _ _ _ (fun _ => True) (fun _ => False) rfl rfl ?aO ?aR (fun _ _ h => h) (fun _ h => h.elim) ?aF ?aB ?aS ?aL ?_
        (case aR => exact Z4_18)
        (case aB => exact Z4_1)
        (case aF => exact (fun _ _ => trivial))
        (case aO => exact Z4_23)
        (case aS => exact (below_size Z4_1))
        (case aL => have := LMc2.out; omega)
        intro v142 w22 ho hb hg hat
        rw [← Ny141.out] at ho
        have n0_ := Aside0.mk (blk_grown (g := gb135) (o := .cells #[.int .i64 a0_0, .int .i64 a0_1, .slice A0_2 l0_2.length c0_2, .slice A0_3 l0_3.length c0_3, .int .i64 a0_4, .slice A0_5 l0_5.length c0_5] 51 (0, 0)) Z4_2 hg (Kd.R_ne HO140.out BK135.out Z4_25))
        have n1_ := Aside0.mk (blk_grown (g := gb136) (o := .cells #[.int .i64 0, .slice none 0 0] 29 (0, 0)) Z4_3 hg (Kd.R_ne HO140.out BK136.out Z4_25))
        have n2_ := Aside0.mk (blk_grown (g := gb137) (o := .cells #[.int .i64 a0_4, .slice none 0 0] 29 (0, 0)) Z4_6 hg (Kd.R_ne HO140.out BK137.out Z4_25))
        have n3_ := Aside0.mk (hb)
        have n4_ := Aside0.mk (ho)
        clear BK135
        clear BK136
        clear BK137
        clear HB
        clear HO140
        have BK135 := n0_
        have BK136 := n1_
        have BK137 := n2_
        have HB := n3_
        have HO143 := n4_
        clear n0_ n1_ n2_ n3_ n4_
        clear ho hb hg hat
        obtain ⟨Ao23, co23, eo23⟩ := Kd.R_slice HO143.out
        (first | subst eo23 | (injection eo23 with f1_ f2_ f3_; have f4_ := f1_.symm; have f5_ := f3_.symm; clear f1_ f2_ f3_; subst f4_; subst f5_))
        refine hK.out _ _ ⟨(blk_cell BK137.out 0).trans rfl, (blk_cell BK137.out 1).trans rfl, (blk_cell BK135.out 0).trans rfl, (blk_cell BK135.out 1).trans rfl, (blk_cell BK135.out 2).trans rfl, (blk_cell BK135.out 3).trans rfl, (blk_cell BK135.out 4).trans rfl, (blk_cell BK135.out 5).trans rfl⟩ (fun hHeld => ?_)
        clear hK K
        refine norm_ (a' := ?_) ?_ ?_
        rotate_left
        ·show Act.put _ (some 16) _ = _
         simp only [Act.put, List.setIfInBounds_toArray, List.set_cons_zero, List.set_cons_succ, i64_w, i32_w]
         rfl
        refine pure_ (i := 9) (N := some 17) (v := ?_) (a' := ?_) #[true, true, true, true, true, true, true, true, true, true, false, false, false, false] rfl rfl (any_of HT_.out Z4_15) (fun _ _ _ h => h) (Or.inl ⟨Z4_40, ?_⟩) ?_ ?_
        rotate_left
        ·intro w'
         go_simp
         with_reducible rfl
        rotate_left
        ·simp only [Act.put, List.setIfInBounds_toArray, List.set_cons_zero, List.set_cons_succ, i64_w, i32_w]
         rfl
        refine one_ (i := 10) (N := some 18) #[true, true, true, true, true, true, true, true, true, true, true, false, false, false] rfl rfl (one_of HT_.out Z4_15) Z4_25 (fun K hK => ?_)
        refine value_ (w1 := ?_) (v := ?_) Z4_40 rfl ?_ ?_
        rotate_left 2
        ·go_simp
         constructor
         ·rfl
         rfl
        refine hK.out _ _ ⟨(blk_cell (blk_alloc BK137.out _) 0).trans rfl, (blk_cell (blk_alloc BK137.out _) 1).trans rfl, (blk_cell (blk_alloc BK135.out _) 0).trans rfl, (blk_cell (blk_alloc BK135.out _) 1).trans rfl, (blk_cell (blk_alloc BK135.out _) 2).trans rfl, (blk_cell (blk_alloc BK135.out _) 3).trans rfl, (blk_cell (blk_alloc BK135.out _) 4).trans rfl, (blk_cell (blk_alloc BK135.out _) 5).trans rfl⟩ (fun hHeld => ?_)
        clear hK K
        refine norm_ (a' := ?_) ?_ ?_
        rotate_left
        ·show Act.put _ (some 18) _ = _
         simp only [Act.put, List.setIfInBounds_toArray, List.set_cons_zero, List.set_cons_succ, i64_w, i32_w]
         rfl
        refine one_ (i := 11) (N := some 19) #[true, true, true, true, true, true, true, true, true, true, true, true, false, false] rfl rfl (one_of HT_.out Z4_15) Z4_25 (fun K hK => ?_)
        refine Kd.S_append_step k58 (w0 := w) w.heap.size Z4_40 (.tmp 9) (.tmp 18) 27 58 (.agg #[(.int .i64 0), (.int .i64 0), (.int .i64 0), (.slice none 0 0)]) 48 rfl Try.underlying27 info58 rfl Z4_25 (by omega) (.slice none 0 0) ([] : List (S58)) (⟨4096, 5, (l0_2.length : Int), y141⟩ : S58) [.int .i64 4096, .int .i64 5, .int .i64 (l0_2.length : Int), .slice Ao23 y141.length co23] (fun _ => True) (fun k_ => some k_ = (.slice Ao23 y141.length co23 : Value).ownBlock) rfl rfl ?aP (fun k_ hk_ => ((Kd.R_mono (ok' := fun k_ => ((fun _ => True)) k_ ∧ some k_ ≠ (.slice none 0 0 : Value).ownBlock) (HO143.out) (fun k_ hk => ⟨trivial, Z4_19⟩))).1 k_ hk_.symm) ?aF ?aO ?aB ?aS ?aL ?_
        (case aP => exact k58_mkM _ _ _ (⟨4096, 5, (l0_2.length : Int), y141⟩ : S58) (Kd.R_mono (Kd.R_tight rfl (Kd.R_mono (ok' := fun k_ => ((fun _ => True)) k_ ∧ some k_ ≠ (.slice none 0 0 : Value).ownBlock) (HO143.out) (fun k_ hk => ⟨trivial, Z4_19⟩))) (fun _ h_ => h_)))
        (case aB => exact Z4_1)
        (case aF => exact (fun _ _ => trivial))
        (case aO => exact ((Kd.S_nil _ _ _ _ _)))
        (case aS => exact (below_size Z4_1))
        (case aL => have := LMc3.out; omega)
        intro v145 w24 ho hb hg hat
        rw [← Ny144.out] at ho
        have n0_ := Aside0.mk (blk_grown (g := gb135) (o := .cells #[.int .i64 a0_0, .int .i64 a0_1, .slice A0_2 l0_2.length c0_2, .slice A0_3 l0_3.length c0_3, .int .i64 a0_4, .slice A0_5 l0_5.length c0_5] 51 (0, 0)) Z4_2 hg Z4_19)
        have n1_ := Aside0.mk (blk_grown (g := gb136) (o := .cells #[.int .i64 0, .slice none 0 0] 29 (0, 0)) Z4_3 hg Z4_19)
        have n2_ := Aside0.mk (blk_grown (g := gb137) (o := .cells #[.int .i64 a0_4, .slice none 0 0] 29 (0, 0)) Z4_6 hg Z4_19)
        have n3_ := Aside0.mk (hb)
        have n4_ := Aside0.mk (ho)
        clear BK135
        clear BK136
        clear BK137
        clear HB
        clear HO143
        have BK135 := n0_
        have BK136 := n1_
        have BK137 := n2_
        have HB := n3_
        have HO146 := n4_
        clear n0_ n1_ n2_ n3_ n4_
        clear ho hb hg hat
        obtain ⟨Ao25, co25, eo25⟩ := Kd.S_slice HO146.out
        (first | subst eo25 | (injection eo25 with f1_ f2_ f3_; have f4_ := f1_.symm; have f5_ := f3_.symm; clear f1_ f2_ f3_; subst f4_; subst f5_))
        refine hK.out _ _ ⟨(blk_cell BK137.out 0).trans rfl, (blk_cell BK137.out 1).trans rfl, (blk_cell BK135.out 0).trans rfl, (blk_cell BK135.out 1).trans rfl, (blk_cell BK135.out 2).trans rfl, (blk_cell BK135.out 3).trans rfl, (blk_cell BK135.out 4).trans rfl, (blk_cell BK135.out 5).trans rfl⟩ (fun hHeld => ?_)
        clear hK K
        refine norm_ (a' := ?_) ?_ ?_
        rotate_left
        ·show Act.put _ (some 19) _ = _
         simp only [Act.put, List.setIfInBounds_toArray, List.set_cons_zero, List.set_cons_succ, i64_w, i32_w]
         rfl
        refine pure_ (i := 12) (N := some 20) (v := ?_) (a' := ?_) #[true, true, true, true, true, true, true, true, true, true, true, true, true, false] rfl rfl (any_of HT_.out Z4_15) (fun _ _ _ h => h) (Or.inl ⟨Z4_40, ?_⟩) ?_ ?_
        rotate_left
        ·intro w'
         go_simp
         with_reducible rfl
        rotate_left
        ·simp only [Act.put, List.setIfInBounds_toArray, List.set_cons_zero, List.set_cons_succ, i64_w, i32_w]
         rfl
        refine last_ (i := 13) (N := none) #[true, true, true, true, true, true, true, true, true, true, true, true, true, true] rfl rfl (one_of HT_.out Z4_15) Z4_25 (fun K hK => ?_)
        have hs26 : w24.cell? ⟨gb137, 1, none⟩ = some (.slice none 0 0) := (blk_cell BK137.out 1).trans rfl
        have hfs26 := blk_frozen BK137.out 1
        have hns26_0 := NB135_137.out
        have hns26_1 := NB136_137.out
        have hms26_0 := NB137_135.out
        have hms26_1 := NB137_136.out
        refine skip_ (w1 := ?_) Z4_40 rfl ?_ ?_
        rotate_left
        ·go_simp
         rfl
        refine hK.out _ _ ?_
        clear hK K
        refine done_ (done_of HT_.out Z4_15) ?_
        have hcz27_0 : w24.cell? ⟨gb135, 0, none⟩ = some (.int .i64 a0_0) := (blk_cell BK135.out 0).trans rfl
        have hcz27_1 : w24.cell? ⟨gb135, 1, none⟩ = some (.int .i64 a0_1) := (blk_cell BK135.out 1).trans rfl
        have hcz27_2 : w24.cell? ⟨gb135, 2, none⟩ = some (.slice A0_2 l0_2.length c0_2) := (blk_cell BK135.out 2).trans rfl
        have hcz27_3 : w24.cell? ⟨gb135, 3, none⟩ = some (.slice A0_3 l0_3.length c0_3) := (blk_cell BK135.out 3).trans rfl
        have hcz27_4 : w24.cell? ⟨gb135, 4, none⟩ = some (.int .i64 a0_4) := (blk_cell BK135.out 4).trans rfl
        have hcz27_5 : w24.cell? ⟨gb135, 5, none⟩ = some (.slice A0_5 l0_5.length c0_5) := (blk_cell BK135.out 5).trans rfl
        have hfz27_0 := blk_frozen BK135.out 0
        have hfz27_1 := blk_frozen BK135.out 1
        have hfz27_2 := blk_frozen BK135.out 2
        have hfz27_3 := blk_frozen BK135.out 3
        have hfz27_4 := blk_frozen BK135.out 4
        have hfz27_5 := blk_frozen BK135.out 5
        try go_wp2
        have n0_ : Aside0 (Kd.S k58 58 (w24.setCell ⟨gb137, 1, none⟩ (.slice Ao25 y144.length co25)) w.heap.size (fun _ => True) (.slice Ao25 y144.length co25) y144) := ⟨by (with_reducible repeat (first | apply Kd.S_alloc | apply Kd.S_drewN | apply Kd.S_drew)); exact Kd.S_mono (Kd.S_far (p := ⟨gb137, 1, none⟩) (Kd.S_types HO146.out BK137.out Z4_25) (fun _ hk => hk.2) (.slice Ao25 y144.length co25)) (fun _ hk => trivial)⟩
        have n1_ : Aside0 ((w24.setCell ⟨gb137, 1, none⟩ (.slice Ao25 y144.length co25)).heap[gb135]? = some (.cells #[.int .i64 a0_0, .int .i64 a0_1, .slice A0_2 l0_2.length c0_2, .slice A0_3 l0_3.length c0_3, .int .i64 a0_4, .slice A0_5 l0_5.length c0_5] 51 (0, 0))) := ⟨Z4_13⟩
        have n2_ : Aside0 ((w24.setCell ⟨gb137, 1, none⟩ (.slice Ao25 y144.length co25)).heap[gb136]? = some (.cells #[.int .i64 0, .slice none 0 0] 29 (0, 0))) := ⟨Z4_14⟩
        have n3_ : Aside0 ((w24.setCell ⟨gb137, 1, none⟩ (.slice Ao25 y144.length co25)).heap[gb137]? = some (.cells #[.int .i64 a0_4, .slice Ao25 y144.length co25] 29 (0, 0))) := ⟨Z4_16⟩
        have n4_ : Aside0 (Below w.heap.size w (w24.setCell ⟨gb137, 1, none⟩ (.slice Ao25 y144.length co25))) := ⟨Z4_1⟩
        (try clear HO146)
        (try clear BK135)
        (try clear BK136)
        (try clear BK137)
        (try clear HB)
        generalize (w24.setCell ⟨gb137, 1, none⟩ (.slice Ao25 y144.length co25)) = w28 at n0_ n1_ n2_ n3_ n4_ ⊢
        have HO146 := n0_
        have BK135 := n1_
        have BK136 := n2_
        have BK137 := n3_
        have HB := n4_
        clear n0_ n1_ n2_ n3_ n4_
        have n0_ := Aside0.mk (Kd.S_drew HO146.out)
        have n1_ := Aside0.mk (blk_drew BK135.out)
        have n2_ := Aside0.mk (blk_drew BK136.out)
        have n3_ := Aside0.mk (blk_drew BK137.out)
        have n4_ := Aside0.mk (below_drew1 HB.out)
        clear HO146
        clear BK135
        clear BK136
        clear BK137
        clear HB
        have HO146 := n0_
        have BK135 := n1_
        have BK136 := n2_
        have BK137 := n3_
        have HB := n4_
        clear n0_ n1_ n2_ n3_ n4_
        refine start_ (n := 14) (S := fun w' => w'.cell? ⟨gb137, 0, none⟩ = some (.int .i64 a0_4) ∧ w'.cell? ⟨gb137, 1, none⟩ = some (.slice Ao25 y144.length co25) ∧ w'.cell? ⟨gb135, 0, none⟩ = some (.int .i64 a0_0) ∧ w'.cell? ⟨gb135, 1, none⟩ = some (.int .i64 a0_1) ∧ w'.cell? ⟨gb135, 2, none⟩ = some (.slice A0_2 l0_2.length c0_2) ∧ w'.cell? ⟨gb135, 3, none⟩ = some (.slice A0_3 l0_3.length c0_3) ∧ w'.cell? ⟨gb135, 4, none⟩ = some (.int .i64 a0_4) ∧ w'.cell? ⟨gb135, 5, none⟩ = some (.slice A0_5 l0_5.length c0_5)) (ds := [13]) #[false, false, false, false, false, false, false, false, false, false, false, false, false, false] Z4_15 rfl rfl ⟨(blk_cell BK137.out 0).trans rfl, (blk_cell BK137.out 1).trans rfl, (blk_cell BK135.out 0).trans rfl, (blk_cell BK135.out 1).trans rfl, (blk_cell BK135.out 2).trans rfl, (blk_cell BK135.out 3).trans rfl, (blk_cell BK135.out 4).trans rfl, (blk_cell BK135.out 5).trans rfl⟩ (fun hHeld => ?_); refine with_tabW spec_Link.tab4 spec_Link.bits4 (fun HT_ HW_ => ?_)
        generalize w28.drew = w29 at HO146 BK135 BK136 BK137 HB hHeld ⊢
        refine pure_ (i := 0) (N := some 25) (v := ?_) (a' := ?_) #[true, false, false, false, false, false, false, false, false, false, false, false, false, false] rfl rfl (any_of HT_.out Z4_15) (fun _ _ _ h => h) (Or.inl ⟨Z4_40, ?_⟩) ?_ ?_
        rotate_left
        ·intro w'
         go_simp
         with_reducible rfl
        rotate_left
        ·simp only [Act.put, List.setIfInBounds_toArray, List.set_cons_zero, List.set_cons_succ, i64_w, i32_w]
         rfl
        refine pure_ (i := 2) (N := some 27) (v := ?_) (a' := ?_) #[true, false, true, false, false, false, false, false, false, false, false, false, false, false] rfl rfl (any_of HT_.out Z4_15) (fun _ _ _ h => h) (Or.inl ⟨Z4_40, ?_⟩) ?_ ?_
        rotate_left
        ·intro w'
         go_simp
         with_reducible rfl
        rotate_left
        ·simp only [Act.put, List.setIfInBounds_toArray, List.set_cons_zero, List.set_cons_succ, i64_w, i32_w]
         rfl
        refine pure_ (i := 6) (N := some 31) (v := ?_) (a' := ?_) #[true, false, true, false, false, false, true, false, false, false, false, false, false, false] rfl rfl (any_of HT_.out Z4_15) (fun _ _ _ h => h) (Or.inl ⟨Z4_40, ?_⟩) ?_ ?_
        rotate_left
        ·intro w'
         go_simp
         with_reducible rfl
        rotate_left
        ·simp only [Act.put, List.setIfInBounds_toArray, List.set_cons_zero, List.set_cons_succ, i64_w, i32_w]
         rfl
        refine take_ (i := 1) (N := some 26) (v := ?_) (a' := ?_) #[true, true, true, false, false, false, true, false, false, false, false, false, false, false] rfl rfl (take_ofW HT_.out HW_.out Z4_15) (fun _ _ _ h => h) (Or.inl ⟨Z4_40, ?_⟩) hHeld ?_ ?_
        rotate_left
        ·rintro w' ⟨s0, s1, s2, s3, s4, s5, s6, s7⟩
         go_simp
         with_reducible rfl
        rotate_left
        ·simp only [Act.put, List.setIfInBounds_toArray, List.set_cons_zero, List.set_cons_succ, i64_w, i32_w]
         rfl
        refine take_ (i := 3) (N := some 28) (v := ?_) (a' := ?_) #[true, true, true, true, false, false, true, false, false, false, false, false, false, false] rfl rfl (take_ofW HT_.out HW_.out Z4_15) (fun _ _ _ h => h) (Or.inl ⟨Z4_40, ?_⟩) hHeld ?_ ?_
        rotate_left
        ·rintro w' ⟨s0, s1, s2, s3, s4, s5, s6, s7⟩
         go_simp
         with_reducible rfl
        rotate_left
        ·simp only [Act.put, List.setIfInBounds_toArray, List.set_cons_zero, List.set_cons_succ, i64_w, i32_w]
         rfl
        refine pure_ (i := 4) (N := some 29) (v := ?_) (a' := ?_) #[true, true, true, true, true, false, true, false, false, false, false, false, false, false] rfl rfl (any_of HT_.out Z4_15) (fun _ _ _ h => h) (Or.inl ⟨Z4_40, ?_⟩) ?_ ?_
        rotate_left
        ·intro w'
         go_simp
         with_reducible rfl
        rotate_left
        ·simp only [Act.put, List.setIfInBounds_toArray, List.set_cons_zero, List.set_cons_succ, i64_w, i32_w]
         rfl
        refine take_ (i := 7) (N := some 32) (v := ?_) (a' := ?_) #[true, true, true, true, true, false, true, true, false, false, false, false, false, false] rfl rfl (take_ofW HT_.out HW_.out Z4_15) (fun _ _ _ h => h) (Or.inl ⟨Z4_40, ?_⟩) hHeld ?_ ?_
        rotate_left
        ·rintro w' ⟨s0, s1, s2, s3, s4, s5, s6, s7⟩
         go_simp
         with_reducible rfl
        rotate_left
        ·simp only [Act.put, List.setIfInBounds_toArray, List.set_cons_zero, List.set_cons_succ, i64_w, i32_w]
         rfl
        refine one_ (i := 5) (N := some 30) #[true, true, true, true, true, true, true, true, false, false, false, false, false, false] rfl rfl (one_of HT_.out Z4_15) Z4_25 (fun K hK => ?_)
        refine Kd.R_lit_step (Kd.int .u8) _ 5 ?hg (N := 30) ?hd (xs := ([] : List Int)) (inner := []) (ok := fun _ => True) (okp := fun _ => True) ?hr ?hp (fun _ hk => hk) trivial (Below.refl _ _) (Nat.le_refl _) (by simp) ?_; (case hd => rfl); (case hg => rfl); (case hr => exact Z4_17); (case hp => exact (Reps.none _ _))
        intro v148 w30 ho31 hb hg_ hnew_
        clear hg_ hnew_
        (first | rw [← Ny147.out] at ho31 | (simp only [Int.reduceToNat] at ho31; rw [← Ny147.out] at ho31))
        have n0_ := Aside0.mk (Kd.S_elder' Z4_24 (Kd.R_base ho31) hb)
        have n1_ := Aside0.mk (Kd.R_lower ho31 (below_size Z4_1))
        have n2_ := Aside0.mk (blk_below (g := gb135) (o := .cells #[.int .i64 a0_0, .int .i64 a0_1, .slice A0_2 l0_2.length c0_2, .slice A0_3 l0_3.length c0_3, .int .i64 a0_4, .slice A0_5 l0_5.length c0_5] 51 (0, 0)) Z4_2 hb)
        have n3_ := Aside0.mk (blk_below (g := gb136) (o := .cells #[.int .i64 0, .slice none 0 0] 29 (0, 0)) Z4_3 hb)
        have n4_ := Aside0.mk (blk_below (g := gb137) (o := .cells #[.int .i64 a0_4, .slice Ao25 y144.length co25] 29 (0, 0)) Z4_6 hb)
        have n5_ := Aside0.mk (below_step Z4_1 hb)
        clear HO146
        clear BK135
        clear BK136
        clear BK137
        clear HB
        have HO146 := n0_
        have HO149 := n1_
        have BK135 := n2_
        have BK136 := n3_
        have BK137 := n4_
        have HB := n5_
        clear n0_ n1_ n2_ n3_ n4_ n5_
        clear hb ho31
        refine hK.out _ _ ⟨(blk_cell BK137.out 0).trans rfl, (blk_cell BK137.out 1).trans rfl, (blk_cell BK135.out 0).trans rfl, (blk_cell BK135.out 1).trans rfl, (blk_cell BK135.out 2).trans rfl, (blk_cell BK135.out 3).trans rfl, (blk_cell BK135.out 4).trans rfl, (blk_cell BK135.out 5).trans rfl⟩ (fun hHeld => ?_)
        clear hK K
        refine norm_ (a' := ?_) ?_ ?_
        rotate_left
        ·show Act.put _ (some 30) _ = _
         simp only [Act.put, List.setIfInBounds_toArray, List.set_cons_zero, List.set_cons_succ, i64_w, i32_w]
         rfl
        refine one_ (i := 8) (N := some 33) #[true, true, true, true, true, true, true, true, true, false, false, false, false, false] rfl rfl (one_of HT_.out Z4_15) Z4_25 (fun K hK => ?_)
        refine Kd.R_append_rows_step (Kd.int .u8) (w0 := w) w.heap.size Z4_40 (.tmp 30) (.tmp 32) 33 5 (.int .u8 0) 1 rfl Try.underlying33 info5 rfl Z4_25 (by omega) v148 y147 l0_3 _ _ _ (fun _ => True) (fun _ => False) rfl rfl ?aO ?aR (fun _ _ h => h) (fun _ h => h.elim) ?aF ?aB ?aS ?aL ?_
        (case aR => exact Z4_30)
        (case aB => exact Z4_1)
        (case aF => exact (fun _ _ => trivial))
        (case aO => exact Z4_39)
        (case aS => exact (below_size Z4_1))
        (case aL => have := LMc5.out; omega)
        intro v151 w32 ho hb hg hat
        rw [← Ny150.out] at ho
        have n0_ := Aside0.mk (blk_grown (g := gb135) (o := .cells #[.int .i64 a0_0, .int .i64 a0_1, .slice A0_2 l0_2.length c0_2, .slice A0_3 l0_3.length c0_3, .int .i64 a0_4, .slice A0_5 l0_5.length c0_5] 51 (0, 0)) Z4_2 hg (Kd.R_ne HO149.out BK135.out Z4_25))
        have n1_ := Aside0.mk (blk_grown (g := gb136) (o := .cells #[.int .i64 0, .slice none 0 0] 29 (0, 0)) Z4_3 hg (Kd.R_ne HO149.out BK136.out Z4_25))
        have n2_ := Aside0.mk (blk_grown (g := gb137) (o := .cells #[.int .i64 a0_4, .slice Ao25 y144.length co25] 29 (0, 0)) Z4_6 hg (Kd.R_ne HO149.out BK137.out Z4_25))
        have n3_ := Aside0.mk (Kd.S_after (ok := (fun _ => True)) Z4_24 hg hat)
        have n4_ := Aside0.mk (hb)
        have n5_ := Aside0.mk (ho)
        clear BK135
        clear BK136
        clear BK137
        clear HO146
        clear HB
        clear HO149
        have BK135 := n0_
        have BK136 := n1_
        have BK137 := n2_
        have HO146 := n3_
        have HB := n4_
        have HO152 := n5_
        clear n0_ n1_ n2_ n3_ n4_ n5_
        clear ho hb hg hat
        obtain ⟨Ao33, co33, eo33⟩ := Kd.R_slice HO152.out
        (first | subst eo33 | (injection eo33 with f1_ f2_ f3_; have f4_ := f1_.symm; have f5_ := f3_.symm; clear f1_ f2_ f3_; subst f4_; subst f5_))
        refine hK.out _ _ ⟨(blk_cell BK137.out 0).trans rfl, (blk_cell BK137.out 1).trans rfl, (blk_cell BK135.out 0).trans rfl, (blk_cell BK135.out 1).trans rfl, (blk_cell BK135.out 2).trans rfl, (blk_cell BK135.out 3).trans rfl, (blk_cell BK135.out 4).trans rfl, (blk_cell BK135.out 5).trans rfl⟩ (fun hHeld => ?_)
        clear hK K
        refine norm_ (a' := ?_) ?_ ?_
        rotate_left
        ·show Act.put _ (some 33) _ = _
         simp only [Act.put, List.setIfInBounds_toArray, List.set_cons_zero, List.set_cons_succ, i64_w, i32_w]
         rfl
        refine pure_ (i := 9) (N := some 34) (v := ?_) (a' := ?_) #[true, true, true, true, true, true, true, true, true, true, false, false, false, false] rfl rfl (any_of HT_.out Z4_15) (fun _ _ _ h => h) (Or.inl ⟨Z4_40, ?_⟩) ?_ ?_
        rotate_left
        ·intro w'
         go_simp
         with_reducible rfl
        rotate_left
        ·simp only [Act.put, List.setIfInBounds_toArray, List.set_cons_zero, List.set_cons_succ, i64_w, i32_w]
         rfl
        refine one_ (i := 10) (N := some 35) #[true, true, true, true, true, true, true, true, true, true, true, false, false, false] rfl rfl (one_of HT_.out Z4_15) Z4_25 (fun K hK => ?_)
        refine value_ (w1 := ?_) (v := ?_) Z4_40 rfl ?_ ?_
        rotate_left 2
        ·go_simp
         constructor
         ·rfl
         rfl
        refine hK.out _ _ ⟨(blk_cell (blk_alloc BK137.out _) 0).trans rfl, (blk_cell (blk_alloc BK137.out _) 1).trans rfl, (blk_cell (blk_alloc BK135.out _) 0).trans rfl, (blk_cell (blk_alloc BK135.out _) 1).trans rfl, (blk_cell (blk_alloc BK135.out _) 2).trans rfl, (blk_cell (blk_alloc BK135.out _) 3).trans rfl, (blk_cell (blk_alloc BK135.out _) 4).trans rfl, (blk_cell (blk_alloc BK135.out _) 5).trans rfl⟩ (fun hHeld => ?_)
        clear hK K
        refine norm_ (a' := ?_) ?_ ?_
        rotate_left
        ·show Act.put _ (some 35) _ = _
         simp only [Act.put, List.setIfInBounds_toArray, List.set_cons_zero, List.set_cons_succ, i64_w, i32_w]
         rfl
        refine one_ (i := 11) (N := some 36) #[true, true, true, true, true, true, true, true, true, true, true, true, false, false] rfl rfl (one_of HT_.out Z4_15) Z4_25 (fun K hK => ?_)
        refine Kd.S_append_step k58 (w0 := w) w.heap.size Z4_40 (.tmp 26) (.tmp 35) 27 58 (.agg #[(.int .i64 0), (.int .i64 0), (.int .i64 0), (.slice none 0 0)]) 48 rfl Try.underlying27 info58 rfl Z4_25 (by omega) (.slice Ao25 y144.length co25) y144 (⟨262144, 3, (l0_3.length : Int), y150⟩ : S58) [.int .i64 262144, .int .i64 3, .int .i64 (l0_3.length : Int), .slice Ao33 y150.length co33] (fun _ => True) (fun k_ => some k_ = (.slice Ao33 y150.length co33 : Value).ownBlock) rfl rfl ?aP (fun k_ hk_ => ((Kd.R_mono (ok' := fun k_ => ((fun _ => True)) k_ ∧ some k_ ≠ (.slice Ao25 y144.length co25 : Value).ownBlock) (Kd.R_apart' (HO152.out) (Kd.S_typed HO146.out) Z4_25) (fun k_ hk => ⟨trivial, hk.2⟩))).1 k_ hk_.symm) ?aF ?aO ?aB ?aS ?aL ?_
        (case aP => exact k58_mkM _ _ _ (⟨262144, 3, (l0_3.length : Int), y150⟩ : S58) (Kd.R_mono (Kd.R_tight rfl (Kd.R_mono (ok' := fun k_ => ((fun _ => True)) k_ ∧ some k_ ≠ (.slice Ao25 y144.length co25 : Value).ownBlock) (Kd.R_apart' (HO152.out) (Kd.S_typed HO146.out) Z4_25) (fun k_ hk => ⟨trivial, hk.2⟩))) (fun _ h_ => h_)))
        (case aB => exact Z4_1)
        (case aF => exact (fun _ _ => trivial))
        (case aO => exact Z4_34)
        (case aS => exact (below_size Z4_1))
        (case aL => have := LMc6.out; omega)
        intro v154 w34 ho hb hg hat
        rw [← Ny153.out] at ho
        have n0_ := Aside0.mk (blk_grown (g := gb135) (o := .cells #[.int .i64 a0_0, .int .i64 a0_1, .slice A0_2 l0_2.length c0_2, .slice A0_3 l0_3.length c0_3, .int .i64 a0_4, .slice A0_5 l0_5.length c0_5] 51 (0, 0)) Z4_2 hg (Kd.S_ne HO146.out BK135.out Z4_25))
        have n1_ := Aside0.mk (blk_grown (g := gb136) (o := .cells #[.int .i64 0, .slice none 0 0] 29 (0, 0)) Z4_3 hg (Kd.S_ne HO146.out BK136.out Z4_25))
        have n2_ := Aside0.mk (blk_grown (g := gb137) (o := .cells #[.int .i64 a0_4, .slice Ao25 y144.length co25] 29 (0, 0)) Z4_6 hg (Kd.S_ne HO146.out BK137.out Z4_25))
        have n3_ := Aside0.mk (hb)
        have n4_ := Aside0.mk (ho)
        clear BK135
        clear BK136
        clear BK137
        clear HB
        clear HO146
        clear HO152
        have BK135 := n0_
        have BK136 := n1_
        have BK137 := n2_
        have HB := n3_
        have HO155 := n4_
        clear n0_ n1_ n2_ n3_ n4_
        clear ho hb hg hat
        obtain ⟨Ao35, co35, eo35⟩ := Kd.S_slice HO155.out
        (first | subst eo35 | (injection eo35 with f1_ f2_ f3_; have f4_ := f1_.symm; have f5_ := f3_.symm; clear f1_ f2_ f3_; subst f4_; subst f5_))
        refine hK.out _ _ ⟨(blk_cell BK137.out 0).trans rfl, (blk_cell BK137.out 1).trans rfl, (blk_cell BK135.out 0).trans rfl, (blk_cell BK135.out 1).trans rfl, (blk_cell BK135.out 2).trans rfl, (blk_cell BK135.out 3).trans rfl, (blk_cell BK135.out 4).trans rfl, (blk_cell BK135.out 5).trans rfl⟩ (fun hHeld => ?_)
        clear hK K
        refine norm_ (a' := ?_) ?_ ?_
        rotate_left
        ·show Act.put _ (some 36) _ = _
         simp only [Act.put, List.setIfInBounds_toArray, List.set_cons_zero, List.set_cons_succ, i64_w, i32_w]
         rfl
        refine pure_ (i := 12) (N := some 37) (v := ?_) (a' := ?_) #[true, true, true, true, true, true, true, true, true, true, true, true, true, false] rfl rfl (any_of HT_.out Z4_15) (fun _ _ _ h => h) (Or.inl ⟨Z4_40, ?_⟩) ?_ ?_
        rotate_left
        ·intro w'
         go_simp
         with_reducible rfl
        rotate_left
        ·simp only [Act.put, List.setIfInBounds_toArray, List.set_cons_zero, List.set_cons_succ, i64_w, i32_w]
         rfl
        refine last_ (i := 13) (N := none) #[true, true, true, true, true, true, true, true, true, true, true, true, true, true] rfl rfl (one_of HT_.out Z4_15) Z4_25 (fun K hK => ?_)
        have hs36 : w34.cell? ⟨gb137, 1, none⟩ = some (.slice Ao25 y144.length co25) := (blk_cell BK137.out 1).trans rfl
        have hfs36 := blk_frozen BK137.out 1
        have hns36_0 := NB135_137.out
        have hns36_1 := NB136_137.out
        have hms36_0 := NB137_135.out
        have hms36_1 := NB137_136.out
        refine skip_ (w1 := ?_) Z4_40 rfl ?_ ?_
        rotate_left
        ·go_simp
         rfl
        refine hK.out _ _ ?_
        clear hK K
        refine done_ (done_of HT_.out Z4_15) ?_
        have hcz37_0 : w34.cell? ⟨gb135, 0, none⟩ = some (.int .i64 a0_0) := (blk_cell BK135.out 0).trans rfl
        have hcz37_1 : w34.cell? ⟨gb135, 1, none⟩ = some (.int .i64 a0_1) := (blk_cell BK135.out 1).trans rfl
        have hcz37_2 : w34.cell? ⟨gb135, 2, none⟩ = some (.slice A0_2 l0_2.length c0_2) := (blk_cell BK135.out 2).trans rfl
        have hcz37_3 : w34.cell? ⟨gb135, 3, none⟩ = some (.slice A0_3 l0_3.length c0_3) := (blk_cell BK135.out 3).trans rfl
        have hcz37_4 : w34.cell? ⟨gb135, 4, none⟩ = some (.int .i64 a0_4) := (blk_cell BK135.out 4).trans rfl
        have hcz37_5 : w34.cell? ⟨gb135, 5, none⟩ = some (.slice A0_5 l0_5.length c0_5) := (blk_cell BK135.out 5).trans rfl
        have hfz37_0 := blk_frozen BK135.out 0
        have hfz37_1 := blk_frozen BK135.out 1
        have hfz37_2 := blk_frozen BK135.out 2
        have hfz37_3 := blk_frozen BK135.out 3
        have hfz37_4 := blk_frozen BK135.out 4
        have hfz37_5 := blk_frozen BK135.out 5
        have hcz38_0 : w34.cell? ⟨gb137, 0, none⟩ = some (.int .i64 a0_4) := (blk_cell BK137.out 0).trans rfl
        have hcz38_1 : w34.cell? ⟨gb137, 1, none⟩ = some (.slice Ao25 y144.length co25) := (blk_cell BK137.out 1).trans rfl
        have hfz38_0 := blk_frozen BK137.out 0
        have hfz38_1 := blk_frozen BK137.out 1
        try go_wp2_with (first | (go_at_call 8; (with_reducible refine (spec_ImageOk.calls k a0_4 _ _ y153 true _ ?side1 ?side2 A8.out).mono ?_); (case side1 => refine (Kd.S_reads' (e := 58) (base := w.heap.size) (ok := fun k_ => True) (n := y153.length) (c := co35) ?_).2.2; exact Z4_37); (case side2 => exact (Kd.S_reads' HO155.out).2.1); rintro e w39 ⟨rfl, hb⟩; have n0_ := Aside0.mk (Kd.S_below Z4_37 hb); have n1_ := Aside0.mk (blk_below (g := gb135) (o := .cells #[.int .i64 a0_0, .int .i64 a0_1, .slice A0_2 l0_2.length c0_2, .slice A0_3 l0_3.length c0_3, .int .i64 a0_4, .slice A0_5 l0_5.length c0_5] 51 (0, 0)) Z4_13 hb); have n2_ := Aside0.mk (blk_below (g := gb136) (o := .cells #[.int .i64 0, .slice none 0 0] 29 (0, 0)) Z4_14 hb); have n3_ := Aside0.mk (blk_below (g := gb137) (o := .cells #[.int .i64 a0_4, .slice Ao35 y153.length co35] 29 (0, 0)) (by (with_reducible repeat (first | apply blk_drewN | apply blk_drew | apply blk_alloc)); refine blk_put (cs := #[.int .i64 a0_4, .slice Ao25 y144.length co25]) ?_ 1 _ rfl; (with_reducible repeat (first | apply blk_drewN | apply blk_drew | apply blk_alloc)); exact BK137.out) hb); have n4_ := Aside0.mk (below_step Z4_1 hb); clear HO155; clear BK135; clear BK136; clear BK137; clear HB; have HO155 := n0_; have BK135 := n1_; have BK136 := n2_; have BK137 := n3_; have HB := n4_; clear n0_ n1_ n2_ n3_ n4_; (try clear hb); (try clear hb2); (try clear hk); (try clear hi); have hcz40_0 : w39.cell? ⟨gb137, 0, none⟩ = some (.int .i64 a0_4) := (blk_cell BK137.out 0).trans rfl; have hcz40_1 : w39.cell? ⟨gb137, 1, none⟩ = some (.slice Ao35 y153.length co35) := (blk_cell BK137.out 1).trans rfl; have hfz40_0 := blk_frozen BK137.out 0; have hfz40_1 := blk_frozen BK137.out 1; have hcz41_0 : w39.cell? ⟨gb136, 0, none⟩ = some (.int .i64 0) := (blk_cell BK136.out 0).trans rfl; have hcz41_1 : w39.cell? ⟨gb136, 1, none⟩ = some (.slice none 0 0) := (blk_cell BK136.out 1).trans rfl; have hfz41_0 := blk_frozen BK136.out 0; have hfz41_1 := blk_frozen BK136.out 1))
        refine bodyPost_ret (results_ct rfl _ _ gb136 29 #[.int .i64 a0_4, .slice Ao35 y153.length co35] (0, 0) _ rfl Z4_28 Try.underlying29 rfl Z4_15) rfl ?_
        exact ⟨_, Z4_26, by (with_reducible repeat (first | apply Kd.S_alloc | apply Kd.S_drewN | apply Kd.S_drew)); exact Kd.S_mono (Kd.S_far (p := ⟨gb136, 1, none⟩) (Kd.S_far (p := ⟨gb136, 0, none⟩) (Kd.S_types HO155.out BK136.out Z4_25) (fun _ hk => hk.2) (.int .i64 a0_4)) (fun _ hk => hk.2) (.slice Ao35 y153.length co35)) (fun _ hk => trivial), Z4_1⟩
       replace c9 := Bool.eq_false_iff.mpr c9
       subst c9
       have H1 : (some (0, ([] : List (S58)), false)) = some (r1, r2, r3) := by rw [if_neg (show ¬ (false = true) by decide)] at H; exact H
       clear H
       have H := H1
       clear H1
       simp only [Option.some.injEq, Prod.mk.injEq] at H
       obtain ⟨rfl, rfl, rfl⟩ := H
       go_enter Try.func23, Try.ntmps23
       try go_wp2_with (first | ((with_reducible refine gate_dst (N := 1) rfl ?_); refine box_event ?hg (N := 1) ?hd (cs := #[.int .i64 a0_0, .int .i64 a0_1, .slice A0_2 l0_2.length c0_2, .slice A0_3 l0_3.length c0_3, .int .i64 a0_4, .slice A0_5 l0_5.length c0_5]) (t := 51) ?hr ?_; (case hd => rfl); (case hg => rfl); (case hr => exact Z4_17); intro gb135 hg w42 hbox hb; have n0_ := Aside0.mk (below_step Z4_9 hb); have n1_ := Aside0.mk (hbox); have n2_ := Aside0.mk ((Z4_31 : w.heap.size ≤ gb135)); have n3_ := Aside0.mk ((Z4_31 : w.heap.size ≤ gb135)); clear HB; have HB := n0_; have BK135 := n1_; have GW135 := n2_; have GE135 := n3_; clear n0_ n1_ n2_ n3_; clear hb hbox hg) | ((with_reducible refine gate_dst (N := 2) rfl ?_); refine box_event ?hg (N := 2) ?hd (cs := #[.int .i64 0, .slice none 0 0]) (t := 29) ?hr ?_; (case hd => rfl); (case hg => rfl); (case hr => exact Z4_17); intro gb136 hg w43 hbox hb; have n0_ := Aside0.mk (blk_below (g := gb135) (o := .cells #[.int .i64 a0_0, .int .i64 a0_1, .slice A0_2 l0_2.length c0_2, .slice A0_3 l0_3.length c0_3, .int .i64 a0_4, .slice A0_5 l0_5.length c0_5] 51 (0, 0)) Z4_2 hb); have n1_ := Aside0.mk (below_step Z4_5 hb); have n2_ := Aside0.mk (hbox); have n3_ := Aside0.mk ((Z4_32 : w.heap.size ≤ gb136)); have n4_ := Aside0.mk ((Z4_32 : w.heap.size ≤ gb136)); have n5_ := Aside0.mk ((Z4_7 : gb135 ≠ gb136)); have n6_ := Aside0.mk ((Z4_8 : gb136 ≠ gb135)); clear BK135; clear HB; have BK135 := n0_; have HB := n1_; have BK136 := n2_; have GW136 := n3_; have GE136 := n4_; have NB135_136 := n5_; have NB136_135 := n6_; clear n0_ n1_ n2_ n3_ n4_ n5_ n6_; clear hb hbox hg; have hnb44 := NB135_136.out; have hnc44 := NB136_135.out; have hcz45_0 : w43.cell? ⟨gb135, 0, none⟩ = some (.int .i64 a0_0) := (blk_cell BK135.out 0).trans rfl; have hcz45_1 : w43.cell? ⟨gb135, 1, none⟩ = some (.int .i64 a0_1) := (blk_cell BK135.out 1).trans rfl; have hcz45_2 : w43.cell? ⟨gb135, 2, none⟩ = some (.slice A0_2 l0_2.length c0_2) := (blk_cell BK135.out 2).trans rfl; have hcz45_3 : w43.cell? ⟨gb135, 3, none⟩ = some (.slice A0_3 l0_3.length c0_3) := (blk_cell BK135.out 3).trans rfl; have hcz45_4 : w43.cell? ⟨gb135, 4, none⟩ = some (.int .i64 a0_4) := (blk_cell BK135.out 4).trans rfl; have hcz45_5 : w43.cell? ⟨gb135, 5, none⟩ = some (.slice A0_5 l0_5.length c0_5) := (blk_cell BK135.out 5).trans rfl; have hfz45_0 := blk_frozen BK135.out 0; have hfz45_1 := blk_frozen BK135.out 1; have hfz45_2 := blk_frozen BK135.out 2; have hfz45_3 := blk_frozen BK135.out 3; have hfz45_4 := blk_frozen BK135.out 4; have hfz45_5 := blk_frozen BK135.out 5) | ((with_reducible refine gate_dst (N := 4) rfl ?_); refine box_event ?hg (N := 4) ?hd (cs := #[.int .i64 0, .slice none 0 0]) (t := 29) ?hr ?_; (case hd => rfl); (case hg => rfl); (case hr => exact Z4_17); intro gb137 hg w46 hbox hb; have n0_ := Aside0.mk (blk_below (g := gb135) (o := .cells #[.int .i64 a0_0, .int .i64 a0_1, .slice A0_2 l0_2.length c0_2, .slice A0_3 l0_3.length c0_3, .int .i64 a0_4, .slice A0_5 l0_5.length c0_5] 51 (0, 0)) Z4_2 hb); have n1_ := Aside0.mk (blk_below (g := gb136) (o := .cells #[.int .i64 0, .slice none 0 0] 29 (0, 0)) Z4_3 hb); have n2_ := Aside0.mk (below_step Z4_4 hb); have n3_ := Aside0.mk (hbox); have n4_ := Aside0.mk ((Z4_33 : w.heap.size ≤ gb137)); have n5_ := Aside0.mk ((Z4_33 : w.heap.size ≤ gb137)); have n6_ := Aside0.mk ((Z4_7 : gb135 ≠ gb137)); have n7_ := Aside0.mk ((Z4_8 : gb137 ≠ gb135)); have n8_ := Aside0.mk ((Z4_20 : gb136 ≠ gb137)); have n9_ := Aside0.mk ((Z4_21 : gb137 ≠ gb136)); clear BK135; clear BK136; clear HB; have BK135 := n0_; have BK136 := n1_; have HB := n2_; have BK137 := n3_; have GW137 := n4_; have GE137 := n5_; have NB135_137 := n6_; have NB137_135 := n7_; have NB136_137 := n8_; have NB137_136 := n9_; clear n0_ n1_ n2_ n3_ n4_ n5_ n6_ n7_ n8_ n9_; clear hb hbox hg; have hnb47 := NB137_135.out; have hnc47 := NB135_137.out; have hnb48 := NB137_136.out; have hnc48 := NB136_137.out; have hcz49_0 : w46.cell? ⟨gb137, 0, none⟩ = some (.int .i64 0) := (blk_cell BK137.out 0).trans rfl; have hcz49_1 : w46.cell? ⟨gb137, 1, none⟩ = some (.slice none 0 0) := (blk_cell BK137.out 1).trans rfl; have hfz49_0 := blk_frozen BK137.out 0; have hfz49_1 := blk_frozen BK137.out 1))
       have n0_ : Aside0 (((w46.setCell ⟨gb137, 0, none⟩ (.int .i64 a0_4)).setCell ⟨gb137, 1, none⟩ (.slice none 0 0)).heap[gb135]? = some (.cells #[.int .i64 a0_0, .int .i64 a0_1, .slice A0_2 l0_2.length c0_2, .slice A0_3 l0_3.length c0_3, .int .i64 a0_4, .slice A0_5 l0_5.length c0_5] 51 (0, 0))) := ⟨Z4_11⟩
       have n1_ : Aside0 (((w46.setCell ⟨gb137, 0, none⟩ (.int .i64 a0_4)).setCell ⟨gb137, 1, none⟩ (.slice none 0 0)).heap[gb136]? = some (.cells #[.int .i64 0, .slice none 0 0] 29 (0, 0))) := ⟨Z4_12⟩
       have n2_ : Aside0 (((w46.setCell ⟨gb137, 0, none⟩ (.int .i64 a0_4)).setCell ⟨gb137, 1, none⟩ (.slice none 0 0)).heap[gb137]? = some (.cells #[.int .i64 a0_4, .slice none 0 0] 29 (0, 0))) := ⟨Z4_10⟩
       have n3_ : Aside0 (Below w.heap.size w ((w46.setCell ⟨gb137, 0, none⟩ (.int .i64 a0_4)).setCell ⟨gb137, 1, none⟩ (.slice none 0 0))) := ⟨Z4_1⟩
       (try clear BK135)
       (try clear BK136)
       (try clear BK137)
       (try clear HB)
       generalize ((w46.setCell ⟨gb137, 0, none⟩ (.int .i64 a0_4)).setCell ⟨gb137, 1, none⟩ (.slice none 0 0)) = w50 at n0_ n1_ n2_ n3_ ⊢
       have BK135 := n0_
       have BK136 := n1_
       have BK137 := n2_
       have HB := n3_
       clear n0_ n1_ n2_ n3_
       have n0_ := Aside0.mk (blk_drew BK135.out)
       have n1_ := Aside0.mk (blk_drew BK136.out)
       have n2_ := Aside0.mk (blk_drew BK137.out)
       have n3_ := Aside0.mk (below_drew1 HB.out)
       clear BK135
       clear BK136
       clear BK137
       clear HB
       have BK135 := n0_
       have BK136 := n1_
       have BK137 := n2_
       have HB := n3_
       clear n0_ n1_ n2_ n3_
       refine start_ (n := 14) (S := fun w' => w'.cell? ⟨gb137, 0, none⟩ = some (.int .i64 a0_4) ∧ w'.cell? ⟨gb137, 1, none⟩ = some (.slice none 0 0) ∧ w'.cell? ⟨gb135, 0, none⟩ = some (.int .i64 a0_0) ∧ w'.cell? ⟨gb135, 1, none⟩ = some (.int .i64 a0_1) ∧ w'.cell? ⟨gb135, 2, none⟩ = some (.slice A0_2 l0_2.length c0_2) ∧ w'.cell? ⟨gb135, 3, none⟩ = some (.slice A0_3 l0_3.length c0_3) ∧ w'.cell? ⟨gb135, 4, none⟩ = some (.int .i64 a0_4) ∧ w'.cell? ⟨gb135, 5, none⟩ = some (.slice A0_5 l0_5.length c0_5)) (ds := [13]) #[false, false, false, false, false, false, false, false, false, false, false, false, false, false] Z4_15 rfl rfl ⟨(blk_cell BK137.out 0).trans rfl, (blk_cell BK137.out 1).trans rfl, (blk_cell BK135.out 0).trans rfl, (blk_cell BK135.out 1).trans rfl, (blk_cell BK135.out 2).trans rfl, (blk_cell BK135.out 3).trans rfl, (blk_cell BK135.out 4).trans rfl, (blk_cell BK135.out 5).trans rfl⟩ (fun hHeld => ?_); refine with_tabW spec_Link.tab2 spec_Link.bits2 (fun HT_ HW_ => ?_)
       generalize w50.drew = w51 at BK135 BK136 BK137 HB hHeld ⊢
       refine pure_ (i := 0) (N := some 8) (v := ?_) (a' := ?_) #[true, false, false, false, false, false, false, false, false, false, false, false, false, false] rfl rfl (any_of HT_.out Z4_15) (fun _ _ _ h => h) (Or.inl ⟨Z4_40, ?_⟩) ?_ ?_
       rotate_left
       ·intro w'
        go_simp
        with_reducible rfl
       rotate_left
       ·simp only [Act.put, List.setIfInBounds_toArray, List.set_cons_zero, List.set_cons_succ, i64_w, i32_w]
        rfl
       refine pure_ (i := 2) (N := some 10) (v := ?_) (a' := ?_) #[true, false, true, false, false, false, false, false, false, false, false, false, false, false] rfl rfl (any_of HT_.out Z4_15) (fun _ _ _ h => h) (Or.inl ⟨Z4_40, ?_⟩) ?_ ?_
       rotate_left
       ·intro w'
        go_simp
        with_reducible rfl
       rotate_left
       ·simp only [Act.put, List.setIfInBounds_toArray, List.set_cons_zero, List.set_cons_succ, i64_w, i32_w]
        rfl
       refine pure_ (i := 6) (N := some 14) (v := ?_) (a' := ?_) #[true, false, true, false, false, false, true, false, false, false, false, false, false, false] rfl rfl (any_of HT_.out Z4_15) (fun _ _ _ h => h) (Or.inl ⟨Z4_40, ?_⟩) ?_ ?_
       rotate_left
       ·intro w'
        go_simp
        with_reducible rfl
       rotate_left
       ·simp only [Act.put, List.setIfInBounds_toArray, List.set_cons_zero, List.set_cons_succ, i64_w, i32_w]
        rfl
       refine take_ (i := 1) (N := some 9) (v := ?_) (a' := ?_) #[true, true, true, false, false, false, true, false, false, false, false, false, false, false] rfl rfl (take_ofW HT_.out HW_.out Z4_15) (fun _ _ _ h => h) (Or.inl ⟨Z4_40, ?_⟩) hHeld ?_ ?_
       rotate_left
       ·rintro w' ⟨s0, s1, s2, s3, s4, s5, s6, s7⟩
        go_simp
        with_reducible rfl
       rotate_left
       ·simp only [Act.put, List.setIfInBounds_toArray, List.set_cons_zero, List.set_cons_succ, i64_w, i32_w]
        rfl
       refine take_ (i := 3) (N := some 11) (v := ?_) (a' := ?_) #[true, true, true, true, false, false, true, false, false, false, false, false, false, false] rfl rfl (take_ofW HT_.out HW_.out Z4_15) (fun _ _ _ h => h) (Or.inl ⟨Z4_40, ?_⟩) hHeld ?_ ?_
       rotate_left
       ·rintro w' ⟨s0, s1, s2, s3, s4, s5, s6, s7⟩
        go_simp
        with_reducible rfl
       rotate_left
       ·simp only [Act.put, List.setIfInBounds_toArray, List.set_cons_zero, List.set_cons_succ, i64_w, i32_w]
        rfl
       refine pure_ (i := 4) (N := some 12) (v := ?_) (a' := ?_) #[true, true, true, true, true, false, true, false, false, false, false, false, false, false] rfl rfl (any_of HT_.out Z4_15) (fun _ _ _ h => h) (Or.inl ⟨Z4_40, ?_⟩) ?_ ?_
       rotate_left
       ·intro w'
        go_simp
        with_reducible rfl
       rotate_left
       ·simp only [Act.put, List.setIfInBounds_toArray, List.set_cons_zero, List.set_cons_succ, i64_w, i32_w]
        rfl
       refine take_ (i := 7) (N := some 15) (v := ?_) (a' := ?_) #[true, true, true, true, true, false, true, true, false, false, false, false, false, false] rfl rfl (take_ofW HT_.out HW_.out Z4_15) (fun _ _ _ h => h) (Or.inl ⟨Z4_40, ?_⟩) hHeld ?_ ?_
       rotate_left
       ·rintro w' ⟨s0, s1, s2, s3, s4, s5, s6, s7⟩
        go_simp
        with_reducible rfl
       rotate_left
       ·simp only [Act.put, List.setIfInBounds_toArray, List.set_cons_zero, List.set_cons_succ, i64_w, i32_w]
        rfl
       refine one_ (i := 5) (N := some 13) #[true, true, true, true, true, true, true, true, false, false, false, false, false, false] rfl rfl (one_of HT_.out Z4_15) Z4_25 (fun K hK => ?_)
       refine Kd.R_lit_step (Kd.int .u8) _ 5 ?hg (N := 13) ?hd (xs := ([] : List Int)) (inner := []) (ok := fun _ => True) (okp := fun _ => True) ?hr ?hp (fun _ hk => hk) trivial (Below.refl _ _) (Nat.le_refl _) (by simp) ?_; (case hd => rfl); (case hg => rfl); (case hr => exact Z4_17); (case hp => exact (Reps.none _ _))
       intro v139 w52 ho53 hb hg_ hnew_
       clear hg_ hnew_
       (first | rw [← Ny138.out] at ho53 | (simp only [Int.reduceToNat] at ho53; rw [← Ny138.out] at ho53))
       have n0_ := Aside0.mk (Kd.R_lower ho53 (below_size Z4_1))
       have n1_ := Aside0.mk (blk_below (g := gb135) (o := .cells #[.int .i64 a0_0, .int .i64 a0_1, .slice A0_2 l0_2.length c0_2, .slice A0_3 l0_3.length c0_3, .int .i64 a0_4, .slice A0_5 l0_5.length c0_5] 51 (0, 0)) Z4_2 hb)
       have n2_ := Aside0.mk (blk_below (g := gb136) (o := .cells #[.int .i64 0, .slice none 0 0] 29 (0, 0)) Z4_3 hb)
       have n3_ := Aside0.mk (blk_below (g := gb137) (o := .cells #[.int .i64 a0_4, .slice none 0 0] 29 (0, 0)) Z4_6 hb)
       have n4_ := Aside0.mk (below_step Z4_1 hb)
       clear BK135
       clear BK136
       clear BK137
       clear HB
       have HO140 := n0_
       have BK135 := n1_
       have BK136 := n2_
       have BK137 := n3_
       have HB := n4_
       clear n0_ n1_ n2_ n3_ n4_
       clear hb ho53
       refine hK.out _ _ ⟨(blk_cell BK137.out 0).trans rfl, (blk_cell BK137.out 1).trans rfl, (blk_cell BK135.out 0).trans rfl, (blk_cell BK135.out 1).trans rfl, (blk_cell BK135.out 2).trans rfl, (blk_cell BK135.out 3).trans rfl, (blk_cell BK135.out 4).trans rfl, (blk_cell BK135.out 5).trans rfl⟩ (fun hHeld => ?_)
       clear hK K
       refine norm_ (a' := ?_) ?_ ?_
       rotate_left
       ·show Act.put _ (some 13) _ = _
        simp only [Act.put, List.setIfInBounds_toArray, List.set_cons_zero, List.set_cons_succ, i64_w, i32_w]
        rfl
       refine one_ (i := 8) (N := some 16) #[true, true, true, true, true, true, true, true, true, false, false, false, false, false] rfl rfl (one_of HT_.out Z4_15) Z4_25 (fun K hK => ?_)
       refine Kd.R_append_rows_step (Kd.int .u8) (w0 := w) w.heap.size Z4_40 (.tmp 13) (.tmp 15) 33 5 (.int .u8 0) 1 rfl Try.underlying33 info5 rfl Z4_25 (by omega) v139 y138 l0_2 _ _ _ (fun _ => True) (fun _ => False) rfl rfl ?aO ?aR (fun _ _ h => h) (fun _ h => h.elim) ?aF ?aB ?aS ?aL ?_
       (case aR => exact Z4_18)
       (case aB => exact Z4_1)
       (case aF => exact (fun _ _ => trivial))
       (case aO => exact Z4_23)
       (case aS => exact (below_size Z4_1))
       (case aL => have := LMc2.out; omega)
       intro v142 w54 ho hb hg hat
       rw [← Ny141.out] at ho
       have n0_ := Aside0.mk (blk_grown (g := gb135) (o := .cells #[.int .i64 a0_0, .int .i64 a0_1, .slice A0_2 l0_2.length c0_2, .slice A0_3 l0_3.length c0_3, .int .i64 a0_4, .slice A0_5 l0_5.length c0_5] 51 (0, 0)) Z4_2 hg (Kd.R_ne HO140.out BK135.out Z4_25))
       have n1_ := Aside0.mk (blk_grown (g := gb136) (o := .cells #[.int .i64 0, .slice none 0 0] 29 (0, 0)) Z4_3 hg (Kd.R_ne HO140.out BK136.out Z4_25))
       have n2_ := Aside0.mk (blk_grown (g := gb137) (o := .cells #[.int .i64 a0_4, .slice none 0 0] 29 (0, 0)) Z4_6 hg (Kd.R_ne HO140.out BK137.out Z4_25))
       have n3_ := Aside0.mk (hb)
       have n4_ := Aside0.mk (ho)
       clear BK135
       clear BK136
       clear BK137
       clear HB
       clear HO140
       have BK135 := n0_
       have BK136 := n1_
       have BK137 := n2_
       have HB := n3_
       have HO143 := n4_
       clear n0_ n1_ n2_ n3_ n4_
       clear ho hb hg hat
       obtain ⟨Ao55, co55, eo55⟩ := Kd.R_slice HO143.out
       (first | subst eo55 | (injection eo55 with f1_ f2_ f3_; have f4_ := f1_.symm; have f5_ := f3_.symm; clear f1_ f2_ f3_; subst f4_; subst f5_))
       refine hK.out _ _ ⟨(blk_cell BK137.out 0).trans rfl, (blk_cell BK137.out 1).trans rfl, (blk_cell BK135.out 0).trans rfl, (blk_cell BK135.out 1).trans rfl, (blk_cell BK135.out 2).trans rfl, (blk_cell BK135.out 3).trans rfl, (blk_cell BK135.out 4).trans rfl, (blk_cell BK135.out 5).trans rfl⟩ (fun hHeld => ?_)
       clear hK K
       refine norm_ (a' := ?_) ?_ ?_
       rotate_left
       ·show Act.put _ (some 16) _ = _
        simp only [Act.put, List.setIfInBounds_toArray, List.set_cons_zero, List.set_cons_succ, i64_w, i32_w]
        rfl
       refine pure_ (i := 9) (N := some 17) (v := ?_) (a' := ?_) #[true, true, true, true, true, true, true, true, true, true, false, false, false, false] rfl rfl (any_of HT_.out Z4_15) (fun _ _ _ h => h) (Or.inl ⟨Z4_40, ?_⟩) ?_ ?_
       rotate_left
       ·intro w'
        go_simp
        with_reducible rfl
       rotate_left
       ·simp only [Act.put, List.setIfInBounds_toArray, List.set_cons_zero, List.set_cons_succ, i64_w, i32_w]
        rfl
       refine one_ (i := 10) (N := some 18) #[true, true, true, true, true, true, true, true, true, true, true, false, false, false] rfl rfl (one_of HT_.out Z4_15) Z4_25 (fun K hK => ?_)
       refine value_ (w1 := ?_) (v := ?_) Z4_40 rfl ?_ ?_
       rotate_left 2
       ·go_simp
        constructor
        ·rfl
        rfl
       refine hK.out _ _ ⟨(blk_cell (blk_alloc BK137.out _) 0).trans rfl, (blk_cell (blk_alloc BK137.out _) 1).trans rfl, (blk_cell (blk_alloc BK135.out _) 0).trans rfl, (blk_cell (blk_alloc BK135.out _) 1).trans rfl, (blk_cell (blk_alloc BK135.out _) 2).trans rfl, (blk_cell (blk_alloc BK135.out _) 3).trans rfl, (blk_cell (blk_alloc BK135.out _) 4).trans rfl, (blk_cell (blk_alloc BK135.out _) 5).trans rfl⟩ (fun hHeld => ?_)
       clear hK K
       refine norm_ (a' := ?_) ?_ ?_
       rotate_left
       ·show Act.put _ (some 18) _ = _
        simp only [Act.put, List.setIfInBounds_toArray, List.set_cons_zero, List.set_cons_succ, i64_w, i32_w]
        rfl
       refine one_ (i := 11) (N := some 19) #[true, true, true, true, true, true, true, true, true, true, true, true, false, false] rfl rfl (one_of HT_.out Z4_15) Z4_25 (fun K hK => ?_)
       refine Kd.S_append_step k58 (w0 := w) w.heap.size Z4_40 (.tmp 9) (.tmp 18) 27 58 (.agg #[(.int .i64 0), (.int .i64 0), (.int .i64 0), (.slice none 0 0)]) 48 rfl Try.underlying27 info58 rfl Z4_25 (by omega) (.slice none 0 0) ([] : List (S58)) (⟨4096, 5, (l0_2.length : Int), y141⟩ : S58) [.int .i64 4096, .int .i64 5, .int .i64 (l0_2.length : Int), .slice Ao55 y141.length co55] (fun _ => True) (fun k_ => some k_ = (.slice Ao55 y141.length co55 : Value).ownBlock) rfl rfl ?aP (fun k_ hk_ => ((Kd.R_mono (ok' := fun k_ => ((fun _ => True)) k_ ∧ some k_ ≠ (.slice none 0 0 : Value).ownBlock) (HO143.out) (fun k_ hk => ⟨trivial, Z4_19⟩))).1 k_ hk_.symm) ?aF ?aO ?aB ?aS ?aL ?_
       (case aP => exact k58_mkM _ _ _ (⟨4096, 5, (l0_2.length : Int), y141⟩ : S58) (Kd.R_mono (Kd.R_tight rfl (Kd.R_mono (ok' := fun k_ => ((fun _ => True)) k_ ∧ some k_ ≠ (.slice none 0 0 : Value).ownBlock) (HO143.out) (fun k_ hk => ⟨trivial, Z4_19⟩))) (fun _ h_ => h_)))
       (case aB => exact Z4_1)
       (case aF => exact (fun _ _ => trivial))
       (case aO => exact ((Kd.S_nil _ _ _ _ _)))
       (case aS => exact (below_size Z4_1))
       (case aL => have := LMc3.out; omega)
       intro v145 w56 ho hb hg hat
       rw [← Ny144.out] at ho
       have n0_ := Aside0.mk (blk_grown (g := gb135) (o := .cells #[.int .i64 a0_0, .int .i64 a0_1, .slice A0_2 l0_2.length c0_2, .slice A0_3 l0_3.length c0_3, .int .i64 a0_4, .slice A0_5 l0_5.length c0_5] 51 (0, 0)) Z4_2 hg Z4_19)
       have n1_ := Aside0.mk (blk_grown (g := gb136) (o := .cells #[.int .i64 0, .slice none 0 0] 29 (0, 0)) Z4_3 hg Z4_19)
       have n2_ := Aside0.mk (blk_grown (g := gb137) (o := .cells #[.int .i64 a0_4, .slice none 0 0] 29 (0, 0)) Z4_6 hg Z4_19)
       have n3_ := Aside0.mk (hb)
       have n4_ := Aside0.mk (ho)
       clear BK135
       clear BK136
       clear BK137
       clear HB
       clear HO143
       have BK135 := n0_
       have BK136 := n1_
       have BK137 := n2_
       have HB := n3_
       have HO146 := n4_
       clear n0_ n1_ n2_ n3_ n4_
       clear ho hb hg hat
       obtain ⟨Ao57, co57, eo57⟩ := Kd.S_slice HO146.out
       (first | subst eo57 | (injection eo57 with f1_ f2_ f3_; have f4_ := f1_.symm; have f5_ := f3_.symm; clear f1_ f2_ f3_; subst f4_; subst f5_))
       refine hK.out _ _ ⟨(blk_cell BK137.out 0).trans rfl, (blk_cell BK137.out 1).trans rfl, (blk_cell BK135.out 0).trans rfl, (blk_cell BK135.out 1).trans rfl, (blk_cell BK135.out 2).trans rfl, (blk_cell BK135.out 3).trans rfl, (blk_cell BK135.out 4).trans rfl, (blk_cell BK135.out 5).trans rfl⟩ (fun hHeld => ?_)
       clear hK K
       refine norm_ (a' := ?_) ?_ ?_
       rotate_left
       ·show Act.put _ (some 19) _ = _
        simp only [Act.put, List.setIfInBounds_toArray, List.set_cons_zero, List.set_cons_succ, i64_w, i32_w]
        rfl
       refine pure_ (i := 12) (N := some 20) (v := ?_) (a' := ?_) #[true, true, true, true, true, true, true, true, true, true, true, true, true, false] rfl rfl (any_of HT_.out Z4_15) (fun _ _ _ h => h) (Or.inl ⟨Z4_40, ?_⟩) ?_ ?_
       rotate_left
       ·intro w'
        go_simp
        with_reducible rfl
       rotate_left
       ·simp only [Act.put, List.setIfInBounds_toArray, List.set_cons_zero, List.set_cons_succ, i64_w, i32_w]
        rfl
       refine last_ (i := 13) (N := none) #[true, true, true, true, true, true, true, true, true, true, true, true, true, true] rfl rfl (one_of HT_.out Z4_15) Z4_25 (fun K hK => ?_)
       have hs58 : w56.cell? ⟨gb137, 1, none⟩ = some (.slice none 0 0) := (blk_cell BK137.out 1).trans rfl
       have hfs58 := blk_frozen BK137.out 1
       have hns58_0 := NB135_137.out
       have hns58_1 := NB136_137.out
       have hms58_0 := NB137_135.out
       have hms58_1 := NB137_136.out
       refine skip_ (w1 := ?_) Z4_40 rfl ?_ ?_
       rotate_left
       ·go_simp
        rfl
       refine hK.out _ _ ?_
       clear hK K
       refine done_ (done_of HT_.out Z4_15) ?_
       have hcz59_0 : w56.cell? ⟨gb135, 0, none⟩ = some (.int .i64 a0_0) := (blk_cell BK135.out 0).trans rfl
       have hcz59_1 : w56.cell? ⟨gb135, 1, none⟩ = some (.int .i64 a0_1) := (blk_cell BK135.out 1).trans rfl
       have hcz59_2 : w56.cell? ⟨gb135, 2, none⟩ = some (.slice A0_2 l0_2.length c0_2) := (blk_cell BK135.out 2).trans rfl
       have hcz59_3 : w56.cell? ⟨gb135, 3, none⟩ = some (.slice A0_3 l0_3.length c0_3) := (blk_cell BK135.out 3).trans rfl
       have hcz59_4 : w56.cell? ⟨gb135, 4, none⟩ = some (.int .i64 a0_4) := (blk_cell BK135.out 4).trans rfl
       have hcz59_5 : w56.cell? ⟨gb135, 5, none⟩ = some (.slice A0_5 l0_5.length c0_5) := (blk_cell BK135.out 5).trans rfl
       have hfz59_0 := blk_frozen BK135.out 0
       have hfz59_1 := blk_frozen BK135.out 1
       have hfz59_2 := blk_frozen BK135.out 2
       have hfz59_3 := blk_frozen BK135.out 3
       have hfz59_4 := blk_frozen BK135.out 4
       have hfz59_5 := blk_frozen BK135.out 5
       try go_wp2
       have n0_ : Aside0 (Kd.S k58 58 (w56.setCell ⟨gb137, 1, none⟩ (.slice Ao57 y144.length co57)) w.heap.size (fun _ => True) (.slice Ao57 y144.length co57) y144) := ⟨by (with_reducible repeat (first | apply Kd.S_alloc | apply Kd.S_drewN | apply Kd.S_drew)); exact Kd.S_mono (Kd.S_far (p := ⟨gb137, 1, none⟩) (Kd.S_types HO146.out BK137.out Z4_25) (fun _ hk => hk.2) (.slice Ao57 y144.length co57)) (fun _ hk => trivial)⟩
       have n1_ : Aside0 ((w56.setCell ⟨gb137, 1, none⟩ (.slice Ao57 y144.length co57)).heap[gb135]? = some (.cells #[.int .i64 a0_0, .int .i64 a0_1, .slice A0_2 l0_2.length c0_2, .slice A0_3 l0_3.length c0_3, .int .i64 a0_4, .slice A0_5 l0_5.length c0_5] 51 (0, 0))) := ⟨Z4_13⟩
       have n2_ : Aside0 ((w56.setCell ⟨gb137, 1, none⟩ (.slice Ao57 y144.length co57)).heap[gb136]? = some (.cells #[.int .i64 0, .slice none 0 0] 29 (0, 0))) := ⟨Z4_14⟩
       have n3_ : Aside0 ((w56.setCell ⟨gb137, 1, none⟩ (.slice Ao57 y144.length co57)).heap[gb137]? = some (.cells #[.int .i64 a0_4, .slice Ao57 y144.length co57] 29 (0, 0))) := ⟨Z4_16⟩
       have n4_ : Aside0 (Below w.heap.size w (w56.setCell ⟨gb137, 1, none⟩ (.slice Ao57 y144.length co57))) := ⟨Z4_1⟩
       (try clear HO146)
       (try clear BK135)
       (try clear BK136)
       (try clear BK137)
       (try clear HB)
       generalize (w56.setCell ⟨gb137, 1, none⟩ (.slice Ao57 y144.length co57)) = w60 at n0_ n1_ n2_ n3_ n4_ ⊢
       have HO146 := n0_
       have BK135 := n1_
       have BK136 := n2_
       have BK137 := n3_
       have HB := n4_
       clear n0_ n1_ n2_ n3_ n4_
       have n0_ := Aside0.mk (Kd.S_drew HO146.out)
       have n1_ := Aside0.mk (blk_drew BK135.out)
       have n2_ := Aside0.mk (blk_drew BK136.out)
       have n3_ := Aside0.mk (blk_drew BK137.out)
       have n4_ := Aside0.mk (below_drew1 HB.out)
       clear HO146
       clear BK135
       clear BK136
       clear BK137
       clear HB
       have HO146 := n0_
       have BK135 := n1_
       have BK136 := n2_
       have BK137 := n3_
       have HB := n4_
       clear n0_ n1_ n2_ n3_ n4_
       refine start_ (n := 14) (S := fun w' => w'.cell? ⟨gb137, 0, none⟩ = some (.int .i64 a0_4) ∧ w'.cell? ⟨gb137, 1, none⟩ = some (.slice Ao57 y144.length co57) ∧ w'.cell? ⟨gb135, 0, none⟩ = some (.int .i64 a0_0) ∧ w'.cell? ⟨gb135, 1, none⟩ = some (.int .i64 a0_1) ∧ w'.cell? ⟨gb135, 2, none⟩ = some (.slice A0_2 l0_2.length c0_2) ∧ w'.cell? ⟨gb135, 3, none⟩ = some (.slice A0_3 l0_3.length c0_3) ∧ w'.cell? ⟨gb135, 4, none⟩ = some (.int .i64 a0_4) ∧ w'.cell? ⟨gb135, 5, none⟩ = some (.slice A0_5 l0_5.length c0_5)) (ds := [13]) #[false, false, false, false, false, false, false, false, false, false, false, false, false, false] Z4_15 rfl rfl ⟨(blk_cell BK137.out 0).trans rfl, (blk_cell BK137.out 1).trans rfl, (blk_cell BK135.out 0).trans rfl, (blk_cell BK135.out 1).trans rfl, (blk_cell BK135.out 2).trans rfl, (blk_cell BK135.out 3).trans rfl, (blk_cell BK135.out 4).trans rfl, (blk_cell BK135.out 5).trans rfl⟩ (fun hHeld => ?_); refine with_tabW spec_Link.tab4 spec_Link.bits4 (fun HT_ HW_ => ?_)
       generalize w60.drew = w61 at HO146 BK135 BK136 BK137 HB hHeld ⊢
       refine pure_ (i := 0) (N := some 25) (v := ?_) (a' := ?_) #[true, false, false, false, false, false, false, false, false, false, false, false, false, false] rfl rfl (any_of HT_.out Z4_15) (fun _ _ _ h => h) (Or.inl ⟨Z4_40, ?_⟩) ?_ ?_
       rotate_left
       ·intro w'
        go_simp
        with_reducible rfl
       rotate_left
       ·simp only [Act.put, List.setIfInBounds_toArray, List.set_cons_zero, List.set_cons_succ, i64_w, i32_w]
        rfl
       refine pure_ (i := 2) (N := some 27) (v := ?_) (a' := ?_) #[true, false, true, false, false, false, false, false, false, false, false, false, false, false] rfl rfl (any_of HT_.out Z4_15) (fun _ _ _ h => h) (Or.inl ⟨Z4_40, ?_⟩) ?_ ?_
       rotate_left
       ·intro w'
        go_simp
        with_reducible rfl
       rotate_left
       ·simp only [Act.put, List.setIfInBounds_toArray, List.set_cons_zero, List.set_cons_succ, i64_w, i32_w]
        rfl
       refine pure_ (i := 6) (N := some 31) (v := ?_) (a' := ?_) #[true, false, true, false, false, false, true, false, false, false, false, false, false, false] rfl rfl (any_of HT_.out Z4_15) (fun _ _ _ h => h) (Or.inl ⟨Z4_40, ?_⟩) ?_ ?_
       rotate_left
       ·intro w'
        go_simp
        with_reducible rfl
       rotate_left
       ·simp only [Act.put, List.setIfInBounds_toArray, List.set_cons_zero, List.set_cons_succ, i64_w, i32_w]
        rfl
       refine take_ (i := 1) (N := some 26) (v := ?_) (a' := ?_) #[true, true, true, false, false, false, true, false, false, false, false, false, false, false] rfl rfl (take_ofW HT_.out HW_.out Z4_15) (fun _ _ _ h => h) (Or.inl ⟨Z4_40, ?_⟩) hHeld ?_ ?_
       rotate_left
       ·rintro w' ⟨s0, s1, s2, s3, s4, s5, s6, s7⟩
        go_simp
        with_reducible rfl
       rotate_left
       ·simp only [Act.put, List.setIfInBounds_toArray, List.set_cons_zero, List.set_cons_succ, i64_w, i32_w]
        rfl
       refine take_ (i := 3) (N := some 28) (v := ?_) (a' := ?_) #[true, true, true, true, false, false, true, false, false, false, false, false, false, false] rfl rfl (take_ofW HT_.out HW_.out Z4_15) (fun _ _ _ h => h) (Or.inl ⟨Z4_40, ?_⟩) hHeld ?_ ?_
       rotate_left
       ·rintro w' ⟨s0, s1, s2, s3, s4, s5, s6, s7⟩
        go_simp
        with_reducible rfl
       rotate_left
       ·simp only [Act.put, List.setIfInBounds_toArray, List.set_cons_zero, List.set_cons_succ, i64_w, i32_w]
        rfl
       refine pure_ (i := 4) (N := some 29) (v := ?_) (a' := ?_) #[true, true, true, true, true, false, true, false, false, false, false, false, false, false] rfl rfl (any_of HT_.out Z4_15) (fun _ _ _ h => h) (Or.inl ⟨Z4_40, ?_⟩) ?_ ?_
       rotate_left
       ·intro w'
        go_simp
        with_reducible rfl
       rotate_left
       ·simp only [Act.put, List.setIfInBounds_toArray, List.set_cons_zero, List.set_cons_succ, i64_w, i32_w]
        rfl
       refine take_ (i := 7) (N := some 32) (v := ?_) (a' := ?_) #[true, true, true, true, true, false, true, true, false, false, false, false, false, false] rfl rfl (take_ofW HT_.out HW_.out Z4_15) (fun _ _ _ h => h) (Or.inl ⟨Z4_40, ?_⟩) hHeld ?_ ?_
       rotate_left
       ·rintro w' ⟨s0, s1, s2, s3, s4, s5, s6, s7⟩
        go_simp
        with_reducible rfl
       rotate_left
       ·simp only [Act.put, List.setIfInBounds_toArray, List.set_cons_zero, List.set_cons_succ, i64_w, i32_w]
        rfl
       refine one_ (i := 5) (N := some 30) #[true, true, true, true, true, true, true, true, false, false, false, false, false, false] rfl rfl (one_of HT_.out Z4_15) Z4_25 (fun K hK => ?_)
       refine Kd.R_lit_step (Kd.int .u8) _ 5 ?hg (N := 30) ?hd (xs := ([] : List Int)) (inner := []) (ok := fun _ => True) (okp := fun _ => True) ?hr ?hp (fun _ hk => hk) trivial (Below.refl _ _) (Nat.le_refl _) (by simp) ?_; (case hd => rfl); (case hg => rfl); (case hr => exact Z4_17); (case hp => exact (Reps.none _ _))
       intro v148 w62 ho63 hb hg_ hnew_
       clear hg_ hnew_
       (first | rw [← Ny147.out] at ho63 | (simp only [Int.reduceToNat] at ho63; rw [← Ny147.out] at ho63))
       have n0_ := Aside0.mk (Kd.S_elder' Z4_24 (Kd.R_base ho63) hb)
       have n1_ := Aside0.mk (Kd.R_lower ho63 (below_size Z4_1))
       have n2_ := Aside0.mk (blk_below (g := gb135) (o := .cells #[.int .i64 a0_0, .int .i64 a0_1, .slice A0_2 l0_2.length c0_2, .slice A0_3 l0_3.length c0_3, .int .i64 a0_4, .slice A0_5 l0_5.length c0_5] 51 (0, 0)) Z4_2 hb)
       have n3_ := Aside0.mk (blk_below (g := gb136) (o := .cells #[.int .i64 0, .slice none 0 0] 29 (0, 0)) Z4_3 hb)
       have n4_ := Aside0.mk (blk_below (g := gb137) (o := .cells #[.int .i64 a0_4, .slice Ao57 y144.length co57] 29 (0, 0)) Z4_6 hb)
       have n5_ := Aside0.mk (below_step Z4_1 hb)
       clear HO146
       clear BK135
       clear BK136
       clear BK137
       clear HB
       have HO146 := n0_
       have HO149 := n1_
       have BK135 := n2_
       have BK136 := n3_
       have BK137 := n4_
       have HB := n5_
       clear n0_ n1_ n2_ n3_ n4_ n5_
       clear hb ho63
       refine hK.out _ _ ⟨(blk_cell BK137.out 0).trans rfl, (blk_cell BK137.out 1).trans rfl, (blk_cell BK135.out 0).trans rfl, (blk_cell BK135.out 1).trans rfl, (blk_cell BK135.out 2).trans rfl, (blk_cell BK135.out 3).trans rfl, (blk_cell BK135.out 4).trans rfl, (blk_cell BK135.out 5).trans rfl⟩ (fun hHeld => ?_)
       clear hK K
       refine norm_ (a' := ?_) ?_ ?_
       rotate_left
       ·show Act.put _ (some 30) _ = _
        simp only [Act.put, List.setIfInBounds_toArray, List.set_cons_zero, List.set_cons_succ, i64_w, i32_w]
        rfl
       refine one_ (i := 8) (N := some 33) #[true, true, true, true, true, true, true, true, true, false, false, false, false, false] rfl rfl (one_of HT_.out Z4_15) Z4_25 (fun K hK => ?_)
       refine Kd.R_append_rows_step (Kd.int .u8) (w0 := w) w.heap.size Z4_40 (.tmp 30) (.tmp 32) 33 5 (.int .u8 0) 1 rfl Try.underlying33 info5 rfl Z4_25 (by omega) v148 y147 l0_3 _ _ _ (fun _ => True) (fun _ => False) rfl rfl ?aO ?aR (fun _ _ h => h) (fun _ h => h.elim) ?aF ?aB ?aS ?aL ?_
       (case aR => exact Z4_30)
       (case aB => exact Z4_1)
       (case aF => exact (fun _ _ => trivial))
       (case aO => exact Z4_39)
       (case aS => exact (below_size Z4_1))
       (case aL => have := LMc5.out; omega)
       intro v151 w64 ho hb hg hat
       rw [← Ny150.out] at ho
       have n0_ := Aside0.mk (blk_grown (g := gb135) (o := .cells #[.int .i64 a0_0, .int .i64 a0_1, .slice A0_2 l0_2.length c0_2, .slice A0_3 l0_3.length c0_3, .int .i64 a0_4, .slice A0_5 l0_5.length c0_5] 51 (0, 0)) Z4_2 hg (Kd.R_ne HO149.out BK135.out Z4_25))
       have n1_ := Aside0.mk (blk_grown (g := gb136) (o := .cells #[.int .i64 0, .slice none 0 0] 29 (0, 0)) Z4_3 hg (Kd.R_ne HO149.out BK136.out Z4_25))
       have n2_ := Aside0.mk (blk_grown (g := gb137) (o := .cells #[.int .i64 a0_4, .slice Ao57 y144.length co57] 29 (0, 0)) Z4_6 hg (Kd.R_ne HO149.out BK137.out Z4_25))
       have n3_ := Aside0.mk (Kd.S_after (ok := (fun _ => True)) Z4_24 hg hat)
       have n4_ := Aside0.mk (hb)
       have n5_ := Aside0.mk (ho)
       clear BK135
       clear BK136
       clear BK137
       clear HO146
       clear HB
       clear HO149
       have BK135 := n0_
       have BK136 := n1_
       have BK137 := n2_
       have HO146 := n3_
       have HB := n4_
       have HO152 := n5_
       clear n0_ n1_ n2_ n3_ n4_ n5_
       clear ho hb hg hat
       obtain ⟨Ao65, co65, eo65⟩ := Kd.R_slice HO152.out
       (first | subst eo65 | (injection eo65 with f1_ f2_ f3_; have f4_ := f1_.symm; have f5_ := f3_.symm; clear f1_ f2_ f3_; subst f4_; subst f5_))
       refine hK.out _ _ ⟨(blk_cell BK137.out 0).trans rfl, (blk_cell BK137.out 1).trans rfl, (blk_cell BK135.out 0).trans rfl, (blk_cell BK135.out 1).trans rfl, (blk_cell BK135.out 2).trans rfl, (blk_cell BK135.out 3).trans rfl, (blk_cell BK135.out 4).trans rfl, (blk_cell BK135.out 5).trans rfl⟩ (fun hHeld => ?_)
       clear hK K
       refine norm_ (a' := ?_) ?_ ?_
       rotate_left
       ·show Act.put _ (some 33) _ = _
        simp only [Act.put, List.setIfInBounds_toArray, List.set_cons_zero, List.set_cons_succ, i64_w, i32_w]
        rfl
       refine pure_ (i := 9) (N := some 34) (v := ?_) (a' := ?_) #[true, true, true, true, true, true, true, true, true, true, false, false, false, false] rfl rfl (any_of HT_.out Z4_15) (fun _ _ _ h => h) (Or.inl ⟨Z4_40, ?_⟩) ?_ ?_
       rotate_left
       ·intro w'
        go_simp
        with_reducible rfl
       rotate_left
       ·simp only [Act.put, List.setIfInBounds_toArray, List.set_cons_zero, List.set_cons_succ, i64_w, i32_w]
        rfl
       refine one_ (i := 10) (N := some 35) #[true, true, true, true, true, true, true, true, true, true, true, false, false, false] rfl rfl (one_of HT_.out Z4_15) Z4_25 (fun K hK => ?_)
       refine value_ (w1 := ?_) (v := ?_) Z4_40 rfl ?_ ?_
       rotate_left 2
       ·go_simp
        constructor
        ·rfl
        rfl
       refine hK.out _ _ ⟨(blk_cell (blk_alloc BK137.out _) 0).trans rfl, (blk_cell (blk_alloc BK137.out _) 1).trans rfl, (blk_cell (blk_alloc BK135.out _) 0).trans rfl, (blk_cell (blk_alloc BK135.out _) 1).trans rfl, (blk_cell (blk_alloc BK135.out _) 2).trans rfl, (blk_cell (blk_alloc BK135.out _) 3).trans rfl, (blk_cell (blk_alloc BK135.out _) 4).trans rfl, (blk_cell (blk_alloc BK135.out _) 5).trans rfl⟩ (fun hHeld => ?_)
       clear hK K
       refine norm_ (a' := ?_) ?_ ?_
       rotate_left
       ·show Act.put _ (some 35) _ = _
        simp only [Act.put, List.setIfInBounds_toArray, List.set_cons_zero, List.set_cons_succ, i64_w, i32_w]
        rfl
       refine one_ (i := 11) (N := some 36) #[true, true, true, true, true, true, true, true, true, true, true, true, false, false] rfl rfl (one_of HT_.out Z4_15) Z4_25 (fun K hK => ?_)
       refine Kd.S_append_step k58 (w0 := w) w.heap.size Z4_40 (.tmp 26) (.tmp 35) 27 58 (.agg #[(.int .i64 0), (.int .i64 0), (.int .i64 0), (.slice none 0 0)]) 48 rfl Try.underlying27 info58 rfl Z4_25 (by omega) (.slice Ao57 y144.length co57) y144 (⟨262144, 3, (l0_3.length : Int), y150⟩ : S58) [.int .i64 262144, .int .i64 3, .int .i64 (l0_3.length : Int), .slice Ao65 y150.length co65] (fun _ => True) (fun k_ => some k_ = (.slice Ao65 y150.length co65 : Value).ownBlock) rfl rfl ?aP (fun k_ hk_ => ((Kd.R_mono (ok' := fun k_ => ((fun _ => True)) k_ ∧ some k_ ≠ (.slice Ao57 y144.length co57 : Value).ownBlock) (Kd.R_apart' (HO152.out) (Kd.S_typed HO146.out) Z4_25) (fun k_ hk => ⟨trivial, hk.2⟩))).1 k_ hk_.symm) ?aF ?aO ?aB ?aS ?aL ?_
       (case aP => exact k58_mkM _ _ _ (⟨262144, 3, (l0_3.length : Int), y150⟩ : S58) (Kd.R_mono (Kd.R_tight rfl (Kd.R_mono (ok' := fun k_ => ((fun _ => True)) k_ ∧ some k_ ≠ (.slice Ao57 y144.length co57 : Value).ownBlock) (Kd.R_apart' (HO152.out) (Kd.S_typed HO146.out) Z4_25) (fun k_ hk => ⟨trivial, hk.2⟩))) (fun _ h_ => h_)))
       (case aB => exact Z4_1)
       (case aF => exact (fun _ _ => trivial))
       (case aO => exact Z4_34)
       (case aS => exact (below_size Z4_1))
       (case aL => have := LMc6.out; omega)
       intro v154 w66 ho hb hg hat
       rw [← Ny153.out] at ho
       have n0_ := Aside0.mk (blk_grown (g := gb135) (o := .cells #[.int .i64 a0_0, .int .i64 a0_1, .slice A0_2 l0_2.length c0_2, .slice A0_3 l0_3.length c0_3, .int .i64 a0_4, .slice A0_5 l0_5.length c0_5] 51 (0, 0)) Z4_2 hg (Kd.S_ne HO146.out BK135.out Z4_25))
       have n1_ := Aside0.mk (blk_grown (g := gb136) (o := .cells #[.int .i64 0, .slice none 0 0] 29 (0, 0)) Z4_3 hg (Kd.S_ne HO146.out BK136.out Z4_25))
       have n2_ := Aside0.mk (blk_grown (g := gb137) (o := .cells #[.int .i64 a0_4, .slice Ao57 y144.length co57] 29 (0, 0)) Z4_6 hg (Kd.S_ne HO146.out BK137.out Z4_25))
       have n3_ := Aside0.mk (hb)
       have n4_ := Aside0.mk (ho)
       clear BK135
       clear BK136
       clear BK137
       clear HB
       clear HO146
       clear HO152
       have BK135 := n0_
       have BK136 := n1_
       have BK137 := n2_
       have HB := n3_
       have HO155 := n4_
       clear n0_ n1_ n2_ n3_ n4_
       clear ho hb hg hat
       obtain ⟨Ao67, co67, eo67⟩ := Kd.S_slice HO155.out
       (first | subst eo67 | (injection eo67 with f1_ f2_ f3_; have f4_ := f1_.symm; have f5_ := f3_.symm; clear f1_ f2_ f3_; subst f4_; subst f5_))
       refine hK.out _ _ ⟨(blk_cell BK137.out 0).trans rfl, (blk_cell BK137.out 1).trans rfl, (blk_cell BK135.out 0).trans rfl, (blk_cell BK135.out 1).trans rfl, (blk_cell BK135.out 2).trans rfl, (blk_cell BK135.out 3).trans rfl, (blk_cell BK135.out 4).trans rfl, (blk_cell BK135.out 5).trans rfl⟩ (fun hHeld => ?_)
       clear hK K
       refine norm_ (a' := ?_) ?_ ?_
       rotate_left
       ·show Act.put _ (some 36) _ = _
        simp only [Act.put, List.setIfInBounds_toArray, List.set_cons_zero, List.set_cons_succ, i64_w, i32_w]
        rfl
       refine pure_ (i := 12) (N := some 37) (v := ?_) (a' := ?_) #[true, true, true, true, true, true, true, true, true, true, true, true, true, false] rfl rfl (any_of HT_.out Z4_15) (fun _ _ _ h => h) (Or.inl ⟨Z4_40, ?_⟩) ?_ ?_
       rotate_left
       ·intro w'
        go_simp
        with_reducible rfl
       rotate_left
       ·simp only [Act.put, List.setIfInBounds_toArray, List.set_cons_zero, List.set_cons_succ, i64_w, i32_w]
        rfl
       refine last_ (i := 13) (N := none) #[true, true, true, true, true, true, true, true, true, true, true, true, true, true] rfl rfl (one_of HT_.out Z4_15) Z4_25 (fun K hK => ?_)
       have hs68 : w66.cell? ⟨gb137, 1, none⟩ = some (.slice Ao57 y144.length co57) := (blk_cell BK137.out 1).trans rfl
       have hfs68 := blk_frozen BK137.out 1
       have hns68_0 := NB135_137.out
       have hns68_1 := NB136_137.out
       have hms68_0 := NB137_135.out
       have hms68_1 := NB137_136.out
       refine skip_ (w1 := ?_) Z4_40 rfl ?_ ?_
       rotate_left
       ·go_simp
        rfl
       refine hK.out _ _ ?_
       clear hK K
       refine done_ (done_of HT_.out Z4_15) ?_
       have hcz69_0 : w66.cell? ⟨gb135, 0, none⟩ = some (.int .i64 a0_0) := (blk_cell BK135.out 0).trans rfl
       have hcz69_1 : w66.cell? ⟨gb135, 1, none⟩ = some (.int .i64 a0_1) := (blk_cell BK135.out 1).trans rfl
       have hcz69_2 : w66.cell? ⟨gb135, 2, none⟩ = some (.slice A0_2 l0_2.length c0_2) := (blk_cell BK135.out 2).trans rfl
       have hcz69_3 : w66.cell? ⟨gb135, 3, none⟩ = some (.slice A0_3 l0_3.length c0_3) := (blk_cell BK135.out 3).trans rfl
       have hcz69_4 : w66.cell? ⟨gb135, 4, none⟩ = some (.int .i64 a0_4) := (blk_cell BK135.out 4).trans rfl
       have hcz69_5 : w66.cell? ⟨gb135, 5, none⟩ = some (.slice A0_5 l0_5.length c0_5) := (blk_cell BK135.out 5).trans rfl
       have hfz69_0 := blk_frozen BK135.out 0
       have hfz69_1 := blk_frozen BK135.out 1
       have hfz69_2 := blk_frozen BK135.out 2
       have hfz69_3 := blk_frozen BK135.out 3
       have hfz69_4 := blk_frozen BK135.out 4
       have hfz69_5 := blk_frozen BK135.out 5
       have hcz70_0 : w66.cell? ⟨gb137, 0, none⟩ = some (.int .i64 a0_4) := (blk_cell BK137.out 0).trans rfl
       have hcz70_1 : w66.cell? ⟨gb137, 1, none⟩ = some (.slice Ao57 y144.length co57) := (blk_cell BK137.out 1).trans rfl
       have hfz70_0 := blk_frozen BK137.out 0
       have hfz70_1 := blk_frozen BK137.out 1
       try go_wp2_with (first | (go_at_call 8; (with_reducible refine (spec_ImageOk.calls k a0_4 _ _ y153 false _ ?side1 ?side2 A8.out).mono ?_); (case side1 => refine (Kd.S_reads' (e := 58) (base := w.heap.size) (ok := fun k_ => True) (n := y153.length) (c := co67) ?_).2.2; exact Z4_38); (case side2 => exact (Kd.S_reads' HO155.out).2.1); rintro e w71 ⟨rfl, hb⟩; have n0_ := Aside0.mk (Kd.S_below Z4_38 hb); have n1_ := Aside0.mk (blk_below (g := gb135) (o := .cells #[.int .i64 a0_0, .int .i64 a0_1, .slice A0_2 l0_2.length c0_2, .slice A0_3 l0_3.length c0_3, .int .i64 a0_4, .slice A0_5 l0_5.length c0_5] 51 (0, 0)) Z4_13 hb); have n2_ := Aside0.mk (blk_below (g := gb136) (o := .cells #[.int .i64 0, .slice none 0 0] 29 (0, 0)) Z4_14 hb); have n3_ := Aside0.mk (blk_below (g := gb137) (o := .cells #[.int .i64 a0_4, .slice Ao67 y153.length co67] 29 (0, 0)) (by (with_reducible repeat (first | apply blk_drewN | apply blk_drew | apply blk_alloc)); refine blk_put (cs := #[.int .i64 a0_4, .slice Ao57 y144.length co57]) ?_ 1 _ rfl; (with_reducible repeat (first | apply blk_drewN | apply blk_drew | apply blk_alloc)); exact BK137.out) hb); have n4_ := Aside0.mk (below_step Z4_1 hb); clear HO155; clear BK135; clear BK136; clear BK137; clear HB; have HO155 := n0_; have BK135 := n1_; have BK136 := n2_; have BK137 := n3_; have HB := n4_; clear n0_ n1_ n2_ n3_ n4_; (try clear hb); (try clear hb2); (try clear hk); (try clear hi); have hcz72_0 : w71.cell? ⟨gb136, 0, none⟩ = some (.int .i64 0) := (blk_cell BK136.out 0).trans rfl; have hcz72_1 : w71.cell? ⟨gb136, 1, none⟩ = some (.slice none 0 0) := (blk_cell BK136.out 1).trans rfl; have hfz72_0 := blk_frozen BK136.out 0; have hfz72_1 := blk_frozen BK136.out 1))
       refine bodyPost_ret (results_ct rfl _ _ gb136 29 #[.int .i64 0, .slice none 0 0] (0, 0) _ rfl Z4_29 Try.underlying29 rfl Z4_15) rfl ?_
       exact ⟨_, Z4_26, Z4_27, Z4_1⟩
      rw [if_neg c7] at H
      have c7b0 : (a0_0 == 0) = false := beq_eq_false_iff_ne.mpr c7
      have c7b1 : (a0_0 != 0) = true := bne_iff_ne.mpr c7
      simp only [Option.some.injEq, Prod.mk.injEq] at H
      obtain ⟨rfl, rfl, rfl⟩ := H
      go_enter Try.func23, Try.ntmps23
      try go_wp2_with (first | ((with_reducible refine gate_dst (N := 1) rfl ?_); refine box_event ?hg (N := 1) ?hd (cs := #[.int .i64 a0_0, .int .i64 a0_1, .slice A0_2 l0_2.length c0_2, .slice A0_3 l0_3.length c0_3, .int .i64 a0_4, .slice A0_5 l0_5.length c0_5]) (t := 51) ?hr ?_; (case hd => rfl); (case hg => rfl); (case hr => exact Z4_17); intro gb135 hg w73 hbox hb; have n0_ := Aside0.mk (below_step Z4_9 hb); have n1_ := Aside0.mk (hbox); have n2_ := Aside0.mk ((Z4_31 : w.heap.size ≤ gb135)); have n3_ := Aside0.mk ((Z4_31 : w.heap.size ≤ gb135)); clear HB; have HB := n0_; have BK135 := n1_; have GW135 := n2_; have GE135 := n3_; clear n0_ n1_ n2_ n3_; clear hb hbox hg) | ((with_reducible refine gate_dst (N := 2) rfl ?_); refine box_event ?hg (N := 2) ?hd (cs := #[.int .i64 0, .slice none 0 0]) (t := 29) ?hr ?_; (case hd => rfl); (case hg => rfl); (case hr => exact Z4_17); intro gb136 hg w74 hbox hb; have n0_ := Aside0.mk (blk_below (g := gb135) (o := .cells #[.int .i64 a0_0, .int .i64 a0_1, .slice A0_2 l0_2.length c0_2, .slice A0_3 l0_3.length c0_3, .int .i64 a0_4, .slice A0_5 l0_5.length c0_5] 51 (0, 0)) Z4_2 hb); have n1_ := Aside0.mk (below_step Z4_5 hb); have n2_ := Aside0.mk (hbox); have n3_ := Aside0.mk ((Z4_32 : w.heap.size ≤ gb136)); have n4_ := Aside0.mk ((Z4_32 : w.heap.size ≤ gb136)); have n5_ := Aside0.mk ((Z4_7 : gb135 ≠ gb136)); have n6_ := Aside0.mk ((Z4_8 : gb136 ≠ gb135)); clear BK135; clear HB; have BK135 := n0_; have HB := n1_; have BK136 := n2_; have GW136 := n3_; have GE136 := n4_; have NB135_136 := n5_; have NB136_135 := n6_; clear n0_ n1_ n2_ n3_ n4_ n5_ n6_; clear hb hbox hg; have hnb75 := NB135_136.out; have hnc75 := NB136_135.out; have hcz76_0 : w74.cell? ⟨gb135, 0, none⟩ = some (.int .i64 a0_0) := (blk_cell BK135.out 0).trans rfl; have hcz76_1 : w74.cell? ⟨gb135, 1, none⟩ = some (.int .i64 a0_1) := (blk_cell BK135.out 1).trans rfl; have hcz76_2 : w74.cell? ⟨gb135, 2, none⟩ = some (.slice A0_2 l0_2.length c0_2) := (blk_cell BK135.out 2).trans rfl; have hcz76_3 : w74.cell? ⟨gb135, 3, none⟩ = some (.slice A0_3 l0_3.length c0_3) := (blk_cell BK135.out 3).trans rfl; have hcz76_4 : w74.cell? ⟨gb135, 4, none⟩ = some (.int .i64 a0_4) := (blk_cell BK135.out 4).trans rfl; have hcz76_5 : w74.cell? ⟨gb135, 5, none⟩ = some (.slice A0_5 l0_5.length c0_5) := (blk_cell BK135.out 5).trans rfl; have hfz76_0 := blk_frozen BK135.out 0; have hfz76_1 := blk_frozen BK135.out 1; have hfz76_2 := blk_frozen BK135.out 2; have hfz76_3 := blk_frozen BK135.out 3; have hfz76_4 := blk_frozen BK135.out 4; have hfz76_5 := blk_frozen BK135.out 5) | ((with_reducible refine gate_dst (N := 4) rfl ?_); refine box_event ?hg (N := 4) ?hd (cs := #[.int .i64 0, .slice none 0 0]) (t := 29) ?hr ?_; (case hd => rfl); (case hg => rfl); (case hr => exact Z4_17); intro gb137 hg w77 hbox hb; have n0_ := Aside0.mk (blk_below (g := gb135) (o := .cells #[.int .i64 a0_0, .int .i64 a0_1, .slice A0_2 l0_2.length c0_2, .slice A0_3 l0_3.length c0_3, .int .i64 a0_4, .slice A0_5 l0_5.length c0_5] 51 (0, 0)) Z4_2 hb); have n1_ := Aside0.mk (blk_below (g := gb136) (o := .cells #[.int .i64 0, .slice none 0 0] 29 (0, 0)) Z4_3 hb); have n2_ := Aside0.mk (below_step Z4_4 hb); have n3_ := Aside0.mk (hbox); have n4_ := Aside0.mk ((Z4_33 : w.heap.size ≤ gb137)); have n5_ := Aside0.mk ((Z4_33 : w.heap.size ≤ gb137)); have n6_ := Aside0.mk ((Z4_7 : gb135 ≠ gb137)); have n7_ := Aside0.mk ((Z4_8 : gb137 ≠ gb135)); have n8_ := Aside0.mk ((Z4_20 : gb136 ≠ gb137)); have n9_ := Aside0.mk ((Z4_21 : gb137 ≠ gb136)); clear BK135; clear BK136; clear HB; have BK135 := n0_; have BK136 := n1_; have HB := n2_; have BK137 := n3_; have GW137 := n4_; have GE137 := n5_; have NB135_137 := n6_; have NB137_135 := n7_; have NB136_137 := n8_; have NB137_136 := n9_; clear n0_ n1_ n2_ n3_ n4_ n5_ n6_ n7_ n8_ n9_; clear hb hbox hg; have hnb78 := NB137_135.out; have hnc78 := NB135_137.out; have hnb79 := NB137_136.out; have hnc79 := NB136_137.out; have hcz80_0 : w77.cell? ⟨gb137, 0, none⟩ = some (.int .i64 0) := (blk_cell BK137.out 0).trans rfl; have hcz80_1 : w77.cell? ⟨gb137, 1, none⟩ = some (.slice none 0 0) := (blk_cell BK137.out 1).trans rfl; have hfz80_0 := blk_frozen BK137.out 0; have hfz80_1 := blk_frozen BK137.out 1))
      have n0_ : Aside0 (((w77.setCell ⟨gb137, 0, none⟩ (.int .i64 a0_4)).setCell ⟨gb137, 1, none⟩ (.slice none 0 0)).heap[gb135]? = some (.cells #[.int .i64 a0_0, .int .i64 a0_1, .slice A0_2 l0_2.length c0_2, .slice A0_3 l0_3.length c0_3, .int .i64 a0_4, .slice A0_5 l0_5.length c0_5] 51 (0, 0))) := ⟨Z4_11⟩
      have n1_ : Aside0 (((w77.setCell ⟨gb137, 0, none⟩ (.int .i64 a0_4)).setCell ⟨gb137, 1, none⟩ (.slice none 0 0)).heap[gb136]? = some (.cells #[.int .i64 0, .slice none 0 0] 29 (0, 0))) := ⟨Z4_12⟩
      have n2_ : Aside0 (((w77.setCell ⟨gb137, 0, none⟩ (.int .i64 a0_4)).setCell ⟨gb137, 1, none⟩ (.slice none 0 0)).heap[gb137]? = some (.cells #[.int .i64 a0_4, .slice none 0 0] 29 (0, 0))) := ⟨Z4_10⟩
      have n3_ : Aside0 (Below w.heap.size w ((w77.setCell ⟨gb137, 0, none⟩ (.int .i64 a0_4)).setCell ⟨gb137, 1, none⟩ (.slice none 0 0))) := ⟨Z4_1⟩
      (try clear BK135)
      (try clear BK136)
      (try clear BK137)
      (try clear HB)
      generalize ((w77.setCell ⟨gb137, 0, none⟩ (.int .i64 a0_4)).setCell ⟨gb137, 1, none⟩ (.slice none 0 0)) = w81 at n0_ n1_ n2_ n3_ ⊢
      have BK135 := n0_
      have BK136 := n1_
      have BK137 := n2_
      have HB := n3_
      clear n0_ n1_ n2_ n3_
      have n0_ := Aside0.mk (blk_drew BK135.out)
      have n1_ := Aside0.mk (blk_drew BK136.out)
      have n2_ := Aside0.mk (blk_drew BK137.out)
      have n3_ := Aside0.mk (below_drew1 HB.out)
      clear BK135
      clear BK136
      clear BK137
      clear HB
      have BK135 := n0_
      have BK136 := n1_
      have BK137 := n2_
      have HB := n3_
      clear n0_ n1_ n2_ n3_
      refine start_ (n := 14) (S := fun w' => w'.cell? ⟨gb137, 0, none⟩ = some (.int .i64 a0_4) ∧ w'.cell? ⟨gb137, 1, none⟩ = some (.slice none 0 0) ∧ w'.cell? ⟨gb135, 0, none⟩ = some (.int .i64 a0_0) ∧ w'.cell? ⟨gb135, 1, none⟩ = some (.int .i64 a0_1) ∧ w'.cell? ⟨gb135, 2, none⟩ = some (.slice A0_2 l0_2.length c0_2) ∧ w'.cell? ⟨gb135, 3, none⟩ = some (.slice A0_3 l0_3.length c0_3) ∧ w'.cell? ⟨gb135, 4, none⟩ = some (.int .i64 a0_4) ∧ w'.cell? ⟨gb135, 5, none⟩ = some (.slice A0_5 l0_5.length c0_5)) (ds := [13]) #[false, false, false, false, false, false, false, false, false, false, false, false, false, false] Z4_15 rfl rfl ⟨(blk_cell BK137.out 0).trans rfl, (blk_cell BK137.out 1).trans rfl, (blk_cell BK135.out 0).trans rfl, (blk_cell BK135.out 1).trans rfl, (blk_cell BK135.out 2).trans rfl, (blk_cell BK135.out 3).trans rfl, (blk_cell BK135.out 4).trans rfl, (blk_cell BK135.out 5).trans rfl⟩ (fun hHeld => ?_); refine with_tabW spec_Link.tab2 spec_Link.bits2 (fun HT_ HW_ => ?_)
      generalize w81.drew = w82 at BK135 BK136 BK137 HB hHeld ⊢
      refine pure_ (i := 0) (N := some 8) (v := ?_) (a' := ?_) #[true, false, false, false, false, false, false, false, false, false, false, false, false, false] rfl rfl (any_of HT_.out Z4_15) (fun _ _ _ h => h) (Or.inl ⟨Z4_40, ?_⟩) ?_ ?_
      rotate_left
      ·intro w'
       go_simp
       with_reducible rfl
      rotate_left
      ·simp only [Act.put, List.setIfInBounds_toArray, List.set_cons_zero, List.set_cons_succ, i64_w, i32_w]
       rfl
      refine pure_ (i := 2) (N := some 10) (v := ?_) (a' := ?_) #[true, false, true, false, false, false, false, false, false, false, false, false, false, false] rfl rfl (any_of HT_.out Z4_15) (fun _ _ _ h => h) (Or.inl ⟨Z4_40, ?_⟩) ?_ ?_
      rotate_left
      ·intro w'
       go_simp
       with_reducible rfl
      rotate_left
      ·simp only [Act.put, List.setIfInBounds_toArray, List.set_cons_zero, List.set_cons_succ, i64_w, i32_w]
       rfl
      refine pure_ (i := 6) (N := some 14) (v := ?_) (a' := ?_) #[true, false, true, false, false, false, true, false, false, false, false, false, false, false] rfl rfl (any_of HT_.out Z4_15) (fun _ _ _ h => h) (Or.inl ⟨Z4_40, ?_⟩) ?_ ?_
      rotate_left
      ·intro w'
       go_simp
       with_reducible rfl
      rotate_left
      ·simp only [Act.put, List.setIfInBounds_toArray, List.set_cons_zero, List.set_cons_succ, i64_w, i32_w]
       rfl
      refine take_ (i := 1) (N := some 9) (v := ?_) (a' := ?_) #[true, true, true, false, false, false, true, false, false, false, false, false, false, false] rfl rfl (take_ofW HT_.out HW_.out Z4_15) (fun _ _ _ h => h) (Or.inl ⟨Z4_40, ?_⟩) hHeld ?_ ?_
      rotate_left
      ·rintro w' ⟨s0, s1, s2, s3, s4, s5, s6, s7⟩
       go_simp
       with_reducible rfl
      rotate_left
      ·simp only [Act.put, List.setIfInBounds_toArray, List.set_cons_zero, List.set_cons_succ, i64_w, i32_w]
       rfl
      refine take_ (i := 3) (N := some 11) (v := ?_) (a' := ?_) #[true, true, true, true, false, false, true, false, false, false, false, false, false, false] rfl rfl (take_ofW HT_.out HW_.out Z4_15) (fun _ _ _ h => h) (Or.inl ⟨Z4_40, ?_⟩) hHeld ?_ ?_
      rotate_left
      ·rintro w' ⟨s0, s1, s2, s3, s4, s5, s6, s7⟩
       go_simp
       with_reducible rfl
      rotate_left
      ·simp only [Act.put, List.setIfInBounds_toArray, List.set_cons_zero, List.set_cons_succ, i64_w, i32_w]
       rfl
      refine pure_ (i := 4) (N := some 12) (v := ?_) (a' := ?_) #[true, true, true, true, true, false, true, false, false, false, false, false, false, false] rfl rfl (any_of HT_.out Z4_15) (fun _ _ _ h => h) (Or.inl ⟨Z4_40, ?_⟩) ?_ ?_
      rotate_left
      ·intro w'
       go_simp
       with_reducible rfl
      rotate_left
      ·simp only [Act.put, List.setIfInBounds_toArray, List.set_cons_zero, List.set_cons_succ, i64_w, i32_w]
       rfl
      refine take_ (i := 7) (N := some 15) (v := ?_) (a' := ?_) #[true, true, true, true, true, false, true, true, false, false, false, false, false, false] rfl rfl (take_ofW HT_.out HW_.out Z4_15) (fun _ _ _ h => h) (Or.inl ⟨Z4_40, ?_⟩) hHeld ?_ ?_
      rotate_left
      ·rintro w' ⟨s0, s1, s2, s3, s4, s5, s6, s7⟩
       go_simp
       with_reducible rfl
      rotate_left
      ·simp only [Act.put, List.setIfInBounds_toArray, List.set_cons_zero, List.set_cons_succ, i64_w, i32_w]
       rfl
      refine one_ (i := 5) (N := some 13) #[true, true, true, true, true, true, true, true, false, false, false, false, false, false] rfl rfl (one_of HT_.out Z4_15) Z4_25 (fun K hK => ?_)
      refine Kd.R_lit_step (Kd.int .u8) _ 5 ?hg (N := 13) ?hd (xs := ([] : List Int)) (inner := []) (ok := fun _ => True) (okp := fun _ => True) ?hr ?hp (fun _ hk => hk) trivial (Below.refl _ _) (Nat.le_refl _) (by simp) ?_; (case hd => rfl); (case hg => rfl); (case hr => exact Z4_17); (case hp => exact (Reps.none _ _))
      intro v139 w83 ho84 hb hg_ hnew_
      clear hg_ hnew_
      (first | rw [← Ny138.out] at ho84 | (simp only [Int.reduceToNat] at ho84; rw [← Ny138.out] at ho84))
      have n0_ := Aside0.mk (Kd.R_lower ho84 (below_size Z4_1))
      have n1_ := Aside0.mk (blk_below (g := gb135) (o := .cells #[.int .i64 a0_0, .int .i64 a0_1, .slice A0_2 l0_2.length c0_2, .slice A0_3 l0_3.length c0_3, .int .i64 a0_4, .slice A0_5 l0_5.length c0_5] 51 (0, 0)) Z4_2 hb)
      have n2_ := Aside0.mk (blk_below (g := gb136) (o := .cells #[.int .i64 0, .slice none 0 0] 29 (0, 0)) Z4_3 hb)
      have n3_ := Aside0.mk (blk_below (g := gb137) (o := .cells #[.int .i64 a0_4, .slice none 0 0] 29 (0, 0)) Z4_6 hb)
      have n4_ := Aside0.mk (below_step Z4_1 hb)
      clear BK135
      clear BK136
      clear BK137
      clear HB
      have HO140 := n0_
      have BK135 := n1_
      have BK136 := n2_
      have BK137 := n3_
      have HB := n4_
      clear n0_ n1_ n2_ n3_ n4_
      clear hb ho84
      refine hK.out _ _ ⟨(blk_cell BK137.out 0).trans rfl, (blk_cell BK137.out 1).trans rfl, (blk_cell BK135.out 0).trans rfl, (blk_cell BK135.out 1).trans rfl, (blk_cell BK135.out 2).trans rfl, (blk_cell BK135.out 3).trans rfl, (blk_cell BK135.out 4).trans rfl, (blk_cell BK135.out 5).trans rfl⟩ (fun hHeld => ?_)
      clear hK K
      refine norm_ (a' := ?_) ?_ ?_
      rotate_left
      ·show Act.put _ (some 13) _ = _
       simp only [Act.put, List.setIfInBounds_toArray, List.set_cons_zero, List.set_cons_succ, i64_w, i32_w]
       rfl
      refine one_ (i := 8) (N := some 16) #[true, true, true, true, true, true, true, true, true, false, false, false, false, false] rfl rfl (one_of HT_.out Z4_15) Z4_25 (fun K hK => ?_)
      refine Kd.R_append_rows_step (Kd.int .u8) (w0 := w) w.heap.size Z4_40 (.tmp 13) (.tmp 15) 33 5 (.int .u8 0) 1 rfl Try.underlying33 info5 rfl Z4_25 (by omega) v139 y138 l0_2 _ _ _ (fun _ => True) (fun _ => False) rfl rfl ?aO ?aR (fun _ _ h => h) (fun _ h => h.elim) ?aF ?aB ?aS ?aL ?_
      (case aR => exact Z4_18)
      (case aB => exact Z4_1)
      (case aF => exact (fun _ _ => trivial))
      (case aO => exact Z4_23)
      (case aS => exact (below_size Z4_1))
      (case aL => have := LMc2.out; omega)
      intro v142 w85 ho hb hg hat
      rw [← Ny141.out] at ho
      have n0_ := Aside0.mk (blk_grown (g := gb135) (o := .cells #[.int .i64 a0_0, .int .i64 a0_1, .slice A0_2 l0_2.length c0_2, .slice A0_3 l0_3.length c0_3, .int .i64 a0_4, .slice A0_5 l0_5.length c0_5] 51 (0, 0)) Z4_2 hg (Kd.R_ne HO140.out BK135.out Z4_25))
      have n1_ := Aside0.mk (blk_grown (g := gb136) (o := .cells #[.int .i64 0, .slice none 0 0] 29 (0, 0)) Z4_3 hg (Kd.R_ne HO140.out BK136.out Z4_25))
      have n2_ := Aside0.mk (blk_grown (g := gb137) (o := .cells #[.int .i64 a0_4, .slice none 0 0] 29 (0, 0)) Z4_6 hg (Kd.R_ne HO140.out BK137.out Z4_25))
      have n3_ := Aside0.mk (hb)
      have n4_ := Aside0.mk (ho)
      clear BK135
      clear BK136
      clear BK137
      clear HB
      clear HO140
      have BK135 := n0_
      have BK136 := n1_
      have BK137 := n2_
      have HB := n3_
      have HO143 := n4_
      clear n0_ n1_ n2_ n3_ n4_
      clear ho hb hg hat
      obtain ⟨Ao86, co86, eo86⟩ := Kd.R_slice HO143.out
      (first | subst eo86 | (injection eo86 with f1_ f2_ f3_; have f4_ := f1_.symm; have f5_ := f3_.symm; clear f1_ f2_ f3_; subst f4_; subst f5_))
      refine hK.out _ _ ⟨(blk_cell BK137.out 0).trans rfl, (blk_cell BK137.out 1).trans rfl, (blk_cell BK135.out 0).trans rfl, (blk_cell BK135.out 1).trans rfl, (blk_cell BK135.out 2).trans rfl, (blk_cell BK135.out 3).trans rfl, (blk_cell BK135.out 4).trans rfl, (blk_cell BK135.out 5).trans rfl⟩ (fun hHeld => ?_)
      clear hK K
      refine norm_ (a' := ?_) ?_ ?_
      rotate_left
      ·show Act.put _ (some 16) _ = _
       simp only [Act.put, List.setIfInBounds_toArray, List.set_cons_zero, List.set_cons_succ, i64_w, i32_w]
       rfl
      refine pure_ (i := 9) (N := some 17) (v := ?_) (a' := ?_) #[true, true, true, true, true, true, true, true, true, true, false, false, false, false] rfl rfl (any_of HT_.out Z4_15) (fun _ _ _ h => h) (Or.inl ⟨Z4_40, ?_⟩) ?_ ?_
      rotate_left
      ·intro w'
       go_simp
       with_reducible rfl
      rotate_left
      ·simp only [Act.put, List.setIfInBounds_toArray, List.set_cons_zero, List.set_cons_succ, i64_w, i32_w]
       rfl
      refine one_ (i := 10) (N := some 18) #[true, true, true, true, true, true, true, true, true, true, true, false, false, false] rfl rfl (one_of HT_.out Z4_15) Z4_25 (fun K hK => ?_)
      refine value_ (w1 := ?_) (v := ?_) Z4_40 rfl ?_ ?_
      rotate_left 2
      ·go_simp
       constructor
       ·rfl
       rfl
      refine hK.out _ _ ⟨(blk_cell (blk_alloc BK137.out _) 0).trans rfl, (blk_cell (blk_alloc BK137.out _) 1).trans rfl, (blk_cell (blk_alloc BK135.out _) 0).trans rfl, (blk_cell (blk_alloc BK135.out _) 1).trans rfl, (blk_cell (blk_alloc BK135.out _) 2).trans rfl, (blk_cell (blk_alloc BK135.out _) 3).trans rfl, (blk_cell (blk_alloc BK135.out _) 4).trans rfl, (blk_cell (blk_alloc BK135.out _) 5).trans rfl⟩ (fun hHeld => ?_)
      clear hK K
      refine norm_ (a' := ?_) ?_ ?_
      rotate_left
      ·show Act.put _ (some 18) _ = _
       simp only [Act.put, List.setIfInBounds_toArray, List.set_cons_zero, List.set_cons_succ, i64_w, i32_w]
       rfl
      refine one_ (i := 11) (N := some 19) #[true, true, true, true, true, true, true, true, true, true, true, true, false, false] rfl rfl (one_of HT_.out Z4_15) Z4_25 (fun K hK => ?_)
      refine Kd.S_append_step k58 (w0 := w) w.heap.size Z4_40 (.tmp 9) (.tmp 18) 27 58 (.agg #[(.int .i64 0), (.int .i64 0), (.int .i64 0), (.slice none 0 0)]) 48 rfl Try.underlying27 info58 rfl Z4_25 (by omega) (.slice none 0 0) ([] : List (S58)) (⟨4096, 5, (l0_2.length : Int), y141⟩ : S58) [.int .i64 4096, .int .i64 5, .int .i64 (l0_2.length : Int), .slice Ao86 y141.length co86] (fun _ => True) (fun k_ => some k_ = (.slice Ao86 y141.length co86 : Value).ownBlock) rfl rfl ?aP (fun k_ hk_ => ((Kd.R_mono (ok' := fun k_ => ((fun _ => True)) k_ ∧ some k_ ≠ (.slice none 0 0 : Value).ownBlock) (HO143.out) (fun k_ hk => ⟨trivial, Z4_19⟩))).1 k_ hk_.symm) ?aF ?aO ?aB ?aS ?aL ?_
      (case aP => exact k58_mkM _ _ _ (⟨4096, 5, (l0_2.length : Int), y141⟩ : S58) (Kd.R_mono (Kd.R_tight rfl (Kd.R_mono (ok' := fun k_ => ((fun _ => True)) k_ ∧ some k_ ≠ (.slice none 0 0 : Value).ownBlock) (HO143.out) (fun k_ hk => ⟨trivial, Z4_19⟩))) (fun _ h_ => h_)))
      (case aB => exact Z4_1)
      (case aF => exact (fun _ _ => trivial))
      (case aO => exact ((Kd.S_nil _ _ _ _ _)))
      (case aS => exact (below_size Z4_1))
      (case aL => have := LMc3.out; omega)
      intro v145 w87 ho hb hg hat
      rw [← Ny144.out] at ho
      have n0_ := Aside0.mk (blk_grown (g := gb135) (o := .cells #[.int .i64 a0_0, .int .i64 a0_1, .slice A0_2 l0_2.length c0_2, .slice A0_3 l0_3.length c0_3, .int .i64 a0_4, .slice A0_5 l0_5.length c0_5] 51 (0, 0)) Z4_2 hg Z4_19)
      have n1_ := Aside0.mk (blk_grown (g := gb136) (o := .cells #[.int .i64 0, .slice none 0 0] 29 (0, 0)) Z4_3 hg Z4_19)
      have n2_ := Aside0.mk (blk_grown (g := gb137) (o := .cells #[.int .i64 a0_4, .slice none 0 0] 29 (0, 0)) Z4_6 hg Z4_19)
      have n3_ := Aside0.mk (hb)
      have n4_ := Aside0.mk (ho)
      clear BK135
      clear BK136
      clear BK137
      clear HB
      clear HO143
      have BK135 := n0_
      have BK136 := n1_
      have BK137 := n2_
      have HB := n3_
      have HO146 := n4_
      clear n0_ n1_ n2_ n3_ n4_
      clear ho hb hg hat
      obtain ⟨Ao88, co88, eo88⟩ := Kd.S_slice HO146.out
      (first | subst eo88 | (injection eo88 with f1_ f2_ f3_; have f4_ := f1_.symm; have f5_ := f3_.symm; clear f1_ f2_ f3_; subst f4_; subst f5_))
      refine hK.out _ _ ⟨(blk_cell BK137.out 0).trans rfl, (blk_cell BK137.out 1).trans rfl, (blk_cell BK135.out 0).trans rfl, (blk_cell BK135.out 1).trans rfl, (blk_cell BK135.out 2).trans rfl, (blk_cell BK135.out 3).trans rfl, (blk_cell BK135.out 4).trans rfl, (blk_cell BK135.out 5).trans rfl⟩ (fun hHeld => ?_)
      clear hK K
      refine norm_ (a' := ?_) ?_ ?_
      rotate_left
      ·show Act.put _ (some 19) _ = _
       simp only [Act.put, List.setIfInBounds_toArray, List.set_cons_zero, List.set_cons_succ, i64_w, i32_w]
       rfl
      refine pure_ (i := 12) (N := some 20) (v := ?_) (a' := ?_) #[true, true, true, true, true, true, true, true, true, true, true, true, true, false] rfl rfl (any_of HT_.out Z4_15) (fun _ _ _ h => h) (Or.inl ⟨Z4_40, ?_⟩) ?_ ?_
      rotate_left
      ·intro w'
       go_simp
       with_reducible rfl
      rotate_left
      ·simp only [Act.put, List.setIfInBounds_toArray, List.set_cons_zero, List.set_cons_succ, i64_w, i32_w]
       rfl
      refine last_ (i := 13) (N := none) #[true, true, true, true, true, true, true, true, true, true, true, true, true, true] rfl rfl (one_of HT_.out Z4_15) Z4_25 (fun K hK => ?_)
      have hs89 : w87.cell? ⟨gb137, 1, none⟩ = some (.slice none 0 0) := (blk_cell BK137.out 1).trans rfl
      have hfs89 := blk_frozen BK137.out 1
      have hns89_0 := NB135_137.out
      have hns89_1 := NB136_137.out
      have hms89_0 := NB137_135.out
      have hms89_1 := NB137_136.out
      refine skip_ (w1 := ?_) Z4_40 rfl ?_ ?_
      rotate_left
      ·go_simp
       rfl
      refine hK.out _ _ ?_
      clear hK K
      refine done_ (done_of HT_.out Z4_15) ?_
      have hcz90_0 : w87.cell? ⟨gb135, 0, none⟩ = some (.int .i64 a0_0) := (blk_cell BK135.out 0).trans rfl
      have hcz90_1 : w87.cell? ⟨gb135, 1, none⟩ = some (.int .i64 a0_1) := (blk_cell BK135.out 1).trans rfl
      have hcz90_2 : w87.cell? ⟨gb135, 2, none⟩ = some (.slice A0_2 l0_2.length c0_2) := (blk_cell BK135.out 2).trans rfl
      have hcz90_3 : w87.cell? ⟨gb135, 3, none⟩ = some (.slice A0_3 l0_3.length c0_3) := (blk_cell BK135.out 3).trans rfl
      have hcz90_4 : w87.cell? ⟨gb135, 4, none⟩ = some (.int .i64 a0_4) := (blk_cell BK135.out 4).trans rfl
      have hcz90_5 : w87.cell? ⟨gb135, 5, none⟩ = some (.slice A0_5 l0_5.length c0_5) := (blk_cell BK135.out 5).trans rfl
      have hfz90_0 := blk_frozen BK135.out 0
      have hfz90_1 := blk_frozen BK135.out 1
      have hfz90_2 := blk_frozen BK135.out 2
      have hfz90_3 := blk_frozen BK135.out 3
      have hfz90_4 := blk_frozen BK135.out 4
      have hfz90_5 := blk_frozen BK135.out 5
      try go_wp2
      have n0_ : Aside0 (Kd.S k58 58 (w87.setCell ⟨gb137, 1, none⟩ (.slice Ao88 y144.length co88)) w.heap.size (fun _ => True) (.slice Ao88 y144.length co88) y144) := ⟨by (with_reducible repeat (first | apply Kd.S_alloc | apply Kd.S_drewN | apply Kd.S_drew)); exact Kd.S_mono (Kd.S_far (p := ⟨gb137, 1, none⟩) (Kd.S_types HO146.out BK137.out Z4_25) (fun _ hk => hk.2) (.slice Ao88 y144.length co88)) (fun _ hk => trivial)⟩
      have n1_ : Aside0 ((w87.setCell ⟨gb137, 1, none⟩ (.slice Ao88 y144.length co88)).heap[gb135]? = some (.cells #[.int .i64 a0_0, .int .i64 a0_1, .slice A0_2 l0_2.length c0_2, .slice A0_3 l0_3.length c0_3, .int .i64 a0_4, .slice A0_5 l0_5.length c0_5] 51 (0, 0))) := ⟨Z4_13⟩
      have n2_ : Aside0 ((w87.setCell ⟨gb137, 1, none⟩ (.slice Ao88 y144.length co88)).heap[gb136]? = some (.cells #[.int .i64 0, .slice none 0 0] 29 (0, 0))) := ⟨Z4_14⟩
      have n3_ : Aside0 ((w87.setCell ⟨gb137, 1, none⟩ (.slice Ao88 y144.length co88)).heap[gb137]? = some (.cells #[.int .i64 a0_4, .slice Ao88 y144.length co88] 29 (0, 0))) := ⟨Z4_16⟩
      have n4_ : Aside0 (Below w.heap.size w (w87.setCell ⟨gb137, 1, none⟩ (.slice Ao88 y144.length co88))) := ⟨Z4_1⟩
      (try clear HO146)
      (try clear BK135)
      (try clear BK136)
      (try clear BK137)
      (try clear HB)
      generalize (w87.setCell ⟨gb137, 1, none⟩ (.slice Ao88 y144.length co88)) = w91 at n0_ n1_ n2_ n3_ n4_ ⊢
      have HO146 := n0_
      have BK135 := n1_
      have BK136 := n2_
      have BK137 := n3_
      have HB := n4_
      clear n0_ n1_ n2_ n3_ n4_
      have n0_ := Aside0.mk (Kd.S_drew HO146.out)
      have n1_ := Aside0.mk (blk_drew BK135.out)
      have n2_ := Aside0.mk (blk_drew BK136.out)
      have n3_ := Aside0.mk (blk_drew BK137.out)
      have n4_ := Aside0.mk (below_drew1 HB.out)
      clear HO146
      clear BK135
      clear BK136
      clear BK137
      clear HB
      have HO146 := n0_
      have BK135 := n1_
      have BK136 := n2_
      have BK137 := n3_
      have HB := n4_
      clear n0_ n1_ n2_ n3_ n4_
      refine start_ (n := 14) (S := fun w' => w'.cell? ⟨gb137, 0, none⟩ = some (.int .i64 a0_4) ∧ w'.cell? ⟨gb137, 1, none⟩ = some (.slice Ao88 y144.length co88) ∧ w'.cell? ⟨gb135, 0, none⟩ = some (.int .i64 a0_0) ∧ w'.cell? ⟨gb135, 1, none⟩ = some (.int .i64 a0_1) ∧ w'.cell? ⟨gb135, 2, none⟩ = some (.slice A0_2 l0_2.length c0_2) ∧ w'.cell? ⟨gb135, 3, none⟩ = some (.slice A0_3 l0_3.length c0_3) ∧ w'.cell? ⟨gb135, 4, none⟩ = some (.int .i64 a0_4) ∧ w'.cell? ⟨gb135, 5, none⟩ = some (.slice A0_5 l0_5.length c0_5)) (ds := [13]) #[false, false, false, false, false, false, false, false, false, false, false, false, false, false] Z4_15 rfl rfl ⟨(blk_cell BK137.out 0).trans rfl, (blk_cell BK137.out 1).trans rfl, (blk_cell BK135.out 0).trans rfl, (blk_cell BK135.out 1).trans rfl, (blk_cell BK135.out 2).trans rfl, (blk_cell BK135.out 3).trans rfl, (blk_cell BK135.out 4).trans rfl, (blk_cell BK135.out 5).trans rfl⟩ (fun hHeld => ?_); refine with_tabW spec_Link.tab4 spec_Link.bits4 (fun HT_ HW_ => ?_)
      generalize w91.drew = w92 at HO146 BK135 BK136 BK137 HB hHeld ⊢
      refine pure_ (i := 0) (N := some 25) (v := ?_) (a' := ?_) #[true, false, false, false, false, false, false, false, false, false, false, false, false, false] rfl rfl (any_of HT_.out Z4_15) (fun _ _ _ h => h) (Or.inl ⟨Z4_40, ?_⟩) ?_ ?_
      rotate_left
      ·intro w'
       go_simp
       with_reducible rfl
      rotate_left
      ·simp only [Act.put, List.setIfInBounds_toArray, List.set_cons_zero, List.set_cons_succ, i64_w, i32_w]
       rfl
      refine pure_ (i := 2) (N := some 27) (v := ?_) (a' := ?_) #[true, false, true, false, false, false, false, false, false, false, false, false, false, false] rfl rfl (any_of HT_.out Z4_15) (fun _ _ _ h => h) (Or.inl ⟨Z4_40, ?_⟩) ?_ ?_
      rotate_left
      ·intro w'
       go_simp
       with_reducible rfl
      rotate_left
      ·simp only [Act.put, List.setIfInBounds_toArray, List.set_cons_zero, List.set_cons_succ, i64_w, i32_w]
       rfl
      refine pure_ (i := 6) (N := some 31) (v := ?_) (a' := ?_) #[true, false, true, false, false, false, true, false, false, false, false, false, false, false] rfl rfl (any_of HT_.out Z4_15) (fun _ _ _ h => h) (Or.inl ⟨Z4_40, ?_⟩) ?_ ?_
      rotate_left
      ·intro w'
       go_simp
       with_reducible rfl
      rotate_left
      ·simp only [Act.put, List.setIfInBounds_toArray, List.set_cons_zero, List.set_cons_succ, i64_w, i32_w]
       rfl
      refine take_ (i := 1) (N := some 26) (v := ?_) (a' := ?_) #[true, true, true, false, false, false, true, false, false, false, false, false, false, false] rfl rfl (take_ofW HT_.out HW_.out Z4_15) (fun _ _ _ h => h) (Or.inl ⟨Z4_40, ?_⟩) hHeld ?_ ?_
      rotate_left
      ·rintro w' ⟨s0, s1, s2, s3, s4, s5, s6, s7⟩
       go_simp
       with_reducible rfl
      rotate_left
      ·simp only [Act.put, List.setIfInBounds_toArray, List.set_cons_zero, List.set_cons_succ, i64_w, i32_w]
       rfl
      refine take_ (i := 3) (N := some 28) (v := ?_) (a' := ?_) #[true, true, true, true, false, false, true, false, false, false, false, false, false, false] rfl rfl (take_ofW HT_.out HW_.out Z4_15) (fun _ _ _ h => h) (Or.inl ⟨Z4_40, ?_⟩) hHeld ?_ ?_
      rotate_left
      ·rintro w' ⟨s0, s1, s2, s3, s4, s5, s6, s7⟩
       go_simp
       with_reducible rfl
      rotate_left
      ·simp only [Act.put, List.setIfInBounds_toArray, List.set_cons_zero, List.set_cons_succ, i64_w, i32_w]
       rfl
      refine pure_ (i := 4) (N := some 29) (v := ?_) (a' := ?_) #[true, true, true, true, true, false, true, false, false, false, false, false, false, false] rfl rfl (any_of HT_.out Z4_15) (fun _ _ _ h => h) (Or.inl ⟨Z4_40, ?_⟩) ?_ ?_
      rotate_left
      ·intro w'
       go_simp
       with_reducible rfl
      rotate_left
      ·simp only [Act.put, List.setIfInBounds_toArray, List.set_cons_zero, List.set_cons_succ, i64_w, i32_w]
       rfl
      refine take_ (i := 7) (N := some 32) (v := ?_) (a' := ?_) #[true, true, true, true, true, false, true, true, false, false, false, false, false, false] rfl rfl (take_ofW HT_.out HW_.out Z4_15) (fun _ _ _ h => h) (Or.inl ⟨Z4_40, ?_⟩) hHeld ?_ ?_
      rotate_left
      ·rintro w' ⟨s0, s1, s2, s3, s4, s5, s6, s7⟩
       go_simp
       with_reducible rfl
      rotate_left
      ·simp only [Act.put, List.setIfInBounds_toArray, List.set_cons_zero, List.set_cons_succ, i64_w, i32_w]
       rfl
      refine one_ (i := 5) (N := some 30) #[true, true, true, true, true, true, true, true, false, false, false, false, false, false] rfl rfl (one_of HT_.out Z4_15) Z4_25 (fun K hK => ?_)
      refine Kd.R_lit_step (Kd.int .u8) _ 5 ?hg (N := 30) ?hd (xs := ([] : List Int)) (inner := []) (ok := fun _ => True) (okp := fun _ => True) ?hr ?hp (fun _ hk => hk) trivial (Below.refl _ _) (Nat.le_refl _) (by simp) ?_; (case hd => rfl); (case hg => rfl); (case hr => exact Z4_17); (case hp => exact (Reps.none _ _))
      intro v148 w93 ho94 hb hg_ hnew_
      clear hg_ hnew_
      (first | rw [← Ny147.out] at ho94 | (simp only [Int.reduceToNat] at ho94; rw [← Ny147.out] at ho94))
      have n0_ := Aside0.mk (Kd.S_elder' Z4_24 (Kd.R_base ho94) hb)
      have n1_ := Aside0.mk (Kd.R_lower ho94 (below_size Z4_1))
      have n2_ := Aside0.mk (blk_below (g := gb135) (o := .cells #[.int .i64 a0_0, .int .i64 a0_1, .slice A0_2 l0_2.length c0_2, .slice A0_3 l0_3.length c0_3, .int .i64 a0_4, .slice A0_5 l0_5.length c0_5] 51 (0, 0)) Z4_2 hb)
      have n3_ := Aside0.mk (blk_below (g := gb136) (o := .cells #[.int .i64 0, .slice none 0 0] 29 (0, 0)) Z4_3 hb)
      have n4_ := Aside0.mk (blk_below (g := gb137) (o := .cells #[.int .i64 a0_4, .slice Ao88 y144.length co88] 29 (0, 0)) Z4_6 hb)
      have n5_ := Aside0.mk (below_step Z4_1 hb)
      clear HO146
      clear BK135
      clear BK136
      clear BK137
      clear HB
      have HO146 := n0_
      have HO149 := n1_
      have BK135 := n2_
      have BK136 := n3_
      have BK137 := n4_
      have HB := n5_
      clear n0_ n1_ n2_ n3_ n4_ n5_
      clear hb ho94
      refine hK.out _ _ ⟨(blk_cell BK137.out 0).trans rfl, (blk_cell BK137.out 1).trans rfl, (blk_cell BK135.out 0).trans rfl, (blk_cell BK135.out 1).trans rfl, (blk_cell BK135.out 2).trans rfl, (blk_cell BK135.out 3).trans rfl, (blk_cell BK135.out 4).trans rfl, (blk_cell BK135.out 5).trans rfl⟩ (fun hHeld => ?_)
      clear hK K
      refine norm_ (a' := ?_) ?_ ?_
      rotate_left
      ·show Act.put _ (some 30) _ = _
       simp only [Act.put, List.setIfInBounds_toArray, List.set_cons_zero, List.set_cons_succ, i64_w, i32_w]
       rfl
      refine one_ (i := 8) (N := some 33) #[true, true, true, true, true, true, true, true, true, false, false, false, false, false] rfl rfl (one_of HT_.out Z4_15) Z4_25 (fun K hK => ?_)
      refine Kd.R_append_rows_step (Kd.int .u8) (w0 := w) w.heap.size Z4_40 (.tmp 30) (.tmp 32) 33 5 (.int .u8 0) 1 rfl Try.underlying33 info5 rfl Z4_25 (by omega) v148 y147 l0_3 _ _ _ (fun _ => True) (fun _ => False) rfl rfl ?aO ?aR (fun _ _ h => h) (fun _ h => h.elim) ?aF ?aB ?aS ?aL ?_
      (case aR => exact Z4_30)
      (case aB => exact Z4_1)
      (case aF => exact (fun _ _ => trivial))
      (case aO => exact Z4_39)
      (case aS => exact (below_size Z4_1))
      (case aL => have := LMc5.out; omega)
      intro v151 w95 ho hb hg hat
      rw [← Ny150.out] at ho
      have n0_ := Aside0.mk (blk_grown (g := gb135) (o := .cells #[.int .i64 a0_0, .int .i64 a0_1, .slice A0_2 l0_2.length c0_2, .slice A0_3 l0_3.length c0_3, .int .i64 a0_4, .slice A0_5 l0_5.length c0_5] 51 (0, 0)) Z4_2 hg (Kd.R_ne HO149.out BK135.out Z4_25))
      have n1_ := Aside0.mk (blk_grown (g := gb136) (o := .cells #[.int .i64 0, .slice none 0 0] 29 (0, 0)) Z4_3 hg (Kd.R_ne HO149.out BK136.out Z4_25))
      have n2_ := Aside0.mk (blk_grown (g := gb137) (o := .cells #[.int .i64 a0_4, .slice Ao88 y144.length co88] 29 (0, 0)) Z4_6 hg (Kd.R_ne HO149.out BK137.out Z4_25))
      have n3_ := Aside0.mk (Kd.S_after (ok := (fun _ => True)) Z4_24 hg hat)
      have n4_ := Aside0.mk (hb)
      have n5_ := Aside0.mk (ho)
      clear BK135
      clear BK136
      clear BK137
      clear HO146
      clear HB
      clear HO149
      have BK135 := n0_
      have BK136 := n1_
      have BK137 := n2_
      have HO146 := n3_
      have HB := n4_
      have HO152 := n5_
      clear n0_ n1_ n2_ n3_ n4_ n5_
      clear ho hb hg hat
      obtain ⟨Ao96, co96, eo96⟩ := Kd.R_slice HO152.out
      (first | subst eo96 | (injection eo96 with f1_ f2_ f3_; have f4_ := f1_.symm; have f5_ := f3_.symm; clear f1_ f2_ f3_; subst f4_; subst f5_))
      refine hK.out _ _ ⟨(blk_cell BK137.out 0).trans rfl, (blk_cell BK137.out 1).trans rfl, (blk_cell BK135.out 0).trans rfl, (blk_cell BK135.out 1).trans rfl, (blk_cell BK135.out 2).trans rfl, (blk_cell BK135.out 3).trans rfl, (blk_cell BK135.out 4).trans rfl, (blk_cell BK135.out 5).trans rfl⟩ (fun hHeld => ?_)
      clear hK K
      refine norm_ (a' := ?_) ?_ ?_
      rotate_left
      ·show Act.put _ (some 33) _ = _
       simp only [Act.put, List.setIfInBounds_toArray, List.set_cons_zero, List.set_cons_succ, i64_w, i32_w]
       rfl
      refine pure_ (i := 9) (N := some 34) (v := ?_) (a' := ?_) #[true, true, true, true, true, true, true, true, true, true, false, false, false, false] rfl rfl (any_of HT_.out Z4_15) (fun _ _ _ h => h) (Or.inl ⟨Z4_40, ?_⟩) ?_ ?_
      rotate_left
      ·intro w'
       go_simp
       with_reducible rfl
      rotate_left
      ·simp only [Act.put, List.setIfInBounds_toArray, List.set_cons_zero, List.set_cons_succ, i64_w, i32_w]
       rfl
      refine one_ (i := 10) (N := some 35) #[true, true, true, true, true, true, true, true, true, true, true, false, false, false] rfl rfl (one_of HT_.out Z4_15) Z4_25 (fun K hK => ?_)
      refine value_ (w1 := ?_) (v := ?_) Z4_40 rfl ?_ ?_
      rotate_left 2
      ·go_simp
       constructor
       ·rfl
       rfl
      refine hK.out _ _ ⟨(blk_cell (blk_alloc BK137.out _) 0).trans rfl, (blk_cell (blk_alloc BK137.out _) 1).trans rfl, (blk_cell (blk_alloc BK135.out _) 0).trans rfl, (blk_cell (blk_alloc BK135.out _) 1).trans rfl, (blk_cell (blk_alloc BK135.out _) 2).trans rfl, (blk_cell (blk_alloc BK135.out _) 3).trans rfl, (blk_cell (blk_alloc BK135.out _) 4).trans rfl, (blk_cell (blk_alloc BK135.out _) 5).trans rfl⟩ (fun hHeld => ?_)
      clear hK K
      refine norm_ (a' := ?_) ?_ ?_
      rotate_left
      ·show Act.put _ (some 35) _ = _
       simp only [Act.put, List.setIfInBounds_toArray, List.set_cons_zero, List.set_cons_succ, i64_w, i32_w]
       rfl
      refine one_ (i := 11) (N := some 36) #[true, true, true, true, true, true, true, true, true, true, true, true, false, false] rfl rfl (one_of HT_.out Z4_15) Z4_25 (fun K hK => ?_)
      refine Kd.S_append_step k58 (w0 := w) w.heap.size Z4_40 (.tmp 26) (.tmp 35) 27 58 (.agg #[(.int .i64 0), (.int .i64 0), (.int .i64 0), (.slice none 0 0)]) 48 rfl Try.underlying27 info58 rfl Z4_25 (by omega) (.slice Ao88 y144.length co88) y144 (⟨262144, 3, (l0_3.length : Int), y150⟩ : S58) [.int .i64 262144, .int .i64 3, .int .i64 (l0_3.length : Int), .slice Ao96 y150.length co96] (fun _ => True) (fun k_ => some k_ = (.slice Ao96 y150.length co96 : Value).ownBlock) rfl rfl ?aP (fun k_ hk_ => ((Kd.R_mono (ok' := fun k_ => ((fun _ => True)) k_ ∧ some k_ ≠ (.slice Ao88 y144.length co88 : Value).ownBlock) (Kd.R_apart' (HO152.out) (Kd.S_typed HO146.out) Z4_25) (fun k_ hk => ⟨trivial, hk.2⟩))).1 k_ hk_.symm) ?aF ?aO ?aB ?aS ?aL ?_
      (case aP => exact k58_mkM _ _ _ (⟨262144, 3, (l0_3.length : Int), y150⟩ : S58) (Kd.R_mono (Kd.R_tight rfl (Kd.R_mono (ok' := fun k_ => ((fun _ => True)) k_ ∧ some k_ ≠ (.slice Ao88 y144.length co88 : Value).ownBlock) (Kd.R_apart' (HO152.out) (Kd.S_typed HO146.out) Z4_25) (fun k_ hk => ⟨trivial, hk.2⟩))) (fun _ h_ => h_)))
      (case aB => exact Z4_1)
      (case aF => exact (fun _ _ => trivial))
      (case aO => exact Z4_34)
      (case aS => exact (below_size Z4_1))
      (case aL => have := LMc6.out; omega)
      intro v154 w97 ho hb hg hat
      rw [← Ny153.out] at ho
      have n0_ := Aside0.mk (blk_grown (g := gb135) (o := .cells #[.int .i64 a0_0, .int .i64 a0_1, .slice A0_2 l0_2.length c0_2, .slice A0_3 l0_3.length c0_3, .int .i64 a0_4, .slice A0_5 l0_5.length c0_5] 51 (0, 0)) Z4_2 hg (Kd.S_ne HO146.out BK135.out Z4_25))
      have n1_ := Aside0.mk (blk_grown (g := gb136) (o := .cells #[.int .i64 0, .slice none 0 0] 29 (0, 0)) Z4_3 hg (Kd.S_ne HO146.out BK136.out Z4_25))
      have n2_ := Aside0.mk (blk_grown (g := gb137) (o := .cells #[.int .i64 a0_4, .slice Ao88 y144.length co88] 29 (0, 0)) Z4_6 hg (Kd.S_ne HO146.out BK137.out Z4_25))
      have n3_ := Aside0.mk (hb)
      have n4_ := Aside0.mk (ho)
      clear BK135
      clear BK136
      clear BK137
      clear HB
      clear HO146
      clear HO152
      have BK135 := n0_
      have BK136 := n1_
      have BK137 := n2_
      have HB := n3_
      have HO155 := n4_
      clear n0_ n1_ n2_ n3_ n4_
      clear ho hb hg hat
      obtain ⟨Ao98, co98, eo98⟩ := Kd.S_slice HO155.out
      (first | subst eo98 | (injection eo98 with f1_ f2_ f3_; have f4_ := f1_.symm; have f5_ := f3_.symm; clear f1_ f2_ f3_; subst f4_; subst f5_))
      refine hK.out _ _ ⟨(blk_cell BK137.out 0).trans rfl, (blk_cell BK137.out 1).trans rfl, (blk_cell BK135.out 0).trans rfl, (blk_cell BK135.out 1).trans rfl, (blk_cell BK135.out 2).trans rfl, (blk_cell BK135.out 3).trans rfl, (blk_cell BK135.out 4).trans rfl, (blk_cell BK135.out 5).trans rfl⟩ (fun hHeld => ?_)
      clear hK K
      refine norm_ (a' := ?_) ?_ ?_
      rotate_left
      ·show Act.put _ (some 36) _ = _
       simp only [Act.put, List.setIfInBounds_toArray, List.set_cons_zero, List.set_cons_succ, i64_w, i32_w]
       rfl
      refine pure_ (i := 12) (N := some 37) (v := ?_) (a' := ?_) #[true, true, true, true, true, true, true, true, true, true, true, true, true, false] rfl rfl (any_of HT_.out Z4_15) (fun _ _ _ h => h) (Or.inl ⟨Z4_40, ?_⟩) ?_ ?_
      rotate_left
      ·intro w'
       go_simp
       with_reducible rfl
      rotate_left
      ·simp only [Act.put, List.setIfInBounds_toArray, List.set_cons_zero, List.set_cons_succ, i64_w, i32_w]
       rfl
      refine last_ (i := 13) (N := none) #[true, true, true, true, true, true, true, true, true, true, true, true, true, true] rfl rfl (one_of HT_.out Z4_15) Z4_25 (fun K hK => ?_)
      have hs99 : w97.cell? ⟨gb137, 1, none⟩ = some (.slice Ao88 y144.length co88) := (blk_cell BK137.out 1).trans rfl
      have hfs99 := blk_frozen BK137.out 1
      have hns99_0 := NB135_137.out
      have hns99_1 := NB136_137.out
      have hms99_0 := NB137_135.out
      have hms99_1 := NB137_136.out
      refine skip_ (w1 := ?_) Z4_40 rfl ?_ ?_
      rotate_left
      ·go_simp
       rfl
      refine hK.out _ _ ?_
      clear hK K
      refine done_ (done_of HT_.out Z4_15) ?_
      have hcz100_0 : w97.cell? ⟨gb135, 0, none⟩ = some (.int .i64 a0_0) := (blk_cell BK135.out 0).trans rfl
      have hcz100_1 : w97.cell? ⟨gb135, 1, none⟩ = some (.int .i64 a0_1) := (blk_cell BK135.out 1).trans rfl
      have hcz100_2 : w97.cell? ⟨gb135, 2, none⟩ = some (.slice A0_2 l0_2.length c0_2) := (blk_cell BK135.out 2).trans rfl
      have hcz100_3 : w97.cell? ⟨gb135, 3, none⟩ = some (.slice A0_3 l0_3.length c0_3) := (blk_cell BK135.out 3).trans rfl
      have hcz100_4 : w97.cell? ⟨gb135, 4, none⟩ = some (.int .i64 a0_4) := (blk_cell BK135.out 4).trans rfl
      have hcz100_5 : w97.cell? ⟨gb135, 5, none⟩ = some (.slice A0_5 l0_5.length c0_5) := (blk_cell BK135.out 5).trans rfl
      have hfz100_0 := blk_frozen BK135.out 0
      have hfz100_1 := blk_frozen BK135.out 1
      have hfz100_2 := blk_frozen BK135.out 2
      have hfz100_3 := blk_frozen BK135.out 3
      have hfz100_4 := blk_frozen BK135.out 4
      have hfz100_5 := blk_frozen BK135.out 5
      have hcz101_0 : w97.cell? ⟨gb136, 0, none⟩ = some (.int .i64 0) := (blk_cell BK136.out 0).trans rfl
      have hcz101_1 : w97.cell? ⟨gb136, 1, none⟩ = some (.slice none 0 0) := (blk_cell BK136.out 1).trans rfl
      have hfz101_0 := blk_frozen BK136.out 0
      have hfz101_1 := blk_frozen BK136.out 1
      try go_wp2
      refine bodyPost_ret (results_ct rfl _ _ gb136 29 #[.int .i64 0, .slice none 0 0] (0, 0) _ rfl Z4_22 Try.underlying29 rfl Z4_15) rfl ?_
      exact ⟨_, Z4_26, Z4_27, Z4_1⟩
     rw [if_neg c6] at H
     exact absurd H (by simp)
    rw [if_neg c5] at H
    exact absurd H (by simp)
   rw [if_neg c4] at H
   have c4b0 : decide (0 < (l0_3.length : Int)) = false := decide_eq_false c4
   have c4b1 : decide (0 < l0_3.length) = false := decide_eq_false (by omega)
   clear c4
   by_cases c102 : a0_0 = 0
   ·rw [if_pos c102] at H
    have c102b0 : (a0_0 == 0) = true := beq_iff_eq.mpr c102
    have c102b1 : (a0_0 != 0) = false := bne_eq_false_iff_eq.mpr c102
    clear c102
    replace H := Option.bind_eq_some_iff.mp H
    obtain ⟨t157, A1030, H⟩ := H
    replace H : (if t157 = true then (some (a0_4, y144, true)) else (some (0, ([] : List (S58)), false))) = some (r1, r2, r3) := H
    have A103 := Aside0.mk A1030
    clear A1030
    by_cases c104 : t157 = true
    ·subst c104
     have H1 : (some (a0_4, y144, true)) = some (r1, r2, r3) := by rw [if_pos rfl] at H; exact H
     clear H
     have H := H1
     clear H1
     simp only [Option.some.injEq, Prod.mk.injEq] at H
     obtain ⟨rfl, rfl, rfl⟩ := H
     go_enter Try.func23, Try.ntmps23
     try go_wp2_with (first | ((with_reducible refine gate_dst (N := 1) rfl ?_); refine box_event ?hg (N := 1) ?hd (cs := #[.int .i64 a0_0, .int .i64 a0_1, .slice A0_2 l0_2.length c0_2, .slice A0_3 l0_3.length c0_3, .int .i64 a0_4, .slice A0_5 l0_5.length c0_5]) (t := 51) ?hr ?_; (case hd => rfl); (case hg => rfl); (case hr => exact Z4_17); intro gb135 hg w105 hbox hb; have n0_ := Aside0.mk (below_step Z4_9 hb); have n1_ := Aside0.mk (hbox); have n2_ := Aside0.mk ((Z4_31 : w.heap.size ≤ gb135)); have n3_ := Aside0.mk ((Z4_31 : w.heap.size ≤ gb135)); clear HB; have HB := n0_; have BK135 := n1_; have GW135 := n2_; have GE135 := n3_; clear n0_ n1_ n2_ n3_; clear hb hbox hg) | ((with_reducible refine gate_dst (N := 2) rfl ?_); refine box_event ?hg (N := 2) ?hd (cs := #[.int .i64 0, .slice none 0 0]) (t := 29) ?hr ?_; (case hd => rfl); (case hg => rfl); (case hr => exact Z4_17); intro gb136 hg w106 hbox hb; have n0_ := Aside0.mk (blk_below (g := gb135) (o := .cells #[.int .i64 a0_0, .int .i64 a0_1, .slice A0_2 l0_2.length c0_2, .slice A0_3 l0_3.length c0_3, .int .i64 a0_4, .slice A0_5 l0_5.length c0_5] 51 (0, 0)) Z4_2 hb); have n1_ := Aside0.mk (below_step Z4_5 hb); have n2_ := Aside0.mk (hbox); have n3_ := Aside0.mk ((Z4_32 : w.heap.size ≤ gb136)); have n4_ := Aside0.mk ((Z4_32 : w.heap.size ≤ gb136)); have n5_ := Aside0.mk ((Z4_7 : gb135 ≠ gb136)); have n6_ := Aside0.mk ((Z4_8 : gb136 ≠ gb135)); clear BK135; clear HB; have BK135 := n0_; have HB := n1_; have BK136 := n2_; have GW136 := n3_; have GE136 := n4_; have NB135_136 := n5_; have NB136_135 := n6_; clear n0_ n1_ n2_ n3_ n4_ n5_ n6_; clear hb hbox hg; have hnb107 := NB135_136.out; have hnc107 := NB136_135.out; have hcz108_0 : w106.cell? ⟨gb135, 0, none⟩ = some (.int .i64 a0_0) := (blk_cell BK135.out 0).trans rfl; have hcz108_1 : w106.cell? ⟨gb135, 1, none⟩ = some (.int .i64 a0_1) := (blk_cell BK135.out 1).trans rfl; have hcz108_2 : w106.cell? ⟨gb135, 2, none⟩ = some (.slice A0_2 l0_2.length c0_2) := (blk_cell BK135.out 2).trans rfl; have hcz108_3 : w106.cell? ⟨gb135, 3, none⟩ = some (.slice A0_3 l0_3.length c0_3) := (blk_cell BK135.out 3).trans rfl; have hcz108_4 : w106.cell? ⟨gb135, 4, none⟩ = some (.int .i64 a0_4) := (blk_cell BK135.out 4).trans rfl; have hcz108_5 : w106.cell? ⟨gb135, 5, none⟩ = some (.slice A0_5 l0_5.length c0_5) := (blk_cell BK135.out 5).trans rfl; have hfz108_0 := blk_frozen BK135.out 0; have hfz108_1 := blk_frozen BK135.out 1; have hfz108_2 := blk_frozen BK135.out 2; have hfz108_3 := blk_frozen BK135.out 3; have hfz108_4 := blk_frozen BK135.out 4; have hfz108_5 := blk_frozen BK135.out 5) | ((with_reducible refine gate_dst (N := 4) rfl ?_); refine box_event ?hg (N := 4) ?hd (cs := #[.int .i64 0, .slice none 0 0]) (t := 29) ?hr ?_; (case hd => rfl); (case hg => rfl); (case hr => exact Z4_17); intro gb137 hg w109 hbox hb; have n0_ := Aside0.mk (blk_below (g := gb135) (o := .cells #[.int .i64 a0_0, .int .i64 a0_1, .slice A0_2 l0_2.length c0_2, .slice A0_3 l0_3.length c0_3, .int .i64 a0_4, .slice A0_5 l0_5.length c0_5] 51 (0, 0)) Z4_2 hb); have n1_ := Aside0.mk (blk_below (g := gb136) (o := .cells #[.int .i64 0, .slice none 0 0] 29 (0, 0)) Z4_3 hb); have n2_ := Aside0.mk (below_step Z4_4 hb); have n3_ := Aside0.mk (hbox); have n4_ := Aside0.mk ((Z4_33 : w.heap.size ≤ gb137)); have n5_ := Aside0.mk ((Z4_33 : w.heap.size ≤ gb137)); have n6_ := Aside0.mk ((Z4_7 : gb135 ≠ gb137)); have n7_ := Aside0.mk ((Z4_8 : gb137 ≠ gb135)); have n8_ := Aside0.mk ((Z4_20 : gb136 ≠ gb137)); have n9_ := Aside0.mk ((Z4_21 : gb137 ≠ gb136)); clear BK135; clear BK136; clear HB; have BK135 := n0_; have BK136 := n1_; have HB := n2_; have BK137 := n3_; have GW137 := n4_; have GE137 := n5_; have NB135_137 := n6_; have NB137_135 := n7_; have NB136_137 := n8_; have NB137_136 := n9_; clear n0_ n1_ n2_ n3_ n4_ n5_ n6_ n7_ n8_ n9_; clear hb hbox hg; have hnb110 := NB137_135.out; have hnc110 := NB135_137.out; have hnb111 := NB137_136.out; have hnc111 := NB136_137.out; have hcz112_0 : w109.cell? ⟨gb137, 0, none⟩ = some (.int .i64 0) := (blk_cell BK137.out 0).trans rfl; have hcz112_1 : w109.cell? ⟨gb137, 1, none⟩ = some (.slice none 0 0) := (blk_cell BK137.out 1).trans rfl; have hfz112_0 := blk_frozen BK137.out 0; have hfz112_1 := blk_frozen BK137.out 1))
     have n0_ : Aside0 (((w109.setCell ⟨gb137, 0, none⟩ (.int .i64 a0_4)).setCell ⟨gb137, 1, none⟩ (.slice none 0 0)).heap[gb135]? = some (.cells #[.int .i64 a0_0, .int .i64 a0_1, .slice A0_2 l0_2.length c0_2, .slice A0_3 l0_3.length c0_3, .int .i64 a0_4, .slice A0_5 l0_5.length c0_5] 51 (0, 0))) := ⟨Z4_11⟩
     have n1_ : Aside0 (((w109.setCell ⟨gb137, 0, none⟩ (.int .i64 a0_4)).setCell ⟨gb137, 1, none⟩ (.slice none 0 0)).heap[gb136]? = some (.cells #[.int .i64 0, .slice none 0 0] 29 (0, 0))) := ⟨Z4_12⟩
     have n2_ : Aside0 (((w109.setCell ⟨gb137, 0, none⟩ (.int .i64 a0_4)).setCell ⟨gb137, 1, none⟩ (.slice none 0 0)).heap[gb137]? = some (.cells #[.int .i64 a0_4, .slice none 0 0] 29 (0, 0))) := ⟨Z4_10⟩
     have n3_ : Aside0 (Below w.heap.size w ((w109.setCell ⟨gb137, 0, none⟩ (.int .i64 a0_4)).setCell ⟨gb137, 1, none⟩ (.slice none 0 0))) := ⟨Z4_1⟩
     (try clear BK135)
     (try clear BK136)
     (try clear BK137)
     (try clear HB)
     generalize ((w109.setCell ⟨gb137, 0, none⟩ (.int .i64 a0_4)).setCell ⟨gb137, 1, none⟩ (.slice none 0 0)) = w113 at n0_ n1_ n2_ n3_ ⊢
     have BK135 := n0_
     have BK136 := n1_
     have BK137 := n2_
     have HB := n3_
     clear n0_ n1_ n2_ n3_
     have n0_ := Aside0.mk (blk_drew BK135.out)
     have n1_ := Aside0.mk (blk_drew BK136.out)
     have n2_ := Aside0.mk (blk_drew BK137.out)
     have n3_ := Aside0.mk (below_drew1 HB.out)
     clear BK135
     clear BK136
     clear BK137
     clear HB
     have BK135 := n0_
     have BK136 := n1_
     have BK137 := n2_
     have HB := n3_
     clear n0_ n1_ n2_ n3_
     refine start_ (n := 14) (S := fun w' => w'.cell? ⟨gb137, 0, none⟩ = some (.int .i64 a0_4) ∧ w'.cell? ⟨gb137, 1, none⟩ = some (.slice none 0 0) ∧ w'.cell? ⟨gb135, 0, none⟩ = some (.int .i64 a0_0) ∧ w'.cell? ⟨gb135, 1, none⟩ = some (.int .i64 a0_1) ∧ w'.cell? ⟨gb135, 2, none⟩ = some (.slice A0_2 l0_2.length c0_2) ∧ w'.cell? ⟨gb135, 3, none⟩ = some (.slice A0_3 l0_3.length c0_3) ∧ w'.cell? ⟨gb135, 4, none⟩ = some (.int .i64 a0_4) ∧ w'.cell? ⟨gb135, 5, none⟩ = some (.slice A0_5 l0_5.length c0_5)) (ds := [13]) #[false, false, false, false, false, false, false, false, false, false, false, false, false, false] Z4_15 rfl rfl ⟨(blk_cell BK137.out 0).trans rfl, (blk_cell BK137.out 1).trans rfl, (blk_cell BK135.out 0).trans rfl, (blk_cell BK135.out 1).trans rfl, (blk_cell BK135.out 2).trans rfl, (blk_cell BK135.out 3).trans rfl, (blk_cell BK135.out 4).trans rfl, (blk_cell BK135.out 5).trans rfl⟩ (fun hHeld => ?_); refine with_tabW spec_Link.tab2 spec_Link.bits2 (fun HT_ HW_ => ?_)
     generalize w113.drew = w114 at BK135 BK136 BK137 HB hHeld ⊢
     refine pure_ (i := 0) (N := some 8) (v := ?_) (a' := ?_) #[true, false, false, false, false, false, false, false, false, false, false, false, false, false] rfl rfl (any_of HT_.out Z4_15) (fun _ _ _ h => h) (Or.inl ⟨Z4_40, ?_⟩) ?_ ?_
     rotate_left
     ·intro w'
      go_simp
      with_reducible rfl
     rotate_left
     ·simp only [Act.put, List.setIfInBounds_toArray, List.set_cons_zero, List.set_cons_succ, i64_w, i32_w]
      rfl
     refine pure_ (i := 2) (N := some 10) (v := ?_) (a' := ?_) #[true, false, true, false, false, false, false, false, false, false, false, false, false, false] rfl rfl (any_of HT_.out Z4_15) (fun _ _ _ h => h) (Or.inl ⟨Z4_40, ?_⟩) ?_ ?_
     rotate_left
     ·intro w'
      go_simp
      with_reducible rfl
     rotate_left
     ·simp only [Act.put, List.setIfInBounds_toArray, List.set_cons_zero, List.set_cons_succ, i64_w, i32_w]
      rfl
     refine pure_ (i := 6) (N := some 14) (v := ?_) (a' := ?_) #[true, false, true, false, false, false, true, false, false, false, false, false, false, false] rfl rfl (any_of HT_.out Z4_15) (fun _ _ _ h => h) (Or.inl ⟨Z4_40, ?_⟩) ?_ ?_
     rotate_left
     ·intro w'
      go_simp
      with_reducible rfl
     rotate_left
     ·simp only [Act.put, List.setIfInBounds_toArray, List.set_cons_zero, List.set_cons_succ, i64_w, i32_w]
      rfl
     refine take_ (i := 1) (N := some 9) (v := ?_) (a' := ?_) #[true, true, true, false, false, false, true, false, false, false, false, false, false, false] rfl rfl (take_ofW HT_.out HW_.out Z4_15) (fun _ _ _ h => h) (Or.inl ⟨Z4_40, ?_⟩) hHeld ?_ ?_
     rotate_left
     ·rintro w' ⟨s0, s1, s2, s3, s4, s5, s6, s7⟩
      go_simp
      with_reducible rfl
     rotate_left
     ·simp only [Act.put, List.setIfInBounds_toArray, List.set_cons_zero, List.set_cons_succ, i64_w, i32_w]
      rfl
     refine take_ (i := 3) (N := some 11) (v := ?_) (a' := ?_) #[true, true, true, true, false, false, true, false, false, false, false, false, false, false] rfl rfl (take_ofW HT_.out HW_.out Z4_15) (fun _ _ _ h => h) (Or.inl ⟨Z4_40, ?_⟩) hHeld ?_ ?_
     rotate_left
     ·rintro w' ⟨s0, s1, s2, s3, s4, s5, s6, s7⟩
      go_simp
      with_reducible rfl
     rotate_left
     ·simp only [Act.put, List.setIfInBounds_toArray, List.set_cons_zero, List.set_cons_succ, i64_w, i32_w]
      rfl
     refine pure_ (i := 4) (N := some 12) (v := ?_) (a' := ?_) #[true, true, true, true, true, false, true, false, false, false, false, false, false, false] rfl rfl (any_of HT_.out Z4_15) (fun _ _ _ h => h) (Or.inl ⟨Z4_40, ?_⟩) ?_ ?_
     rotate_left
     ·intro w'
      go_simp
      with_reducible rfl
     rotate_left
     ·simp only [Act.put, List.setIfInBounds_toArray, List.set_cons_zero, List.set_cons_succ, i64_w, i32_w]
      rfl
     refine take_ (i := 7) (N := some 15) (v := ?_) (a' := ?_) #[true, true, true, true, true, false, true, true, false, false, false, false, false, false] rfl rfl (take_ofW HT_.out HW_.out Z4_15) (fun _ _ _ h => h) (Or.inl ⟨Z4_40, ?_⟩) hHeld ?_ ?_
     rotate_left
     ·rintro w' ⟨s0, s1, s2, s3, s4, s5, s6, s7⟩
      go_simp
      with_reducible rfl
     rotate_left
     ·simp only [Act.put, List.setIfInBounds_toArray, List.set_cons_zero, List.set_cons_succ, i64_w, i32_w]
      rfl
     refine one_ (i := 5) (N := some 13) #[true, true, true, true, true, true, true, true, false, false, false, false, false, false] rfl rfl (one_of HT_.out Z4_15) Z4_25 (fun K hK => ?_)
     refine Kd.R_lit_step (Kd.int .u8) _ 5 ?hg (N := 13) ?hd (xs := ([] : List Int)) (inner := []) (ok := fun _ => True) (okp := fun _ => True) ?hr ?hp (fun _ hk => hk) trivial (Below.refl _ _) (Nat.le_refl _) (by simp) ?_; (case hd => rfl); (case hg => rfl); (case hr => exact Z4_17); (case hp => exact (Reps.none _ _))
     intro v139 w115 ho116 hb hg_ hnew_
     clear hg_ hnew_
     (first | rw [← Ny138.out] at ho116 | (simp only [Int.reduceToNat] at ho116; rw [← Ny138.out] at ho116))
     have n0_ := Aside0.mk (Kd.R_lower ho116 (below_size Z4_1))
     have n1_ := Aside0.mk (blk_below (g := gb135) (o := .cells #[.int .i64 a0_0, .int .i64 a0_1, .slice A0_2 l0_2.length c0_2, .slice A0_3 l0_3.length c0_3, .int .i64 a0_4, .slice A0_5 l0_5.length c0_5] 51 (0, 0)) Z4_2 hb)
     have n2_ := Aside0.mk (blk_below (g := gb136) (o := .cells #[.int .i64 0, .slice none 0 0] 29 (0, 0)) Z4_3 hb)
     have n3_ := Aside0.mk (blk_below (g := gb137) (o := .cells #[.int .i64 a0_4, .slice none 0 0] 29 (0, 0)) Z4_6 hb)
     have n4_ := Aside0.mk (below_step Z4_1 hb)
     clear BK135
     clear BK136
     clear BK137
     clear HB
     have HO140 := n0_
     have BK135 := n1_
     have BK136 := n2_
     have BK137 := n3_
     have HB := n4_
     clear n0_ n1_ n2_ n3_ n4_
     clear hb ho116
     refine hK.out _ _ ⟨(blk_cell BK137.out 0).trans rfl, (blk_cell BK137.out 1).trans rfl, (blk_cell BK135.out 0).trans rfl, (blk_cell BK135.out 1).trans rfl, (blk_cell BK135.out 2).trans rfl, (blk_cell BK135.out 3).trans rfl, (blk_cell BK135.out 4).trans rfl, (blk_cell BK135.out 5).trans rfl⟩ (fun hHeld => ?_)
     clear hK K
     refine norm_ (a' := ?_) ?_ ?_
     rotate_left
     ·show Act.put _ (some 13) _ = _
      simp only [Act.put, List.setIfInBounds_toArray, List.set_cons_zero, List.set_cons_succ, i64_w, i32_w]
      rfl
     refine one_ (i := 8) (N := some 16) #[true, true, true, true, true, true, true, true, true, false, false, false, false, false] rfl rfl (one_of HT_.out Z4_15) Z4_25 (fun K hK => ?_)
     refine Kd.R_append_rows_step (Kd.int .u8) (w0 := w) w.heap.size Z4_40 (.tmp 13) (.tmp 15) 33 5 (.int .u8 0) 1 rfl Try.underlying33 info5 rfl Z4_25 (by omega) v139 y138 l0_2 _ _ _ (fun _ => True) (fun _ => False) rfl rfl ?aO ?aR (fun _ _ h => h) (fun _ h => h.elim) ?aF ?aB ?aS ?aL ?_
     (case aR => exact Z4_18)
     (case aB => exact Z4_1)
     (case aF => exact (fun _ _ => trivial))
     (case aO => exact Z4_23)
     (case aS => exact (below_size Z4_1))
     (case aL => have := LMc2.out; omega)
     intro v142 w117 ho hb hg hat
     rw [← Ny141.out] at ho
     have n0_ := Aside0.mk (blk_grown (g := gb135) (o := .cells #[.int .i64 a0_0, .int .i64 a0_1, .slice A0_2 l0_2.length c0_2, .slice A0_3 l0_3.length c0_3, .int .i64 a0_4, .slice A0_5 l0_5.length c0_5] 51 (0, 0)) Z4_2 hg (Kd.R_ne HO140.out BK135.out Z4_25))
     have n1_ := Aside0.mk (blk_grown (g := gb136) (o := .cells #[.int .i64 0, .slice none 0 0] 29 (0, 0)) Z4_3 hg (Kd.R_ne HO140.out BK136.out Z4_25))
     have n2_ := Aside0.mk (blk_grown (g := gb137) (o := .cells #[.int .i64 a0_4, .slice none 0 0] 29 (0, 0)) Z4_6 hg (Kd.R_ne HO140.out BK137.out Z4_25))
     have n3_ := Aside0.mk (hb)
     have n4_ := Aside0.mk (ho)
     clear BK135
     clear BK136
     clear BK137
     clear HB
     clear HO140
     have BK135 := n0_
     have BK136 := n1_
     have BK137 := n2_
     have HB := n3_
     have HO143 := n4_
     clear n0_ n1_ n2_ n3_ n4_
     clear ho hb hg hat
     obtain ⟨Ao118, co118, eo118⟩ := Kd.R_slice HO143.out
     (first | subst eo118 | (injection eo118 with f1_ f2_ f3_; have f4_ := f1_.symm; have f5_ := f3_.symm; clear f1_ f2_ f3_; subst f4_; subst f5_))
     refine hK.out _ _ ⟨(blk_cell BK137.out 0).trans rfl, (blk_cell BK137.out 1).trans rfl, (blk_cell BK135.out 0).trans rfl, (blk_cell BK135.out 1).trans rfl, (blk_cell BK135.out 2).trans rfl, (blk_cell BK135.out 3).trans rfl, (blk_cell BK135.out 4).trans rfl, (blk_cell BK135.out 5).trans rfl⟩ (fun hHeld => ?_)
     clear hK K
     refine norm_ (a' := ?_) ?_ ?_
     rotate_left
     ·show Act.put _ (some 16) _ = _
      simp only [Act.put, List.setIfInBounds_toArray, List.set_cons_zero, List.set_cons_succ, i64_w, i32_w]
      rfl
     refine pure_ (i := 9) (N := some 17) (v := ?_) (a' := ?_) #[true, true, true, true, true, true, true, true, true, true, false, false, false, false] rfl rfl (any_of HT_.out Z4_15) (fun _ _ _ h => h) (Or.inl ⟨Z4_40, ?_⟩) ?_ ?_
     rotate_left
     ·intro w'
      go_simp
      with_reducible rfl
     rotate_left
     ·simp only [Act.put, List.setIfInBounds_toArray, List.set_cons_zero, List.set_cons_succ, i64_w, i32_w]
      rfl
     refine one_ (i := 10) (N := some 18) #[true, true, true, true, true, true, true, true, true, true, true, false, false, false] rfl rfl (one_of HT_.out Z4_15) Z4_25 (fun K hK => ?_)
     refine value_ (w1 := ?_) (v := ?_) Z4_40 rfl ?_ ?_
     rotate_left 2
     ·go_simp
      constructor
      ·rfl
      rfl
     refine hK.out _ _ ⟨(blk_cell (blk_alloc BK137.out _) 0).trans rfl, (blk_cell (blk_alloc BK137.out _) 1).trans rfl, (blk_cell (blk_alloc BK135.out _) 0).trans rfl, (blk_cell (blk_alloc BK135.out _) 1).trans rfl, (blk_cell (blk_alloc BK135.out _) 2).trans rfl, (blk_cell (blk_alloc BK135.out _) 3).trans rfl, (blk_cell (blk_alloc BK135.out _) 4).trans rfl, (blk_cell (blk_alloc BK135.out _) 5).trans rfl⟩ (fun hHeld => ?_)
     clear hK K
     refine norm_ (a' := ?_) ?_ ?_
     rotate_left
     ·show Act.put _ (some 18) _ = _
      simp only [Act.put, List.setIfInBounds_toArray, List.set_cons_zero, List.set_cons_succ, i64_w, i32_w]
      rfl
     refine one_ (i := 11) (N := some 19) #[true, true, true, true, true, true, true, true, true, true, true, true, false, false] rfl rfl (one_of HT_.out Z4_15) Z4_25 (fun K hK => ?_)
     refine Kd.S_append_step k58 (w0 := w) w.heap.size Z4_40 (.tmp 9) (.tmp 18) 27 58 (.agg #[(.int .i64 0), (.int .i64 0), (.int .i64 0), (.slice none 0 0)]) 48 rfl Try.underlying27 info58 rfl Z4_25 (by omega) (.slice none 0 0) ([] : List (S58)) (⟨4096, 5, (l0_2.length : Int), y141⟩ : S58) [.int .i64 4096, .int .i64 5, .int .i64 (l0_2.length : Int), .slice Ao118 y141.length co118] (fun _ => True) (fun k_ => some k_ = (.slice Ao118 y141.length co118 : Value).ownBlock) rfl rfl ?aP (fun k_ hk_ => ((Kd.R_mono (ok' := fun k_ => ((fun _ => True)) k_ ∧ some k_ ≠ (.slice none 0 0 : Value).ownBlock) (HO143.out) (fun k_ hk => ⟨trivial, Z4_19⟩))).1 k_ hk_.symm) ?aF ?aO ?aB ?aS ?aL ?_
     (case aP => exact k58_mkM _ _ _ (⟨4096, 5, (l0_2.length : Int), y141⟩ : S58) (Kd.R_mono (Kd.R_tight rfl (Kd.R_mono (ok' := fun k_ => ((fun _ => True)) k_ ∧ some k_ ≠ (.slice none 0 0 : Value).ownBlock) (HO143.out) (fun k_ hk => ⟨trivial, Z4_19⟩))) (fun _ h_ => h_)))
     (case aB => exact Z4_1)
     (case aF => exact (fun _ _ => trivial))
     (case aO => exact ((Kd.S_nil _ _ _ _ _)))
     (case aS => exact (below_size Z4_1))
     (case aL => have := LMc3.out; omega)
     intro v145 w119 ho hb hg hat
     rw [← Ny144.out] at ho
     have n0_ := Aside0.mk (blk_grown (g := gb135) (o := .cells #[.int .i64 a0_0, .int .i64 a0_1, .slice A0_2 l0_2.length c0_2, .slice A0_3 l0_3.length c0_3, .int .i64 a0_4, .slice A0_5 l0_5.length c0_5] 51 (0, 0)) Z4_2 hg Z4_19)
     have n1_ := Aside0.mk (blk_grown (g := gb136) (o := .cells #[.int .i64 0, .slice none 0 0] 29 (0, 0)) Z4_3 hg Z4_19)
     have n2_ := Aside0.mk (blk_grown (g := gb137) (o := .cells #[.int .i64 a0_4, .slice none 0 0] 29 (0, 0)) Z4_6 hg Z4_19)
     have n3_ := Aside0.mk (hb)
     have n4_ := Aside0.mk (ho)
     clear BK135
     clear BK136
     clear BK137
     clear HB
     clear HO143
     have BK135 := n0_
     have BK136 := n1_
     have BK137 := n2_
     have HB := n3_
     have HO146 := n4_
     clear n0_ n1_ n2_ n3_ n4_
     clear ho hb hg hat
     obtain ⟨Ao120, co120, eo120⟩ := Kd.S_slice HO146.out
     (first | subst eo120 | (injection eo120 with f1_ f2_ f3_; have f4_ := f1_.symm; have f5_ := f3_.symm; clear f1_ f2_ f3_; subst f4_; subst f5_))
     refine hK.out _ _ ⟨(blk_cell BK137.out 0).trans rfl, (blk_cell BK137.out 1).trans rfl, (blk_cell BK135.out 0).trans rfl, (blk_cell BK135.out 1).trans rfl, (blk_cell BK135.out 2).trans rfl, (blk_cell BK135.out 3).trans rfl, (blk_cell BK135.out 4).trans rfl, (blk_cell BK135.out 5).trans rfl⟩ (fun hHeld => ?_)
     clear hK K
     refine norm_ (a' := ?_) ?_ ?_
     rotate_left
     ·show Act.put _ (some 19) _ = _
      simp only [Act.put, List.setIfInBounds_toArray, List.set_cons_zero, List.set_cons_succ, i64_w, i32_w]
      rfl
     refine pure_ (i := 12) (N := some 20) (v := ?_) (a' := ?_) #[true, true, true, true, true, true, true, true, true, true, true, true, true, false] rfl rfl (any_of HT_.out Z4_15) (fun _ _ _ h => h) (Or.inl ⟨Z4_40, ?_⟩) ?_ ?_
     rotate_left
     ·intro w'
      go_simp
      with_reducible rfl
     rotate_left
     ·simp only [Act.put, List.setIfInBounds_toArray, List.set_cons_zero, List.set_cons_succ, i64_w, i32_w]
      rfl
     refine last_ (i := 13) (N := none) #[true, true, true, true, true, true, true, true, true, true, true, true, true, true] rfl rfl (one_of HT_.out Z4_15) Z4_25 (fun K hK => ?_)
     have hs121 : w119.cell? ⟨gb137, 1, none⟩ = some (.slice none 0 0) := (blk_cell BK137.out 1).trans rfl
     have hfs121 := blk_frozen BK137.out 1
     have hns121_0 := NB135_137.out
     have hns121_1 := NB136_137.out
     have hms121_0 := NB137_135.out
     have hms121_1 := NB137_136.out
     refine skip_ (w1 := ?_) Z4_40 rfl ?_ ?_
     rotate_left
     ·go_simp
      rfl
     refine hK.out _ _ ?_
     clear hK K
     refine done_ (done_of HT_.out Z4_15) ?_
     have hcz122_0 : w119.cell? ⟨gb135, 0, none⟩ = some (.int .i64 a0_0) := (blk_cell BK135.out 0).trans rfl
     have hcz122_1 : w119.cell? ⟨gb135, 1, none⟩ = some (.int .i64 a0_1) := (blk_cell BK135.out 1).trans rfl
     have hcz122_2 : w119.cell? ⟨gb135, 2, none⟩ = some (.slice A0_2 l0_2.length c0_2) := (blk_cell BK135.out 2).trans rfl
     have hcz122_3 : w119.cell? ⟨gb135, 3, none⟩ = some (.slice A0_3 l0_3.length c0_3) := (blk_cell BK135.out 3).trans rfl
     have hcz122_4 : w119.cell? ⟨gb135, 4, none⟩ = some (.int .i64 a0_4) := (blk_cell BK135.out 4).trans rfl
     have hcz122_5 : w119.cell? ⟨gb135, 5, none⟩ = some (.slice A0_5 l0_5.length c0_5) := (blk_cell BK135.out 5).trans rfl
     have hfz122_0 := blk_frozen BK135.out 0
     have hfz122_1 := blk_frozen BK135.out 1
     have hfz122_2 := blk_frozen BK135.out 2
     have hfz122_3 := blk_frozen BK135.out 3
     have hfz122_4 := blk_frozen BK135.out 4
     have hfz122_5 := blk_frozen BK135.out 5
     have hcz123_0 : w119.cell? ⟨gb137, 0, none⟩ = some (.int .i64 a0_4) := (blk_cell BK137.out 0).trans rfl
     have hcz123_1 : w119.cell? ⟨gb137, 1, none⟩ = some (.slice none 0 0) := (blk_cell BK137.out 1).trans rfl
     have hfz123_0 := blk_frozen BK137.out 0
     have hfz123_1 := blk_frozen BK137.out 1
     try go_wp2_with (first | (go_at_call 8; (with_reducible refine (spec_ImageOk.calls k a0_4 _ _ y144 true _ ?side1 ?side2 A103.out).mono ?_); (case side1 => refine (Kd.S_reads' (e := 58) (base := w.heap.size) (ok := fun k_ => True) (n := y144.length) (c := co120) ?_).2.2; exact Z4_35); (case side2 => exact (Kd.S_reads' HO146.out).2.1); rintro e w124 ⟨rfl, hb⟩; have n0_ := Aside0.mk (Kd.S_below Z4_35 hb); have n1_ := Aside0.mk (blk_below (g := gb135) (o := .cells #[.int .i64 a0_0, .int .i64 a0_1, .slice A0_2 l0_2.length c0_2, .slice A0_3 l0_3.length c0_3, .int .i64 a0_4, .slice A0_5 l0_5.length c0_5] 51 (0, 0)) Z4_13 hb); have n2_ := Aside0.mk (blk_below (g := gb136) (o := .cells #[.int .i64 0, .slice none 0 0] 29 (0, 0)) Z4_14 hb); have n3_ := Aside0.mk (blk_below (g := gb137) (o := .cells #[.int .i64 a0_4, .slice Ao120 y144.length co120] 29 (0, 0)) Z4_16 hb); have n4_ := Aside0.mk (below_step Z4_1 hb); clear HO146; clear BK135; clear BK136; clear BK137; clear HB; have HO146 := n0_; have BK135 := n1_; have BK136 := n2_; have BK137 := n3_; have HB := n4_; clear n0_ n1_ n2_ n3_ n4_; (try clear hb); (try clear hb2); (try clear hk); (try clear hi); have hcz125_0 : w124.cell? ⟨gb137, 0, none⟩ = some (.int .i64 a0_4) := (blk_cell BK137.out 0).trans rfl; have hcz125_1 : w124.cell? ⟨gb137, 1, none⟩ = some (.slice Ao120 y144.length co120) := (blk_cell BK137.out 1).trans rfl; have hfz125_0 := blk_frozen BK137.out 0; have hfz125_1 := blk_frozen BK137.out 1; have hcz126_0 : w124.cell? ⟨gb136, 0, none⟩ = some (.int .i64 0) := (blk_cell BK136.out 0).trans rfl; have hcz126_1 : w124.cell? ⟨gb136, 1, none⟩ = some (.slice none 0 0) := (blk_cell BK136.out 1).trans rfl; have hfz126_0 := blk_frozen BK136.out 0; have hfz126_1 := blk_frozen BK136.out 1))
     refine bodyPost_ret (results_ct rfl _ _ gb136 29 #[.int .i64 a0_4, .slice Ao120 y144.length co120] (0, 0) _ rfl Z4_28 Try.underlying29 rfl Z4_15) rfl ?_
     exact ⟨_, Z4_26, by (with_reducible repeat (first | apply Kd.S_alloc | apply Kd.S_drewN | apply Kd.S_drew)); exact Kd.S_mono (Kd.S_far (p := ⟨gb136, 1, none⟩) (Kd.S_far (p := ⟨gb136, 0, none⟩) (Kd.S_types HO146.out BK136.out Z4_25) (fun _ hk => hk.2) (.int .i64 a0_4)) (fun _ hk => hk.2) (.slice Ao120 y144.length co120)) (fun _ hk => trivial), Z4_1⟩
    replace c104 := Bool.eq_false_iff.mpr c104
    subst c104
    have H1 : (some (0, ([] : List (S58)), false)) = some (r1, r2, r3) := by rw [if_neg (show ¬ (false = true) by decide)] at H; exact H
    clear H
    have H := H1
    clear H1
    simp only [Option.some.injEq, Prod.mk.injEq] at H
    obtain ⟨rfl, rfl, rfl⟩ := H
    go_enter Try.func23, Try.ntmps23
    try go_wp2_with (first | ((with_reducible refine gate_dst (N := 1) rfl ?_); refine box_event ?hg (N := 1) ?hd (cs := #[.int .i64 a0_0, .int .i64 a0_1, .slice A0_2 l0_2.length c0_2, .slice A0_3 l0_3.length c0_3, .int .i64 a0_4, .slice A0_5 l0_5.length c0_5]) (t := 51) ?hr ?_; (case hd => rfl); (case hg => rfl); (case hr => exact Z4_17); intro gb135 hg w127 hbox hb; have n0_ := Aside0.mk (below_step Z4_9 hb); have n1_ := Aside0.mk (hbox); have n2_ := Aside0.mk ((Z4_31 : w.heap.size ≤ gb135)); have n3_ := Aside0.mk ((Z4_31 : w.heap.size ≤ gb135)); clear HB; have HB := n0_; have BK135 := n1_; have GW135 := n2_; have GE135 := n3_; clear n0_ n1_ n2_ n3_; clear hb hbox hg) | ((with_reducible refine gate_dst (N := 2) rfl ?_); refine box_event ?hg (N := 2) ?hd (cs := #[.int .i64 0, .slice none 0 0]) (t := 29) ?hr ?_; (case hd => rfl); (case hg => rfl); (case hr => exact Z4_17); intro gb136 hg w128 hbox hb; have n0_ := Aside0.mk (blk_below (g := gb135) (o := .cells #[.int .i64 a0_0, .int .i64 a0_1, .slice A0_2 l0_2.length c0_2, .slice A0_3 l0_3.length c0_3, .int .i64 a0_4, .slice A0_5 l0_5.length c0_5] 51 (0, 0)) Z4_2 hb); have n1_ := Aside0.mk (below_step Z4_5 hb); have n2_ := Aside0.mk (hbox); have n3_ := Aside0.mk ((Z4_32 : w.heap.size ≤ gb136)); have n4_ := Aside0.mk ((Z4_32 : w.heap.size ≤ gb136)); have n5_ := Aside0.mk ((Z4_7 : gb135 ≠ gb136)); have n6_ := Aside0.mk ((Z4_8 : gb136 ≠ gb135)); clear BK135; clear HB; have BK135 := n0_; have HB := n1_; have BK136 := n2_; have GW136 := n3_; have GE136 := n4_; have NB135_136 := n5_; have NB136_135 := n6_; clear n0_ n1_ n2_ n3_ n4_ n5_ n6_; clear hb hbox hg; have hnb129 := NB135_136.out; have hnc129 := NB136_135.out; have hcz130_0 : w128.cell? ⟨gb135, 0, none⟩ = some (.int .i64 a0_0) := (blk_cell BK135.out 0).trans rfl; have hcz130_1 : w128.cell? ⟨gb135, 1, none⟩ = some (.int .i64 a0_1) := (blk_cell BK135.out 1).trans rfl; have hcz130_2 : w128.cell? ⟨gb135, 2, none⟩ = some (.slice A0_2 l0_2.length c0_2) := (blk_cell BK135.out 2).trans rfl; have hcz130_3 : w128.cell? ⟨gb135, 3, none⟩ = some (.slice A0_3 l0_3.length c0_3) := (blk_cell BK135.out 3).trans rfl; have hcz130_4 : w128.cell? ⟨gb135, 4, none⟩ = some (.int .i64 a0_4) := (blk_cell BK135.out 4).trans rfl; have hcz130_5 : w128.cell? ⟨gb135, 5, none⟩ = some (.slice A0_5 l0_5.length c0_5) := (blk_cell BK135.out 5).trans rfl; have hfz130_0 := blk_frozen BK135.out 0; have hfz130_1 := blk_frozen BK135.out 1; have hfz130_2 := blk_frozen BK135.out 2; have hfz130_3 := blk_frozen BK135.out 3; have hfz130_4 := blk_frozen BK135.out 4; have hfz130_5 := blk_frozen BK135.out 5) | ((with_reducible refine gate_dst (N := 4) rfl ?_); refine box_event ?hg (N := 4) ?hd (cs := #[.int .i64 0, .slice none 0 0]) (t := 29) ?hr ?_; (case hd => rfl); (case hg => rfl); (case hr => exact Z4_17); intro gb137 hg w131 hbox hb; have n0_ := Aside0.mk (blk_below (g := gb135) (o := .cells #[.int .i64 a0_0, .int .i64 a0_1, .slice A0_2 l0_2.length c0_2, .slice A0_3 l0_3.length c0_3, .int .i64 a0_4, .slice A0_5 l0_5.length c0_5] 51 (0, 0)) Z4_2 hb); have n1_ := Aside0.mk (blk_below (g := gb136) (o := .cells #[.int .i64 0, .slice none 0 0] 29 (0, 0)) Z4_3 hb); have n2_ := Aside0.mk (below_step Z4_4 hb); have n3_ := Aside0.mk (hbox); have n4_ := Aside0.mk ((Z4_33 : w.heap.size ≤ gb137)); have n5_ := Aside0.mk ((Z4_33 : w.heap.size ≤ gb137)); have n6_ := Aside0.mk ((Z4_7 : gb135 ≠ gb137)); have n7_ := Aside0.mk ((Z4_8 : gb137 ≠ gb135)); have n8_ := Aside0.mk ((Z4_20 : gb136 ≠ gb137)); have n9_ := Aside0.mk ((Z4_21 : gb137 ≠ gb136)); clear BK135; clear BK136; clear HB; have BK135 := n0_; have BK136 := n1_; have HB := n2_; have BK137 := n3_; have GW137 := n4_; have GE137 := n5_; have NB135_137 := n6_; have NB137_135 := n7_; have NB136_137 := n8_; have NB137_136 := n9_; clear n0_ n1_ n2_ n3_ n4_ n5_ n6_ n7_ n8_ n9_; clear hb hbox hg; have hnb132 := NB137_135.out; have hnc132 := NB135_137.out; have hnb133 := NB137_136.out; have hnc133 := NB136_137.out; have hcz134_0 : w131.cell? ⟨gb137, 0, none⟩ = some (.int .i64 0) := (blk_cell BK137.out 0).trans rfl; have hcz134_1 : w131.cell? ⟨gb137, 1, none⟩ = some (.slice none 0 0) := (blk_cell BK137.out 1).trans rfl; have hfz134_0 := blk_frozen BK137.out 0; have hfz134_1 := blk_frozen BK137.out 1))
    have n0_ : Aside0 (((w131.setCell ⟨gb137, 0, none⟩ (.int .i64 a0_4)).setCell ⟨gb137, 1, none⟩ (.slice none 0 0)).heap[gb135]? = some (.cells #[.int .i64 a0_0, .int .i64 a0_1, .slice A0_2 l0_2.length c0_2, .slice A0_3 l0_3.length c0_3, .int .i64 a0_4, .slice A0_5 l0_5.length c0_5] 51 (0, 0))) := ⟨Z4_11⟩
    have n1_ : Aside0 (((w131.setCell ⟨gb137, 0, none⟩ (.int .i64 a0_4)).setCell ⟨gb137, 1, none⟩ (.slice none 0 0)).heap[gb136]? = some (.cells #[.int .i64 0, .slice none 0 0] 29 (0, 0))) := ⟨Z4_12⟩
    have n2_ : Aside0 (((w131.setCell ⟨gb137, 0, none⟩ (.int .i64 a0_4)).setCell ⟨gb137, 1, none⟩ (.slice none 0 0)).heap[gb137]? = some (.cells #[.int .i64 a0_4, .slice none 0 0] 29 (0, 0))) := ⟨Z4_10⟩
    have n3_ : Aside0 (Below w.heap.size w ((w131.setCell ⟨gb137, 0, none⟩ (.int .i64 a0_4)).setCell ⟨gb137, 1, none⟩ (.slice none 0 0))) := ⟨Z4_1⟩
    (try clear BK135)
    (try clear BK136)
    (try clear BK137)
    (try clear HB)
    generalize ((w131.setCell ⟨gb137, 0, none⟩ (.int .i64 a0_4)).setCell ⟨gb137, 1, none⟩ (.slice none 0 0)) = w135 at n0_ n1_ n2_ n3_ ⊢
    have BK135 := n0_
    have BK136 := n1_
    have BK137 := n2_
    have HB := n3_
    clear n0_ n1_ n2_ n3_
    have n0_ := Aside0.mk (blk_drew BK135.out)
    have n1_ := Aside0.mk (blk_drew BK136.out)
    have n2_ := Aside0.mk (blk_drew BK137.out)
    have n3_ := Aside0.mk (below_drew1 HB.out)
    clear BK135
    clear BK136
    clear BK137
    clear HB
    have BK135 := n0_
    have BK136 := n1_
    have BK137 := n2_
    have HB := n3_
    clear n0_ n1_ n2_ n3_
    refine start_ (n := 14) (S := fun w' => w'.cell? ⟨gb137, 0, none⟩ = some (.int .i64 a0_4) ∧ w'.cell? ⟨gb137, 1, none⟩ = some (.slice none 0 0) ∧ w'.cell? ⟨gb135, 0, none⟩ = some (.int .i64 a0_0) ∧ w'.cell? ⟨gb135, 1, none⟩ = some (.int .i64 a0_1) ∧ w'.cell? ⟨gb135, 2, none⟩ = some (.slice A0_2 l0_2.length c0_2) ∧ w'.cell? ⟨gb135, 3, none⟩ = some (.slice A0_3 l0_3.length c0_3) ∧ w'.cell? ⟨gb135, 4, none⟩ = some (.int .i64 a0_4) ∧ w'.cell? ⟨gb135, 5, none⟩ = some (.slice A0_5 l0_5.length c0_5)) (ds := [13]) #[false, false, false, false, false, false, false, false, false, false, false, false, false, false] Z4_15 rfl rfl ⟨(blk_cell BK137.out 0).trans rfl, (blk_cell BK137.out 1).trans rfl, (blk_cell BK135.out 0).trans rfl, (blk_cell BK135.out 1).trans rfl, (blk_cell BK135.out 2).trans rfl, (blk_cell BK135.out 3).trans rfl, (blk_cell BK135.out 4).trans rfl, (blk_cell BK135.out 5).trans rfl⟩ (fun hHeld => ?_); refine with_tabW spec_Link.tab2 spec_Link.bits2 (fun HT_ HW_ => ?_)
    generalize w135.drew = w136 at BK135 BK136 BK137 HB hHeld ⊢
    refine pure_ (i := 0) (N := some 8) (v := ?_) (a' := ?_) #[true, false, false, false, false, false, false, false, false, false, false, false, false, false] rfl rfl (any_of HT_.out Z4_15) (fun _ _ _ h => h) (Or.inl ⟨Z4_40, ?_⟩) ?_ ?_
    rotate_left
    ·intro w'
     go_simp
     with_reducible rfl
    rotate_left
    ·simp only [Act.put, List.setIfInBounds_toArray, List.set_cons_zero, List.set_cons_succ, i64_w, i32_w]
     rfl
    refine pure_ (i := 2) (N := some 10) (v := ?_) (a' := ?_) #[true, false, true, false, false, false, false, false, false, false, false, false, false, false] rfl rfl (any_of HT_.out Z4_15) (fun _ _ _ h => h) (Or.inl ⟨Z4_40, ?_⟩) ?_ ?_
    rotate_left
    ·intro w'
     go_simp
     with_reducible rfl
    rotate_left
    ·simp only [Act.put, List.setIfInBounds_toArray, List.set_cons_zero, List.set_cons_succ, i64_w, i32_w]
     rfl
    refine pure_ (i := 6) (N := some 14) (v := ?_) (a' := ?_) #[true, false, true, false, false, false, true, false, false, false, false, false, false, false] rfl rfl (any_of HT_.out Z4_15) (fun _ _ _ h => h) (Or.inl ⟨Z4_40, ?_⟩) ?_ ?_
    rotate_left
    ·intro w'
     go_simp
     with_reducible rfl
    rotate_left
    ·simp only [Act.put, List.setIfInBounds_toArray, List.set_cons_zero, List.set_cons_succ, i64_w, i32_w]
     rfl
    refine take_ (i := 1) (N := some 9) (v := ?_) (a' := ?_) #[true, true, true, false, false, false, true, false, false, false, false, false, false, false] rfl rfl (take_ofW HT_.out HW_.out Z4_15) (fun _ _ _ h => h) (Or.inl ⟨Z4_40, ?_⟩) hHeld ?_ ?_
    rotate_left
    ·rintro w' ⟨s0, s1, s2, s3, s4, s5, s6, s7⟩
     go_simp
     with_reducible rfl
    rotate_left
    ·simp only [Act.put, List.setIfInBounds_toArray, List.set_cons_zero, List.set_cons_succ, i64_w, i32_w]
     rfl
    refine take_ (i := 3) (N := some 11) (v := ?_) (a' := ?_) #[true, true, true, true, false, false, true, false, false, false, false, false, false, false] rfl rfl (take_ofW HT_.out HW_.out Z4_15) (fun _ _ _ h => h) (Or.inl ⟨Z4_40, ?_⟩) hHeld ?_ ?_
    rotate_left
    ·rintro w' ⟨s0, s1, s2, s3, s4, s5, s6, s7⟩
     go_simp
     with_reducible rfl
    rotate_left
    ·simp only [Act.put, List.setIfInBounds_toArray, List.set_cons_zero, List.set_cons_succ, i64_w, i32_w]
     rfl
    refine pure_ (i := 4) (N := some 12) (v := ?_) (a' := ?_) #[true, true, true, true, true, false, true, false, false, false, false, false, false, false] rfl rfl (any_of HT_.out Z4_15) (fun _ _ _ h => h) (Or.inl ⟨Z4_40, ?_⟩) ?_ ?_
    rotate_left
    ·intro w'
     go_simp
     with_reducible rfl
    rotate_left
    ·simp only [Act.put, List.setIfInBounds_toArray, List.set_cons_zero, List.set_cons_succ, i64_w, i32_w]
     rfl
    refine take_ (i := 7) (N := some 15) (v := ?_) (a' := ?_) #[true, true, true, true, true, false, true, true, false, false, false, false, false, false] rfl rfl (take_ofW HT_.out HW_.out Z4_15) (fun _ _ _ h => h) (Or.inl ⟨Z4_40, ?_⟩) hHeld ?_ ?_
    rotate_left
    ·rintro w' ⟨s0, s1, s2, s3, s4, s5, s6, s7⟩
     go_simp
     with_reducible rfl
    rotate_left
    ·simp only [Act.put, List.setIfInBounds_toArray, List.set_cons_zero, List.set_cons_succ, i64_w, i32_w]
     rfl
    refine one_ (i := 5) (N := some 13) #[true, true, true, true, true, true, true, true, false, false, false, false, false, false] rfl rfl (one_of HT_.out Z4_15) Z4_25 (fun K hK => ?_)
    refine Kd.R_lit_step (Kd.int .u8) _ 5 ?hg (N := 13) ?hd (xs := ([] : List Int)) (inner := []) (ok := fun _ => True) (okp := fun _ => True) ?hr ?hp (fun _ hk => hk) trivial (Below.refl _ _) (Nat.le_refl _) (by simp) ?_; (case hd => rfl); (case hg => rfl); (case hr => exact Z4_17); (case hp => exact (Reps.none _ _))
    intro v139 w137 ho138 hb hg_ hnew_
    clear hg_ hnew_
    (first | rw [← Ny138.out] at ho138 | (simp only [Int.reduceToNat] at ho138; rw [← Ny138.out] at ho138))
    have n0_ := Aside0.mk (Kd.R_lower ho138 (below_size Z4_1))
    have n1_ := Aside0.mk (blk_below (g := gb135) (o := .cells #[.int .i64 a0_0, .int .i64 a0_1, .slice A0_2 l0_2.length c0_2, .slice A0_3 l0_3.length c0_3, .int .i64 a0_4, .slice A0_5 l0_5.length c0_5] 51 (0, 0)) Z4_2 hb)
    have n2_ := Aside0.mk (blk_below (g := gb136) (o := .cells #[.int .i64 0, .slice none 0 0] 29 (0, 0)) Z4_3 hb)
    have n3_ := Aside0.mk (blk_below (g := gb137) (o := .cells #[.int .i64 a0_4, .slice none 0 0] 29 (0, 0)) Z4_6 hb)
    have n4_ := Aside0.mk (below_step Z4_1 hb)
    clear BK135
    clear BK136
    clear BK137
    clear HB
    have HO140 := n0_
    have BK135 := n1_
    have BK136 := n2_
    have BK137 := n3_
    have HB := n4_
    clear n0_ n1_ n2_ n3_ n4_
    clear hb ho138
    refine hK.out _ _ ⟨(blk_cell BK137.out 0).trans rfl, (blk_cell BK137.out 1).trans rfl, (blk_cell BK135.out 0).trans rfl, (blk_cell BK135.out 1).trans rfl, (blk_cell BK135.out 2).trans rfl, (blk_cell BK135.out 3).trans rfl, (blk_cell BK135.out 4).trans rfl, (blk_cell BK135.out 5).trans rfl⟩ (fun hHeld => ?_)
    clear hK K
    refine norm_ (a' := ?_) ?_ ?_
    rotate_left
    ·show Act.put _ (some 13) _ = _
     simp only [Act.put, List.setIfInBounds_toArray, List.set_cons_zero, List.set_cons_succ, i64_w, i32_w]
     rfl
    refine one_ (i := 8) (N := some 16) #[true, true, true, true, true, true, true, true, true, false, false, false, false, false] rfl rfl (one_of HT_.out Z4_15) Z4_25 (fun K hK => ?_)
    refine Kd.R_append_rows_step (Kd.int .u8) (w0 := w) w.heap.size Z4_40 (.tmp 13) (.tmp 15) 33 5 (.int .u8 0) 1 rfl Try.underlying33 info5 rfl Z4_25 (by omega) v139 y138 l0_2 _ _ _ (fun _ => True) (fun _ => False) rfl rfl ?aO ?aR (fun _ _ h => h) (fun _ h => h.elim) ?aF ?aB ?aS ?aL ?_
    (case aR => exact Z4_18)
    (case aB => exact Z4_1)
    (case aF => exact (fun _ _ => trivial))
    (case aO => exact Z4_23)
    (case aS => exact (below_size Z4_1))
    (case aL => have := LMc2.out; omega)
    intro v142 w139 ho hb hg hat
    rw [← Ny141.out] at ho
    have n0_ := Aside0.mk (blk_grown (g := gb135) (o := .cells #[.int .i64 a0_0, .int .i64 a0_1, .slice A0_2 l0_2.length c0_2, .slice A0_3 l0_3.length c0_3, .int .i64 a0_4, .slice A0_5 l0_5.length c0_5] 51 (0, 0)) Z4_2 hg (Kd.R_ne HO140.out BK135.out Z4_25))
    have n1_ := Aside0.mk (blk_grown (g := gb136) (o := .cells #[.int .i64 0, .slice none 0 0] 29 (0, 0)) Z4_3 hg (Kd.R_ne HO140.out BK136.out Z4_25))
    have n2_ := Aside0.mk (blk_grown (g := gb137) (o := .cells #[.int .i64 a0_4, .slice none 0 0] 29 (0, 0)) Z4_6 hg (Kd.R_ne HO140.out BK137.out Z4_25))
    have n3_ := Aside0.mk (hb)
    have n4_ := Aside0.mk (ho)
    clear BK135
    clear BK136
    clear BK137
    clear HB
    clear HO140
    have BK135 := n0_
    have BK136 := n1_
    have BK137 := n2_
    have HB := n3_
    have HO143 := n4_
    clear n0_ n1_ n2_ n3_ n4_
    clear ho hb hg hat
    obtain ⟨Ao140, co140, eo140⟩ := Kd.R_slice HO143.out
    (first | subst eo140 | (injection eo140 with f1_ f2_ f3_; have f4_ := f1_.symm; have f5_ := f3_.symm; clear f1_ f2_ f3_; subst f4_; subst f5_))
    refine hK.out _ _ ⟨(blk_cell BK137.out 0).trans rfl, (blk_cell BK137.out 1).trans rfl, (blk_cell BK135.out 0).trans rfl, (blk_cell BK135.out 1).trans rfl, (blk_cell BK135.out 2).trans rfl, (blk_cell BK135.out 3).trans rfl, (blk_cell BK135.out 4).trans rfl, (blk_cell BK135.out 5).trans rfl⟩ (fun hHeld => ?_)
    clear hK K
    refine norm_ (a' := ?_) ?_ ?_
    rotate_left
    ·show Act.put _ (some 16) _ = _
     simp only [Act.put, List.setIfInBounds_toArray, List.set_cons_zero, List.set_cons_succ, i64_w, i32_w]
     rfl
    refine pure_ (i := 9) (N := some 17) (v := ?_) (a' := ?_) #[true, true, true, true, true, true, true, true, true, true, false, false, false, false] rfl rfl (any_of HT_.out Z4_15) (fun _ _ _ h => h) (Or.inl ⟨Z4_40, ?_⟩) ?_ ?_
    rotate_left
    ·intro w'
     go_simp
     with_reducible rfl
    rotate_left
    ·simp only [Act.put, List.setIfInBounds_toArray, List.set_cons_zero, List.set_cons_succ, i64_w, i32_w]
     rfl
    refine one_ (i := 10) (N := some 18) #[true, true, true, true, true, true, true, true, true, true, true, false, false, false] rfl rfl (one_of HT_.out Z4_15) Z4_25 (fun K hK => ?_)
    refine value_ (w1 := ?_) (v := ?_) Z4_40 rfl ?_ ?_
    rotate_left 2
    ·go_simp
     constructor
     ·rfl
     rfl
    refine hK.out _ _ ⟨(blk_cell (blk_alloc BK137.out _) 0).trans rfl, (blk_cell (blk_alloc BK137.out _) 1).trans rfl, (blk_cell (blk_alloc BK135.out _) 0).trans rfl, (blk_cell (blk_alloc BK135.out _) 1).trans rfl, (blk_cell (blk_alloc BK135.out _) 2).trans rfl, (blk_cell (blk_alloc BK135.out _) 3).trans rfl, (blk_cell (blk_alloc BK135.out _) 4).trans rfl, (blk_cell (blk_alloc BK135.out _) 5).trans rfl⟩ (fun hHeld => ?_)
    clear hK K
    refine norm_ (a' := ?_) ?_ ?_
    rotate_left
    ·show Act.put _ (some 18) _ = _
     simp only [Act.put, List.setIfInBounds_toArray, List.set_cons_zero, List.set_cons_succ, i64_w, i32_w]
     rfl
    refine one_ (i := 11) (N := some 19) #[true, true, true, true, true, true, true, true, true, true, true, true, false, false] rfl rfl (one_of HT_.out Z4_15) Z4_25 (fun K hK => ?_)
    refine Kd.S_append_step k58 (w0 := w) w.heap.size Z4_40 (.tmp 9) (.tmp 18) 27 58 (.agg #[(.int .i64 0), (.int .i64 0), (.int .i64 0), (.slice none 0 0)]) 48 rfl Try.underlying27 info58 rfl Z4_25 (by omega) (.slice none 0 0) ([] : List (S58)) (⟨4096, 5, (l0_2.length : Int), y141⟩ : S58) [.int .i64 4096, .int .i64 5, .int .i64 (l0_2.length : Int), .slice Ao140 y141.length co140] (fun _ => True) (fun k_ => some k_ = (.slice Ao140 y141.length co140 : Value).ownBlock) rfl rfl ?aP (fun k_ hk_ => ((Kd.R_mono (ok' := fun k_ => ((fun _ => True)) k_ ∧ some k_ ≠ (.slice none 0 0 : Value).ownBlock) (HO143.out) (fun k_ hk => ⟨trivial, Z4_19⟩))).1 k_ hk_.symm) ?aF ?aO ?aB ?aS ?aL ?_
    (case aP => exact k58_mkM _ _ _ (⟨4096, 5, (l0_2.length : Int), y141⟩ : S58) (Kd.R_mono (Kd.R_tight rfl (Kd.R_mono (ok' := fun k_ => ((fun _ => True)) k_ ∧ some k_ ≠ (.slice none 0 0 : Value).ownBlock) (HO143.out) (fun k_ hk => ⟨trivial, Z4_19⟩))) (fun _ h_ => h_)))
    (case aB => exact Z4_1)
    (case aF => exact (fun _ _ => trivial))
    (case aO => exact ((Kd.S_nil _ _ _ _ _)))
    (case aS => exact (below_size Z4_1))
    (case aL => have := LMc3.out; omega)
    intro v145 w141 ho hb hg hat
    rw [← Ny144.out] at ho
    have n0_ := Aside0.mk (blk_grown (g := gb135) (o := .cells #[.int .i64 a0_0, .int .i64 a0_1, .slice A0_2 l0_2.length c0_2, .slice A0_3 l0_3.length c0_3, .int .i64 a0_4, .slice A0_5 l0_5.length c0_5] 51 (0, 0)) Z4_2 hg Z4_19)
    have n1_ := Aside0.mk (blk_grown (g := gb136) (o := .cells #[.int .i64 0, .slice none 0 0] 29 (0, 0)) Z4_3 hg Z4_19)
    have n2_ := Aside0.mk (blk_grown (g := gb137) (o := .cells #[.int .i64 a0_4, .slice none 0 0] 29 (0, 0)) Z4_6 hg Z4_19)
    have n3_ := Aside0.mk (hb)
    have n4_ := Aside0.mk (ho)
    clear BK135
    clear BK136
    clear BK137
    clear HB
    clear HO143
    have BK135 := n0_
    have BK136 := n1_
    have BK137 := n2_
    have HB := n3_
    have HO146 := n4_
    clear n0_ n1_ n2_ n3_ n4_
    clear ho hb hg hat
    obtain ⟨Ao142, co142, eo142⟩ := Kd.S_slice HO146.out
    (first | subst eo142 | (injection eo142 with f1_ f2_ f3_; have f4_ := f1_.symm; have f5_ := f3_.symm; clear f1_ f2_ f3_; subst f4_; subst f5_))
    refine hK.out _ _ ⟨(blk_cell BK137.out 0).trans rfl, (blk_cell BK137.out 1).trans rfl, (blk_cell BK135.out 0).trans rfl, (blk_cell BK135.out 1).trans rfl, (blk_cell BK135.out 2).trans rfl, (blk_cell BK135.out 3).trans rfl, (blk_cell BK135.out 4).trans rfl, (blk_cell BK135.out 5).trans rfl⟩ (fun hHeld => ?_)
    clear hK K
    refine norm_ (a' := ?_) ?_ ?_
    rotate_left
    ·show Act.put _ (some 19) _ = _
     simp only [Act.put, List.setIfInBounds_toArray, List.set_cons_zero, List.set_cons_succ, i64_w, i32_w]
     rfl
    refine pure_ (i := 12) (N := some 20) (v := ?_) (a' := ?_) #[true, true, true, true, true, true, true, true, true, true, true, true, true, false] rfl rfl (any_of HT_.out Z4_15) (fun _ _ _ h => h) (Or.inl ⟨Z4_40, ?_⟩) ?_ ?_
    rotate_left
    ·intro w'
     go_simp
     with_reducible rfl
    rotate_left
    ·simp only [Act.put, List.setIfInBounds_toArray, List.set_cons_zero, List.set_cons_succ, i64_w, i32_w]
     rfl
    refine last_ (i := 13) (N := none) #[true, true, true, true, true, true, true, true, true, true, true, true, true, true] rfl rfl (one_of HT_.out Z4_15) Z4_25 (fun K hK => ?_)
    have hs143 : w141.cell? ⟨gb137, 1, none⟩ = some (.slice none 0 0) := (blk_cell BK137.out 1).trans rfl
    have hfs143 := blk_frozen BK137.out 1
    have hns143_0 := NB135_137.out
    have hns143_1 := NB136_137.out
    have hms143_0 := NB137_135.out
    have hms143_1 := NB137_136.out
    refine skip_ (w1 := ?_) Z4_40 rfl ?_ ?_
    rotate_left
    ·go_simp
     rfl
    refine hK.out _ _ ?_
    clear hK K
    refine done_ (done_of HT_.out Z4_15) ?_
    have hcz144_0 : w141.cell? ⟨gb135, 0, none⟩ = some (.int .i64 a0_0) := (blk_cell BK135.out 0).trans rfl
    have hcz144_1 : w141.cell? ⟨gb135, 1, none⟩ = some (.int .i64 a0_1) := (blk_cell BK135.out 1).trans rfl
    have hcz144_2 : w141.cell? ⟨gb135, 2, none⟩ = some (.slice A0_2 l0_2.length c0_2) := (blk_cell BK135.out 2).trans rfl
    have hcz144_3 : w141.cell? ⟨gb135, 3, none⟩ = some (.slice A0_3 l0_3.length c0_3) := (blk_cell BK135.out 3).trans rfl
    have hcz144_4 : w141.cell? ⟨gb135, 4, none⟩ = some (.int .i64 a0_4) := (blk_cell BK135.out 4).trans rfl
    have hcz144_5 : w141.cell? ⟨gb135, 5, none⟩ = some (.slice A0_5 l0_5.length c0_5) := (blk_cell BK135.out 5).trans rfl
    have hfz144_0 := blk_frozen BK135.out 0
    have hfz144_1 := blk_frozen BK135.out 1
    have hfz144_2 := blk_frozen BK135.out 2
    have hfz144_3 := blk_frozen BK135.out 3
    have hfz144_4 := blk_frozen BK135.out 4
    have hfz144_5 := blk_frozen BK135.out 5
    have hcz145_0 : w141.cell? ⟨gb137, 0, none⟩ = some (.int .i64 a0_4) := (blk_cell BK137.out 0).trans rfl
    have hcz145_1 : w141.cell? ⟨gb137, 1, none⟩ = some (.slice none 0 0) := (blk_cell BK137.out 1).trans rfl
    have hfz145_0 := blk_frozen BK137.out 0
    have hfz145_1 := blk_frozen BK137.out 1
    try go_wp2_with (first | (go_at_call 8; (with_reducible refine (spec_ImageOk.calls k a0_4 _ _ y144 false _ ?side1 ?side2 A103.out).mono ?_); (case side1 => refine (Kd.S_reads' (e := 58) (base := w.heap.size) (ok := fun k_ => True) (n := y144.length) (c := co142) ?_).2.2; exact Z4_36); (case side2 => exact (Kd.S_reads' HO146.out).2.1); rintro e w146 ⟨rfl, hb⟩; have n0_ := Aside0.mk (Kd.S_below Z4_36 hb); have n1_ := Aside0.mk (blk_below (g := gb135) (o := .cells #[.int .i64 a0_0, .int .i64 a0_1, .slice A0_2 l0_2.length c0_2, .slice A0_3 l0_3.length c0_3, .int .i64 a0_4, .slice A0_5 l0_5.length c0_5] 51 (0, 0)) Z4_13 hb); have n2_ := Aside0.mk (blk_below (g := gb136) (o := .cells #[.int .i64 0, .slice none 0 0] 29 (0, 0)) Z4_14 hb); have n3_ := Aside0.mk (blk_below (g := gb137) (o := .cells #[.int .i64 a0_4, .slice Ao142 y144.length co142] 29 (0, 0)) Z4_16 hb); have n4_ := Aside0.mk (below_step Z4_1 hb); clear HO146; clear BK135; clear BK136; clear BK137; clear HB; have HO146 := n0_; have BK135 := n1_; have BK136 := n2_; have BK137 := n3_; have HB := n4_; clear n0_ n1_ n2_ n3_ n4_; (try clear hb); (try clear hb2); (try clear hk); (try clear hi); have hcz147_0 : w146.cell? ⟨gb136, 0, none⟩ = some (.int .i64 0) := (blk_cell BK136.out 0).trans rfl; have hcz147_1 : w146.cell? ⟨gb136, 1, none⟩ = some (.slice none 0 0) := (blk_cell BK136.out 1).trans rfl; have hfz147_0 := blk_frozen BK136.out 0; have hfz147_1 := blk_frozen BK136.out 1))
    refine bodyPost_ret (results_ct rfl _ _ gb136 29 #[.int .i64 0, .slice none 0 0] (0, 0) _ rfl Z4_29 Try.underlying29 rfl Z4_15) rfl ?_
    exact ⟨_, Z4_26, Z4_27, Z4_1⟩
   rw [if_neg c102] at H
   have c102b0 : (a0_0 == 0) = false := beq_eq_false_iff_ne.mpr c102
   have c102b1 : (a0_0 != 0) = true := bne_iff_ne.mpr c102
   simp only [Option.some.injEq, Prod.mk.injEq] at H
   obtain ⟨rfl, rfl, rfl⟩ := H
   go_enter Try.func23, Try.ntmps23
   try go_wp2_with (first | ((with_reducible refine gate_dst (N := 1) rfl ?_); refine box_event ?hg (N := 1) ?hd (cs := #[.int .i64 a0_0, .int .i64 a0_1, .slice A0_2 l0_2.length c0_2, .slice A0_3 l0_3.length c0_3, .int .i64 a0_4, .slice A0_5 l0_5.length c0_5]) (t := 51) ?hr ?_; (case hd => rfl); (case hg => rfl); (case hr => exact Z4_17); intro gb135 hg w148 hbox hb; have n0_ := Aside0.mk (below_step Z4_9 hb); have n1_ := Aside0.mk (hbox); have n2_ := Aside0.mk ((Z4_31 : w.heap.size ≤ gb135)); have n3_ := Aside0.mk ((Z4_31 : w.heap.size ≤ gb135)); clear HB; have HB := n0_; have BK135 := n1_; have GW135 := n2_; have GE135 := n3_; clear n0_ n1_ n2_ n3_; clear hb hbox hg) | ((with_reducible refine gate_dst (N := 2) rfl ?_); refine box_event ?hg (N := 2) ?hd (cs := #[.int .i64 0, .slice none 0 0]) (t := 29) ?hr ?_; (case hd => rfl); (case hg => rfl); (case hr => exact Z4_17); intro gb136 hg w149 hbox hb; have n0_ := Aside0.mk (blk_below (g := gb135) (o := .cells #[.int .i64 a0_0, .int .i64 a0_1, .slice A0_2 l0_2.length c0_2, .slice A0_3 l0_3.length c0_3, .int .i64 a0_4, .slice A0_5 l0_5.length c0_5] 51 (0, 0)) Z4_2 hb); have n1_ := Aside0.mk (below_step Z4_5 hb); have n2_ := Aside0.mk (hbox); have n3_ := Aside0.mk ((Z4_32 : w.heap.size ≤ gb136)); have n4_ := Aside0.mk ((Z4_32 : w.heap.size ≤ gb136)); have n5_ := Aside0.mk ((Z4_7 : gb135 ≠ gb136)); have n6_ := Aside0.mk ((Z4_8 : gb136 ≠ gb135)); clear BK135; clear HB; have BK135 := n0_; have HB := n1_; have BK136 := n2_; have GW136 := n3_; have GE136 := n4_; have NB135_136 := n5_; have NB136_135 := n6_; clear n0_ n1_ n2_ n3_ n4_ n5_ n6_; clear hb hbox hg; have hnb150 := NB135_136.out; have hnc150 := NB136_135.out; have hcz151_0 : w149.cell? ⟨gb135, 0, none⟩ = some (.int .i64 a0_0) := (blk_cell BK135.out 0).trans rfl; have hcz151_1 : w149.cell? ⟨gb135, 1, none⟩ = some (.int .i64 a0_1) := (blk_cell BK135.out 1).trans rfl; have hcz151_2 : w149.cell? ⟨gb135, 2, none⟩ = some (.slice A0_2 l0_2.length c0_2) := (blk_cell BK135.out 2).trans rfl; have hcz151_3 : w149.cell? ⟨gb135, 3, none⟩ = some (.slice A0_3 l0_3.length c0_3) := (blk_cell BK135.out 3).trans rfl; have hcz151_4 : w149.cell? ⟨gb135, 4, none⟩ = some (.int .i64 a0_4) := (blk_cell BK135.out 4).trans rfl; have hcz151_5 : w149.cell? ⟨gb135, 5, none⟩ = some (.slice A0_5 l0_5.length c0_5) := (blk_cell BK135.out 5).trans rfl; have hfz151_0 := blk_frozen BK135.out 0; have hfz151_1 := blk_frozen BK135.out 1; have hfz151_2 := blk_frozen BK135.out 2; have hfz151_3 := blk_frozen BK135.out 3; have hfz151_4 := blk_frozen BK135.out 4; have hfz151_5 := blk_frozen BK135.out 5) | ((with_reducible refine gate_dst (N := 4) rfl ?_); refine box_event ?hg (N := 4) ?hd (cs := #[.int .i64 0, .slice none 0 0]) (t := 29) ?hr ?_; (case hd => rfl); (case hg => rfl); (case hr => exact Z4_17); intro gb137 hg w152 hbox hb; have n0_ := Aside0.mk (blk_below (g := gb135) (o := .cells #[.int .i64 a0_0, .int .i64 a0_1, .slice A0_2 l0_2.length c0_2, .slice A0_3 l0_3.length c0_3, .int .i64 a0_4, .slice A0_5 l0_5.length c0_5] 51 (0, 0)) Z4_2 hb); have n1_ := Aside0.mk (blk_below (g := gb136) (o := .cells #[.int .i64 0, .slice none 0 0] 29 (0, 0)) Z4_3 hb); have n2_ := Aside0.mk (below_step Z4_4 hb); have n3_ := Aside0.mk (hbox); have n4_ := Aside0.mk ((Z4_33 : w.heap.size ≤ gb137)); have n5_ := Aside0.mk ((Z4_33 : w.heap.size ≤ gb137)); have n6_ := Aside0.mk ((Z4_7 : gb135 ≠ gb137)); have n7_ := Aside0.mk ((Z4_8 : gb137 ≠ gb135)); have n8_ := Aside0.mk ((Z4_20 : gb136 ≠ gb137)); have n9_ := Aside0.mk ((Z4_21 : gb137 ≠ gb136)); clear BK135; clear BK136; clear HB; have BK135 := n0_; have BK136 := n1_; have HB := n2_; have BK137 := n3_; have GW137 := n4_; have GE137 := n5_; have NB135_137 := n6_; have NB137_135 := n7_; have NB136_137 := n8_; have NB137_136 := n9_; clear n0_ n1_ n2_ n3_ n4_ n5_ n6_ n7_ n8_ n9_; clear hb hbox hg; have hnb153 := NB137_135.out; have hnc153 := NB135_137.out; have hnb154 := NB137_136.out; have hnc154 := NB136_137.out; have hcz155_0 : w152.cell? ⟨gb137, 0, none⟩ = some (.int .i64 0) := (blk_cell BK137.out 0).trans rfl; have hcz155_1 : w152.cell? ⟨gb137, 1, none⟩ = some (.slice none 0 0) := (blk_cell BK137.out 1).trans rfl; have hfz155_0 := blk_frozen BK137.out 0; have hfz155_1 := blk_frozen BK137.out 1))
   have n0_ : Aside0 (((w152.setCell ⟨gb137, 0, none⟩ (.int .i64 a0_4)).setCell ⟨gb137, 1, none⟩ (.slice none 0 0)).heap[gb135]? = some (.cells #[.int .i64 a0_0, .int .i64 a0_1, .slice A0_2 l0_2.length c0_2, .slice A0_3 l0_3.length c0_3, .int .i64 a0_4, .slice A0_5 l0_5.length c0_5] 51 (0, 0))) := ⟨Z4_11⟩
   have n1_ : Aside0 (((w152.setCell ⟨gb137, 0, none⟩ (.int .i64 a0_4)).setCell ⟨gb137, 1, none⟩ (.slice none 0 0)).heap[gb136]? = some (.cells #[.int .i64 0, .slice none 0 0] 29 (0, 0))) := ⟨Z4_12⟩
   have n2_ : Aside0 (((w152.setCell ⟨gb137, 0, none⟩ (.int .i64 a0_4)).setCell ⟨gb137, 1, none⟩ (.slice none 0 0)).heap[gb137]? = some (.cells #[.int .i64 a0_4, .slice none 0 0] 29 (0, 0))) := ⟨Z4_10⟩
   have n3_ : Aside0 (Below w.heap.size w ((w152.setCell ⟨gb137, 0, none⟩ (.int .i64 a0_4)).setCell ⟨gb137, 1, none⟩ (.slice none 0 0))) := ⟨Z4_1⟩
   (try clear BK135)
   (try clear BK136)
   (try clear BK137)
   (try clear HB)
   generalize ((w152.setCell ⟨gb137, 0, none⟩ (.int .i64 a0_4)).setCell ⟨gb137, 1, none⟩ (.slice none 0 0)) = w156 at n0_ n1_ n2_ n3_ ⊢
   have BK135 := n0_
   have BK136 := n1_
   have BK137 := n2_
   have HB := n3_
   clear n0_ n1_ n2_ n3_
   have n0_ := Aside0.mk (blk_drew BK135.out)
   have n1_ := Aside0.mk (blk_drew BK136.out)
   have n2_ := Aside0.mk (blk_drew BK137.out)
   have n3_ := Aside0.mk (below_drew1 HB.out)
   clear BK135
   clear BK136
   clear BK137
   clear HB
   have BK135 := n0_
   have BK136 := n1_
   have BK137 := n2_
   have HB := n3_
   clear n0_ n1_ n2_ n3_
   refine start_ (n := 14) (S := fun w' => w'.cell? ⟨gb137, 0, none⟩ = some (.int .i64 a0_4) ∧ w'.cell? ⟨gb137, 1, none⟩ = some (.slice none 0 0) ∧ w'.cell? ⟨gb135, 0, none⟩ = some (.int .i64 a0_0) ∧ w'.cell? ⟨gb135, 1, none⟩ = some (.int .i64 a0_1) ∧ w'.cell? ⟨gb135, 2, none⟩ = some (.slice A0_2 l0_2.length c0_2) ∧ w'.cell? ⟨gb135, 3, none⟩ = some (.slice A0_3 l0_3.length c0_3) ∧ w'.cell? ⟨gb135, 4, none⟩ = some (.int .i64 a0_4) ∧ w'.cell? ⟨gb135, 5, none⟩ = some (.slice A0_5 l0_5.length c0_5)) (ds := [13]) #[false, false, false, false, false, false, false, false, false, false, false, false, false, false] Z4_15 rfl rfl ⟨(blk_cell BK137.out 0).trans rfl, (blk_cell BK137.out 1).trans rfl, (blk_cell BK135.out 0).trans rfl, (blk_cell BK135.out 1).trans rfl, (blk_cell BK135.out 2).trans rfl, (blk_cell BK135.out 3).trans rfl, (blk_cell BK135.out 4).trans rfl, (blk_cell BK135.out 5).trans rfl⟩ (fun hHeld => ?_); refine with_tabW spec_Link.tab2 spec_Link.bits2 (fun HT_ HW_ => ?_)
   generalize w156.drew = w157 at BK135 BK136 BK137 HB hHeld ⊢
   refine pure_ (i := 0) (N := some 8) (v := ?_) (a' := ?_) #[true, false, false, false, false, false, false, false, false, false, false, false, false, false] rfl rfl (any_of HT_.out Z4_15) (fun _ _ _ h => h) (Or.inl ⟨Z4_40, ?_⟩) ?_ ?_
   rotate_left
   ·intro w'
    go_simp
    with_reducible rfl
   rotate_left
   ·simp only [Act.put, List.setIfInBounds_toArray, List.set_cons_zero, List.set_cons_succ, i64_w, i32_w]
    rfl
   refine pure_ (i := 2) (N := some 10) (v := ?_) (a' := ?_) #[true, false, true, false, false, false, false, false, false, false, false, false, false, false] rfl rfl (any_of HT_.out Z4_15) (fun _ _ _ h => h) (Or.inl ⟨Z4_40, ?_⟩) ?_ ?_
   rotate_left
   ·intro w'
    go_simp
    with_reducible rfl
   rotate_left
   ·simp only [Act.put, List.setIfInBounds_toArray, List.set_cons_zero, List.set_cons_succ, i64_w, i32_w]
    rfl
   refine pure_ (i := 6) (N := some 14) (v := ?_) (a' := ?_) #[true, false, true, false, false, false, true, false, false, false, false, false, false, false] rfl rfl (any_of HT_.out Z4_15) (fun _ _ _ h => h) (Or.inl ⟨Z4_40, ?_⟩) ?_ ?_
   rotate_left
   ·intro w'
    go_simp
    with_reducible rfl
   rotate_left
   ·simp only [Act.put, List.setIfInBounds_toArray, List.set_cons_zero, List.set_cons_succ, i64_w, i32_w]
    rfl
   refine take_ (i := 1) (N := some 9) (v := ?_) (a' := ?_) #[true, true, true, false, false, false, true, false, false, false, false, false, false, false] rfl rfl (take_ofW HT_.out HW_.out Z4_15) (fun _ _ _ h => h) (Or.inl ⟨Z4_40, ?_⟩) hHeld ?_ ?_
   rotate_left
   ·rintro w' ⟨s0, s1, s2, s3, s4, s5, s6, s7⟩
    go_simp
    with_reducible rfl
   rotate_left
   ·simp only [Act.put, List.setIfInBounds_toArray, List.set_cons_zero, List.set_cons_succ, i64_w, i32_w]
    rfl
   refine take_ (i := 3) (N := some 11) (v := ?_) (a' := ?_) #[true, true, true, true, false, false, true, false, false, false, false, false, false, false] rfl rfl (take_ofW HT_.out HW_.out Z4_15) (fun _ _ _ h => h) (Or.inl ⟨Z4_40, ?_⟩) hHeld ?_ ?_
   rotate_left
   ·rintro w' ⟨s0, s1, s2, s3, s4, s5, s6, s7⟩
    go_simp
    with_reducible rfl
   rotate_left
   ·simp only [Act.put, List.setIfInBounds_toArray, List.set_cons_zero, List.set_cons_succ, i64_w, i32_w]
    rfl
   refine pure_ (i := 4) (N := some 12) (v := ?_) (a' := ?_) #[true, true, true, true, true, false, true, false, false, false, false, false, false, false] rfl rfl (any_of HT_.out Z4_15) (fun _ _ _ h => h) (Or.inl ⟨Z4_40, ?_⟩) ?_ ?_
   rotate_left
   ·intro w'
    go_simp
    with_reducible rfl
   rotate_left
   ·simp only [Act.put, List.setIfInBounds_toArray, List.set_cons_zero, List.set_cons_succ, i64_w, i32_w]
    rfl
   refine take_ (i := 7) (N := some 15) (v := ?_) (a' := ?_) #[true, true, true, true, true, false, true, true, false, false, false, false, false, false] rfl rfl (take_ofW HT_.out HW_.out Z4_15) (fun _ _ _ h => h) (Or.inl ⟨Z4_40, ?_⟩) hHeld ?_ ?_
   rotate_left
   ·rintro w' ⟨s0, s1, s2, s3, s4, s5, s6, s7⟩
    go_simp
    with_reducible rfl
   rotate_left
   ·simp only [Act.put, List.setIfInBounds_toArray, List.set_cons_zero, List.set_cons_succ, i64_w, i32_w]
    rfl
   refine one_ (i := 5) (N := some 13) #[true, true, true, true, true, true, true, true, false, false, false, false, false, false] rfl rfl (one_of HT_.out Z4_15) Z4_25 (fun K hK => ?_)
   refine Kd.R_lit_step (Kd.int .u8) _ 5 ?hg (N := 13) ?hd (xs := ([] : List Int)) (inner := []) (ok := fun _ => True) (okp := fun _ => True) ?hr ?hp (fun _ hk => hk) trivial (Below.refl _ _) (Nat.le_refl _) (by simp) ?_; (case hd => rfl); (case hg => rfl); (case hr => exact Z4_17); (case hp => exact (Reps.none _ _))
   intro v139 w158 ho159 hb hg_ hnew_
   clear hg_ hnew_
   (first | rw [← Ny138.out] at ho159 | (simp only [Int.reduceToNat] at ho159; rw [← Ny138.out] at ho159))
   have n0_ := Aside0.mk (Kd.R_lower ho159 (below_size Z4_1))
   have n1_ := Aside0.mk (blk_below (g := gb135) (o := .cells #[.int .i64 a0_0, .int .i64 a0_1, .slice A0_2 l0_2.length c0_2, .slice A0_3 l0_3.length c0_3, .int .i64 a0_4, .slice A0_5 l0_5.length c0_5] 51 (0, 0)) Z4_2 hb)
   have n2_ := Aside0.mk (blk_below (g := gb136) (o := .cells #[.int .i64 0, .slice none 0 0] 29 (0, 0)) Z4_3 hb)
   have n3_ := Aside0.mk (blk_below (g := gb137) (o := .cells #[.int .i64 a0_4, .slice none 0 0] 29 (0, 0)) Z4_6 hb)
   have n4_ := Aside0.mk (below_step Z4_1 hb)
   clear BK135
   clear BK136
   clear BK137
   clear HB
   have HO140 := n0_
   have BK135 := n1_
   have BK136 := n2_
   have BK137 := n3_
   have HB := n4_
   clear n0_ n1_ n2_ n3_ n4_
   clear hb ho159
   refine hK.out _ _ ⟨(blk_cell BK137.out 0).trans rfl, (blk_cell BK137.out 1).trans rfl, (blk_cell BK135.out 0).trans rfl, (blk_cell BK135.out 1).trans rfl, (blk_cell BK135.out 2).trans rfl, (blk_cell BK135.out 3).trans rfl, (blk_cell BK135.out 4).trans rfl, (blk_cell BK135.out 5).trans rfl⟩ (fun hHeld => ?_)
   clear hK K
   refine norm_ (a' := ?_) ?_ ?_
   rotate_left
   ·show Act.put _ (some 13) _ = _
    simp only [Act.put, List.setIfInBounds_toArray, List.set_cons_zero, List.set_cons_succ, i64_w, i32_w]
    rfl
   refine one_ (i := 8) (N := some 16) #[true, true, true, true, true, true, true, true, true, false, false, false, false, false] rfl rfl (one_of HT_.out Z4_15) Z4_25 (fun K hK => ?_)
   refine Kd.R_append_rows_step (Kd.int .u8) (w0 := w) w.heap.size Z4_40 (.tmp 13) (.tmp 15) 33 5 (.int .u8 0) 1 rfl Try.underlying33 info5 rfl Z4_25 (by omega) v139 y138 l0_2 _ _ _ (fun _ => True) (fun _ => False) rfl rfl ?aO ?aR (fun _ _ h => h) (fun _ h => h.elim) ?aF ?aB ?aS ?aL ?_
   (case aR => exact Z4_18)
   (case aB => exact Z4_1)
   (case aF => exact (fun _ _ => trivial))
   (case aO => exact Z4_23)
   (case aS => exact (below_size Z4_1))
   (case aL => have := LMc2.out; omega)
   intro v142 w160 ho hb hg hat
   rw [← Ny141.out] at ho
   have n0_ := Aside0.mk (blk_grown (g := gb135) (o := .cells #[.int .i64 a0_0, .int .i64 a0_1, .slice A0_2 l0_2.length c0_2, .slice A0_3 l0_3.length c0_3, .int .i64 a0_4, .slice A0_5 l0_5.length c0_5] 51 (0, 0)) Z4_2 hg (Kd.R_ne HO140.out BK135.out Z4_25))
   have n1_ := Aside0.mk (blk_grown (g := gb136) (o := .cells #[.int .i64 0, .slice none 0 0] 29 (0, 0)) Z4_3 hg (Kd.R_ne HO140.out BK136.out Z4_25))
   have n2_ := Aside0.mk (blk_grown (g := gb137) (o := .cells #[.int .i64 a0_4, .slice none 0 0] 29 (0, 0)) Z4_6 hg (Kd.R_ne HO140.out BK137.out Z4_25))
   have n3_ := Aside0.mk (hb)
   have n4_ := Aside0.mk (ho)
   clear BK135
   clear BK136
   clear BK137
   clear HB
   clear HO140
   have BK135 := n0_
   have BK136 := n1_
   have BK137 := n2_
   have HB := n3_
   have HO143 := n4_
   clear n0_ n1_ n2_ n3_ n4_
   clear ho hb hg hat
   obtain ⟨Ao161, co161, eo161⟩ := Kd.R_slice HO143.out
   (first | subst eo161 | (injection eo161 with f1_ f2_ f3_; have f4_ := f1_.symm; have f5_ := f3_.symm; clear f1_ f2_ f3_; subst f4_; subst f5_))
   refine hK.out _ _ ⟨(blk_cell BK137.out 0).trans rfl, (blk_cell BK137.out 1).trans rfl, (blk_cell BK135.out 0).trans rfl, (blk_cell BK135.out 1).trans rfl, (blk_cell BK135.out 2).trans rfl, (blk_cell BK135.out 3).trans rfl, (blk_cell BK135.out 4).trans rfl, (blk_cell BK135.out 5).trans rfl⟩ (fun hHeld => ?_)
   clear hK K
   refine norm_ (a' := ?_) ?_ ?_
   rotate_left
   ·show Act.put _ (some 16) _ = _
    simp only [Act.put, List.setIfInBounds_toArray, List.set_cons_zero, List.set_cons_succ, i64_w, i32_w]
    rfl
   refine pure_ (i := 9) (N := some 17) (v := ?_) (a' := ?_) #[true, true, true, true, true, true, true, true, true, true, false, false, false, false] rfl rfl (any_of HT_.out Z4_15) (fun _ _ _ h => h) (Or.inl ⟨Z4_40, ?_⟩) ?_ ?_
   rotate_left
   ·intro w'
    go_simp
    with_reducible rfl
   rotate_left
   ·simp only [Act.put, List.setIfInBounds_toArray, List.set_cons_zero, List.set_cons_succ, i64_w, i32_w]
    rfl
   refine one_ (i := 10) (N := some 18) #[true, true, true, true, true, true, true, true, true, true, true, false, false, false] rfl rfl (one_of HT_.out Z4_15) Z4_25 (fun K hK => ?_)
   refine value_ (w1 := ?_) (v := ?_) Z4_40 rfl ?_ ?_
   rotate_left 2
   ·go_simp
    constructor
    ·rfl
    rfl
   refine hK.out _ _ ⟨(blk_cell (blk_alloc BK137.out _) 0).trans rfl, (blk_cell (blk_alloc BK137.out _) 1).trans rfl, (blk_cell (blk_alloc BK135.out _) 0).trans rfl, (blk_cell (blk_alloc BK135.out _) 1).trans rfl, (blk_cell (blk_alloc BK135.out _) 2).trans rfl, (blk_cell (blk_alloc BK135.out _) 3).trans rfl, (blk_cell (blk_alloc BK135.out _) 4).trans rfl, (blk_cell (blk_alloc BK135.out _) 5).trans rfl⟩ (fun hHeld => ?_)
   clear hK K
   refine norm_ (a' := ?_) ?_ ?_
   rotate_left
   ·show Act.put _ (some 18) _ = _
    simp only [Act.put, List.setIfInBounds_toArray, List.set_cons_zero, List.set_cons_succ, i64_w, i32_w]
    rfl
   refine one_ (i := 11) (N := some 19) #[true, true, true, true, true, true, true, true, true, true, true, true, false, false] rfl rfl (one_of HT_.out Z4_15) Z4_25 (fun K hK => ?_)
   refine Kd.S_append_step k58 (w0 := w) w.heap.size Z4_40 (.tmp 9) (.tmp 18) 27 58 (.agg #[(.int .i64 0), (.int .i64 0), (.int .i64 0), (.slice none 0 0)]) 48 rfl Try.underlying27 info58 rfl Z4_25 (by omega) (.slice none 0 0) ([] : List (S58)) (⟨4096, 5, (l0_2.length : Int), y141⟩ : S58) [.int .i64 4096, .int .i64 5, .int .i64 (l0_2.length : Int), .slice Ao161 y141.length co161] (fun _ => True) (fun k_ => some k_ = (.slice Ao161 y141.length co161 : Value).ownBlock) rfl rfl ?aP (fun k_ hk_ => ((Kd.R_mono (ok' := fun k_ => ((fun _ => True)) k_ ∧ some k_ ≠ (.slice none 0 0 : Value).ownBlock) (HO143.out) (fun k_ hk => ⟨trivial, Z4_19⟩))).1 k_ hk_.symm) ?aF ?aO ?aB ?aS ?aL ?_
   (case aP => exact k58_mkM _ _ _ (⟨4096, 5, (l0_2.length : Int), y141⟩ : S58) (Kd.R_mono (Kd.R_tight rfl (Kd.R_mono (ok' := fun k_ => ((fun _ => True)) k_ ∧ some k_ ≠ (.slice none 0 0 : Value).ownBlock) (HO143.out) (fun k_ hk => ⟨trivial, Z4_19⟩))) (fun _ h_ => h_)))
   (case aB => exact Z4_1)
   (case aF => exact (fun _ _ => trivial))
   (case aO => exact ((Kd.S_nil _ _ _ _ _)))
   (case aS => exact (below_size Z4_1))
   (case aL => have := LMc3.out; omega)
   intro v145 w162 ho hb hg hat
   rw [← Ny144.out] at ho
   have n0_ := Aside0.mk (blk_grown (g := gb135) (o := .cells #[.int .i64 a0_0, .int .i64 a0_1, .slice A0_2 l0_2.length c0_2, .slice A0_3 l0_3.length c0_3, .int .i64 a0_4, .slice A0_5 l0_5.length c0_5] 51 (0, 0)) Z4_2 hg Z4_19)
   have n1_ := Aside0.mk (blk_grown (g := gb136) (o := .cells #[.int .i64 0, .slice none 0 0] 29 (0, 0)) Z4_3 hg Z4_19)
   have n2_ := Aside0.mk (blk_grown (g := gb137) (o := .cells #[.int .i64 a0_4, .slice none 0 0] 29 (0, 0)) Z4_6 hg Z4_19)
   have n3_ := Aside0.mk (hb)
   have n4_ := Aside0.mk (ho)
   clear BK135
   clear BK136
   clear BK137
   clear HB
   clear HO143
   have BK135 := n0_
   have BK136 := n1_
   have BK137 := n2_
   have HB := n3_
   have HO146 := n4_
   clear n0_ n1_ n2_ n3_ n4_
   clear ho hb hg hat
   obtain ⟨Ao163, co163, eo163⟩ := Kd.S_slice HO146.out
   (first | subst eo163 | (injection eo163 with f1_ f2_ f3_; have f4_ := f1_.symm; have f5_ := f3_.symm; clear f1_ f2_ f3_; subst f4_; subst f5_))
   refine hK.out _ _ ⟨(blk_cell BK137.out 0).trans rfl, (blk_cell BK137.out 1).trans rfl, (blk_cell BK135.out 0).trans rfl, (blk_cell BK135.out 1).trans rfl, (blk_cell BK135.out 2).trans rfl, (blk_cell BK135.out 3).trans rfl, (blk_cell BK135.out 4).trans rfl, (blk_cell BK135.out 5).trans rfl⟩ (fun hHeld => ?_)
   clear hK K
   refine norm_ (a' := ?_) ?_ ?_
   rotate_left
   ·show Act.put _ (some 19) _ = _
    simp only [Act.put, List.setIfInBounds_toArray, List.set_cons_zero, List.set_cons_succ, i64_w, i32_w]
    rfl
   refine pure_ (i := 12) (N := some 20) (v := ?_) (a' := ?_) #[true, true, true, true, true, true, true, true, true, true, true, true, true, false] rfl rfl (any_of HT_.out Z4_15) (fun _ _ _ h => h) (Or.inl ⟨Z4_40, ?_⟩) ?_ ?_
   rotate_left
   ·intro w'
    go_simp
    with_reducible rfl
   rotate_left
   ·simp only [Act.put, List.setIfInBounds_toArray, List.set_cons_zero, List.set_cons_succ, i64_w, i32_w]
    rfl
   refine last_ (i := 13) (N := none) #[true, true, true, true, true, true, true, true, true, true, true, true, true, true] rfl rfl (one_of HT_.out Z4_15) Z4_25 (fun K hK => ?_)
   have hs164 : w162.cell? ⟨gb137, 1, none⟩ = some (.slice none 0 0) := (blk_cell BK137.out 1).trans rfl
   have hfs164 := blk_frozen BK137.out 1
   have hns164_0 := NB135_137.out
   have hns164_1 := NB136_137.out
   have hms164_0 := NB137_135.out
   have hms164_1 := NB137_136.out
   refine skip_ (w1 := ?_) Z4_40 rfl ?_ ?_
   rotate_left
   ·go_simp
    rfl
   refine hK.out _ _ ?_
   clear hK K
   refine done_ (done_of HT_.out Z4_15) ?_
   have hcz165_0 : w162.cell? ⟨gb135, 0, none⟩ = some (.int .i64 a0_0) := (blk_cell BK135.out 0).trans rfl
   have hcz165_1 : w162.cell? ⟨gb135, 1, none⟩ = some (.int .i64 a0_1) := (blk_cell BK135.out 1).trans rfl
   have hcz165_2 : w162.cell? ⟨gb135, 2, none⟩ = some (.slice A0_2 l0_2.length c0_2) := (blk_cell BK135.out 2).trans rfl
   have hcz165_3 : w162.cell? ⟨gb135, 3, none⟩ = some (.slice A0_3 l0_3.length c0_3) := (blk_cell BK135.out 3).trans rfl
   have hcz165_4 : w162.cell? ⟨gb135, 4, none⟩ = some (.int .i64 a0_4) := (blk_cell BK135.out 4).trans rfl
   have hcz165_5 : w162.cell? ⟨gb135, 5, none⟩ = some (.slice A0_5 l0_5.length c0_5) := (blk_cell BK135.out 5).trans rfl
   have hfz165_0 := blk_frozen BK135.out 0
   have hfz165_1 := blk_frozen BK135.out 1
   have hfz165_2 := blk_frozen BK135.out 2
   have hfz165_3 := blk_frozen BK135.out 3
   have hfz165_4 := blk_frozen BK135.out 4
   have hfz165_5 := blk_frozen BK135.out 5
   have hcz166_0 : w162.cell? ⟨gb136, 0, none⟩ = some (.int .i64 0) := (blk_cell BK136.out 0).trans rfl
   have hcz166_1 : w162.cell? ⟨gb136, 1, none⟩ = some (.slice none 0 0) := (blk_cell BK136.out 1).trans rfl
   have hfz166_0 := blk_frozen BK136.out 0
   have hfz166_1 := blk_frozen BK136.out 1
   try go_wp2
   refine bodyPost_ret (results_ct rfl _ _ gb136 29 #[.int .i64 0, .slice none 0 0] (0, 0) _ rfl Z4_22 Try.underlying29 rfl Z4_15) rfl ?_
   exact ⟨_, Z4_26, Z4_27, Z4_1⟩
  rw [if_neg c3] at H
  exact absurd H (by simp)
 rw [if_neg c2] at H
 exact absurd H (by simp)
end Go.Proofs.Ytokiliilbopgkaa.PFnExactLink
