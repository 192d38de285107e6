-- Written by a program of this session out of the translation. Not trusted: Lean checks it.
import Derived.Test.YtokiliilbopgkaaPFnExactLinkx0
import Derived.Test.YtokiliilbopgkaaPFnExactLinkx6
namespace Go.Proofs.Ytokiliilbopgkaa.PFnExactLink
open Go.RowKit Go.Proofs.YtokiliilbopgkaaW.PrintWords Go.Proofs.YtokiliilbopgkaaW.PrintLast Go.Proofs.YtokiliilbopgkaaW.PrintMore
attribute [local go_sem] max2_int min2_int max_two min_two max_three min_three max_four min_four   -- for this text's walks alone
set_option linter.unusedVariables false
set_option linter.unusedSimpArgs false
theorem Z7_39 {P : Prop} (h : P := by (with_reducible repeat (first | apply Kd.S_alloc | apply Kd.S_drewN | apply Kd.S_drew)); exact Kd.S_mono HO201.out (fun k_ hk => ⟨trivial, fun e_ => hk.2 e_⟩)) : P := h
theorem Z7_38 {P : Prop} (h : P := by repeat (first | exact (Kd.C_below HR0_3.out HB.out) | (with_reducible refine Kd.C_alloc ?_ _) | (with_reducible refine Kd.C_drewN ?_ _) | (with_reducible refine Kd.C_drew ?_))) : P := h
theorem Z7_37 {P : Prop} (h : P := by (with_reducible repeat (first | apply blk_drewN | apply blk_drew | apply blk_alloc)); refine blk_far ?_ NB195_202.out _; (with_reducible repeat (first | apply blk_drewN | apply blk_drew | apply blk_alloc)); exact BK195.out) : P := h
theorem Z7_36 {P : Prop} (h : P := by (with_reducible repeat (first | apply blk_drewN | apply blk_drew | apply blk_alloc)); refine blk_far ?_ NB194_202.out _; (with_reducible repeat (first | apply blk_drewN | apply blk_drew | apply blk_alloc)); exact BK194.out) : P := h
theorem Z7_35 {P : Prop} (h : P := by decide) : P := h
theorem Z7_34 {P : Prop} (h : P := by (with_reducible repeat (first | apply Kd.S_alloc | apply Kd.S_drewN | apply Kd.S_drew)); exact (Kd.S_mono (Kd.S_far (p := ⟨gb202, 1, none⟩) (Kd.S_types HO208.out BK202.out (by decide)) (fun _ hk => hk.2) (.slice Ao58 y206.length co58)) (fun _ h_ => h_.1))) : P := h
theorem Z7_33 {P : Prop} (h : P := by (with_reducible repeat (first | apply Kd.S_alloc | apply Kd.S_drewN | apply Kd.S_drew)); exact (Kd.S_mono (Kd.S_far (p := ⟨gb202, 1, none⟩) (Kd.S_types HO208.out BK202.out (by decide)) (fun _ hk => hk.2) (.slice Ao30 y206.length co30)) (fun _ h_ => h_.1))) : P := h
theorem Z7_32 {P : Prop} (h : P := by rw [hg]; exact (below_size Z7_9)) : P := h
theorem Z7_31 {P : Prop} (h : P := by first | exact Kd.S_nil _ _ _ _ _ | exact Kd.N_nil _ _ _ _ _ | exact Kd.V_nil _ _ _ _ _ | exact Kd.Q_nil _ _ _ _ _ | exact Kd.R_nil _ _ _ _ _) : P := h
theorem Z7_30 {P : Prop} (h : P := by rw [hg]; exact (below_size Z7_11)) : P := h
theorem Z7_29 {P : Prop} (h : P := by (with_reducible repeat (first | apply Kd.R_alloc | apply Kd.R_drewN | apply Kd.R_drew)); exact HO198.out) : P := h
theorem Z7_28 {P : Prop} (h : P := by (with_reducible repeat (first | apply Kd.S_alloc | apply Kd.S_drewN | apply Kd.S_drew)); exact (Kd.S_mono (Kd.S_far (p := ⟨gb202, 1, none⟩) (Kd.S_far (p := ⟨gb202, 0, none⟩) (Kd.S_types HO201.out BK202.out (by decide)) (fun _ hk => hk.2) (.int .i64 a0_4)) (fun _ hk => hk.2) (.slice Ao98 y199.length co98)) (fun _ h_ => h_.1))) : P := h
theorem Z7_27 {P : Prop} (h : P := by (with_reducible repeat (first | apply Kd.S_alloc | apply Kd.S_drewN | apply Kd.S_drew)); exact (Kd.S_mono (Kd.S_far (p := ⟨gb202, 1, none⟩) (Kd.S_far (p := ⟨gb202, 0, none⟩) (Kd.S_types HO201.out BK202.out (by decide)) (fun _ hk => hk.2) (.int .i64 a0_4)) (fun _ hk => hk.2) (.slice Ao77 y199.length co77)) (fun _ h_ => h_.1))) : P := h
theorem Z7_26 {P : Prop} (h : P := by first | rfl | (simp [errW_none, errW_some] <;> rfl) | (simp [*, errW_none, errW_some] <;> rfl)) : P := h
theorem Z7_25 {P : Prop} (h : P := by (with_reducible repeat (first | apply blk_drewN | apply blk_drew | apply blk_alloc)); refine blk_put (cs := #[.int .i64 a0_4, .slice none 0 0]) ?_ 1 _ rfl; (with_reducible repeat (first | apply blk_drewN | apply blk_drew | apply blk_alloc)); refine blk_put (cs := #[.int .i64 0, .slice none 0 0]) ?_ 0 _ rfl; (with_reducible repeat (first | apply blk_drewN | apply blk_drew | apply blk_alloc)); exact BK195.out) : P := h
theorem Z7_24 {P : Prop} (h : P := by rw [hg]; exact (below_size Z7_2)) : P := h
theorem Z7_23 {P : Prop} (h : P := by (with_reducible repeat (first | apply blk_drewN | apply blk_drew | apply blk_alloc)); refine blk_put (cs := #[.int .i64 0, .slice none 0 0]) ?_ 1 _ rfl; (with_reducible repeat (first | apply blk_drewN | apply blk_drew | apply blk_alloc)); refine blk_put (cs := #[.int .i64 0, .slice none 0 0]) ?_ 0 _ rfl; (with_reducible repeat (first | apply blk_drewN | apply blk_drew | apply blk_alloc)); exact BK195.out) : P := h
theorem Z7_22 {P : Prop} (h : P := by simp [Value.ownBlock]) : P := h
theorem Z7_21 {P : Prop} (h : P := by (with_reducible repeat (first | apply blk_drewN | apply blk_drew | apply blk_alloc)); refine blk_far ?_ NB195_202.out _; (with_reducible repeat (first | apply blk_drewN | apply blk_drew | apply blk_alloc)); refine blk_far ?_ NB195_202.out _; (with_reducible repeat (first | apply blk_drewN | apply blk_drew | apply blk_alloc)); exact BK195.out) : P := h
theorem Z7_20 {P : Prop} (h : P := by (with_reducible repeat (first | apply blk_drewN | apply blk_drew | apply blk_alloc)); refine blk_far ?_ NB194_202.out _; (with_reducible repeat (first | apply blk_drewN | apply blk_drew | apply blk_alloc)); refine blk_far ?_ NB194_202.out _; (with_reducible repeat (first | apply blk_drewN | apply blk_drew | apply blk_alloc)); exact BK194.out) : P := h
theorem Z7_19 {P : Prop} (h : P := by simp only [putAll, Act.put, List.setIfInBounds_toArray, List.set_cons_zero, List.set_cons_succ]) : P := h
theorem Z7_18 {P : Prop} (h : P := by kernel_rfl) : P := h
theorem Z7_17 {P : Prop} (h : P := by rw [hg]; exact Nat.ne_of_gt (blk_lt (g := gb195) (o := .cells #[.int .i64 0, .slice none 0 0] 29 (0, 0)) Z7_4)) : P := h
theorem Z7_16 {P : Prop} (h : P := by rw [hg]; exact Nat.ne_of_lt (blk_lt (g := gb195) (o := .cells #[.int .i64 0, .slice none 0 0] 29 (0, 0)) Z7_4)) : P := h
theorem Z7_15 {P : Prop} (h : P := by repeat (first | exact (Kd.C_below HR0_2.out HB.out) | (with_reducible refine Kd.C_alloc ?_ _) | (with_reducible refine Kd.C_drewN ?_ _) | (with_reducible refine Kd.C_drew ?_))) : P := h
theorem Z7_14 {P : Prop} (h : P := by (with_reducible repeat (first | apply blk_drewN | apply blk_drew | apply blk_alloc)); refine blk_put (cs := #[.int .i64 a0_4, .slice none 0 0]) ?_ 1 _ rfl; (with_reducible repeat (first | apply blk_drewN | apply blk_drew | apply blk_alloc)); refine blk_put (cs := #[.int .i64 0, .slice none 0 0]) ?_ 0 _ rfl; (with_reducible repeat (first | apply blk_drewN | apply blk_drew | apply blk_alloc)); exact BK202.out) : P := h
theorem Z7_13 {P : Prop} (h : P := by first | (go_simp; done) | (go_simp; rfl)) : P := h
theorem Z7_12 {P : Prop} (h : P := by (with_reducible repeat (first | apply Kd.S_alloc | apply Kd.S_drewN | apply Kd.S_drew)); exact HO201.out) : P := h
theorem Z7_11 {P : Prop} (h : P := by repeat (first | (with_reducible first | exact HB.out | apply below_alloc | apply pw_below_drewN | apply below_drew1) | exact HB.out)) : P := h
theorem Z7_10 {P : Prop} (h : P := by (try simp only [List.map_toArray, List.map_cons, List.map_nil]); first | done | rfl | (simp only [List.length_drop, List.length_take]; first | done | rfl)) : P := h
theorem Z7_9 {P : Prop} (h : P := by repeat (first | (with_reducible first | exact HB.out | apply below_alloc | apply pw_below_drewN | apply below_drew1 | refine below_set ?_ GE194.out) | exact HB.out)) : P := h
theorem Z7_8 {P : Prop} (h : P := by (with_reducible repeat (first | apply blk_drewN | apply blk_drew | apply blk_alloc)); exact BK202.out) : P := h
theorem Z7_7 {P : Prop} (h : P := by rw [hg]; exact Nat.ne_of_gt (blk_lt (g := gb194) (o := .cells #[.int .i64 a0_0, .int .i64 a0_1, .slice A0_2 l0_2.length c0_2, .slice A0_3 l0_3.length c0_3, .int .i64 a0_4, .slice A0_5 l0_5.length c0_5] 51 (0, 0)) Z7_3)) : P := h
theorem Z7_6 {P : Prop} (h : P := by rw [hg]; exact Nat.ne_of_lt (blk_lt (g := gb194) (o := .cells #[.int .i64 a0_0, .int .i64 a0_1, .slice A0_2 l0_2.length c0_2, .slice A0_3 l0_3.length c0_3, .int .i64 a0_4, .slice A0_5 l0_5.length c0_5] 51 (0, 0)) Z7_3)) : P := h
theorem Z7_5 {P : Prop} (h : P := by intro j_ x_ hj_; rcases j_ with _ | j_; (obtain rfl := Option.some.inj hj_; exact Kd.M_mono k58 (fun k_ h_ => ⟨rfl, h_⟩) (k58_mkM _ _ _ (⟨4096, 5, (l0_2.length : Int), t196⟩ : S58) (Kd.R_mono (Kd.R_tight rfl (Kd.R_mono (ok' := fun k_ => ((fun _ => True)) k_ ∧ some k_ ≠ (.slice none 0 0 : Value).ownBlock) (HO198.out) (fun k_ hk => ⟨trivial, (by simp [Value.ownBlock])⟩))) (fun _ h_ => h_)))); (exact absurd hj_ (by simp))) : P := h
theorem Z7_4 {P : Prop} (h : P := by (with_reducible repeat (first | apply blk_drewN | apply blk_drew | apply blk_alloc)); exact BK195.out) : P := h
theorem Z7_3 {P : Prop} (h : P := by (with_reducible repeat (first | apply blk_drewN | apply blk_drew | apply blk_alloc)); exact BK194.out) : P := h
theorem Z7_2 {P : Prop} (h : P := by repeat (first | (with_reducible first | exact HB.out | apply below_alloc | apply pw_below_drewN | apply below_drew1 | refine below_set ?_ GE194.out | refine below_set ?_ GE195.out) | exact HB.out)) : P := h
theorem Z7_1 {P : Prop} (h : P := by repeat (first | (with_reducible first | exact HB.out | apply below_alloc | apply pw_below_drewN | apply below_drew1 | refine below_set ?_ GE194.out | refine below_set ?_ GE195.out | refine below_set ?_ GE202.out) | exact HB.out)) : P := h

/-! ### impl_Link: function 25 -/
def impl_Link.f (k : Nat) (a0_0 : Int) (a0_1 : Int) (l0_2 : List Int) (l0_3 : List Int) (a0_4 : Int) (l0_5 : List (S87)) : Option (Int × (List (S58)) × Bool) := if a0_0 = 0 then ((impl_copied.f l0_2).bind fun t196 => ((some (([(⟨4096, 5, (l0_2.length : Int), t196⟩ : S58)] : List (S58)) : List (S58))).bind fun y199 => (if (l0_3.length : Int) > 0 then ((impl_copied.f l0_3).bind fun t203 => (if y199.length < 2932031007402 then ((some (y199 ++ [(⟨262144, 3, (l0_3.length : Int), t203⟩ : S58)] : List (S58))).bind fun y206 => ((impl_ImageOk.f k a0_4 y206).bind fun t209 => (if t209 = true then (some (a0_4, y206, true)) else (some (0, ([] : List (S58)), false))))) else (none))) else ((impl_ImageOk.f k a0_4 y199).bind fun t210 => (if t210 = true then (some (a0_4, y199, true)) else (some (0, ([] : List (S58)), false))))))) else (some (0, ([] : List (S58)), false))
theorem impl_Link.mono : ∀ a0 a1 a2 a3 a4 a5 k, LeO (impl_Link.f k a0 a1 a2 a3 a4 a5) (impl_Link.f (k + 1) a0 a1 a2 a3 a4 a5) := by
 intro a0 a1 a2 a3 a4 a5 k
 unfold impl_Link.f
 repeat' first
   | (with_reducible exact impl_ImageOk.mono _ _ _)
   | (with_reducible exact LeO.refl _)
   | (with_reducible exact LeO.none _)
   | (with_reducible refine LeO.ite ?_ ?_)
   | (with_reducible refine LeO.bind ?_ (fun _ => ?_))
   | exact impl_ImageOk.mono _ _ _
   | exact LeO.none _
   | refine LeO.ite ?_ ?_
   | refine LeO.bind ?_ (fun _ => ?_)
def impl_Link.T3 : Bool × List (List Nat × List Nat) := (true, [([], []), ([0], [0]), ([], []), ([2], [2]), ([3], [3]), ([], []), ([5], [5]), ([6], [6]), ([4, 7], [4, 7]), ([8], [8]), ([1, 9], [1, 9]), ([], []), ([11, 10, 7, 0, 1, 2, 3, 4, 5, 6, 7, 8, 9, 10, 11], [10, 11])])
def impl_Link.B3 : List Nat := [0, 1, 0, 4, 12, 0, 32, 96, 252, 508, 1023, 0, 4095]
theorem impl_Link.tab3 : rtab .any (opsOf Try.f25 3) = impl_Link.T3 := by kernel_rfl
theorem impl_Link.bits3 : waitsOk impl_Link.T3.2 impl_Link.B3 = true := by kernel_rfl
def impl_Link.T5 : Bool × List (List Nat × List Nat) := (true, [([], []), ([0], [0]), ([], []), ([2], [2]), ([3], [3]), ([], []), ([5], [5]), ([6], [6]), ([4, 7], [4, 7]), ([8], [8]), ([1, 9, 7], [1, 9]), ([0, 1, 2, 3, 4, 5, 6, 7, 8, 9, 10], []), ([11, 10, 10, 0, 1, 2, 3, 4, 5, 6, 7, 8, 9, 10], [10, 11])])
def impl_Link.B5 : List Nat := [0, 1, 0, 4, 12, 0, 32, 96, 252, 508, 1023, 2047, 4095]
theorem impl_Link.tab5 : rtab .any (opsOf Try.f25 5) = impl_Link.T5 := by kernel_rfl
theorem impl_Link.bits5 : waitsOk impl_Link.T5.2 impl_Link.B5 = true := by kernel_rfl
set_option maxHeartbeats 8000000 in
set_option maxRecDepth 100000 in
theorem impl_Link.calls (k : Nat) (a0_0 : Int) (a0_1 : Int) (A0_2 : Option Addr) (c0_2 : Nat) (l0_2 : List Int) (A0_3 : Option Addr) (c0_3 : Nat) (l0_3 : List Int) (a0_4 : Int) (A0_5 : Option Addr) (c0_5 : Nat) (l0_5 : List (S87)) (r1 : Int) (r2 : List (S58)) (r3 : Bool) (w : World) (hr0_2 : Kd.C (Kd.int .u8) w A0_2 l0_2.length l0_2) (hc0_2 : l0_2.length ≤ c0_2) (hr0_3 : Kd.C (Kd.int .u8) w A0_3 l0_3.length l0_3) (hc0_3 : l0_3.length ≤ c0_3) (hr0_5 : Kd.C k87 w A0_5 l0_5.length l0_5) (hc0_5 : l0_5.length ≤ c0_5) (h : impl_Link.f k a0_0 a0_1 l0_2 l0_3 a0_4 l0_5 = some (r1, r2, r3)) :
  Calls Try.prog 25 #[.agg #[.int .i64 a0_0, .int .i64 a0_1, .slice A0_2 l0_2.length c0_2, .slice A0_3 l0_3.length c0_3, .int .i64 a0_4, .slice A0_5 l0_5.length c0_5]] w fun e w' => ∃ v1_ : Value, e = .returned (.tuple #[.agg #[.int .i64 r1, v1_], .bool r3]) ∧ Kd.S k58 58 w' w.heap.size (fun _ => True) v1_ r2 ∧ Below w.heap.size w w' := by
 have hu51 := Try.underlying51
 have hu29 := Try.underlying29
 have hu58 := Try.underlying58
 have HR0_2 := Aside0.mk hr0_2
 have HC0_2 := Aside0.mk hc0_2
 clear hr0_2 hc0_2
 have HR0_3 := Aside0.mk hr0_3
 have HC0_3 := Aside0.mk hc0_3
 clear hr0_3 hc0_3
 have HR0_5 := Aside0.mk hr0_5
 have HC0_5 := Aside0.mk hc0_5
 clear hr0_5 hc0_5
 have HB := Aside0.mk (Below.refl w.heap.size w)
 have H : (if a0_0 = 0 then ((impl_copied.f l0_2).bind fun t196 => ((some (([(⟨4096, 5, (l0_2.length : Int), t196⟩ : S58)] : List (S58)) : List (S58))).bind fun y199 => (if (l0_3.length : Int) > 0 then ((impl_copied.f l0_3).bind fun t203 => (if y199.length < 2932031007402 then ((some (y199 ++ [(⟨262144, 3, (l0_3.length : Int), t203⟩ : S58)] : List (S58))).bind fun y206 => ((impl_ImageOk.f k a0_4 y206).bind fun t209 => (if t209 = true then (some (a0_4, y206, true)) else (some (0, ([] : List (S58)), false))))) else (none))) else ((impl_ImageOk.f k a0_4 y199).bind fun t210 => (if t210 = true then (some (a0_4, y199, true)) else (some (0, ([] : List (S58)), false))))))) else (some (0, ([] : List (S58)), false))) = some (r1, r2, r3) := h
 clear h
 by_cases c2 : a0_0 = 0
 ·rw [if_pos c2] at H
  have c2b0 : (a0_0 == 0) = true := beq_iff_eq.mpr c2
  have c2b1 : (a0_0 != 0) = false := bne_eq_false_iff_eq.mpr c2
  clear c2
  replace H := Option.bind_eq_some_iff.mp H
  obtain ⟨t196, A30, H⟩ := H
  replace H : ((some (([(⟨4096, 5, (l0_2.length : Int), t196⟩ : S58)] : List (S58)) : List (S58))).bind fun y199 => (if (l0_3.length : Int) > 0 then ((impl_copied.f l0_3).bind fun t203 => (if y199.length < 2932031007402 then ((some (y199 ++ [(⟨262144, 3, (l0_3.length : Int), t203⟩ : S58)] : List (S58))).bind fun y206 => ((impl_ImageOk.f k a0_4 y206).bind fun t209 => (if t209 = true then (some (a0_4, y206, true)) else (some (0, ([] : List (S58)), false))))) else (none))) else ((impl_ImageOk.f k a0_4 y199).bind fun t210 => (if t210 = true then (some (a0_4, y199, true)) else (some (0, ([] : List (S58)), false)))))) = some (r1, r2, r3) := H
  have A3 := Aside0.mk A30
  clear A30
  obtain ⟨y199, hy199⟩ : ∃ y_ : List (S58), y_ = (([(⟨4096, 5, (l0_2.length : Int), t196⟩ : S58)] : List (S58))) := ⟨_, rfl⟩
  replace H : (if (l0_3.length : Int) > 0 then ((impl_copied.f l0_3).bind fun t203 => (if y199.length < 2932031007402 then ((some (y199 ++ [(⟨262144, 3, (l0_3.length : Int), t203⟩ : S58)] : List (S58))).bind fun y206 => ((impl_ImageOk.f k a0_4 y206).bind fun t209 => (if t209 = true then (some (a0_4, y206, true)) else (some (0, ([] : List (S58)), false))))) else (none))) else ((impl_ImageOk.f k a0_4 y199).bind fun t210 => (if t210 = true then (some (a0_4, y199, true)) else (some (0, ([] : List (S58)), false))))) = some (r1, r2, r3) := by first | (rw [hy199]; with_reducible exact H) | (have H2_ := (Option.bind_some _ _).symm.trans H; rw [hy199]; with_reducible exact H2_) | (have H2_ := (Option.bind_some _ _).symm.trans H; with_reducible exact H2_) | with_reducible exact H | (rw [hy199]; exact H) | exact H
  have Ny199 := Aside0.mk hy199
  clear hy199
  by_cases c4 : (l0_3.length : Int) > 0
  ·rw [if_pos c4] at H
   have c4b0 : decide (0 < (l0_3.length : Int)) = true := decide_eq_true c4
   have c4b1 : decide (0 < l0_3.length) = true := decide_eq_true (by omega)
   clear c4
   replace H := Option.bind_eq_some_iff.mp H
   obtain ⟨t203, A50, H⟩ := H
   replace H : (if y199.length < 2932031007402 then ((some (y199 ++ [(⟨262144, 3, (l0_3.length : Int), t203⟩ : S58)] : List (S58))).bind fun y206 => ((impl_ImageOk.f k a0_4 y206).bind fun t209 => (if t209 = true then (some (a0_4, y206, true)) else (some (0, ([] : List (S58)), false))))) else (none)) = some (r1, r2, r3) := H
   have A5 := Aside0.mk A50
   clear A50
   by_cases c6 : y199.length < 2932031007402
   ·rw [if_pos c6] at H
    have LMc6 := Aside0.mk c6
    clear c6
    obtain ⟨y206, hy206⟩ : ∃ y_ : List (S58), y_ = (y199 ++ [(⟨262144, 3, (l0_3.length : Int), t203⟩ : S58)]) := ⟨_, rfl⟩
    replace H : ((impl_ImageOk.f k a0_4 y206).bind fun t209 => (if t209 = true then (some (a0_4, y206, true)) else (some (0, ([] : List (S58)), false)))) = some (r1, r2, r3) := by first | (rw [hy206]; with_reducible exact H) | (have H2_ := (Option.bind_some _ _).symm.trans H; rw [hy206]; with_reducible exact H2_) | (have H2_ := (Option.bind_some _ _).symm.trans H; with_reducible exact H2_) | with_reducible exact H | (rw [hy206]; exact H) | exact H
    have Ny206 := Aside0.mk hy206
    clear hy206
    replace H := Option.bind_eq_some_iff.mp H
    obtain ⟨t209, A70, H⟩ := H
    replace H : (if t209 = true then (some (a0_4, y206, true)) else (some (0, ([] : List (S58)), false))) = some (r1, r2, r3) := H
    have A7 := Aside0.mk A70
    clear A70
    by_cases c8 : t209 = true
    ·subst c8
     have H1 : (some (a0_4, y206, true)) = some (r1, r2, r3) := by rw [if_pos rfl] at H; exact H
     clear H
     have H := H1
     clear H1
     simp only [Option.some.injEq, Prod.mk.injEq] at H
     obtain ⟨rfl, rfl, rfl⟩ := H
     go_enter Try.func25, Try.ntmps25
     try go_wp2_with (first | ((with_reducible refine gate_dst (N := 1) rfl ?_); refine box_event ?hg (N := 1) ?hd (cs := #[.int .i64 a0_0, .int .i64 a0_1, .slice A0_2 l0_2.length c0_2, .slice A0_3 l0_3.length c0_3, .int .i64 a0_4, .slice A0_5 l0_5.length c0_5]) (t := 51) ?hr ?_; (case hd => rfl); (case hg => rfl); (case hr => exact Z7_13); intro gb194 hg w9 hbox hb; have n0_ := Aside0.mk (below_step Z7_11 hb); have n1_ := Aside0.mk (hbox); have n2_ := Aside0.mk ((Z7_30 : w.heap.size ≤ gb194)); have n3_ := Aside0.mk ((Z7_30 : w.heap.size ≤ gb194)); clear HB; have HB := n0_; have BK194 := n1_; have GW194 := n2_; have GE194 := n3_; clear n0_ n1_ n2_ n3_; clear hb hbox hg) | ((with_reducible refine gate_dst (N := 2) rfl ?_); refine box_event ?hg (N := 2) ?hd (cs := #[.int .i64 0, .slice none 0 0]) (t := 29) ?hr ?_; (case hd => rfl); (case hg => rfl); (case hr => exact Z7_13); intro gb195 hg w10 hbox hb; have n0_ := Aside0.mk (blk_below (g := gb194) (o := .cells #[.int .i64 a0_0, .int .i64 a0_1, .slice A0_2 l0_2.length c0_2, .slice A0_3 l0_3.length c0_3, .int .i64 a0_4, .slice A0_5 l0_5.length c0_5] 51 (0, 0)) Z7_3 hb); have n1_ := Aside0.mk (below_step Z7_9 hb); have n2_ := Aside0.mk (hbox); have n3_ := Aside0.mk ((Z7_32 : w.heap.size ≤ gb195)); have n4_ := Aside0.mk ((Z7_32 : w.heap.size ≤ gb195)); have n5_ := Aside0.mk ((Z7_6 : gb194 ≠ gb195)); have n6_ := Aside0.mk ((Z7_7 : gb195 ≠ gb194)); clear BK194; clear HB; have BK194 := n0_; have HB := n1_; have BK195 := n2_; have GW195 := n3_; have GE195 := n4_; have NB194_195 := n5_; have NB195_194 := n6_; clear n0_ n1_ n2_ n3_ n4_ n5_ n6_; clear hb hbox hg; have hnb11 := NB194_195.out; have hnc11 := NB195_194.out; have hcz12_0 : w10.cell? ⟨gb194, 0, none⟩ = some (.int .i64 a0_0) := (blk_cell BK194.out 0).trans rfl; have hcz12_1 : w10.cell? ⟨gb194, 1, none⟩ = some (.int .i64 a0_1) := (blk_cell BK194.out 1).trans rfl; have hcz12_2 : w10.cell? ⟨gb194, 2, none⟩ = some (.slice A0_2 l0_2.length c0_2) := (blk_cell BK194.out 2).trans rfl; have hcz12_3 : w10.cell? ⟨gb194, 3, none⟩ = some (.slice A0_3 l0_3.length c0_3) := (blk_cell BK194.out 3).trans rfl; have hcz12_4 : w10.cell? ⟨gb194, 4, none⟩ = some (.int .i64 a0_4) := (blk_cell BK194.out 4).trans rfl; have hcz12_5 : w10.cell? ⟨gb194, 5, none⟩ = some (.slice A0_5 l0_5.length c0_5) := (blk_cell BK194.out 5).trans rfl; have hfz12_0 := blk_frozen BK194.out 0; have hfz12_1 := blk_frozen BK194.out 1; have hfz12_2 := blk_frozen BK194.out 2; have hfz12_3 := blk_frozen BK194.out 3; have hfz12_4 := blk_frozen BK194.out 4; have hfz12_5 := blk_frozen BK194.out 5))
     have n0_ := Aside0.mk (blk_drew BK194.out)
     have n1_ := Aside0.mk (blk_drew BK195.out)
     have n2_ := Aside0.mk (below_drew1 HB.out)
     clear BK194
     clear BK195
     clear HB
     have BK194 := n0_
     have BK195 := n1_
     have HB := n2_
     clear n0_ n1_ n2_
     refine start_ (n := 13) (S := fun w' => w'.cell? ⟨gb194, 0, none⟩ = some (.int .i64 a0_0) ∧ w'.cell? ⟨gb194, 1, none⟩ = some (.int .i64 a0_1) ∧ w'.cell? ⟨gb194, 2, none⟩ = some (.slice A0_2 l0_2.length c0_2) ∧ w'.cell? ⟨gb194, 3, none⟩ = some (.slice A0_3 l0_3.length c0_3) ∧ w'.cell? ⟨gb194, 4, none⟩ = some (.int .i64 a0_4) ∧ w'.cell? ⟨gb194, 5, none⟩ = some (.slice A0_5 l0_5.length c0_5)) (ds := []) #[false, false, false, false, false, false, false, false, false, false, false, false, false] Z7_18 rfl rfl ⟨(blk_cell BK194.out 0).trans rfl, (blk_cell BK194.out 1).trans rfl, (blk_cell BK194.out 2).trans rfl, (blk_cell BK194.out 3).trans rfl, (blk_cell BK194.out 4).trans rfl, (blk_cell BK194.out 5).trans rfl⟩ (fun hHeld => ?_); refine with_tabW impl_Link.tab3 impl_Link.bits3 (fun HT_ HW_ => ?_)
     generalize w10.drew = w13 at BK194 BK195 HB hHeld ⊢
     refine pure_ (i := 0) (N := some 9) (v := ?_) (a' := ?_) #[true, false, false, false, false, false, false, false, false, false, false, false, false] rfl rfl (any_of HT_.out Z7_18) (fun _ _ _ h => h) (Or.inl ⟨by rfl, ?_⟩) ?_ ?_
     rotate_left
     ·intro w'
      go_simp
      with_reducible rfl
     rotate_left
     ·simp only [Act.put, List.setIfInBounds_toArray, List.set_cons_zero, List.set_cons_succ, i64_w, i32_w]
      rfl
     refine pure_ (i := 2) (N := some 11) (v := ?_) (a' := ?_) #[true, false, true, false, false, false, false, false, false, false, false, false, false] rfl rfl (any_of HT_.out Z7_18) (fun _ _ _ h => h) (Or.inl ⟨by rfl, ?_⟩) ?_ ?_
     rotate_left
     ·intro w'
      go_simp
      with_reducible rfl
     rotate_left
     ·simp only [Act.put, List.setIfInBounds_toArray, List.set_cons_zero, List.set_cons_succ, i64_w, i32_w]
      rfl
     refine pure_ (i := 5) (N := some 14) (v := ?_) (a' := ?_) #[true, false, true, false, false, true, false, false, false, false, false, false, false] rfl rfl (any_of HT_.out Z7_18) (fun _ _ _ h => h) (Or.inl ⟨by rfl, ?_⟩) ?_ ?_
     rotate_left
     ·intro w'
      go_simp
      with_reducible rfl
     rotate_left
     ·simp only [Act.put, List.setIfInBounds_toArray, List.set_cons_zero, List.set_cons_succ, i64_w, i32_w]
      rfl
     refine take_ (i := 1) (N := some 10) (v := ?_) (a' := ?_) #[true, true, true, false, false, true, false, false, false, false, false, false, false] rfl rfl (take_ofW HT_.out HW_.out Z7_18) (fun _ _ _ h => h) (Or.inl ⟨by rfl, ?_⟩) hHeld ?_ ?_
     rotate_left
     ·rintro w' ⟨s0, s1, s2, s3, s4, s5⟩
      go_simp
      with_reducible rfl
     rotate_left
     ·simp only [Act.put, List.setIfInBounds_toArray, List.set_cons_zero, List.set_cons_succ, i64_w, i32_w]
      rfl
     refine take_ (i := 3) (N := some 12) (v := ?_) (a' := ?_) #[true, true, true, true, false, true, false, false, false, false, false, false, false] rfl rfl (take_ofW HT_.out HW_.out Z7_18) (fun _ _ _ h => h) (Or.inl ⟨by rfl, ?_⟩) hHeld ?_ ?_
     rotate_left
     ·rintro w' ⟨s0, s1, s2, s3, s4, s5⟩
      go_simp
      with_reducible rfl
     rotate_left
     ·simp only [Act.put, List.setIfInBounds_toArray, List.set_cons_zero, List.set_cons_succ, i64_w, i32_w]
      rfl
     refine pure_ (i := 4) (N := some 13) (v := ?_) (a' := ?_) #[true, true, true, true, true, true, false, false, false, false, false, false, false] rfl rfl (any_of HT_.out Z7_18) (fun _ _ _ h => h) (Or.inl ⟨by rfl, ?_⟩) ?_ ?_
     rotate_left
     ·intro w'
      go_simp
      with_reducible rfl
     rotate_left
     ·simp only [Act.put, List.setIfInBounds_toArray, List.set_cons_zero, List.set_cons_succ, i64_w, i32_w]
      rfl
     refine take_ (i := 6) (N := some 15) (v := ?_) (a' := ?_) #[true, true, true, true, true, true, true, false, false, false, false, false, false] rfl rfl (take_ofW HT_.out HW_.out Z7_18) (fun _ _ _ h => h) (Or.inl ⟨by rfl, ?_⟩) hHeld ?_ ?_
     rotate_left
     ·rintro w' ⟨s0, s1, s2, s3, s4, s5⟩
      go_simp
      with_reducible rfl
     rotate_left
     ·simp only [Act.put, List.setIfInBounds_toArray, List.set_cons_zero, List.set_cons_succ, i64_w, i32_w]
      rfl
     refine join_ (σ := Value × Value × Nat) 1 #[true, true, true, true, true, true, true, true, true, true, true, true, false] (fun s_ => [(16, s_.1), (18, s_.2.1), (4, .pointer (some ⟨s_.2.2, 0, none⟩)), (17, .agg #[.int .i64 4096, .int .i64 5, .int .i64 (l0_2.length : Int), s_.1]), (19, .agg #[.int .i64 a0_4, s_.2.1])]) (fun s_ w' => (w'.cell? ⟨gb194, 0, none⟩ = some (.int .i64 a0_0) ∧ w'.cell? ⟨gb194, 1, none⟩ = some (.int .i64 a0_1) ∧ w'.cell? ⟨gb194, 2, none⟩ = some (.slice A0_2 l0_2.length c0_2) ∧ w'.cell? ⟨gb194, 3, none⟩ = some (.slice A0_3 l0_3.length c0_3) ∧ w'.cell? ⟨gb194, 4, none⟩ = some (.int .i64 a0_4) ∧ w'.cell? ⟨gb194, 5, none⟩ = some (.slice A0_5 l0_5.length c0_5)) ∧ (Kd.S k58 58 w' w.heap.size (fun _ => True) s_.2.1 y199) ∧ (w'.heap[gb194]? = some (.cells #[.int .i64 a0_0, .int .i64 a0_1, .slice A0_2 l0_2.length c0_2, .slice A0_3 l0_3.length c0_3, .int .i64 a0_4, .slice A0_5 l0_5.length c0_5] 51 (0, 0))) ∧ (w'.heap[gb195]? = some (.cells #[.int .i64 0, .slice none 0 0] 29 (0, 0))) ∧ (w'.heap[s_.2.2]? = some (.cells #[.int .i64 0, .slice none 0 0] 29 (0, 0))) ∧ (w.heap.size ≤ s_.2.2) ∧ (w.heap.size ≤ s_.2.2) ∧ (gb194 ≠ s_.2.2) ∧ (s_.2.2 ≠ gb194) ∧ (gb195 ≠ s_.2.2) ∧ (s_.2.2 ≠ gb195) ∧ (Below w.heap.size w w')) ?_ ?_
     rotate_left
     ·intro hCont
      refine two_ (i := 7) (j := 11) (Ni := some 16) (Nj := some 4) #[true, true, true, true, true, true, true, true, false, false, false, false, false] #[true, true, true, true, true, true, true, false, false, false, false, true, false] rfl rfl rfl rfl (two_of HT_.out Z7_18) Z7_35 Z7_35 (fun K hK => ?_) (fun K hK => ?_)
      ·skip
       refine goes_ Try.func44 Z7_18 rfl #[.slice A0_2 l0_2.length c0_2] (by rfl) rfl rfl Z7_10 ?_
       with_reducible refine (impl_copied.calls _ _ l0_2 t196 _ ?side1 ?side2 A3.out).mono ?_
       (case side1 => exact Z7_15)
       (case side2 => exact HC0_2.out)
       rintro e w14 ⟨v197, rfl, ho0, hb⟩
       refine ⟨_, rfl, ?_⟩
       have n0_ := Aside0.mk (Kd.R_lower ho0 (below_size Z7_2))
       have n1_ := Aside0.mk (blk_below (g := gb194) (o := .cells #[.int .i64 a0_0, .int .i64 a0_1, .slice A0_2 l0_2.length c0_2, .slice A0_3 l0_3.length c0_3, .int .i64 a0_4, .slice A0_5 l0_5.length c0_5] 51 (0, 0)) Z7_3 hb)
       have n2_ := Aside0.mk (blk_below (g := gb195) (o := .cells #[.int .i64 0, .slice none 0 0] 29 (0, 0)) Z7_4 hb)
       have n3_ := Aside0.mk (below_step Z7_2 hb)
       clear BK194
       clear BK195
       clear HB
       have HO198 := n0_
       have BK194 := n1_
       have BK195 := n2_
       have HB := n3_
       clear n0_ n1_ n2_ n3_
       (try clear hb)
       (try clear hb2)
       (try clear hk)
       (try clear hi)
       (try clear ho0)
       obtain ⟨Ao15, co15, eo15⟩ := Kd.R_slice HO198.out
       (first | subst eo15 | (injection eo15 with f1_ f2_ f3_; have f4_ := f1_.symm; have f5_ := f3_.symm; clear f1_ f2_ f3_; subst f4_; subst f5_))
       refine hK.out _ _ ⟨(blk_cell BK194.out 0).trans rfl, (blk_cell BK194.out 1).trans rfl, (blk_cell BK194.out 2).trans rfl, (blk_cell BK194.out 3).trans rfl, (blk_cell BK194.out 4).trans rfl, (blk_cell BK194.out 5).trans rfl⟩ (fun hHeld => ?_)
       clear hK K
       refine norm_ (a' := ?_) ?_ ?_
       rotate_left
       ·show Act.put _ (some 16) _ = _
        simp only [Act.put, List.setIfInBounds_toArray, List.set_cons_zero, List.set_cons_succ, i64_w, i32_w]
        rfl
       refine pure_ (i := 8) (N := some 17) (v := ?_) (a' := ?_) #[true, true, true, true, true, true, true, true, true, false, false, false, false] rfl rfl (any_of HT_.out Z7_18) (fun _ _ _ h => h) (Or.inl ⟨by rfl, ?_⟩) ?_ ?_
       rotate_left
       ·intro w'
        go_simp
        with_reducible rfl
       rotate_left
       ·simp only [Act.put, List.setIfInBounds_toArray, List.set_cons_zero, List.set_cons_succ, i64_w, i32_w]
        rfl
       refine two_ (i := 9) (j := 11) (Ni := some 18) (Nj := some 4) #[true, true, true, true, true, true, true, true, true, true, false, false, false] #[true, true, true, true, true, true, true, true, true, false, false, true, false] rfl rfl rfl rfl (two_of HT_.out Z7_18) Z7_35 Z7_35 (fun K hK => ?_) (fun K hK => ?_)
       ·skip
        refine Kd.S_lits_step k58 (w0 := w) w.heap.size 58 ?hg (N := 18) ?hd (xs := ([(⟨4096, 5, (l0_2.length : Int), t196⟩ : S58)] : List (S58))) (inner := [.int .i64 4096, .int .i64 5, .int .i64 (l0_2.length : Int), .slice Ao15 t196.length co15]) (ok := (fun _ => True)) (fun j_ k_ => j_ = 0 ∧ (fun k_ => some k_ = (.slice Ao15 t196.length co15 : Value).ownBlock) k_) ?hr rfl ?hp (fun _ _ _ h1_ h2_ => h1_.1.trans h2_.1.symm) (fun _ k_ h_ => ((show ∀ k_, (fun k_ => some k_ = (.slice Ao15 t196.length co15 : Value).ownBlock) k_ → ((fun _ => True)) k_ ∧ some k_ ≠ (.slice none 0 0 : Value).ownBlock from (fun k_ hk_ => ((Kd.R_mono (ok' := fun k_ => ((fun _ => True)) k_ ∧ some k_ ≠ (.slice none 0 0 : Value).ownBlock) (HO198.out) (fun k_ hk => ⟨trivial, Z7_22⟩))).1 k_ hk_.symm)) k_ h_.2).1) ?aF ?aB ?aS (by simp) ?_; (case hd => rfl); (case hg => rfl); (case hr => exact Z7_13); (case hp => exact Z7_5)
        (case aB => exact Z7_2)
        (case aF => exact (show ∀ k_, w14.heap.size ≤ k_ → (fun _ => True) k_ from (fun _ _ => trivial)) _ (Nat.le_refl _))
        (case aS => exact (below_size Z7_2))
        intro v200 w16 ho hb hg hat
        rw [← Ny199.out] at ho
        have n0_ := Aside0.mk (blk_grown (g := gb194) (o := .cells #[.int .i64 a0_0, .int .i64 a0_1, .slice A0_2 l0_2.length c0_2, .slice A0_3 l0_3.length c0_3, .int .i64 a0_4, .slice A0_5 l0_5.length c0_5] 51 (0, 0)) Z7_3 hg Z7_22)
        have n1_ := Aside0.mk (blk_grown (g := gb195) (o := .cells #[.int .i64 0, .slice none 0 0] 29 (0, 0)) Z7_4 hg Z7_22)
        have n2_ := Aside0.mk (hb)
        have n3_ := Aside0.mk (ho)
        clear BK194
        clear BK195
        clear HB
        clear HO198
        have BK194 := n0_
        have BK195 := n1_
        have HB := n2_
        have HO201 := n3_
        clear n0_ n1_ n2_ n3_
        clear ho hb hg hat
        obtain ⟨Ao17, co17, eo17⟩ := Kd.S_slice HO201.out
        (first | subst eo17 | (injection eo17 with f1_ f2_ f3_; have f4_ := f1_.symm; have f5_ := f3_.symm; clear f1_ f2_ f3_; subst f4_; subst f5_))
        refine hK.out _ _ ⟨(blk_cell BK194.out 0).trans rfl, (blk_cell BK194.out 1).trans rfl, (blk_cell BK194.out 2).trans rfl, (blk_cell BK194.out 3).trans rfl, (blk_cell BK194.out 4).trans rfl, (blk_cell BK194.out 5).trans rfl⟩ (fun hHeld => ?_)
        clear hK K
        refine norm_ (a' := ?_) ?_ ?_
        rotate_left
        ·show Act.put _ (some 18) _ = _
         simp only [Act.put, List.setIfInBounds_toArray, List.set_cons_zero, List.set_cons_succ, i64_w, i32_w]
         rfl
        refine pure_ (i := 10) (N := some 19) (v := ?_) (a' := ?_) #[true, true, true, true, true, true, true, true, true, true, true, false, false] rfl rfl (any_of HT_.out Z7_18) (fun _ _ _ h => h) (Or.inl ⟨by rfl, ?_⟩) ?_ ?_
        rotate_left
        ·intro w'
         go_simp
         with_reducible rfl
        rotate_left
        ·simp only [Act.put, List.setIfInBounds_toArray, List.set_cons_zero, List.set_cons_succ, i64_w, i32_w]
         rfl
        refine one_ (i := 11) (N := some 4) #[true, true, true, true, true, true, true, true, true, true, true, true, false] rfl rfl (one_of HT_.out Z7_18) Z7_35 (fun K hK => ?_)
        refine box_step ?hg (N := 4) ?hd (cs := #[.int .i64 0, .slice none 0 0]) (t := 29) ?hr ?_; (case hd => rfl); (case hg => rfl); (case hr => exact Z7_13)
        intro gb202 hg w18 hbox hb
        have n0_ := Aside0.mk (Kd.S_below Z7_12 hb)
        have n1_ := Aside0.mk (blk_below (g := gb194) (o := .cells #[.int .i64 a0_0, .int .i64 a0_1, .slice A0_2 l0_2.length c0_2, .slice A0_3 l0_3.length c0_3, .int .i64 a0_4, .slice A0_5 l0_5.length c0_5] 51 (0, 0)) Z7_3 hb)
        have n2_ := Aside0.mk (blk_below (g := gb195) (o := .cells #[.int .i64 0, .slice none 0 0] 29 (0, 0)) Z7_4 hb)
        have n3_ := Aside0.mk (below_step Z7_2 hb)
        have n4_ := Aside0.mk (hbox)
        have n5_ := Aside0.mk ((Z7_24 : w.heap.size ≤ gb202))
        have n6_ := Aside0.mk ((Z7_24 : w.heap.size ≤ gb202))
        have n7_ := Aside0.mk ((Z7_6 : gb194 ≠ gb202))
        have n8_ := Aside0.mk ((Z7_7 : gb202 ≠ gb194))
        have n9_ := Aside0.mk ((Z7_16 : gb195 ≠ gb202))
        have n10_ := Aside0.mk ((Z7_17 : gb202 ≠ gb195))
        clear HO201
        clear BK194
        clear BK195
        clear HB
        have HO201 := n0_
        have BK194 := n1_
        have BK195 := n2_
        have HB := n3_
        have BK202 := n4_
        have GW202 := n5_
        have GE202 := n6_
        have NB194_202 := n7_
        have NB202_194 := n8_
        have NB195_202 := n9_
        have NB202_195 := n10_
        clear n0_ n1_ n2_ n3_ n4_ n5_ n6_ n7_ n8_ n9_ n10_
        clear hb hbox hg
        refine hK.out _ _ ⟨(blk_cell BK194.out 0).trans rfl, (blk_cell BK194.out 1).trans rfl, (blk_cell BK194.out 2).trans rfl, (blk_cell BK194.out 3).trans rfl, (blk_cell BK194.out 4).trans rfl, (blk_cell BK194.out 5).trans rfl⟩ (fun hHeld => ?_)
        clear hK K
        refine norm_ (a' := ?_) ?_ ?_
        rotate_left
        ·show Act.put _ (some 4) _ = _
         simp only [Act.put, List.setIfInBounds_toArray, List.set_cons_zero, List.set_cons_succ, i64_w, i32_w]
         rfl
        exact norm_ Z7_19 (hCont (.slice Ao15 t196.length co15, .slice Ao17 y199.length co17, gb202) _ ⟨hHeld, Z7_12, Z7_3, Z7_4, Z7_8, GW202.out, GE202.out, NB194_202.out, NB202_194.out, NB195_202.out, NB202_195.out, Z7_1⟩)
       skip
       refine box_step ?hg (N := 4) ?hd (cs := #[.int .i64 0, .slice none 0 0]) (t := 29) ?hr ?_; (case hd => rfl); (case hg => rfl); (case hr => exact Z7_13)
       intro gb202 hg w16 hbox hb
       have n0_ := Aside0.mk (Kd.R_below Z7_29 hb)
       have n1_ := Aside0.mk (blk_below (g := gb194) (o := .cells #[.int .i64 a0_0, .int .i64 a0_1, .slice A0_2 l0_2.length c0_2, .slice A0_3 l0_3.length c0_3, .int .i64 a0_4, .slice A0_5 l0_5.length c0_5] 51 (0, 0)) Z7_3 hb)
       have n2_ := Aside0.mk (blk_below (g := gb195) (o := .cells #[.int .i64 0, .slice none 0 0] 29 (0, 0)) Z7_4 hb)
       have n3_ := Aside0.mk (below_step Z7_2 hb)
       have n4_ := Aside0.mk (hbox)
       have n5_ := Aside0.mk ((Z7_24 : w.heap.size ≤ gb202))
       have n6_ := Aside0.mk ((Z7_24 : w.heap.size ≤ gb202))
       have n7_ := Aside0.mk ((Z7_6 : gb194 ≠ gb202))
       have n8_ := Aside0.mk ((Z7_7 : gb202 ≠ gb194))
       have n9_ := Aside0.mk ((Z7_16 : gb195 ≠ gb202))
       have n10_ := Aside0.mk ((Z7_17 : gb202 ≠ gb195))
       clear HO198
       clear BK194
       clear BK195
       clear HB
       have HO198 := n0_
       have BK194 := n1_
       have BK195 := n2_
       have HB := n3_
       have BK202 := n4_
       have GW202 := n5_
       have GE202 := n6_
       have NB194_202 := n7_
       have NB202_194 := n8_
       have NB195_202 := n9_
       have NB202_195 := n10_
       clear n0_ n1_ n2_ n3_ n4_ n5_ n6_ n7_ n8_ n9_ n10_
       clear hb hbox hg
       refine hK.out _ _ ⟨(blk_cell BK194.out 0).trans rfl, (blk_cell BK194.out 1).trans rfl, (blk_cell BK194.out 2).trans rfl, (blk_cell BK194.out 3).trans rfl, (blk_cell BK194.out 4).trans rfl, (blk_cell BK194.out 5).trans rfl⟩ (fun hHeld => ?_)
       clear hK K
       refine norm_ (a' := ?_) ?_ ?_
       rotate_left
       ·show Act.put _ (some 4) _ = _
        simp only [Act.put, List.setIfInBounds_toArray, List.set_cons_zero, List.set_cons_succ, i64_w, i32_w]
        rfl
       refine one_ (i := 9) (N := some 18) #[true, true, true, true, true, true, true, true, true, true, false, true, false] rfl rfl (one_of HT_.out Z7_18) Z7_35 (fun K hK => ?_)
       refine Kd.S_lits_step k58 (w0 := w) w.heap.size 58 ?hg (N := 18) ?hd (xs := ([(⟨4096, 5, (l0_2.length : Int), t196⟩ : S58)] : List (S58))) (inner := [.int .i64 4096, .int .i64 5, .int .i64 (l0_2.length : Int), .slice Ao15 t196.length co15]) (ok := (fun _ => True)) (fun j_ k_ => j_ = 0 ∧ (fun k_ => some k_ = (.slice Ao15 t196.length co15 : Value).ownBlock) k_) ?hr rfl ?hp (fun _ _ _ h1_ h2_ => h1_.1.trans h2_.1.symm) (fun _ k_ h_ => ((show ∀ k_, (fun k_ => some k_ = (.slice Ao15 t196.length co15 : Value).ownBlock) k_ → ((fun _ => True)) k_ ∧ some k_ ≠ (.slice none 0 0 : Value).ownBlock from (fun k_ hk_ => ((Kd.R_mono (ok' := fun k_ => ((fun _ => True)) k_ ∧ some k_ ≠ (.slice none 0 0 : Value).ownBlock) (HO198.out) (fun k_ hk => ⟨trivial, Z7_22⟩))).1 k_ hk_.symm)) k_ h_.2).1) ?aF ?aB ?aS (by simp) ?_; (case hd => rfl); (case hg => rfl); (case hr => exact Z7_13); (case hp => exact Z7_5)
       (case aB => exact Z7_1)
       (case aF => exact (show ∀ k_, w16.heap.size ≤ k_ → (fun _ => True) k_ from (fun _ _ => trivial)) _ (Nat.le_refl _))
       (case aS => exact (below_size Z7_1))
       intro v200 w17 ho hb hg hat
       rw [← Ny199.out] at ho
       have n0_ := Aside0.mk (blk_grown (g := gb194) (o := .cells #[.int .i64 a0_0, .int .i64 a0_1, .slice A0_2 l0_2.length c0_2, .slice A0_3 l0_3.length c0_3, .int .i64 a0_4, .slice A0_5 l0_5.length c0_5] 51 (0, 0)) Z7_3 hg Z7_22)
       have n1_ := Aside0.mk (blk_grown (g := gb195) (o := .cells #[.int .i64 0, .slice none 0 0] 29 (0, 0)) Z7_4 hg Z7_22)
       have n2_ := Aside0.mk (blk_grown (g := gb202) (o := .cells #[.int .i64 0, .slice none 0 0] 29 (0, 0)) Z7_8 hg Z7_22)
       have n3_ := Aside0.mk (hb)
       have n4_ := Aside0.mk (ho)
       clear BK194
       clear BK195
       clear BK202
       clear HB
       clear HO198
       have BK194 := n0_
       have BK195 := n1_
       have BK202 := n2_
       have HB := n3_
       have HO201 := n4_
       clear n0_ n1_ n2_ n3_ n4_
       clear ho hb hg hat
       obtain ⟨Ao18, co18, eo18⟩ := Kd.S_slice HO201.out
       (first | subst eo18 | (injection eo18 with f1_ f2_ f3_; have f4_ := f1_.symm; have f5_ := f3_.symm; clear f1_ f2_ f3_; subst f4_; subst f5_))
       refine hK.out _ _ ⟨(blk_cell BK194.out 0).trans rfl, (blk_cell BK194.out 1).trans rfl, (blk_cell BK194.out 2).trans rfl, (blk_cell BK194.out 3).trans rfl, (blk_cell BK194.out 4).trans rfl, (blk_cell BK194.out 5).trans rfl⟩ (fun hHeld => ?_)
       clear hK K
       refine norm_ (a' := ?_) ?_ ?_
       rotate_left
       ·show Act.put _ (some 18) _ = _
        simp only [Act.put, List.setIfInBounds_toArray, List.set_cons_zero, List.set_cons_succ, i64_w, i32_w]
        rfl
       refine pure_ (i := 10) (N := some 19) (v := ?_) (a' := ?_) #[true, true, true, true, true, true, true, true, true, true, true, true, false] rfl rfl (any_of HT_.out Z7_18) (fun _ _ _ h => h) (Or.inl ⟨by rfl, ?_⟩) ?_ ?_
       rotate_left
       ·intro w'
        go_simp
        with_reducible rfl
       rotate_left
       ·simp only [Act.put, List.setIfInBounds_toArray, List.set_cons_zero, List.set_cons_succ, i64_w, i32_w]
        rfl
       exact norm_ Z7_19 (hCont (.slice Ao15 t196.length co15, .slice Ao18 y199.length co18, gb202) _ ⟨hHeld, Z7_12, Z7_3, Z7_4, Z7_8, GW202.out, GE202.out, NB194_202.out, NB202_194.out, NB195_202.out, NB202_195.out, Z7_1⟩)
      skip
      refine box_step ?hg (N := 4) ?hd (cs := #[.int .i64 0, .slice none 0 0]) (t := 29) ?hr ?_; (case hd => rfl); (case hg => rfl); (case hr => exact Z7_13)
      intro gb202 hg w14 hbox hb
      have n0_ := Aside0.mk (blk_below (g := gb194) (o := .cells #[.int .i64 a0_0, .int .i64 a0_1, .slice A0_2 l0_2.length c0_2, .slice A0_3 l0_3.length c0_3, .int .i64 a0_4, .slice A0_5 l0_5.length c0_5] 51 (0, 0)) Z7_3 hb)
      have n1_ := Aside0.mk (blk_below (g := gb195) (o := .cells #[.int .i64 0, .slice none 0 0] 29 (0, 0)) Z7_4 hb)
      have n2_ := Aside0.mk (below_step Z7_2 hb)
      have n3_ := Aside0.mk (hbox)
      have n4_ := Aside0.mk ((Z7_24 : w.heap.size ≤ gb202))
      have n5_ := Aside0.mk ((Z7_24 : w.heap.size ≤ gb202))
      have n6_ := Aside0.mk ((Z7_6 : gb194 ≠ gb202))
      have n7_ := Aside0.mk ((Z7_7 : gb202 ≠ gb194))
      have n8_ := Aside0.mk ((Z7_16 : gb195 ≠ gb202))
      have n9_ := Aside0.mk ((Z7_17 : gb202 ≠ gb195))
      clear BK194
      clear BK195
      clear HB
      have BK194 := n0_
      have BK195 := n1_
      have HB := n2_
      have BK202 := n3_
      have GW202 := n4_
      have GE202 := n5_
      have NB194_202 := n6_
      have NB202_194 := n7_
      have NB195_202 := n8_
      have NB202_195 := n9_
      clear n0_ n1_ n2_ n3_ n4_ n5_ n6_ n7_ n8_ n9_
      clear hb hbox hg
      refine hK.out _ _ ⟨(blk_cell BK194.out 0).trans rfl, (blk_cell BK194.out 1).trans rfl, (blk_cell BK194.out 2).trans rfl, (blk_cell BK194.out 3).trans rfl, (blk_cell BK194.out 4).trans rfl, (blk_cell BK194.out 5).trans rfl⟩ (fun hHeld => ?_)
      clear hK K
      refine norm_ (a' := ?_) ?_ ?_
      rotate_left
      ·show Act.put _ (some 4) _ = _
       simp only [Act.put, List.setIfInBounds_toArray, List.set_cons_zero, List.set_cons_succ, i64_w, i32_w]
       rfl
      refine one_ (i := 7) (N := some 16) #[true, true, true, true, true, true, true, true, false, false, false, true, false] rfl rfl (one_of HT_.out Z7_18) Z7_35 (fun K hK => ?_)
      refine goes_ Try.func44 Z7_18 rfl #[.slice A0_2 l0_2.length c0_2] (by rfl) rfl rfl Z7_10 ?_
      with_reducible refine (impl_copied.calls _ _ l0_2 t196 _ ?side1 ?side2 A3.out).mono ?_
      (case side1 => exact Z7_15)
      (case side2 => exact HC0_2.out)
      rintro e w15 ⟨v197, rfl, ho0, hb⟩
      refine ⟨_, rfl, ?_⟩
      have n0_ := Aside0.mk (Kd.R_lower ho0 (below_size Z7_1))
      have n1_ := Aside0.mk (blk_below (g := gb194) (o := .cells #[.int .i64 a0_0, .int .i64 a0_1, .slice A0_2 l0_2.length c0_2, .slice A0_3 l0_3.length c0_3, .int .i64 a0_4, .slice A0_5 l0_5.length c0_5] 51 (0, 0)) Z7_3 hb)
      have n2_ := Aside0.mk (blk_below (g := gb195) (o := .cells #[.int .i64 0, .slice none 0 0] 29 (0, 0)) Z7_4 hb)
      have n3_ := Aside0.mk (blk_below (g := gb202) (o := .cells #[.int .i64 0, .slice none 0 0] 29 (0, 0)) Z7_8 hb)
      have n4_ := Aside0.mk (below_step Z7_1 hb)
      clear BK194
      clear BK195
      clear BK202
      clear HB
      have HO198 := n0_
      have BK194 := n1_
      have BK195 := n2_
      have BK202 := n3_
      have HB := n4_
      clear n0_ n1_ n2_ n3_ n4_
      (try clear hb)
      (try clear hb2)
      (try clear hk)
      (try clear hi)
      (try clear ho0)
      obtain ⟨Ao16, co16, eo16⟩ := Kd.R_slice HO198.out
      (first | subst eo16 | (injection eo16 with f1_ f2_ f3_; have f4_ := f1_.symm; have f5_ := f3_.symm; clear f1_ f2_ f3_; subst f4_; subst f5_))
      refine hK.out _ _ ⟨(blk_cell BK194.out 0).trans rfl, (blk_cell BK194.out 1).trans rfl, (blk_cell BK194.out 2).trans rfl, (blk_cell BK194.out 3).trans rfl, (blk_cell BK194.out 4).trans rfl, (blk_cell BK194.out 5).trans rfl⟩ (fun hHeld => ?_)
      clear hK K
      refine norm_ (a' := ?_) ?_ ?_
      rotate_left
      ·show Act.put _ (some 16) _ = _
       simp only [Act.put, List.setIfInBounds_toArray, List.set_cons_zero, List.set_cons_succ, i64_w, i32_w]
       rfl
      refine pure_ (i := 8) (N := some 17) (v := ?_) (a' := ?_) #[true, true, true, true, true, true, true, true, true, false, false, true, false] rfl rfl (any_of HT_.out Z7_18) (fun _ _ _ h => h) (Or.inl ⟨by rfl, ?_⟩) ?_ ?_
      rotate_left
      ·intro w'
       go_simp
       with_reducible rfl
      rotate_left
      ·simp only [Act.put, List.setIfInBounds_toArray, List.set_cons_zero, List.set_cons_succ, i64_w, i32_w]
       rfl
      refine one_ (i := 9) (N := some 18) #[true, true, true, true, true, true, true, true, true, true, false, true, false] rfl rfl (one_of HT_.out Z7_18) Z7_35 (fun K hK => ?_)
      refine Kd.S_lits_step k58 (w0 := w) w.heap.size 58 ?hg (N := 18) ?hd (xs := ([(⟨4096, 5, (l0_2.length : Int), t196⟩ : S58)] : List (S58))) (inner := [.int .i64 4096, .int .i64 5, .int .i64 (l0_2.length : Int), .slice Ao16 t196.length co16]) (ok := (fun _ => True)) (fun j_ k_ => j_ = 0 ∧ (fun k_ => some k_ = (.slice Ao16 t196.length co16 : Value).ownBlock) k_) ?hr rfl ?hp (fun _ _ _ h1_ h2_ => h1_.1.trans h2_.1.symm) (fun _ k_ h_ => ((show ∀ k_, (fun k_ => some k_ = (.slice Ao16 t196.length co16 : Value).ownBlock) k_ → ((fun _ => True)) k_ ∧ some k_ ≠ (.slice none 0 0 : Value).ownBlock from (fun k_ hk_ => ((Kd.R_mono (ok' := fun k_ => ((fun _ => True)) k_ ∧ some k_ ≠ (.slice none 0 0 : Value).ownBlock) (HO198.out) (fun k_ hk => ⟨trivial, Z7_22⟩))).1 k_ hk_.symm)) k_ h_.2).1) ?aF ?aB ?aS (by simp) ?_; (case hd => rfl); (case hg => rfl); (case hr => exact Z7_13); (case hp => exact Z7_5)
      (case aB => exact Z7_1)
      (case aF => exact (show ∀ k_, w15.heap.size ≤ k_ → (fun _ => True) k_ from (fun _ _ => trivial)) _ (Nat.le_refl _))
      (case aS => exact (below_size Z7_1))
      intro v200 w17 ho hb hg hat
      rw [← Ny199.out] at ho
      have n0_ := Aside0.mk (blk_grown (g := gb194) (o := .cells #[.int .i64 a0_0, .int .i64 a0_1, .slice A0_2 l0_2.length c0_2, .slice A0_3 l0_3.length c0_3, .int .i64 a0_4, .slice A0_5 l0_5.length c0_5] 51 (0, 0)) Z7_3 hg Z7_22)
      have n1_ := Aside0.mk (blk_grown (g := gb195) (o := .cells #[.int .i64 0, .slice none 0 0] 29 (0, 0)) Z7_4 hg Z7_22)
      have n2_ := Aside0.mk (blk_grown (g := gb202) (o := .cells #[.int .i64 0, .slice none 0 0] 29 (0, 0)) Z7_8 hg Z7_22)
      have n3_ := Aside0.mk (hb)
      have n4_ := Aside0.mk (ho)
      clear BK194
      clear BK195
      clear BK202
      clear HB
      clear HO198
      have BK194 := n0_
      have BK195 := n1_
      have BK202 := n2_
      have HB := n3_
      have HO201 := n4_
      clear n0_ n1_ n2_ n3_ n4_
      clear ho hb hg hat
      obtain ⟨Ao18, co18, eo18⟩ := Kd.S_slice HO201.out
      (first | subst eo18 | (injection eo18 with f1_ f2_ f3_; have f4_ := f1_.symm; have f5_ := f3_.symm; clear f1_ f2_ f3_; subst f4_; subst f5_))
      refine hK.out _ _ ⟨(blk_cell BK194.out 0).trans rfl, (blk_cell BK194.out 1).trans rfl, (blk_cell BK194.out 2).trans rfl, (blk_cell BK194.out 3).trans rfl, (blk_cell BK194.out 4).trans rfl, (blk_cell BK194.out 5).trans rfl⟩ (fun hHeld => ?_)
      clear hK K
      refine norm_ (a' := ?_) ?_ ?_
      rotate_left
      ·show Act.put _ (some 18) _ = _
       simp only [Act.put, List.setIfInBounds_toArray, List.set_cons_zero, List.set_cons_succ, i64_w, i32_w]
       rfl
      refine pure_ (i := 10) (N := some 19) (v := ?_) (a' := ?_) #[true, true, true, true, true, true, true, true, true, true, true, true, false] rfl rfl (any_of HT_.out Z7_18) (fun _ _ _ h => h) (Or.inl ⟨by rfl, ?_⟩) ?_ ?_
      rotate_left
      ·intro w'
       go_simp
       with_reducible rfl
      rotate_left
      ·simp only [Act.put, List.setIfInBounds_toArray, List.set_cons_zero, List.set_cons_succ, i64_w, i32_w]
       rfl
      exact norm_ Z7_19 (hCont (.slice Ao16 t196.length co16, .slice Ao18 y199.length co18, gb202) _ ⟨hHeld, Z7_12, Z7_3, Z7_4, Z7_8, GW202.out, GE202.out, NB194_202.out, NB202_194.out, NB195_202.out, NB202_195.out, Z7_1⟩)
     rintro ⟨v197, v200, gb202⟩ w19 ⟨hS_, h0_, h1_, h2_, h3_, h4_, h5_, h6_, h7_, h8_, h9_, h10_⟩
     have n0_ : Aside0 (Kd.S k58 58 w19 w.heap.size (fun _ => True) v200 y199) := ⟨h0_⟩
     have n1_ : Aside0 (w19.heap[gb194]? = some (.cells #[.int .i64 a0_0, .int .i64 a0_1, .slice A0_2 l0_2.length c0_2, .slice A0_3 l0_3.length c0_3, .int .i64 a0_4, .slice A0_5 l0_5.length c0_5] 51 (0, 0))) := ⟨h1_⟩
     have n2_ : Aside0 (w19.heap[gb195]? = some (.cells #[.int .i64 0, .slice none 0 0] 29 (0, 0))) := ⟨h2_⟩
     have n3_ : Aside0 (w19.heap[gb202]? = some (.cells #[.int .i64 0, .slice none 0 0] 29 (0, 0))) := ⟨h3_⟩
     have n4_ : Aside0 (w.heap.size ≤ gb202) := ⟨h4_⟩
     have n5_ : Aside0 (w.heap.size ≤ gb202) := ⟨h5_⟩
     have n6_ : Aside0 (gb194 ≠ gb202) := ⟨h6_⟩
     have n7_ : Aside0 (gb202 ≠ gb194) := ⟨h7_⟩
     have n8_ : Aside0 (gb195 ≠ gb202) := ⟨h8_⟩
     have n9_ : Aside0 (gb202 ≠ gb195) := ⟨h9_⟩
     have n10_ : Aside0 (Below w.heap.size w w19) := ⟨h10_⟩
     clear BK194
     clear BK195
     clear HB
     clear h0_ h1_ h2_ h3_ h4_ h5_ h6_ h7_ h8_ h9_ h10_
     have HO201 := n0_
     have BK194 := n1_
     have BK195 := n2_
     have BK202 := n3_
     have GW202 := n4_
     have GE202 := n5_
     have NB194_202 := n6_
     have NB202_194 := n7_
     have NB195_202 := n8_
     have NB202_195 := n9_
     have HB := n10_
     clear n0_ n1_ n2_ n3_ n4_ n5_ n6_ n7_ n8_ n9_ n10_
     have hHeld : w19.cell? ⟨gb194, 0, none⟩ = some (.int .i64 a0_0) ∧ w19.cell? ⟨gb194, 1, none⟩ = some (.int .i64 a0_1) ∧ w19.cell? ⟨gb194, 2, none⟩ = some (.slice A0_2 l0_2.length c0_2) ∧ w19.cell? ⟨gb194, 3, none⟩ = some (.slice A0_3 l0_3.length c0_3) ∧ w19.cell? ⟨gb194, 4, none⟩ = some (.int .i64 a0_4) ∧ w19.cell? ⟨gb194, 5, none⟩ = some (.slice A0_5 l0_5.length c0_5) := hS_
     obtain ⟨Ao20, co20, eo20⟩ := Kd.S_slice HO201.out
     (first | subst eo20 | (injection eo20 with f1_ f2_ f3_; have f4_ := f1_.symm; have f5_ := f3_.symm; clear f1_ f2_ f3_; subst f4_; subst f5_))
     refine norm_ (a' := ?_) ?_ ?_
     rotate_left
     ·simp only [putAll, Act.put, List.setIfInBounds_toArray, List.set_cons_zero, List.set_cons_succ]
      rfl
     refine one_ (i := 12) (N := none) #[true, true, true, true, true, true, true, true, true, true, true, true, true] rfl rfl (one_of HT_.out Z7_18) Z7_35 (fun K hK => ?_)
     have hs21 : w19.cell? ⟨gb202, 0, none⟩ = some (.int .i64 0) := (blk_cell BK202.out 0).trans rfl
     have hfs21 := blk_frozen BK202.out 0
     have hns21_0 := NB194_202.out
     have hns21_1 := NB195_202.out
     have hms21_0 := NB202_194.out
     have hms21_1 := NB202_195.out
     have hs22 : w19.cell? ⟨gb202, 1, none⟩ = some (.slice none 0 0) := (blk_cell BK202.out 1).trans rfl
     have hfs22 := blk_frozen BK202.out 1
     have hns22_0 := NB194_202.out
     have hns22_1 := NB195_202.out
     have hms22_0 := NB202_194.out
     have hms22_1 := NB202_195.out
     refine skip_ (w1 := ?_) (by rfl) rfl ?_ ?_
     rotate_left
     ·go_simp
      rfl
     refine hK.out _ _ ⟨((cell_far (p := ⟨gb202, _, none⟩) NB194_202.out _).trans (((cell_far (p := ⟨gb202, _, none⟩) NB194_202.out _).trans (hHeld.1)))), ((cell_far (p := ⟨gb202, _, none⟩) NB194_202.out _).trans (((cell_far (p := ⟨gb202, _, none⟩) NB194_202.out _).trans (hHeld.2.1)))), ((cell_far (p := ⟨gb202, _, none⟩) NB194_202.out _).trans (((cell_far (p := ⟨gb202, _, none⟩) NB194_202.out _).trans (hHeld.2.2.1)))), ((cell_far (p := ⟨gb202, _, none⟩) NB194_202.out _).trans (((cell_far (p := ⟨gb202, _, none⟩) NB194_202.out _).trans (hHeld.2.2.2.1)))), ((cell_far (p := ⟨gb202, _, none⟩) NB194_202.out _).trans (((cell_far (p := ⟨gb202, _, none⟩) NB194_202.out _).trans (hHeld.2.2.2.2.1)))), ((cell_far (p := ⟨gb202, _, none⟩) NB194_202.out _).trans (((cell_far (p := ⟨gb202, _, none⟩) NB194_202.out _).trans (hHeld.2.2.2.2.2))))⟩ (fun hHeld => ?_)
     clear hK K
     refine done_ (done_of HT_.out Z7_18) ?_
     have hnb23 := NB194_202.out
     have hnc23 := NB202_194.out
     have hcz24_0 : w19.cell? ⟨gb194, 0, none⟩ = some (.int .i64 a0_0) := (blk_cell BK194.out 0).trans rfl
     have hcz24_1 : w19.cell? ⟨gb194, 1, none⟩ = some (.int .i64 a0_1) := (blk_cell BK194.out 1).trans rfl
     have hcz24_2 : w19.cell? ⟨gb194, 2, none⟩ = some (.slice A0_2 l0_2.length c0_2) := (blk_cell BK194.out 2).trans rfl
     have hcz24_3 : w19.cell? ⟨gb194, 3, none⟩ = some (.slice A0_3 l0_3.length c0_3) := (blk_cell BK194.out 3).trans rfl
     have hcz24_4 : w19.cell? ⟨gb194, 4, none⟩ = some (.int .i64 a0_4) := (blk_cell BK194.out 4).trans rfl
     have hcz24_5 : w19.cell? ⟨gb194, 5, none⟩ = some (.slice A0_5 l0_5.length c0_5) := (blk_cell BK194.out 5).trans rfl
     have hfz24_0 := blk_frozen BK194.out 0
     have hfz24_1 := blk_frozen BK194.out 1
     have hfz24_2 := blk_frozen BK194.out 2
     have hfz24_3 := blk_frozen BK194.out 3
     have hfz24_4 := blk_frozen BK194.out 4
     have hfz24_5 := blk_frozen BK194.out 5
     try go_wp2
     have n0_ : Aside0 (Kd.S k58 58 ((w19.setCell ⟨gb202, 0, none⟩ (.int .i64 a0_4)).setCell ⟨gb202, 1, none⟩ (.slice Ao20 y199.length co20)) w.heap.size (fun _ => True) (.slice Ao20 y199.length co20) y199) := ⟨by (with_reducible repeat (first | apply Kd.S_alloc | apply Kd.S_drewN | apply Kd.S_drew)); exact Kd.S_mono (Kd.S_far (p := ⟨gb202, 1, none⟩) (Kd.S_far (p := ⟨gb202, 0, none⟩) (Kd.S_types HO201.out BK202.out Z7_35) (fun _ hk => hk.2) (.int .i64 a0_4)) (fun _ hk => hk.2) (.slice Ao20 y199.length co20)) (fun _ hk => trivial)⟩
     have n1_ : Aside0 (((w19.setCell ⟨gb202, 0, none⟩ (.int .i64 a0_4)).setCell ⟨gb202, 1, none⟩ (.slice Ao20 y199.length co20)).heap[gb194]? = some (.cells #[.int .i64 a0_0, .int .i64 a0_1, .slice A0_2 l0_2.length c0_2, .slice A0_3 l0_3.length c0_3, .int .i64 a0_4, .slice A0_5 l0_5.length c0_5] 51 (0, 0))) := ⟨Z7_20⟩
     have n2_ : Aside0 (((w19.setCell ⟨gb202, 0, none⟩ (.int .i64 a0_4)).setCell ⟨gb202, 1, none⟩ (.slice Ao20 y199.length co20)).heap[gb195]? = some (.cells #[.int .i64 0, .slice none 0 0] 29 (0, 0))) := ⟨Z7_21⟩
     have n3_ : Aside0 (((w19.setCell ⟨gb202, 0, none⟩ (.int .i64 a0_4)).setCell ⟨gb202, 1, none⟩ (.slice Ao20 y199.length co20)).heap[gb202]? = some (.cells #[.int .i64 a0_4, .slice Ao20 y199.length co20] 29 (0, 0))) := ⟨Z7_14⟩
     have n4_ : Aside0 (Below w.heap.size w ((w19.setCell ⟨gb202, 0, none⟩ (.int .i64 a0_4)).setCell ⟨gb202, 1, none⟩ (.slice Ao20 y199.length co20))) := ⟨Z7_1⟩
     (try clear HO201)
     (try clear BK194)
     (try clear BK195)
     (try clear BK202)
     (try clear HB)
     generalize ((w19.setCell ⟨gb202, 0, none⟩ (.int .i64 a0_4)).setCell ⟨gb202, 1, none⟩ (.slice Ao20 y199.length co20)) = w25 at n0_ n1_ n2_ n3_ n4_ ⊢
     have HO201 := n0_
     have BK194 := n1_
     have BK195 := n2_
     have BK202 := n3_
     have HB := n4_
     clear n0_ n1_ n2_ n3_ n4_
     have n0_ := Aside0.mk (Kd.S_drew HO201.out)
     have n1_ := Aside0.mk (blk_drew BK194.out)
     have n2_ := Aside0.mk (blk_drew BK195.out)
     have n3_ := Aside0.mk (blk_drew BK202.out)
     have n4_ := Aside0.mk (below_drew1 HB.out)
     clear HO201
     clear BK194
     clear BK195
     clear BK202
     clear HB
     have HO201 := n0_
     have BK194 := n1_
     have BK195 := n2_
     have BK202 := n3_
     have HB := n4_
     clear n0_ n1_ n2_ n3_ n4_
     refine start_ (n := 13) (S := fun w' => w'.cell? ⟨gb202, 0, none⟩ = some (.int .i64 a0_4) ∧ w'.cell? ⟨gb202, 1, none⟩ = some (.slice Ao20 y199.length co20) ∧ w'.cell? ⟨gb194, 0, none⟩ = some (.int .i64 a0_0) ∧ w'.cell? ⟨gb194, 1, none⟩ = some (.int .i64 a0_1) ∧ w'.cell? ⟨gb194, 2, none⟩ = some (.slice A0_2 l0_2.length c0_2) ∧ w'.cell? ⟨gb194, 3, none⟩ = some (.slice A0_3 l0_3.length c0_3) ∧ w'.cell? ⟨gb194, 4, none⟩ = some (.int .i64 a0_4) ∧ w'.cell? ⟨gb194, 5, none⟩ = some (.slice A0_5 l0_5.length c0_5)) (ds := [12]) #[false, false, false, false, false, false, false, false, false, false, false, false, false] Z7_18 rfl rfl ⟨(blk_cell BK202.out 0).trans rfl, (blk_cell BK202.out 1).trans rfl, (blk_cell BK194.out 0).trans rfl, (blk_cell BK194.out 1).trans rfl, (blk_cell BK194.out 2).trans rfl, (blk_cell BK194.out 3).trans rfl, (blk_cell BK194.out 4).trans rfl, (blk_cell BK194.out 5).trans rfl⟩ (fun hHeld => ?_); refine with_tabW impl_Link.tab5 impl_Link.bits5 (fun HT_ HW_ => ?_)
     generalize w25.drew = w26 at HO201 BK194 BK195 BK202 HB hHeld ⊢
     refine pure_ (i := 0) (N := some 24) (v := ?_) (a' := ?_) #[true, false, false, false, false, false, false, false, false, false, false, false, false] rfl rfl (any_of HT_.out Z7_18) (fun _ _ _ h => h) (Or.inl ⟨by rfl, ?_⟩) ?_ ?_
     rotate_left
     ·intro w'
      go_simp
      with_reducible rfl
     rotate_left
     ·simp only [Act.put, List.setIfInBounds_toArray, List.set_cons_zero, List.set_cons_succ, i64_w, i32_w]
      rfl
     refine pure_ (i := 2) (N := some 26) (v := ?_) (a' := ?_) #[true, false, true, false, false, false, false, false, false, false, false, false, false] rfl rfl (any_of HT_.out Z7_18) (fun _ _ _ h => h) (Or.inl ⟨by rfl, ?_⟩) ?_ ?_
     rotate_left
     ·intro w'
      go_simp
      with_reducible rfl
     rotate_left
     ·simp only [Act.put, List.setIfInBounds_toArray, List.set_cons_zero, List.set_cons_succ, i64_w, i32_w]
      rfl
     refine pure_ (i := 5) (N := some 29) (v := ?_) (a' := ?_) #[true, false, true, false, false, true, false, false, false, false, false, false, false] rfl rfl (any_of HT_.out Z7_18) (fun _ _ _ h => h) (Or.inl ⟨by rfl, ?_⟩) ?_ ?_
     rotate_left
     ·intro w'
      go_simp
      with_reducible rfl
     rotate_left
     ·simp only [Act.put, List.setIfInBounds_toArray, List.set_cons_zero, List.set_cons_succ, i64_w, i32_w]
      rfl
     refine take_ (i := 1) (N := some 25) (v := ?_) (a' := ?_) #[true, true, true, false, false, true, false, false, false, false, false, false, false] rfl rfl (take_ofW HT_.out HW_.out Z7_18) (fun _ _ _ h => h) (Or.inl ⟨by rfl, ?_⟩) hHeld ?_ ?_
     rotate_left
     ·rintro w' ⟨s0, s1, s2, s3, s4, s5, s6, s7⟩
      go_simp
      with_reducible rfl
     rotate_left
     ·simp only [Act.put, List.setIfInBounds_toArray, List.set_cons_zero, List.set_cons_succ, i64_w, i32_w]
      rfl
     refine take_ (i := 3) (N := some 27) (v := ?_) (a' := ?_) #[true, true, true, true, false, true, false, false, false, false, false, false, false] rfl rfl (take_ofW HT_.out HW_.out Z7_18) (fun _ _ _ h => h) (Or.inl ⟨by rfl, ?_⟩) hHeld ?_ ?_
     rotate_left
     ·rintro w' ⟨s0, s1, s2, s3, s4, s5, s6, s7⟩
      go_simp
      with_reducible rfl
     rotate_left
     ·simp only [Act.put, List.setIfInBounds_toArray, List.set_cons_zero, List.set_cons_succ, i64_w, i32_w]
      rfl
     refine pure_ (i := 4) (N := some 28) (v := ?_) (a' := ?_) #[true, true, true, true, true, true, false, false, false, false, false, false, false] rfl rfl (any_of HT_.out Z7_18) (fun _ _ _ h => h) (Or.inl ⟨by rfl, ?_⟩) ?_ ?_
     rotate_left
     ·intro w'
      go_simp
      with_reducible rfl
     rotate_left
     ·simp only [Act.put, List.setIfInBounds_toArray, List.set_cons_zero, List.set_cons_succ, i64_w, i32_w]
      rfl
     refine take_ (i := 6) (N := some 30) (v := ?_) (a' := ?_) #[true, true, true, true, true, true, true, false, false, false, false, false, false] rfl rfl (take_ofW HT_.out HW_.out Z7_18) (fun _ _ _ h => h) (Or.inl ⟨by rfl, ?_⟩) hHeld ?_ ?_
     rotate_left
     ·rintro w' ⟨s0, s1, s2, s3, s4, s5, s6, s7⟩
      go_simp
      with_reducible rfl
     rotate_left
     ·simp only [Act.put, List.setIfInBounds_toArray, List.set_cons_zero, List.set_cons_succ, i64_w, i32_w]
      rfl
     refine one_ (i := 7) (N := some 31) #[true, true, true, true, true, true, true, true, false, false, false, false, false] rfl rfl (one_of HT_.out Z7_18) Z7_35 (fun K hK => ?_)
     refine goes_ Try.func44 Z7_18 rfl #[.slice A0_3 l0_3.length c0_3] (by rfl) rfl rfl Z7_10 ?_
     with_reducible refine (impl_copied.calls _ _ l0_3 t203 _ ?side1 ?side2 A5.out).mono ?_
     (case side1 => exact Z7_38)
     (case side2 => exact HC0_3.out)
     rintro e w27 ⟨v204, rfl, ho0, hb⟩
     refine ⟨_, rfl, ?_⟩
     have n0_ := Aside0.mk (Kd.S_elder' Z7_12 (Kd.R_base ho0) hb)
     have n1_ := Aside0.mk (Kd.R_lower ho0 (below_size Z7_1))
     have n2_ := Aside0.mk (blk_below (g := gb194) (o := .cells #[.int .i64 a0_0, .int .i64 a0_1, .slice A0_2 l0_2.length c0_2, .slice A0_3 l0_3.length c0_3, .int .i64 a0_4, .slice A0_5 l0_5.length c0_5] 51 (0, 0)) Z7_3 hb)
     have n3_ := Aside0.mk (blk_below (g := gb195) (o := .cells #[.int .i64 0, .slice none 0 0] 29 (0, 0)) Z7_4 hb)
     have n4_ := Aside0.mk (blk_below (g := gb202) (o := .cells #[.int .i64 a0_4, .slice Ao20 y199.length co20] 29 (0, 0)) Z7_8 hb)
     have n5_ := Aside0.mk (below_step Z7_1 hb)
     clear HO201
     clear BK194
     clear BK195
     clear BK202
     clear HB
     have HO201 := n0_
     have HO205 := n1_
     have BK194 := n2_
     have BK195 := n3_
     have BK202 := n4_
     have HB := n5_
     clear n0_ n1_ n2_ n3_ n4_ n5_
     (try clear hb)
     (try clear hb2)
     (try clear hk)
     (try clear hi)
     (try clear ho0)
     obtain ⟨Ao28, co28, eo28⟩ := Kd.R_slice HO205.out
     (first | subst eo28 | (injection eo28 with f1_ f2_ f3_; have f4_ := f1_.symm; have f5_ := f3_.symm; clear f1_ f2_ f3_; subst f4_; subst f5_))
     refine hK.out _ _ ⟨(blk_cell BK202.out 0).trans rfl, (blk_cell BK202.out 1).trans rfl, (blk_cell BK194.out 0).trans rfl, (blk_cell BK194.out 1).trans rfl, (blk_cell BK194.out 2).trans rfl, (blk_cell BK194.out 3).trans rfl, (blk_cell BK194.out 4).trans rfl, (blk_cell BK194.out 5).trans rfl⟩ (fun hHeld => ?_)
     clear hK K
     refine norm_ (a' := ?_) ?_ ?_
     rotate_left
     ·show Act.put _ (some 31) _ = _
      simp only [Act.put, List.setIfInBounds_toArray, List.set_cons_zero, List.set_cons_succ, i64_w, i32_w]
      rfl
     refine pure_ (i := 8) (N := some 32) (v := ?_) (a' := ?_) #[true, true, true, true, true, true, true, true, true, false, false, false, false] rfl rfl (any_of HT_.out Z7_18) (fun _ _ _ h => h) (Or.inl ⟨by rfl, ?_⟩) ?_ ?_
     rotate_left
     ·intro w'
      go_simp
      with_reducible rfl
     rotate_left
     ·simp only [Act.put, List.setIfInBounds_toArray, List.set_cons_zero, List.set_cons_succ, i64_w, i32_w]
      rfl
     refine one_ (i := 9) (N := some 33) #[true, true, true, true, true, true, true, true, true, true, false, false, false] rfl rfl (one_of HT_.out Z7_18) Z7_35 (fun K hK => ?_)
     refine value_ (w1 := ?_) (v := ?_) (by rfl) rfl ?_ ?_
     rotate_left 2
     ·go_simp
      constructor
      ·rfl
      rfl
     refine hK.out _ _ ⟨(blk_cell (blk_alloc BK202.out _) 0).trans rfl, (blk_cell (blk_alloc BK202.out _) 1).trans rfl, (blk_cell (blk_alloc BK194.out _) 0).trans rfl, (blk_cell (blk_alloc BK194.out _) 1).trans rfl, (blk_cell (blk_alloc BK194.out _) 2).trans rfl, (blk_cell (blk_alloc BK194.out _) 3).trans rfl, (blk_cell (blk_alloc BK194.out _) 4).trans rfl, (blk_cell (blk_alloc BK194.out _) 5).trans rfl⟩ (fun hHeld => ?_)
     clear hK K
     refine norm_ (a' := ?_) ?_ ?_
     rotate_left
     ·show Act.put _ (some 33) _ = _
      simp only [Act.put, List.setIfInBounds_toArray, List.set_cons_zero, List.set_cons_succ, i64_w, i32_w]
      rfl
     refine one_ (i := 10) (N := some 34) #[true, true, true, true, true, true, true, true, true, true, true, false, false] rfl rfl (one_of HT_.out Z7_18) Z7_35 (fun K hK => ?_)
     refine Kd.S_append_step k58 (w0 := w) w.heap.size (by rfl) (.tmp 25) (.tmp 33) 27 58 (.agg #[(.int .i64 0), (.int .i64 0), (.int .i64 0), (.slice none 0 0)]) 48 rfl Try.underlying27 info58 rfl Z7_35 (by omega) (.slice Ao20 y199.length co20) y199 (⟨262144, 3, (l0_3.length : Int), t203⟩ : S58) [.int .i64 262144, .int .i64 3, .int .i64 (l0_3.length : Int), .slice Ao28 t203.length co28] (fun _ => True) (fun k_ => some k_ = (.slice Ao28 t203.length co28 : Value).ownBlock) rfl rfl ?aP (fun k_ hk_ => ((Kd.R_mono (ok' := fun k_ => ((fun _ => True)) k_ ∧ some k_ ≠ (.slice Ao20 y199.length co20 : Value).ownBlock) (Kd.R_apart' (HO205.out) (Kd.S_typed HO201.out) Z7_35) (fun k_ hk => ⟨trivial, hk.2⟩))).1 k_ hk_.symm) ?aF ?aO ?aB ?aS ?aL ?_
     (case aP => exact k58_mkM _ _ _ (⟨262144, 3, (l0_3.length : Int), t203⟩ : S58) (Kd.R_mono (Kd.R_tight rfl (Kd.R_mono (ok' := fun k_ => ((fun _ => True)) k_ ∧ some k_ ≠ (.slice Ao20 y199.length co20 : Value).ownBlock) (Kd.R_apart' (HO205.out) (Kd.S_typed HO201.out) Z7_35) (fun k_ hk => ⟨trivial, hk.2⟩))) (fun _ h_ => h_)))
     (case aB => exact Z7_1)
     (case aF => exact (fun _ _ => trivial))
     (case aO => exact Z7_39)
     (case aS => exact (below_size Z7_1))
     (case aL => have := LMc6.out; omega)
     intro v207 w29 ho hb hg hat
     rw [← Ny206.out] at ho
     have n0_ := Aside0.mk (blk_grown (g := gb194) (o := .cells #[.int .i64 a0_0, .int .i64 a0_1, .slice A0_2 l0_2.length c0_2, .slice A0_3 l0_3.length c0_3, .int .i64 a0_4, .slice A0_5 l0_5.length c0_5] 51 (0, 0)) Z7_3 hg (Kd.S_ne HO201.out BK194.out Z7_35))
     have n1_ := Aside0.mk (blk_grown (g := gb195) (o := .cells #[.int .i64 0, .slice none 0 0] 29 (0, 0)) Z7_4 hg (Kd.S_ne HO201.out BK195.out Z7_35))
     have n2_ := Aside0.mk (blk_grown (g := gb202) (o := .cells #[.int .i64 a0_4, .slice Ao20 y199.length co20] 29 (0, 0)) Z7_8 hg (Kd.S_ne HO201.out BK202.out Z7_35))
     have n3_ := Aside0.mk (hb)
     have n4_ := Aside0.mk (ho)
     clear BK194
     clear BK195
     clear BK202
     clear HB
     clear HO201
     clear HO205
     have BK194 := n0_
     have BK195 := n1_
     have BK202 := n2_
     have HB := n3_
     have HO208 := n4_
     clear n0_ n1_ n2_ n3_ n4_
     clear ho hb hg hat
     obtain ⟨Ao30, co30, eo30⟩ := Kd.S_slice HO208.out
     (first | subst eo30 | (injection eo30 with f1_ f2_ f3_; have f4_ := f1_.symm; have f5_ := f3_.symm; clear f1_ f2_ f3_; subst f4_; subst f5_))
     refine hK.out _ _ ⟨(blk_cell BK202.out 0).trans rfl, (blk_cell BK202.out 1).trans rfl, (blk_cell BK194.out 0).trans rfl, (blk_cell BK194.out 1).trans rfl, (blk_cell BK194.out 2).trans rfl, (blk_cell BK194.out 3).trans rfl, (blk_cell BK194.out 4).trans rfl, (blk_cell BK194.out 5).trans rfl⟩ (fun hHeld => ?_)
     clear hK K
     refine norm_ (a' := ?_) ?_ ?_
     rotate_left
     ·show Act.put _ (some 34) _ = _
      simp only [Act.put, List.setIfInBounds_toArray, List.set_cons_zero, List.set_cons_succ, i64_w, i32_w]
      rfl
     refine pure_ (i := 11) (N := some 35) (v := ?_) (a' := ?_) #[true, true, true, true, true, true, true, true, true, true, true, true, false] rfl rfl (any_of HT_.out Z7_18) (fun _ _ _ h => h) (Or.inl ⟨by rfl, ?_⟩) ?_ ?_
     rotate_left
     ·intro w'
      go_simp
      with_reducible rfl
     rotate_left
     ·simp only [Act.put, List.setIfInBounds_toArray, List.set_cons_zero, List.set_cons_succ, i64_w, i32_w]
      rfl
     refine last_ (i := 12) (N := none) #[true, true, true, true, true, true, true, true, true, true, true, true, true] rfl rfl (one_of HT_.out Z7_18) Z7_35 (fun K hK => ?_)
     have hs31 : w29.cell? ⟨gb202, 1, none⟩ = some (.slice Ao20 y199.length co20) := (blk_cell BK202.out 1).trans rfl
     have hfs31 := blk_frozen BK202.out 1
     have hns31_0 := NB194_202.out
     have hns31_1 := NB195_202.out
     have hms31_0 := NB202_194.out
     have hms31_1 := NB202_195.out
     refine skip_ (w1 := ?_) (by rfl) rfl ?_ ?_
     rotate_left
     ·go_simp
      rfl
     refine hK.out _ _ ?_
     clear hK K
     refine done_ (done_of HT_.out Z7_18) ?_
     have hnb32 := NB202_195.out
     have hnc32 := NB195_202.out
     have hcz33_0 : w29.cell? ⟨gb202, 0, none⟩ = some (.int .i64 a0_4) := (blk_cell BK202.out 0).trans rfl
     have hcz33_1 : w29.cell? ⟨gb202, 1, none⟩ = some (.slice Ao20 y199.length co20) := (blk_cell BK202.out 1).trans rfl
     have hfz33_0 := blk_frozen BK202.out 0
     have hfz33_1 := blk_frozen BK202.out 1
     try go_wp2_with (first | ((with_reducible refine gate_callee (f := 10) rfl ?_); refine goesL_ (some 37) rfl rfl Try.func10 Z7_18 rfl #[.agg #[.int .i64 a0_4, .slice Ao30 y206.length co30]] rfl Z7_10 ?_; (with_reducible refine (impl_ImageOk.calls k a0_4 _ _ y206 true _ ?side1 ?side2 A7.out).mono ?_); (case side1 => refine (Kd.S_reads' (e := 58) (base := w.heap.size) (ok := fun k_ => True) (n := y206.length) (c := co30) ?_).2.2; exact Z7_33); (case side2 => exact (Kd.S_reads' HO208.out).2.1); rintro e w34 ⟨rfl, hb⟩; refine ⟨_, rfl, ?_⟩; have n0_ := Aside0.mk (Kd.S_below Z7_33 hb); have n1_ := Aside0.mk (blk_below (g := gb194) (o := .cells #[.int .i64 a0_0, .int .i64 a0_1, .slice A0_2 l0_2.length c0_2, .slice A0_3 l0_3.length c0_3, .int .i64 a0_4, .slice A0_5 l0_5.length c0_5] 51 (0, 0)) Z7_36 hb); have n2_ := Aside0.mk (blk_below (g := gb195) (o := .cells #[.int .i64 0, .slice none 0 0] 29 (0, 0)) Z7_37 hb); have n3_ := Aside0.mk (blk_below (g := gb202) (o := .cells #[.int .i64 a0_4, .slice Ao30 y206.length co30] 29 (0, 0)) (by (with_reducible repeat (first | apply blk_drewN | apply blk_drew | apply blk_alloc)); refine blk_put (cs := #[.int .i64 a0_4, .slice Ao20 y199.length co20]) ?_ 1 _ rfl; (with_reducible repeat (first | apply blk_drewN | apply blk_drew | apply blk_alloc)); exact BK202.out) hb); have n4_ := Aside0.mk (below_step Z7_1 hb); clear HO208; clear BK194; clear BK195; clear BK202; clear HB; have HO208 := n0_; have BK194 := n1_; have BK195 := n2_; have BK202 := n3_; have HB := n4_; clear n0_ n1_ n2_ n3_ n4_; (try clear hb); (try clear hb2); (try clear hk); (try clear hi); have hcz35_0 : w34.cell? ⟨gb202, 0, none⟩ = some (.int .i64 a0_4) := (blk_cell BK202.out 0).trans rfl; have hcz35_1 : w34.cell? ⟨gb202, 1, none⟩ = some (.slice Ao30 y206.length co30) := (blk_cell BK202.out 1).trans rfl; have hfz35_0 := blk_frozen BK202.out 0; have hfz35_1 := blk_frozen BK202.out 1; have hcz36_0 : w34.cell? ⟨gb195, 0, none⟩ = some (.int .i64 0) := (blk_cell BK195.out 0).trans rfl; have hcz36_1 : w34.cell? ⟨gb195, 1, none⟩ = some (.slice none 0 0) := (blk_cell BK195.out 1).trans rfl; have hfz36_0 := blk_frozen BK195.out 0; have hfz36_1 := blk_frozen BK195.out 1))
     refine bodyPost_ret (results_ct rfl _ _ gb195 29 #[.int .i64 a0_4, .slice Ao30 y206.length co30] (0, 0) _ rfl Z7_25 Try.underlying29 rfl Z7_18) rfl ?_
     exact ⟨_, Z7_26, by (with_reducible repeat (first | apply Kd.S_alloc | apply Kd.S_drewN | apply Kd.S_drew)); exact Kd.S_mono (Kd.S_far (p := ⟨gb195, 1, none⟩) (Kd.S_far (p := ⟨gb195, 0, none⟩) (Kd.S_types HO208.out BK195.out Z7_35) (fun _ hk => hk.2) (.int .i64 a0_4)) (fun _ hk => hk.2) (.slice Ao30 y206.length co30)) (fun _ hk => trivial), Z7_1⟩
    replace c8 := Bool.eq_false_iff.mpr c8
    subst c8
    have H1 : (some (0, ([] : List (S58)), false)) = some (r1, r2, r3) := by rw [if_neg (show ¬ (false = true) by decide)] at H; exact H
    clear H
    have H := H1
    clear H1
    simp only [Option.some.injEq, Prod.mk.injEq] at H
    obtain ⟨rfl, rfl, rfl⟩ := H
    go_enter Try.func25, Try.ntmps25
    try go_wp2_with (first | ((with_reducible refine gate_dst (N := 1) rfl ?_); refine box_event ?hg (N := 1) ?hd (cs := #[.int .i64 a0_0, .int .i64 a0_1, .slice A0_2 l0_2.length c0_2, .slice A0_3 l0_3.length c0_3, .int .i64 a0_4, .slice A0_5 l0_5.length c0_5]) (t := 51) ?hr ?_; (case hd => rfl); (case hg => rfl); (case hr => exact Z7_13); intro gb194 hg w37 hbox hb; have n0_ := Aside0.mk (below_step Z7_11 hb); have n1_ := Aside0.mk (hbox); have n2_ := Aside0.mk ((Z7_30 : w.heap.size ≤ gb194)); have n3_ := Aside0.mk ((Z7_30 : w.heap.size ≤ gb194)); clear HB; have HB := n0_; have BK194 := n1_; have GW194 := n2_; have GE194 := n3_; clear n0_ n1_ n2_ n3_; clear hb hbox hg) | ((with_reducible refine gate_dst (N := 2) rfl ?_); refine box_event ?hg (N := 2) ?hd (cs := #[.int .i64 0, .slice none 0 0]) (t := 29) ?hr ?_; (case hd => rfl); (case hg => rfl); (case hr => exact Z7_13); intro gb195 hg w38 hbox hb; have n0_ := Aside0.mk (blk_below (g := gb194) (o := .cells #[.int .i64 a0_0, .int .i64 a0_1, .slice A0_2 l0_2.length c0_2, .slice A0_3 l0_3.length c0_3, .int .i64 a0_4, .slice A0_5 l0_5.length c0_5] 51 (0, 0)) Z7_3 hb); have n1_ := Aside0.mk (below_step Z7_9 hb); have n2_ := Aside0.mk (hbox); have n3_ := Aside0.mk ((Z7_32 : w.heap.size ≤ gb195)); have n4_ := Aside0.mk ((Z7_32 : w.heap.size ≤ gb195)); have n5_ := Aside0.mk ((Z7_6 : gb194 ≠ gb195)); have n6_ := Aside0.mk ((Z7_7 : gb195 ≠ gb194)); clear BK194; clear HB; have BK194 := n0_; have HB := n1_; have BK195 := n2_; have GW195 := n3_; have GE195 := n4_; have NB194_195 := n5_; have NB195_194 := n6_; clear n0_ n1_ n2_ n3_ n4_ n5_ n6_; clear hb hbox hg; have hnb39 := NB194_195.out; have hnc39 := NB195_194.out; have hcz40_0 : w38.cell? ⟨gb194, 0, none⟩ = some (.int .i64 a0_0) := (blk_cell BK194.out 0).trans rfl; have hcz40_1 : w38.cell? ⟨gb194, 1, none⟩ = some (.int .i64 a0_1) := (blk_cell BK194.out 1).trans rfl; have hcz40_2 : w38.cell? ⟨gb194, 2, none⟩ = some (.slice A0_2 l0_2.length c0_2) := (blk_cell BK194.out 2).trans rfl; have hcz40_3 : w38.cell? ⟨gb194, 3, none⟩ = some (.slice A0_3 l0_3.length c0_3) := (blk_cell BK194.out 3).trans rfl; have hcz40_4 : w38.cell? ⟨gb194, 4, none⟩ = some (.int .i64 a0_4) := (blk_cell BK194.out 4).trans rfl; have hcz40_5 : w38.cell? ⟨gb194, 5, none⟩ = some (.slice A0_5 l0_5.length c0_5) := (blk_cell BK194.out 5).trans rfl; have hfz40_0 := blk_frozen BK194.out 0; have hfz40_1 := blk_frozen BK194.out 1; have hfz40_2 := blk_frozen BK194.out 2; have hfz40_3 := blk_frozen BK194.out 3; have hfz40_4 := blk_frozen BK194.out 4; have hfz40_5 := blk_frozen BK194.out 5))
    have n0_ := Aside0.mk (blk_drew BK194.out)
    have n1_ := Aside0.mk (blk_drew BK195.out)
    have n2_ := Aside0.mk (below_drew1 HB.out)
    clear BK194
    clear BK195
    clear HB
    have BK194 := n0_
    have BK195 := n1_
    have HB := n2_
    clear n0_ n1_ n2_
    refine start_ (n := 13) (S := fun w' => w'.cell? ⟨gb194, 0, none⟩ = some (.int .i64 a0_0) ∧ w'.cell? ⟨gb194, 1, none⟩ = some (.int .i64 a0_1) ∧ w'.cell? ⟨gb194, 2, none⟩ = some (.slice A0_2 l0_2.length c0_2) ∧ w'.cell? ⟨gb194, 3, none⟩ = some (.slice A0_3 l0_3.length c0_3) ∧ w'.cell? ⟨gb194, 4, none⟩ = some (.int .i64 a0_4) ∧ w'.cell? ⟨gb194, 5, none⟩ = some (.slice A0_5 l0_5.length c0_5)) (ds := []) #[false, false, false, false, false, false, false, false, false, false, false, false, false] Z7_18 rfl rfl ⟨(blk_cell BK194.out 0).trans rfl, (blk_cell BK194.out 1).trans rfl, (blk_cell BK194.out 2).trans rfl, (blk_cell BK194.out 3).trans rfl, (blk_cell BK194.out 4).trans rfl, (blk_cell BK194.out 5).trans rfl⟩ (fun hHeld => ?_); refine with_tabW impl_Link.tab3 impl_Link.bits3 (fun HT_ HW_ => ?_)
    generalize w38.drew = w41 at BK194 BK195 HB hHeld ⊢
    refine pure_ (i := 0) (N := some 9) (v := ?_) (a' := ?_) #[true, false, false, false, false, false, false, false, false, false, false, false, false] rfl rfl (any_of HT_.out Z7_18) (fun _ _ _ h => h) (Or.inl ⟨by rfl, ?_⟩) ?_ ?_
    rotate_left
    ·intro w'
     go_simp
     with_reducible rfl
    rotate_left
    ·simp only [Act.put, List.setIfInBounds_toArray, List.set_cons_zero, List.set_cons_succ, i64_w, i32_w]
     rfl
    refine pure_ (i := 2) (N := some 11) (v := ?_) (a' := ?_) #[true, false, true, false, false, false, false, false, false, false, false, false, false] rfl rfl (any_of HT_.out Z7_18) (fun _ _ _ h => h) (Or.inl ⟨by rfl, ?_⟩) ?_ ?_
    rotate_left
    ·intro w'
     go_simp
     with_reducible rfl
    rotate_left
    ·simp only [Act.put, List.setIfInBounds_toArray, List.set_cons_zero, List.set_cons_succ, i64_w, i32_w]
     rfl
    refine pure_ (i := 5) (N := some 14) (v := ?_) (a' := ?_) #[true, false, true, false, false, true, false, false, false, false, false, false, false] rfl rfl (any_of HT_.out Z7_18) (fun _ _ _ h => h) (Or.inl ⟨by rfl, ?_⟩) ?_ ?_
    rotate_left
    ·intro w'
     go_simp
     with_reducible rfl
    rotate_left
    ·simp only [Act.put, List.setIfInBounds_toArray, List.set_cons_zero, List.set_cons_succ, i64_w, i32_w]
     rfl
    refine take_ (i := 1) (N := some 10) (v := ?_) (a' := ?_) #[true, true, true, false, false, true, false, false, false, false, false, false, false] rfl rfl (take_ofW HT_.out HW_.out Z7_18) (fun _ _ _ h => h) (Or.inl ⟨by rfl, ?_⟩) hHeld ?_ ?_
    rotate_left
    ·rintro w' ⟨s0, s1, s2, s3, s4, s5⟩
     go_simp
     with_reducible rfl
    rotate_left
    ·simp only [Act.put, List.setIfInBounds_toArray, List.set_cons_zero, List.set_cons_succ, i64_w, i32_w]
     rfl
    refine take_ (i := 3) (N := some 12) (v := ?_) (a' := ?_) #[true, true, true, true, false, true, false, false, false, false, false, false, false] rfl rfl (take_ofW HT_.out HW_.out Z7_18) (fun _ _ _ h => h) (Or.inl ⟨by rfl, ?_⟩) hHeld ?_ ?_
    rotate_left
    ·rintro w' ⟨s0, s1, s2, s3, s4, s5⟩
     go_simp
     with_reducible rfl
    rotate_left
    ·simp only [Act.put, List.setIfInBounds_toArray, List.set_cons_zero, List.set_cons_succ, i64_w, i32_w]
     rfl
    refine pure_ (i := 4) (N := some 13) (v := ?_) (a' := ?_) #[true, true, true, true, true, true, false, false, false, false, false, false, false] rfl rfl (any_of HT_.out Z7_18) (fun _ _ _ h => h) (Or.inl ⟨by rfl, ?_⟩) ?_ ?_
    rotate_left
    ·intro w'
     go_simp
     with_reducible rfl
    rotate_left
    ·simp only [Act.put, List.setIfInBounds_toArray, List.set_cons_zero, List.set_cons_succ, i64_w, i32_w]
     rfl
    refine take_ (i := 6) (N := some 15) (v := ?_) (a' := ?_) #[true, true, true, true, true, true, true, false, false, false, false, false, false] rfl rfl (take_ofW HT_.out HW_.out Z7_18) (fun _ _ _ h => h) (Or.inl ⟨by rfl, ?_⟩) hHeld ?_ ?_
    rotate_left
    ·rintro w' ⟨s0, s1, s2, s3, s4, s5⟩
     go_simp
     with_reducible rfl
    rotate_left
    ·simp only [Act.put, List.setIfInBounds_toArray, List.set_cons_zero, List.set_cons_succ, i64_w, i32_w]
     rfl
    refine join_ (σ := Value × Value × Nat) 1 #[true, true, true, true, true, true, true, true, true, true, true, true, false] (fun s_ => [(16, s_.1), (18, s_.2.1), (4, .pointer (some ⟨s_.2.2, 0, none⟩)), (17, .agg #[.int .i64 4096, .int .i64 5, .int .i64 (l0_2.length : Int), s_.1]), (19, .agg #[.int .i64 a0_4, s_.2.1])]) (fun s_ w' => (w'.cell? ⟨gb194, 0, none⟩ = some (.int .i64 a0_0) ∧ w'.cell? ⟨gb194, 1, none⟩ = some (.int .i64 a0_1) ∧ w'.cell? ⟨gb194, 2, none⟩ = some (.slice A0_2 l0_2.length c0_2) ∧ w'.cell? ⟨gb194, 3, none⟩ = some (.slice A0_3 l0_3.length c0_3) ∧ w'.cell? ⟨gb194, 4, none⟩ = some (.int .i64 a0_4) ∧ w'.cell? ⟨gb194, 5, none⟩ = some (.slice A0_5 l0_5.length c0_5)) ∧ (Kd.S k58 58 w' w.heap.size (fun _ => True) s_.2.1 y199) ∧ (w'.heap[gb194]? = some (.cells #[.int .i64 a0_0, .int .i64 a0_1, .slice A0_2 l0_2.length c0_2, .slice A0_3 l0_3.length c0_3, .int .i64 a0_4, .slice A0_5 l0_5.length c0_5] 51 (0, 0))) ∧ (w'.heap[gb195]? = some (.cells #[.int .i64 0, .slice none 0 0] 29 (0, 0))) ∧ (w'.heap[s_.2.2]? = some (.cells #[.int .i64 0, .slice none 0 0] 29 (0, 0))) ∧ (w.heap.size ≤ s_.2.2) ∧ (w.heap.size ≤ s_.2.2) ∧ (gb194 ≠ s_.2.2) ∧ (s_.2.2 ≠ gb194) ∧ (gb195 ≠ s_.2.2) ∧ (s_.2.2 ≠ gb195) ∧ (Below w.heap.size w w')) ?_ ?_
    rotate_left
    ·intro hCont
     refine two_ (i := 7) (j := 11) (Ni := some 16) (Nj := some 4) #[true, true, true, true, true, true, true, true, false, false, false, false, false] #[true, true, true, true, true, true, true, false, false, false, false, true, false] rfl rfl rfl rfl (two_of HT_.out Z7_18) Z7_35 Z7_35 (fun K hK => ?_) (fun K hK => ?_)
     ·skip
      refine goes_ Try.func44 Z7_18 rfl #[.slice A0_2 l0_2.length c0_2] (by rfl) rfl rfl Z7_10 ?_
      with_reducible refine (impl_copied.calls _ _ l0_2 t196 _ ?side1 ?side2 A3.out).mono ?_
      (case side1 => exact Z7_15)
      (case side2 => exact HC0_2.out)
      rintro e w42 ⟨v197, rfl, ho0, hb⟩
      refine ⟨_, rfl, ?_⟩
      have n0_ := Aside0.mk (Kd.R_lower ho0 (below_size Z7_2))
      have n1_ := Aside0.mk (blk_below (g := gb194) (o := .cells #[.int .i64 a0_0, .int .i64 a0_1, .slice A0_2 l0_2.length c0_2, .slice A0_3 l0_3.length c0_3, .int .i64 a0_4, .slice A0_5 l0_5.length c0_5] 51 (0, 0)) Z7_3 hb)
      have n2_ := Aside0.mk (blk_below (g := gb195) (o := .cells #[.int .i64 0, .slice none 0 0] 29 (0, 0)) Z7_4 hb)
      have n3_ := Aside0.mk (below_step Z7_2 hb)
      clear BK194
      clear BK195
      clear HB
      have HO198 := n0_
      have BK194 := n1_
      have BK195 := n2_
      have HB := n3_
      clear n0_ n1_ n2_ n3_
      (try clear hb)
      (try clear hb2)
      (try clear hk)
      (try clear hi)
      (try clear ho0)
      obtain ⟨Ao43, co43, eo43⟩ := Kd.R_slice HO198.out
      (first | subst eo43 | (injection eo43 with f1_ f2_ f3_; have f4_ := f1_.symm; have f5_ := f3_.symm; clear f1_ f2_ f3_; subst f4_; subst f5_))
      refine hK.out _ _ ⟨(blk_cell BK194.out 0).trans rfl, (blk_cell BK194.out 1).trans rfl, (blk_cell BK194.out 2).trans rfl, (blk_cell BK194.out 3).trans rfl, (blk_cell BK194.out 4).trans rfl, (blk_cell BK194.out 5).trans rfl⟩ (fun hHeld => ?_)
      clear hK K
      refine norm_ (a' := ?_) ?_ ?_
      rotate_left
      ·show Act.put _ (some 16) _ = _
       simp only [Act.put, List.setIfInBounds_toArray, List.set_cons_zero, List.set_cons_succ, i64_w, i32_w]
       rfl
      refine pure_ (i := 8) (N := some 17) (v := ?_) (a' := ?_) #[true, true, true, true, true, true, true, true, true, false, false, false, false] rfl rfl (any_of HT_.out Z7_18) (fun _ _ _ h => h) (Or.inl ⟨by rfl, ?_⟩) ?_ ?_
      rotate_left
      ·intro w'
       go_simp
       with_reducible rfl
      rotate_left
      ·simp only [Act.put, List.setIfInBounds_toArray, List.set_cons_zero, List.set_cons_succ, i64_w, i32_w]
       rfl
      refine two_ (i := 9) (j := 11) (Ni := some 18) (Nj := some 4) #[true, true, true, true, true, true, true, true, true, true, false, false, false] #[true, true, true, true, true, true, true, true, true, false, false, true, false] rfl rfl rfl rfl (two_of HT_.out Z7_18) Z7_35 Z7_35 (fun K hK => ?_) (fun K hK => ?_)
      ·skip
       refine Kd.S_lits_step k58 (w0 := w) w.heap.size 58 ?hg (N := 18) ?hd (xs := ([(⟨4096, 5, (l0_2.length : Int), t196⟩ : S58)] : List (S58))) (inner := [.int .i64 4096, .int .i64 5, .int .i64 (l0_2.length : Int), .slice Ao43 t196.length co43]) (ok := (fun _ => True)) (fun j_ k_ => j_ = 0 ∧ (fun k_ => some k_ = (.slice Ao43 t196.length co43 : Value).ownBlock) k_) ?hr rfl ?hp (fun _ _ _ h1_ h2_ => h1_.1.trans h2_.1.symm) (fun _ k_ h_ => ((show ∀ k_, (fun k_ => some k_ = (.slice Ao43 t196.length co43 : Value).ownBlock) k_ → ((fun _ => True)) k_ ∧ some k_ ≠ (.slice none 0 0 : Value).ownBlock from (fun k_ hk_ => ((Kd.R_mono (ok' := fun k_ => ((fun _ => True)) k_ ∧ some k_ ≠ (.slice none 0 0 : Value).ownBlock) (HO198.out) (fun k_ hk => ⟨trivial, Z7_22⟩))).1 k_ hk_.symm)) k_ h_.2).1) ?aF ?aB ?aS (by simp) ?_; (case hd => rfl); (case hg => rfl); (case hr => exact Z7_13); (case hp => exact Z7_5)
       (case aB => exact Z7_2)
       (case aF => exact (show ∀ k_, w42.heap.size ≤ k_ → (fun _ => True) k_ from (fun _ _ => trivial)) _ (Nat.le_refl _))
       (case aS => exact (below_size Z7_2))
       intro v200 w44 ho hb hg hat
       rw [← Ny199.out] at ho
       have n0_ := Aside0.mk (blk_grown (g := gb194) (o := .cells #[.int .i64 a0_0, .int .i64 a0_1, .slice A0_2 l0_2.length c0_2, .slice A0_3 l0_3.length c0_3, .int .i64 a0_4, .slice A0_5 l0_5.length c0_5] 51 (0, 0)) Z7_3 hg Z7_22)
       have n1_ := Aside0.mk (blk_grown (g := gb195) (o := .cells #[.int .i64 0, .slice none 0 0] 29 (0, 0)) Z7_4 hg Z7_22)
       have n2_ := Aside0.mk (hb)
       have n3_ := Aside0.mk (ho)
       clear BK194
       clear BK195
       clear HB
       clear HO198
       have BK194 := n0_
       have BK195 := n1_
       have HB := n2_
       have HO201 := n3_
       clear n0_ n1_ n2_ n3_
       clear ho hb hg hat
       obtain ⟨Ao45, co45, eo45⟩ := Kd.S_slice HO201.out
       (first | subst eo45 | (injection eo45 with f1_ f2_ f3_; have f4_ := f1_.symm; have f5_ := f3_.symm; clear f1_ f2_ f3_; subst f4_; subst f5_))
       refine hK.out _ _ ⟨(blk_cell BK194.out 0).trans rfl, (blk_cell BK194.out 1).trans rfl, (blk_cell BK194.out 2).trans rfl, (blk_cell BK194.out 3).trans rfl, (blk_cell BK194.out 4).trans rfl, (blk_cell BK194.out 5).trans rfl⟩ (fun hHeld => ?_)
       clear hK K
       refine norm_ (a' := ?_) ?_ ?_
       rotate_left
       ·show Act.put _ (some 18) _ = _
        simp only [Act.put, List.setIfInBounds_toArray, List.set_cons_zero, List.set_cons_succ, i64_w, i32_w]
        rfl
       refine pure_ (i := 10) (N := some 19) (v := ?_) (a' := ?_) #[true, true, true, true, true, true, true, true, true, true, true, false, false] rfl rfl (any_of HT_.out Z7_18) (fun _ _ _ h => h) (Or.inl ⟨by rfl, ?_⟩) ?_ ?_
       rotate_left
       ·intro w'
        go_simp
        with_reducible rfl
       rotate_left
       ·simp only [Act.put, List.setIfInBounds_toArray, List.set_cons_zero, List.set_cons_succ, i64_w, i32_w]
        rfl
       refine one_ (i := 11) (N := some 4) #[true, true, true, true, true, true, true, true, true, true, true, true, false] rfl rfl (one_of HT_.out Z7_18) Z7_35 (fun K hK => ?_)
       refine box_step ?hg (N := 4) ?hd (cs := #[.int .i64 0, .slice none 0 0]) (t := 29) ?hr ?_; (case hd => rfl); (case hg => rfl); (case hr => exact Z7_13)
       intro gb202 hg w46 hbox hb
       have n0_ := Aside0.mk (Kd.S_below Z7_12 hb)
       have n1_ := Aside0.mk (blk_below (g := gb194) (o := .cells #[.int .i64 a0_0, .int .i64 a0_1, .slice A0_2 l0_2.length c0_2, .slice A0_3 l0_3.length c0_3, .int .i64 a0_4, .slice A0_5 l0_5.length c0_5] 51 (0, 0)) Z7_3 hb)
       have n2_ := Aside0.mk (blk_below (g := gb195) (o := .cells #[.int .i64 0, .slice none 0 0] 29 (0, 0)) Z7_4 hb)
       have n3_ := Aside0.mk (below_step Z7_2 hb)
       have n4_ := Aside0.mk (hbox)
       have n5_ := Aside0.mk ((Z7_24 : w.heap.size ≤ gb202))
       have n6_ := Aside0.mk ((Z7_24 : w.heap.size ≤ gb202))
       have n7_ := Aside0.mk ((Z7_6 : gb194 ≠ gb202))
       have n8_ := Aside0.mk ((Z7_7 : gb202 ≠ gb194))
       have n9_ := Aside0.mk ((Z7_16 : gb195 ≠ gb202))
       have n10_ := Aside0.mk ((Z7_17 : gb202 ≠ gb195))
       clear HO201
       clear BK194
       clear BK195
       clear HB
       have HO201 := n0_
       have BK194 := n1_
       have BK195 := n2_
       have HB := n3_
       have BK202 := n4_
       have GW202 := n5_
       have GE202 := n6_
       have NB194_202 := n7_
       have NB202_194 := n8_
       have NB195_202 := n9_
       have NB202_195 := n10_
       clear n0_ n1_ n2_ n3_ n4_ n5_ n6_ n7_ n8_ n9_ n10_
       clear hb hbox hg
       refine hK.out _ _ ⟨(blk_cell BK194.out 0).trans rfl, (blk_cell BK194.out 1).trans rfl, (blk_cell BK194.out 2).trans rfl, (blk_cell BK194.out 3).trans rfl, (blk_cell BK194.out 4).trans rfl, (blk_cell BK194.out 5).trans rfl⟩ (fun hHeld => ?_)
       clear hK K
       refine norm_ (a' := ?_) ?_ ?_
       rotate_left
       ·show Act.put _ (some 4) _ = _
        simp only [Act.put, List.setIfInBounds_toArray, List.set_cons_zero, List.set_cons_succ, i64_w, i32_w]
        rfl
       exact norm_ Z7_19 (hCont (.slice Ao43 t196.length co43, .slice Ao45 y199.length co45, gb202) _ ⟨hHeld, Z7_12, Z7_3, Z7_4, Z7_8, GW202.out, GE202.out, NB194_202.out, NB202_194.out, NB195_202.out, NB202_195.out, Z7_1⟩)
      skip
      refine box_step ?hg (N := 4) ?hd (cs := #[.int .i64 0, .slice none 0 0]) (t := 29) ?hr ?_; (case hd => rfl); (case hg => rfl); (case hr => exact Z7_13)
      intro gb202 hg w44 hbox hb
      have n0_ := Aside0.mk (Kd.R_below Z7_29 hb)
      have n1_ := Aside0.mk (blk_below (g := gb194) (o := .cells #[.int .i64 a0_0, .int .i64 a0_1, .slice A0_2 l0_2.length c0_2, .slice A0_3 l0_3.length c0_3, .int .i64 a0_4, .slice A0_5 l0_5.length c0_5] 51 (0, 0)) Z7_3 hb)
      have n2_ := Aside0.mk (blk_below (g := gb195) (o := .cells #[.int .i64 0, .slice none 0 0] 29 (0, 0)) Z7_4 hb)
      have n3_ := Aside0.mk (below_step Z7_2 hb)
      have n4_ := Aside0.mk (hbox)
      have n5_ := Aside0.mk ((Z7_24 : w.heap.size ≤ gb202))
      have n6_ := Aside0.mk ((Z7_24 : w.heap.size ≤ gb202))
      have n7_ := Aside0.mk ((Z7_6 : gb194 ≠ gb202))
      have n8_ := Aside0.mk ((Z7_7 : gb202 ≠ gb194))
      have n9_ := Aside0.mk ((Z7_16 : gb195 ≠ gb202))
      have n10_ := Aside0.mk ((Z7_17 : gb202 ≠ gb195))
      clear HO198
      clear BK194
      clear BK195
      clear HB
      have HO198 := n0_
      have BK194 := n1_
      have BK195 := n2_
      have HB := n3_
      have BK202 := n4_
      have GW202 := n5_
      have GE202 := n6_
      have NB194_202 := n7_
      have NB202_194 := n8_
      have NB195_202 := n9_
      have NB202_195 := n10_
      clear n0_ n1_ n2_ n3_ n4_ n5_ n6_ n7_ n8_ n9_ n10_
      clear hb hbox hg
      refine hK.out _ _ ⟨(blk_cell BK194.out 0).trans rfl, (blk_cell BK194.out 1).trans rfl, (blk_cell BK194.out 2).trans rfl, (blk_cell BK194.out 3).trans rfl, (blk_cell BK194.out 4).trans rfl, (blk_cell BK194.out 5).trans rfl⟩ (fun hHeld => ?_)
      clear hK K
      refine norm_ (a' := ?_) ?_ ?_
      rotate_left
      ·show Act.put _ (some 4) _ = _
       simp only [Act.put, List.setIfInBounds_toArray, List.set_cons_zero, List.set_cons_succ, i64_w, i32_w]
       rfl
      refine one_ (i := 9) (N := some 18) #[true, true, true, true, true, true, true, true, true, true, false, true, false] rfl rfl (one_of HT_.out Z7_18) Z7_35 (fun K hK => ?_)
      refine Kd.S_lits_step k58 (w0 := w) w.heap.size 58 ?hg (N := 18) ?hd (xs := ([(⟨4096, 5, (l0_2.length : Int), t196⟩ : S58)] : List (S58))) (inner := [.int .i64 4096, .int .i64 5, .int .i64 (l0_2.length : Int), .slice Ao43 t196.length co43]) (ok := (fun _ => True)) (fun j_ k_ => j_ = 0 ∧ (fun k_ => some k_ = (.slice Ao43 t196.length co43 : Value).ownBlock) k_) ?hr rfl ?hp (fun _ _ _ h1_ h2_ => h1_.1.trans h2_.1.symm) (fun _ k_ h_ => ((show ∀ k_, (fun k_ => some k_ = (.slice Ao43 t196.length co43 : Value).ownBlock) k_ → ((fun _ => True)) k_ ∧ some k_ ≠ (.slice none 0 0 : Value).ownBlock from (fun k_ hk_ => ((Kd.R_mono (ok' := fun k_ => ((fun _ => True)) k_ ∧ some k_ ≠ (.slice none 0 0 : Value).ownBlock) (HO198.out) (fun k_ hk => ⟨trivial, Z7_22⟩))).1 k_ hk_.symm)) k_ h_.2).1) ?aF ?aB ?aS (by simp) ?_; (case hd => rfl); (case hg => rfl); (case hr => exact Z7_13); (case hp => exact Z7_5)
      (case aB => exact Z7_1)
      (case aF => exact (show ∀ k_, w44.heap.size ≤ k_ → (fun _ => True) k_ from (fun _ _ => trivial)) _ (Nat.le_refl _))
      (case aS => exact (below_size Z7_1))
      intro v200 w45 ho hb hg hat
      rw [← Ny199.out] at ho
      have n0_ := Aside0.mk (blk_grown (g := gb194) (o := .cells #[.int .i64 a0_0, .int .i64 a0_1, .slice A0_2 l0_2.length c0_2, .slice A0_3 l0_3.length c0_3, .int .i64 a0_4, .slice A0_5 l0_5.length c0_5] 51 (0, 0)) Z7_3 hg Z7_22)
      have n1_ := Aside0.mk (blk_grown (g := gb195) (o := .cells #[.int .i64 0, .slice none 0 0] 29 (0, 0)) Z7_4 hg Z7_22)
      have n2_ := Aside0.mk (blk_grown (g := gb202) (o := .cells #[.int .i64 0, .slice none 0 0] 29 (0, 0)) Z7_8 hg Z7_22)
      have n3_ := Aside0.mk (hb)
      have n4_ := Aside0.mk (ho)
      clear BK194
      clear BK195
      clear BK202
      clear HB
      clear HO198
      have BK194 := n0_
      have BK195 := n1_
      have BK202 := n2_
      have HB := n3_
      have HO201 := n4_
      clear n0_ n1_ n2_ n3_ n4_
      clear ho hb hg hat
      obtain ⟨Ao46, co46, eo46⟩ := Kd.S_slice HO201.out
      (first | subst eo46 | (injection eo46 with f1_ f2_ f3_; have f4_ := f1_.symm; have f5_ := f3_.symm; clear f1_ f2_ f3_; subst f4_; subst f5_))
      refine hK.out _ _ ⟨(blk_cell BK194.out 0).trans rfl, (blk_cell BK194.out 1).trans rfl, (blk_cell BK194.out 2).trans rfl, (blk_cell BK194.out 3).trans rfl, (blk_cell BK194.out 4).trans rfl, (blk_cell BK194.out 5).trans rfl⟩ (fun hHeld => ?_)
      clear hK K
      refine norm_ (a' := ?_) ?_ ?_
      rotate_left
      ·show Act.put _ (some 18) _ = _
       simp only [Act.put, List.setIfInBounds_toArray, List.set_cons_zero, List.set_cons_succ, i64_w, i32_w]
       rfl
      refine pure_ (i := 10) (N := some 19) (v := ?_) (a' := ?_) #[true, true, true, true, true, true, true, true, true, true, true, true, false] rfl rfl (any_of HT_.out Z7_18) (fun _ _ _ h => h) (Or.inl ⟨by rfl, ?_⟩) ?_ ?_
      rotate_left
      ·intro w'
       go_simp
       with_reducible rfl
      rotate_left
      ·simp only [Act.put, List.setIfInBounds_toArray, List.set_cons_zero, List.set_cons_succ, i64_w, i32_w]
       rfl
      exact norm_ Z7_19 (hCont (.slice Ao43 t196.length co43, .slice Ao46 y199.length co46, gb202) _ ⟨hHeld, Z7_12, Z7_3, Z7_4, Z7_8, GW202.out, GE202.out, NB194_202.out, NB202_194.out, NB195_202.out, NB202_195.out, Z7_1⟩)
     skip
     refine box_step ?hg (N := 4) ?hd (cs := #[.int .i64 0, .slice none 0 0]) (t := 29) ?hr ?_; (case hd => rfl); (case hg => rfl); (case hr => exact Z7_13)
     intro gb202 hg w42 hbox hb
     have n0_ := Aside0.mk (blk_below (g := gb194) (o := .cells #[.int .i64 a0_0, .int .i64 a0_1, .slice A0_2 l0_2.length c0_2, .slice A0_3 l0_3.length c0_3, .int .i64 a0_4, .slice A0_5 l0_5.length c0_5] 51 (0, 0)) Z7_3 hb)
     have n1_ := Aside0.mk (blk_below (g := gb195) (o := .cells #[.int .i64 0, .slice none 0 0] 29 (0, 0)) Z7_4 hb)
     have n2_ := Aside0.mk (below_step Z7_2 hb)
     have n3_ := Aside0.mk (hbox)
     have n4_ := Aside0.mk ((Z7_24 : w.heap.size ≤ gb202))
     have n5_ := Aside0.mk ((Z7_24 : w.heap.size ≤ gb202))
     have n6_ := Aside0.mk ((Z7_6 : gb194 ≠ gb202))
     have n7_ := Aside0.mk ((Z7_7 : gb202 ≠ gb194))
     have n8_ := Aside0.mk ((Z7_16 : gb195 ≠ gb202))
     have n9_ := Aside0.mk ((Z7_17 : gb202 ≠ gb195))
     clear BK194
     clear BK195
     clear HB
     have BK194 := n0_
     have BK195 := n1_
     have HB := n2_
     have BK202 := n3_
     have GW202 := n4_
     have GE202 := n5_
     have NB194_202 := n6_
     have NB202_194 := n7_
     have NB195_202 := n8_
     have NB202_195 := n9_
     clear n0_ n1_ n2_ n3_ n4_ n5_ n6_ n7_ n8_ n9_
     clear hb hbox hg
     refine hK.out _ _ ⟨(blk_cell BK194.out 0).trans rfl, (blk_cell BK194.out 1).trans rfl, (blk_cell BK194.out 2).trans rfl, (blk_cell BK194.out 3).trans rfl, (blk_cell BK194.out 4).trans rfl, (blk_cell BK194.out 5).trans rfl⟩ (fun hHeld => ?_)
     clear hK K
     refine norm_ (a' := ?_) ?_ ?_
     rotate_left
     ·show Act.put _ (some 4) _ = _
      simp only [Act.put, List.setIfInBounds_toArray, List.set_cons_zero, List.set_cons_succ, i64_w, i32_w]
      rfl
     refine one_ (i := 7) (N := some 16) #[true, true, true, true, true, true, true, true, false, false, false, true, false] rfl rfl (one_of HT_.out Z7_18) Z7_35 (fun K hK => ?_)
     refine goes_ Try.func44 Z7_18 rfl #[.slice A0_2 l0_2.length c0_2] (by rfl) rfl rfl Z7_10 ?_
     with_reducible refine (impl_copied.calls _ _ l0_2 t196 _ ?side1 ?side2 A3.out).mono ?_
     (case side1 => exact Z7_15)
     (case side2 => exact HC0_2.out)
     rintro e w43 ⟨v197, rfl, ho0, hb⟩
     refine ⟨_, rfl, ?_⟩
     have n0_ := Aside0.mk (Kd.R_lower ho0 (below_size Z7_1))
     have n1_ := Aside0.mk (blk_below (g := gb194) (o := .cells #[.int .i64 a0_0, .int .i64 a0_1, .slice A0_2 l0_2.length c0_2, .slice A0_3 l0_3.length c0_3, .int .i64 a0_4, .slice A0_5 l0_5.length c0_5] 51 (0, 0)) Z7_3 hb)
     have n2_ := Aside0.mk (blk_below (g := gb195) (o := .cells #[.int .i64 0, .slice none 0 0] 29 (0, 0)) Z7_4 hb)
     have n3_ := Aside0.mk (blk_below (g := gb202) (o := .cells #[.int .i64 0, .slice none 0 0] 29 (0, 0)) Z7_8 hb)
     have n4_ := Aside0.mk (below_step Z7_1 hb)
     clear BK194
     clear BK195
     clear BK202
     clear HB
     have HO198 := n0_
     have BK194 := n1_
     have BK195 := n2_
     have BK202 := n3_
     have HB := n4_
     clear n0_ n1_ n2_ n3_ n4_
     (try clear hb)
     (try clear hb2)
     (try clear hk)
     (try clear hi)
     (try clear ho0)
     obtain ⟨Ao44, co44, eo44⟩ := Kd.R_slice HO198.out
     (first | subst eo44 | (injection eo44 with f1_ f2_ f3_; have f4_ := f1_.symm; have f5_ := f3_.symm; clear f1_ f2_ f3_; subst f4_; subst f5_))
     refine hK.out _ _ ⟨(blk_cell BK194.out 0).trans rfl, (blk_cell BK194.out 1).trans rfl, (blk_cell BK194.out 2).trans rfl, (blk_cell BK194.out 3).trans rfl, (blk_cell BK194.out 4).trans rfl, (blk_cell BK194.out 5).trans rfl⟩ (fun hHeld => ?_)
     clear hK K
     refine norm_ (a' := ?_) ?_ ?_
     rotate_left
     ·show Act.put _ (some 16) _ = _
      simp only [Act.put, List.setIfInBounds_toArray, List.set_cons_zero, List.set_cons_succ, i64_w, i32_w]
      rfl
     refine pure_ (i := 8) (N := some 17) (v := ?_) (a' := ?_) #[true, true, true, true, true, true, true, true, true, false, false, true, false] rfl rfl (any_of HT_.out Z7_18) (fun _ _ _ h => h) (Or.inl ⟨by rfl, ?_⟩) ?_ ?_
     rotate_left
     ·intro w'
      go_simp
      with_reducible rfl
     rotate_left
     ·simp only [Act.put, List.setIfInBounds_toArray, List.set_cons_zero, List.set_cons_succ, i64_w, i32_w]
      rfl
     refine one_ (i := 9) (N := some 18) #[true, true, true, true, true, true, true, true, true, true, false, true, false] rfl rfl (one_of HT_.out Z7_18) Z7_35 (fun K hK => ?_)
     refine Kd.S_lits_step k58 (w0 := w) w.heap.size 58 ?hg (N := 18) ?hd (xs := ([(⟨4096, 5, (l0_2.length : Int), t196⟩ : S58)] : List (S58))) (inner := [.int .i64 4096, .int .i64 5, .int .i64 (l0_2.length : Int), .slice Ao44 t196.length co44]) (ok := (fun _ => True)) (fun j_ k_ => j_ = 0 ∧ (fun k_ => some k_ = (.slice Ao44 t196.length co44 : Value).ownBlock) k_) ?hr rfl ?hp (fun _ _ _ h1_ h2_ => h1_.1.trans h2_.1.symm) (fun _ k_ h_ => ((show ∀ k_, (fun k_ => some k_ = (.slice Ao44 t196.length co44 : Value).ownBlock) k_ → ((fun _ => True)) k_ ∧ some k_ ≠ (.slice none 0 0 : Value).ownBlock from (fun k_ hk_ => ((Kd.R_mono (ok' := fun k_ => ((fun _ => True)) k_ ∧ some k_ ≠ (.slice none 0 0 : Value).ownBlock) (HO198.out) (fun k_ hk => ⟨trivial, Z7_22⟩))).1 k_ hk_.symm)) k_ h_.2).1) ?aF ?aB ?aS (by simp) ?_; (case hd => rfl); (case hg => rfl); (case hr => exact Z7_13); (case hp => exact Z7_5)
     (case aB => exact Z7_1)
     (case aF => exact (show ∀ k_, w43.heap.size ≤ k_ → (fun _ => True) k_ from (fun _ _ => trivial)) _ (Nat.le_refl _))
     (case aS => exact (below_size Z7_1))
     intro v200 w45 ho hb hg hat
     rw [← Ny199.out] at ho
     have n0_ := Aside0.mk (blk_grown (g := gb194) (o := .cells #[.int .i64 a0_0, .int .i64 a0_1, .slice A0_2 l0_2.length c0_2, .slice A0_3 l0_3.length c0_3, .int .i64 a0_4, .slice A0_5 l0_5.length c0_5] 51 (0, 0)) Z7_3 hg Z7_22)
     have n1_ := Aside0.mk (blk_grown (g := gb195) (o := .cells #[.int .i64 0, .slice none 0 0] 29 (0, 0)) Z7_4 hg Z7_22)
     have n2_ := Aside0.mk (blk_grown (g := gb202) (o := .cells #[.int .i64 0, .slice none 0 0] 29 (0, 0)) Z7_8 hg Z7_22)
     have n3_ := Aside0.mk (hb)
     have n4_ := Aside0.mk (ho)
     clear BK194
     clear BK195
     clear BK202
     clear HB
     clear HO198
     have BK194 := n0_
     have BK195 := n1_
     have BK202 := n2_
     have HB := n3_
     have HO201 := n4_
     clear n0_ n1_ n2_ n3_ n4_
     clear ho hb hg hat
     obtain ⟨Ao46, co46, eo46⟩ := Kd.S_slice HO201.out
     (first | subst eo46 | (injection eo46 with f1_ f2_ f3_; have f4_ := f1_.symm; have f5_ := f3_.symm; clear f1_ f2_ f3_; subst f4_; subst f5_))
     refine hK.out _ _ ⟨(blk_cell BK194.out 0).trans rfl, (blk_cell BK194.out 1).trans rfl, (blk_cell BK194.out 2).trans rfl, (blk_cell BK194.out 3).trans rfl, (blk_cell BK194.out 4).trans rfl, (blk_cell BK194.out 5).trans rfl⟩ (fun hHeld => ?_)
     clear hK K
     refine norm_ (a' := ?_) ?_ ?_
     rotate_left
     ·show Act.put _ (some 18) _ = _
      simp only [Act.put, List.setIfInBounds_toArray, List.set_cons_zero, List.set_cons_succ, i64_w, i32_w]
      rfl
     refine pure_ (i := 10) (N := some 19) (v := ?_) (a' := ?_) #[true, true, true, true, true, true, true, true, true, true, true, true, false] rfl rfl (any_of HT_.out Z7_18) (fun _ _ _ h => h) (Or.inl ⟨by rfl, ?_⟩) ?_ ?_
     rotate_left
     ·intro w'
      go_simp
      with_reducible rfl
     rotate_left
     ·simp only [Act.put, List.setIfInBounds_toArray, List.set_cons_zero, List.set_cons_succ, i64_w, i32_w]
      rfl
     exact norm_ Z7_19 (hCont (.slice Ao44 t196.length co44, .slice Ao46 y199.length co46, gb202) _ ⟨hHeld, Z7_12, Z7_3, Z7_4, Z7_8, GW202.out, GE202.out, NB194_202.out, NB202_194.out, NB195_202.out, NB202_195.out, Z7_1⟩)
    rintro ⟨v197, v200, gb202⟩ w47 ⟨hS_, h0_, h1_, h2_, h3_, h4_, h5_, h6_, h7_, h8_, h9_, h10_⟩
    have n0_ : Aside0 (Kd.S k58 58 w47 w.heap.size (fun _ => True) v200 y199) := ⟨h0_⟩
    have n1_ : Aside0 (w47.heap[gb194]? = some (.cells #[.int .i64 a0_0, .int .i64 a0_1, .slice A0_2 l0_2.length c0_2, .slice A0_3 l0_3.length c0_3, .int .i64 a0_4, .slice A0_5 l0_5.length c0_5] 51 (0, 0))) := ⟨h1_⟩
    have n2_ : Aside0 (w47.heap[gb195]? = some (.cells #[.int .i64 0, .slice none 0 0] 29 (0, 0))) := ⟨h2_⟩
    have n3_ : Aside0 (w47.heap[gb202]? = some (.cells #[.int .i64 0, .slice none 0 0] 29 (0, 0))) := ⟨h3_⟩
    have n4_ : Aside0 (w.heap.size ≤ gb202) := ⟨h4_⟩
    have n5_ : Aside0 (w.heap.size ≤ gb202) := ⟨h5_⟩
    have n6_ : Aside0 (gb194 ≠ gb202) := ⟨h6_⟩
    have n7_ : Aside0 (gb202 ≠ gb194) := ⟨h7_⟩
    have n8_ : Aside0 (gb195 ≠ gb202) := ⟨h8_⟩
    have n9_ : Aside0 (gb202 ≠ gb195) := ⟨h9_⟩
    have n10_ : Aside0 (Below w.heap.size w w47) := ⟨h10_⟩
    clear BK194
    clear BK195
    clear HB
    clear h0_ h1_ h2_ h3_ h4_ h5_ h6_ h7_ h8_ h9_ h10_
    have HO201 := n0_
    have BK194 := n1_
    have BK195 := n2_
    have BK202 := n3_
    have GW202 := n4_
    have GE202 := n5_
    have NB194_202 := n6_
    have NB202_194 := n7_
    have NB195_202 := n8_
    have NB202_195 := n9_
    have HB := n10_
    clear n0_ n1_ n2_ n3_ n4_ n5_ n6_ n7_ n8_ n9_ n10_
    have hHeld : w47.cell? ⟨gb194, 0, none⟩ = some (.int .i64 a0_0) ∧ w47.cell? ⟨gb194, 1, none⟩ = some (.int .i64 a0_1) ∧ w47.cell? ⟨gb194, 2, none⟩ = some (.slice A0_2 l0_2.length c0_2) ∧ w47.cell? ⟨gb194, 3, none⟩ = some (.slice A0_3 l0_3.length c0_3) ∧ w47.cell? ⟨gb194, 4, none⟩ = some (.int .i64 a0_4) ∧ w47.cell? ⟨gb194, 5, none⟩ = some (.slice A0_5 l0_5.length c0_5) := hS_
    obtain ⟨Ao48, co48, eo48⟩ := Kd.S_slice HO201.out
    (first | subst eo48 | (injection eo48 with f1_ f2_ f3_; have f4_ := f1_.symm; have f5_ := f3_.symm; clear f1_ f2_ f3_; subst f4_; subst f5_))
    refine norm_ (a' := ?_) ?_ ?_
    rotate_left
    ·simp only [putAll, Act.put, List.setIfInBounds_toArray, List.set_cons_zero, List.set_cons_succ]
     rfl
    refine one_ (i := 12) (N := none) #[true, true, true, true, true, true, true, true, true, true, true, true, true] rfl rfl (one_of HT_.out Z7_18) Z7_35 (fun K hK => ?_)
    have hs49 : w47.cell? ⟨gb202, 0, none⟩ = some (.int .i64 0) := (blk_cell BK202.out 0).trans rfl
    have hfs49 := blk_frozen BK202.out 0
    have hns49_0 := NB194_202.out
    have hns49_1 := NB195_202.out
    have hms49_0 := NB202_194.out
    have hms49_1 := NB202_195.out
    have hs50 : w47.cell? ⟨gb202, 1, none⟩ = some (.slice none 0 0) := (blk_cell BK202.out 1).trans rfl
    have hfs50 := blk_frozen BK202.out 1
    have hns50_0 := NB194_202.out
    have hns50_1 := NB195_202.out
    have hms50_0 := NB202_194.out
    have hms50_1 := NB202_195.out
    refine skip_ (w1 := ?_) (by rfl) rfl ?_ ?_
    rotate_left
    ·go_simp
     rfl
    refine hK.out _ _ ⟨((cell_far (p := ⟨gb202, _, none⟩) NB194_202.out _).trans (((cell_far (p := ⟨gb202, _, none⟩) NB194_202.out _).trans (hHeld.1)))), ((cell_far (p := ⟨gb202, _, none⟩) NB194_202.out _).trans (((cell_far (p := ⟨gb202, _, none⟩) NB194_202.out _).trans (hHeld.2.1)))), ((cell_far (p := ⟨gb202, _, none⟩) NB194_202.out _).trans (((cell_far (p := ⟨gb202, _, none⟩) NB194_202.out _).trans (hHeld.2.2.1)))), ((cell_far (p := ⟨gb202, _, none⟩) NB194_202.out _).trans (((cell_far (p := ⟨gb202, _, none⟩) NB194_202.out _).trans (hHeld.2.2.2.1)))), ((cell_far (p := ⟨gb202, _, none⟩) NB194_202.out _).trans (((cell_far (p := ⟨gb202, _, none⟩) NB194_202.out _).trans (hHeld.2.2.2.2.1)))), ((cell_far (p := ⟨gb202, _, none⟩) NB194_202.out _).trans (((cell_far (p := ⟨gb202, _, none⟩) NB194_202.out _).trans (hHeld.2.2.2.2.2))))⟩ (fun hHeld => ?_)
    clear hK K
    refine done_ (done_of HT_.out Z7_18) ?_
    have hnb51 := NB194_202.out
    have hnc51 := NB202_194.out
    have hcz52_0 : w47.cell? ⟨gb194, 0, none⟩ = some (.int .i64 a0_0) := (blk_cell BK194.out 0).trans rfl
    have hcz52_1 : w47.cell? ⟨gb194, 1, none⟩ = some (.int .i64 a0_1) := (blk_cell BK194.out 1).trans rfl
    have hcz52_2 : w47.cell? ⟨gb194, 2, none⟩ = some (.slice A0_2 l0_2.length c0_2) := (blk_cell BK194.out 2).trans rfl
    have hcz52_3 : w47.cell? ⟨gb194, 3, none⟩ = some (.slice A0_3 l0_3.length c0_3) := (blk_cell BK194.out 3).trans rfl
    have hcz52_4 : w47.cell? ⟨gb194, 4, none⟩ = some (.int .i64 a0_4) := (blk_cell BK194.out 4).trans rfl
    have hcz52_5 : w47.cell? ⟨gb194, 5, none⟩ = some (.slice A0_5 l0_5.length c0_5) := (blk_cell BK194.out 5).trans rfl
    have hfz52_0 := blk_frozen BK194.out 0
    have hfz52_1 := blk_frozen BK194.out 1
    have hfz52_2 := blk_frozen BK194.out 2
    have hfz52_3 := blk_frozen BK194.out 3
    have hfz52_4 := blk_frozen BK194.out 4
    have hfz52_5 := blk_frozen BK194.out 5
    try go_wp2
    have n0_ : Aside0 (Kd.S k58 58 ((w47.setCell ⟨gb202, 0, none⟩ (.int .i64 a0_4)).setCell ⟨gb202, 1, none⟩ (.slice Ao48 y199.length co48)) w.heap.size (fun _ => True) (.slice Ao48 y199.length co48) y199) := ⟨by (with_reducible repeat (first | apply Kd.S_alloc | apply Kd.S_drewN | apply Kd.S_drew)); exact Kd.S_mono (Kd.S_far (p := ⟨gb202, 1, none⟩) (Kd.S_far (p := ⟨gb202, 0, none⟩) (Kd.S_types HO201.out BK202.out Z7_35) (fun _ hk => hk.2) (.int .i64 a0_4)) (fun _ hk => hk.2) (.slice Ao48 y199.length co48)) (fun _ hk => trivial)⟩
    have n1_ : Aside0 (((w47.setCell ⟨gb202, 0, none⟩ (.int .i64 a0_4)).setCell ⟨gb202, 1, none⟩ (.slice Ao48 y199.length co48)).heap[gb194]? = some (.cells #[.int .i64 a0_0, .int .i64 a0_1, .slice A0_2 l0_2.length c0_2, .slice A0_3 l0_3.length c0_3, .int .i64 a0_4, .slice A0_5 l0_5.length c0_5] 51 (0, 0))) := ⟨Z7_20⟩
    have n2_ : Aside0 (((w47.setCell ⟨gb202, 0, none⟩ (.int .i64 a0_4)).setCell ⟨gb202, 1, none⟩ (.slice Ao48 y199.length co48)).heap[gb195]? = some (.cells #[.int .i64 0, .slice none 0 0] 29 (0, 0))) := ⟨Z7_21⟩
    have n3_ : Aside0 (((w47.setCell ⟨gb202, 0, none⟩ (.int .i64 a0_4)).setCell ⟨gb202, 1, none⟩ (.slice Ao48 y199.length co48)).heap[gb202]? = some (.cells #[.int .i64 a0_4, .slice Ao48 y199.length co48] 29 (0, 0))) := ⟨Z7_14⟩
    have n4_ : Aside0 (Below w.heap.size w ((w47.setCell ⟨gb202, 0, none⟩ (.int .i64 a0_4)).setCell ⟨gb202, 1, none⟩ (.slice Ao48 y199.length co48))) := ⟨Z7_1⟩
    (try clear HO201)
    (try clear BK194)
    (try clear BK195)
    (try clear BK202)
    (try clear HB)
    generalize ((w47.setCell ⟨gb202, 0, none⟩ (.int .i64 a0_4)).setCell ⟨gb202, 1, none⟩ (.slice Ao48 y199.length co48)) = w53 at n0_ n1_ n2_ n3_ n4_ ⊢
    have HO201 := n0_
    have BK194 := n1_
    have BK195 := n2_
    have BK202 := n3_
    have HB := n4_
    clear n0_ n1_ n2_ n3_ n4_
    have n0_ := Aside0.mk (Kd.S_drew HO201.out)
    have n1_ := Aside0.mk (blk_drew BK194.out)
    have n2_ := Aside0.mk (blk_drew BK195.out)
    have n3_ := Aside0.mk (blk_drew BK202.out)
    have n4_ := Aside0.mk (below_drew1 HB.out)
    clear HO201
    clear BK194
    clear BK195
    clear BK202
    clear HB
    have HO201 := n0_
    have BK194 := n1_
    have BK195 := n2_
    have BK202 := n3_
    have HB := n4_
    clear n0_ n1_ n2_ n3_ n4_
    refine start_ (n := 13) (S := fun w' => w'.cell? ⟨gb202, 0, none⟩ = some (.int .i64 a0_4) ∧ w'.cell? ⟨gb202, 1, none⟩ = some (.slice Ao48 y199.length co48) ∧ w'.cell? ⟨gb194, 0, none⟩ = some (.int .i64 a0_0) ∧ w'.cell? ⟨gb194, 1, none⟩ = some (.int .i64 a0_1) ∧ w'.cell? ⟨gb194, 2, none⟩ = some (.slice A0_2 l0_2.length c0_2) ∧ w'.cell? ⟨gb194, 3, none⟩ = some (.slice A0_3 l0_3.length c0_3) ∧ w'.cell? ⟨gb194, 4, none⟩ = some (.int .i64 a0_4) ∧ w'.cell? ⟨gb194, 5, none⟩ = some (.slice A0_5 l0_5.length c0_5)) (ds := [12]) #[false, false, false, false, false, false, false, false, false, false, false, false, false] Z7_18 rfl rfl ⟨(blk_cell BK202.out 0).trans rfl, (blk_cell BK202.out 1).trans rfl, (blk_cell BK194.out 0).trans rfl, (blk_cell BK194.out 1).trans rfl, (blk_cell BK194.out 2).trans rfl, (blk_cell BK194.out 3).trans rfl, (blk_cell BK194.out 4).trans rfl, (blk_cell BK194.out 5).trans rfl⟩ (fun hHeld => ?_); refine with_tabW impl_Link.tab5 impl_Link.bits5 (fun HT_ HW_ => ?_)
    generalize w53.drew = w54 at HO201 BK194 BK195 BK202 HB hHeld ⊢
    refine pure_ (i := 0) (N := some 24) (v := ?_) (a' := ?_) #[true, false, false, false, false, false, false, false, false, false, false, false, false] rfl rfl (any_of HT_.out Z7_18) (fun _ _ _ h => h) (Or.inl ⟨by rfl, ?_⟩) ?_ ?_
    rotate_left
    ·intro w'
     go_simp
     with_reducible rfl
    rotate_left
    ·simp only [Act.put, List.setIfInBounds_toArray, List.set_cons_zero, List.set_cons_succ, i64_w, i32_w]
     rfl
    refine pure_ (i := 2) (N := some 26) (v := ?_) (a' := ?_) #[true, false, true, false, false, false, false, false, false, false, false, false, false] rfl rfl (any_of HT_.out Z7_18) (fun _ _ _ h => h) (Or.inl ⟨by rfl, ?_⟩) ?_ ?_
    rotate_left
    ·intro w'
     go_simp
     with_reducible rfl
    rotate_left
    ·simp only [Act.put, List.setIfInBounds_toArray, List.set_cons_zero, List.set_cons_succ, i64_w, i32_w]
     rfl
    refine pure_ (i := 5) (N := some 29) (v := ?_) (a' := ?_) #[true, false, true, false, false, true, false, false, false, false, false, false, false] rfl rfl (any_of HT_.out Z7_18) (fun _ _ _ h => h) (Or.inl ⟨by rfl, ?_⟩) ?_ ?_
    rotate_left
    ·intro w'
     go_simp
     with_reducible rfl
    rotate_left
    ·simp only [Act.put, List.setIfInBounds_toArray, List.set_cons_zero, List.set_cons_succ, i64_w, i32_w]
     rfl
    refine take_ (i := 1) (N := some 25) (v := ?_) (a' := ?_) #[true, true, true, false, false, true, false, false, false, false, false, false, false] rfl rfl (take_ofW HT_.out HW_.out Z7_18) (fun _ _ _ h => h) (Or.inl ⟨by rfl, ?_⟩) hHeld ?_ ?_
    rotate_left
    ·rintro w' ⟨s0, s1, s2, s3, s4, s5, s6, s7⟩
     go_simp
     with_reducible rfl
    rotate_left
    ·simp only [Act.put, List.setIfInBounds_toArray, List.set_cons_zero, List.set_cons_succ, i64_w, i32_w]
     rfl
    refine take_ (i := 3) (N := some 27) (v := ?_) (a' := ?_) #[true, true, true, true, false, true, false, false, false, false, false, false, false] rfl rfl (take_ofW HT_.out HW_.out Z7_18) (fun _ _ _ h => h) (Or.inl ⟨by rfl, ?_⟩) hHeld ?_ ?_
    rotate_left
    ·rintro w' ⟨s0, s1, s2, s3, s4, s5, s6, s7⟩
     go_simp
     with_reducible rfl
    rotate_left
    ·simp only [Act.put, List.setIfInBounds_toArray, List.set_cons_zero, List.set_cons_succ, i64_w, i32_w]
     rfl
    refine pure_ (i := 4) (N := some 28) (v := ?_) (a' := ?_) #[true, true, true, true, true, true, false, false, false, false, false, false, false] rfl rfl (any_of HT_.out Z7_18) (fun _ _ _ h => h) (Or.inl ⟨by rfl, ?_⟩) ?_ ?_
    rotate_left
    ·intro w'
     go_simp
     with_reducible rfl
    rotate_left
    ·simp only [Act.put, List.setIfInBounds_toArray, List.set_cons_zero, List.set_cons_succ, i64_w, i32_w]
     rfl
    refine take_ (i := 6) (N := some 30) (v := ?_) (a' := ?_) #[true, true, true, true, true, true, true, false, false, false, false, false, false] rfl rfl (take_ofW HT_.out HW_.out Z7_18) (fun _ _ _ h => h) (Or.inl ⟨by rfl, ?_⟩) hHeld ?_ ?_
    rotate_left
    ·rintro w' ⟨s0, s1, s2, s3, s4, s5, s6, s7⟩
     go_simp
     with_reducible rfl
    rotate_left
    ·simp only [Act.put, List.setIfInBounds_toArray, List.set_cons_zero, List.set_cons_succ, i64_w, i32_w]
     rfl
    refine one_ (i := 7) (N := some 31) #[true, true, true, true, true, true, true, true, false, false, false, false, false] rfl rfl (one_of HT_.out Z7_18) Z7_35 (fun K hK => ?_)
    refine goes_ Try.func44 Z7_18 rfl #[.slice A0_3 l0_3.length c0_3] (by rfl) rfl rfl Z7_10 ?_
    with_reducible refine (impl_copied.calls _ _ l0_3 t203 _ ?side1 ?side2 A5.out).mono ?_
    (case side1 => exact Z7_38)
    (case side2 => exact HC0_3.out)
    rintro e w55 ⟨v204, rfl, ho0, hb⟩
    refine ⟨_, rfl, ?_⟩
    have n0_ := Aside0.mk (Kd.S_elder' Z7_12 (Kd.R_base ho0) hb)
    have n1_ := Aside0.mk (Kd.R_lower ho0 (below_size Z7_1))
    have n2_ := Aside0.mk (blk_below (g := gb194) (o := .cells #[.int .i64 a0_0, .int .i64 a0_1, .slice A0_2 l0_2.length c0_2, .slice A0_3 l0_3.length c0_3, .int .i64 a0_4, .slice A0_5 l0_5.length c0_5] 51 (0, 0)) Z7_3 hb)
    have n3_ := Aside0.mk (blk_below (g := gb195) (o := .cells #[.int .i64 0, .slice none 0 0] 29 (0, 0)) Z7_4 hb)
    have n4_ := Aside0.mk (blk_below (g := gb202) (o := .cells #[.int .i64 a0_4, .slice Ao48 y199.length co48] 29 (0, 0)) Z7_8 hb)
    have n5_ := Aside0.mk (below_step Z7_1 hb)
    clear HO201
    clear BK194
    clear BK195
    clear BK202
    clear HB
    have HO201 := n0_
    have HO205 := n1_
    have BK194 := n2_
    have BK195 := n3_
    have BK202 := n4_
    have HB := n5_
    clear n0_ n1_ n2_ n3_ n4_ n5_
    (try clear hb)
    (try clear hb2)
    (try clear hk)
    (try clear hi)
    (try clear ho0)
    obtain ⟨Ao56, co56, eo56⟩ := Kd.R_slice HO205.out
    (first | subst eo56 | (injection eo56 with f1_ f2_ f3_; have f4_ := f1_.symm; have f5_ := f3_.symm; clear f1_ f2_ f3_; subst f4_; subst f5_))
    refine hK.out _ _ ⟨(blk_cell BK202.out 0).trans rfl, (blk_cell BK202.out 1).trans rfl, (blk_cell BK194.out 0).trans rfl, (blk_cell BK194.out 1).trans rfl, (blk_cell BK194.out 2).trans rfl, (blk_cell BK194.out 3).trans rfl, (blk_cell BK194.out 4).trans rfl, (blk_cell BK194.out 5).trans rfl⟩ (fun hHeld => ?_)
    clear hK K
    refine norm_ (a' := ?_) ?_ ?_
    rotate_left
    ·show Act.put _ (some 31) _ = _
     simp only [Act.put, List.setIfInBounds_toArray, List.set_cons_zero, List.set_cons_succ, i64_w, i32_w]
     rfl
    refine pure_ (i := 8) (N := some 32) (v := ?_) (a' := ?_) #[true, true, true, true, true, true, true, true, true, false, false, false, false] rfl rfl (any_of HT_.out Z7_18) (fun _ _ _ h => h) (Or.inl ⟨by rfl, ?_⟩) ?_ ?_
    rotate_left
    ·intro w'
     go_simp
     with_reducible rfl
    rotate_left
    ·simp only [Act.put, List.setIfInBounds_toArray, List.set_cons_zero, List.set_cons_succ, i64_w, i32_w]
     rfl
    refine one_ (i := 9) (N := some 33) #[true, true, true, true, true, true, true, true, true, true, false, false, false] rfl rfl (one_of HT_.out Z7_18) Z7_35 (fun K hK => ?_)
    refine value_ (w1 := ?_) (v := ?_) (by rfl) rfl ?_ ?_
    rotate_left 2
    ·go_simp
     constructor
     ·rfl
     rfl
    refine hK.out _ _ ⟨(blk_cell (blk_alloc BK202.out _) 0).trans rfl, (blk_cell (blk_alloc BK202.out _) 1).trans rfl, (blk_cell (blk_alloc BK194.out _) 0).trans rfl, (blk_cell (blk_alloc BK194.out _) 1).trans rfl, (blk_cell (blk_alloc BK194.out _) 2).trans rfl, (blk_cell (blk_alloc BK194.out _) 3).trans rfl, (blk_cell (blk_alloc BK194.out _) 4).trans rfl, (blk_cell (blk_alloc BK194.out _) 5).trans rfl⟩ (fun hHeld => ?_)
    clear hK K
    refine norm_ (a' := ?_) ?_ ?_
    rotate_left
    ·show Act.put _ (some 33) _ = _
     simp only [Act.put, List.setIfInBounds_toArray, List.set_cons_zero, List.set_cons_succ, i64_w, i32_w]
     rfl
    refine one_ (i := 10) (N := some 34) #[true, true, true, true, true, true, true, true, true, true, true, false, false] rfl rfl (one_of HT_.out Z7_18) Z7_35 (fun K hK => ?_)
    refine Kd.S_append_step k58 (w0 := w) w.heap.size (by rfl) (.tmp 25) (.tmp 33) 27 58 (.agg #[(.int .i64 0), (.int .i64 0), (.int .i64 0), (.slice none 0 0)]) 48 rfl Try.underlying27 info58 rfl Z7_35 (by omega) (.slice Ao48 y199.length co48) y199 (⟨262144, 3, (l0_3.length : Int), t203⟩ : S58) [.int .i64 262144, .int .i64 3, .int .i64 (l0_3.length : Int), .slice Ao56 t203.length co56] (fun _ => True) (fun k_ => some k_ = (.slice Ao56 t203.length co56 : Value).ownBlock) rfl rfl ?aP (fun k_ hk_ => ((Kd.R_mono (ok' := fun k_ => ((fun _ => True)) k_ ∧ some k_ ≠ (.slice Ao48 y199.length co48 : Value).ownBlock) (Kd.R_apart' (HO205.out) (Kd.S_typed HO201.out) Z7_35) (fun k_ hk => ⟨trivial, hk.2⟩))).1 k_ hk_.symm) ?aF ?aO ?aB ?aS ?aL ?_
    (case aP => exact k58_mkM _ _ _ (⟨262144, 3, (l0_3.length : Int), t203⟩ : S58) (Kd.R_mono (Kd.R_tight rfl (Kd.R_mono (ok' := fun k_ => ((fun _ => True)) k_ ∧ some k_ ≠ (.slice Ao48 y199.length co48 : Value).ownBlock) (Kd.R_apart' (HO205.out) (Kd.S_typed HO201.out) Z7_35) (fun k_ hk => ⟨trivial, hk.2⟩))) (fun _ h_ => h_)))
    (case aB => exact Z7_1)
    (case aF => exact (fun _ _ => trivial))
    (case aO => exact Z7_39)
    (case aS => exact (below_size Z7_1))
    (case aL => have := LMc6.out; omega)
    intro v207 w57 ho hb hg hat
    rw [← Ny206.out] at ho
    have n0_ := Aside0.mk (blk_grown (g := gb194) (o := .cells #[.int .i64 a0_0, .int .i64 a0_1, .slice A0_2 l0_2.length c0_2, .slice A0_3 l0_3.length c0_3, .int .i64 a0_4, .slice A0_5 l0_5.length c0_5] 51 (0, 0)) Z7_3 hg (Kd.S_ne HO201.out BK194.out Z7_35))
    have n1_ := Aside0.mk (blk_grown (g := gb195) (o := .cells #[.int .i64 0, .slice none 0 0] 29 (0, 0)) Z7_4 hg (Kd.S_ne HO201.out BK195.out Z7_35))
    have n2_ := Aside0.mk (blk_grown (g := gb202) (o := .cells #[.int .i64 a0_4, .slice Ao48 y199.length co48] 29 (0, 0)) Z7_8 hg (Kd.S_ne HO201.out BK202.out Z7_35))
    have n3_ := Aside0.mk (hb)
    have n4_ := Aside0.mk (ho)
    clear BK194
    clear BK195
    clear BK202
    clear HB
    clear HO201
    clear HO205
    have BK194 := n0_
    have BK195 := n1_
    have BK202 := n2_
    have HB := n3_
    have HO208 := n4_
    clear n0_ n1_ n2_ n3_ n4_
    clear ho hb hg hat
    obtain ⟨Ao58, co58, eo58⟩ := Kd.S_slice HO208.out
    (first | subst eo58 | (injection eo58 with f1_ f2_ f3_; have f4_ := f1_.symm; have f5_ := f3_.symm; clear f1_ f2_ f3_; subst f4_; subst f5_))
    refine hK.out _ _ ⟨(blk_cell BK202.out 0).trans rfl, (blk_cell BK202.out 1).trans rfl, (blk_cell BK194.out 0).trans rfl, (blk_cell BK194.out 1).trans rfl, (blk_cell BK194.out 2).trans rfl, (blk_cell BK194.out 3).trans rfl, (blk_cell BK194.out 4).trans rfl, (blk_cell BK194.out 5).trans rfl⟩ (fun hHeld => ?_)
    clear hK K
    refine norm_ (a' := ?_) ?_ ?_
    rotate_left
    ·show Act.put _ (some 34) _ = _
     simp only [Act.put, List.setIfInBounds_toArray, List.set_cons_zero, List.set_cons_succ, i64_w, i32_w]
     rfl
    refine pure_ (i := 11) (N := some 35) (v := ?_) (a' := ?_) #[true, true, true, true, true, true, true, true, true, true, true, true, false] rfl rfl (any_of HT_.out Z7_18) (fun _ _ _ h => h) (Or.inl ⟨by rfl, ?_⟩) ?_ ?_
    rotate_left
    ·intro w'
     go_simp
     with_reducible rfl
    rotate_left
    ·simp only [Act.put, List.setIfInBounds_toArray, List.set_cons_zero, List.set_cons_succ, i64_w, i32_w]
     rfl
    refine last_ (i := 12) (N := none) #[true, true, true, true, true, true, true, true, true, true, true, true, true] rfl rfl (one_of HT_.out Z7_18) Z7_35 (fun K hK => ?_)
    have hs59 : w57.cell? ⟨gb202, 1, none⟩ = some (.slice Ao48 y199.length co48) := (blk_cell BK202.out 1).trans rfl
    have hfs59 := blk_frozen BK202.out 1
    have hns59_0 := NB194_202.out
    have hns59_1 := NB195_202.out
    have hms59_0 := NB202_194.out
    have hms59_1 := NB202_195.out
    refine skip_ (w1 := ?_) (by rfl) rfl ?_ ?_
    rotate_left
    ·go_simp
     rfl
    refine hK.out _ _ ?_
    clear hK K
    refine done_ (done_of HT_.out Z7_18) ?_
    have hnb60 := NB202_195.out
    have hnc60 := NB195_202.out
    have hcz61_0 : w57.cell? ⟨gb202, 0, none⟩ = some (.int .i64 a0_4) := (blk_cell BK202.out 0).trans rfl
    have hcz61_1 : w57.cell? ⟨gb202, 1, none⟩ = some (.slice Ao48 y199.length co48) := (blk_cell BK202.out 1).trans rfl
    have hfz61_0 := blk_frozen BK202.out 0
    have hfz61_1 := blk_frozen BK202.out 1
    try go_wp2_with (first | ((with_reducible refine gate_callee (f := 10) rfl ?_); refine goesL_ (some 37) rfl rfl Try.func10 Z7_18 rfl #[.agg #[.int .i64 a0_4, .slice Ao58 y206.length co58]] rfl Z7_10 ?_; (with_reducible refine (impl_ImageOk.calls k a0_4 _ _ y206 false _ ?side1 ?side2 A7.out).mono ?_); (case side1 => refine (Kd.S_reads' (e := 58) (base := w.heap.size) (ok := fun k_ => True) (n := y206.length) (c := co58) ?_).2.2; exact Z7_34); (case side2 => exact (Kd.S_reads' HO208.out).2.1); rintro e w62 ⟨rfl, hb⟩; refine ⟨_, rfl, ?_⟩; have n0_ := Aside0.mk (Kd.S_below Z7_34 hb); have n1_ := Aside0.mk (blk_below (g := gb194) (o := .cells #[.int .i64 a0_0, .int .i64 a0_1, .slice A0_2 l0_2.length c0_2, .slice A0_3 l0_3.length c0_3, .int .i64 a0_4, .slice A0_5 l0_5.length c0_5] 51 (0, 0)) Z7_36 hb); have n2_ := Aside0.mk (blk_below (g := gb195) (o := .cells #[.int .i64 0, .slice none 0 0] 29 (0, 0)) Z7_37 hb); have n3_ := Aside0.mk (blk_below (g := gb202) (o := .cells #[.int .i64 a0_4, .slice Ao58 y206.length co58] 29 (0, 0)) (by (with_reducible repeat (first | apply blk_drewN | apply blk_drew | apply blk_alloc)); refine blk_put (cs := #[.int .i64 a0_4, .slice Ao48 y199.length co48]) ?_ 1 _ rfl; (with_reducible repeat (first | apply blk_drewN | apply blk_drew | apply blk_alloc)); exact BK202.out) hb); have n4_ := Aside0.mk (below_step Z7_1 hb); clear HO208; clear BK194; clear BK195; clear BK202; clear HB; have HO208 := n0_; have BK194 := n1_; have BK195 := n2_; have BK202 := n3_; have HB := n4_; clear n0_ n1_ n2_ n3_ n4_; (try clear hb); (try clear hb2); (try clear hk); (try clear hi); have hcz63_0 : w62.cell? ⟨gb195, 0, none⟩ = some (.int .i64 0) := (blk_cell BK195.out 0).trans rfl; have hcz63_1 : w62.cell? ⟨gb195, 1, none⟩ = some (.slice none 0 0) := (blk_cell BK195.out 1).trans rfl; have hfz63_0 := blk_frozen BK195.out 0; have hfz63_1 := blk_frozen BK195.out 1))
    refine bodyPost_ret (results_ct rfl _ _ gb195 29 #[.int .i64 0, .slice none 0 0] (0, 0) _ rfl Z7_23 Try.underlying29 rfl Z7_18) rfl ?_
    exact ⟨_, Z7_26, Z7_31, Z7_1⟩
   rw [if_neg c6] at H
   exact absurd H (by simp)
  rw [if_neg c4] at H
  have c4b0 : decide (0 < (l0_3.length : Int)) = false := decide_eq_false c4
  have c4b1 : decide (0 < l0_3.length) = false := decide_eq_false (by omega)
  clear c4
  replace H := Option.bind_eq_some_iff.mp H
  obtain ⟨t210, A640, H⟩ := H
  replace H : (if t210 = true then (some (a0_4, y199, true)) else (some (0, ([] : List (S58)), false))) = some (r1, r2, r3) := H
  have A64 := Aside0.mk A640
  clear A640
  by_cases c65 : t210 = true
  ·subst c65
   have H1 : (some (a0_4, y199, true)) = some (r1, r2, r3) := by rw [if_pos rfl] at H; exact H
   clear H
   have H := H1
   clear H1
   simp only [Option.some.injEq, Prod.mk.injEq] at H
   obtain ⟨rfl, rfl, rfl⟩ := H
   go_enter Try.func25, Try.ntmps25
   try go_wp2_with (first | ((with_reducible refine gate_dst (N := 1) rfl ?_); refine box_event ?hg (N := 1) ?hd (cs := #[.int .i64 a0_0, .int .i64 a0_1, .slice A0_2 l0_2.length c0_2, .slice A0_3 l0_3.length c0_3, .int .i64 a0_4, .slice A0_5 l0_5.length c0_5]) (t := 51) ?hr ?_; (case hd => rfl); (case hg => rfl); (case hr => exact Z7_13); intro gb194 hg w66 hbox hb; have n0_ := Aside0.mk (below_step Z7_11 hb); have n1_ := Aside0.mk (hbox); have n2_ := Aside0.mk ((Z7_30 : w.heap.size ≤ gb194)); have n3_ := Aside0.mk ((Z7_30 : w.heap.size ≤ gb194)); clear HB; have HB := n0_; have BK194 := n1_; have GW194 := n2_; have GE194 := n3_; clear n0_ n1_ n2_ n3_; clear hb hbox hg) | ((with_reducible refine gate_dst (N := 2) rfl ?_); refine box_event ?hg (N := 2) ?hd (cs := #[.int .i64 0, .slice none 0 0]) (t := 29) ?hr ?_; (case hd => rfl); (case hg => rfl); (case hr => exact Z7_13); intro gb195 hg w67 hbox hb; have n0_ := Aside0.mk (blk_below (g := gb194) (o := .cells #[.int .i64 a0_0, .int .i64 a0_1, .slice A0_2 l0_2.length c0_2, .slice A0_3 l0_3.length c0_3, .int .i64 a0_4, .slice A0_5 l0_5.length c0_5] 51 (0, 0)) Z7_3 hb); have n1_ := Aside0.mk (below_step Z7_9 hb); have n2_ := Aside0.mk (hbox); have n3_ := Aside0.mk ((Z7_32 : w.heap.size ≤ gb195)); have n4_ := Aside0.mk ((Z7_32 : w.heap.size ≤ gb195)); have n5_ := Aside0.mk ((Z7_6 : gb194 ≠ gb195)); have n6_ := Aside0.mk ((Z7_7 : gb195 ≠ gb194)); clear BK194; clear HB; have BK194 := n0_; have HB := n1_; have BK195 := n2_; have GW195 := n3_; have GE195 := n4_; have NB194_195 := n5_; have NB195_194 := n6_; clear n0_ n1_ n2_ n3_ n4_ n5_ n6_; clear hb hbox hg; have hnb68 := NB194_195.out; have hnc68 := NB195_194.out; have hcz69_0 : w67.cell? ⟨gb194, 0, none⟩ = some (.int .i64 a0_0) := (blk_cell BK194.out 0).trans rfl; have hcz69_1 : w67.cell? ⟨gb194, 1, none⟩ = some (.int .i64 a0_1) := (blk_cell BK194.out 1).trans rfl; have hcz69_2 : w67.cell? ⟨gb194, 2, none⟩ = some (.slice A0_2 l0_2.length c0_2) := (blk_cell BK194.out 2).trans rfl; have hcz69_3 : w67.cell? ⟨gb194, 3, none⟩ = some (.slice A0_3 l0_3.length c0_3) := (blk_cell BK194.out 3).trans rfl; have hcz69_4 : w67.cell? ⟨gb194, 4, none⟩ = some (.int .i64 a0_4) := (blk_cell BK194.out 4).trans rfl; have hcz69_5 : w67.cell? ⟨gb194, 5, none⟩ = some (.slice A0_5 l0_5.length c0_5) := (blk_cell BK194.out 5).trans rfl; have hfz69_0 := blk_frozen BK194.out 0; have hfz69_1 := blk_frozen BK194.out 1; have hfz69_2 := blk_frozen BK194.out 2; have hfz69_3 := blk_frozen BK194.out 3; have hfz69_4 := blk_frozen BK194.out 4; have hfz69_5 := blk_frozen BK194.out 5))
   have n0_ := Aside0.mk (blk_drew BK194.out)
   have n1_ := Aside0.mk (blk_drew BK195.out)
   have n2_ := Aside0.mk (below_drew1 HB.out)
   clear BK194
   clear BK195
   clear HB
   have BK194 := n0_
   have BK195 := n1_
   have HB := n2_
   clear n0_ n1_ n2_
   refine start_ (n := 13) (S := fun w' => w'.cell? ⟨gb194, 0, none⟩ = some (.int .i64 a0_0) ∧ w'.cell? ⟨gb194, 1, none⟩ = some (.int .i64 a0_1) ∧ w'.cell? ⟨gb194, 2, none⟩ = some (.slice A0_2 l0_2.length c0_2) ∧ w'.cell? ⟨gb194, 3, none⟩ = some (.slice A0_3 l0_3.length c0_3) ∧ w'.cell? ⟨gb194, 4, none⟩ = some (.int .i64 a0_4) ∧ w'.cell? ⟨gb194, 5, none⟩ = some (.slice A0_5 l0_5.length c0_5)) (ds := []) #[false, false, false, false, false, false, false, false, false, false, false, false, false] Z7_18 rfl rfl ⟨(blk_cell BK194.out 0).trans rfl, (blk_cell BK194.out 1).trans rfl, (blk_cell BK194.out 2).trans rfl, (blk_cell BK194.out 3).trans rfl, (blk_cell BK194.out 4).trans rfl, (blk_cell BK194.out 5).trans rfl⟩ (fun hHeld => ?_); refine with_tabW impl_Link.tab3 impl_Link.bits3 (fun HT_ HW_ => ?_)
   generalize w67.drew = w70 at BK194 BK195 HB hHeld ⊢
   refine pure_ (i := 0) (N := some 9) (v := ?_) (a' := ?_) #[true, false, false, false, false, false, false, false, false, false, false, false, false] rfl rfl (any_of HT_.out Z7_18) (fun _ _ _ h => h) (Or.inl ⟨by rfl, ?_⟩) ?_ ?_
   rotate_left
   ·intro w'
    go_simp
    with_reducible rfl
   rotate_left
   ·simp only [Act.put, List.setIfInBounds_toArray, List.set_cons_zero, List.set_cons_succ, i64_w, i32_w]
    rfl
   refine pure_ (i := 2) (N := some 11) (v := ?_) (a' := ?_) #[true, false, true, false, false, false, false, false, false, false, false, false, false] rfl rfl (any_of HT_.out Z7_18) (fun _ _ _ h => h) (Or.inl ⟨by rfl, ?_⟩) ?_ ?_
   rotate_left
   ·intro w'
    go_simp
    with_reducible rfl
   rotate_left
   ·simp only [Act.put, List.setIfInBounds_toArray, List.set_cons_zero, List.set_cons_succ, i64_w, i32_w]
    rfl
   refine pure_ (i := 5) (N := some 14) (v := ?_) (a' := ?_) #[true, false, true, false, false, true, false, false, false, false, false, false, false] rfl rfl (any_of HT_.out Z7_18) (fun _ _ _ h => h) (Or.inl ⟨by rfl, ?_⟩) ?_ ?_
   rotate_left
   ·intro w'
    go_simp
    with_reducible rfl
   rotate_left
   ·simp only [Act.put, List.setIfInBounds_toArray, List.set_cons_zero, List.set_cons_succ, i64_w, i32_w]
    rfl
   refine take_ (i := 1) (N := some 10) (v := ?_) (a' := ?_) #[true, true, true, false, false, true, false, false, false, false, false, false, false] rfl rfl (take_ofW HT_.out HW_.out Z7_18) (fun _ _ _ h => h) (Or.inl ⟨by rfl, ?_⟩) hHeld ?_ ?_
   rotate_left
   ·rintro w' ⟨s0, s1, s2, s3, s4, s5⟩
    go_simp
    with_reducible rfl
   rotate_left
   ·simp only [Act.put, List.setIfInBounds_toArray, List.set_cons_zero, List.set_cons_succ, i64_w, i32_w]
    rfl
   refine take_ (i := 3) (N := some 12) (v := ?_) (a' := ?_) #[true, true, true, true, false, true, false, false, false, false, false, false, false] rfl rfl (take_ofW HT_.out HW_.out Z7_18) (fun _ _ _ h => h) (Or.inl ⟨by rfl, ?_⟩) hHeld ?_ ?_
   rotate_left
   ·rintro w' ⟨s0, s1, s2, s3, s4, s5⟩
    go_simp
    with_reducible rfl
   rotate_left
   ·simp only [Act.put, List.setIfInBounds_toArray, List.set_cons_zero, List.set_cons_succ, i64_w, i32_w]
    rfl
   refine pure_ (i := 4) (N := some 13) (v := ?_) (a' := ?_) #[true, true, true, true, true, true, false, false, false, false, false, false, false] rfl rfl (any_of HT_.out Z7_18) (fun _ _ _ h => h) (Or.inl ⟨by rfl, ?_⟩) ?_ ?_
   rotate_left
   ·intro w'
    go_simp
    with_reducible rfl
   rotate_left
   ·simp only [Act.put, List.setIfInBounds_toArray, List.set_cons_zero, List.set_cons_succ, i64_w, i32_w]
    rfl
   refine take_ (i := 6) (N := some 15) (v := ?_) (a' := ?_) #[true, true, true, true, true, true, true, false, false, false, false, false, false] rfl rfl (take_ofW HT_.out HW_.out Z7_18) (fun _ _ _ h => h) (Or.inl ⟨by rfl, ?_⟩) hHeld ?_ ?_
   rotate_left
   ·rintro w' ⟨s0, s1, s2, s3, s4, s5⟩
    go_simp
    with_reducible rfl
   rotate_left
   ·simp only [Act.put, List.setIfInBounds_toArray, List.set_cons_zero, List.set_cons_succ, i64_w, i32_w]
    rfl
   refine join_ (σ := Value × Value × Nat) 1 #[true, true, true, true, true, true, true, true, true, true, true, true, false] (fun s_ => [(16, s_.1), (18, s_.2.1), (4, .pointer (some ⟨s_.2.2, 0, none⟩)), (17, .agg #[.int .i64 4096, .int .i64 5, .int .i64 (l0_2.length : Int), s_.1]), (19, .agg #[.int .i64 a0_4, s_.2.1])]) (fun s_ w' => (w'.cell? ⟨gb194, 0, none⟩ = some (.int .i64 a0_0) ∧ w'.cell? ⟨gb194, 1, none⟩ = some (.int .i64 a0_1) ∧ w'.cell? ⟨gb194, 2, none⟩ = some (.slice A0_2 l0_2.length c0_2) ∧ w'.cell? ⟨gb194, 3, none⟩ = some (.slice A0_3 l0_3.length c0_3) ∧ w'.cell? ⟨gb194, 4, none⟩ = some (.int .i64 a0_4) ∧ w'.cell? ⟨gb194, 5, none⟩ = some (.slice A0_5 l0_5.length c0_5)) ∧ (Kd.S k58 58 w' w.heap.size (fun _ => True) s_.2.1 y199) ∧ (w'.heap[gb194]? = some (.cells #[.int .i64 a0_0, .int .i64 a0_1, .slice A0_2 l0_2.length c0_2, .slice A0_3 l0_3.length c0_3, .int .i64 a0_4, .slice A0_5 l0_5.length c0_5] 51 (0, 0))) ∧ (w'.heap[gb195]? = some (.cells #[.int .i64 0, .slice none 0 0] 29 (0, 0))) ∧ (w'.heap[s_.2.2]? = some (.cells #[.int .i64 0, .slice none 0 0] 29 (0, 0))) ∧ (w.heap.size ≤ s_.2.2) ∧ (w.heap.size ≤ s_.2.2) ∧ (gb194 ≠ s_.2.2) ∧ (s_.2.2 ≠ gb194) ∧ (gb195 ≠ s_.2.2) ∧ (s_.2.2 ≠ gb195) ∧ (Below w.heap.size w w')) ?_ ?_
   rotate_left
   ·intro hCont
    refine two_ (i := 7) (j := 11) (Ni := some 16) (Nj := some 4) #[true, true, true, true, true, true, true, true, false, false, false, false, false] #[true, true, true, true, true, true, true, false, false, false, false, true, false] rfl rfl rfl rfl (two_of HT_.out Z7_18) Z7_35 Z7_35 (fun K hK => ?_) (fun K hK => ?_)
    ·skip
     refine goes_ Try.func44 Z7_18 rfl #[.slice A0_2 l0_2.length c0_2] (by rfl) rfl rfl Z7_10 ?_
     with_reducible refine (impl_copied.calls _ _ l0_2 t196 _ ?side1 ?side2 A3.out).mono ?_
     (case side1 => exact Z7_15)
     (case side2 => exact HC0_2.out)
     rintro e w71 ⟨v197, rfl, ho0, hb⟩
     refine ⟨_, rfl, ?_⟩
     have n0_ := Aside0.mk (Kd.R_lower ho0 (below_size Z7_2))
     have n1_ := Aside0.mk (blk_below (g := gb194) (o := .cells #[.int .i64 a0_0, .int .i64 a0_1, .slice A0_2 l0_2.length c0_2, .slice A0_3 l0_3.length c0_3, .int .i64 a0_4, .slice A0_5 l0_5.length c0_5] 51 (0, 0)) Z7_3 hb)
     have n2_ := Aside0.mk (blk_below (g := gb195) (o := .cells #[.int .i64 0, .slice none 0 0] 29 (0, 0)) Z7_4 hb)
     have n3_ := Aside0.mk (below_step Z7_2 hb)
     clear BK194
     clear BK195
     clear HB
     have HO198 := n0_
     have BK194 := n1_
     have BK195 := n2_
     have HB := n3_
     clear n0_ n1_ n2_ n3_
     (try clear hb)
     (try clear hb2)
     (try clear hk)
     (try clear hi)
     (try clear ho0)
     obtain ⟨Ao72, co72, eo72⟩ := Kd.R_slice HO198.out
     (first | subst eo72 | (injection eo72 with f1_ f2_ f3_; have f4_ := f1_.symm; have f5_ := f3_.symm; clear f1_ f2_ f3_; subst f4_; subst f5_))
     refine hK.out _ _ ⟨(blk_cell BK194.out 0).trans rfl, (blk_cell BK194.out 1).trans rfl, (blk_cell BK194.out 2).trans rfl, (blk_cell BK194.out 3).trans rfl, (blk_cell BK194.out 4).trans rfl, (blk_cell BK194.out 5).trans rfl⟩ (fun hHeld => ?_)
     clear hK K
     refine norm_ (a' := ?_) ?_ ?_
     rotate_left
     ·show Act.put _ (some 16) _ = _
      simp only [Act.put, List.setIfInBounds_toArray, List.set_cons_zero, List.set_cons_succ, i64_w, i32_w]
      rfl
     refine pure_ (i := 8) (N := some 17) (v := ?_) (a' := ?_) #[true, true, true, true, true, true, true, true, true, false, false, false, false] rfl rfl (any_of HT_.out Z7_18) (fun _ _ _ h => h) (Or.inl ⟨by rfl, ?_⟩) ?_ ?_
     rotate_left
     ·intro w'
      go_simp
      with_reducible rfl
     rotate_left
     ·simp only [Act.put, List.setIfInBounds_toArray, List.set_cons_zero, List.set_cons_succ, i64_w, i32_w]
      rfl
     refine two_ (i := 9) (j := 11) (Ni := some 18) (Nj := some 4) #[true, true, true, true, true, true, true, true, true, true, false, false, false] #[true, true, true, true, true, true, true, true, true, false, false, true, false] rfl rfl rfl rfl (two_of HT_.out Z7_18) Z7_35 Z7_35 (fun K hK => ?_) (fun K hK => ?_)
     ·skip
      refine Kd.S_lits_step k58 (w0 := w) w.heap.size 58 ?hg (N := 18) ?hd (xs := ([(⟨4096, 5, (l0_2.length : Int), t196⟩ : S58)] : List (S58))) (inner := [.int .i64 4096, .int .i64 5, .int .i64 (l0_2.length : Int), .slice Ao72 t196.length co72]) (ok := (fun _ => True)) (fun j_ k_ => j_ = 0 ∧ (fun k_ => some k_ = (.slice Ao72 t196.length co72 : Value).ownBlock) k_) ?hr rfl ?hp (fun _ _ _ h1_ h2_ => h1_.1.trans h2_.1.symm) (fun _ k_ h_ => ((show ∀ k_, (fun k_ => some k_ = (.slice Ao72 t196.length co72 : Value).ownBlock) k_ → ((fun _ => True)) k_ ∧ some k_ ≠ (.slice none 0 0 : Value).ownBlock from (fun k_ hk_ => ((Kd.R_mono (ok' := fun k_ => ((fun _ => True)) k_ ∧ some k_ ≠ (.slice none 0 0 : Value).ownBlock) (HO198.out) (fun k_ hk => ⟨trivial, Z7_22⟩))).1 k_ hk_.symm)) k_ h_.2).1) ?aF ?aB ?aS (by simp) ?_; (case hd => rfl); (case hg => rfl); (case hr => exact Z7_13); (case hp => exact Z7_5)
      (case aB => exact Z7_2)
      (case aF => exact (show ∀ k_, w71.heap.size ≤ k_ → (fun _ => True) k_ from (fun _ _ => trivial)) _ (Nat.le_refl _))
      (case aS => exact (below_size Z7_2))
      intro v200 w73 ho hb hg hat
      rw [← Ny199.out] at ho
      have n0_ := Aside0.mk (blk_grown (g := gb194) (o := .cells #[.int .i64 a0_0, .int .i64 a0_1, .slice A0_2 l0_2.length c0_2, .slice A0_3 l0_3.length c0_3, .int .i64 a0_4, .slice A0_5 l0_5.length c0_5] 51 (0, 0)) Z7_3 hg Z7_22)
      have n1_ := Aside0.mk (blk_grown (g := gb195) (o := .cells #[.int .i64 0, .slice none 0 0] 29 (0, 0)) Z7_4 hg Z7_22)
      have n2_ := Aside0.mk (hb)
      have n3_ := Aside0.mk (ho)
      clear BK194
      clear BK195
      clear HB
      clear HO198
      have BK194 := n0_
      have BK195 := n1_
      have HB := n2_
      have HO201 := n3_
      clear n0_ n1_ n2_ n3_
      clear ho hb hg hat
      obtain ⟨Ao74, co74, eo74⟩ := Kd.S_slice HO201.out
      (first | subst eo74 | (injection eo74 with f1_ f2_ f3_; have f4_ := f1_.symm; have f5_ := f3_.symm; clear f1_ f2_ f3_; subst f4_; subst f5_))
      refine hK.out _ _ ⟨(blk_cell BK194.out 0).trans rfl, (blk_cell BK194.out 1).trans rfl, (blk_cell BK194.out 2).trans rfl, (blk_cell BK194.out 3).trans rfl, (blk_cell BK194.out 4).trans rfl, (blk_cell BK194.out 5).trans rfl⟩ (fun hHeld => ?_)
      clear hK K
      refine norm_ (a' := ?_) ?_ ?_
      rotate_left
      ·show Act.put _ (some 18) _ = _
       simp only [Act.put, List.setIfInBounds_toArray, List.set_cons_zero, List.set_cons_succ, i64_w, i32_w]
       rfl
      refine pure_ (i := 10) (N := some 19) (v := ?_) (a' := ?_) #[true, true, true, true, true, true, true, true, true, true, true, false, false] rfl rfl (any_of HT_.out Z7_18) (fun _ _ _ h => h) (Or.inl ⟨by rfl, ?_⟩) ?_ ?_
      rotate_left
      ·intro w'
       go_simp
       with_reducible rfl
      rotate_left
      ·simp only [Act.put, List.setIfInBounds_toArray, List.set_cons_zero, List.set_cons_succ, i64_w, i32_w]
       rfl
      refine one_ (i := 11) (N := some 4) #[true, true, true, true, true, true, true, true, true, true, true, true, false] rfl rfl (one_of HT_.out Z7_18) Z7_35 (fun K hK => ?_)
      refine box_step ?hg (N := 4) ?hd (cs := #[.int .i64 0, .slice none 0 0]) (t := 29) ?hr ?_; (case hd => rfl); (case hg => rfl); (case hr => exact Z7_13)
      intro gb202 hg w75 hbox hb
      have n0_ := Aside0.mk (Kd.S_below Z7_12 hb)
      have n1_ := Aside0.mk (blk_below (g := gb194) (o := .cells #[.int .i64 a0_0, .int .i64 a0_1, .slice A0_2 l0_2.length c0_2, .slice A0_3 l0_3.length c0_3, .int .i64 a0_4, .slice A0_5 l0_5.length c0_5] 51 (0, 0)) Z7_3 hb)
      have n2_ := Aside0.mk (blk_below (g := gb195) (o := .cells #[.int .i64 0, .slice none 0 0] 29 (0, 0)) Z7_4 hb)
      have n3_ := Aside0.mk (below_step Z7_2 hb)
      have n4_ := Aside0.mk (hbox)
      have n5_ := Aside0.mk ((Z7_24 : w.heap.size ≤ gb202))
      have n6_ := Aside0.mk ((Z7_24 : w.heap.size ≤ gb202))
      have n7_ := Aside0.mk ((Z7_6 : gb194 ≠ gb202))
      have n8_ := Aside0.mk ((Z7_7 : gb202 ≠ gb194))
      have n9_ := Aside0.mk ((Z7_16 : gb195 ≠ gb202))
      have n10_ := Aside0.mk ((Z7_17 : gb202 ≠ gb195))
      clear HO201
      clear BK194
      clear BK195
      clear HB
      have HO201 := n0_
      have BK194 := n1_
      have BK195 := n2_
      have HB := n3_
      have BK202 := n4_
      have GW202 := n5_
      have GE202 := n6_
      have NB194_202 := n7_
      have NB202_194 := n8_
      have NB195_202 := n9_
      have NB202_195 := n10_
      clear n0_ n1_ n2_ n3_ n4_ n5_ n6_ n7_ n8_ n9_ n10_
      clear hb hbox hg
      refine hK.out _ _ ⟨(blk_cell BK194.out 0).trans rfl, (blk_cell BK194.out 1).trans rfl, (blk_cell BK194.out 2).trans rfl, (blk_cell BK194.out 3).trans rfl, (blk_cell BK194.out 4).trans rfl, (blk_cell BK194.out 5).trans rfl⟩ (fun hHeld => ?_)
      clear hK K
      refine norm_ (a' := ?_) ?_ ?_
      rotate_left
      ·show Act.put _ (some 4) _ = _
       simp only [Act.put, List.setIfInBounds_toArray, List.set_cons_zero, List.set_cons_succ, i64_w, i32_w]
       rfl
      exact norm_ Z7_19 (hCont (.slice Ao72 t196.length co72, .slice Ao74 y199.length co74, gb202) _ ⟨hHeld, Z7_12, Z7_3, Z7_4, Z7_8, GW202.out, GE202.out, NB194_202.out, NB202_194.out, NB195_202.out, NB202_195.out, Z7_1⟩)
     skip
     refine box_step ?hg (N := 4) ?hd (cs := #[.int .i64 0, .slice none 0 0]) (t := 29) ?hr ?_; (case hd => rfl); (case hg => rfl); (case hr => exact Z7_13)
     intro gb202 hg w73 hbox hb
     have n0_ := Aside0.mk (Kd.R_below Z7_29 hb)
     have n1_ := Aside0.mk (blk_below (g := gb194) (o := .cells #[.int .i64 a0_0, .int .i64 a0_1, .slice A0_2 l0_2.length c0_2, .slice A0_3 l0_3.length c0_3, .int .i64 a0_4, .slice A0_5 l0_5.length c0_5] 51 (0, 0)) Z7_3 hb)
     have n2_ := Aside0.mk (blk_below (g := gb195) (o := .cells #[.int .i64 0, .slice none 0 0] 29 (0, 0)) Z7_4 hb)
     have n3_ := Aside0.mk (below_step Z7_2 hb)
     have n4_ := Aside0.mk (hbox)
     have n5_ := Aside0.mk ((Z7_24 : w.heap.size ≤ gb202))
     have n6_ := Aside0.mk ((Z7_24 : w.heap.size ≤ gb202))
     have n7_ := Aside0.mk ((Z7_6 : gb194 ≠ gb202))
     have n8_ := Aside0.mk ((Z7_7 : gb202 ≠ gb194))
     have n9_ := Aside0.mk ((Z7_16 : gb195 ≠ gb202))
     have n10_ := Aside0.mk ((Z7_17 : gb202 ≠ gb195))
     clear HO198
     clear BK194
     clear BK195
     clear HB
     have HO198 := n0_
     have BK194 := n1_
     have BK195 := n2_
     have HB := n3_
     have BK202 := n4_
     have GW202 := n5_
     have GE202 := n6_
     have NB194_202 := n7_
     have NB202_194 := n8_
     have NB195_202 := n9_
     have NB202_195 := n10_
     clear n0_ n1_ n2_ n3_ n4_ n5_ n6_ n7_ n8_ n9_ n10_
     clear hb hbox hg
     refine hK.out _ _ ⟨(blk_cell BK194.out 0).trans rfl, (blk_cell BK194.out 1).trans rfl, (blk_cell BK194.out 2).trans rfl, (blk_cell BK194.out 3).trans rfl, (blk_cell BK194.out 4).trans rfl, (blk_cell BK194.out 5).trans rfl⟩ (fun hHeld => ?_)
     clear hK K
     refine norm_ (a' := ?_) ?_ ?_
     rotate_left
     ·show Act.put _ (some 4) _ = _
      simp only [Act.put, List.setIfInBounds_toArray, List.set_cons_zero, List.set_cons_succ, i64_w, i32_w]
      rfl
     refine one_ (i := 9) (N := some 18) #[true, true, true, true, true, true, true, true, true, true, false, true, false] rfl rfl (one_of HT_.out Z7_18) Z7_35 (fun K hK => ?_)
     refine Kd.S_lits_step k58 (w0 := w) w.heap.size 58 ?hg (N := 18) ?hd (xs := ([(⟨4096, 5, (l0_2.length : Int), t196⟩ : S58)] : List (S58))) (inner := [.int .i64 4096, .int .i64 5, .int .i64 (l0_2.length : Int), .slice Ao72 t196.length co72]) (ok := (fun _ => True)) (fun j_ k_ => j_ = 0 ∧ (fun k_ => some k_ = (.slice Ao72 t196.length co72 : Value).ownBlock) k_) ?hr rfl ?hp (fun _ _ _ h1_ h2_ => h1_.1.trans h2_.1.symm) (fun _ k_ h_ => ((show ∀ k_, (fun k_ => some k_ = (.slice Ao72 t196.length co72 : Value).ownBlock) k_ → ((fun _ => True)) k_ ∧ some k_ ≠ (.slice none 0 0 : Value).ownBlock from (fun k_ hk_ => ((Kd.R_mono (ok' := fun k_ => ((fun _ => True)) k_ ∧ some k_ ≠ (.slice none 0 0 : Value).ownBlock) (HO198.out) (fun k_ hk => ⟨trivial, Z7_22⟩))).1 k_ hk_.symm)) k_ h_.2).1) ?aF ?aB ?aS (by simp) ?_; (case hd => rfl); (case hg => rfl); (case hr => exact Z7_13); (case hp => exact Z7_5)
     (case aB => exact Z7_1)
     (case aF => exact (show ∀ k_, w73.heap.size ≤ k_ → (fun _ => True) k_ from (fun _ _ => trivial)) _ (Nat.le_refl _))
     (case aS => exact (below_size Z7_1))
     intro v200 w74 ho hb hg hat
     rw [← Ny199.out] at ho
     have n0_ := Aside0.mk (blk_grown (g := gb194) (o := .cells #[.int .i64 a0_0, .int .i64 a0_1, .slice A0_2 l0_2.length c0_2, .slice A0_3 l0_3.length c0_3, .int .i64 a0_4, .slice A0_5 l0_5.length c0_5] 51 (0, 0)) Z7_3 hg Z7_22)
     have n1_ := Aside0.mk (blk_grown (g := gb195) (o := .cells #[.int .i64 0, .slice none 0 0] 29 (0, 0)) Z7_4 hg Z7_22)
     have n2_ := Aside0.mk (blk_grown (g := gb202) (o := .cells #[.int .i64 0, .slice none 0 0] 29 (0, 0)) Z7_8 hg Z7_22)
     have n3_ := Aside0.mk (hb)
     have n4_ := Aside0.mk (ho)
     clear BK194
     clear BK195
     clear BK202
     clear HB
     clear HO198
     have BK194 := n0_
     have BK195 := n1_
     have BK202 := n2_
     have HB := n3_
     have HO201 := n4_
     clear n0_ n1_ n2_ n3_ n4_
     clear ho hb hg hat
     obtain ⟨Ao75, co75, eo75⟩ := Kd.S_slice HO201.out
     (first | subst eo75 | (injection eo75 with f1_ f2_ f3_; have f4_ := f1_.symm; have f5_ := f3_.symm; clear f1_ f2_ f3_; subst f4_; subst f5_))
     refine hK.out _ _ ⟨(blk_cell BK194.out 0).trans rfl, (blk_cell BK194.out 1).trans rfl, (blk_cell BK194.out 2).trans rfl, (blk_cell BK194.out 3).trans rfl, (blk_cell BK194.out 4).trans rfl, (blk_cell BK194.out 5).trans rfl⟩ (fun hHeld => ?_)
     clear hK K
     refine norm_ (a' := ?_) ?_ ?_
     rotate_left
     ·show Act.put _ (some 18) _ = _
      simp only [Act.put, List.setIfInBounds_toArray, List.set_cons_zero, List.set_cons_succ, i64_w, i32_w]
      rfl
     refine pure_ (i := 10) (N := some 19) (v := ?_) (a' := ?_) #[true, true, true, true, true, true, true, true, true, true, true, true, false] rfl rfl (any_of HT_.out Z7_18) (fun _ _ _ h => h) (Or.inl ⟨by rfl, ?_⟩) ?_ ?_
     rotate_left
     ·intro w'
      go_simp
      with_reducible rfl
     rotate_left
     ·simp only [Act.put, List.setIfInBounds_toArray, List.set_cons_zero, List.set_cons_succ, i64_w, i32_w]
      rfl
     exact norm_ Z7_19 (hCont (.slice Ao72 t196.length co72, .slice Ao75 y199.length co75, gb202) _ ⟨hHeld, Z7_12, Z7_3, Z7_4, Z7_8, GW202.out, GE202.out, NB194_202.out, NB202_194.out, NB195_202.out, NB202_195.out, Z7_1⟩)
    skip
    refine box_step ?hg (N := 4) ?hd (cs := #[.int .i64 0, .slice none 0 0]) (t := 29) ?hr ?_; (case hd => rfl); (case hg => rfl); (case hr => exact Z7_13)
    intro gb202 hg w71 hbox hb
    have n0_ := Aside0.mk (blk_below (g := gb194) (o := .cells #[.int .i64 a0_0, .int .i64 a0_1, .slice A0_2 l0_2.length c0_2, .slice A0_3 l0_3.length c0_3, .int .i64 a0_4, .slice A0_5 l0_5.length c0_5] 51 (0, 0)) Z7_3 hb)
    have n1_ := Aside0.mk (blk_below (g := gb195) (o := .cells #[.int .i64 0, .slice none 0 0] 29 (0, 0)) Z7_4 hb)
    have n2_ := Aside0.mk (below_step Z7_2 hb)
    have n3_ := Aside0.mk (hbox)
    have n4_ := Aside0.mk ((Z7_24 : w.heap.size ≤ gb202))
    have n5_ := Aside0.mk ((Z7_24 : w.heap.size ≤ gb202))
    have n6_ := Aside0.mk ((Z7_6 : gb194 ≠ gb202))
    have n7_ := Aside0.mk ((Z7_7 : gb202 ≠ gb194))
    have n8_ := Aside0.mk ((Z7_16 : gb195 ≠ gb202))
    have n9_ := Aside0.mk ((Z7_17 : gb202 ≠ gb195))
    clear BK194
    clear BK195
    clear HB
    have BK194 := n0_
    have BK195 := n1_
    have HB := n2_
    have BK202 := n3_
    have GW202 := n4_
    have GE202 := n5_
    have NB194_202 := n6_
    have NB202_194 := n7_
    have NB195_202 := n8_
    have NB202_195 := n9_
    clear n0_ n1_ n2_ n3_ n4_ n5_ n6_ n7_ n8_ n9_
    clear hb hbox hg
    refine hK.out _ _ ⟨(blk_cell BK194.out 0).trans rfl, (blk_cell BK194.out 1).trans rfl, (blk_cell BK194.out 2).trans rfl, (blk_cell BK194.out 3).trans rfl, (blk_cell BK194.out 4).trans rfl, (blk_cell BK194.out 5).trans rfl⟩ (fun hHeld => ?_)
    clear hK K
    refine norm_ (a' := ?_) ?_ ?_
    rotate_left
    ·show Act.put _ (some 4) _ = _
     simp only [Act.put, List.setIfInBounds_toArray, List.set_cons_zero, List.set_cons_succ, i64_w, i32_w]
     rfl
    refine one_ (i := 7) (N := some 16) #[true, true, true, true, true, true, true, true, false, false, false, true, false] rfl rfl (one_of HT_.out Z7_18) Z7_35 (fun K hK => ?_)
    refine goes_ Try.func44 Z7_18 rfl #[.slice A0_2 l0_2.length c0_2] (by rfl) rfl rfl Z7_10 ?_
    with_reducible refine (impl_copied.calls _ _ l0_2 t196 _ ?side1 ?side2 A3.out).mono ?_
    (case side1 => exact Z7_15)
    (case side2 => exact HC0_2.out)
    rintro e w72 ⟨v197, rfl, ho0, hb⟩
    refine ⟨_, rfl, ?_⟩
    have n0_ := Aside0.mk (Kd.R_lower ho0 (below_size Z7_1))
    have n1_ := Aside0.mk (blk_below (g := gb194) (o := .cells #[.int .i64 a0_0, .int .i64 a0_1, .slice A0_2 l0_2.length c0_2, .slice A0_3 l0_3.length c0_3, .int .i64 a0_4, .slice A0_5 l0_5.length c0_5] 51 (0, 0)) Z7_3 hb)
    have n2_ := Aside0.mk (blk_below (g := gb195) (o := .cells #[.int .i64 0, .slice none 0 0] 29 (0, 0)) Z7_4 hb)
    have n3_ := Aside0.mk (blk_below (g := gb202) (o := .cells #[.int .i64 0, .slice none 0 0] 29 (0, 0)) Z7_8 hb)
    have n4_ := Aside0.mk (below_step Z7_1 hb)
    clear BK194
    clear BK195
    clear BK202
    clear HB
    have HO198 := n0_
    have BK194 := n1_
    have BK195 := n2_
    have BK202 := n3_
    have HB := n4_
    clear n0_ n1_ n2_ n3_ n4_
    (try clear hb)
    (try clear hb2)
    (try clear hk)
    (try clear hi)
    (try clear ho0)
    obtain ⟨Ao73, co73, eo73⟩ := Kd.R_slice HO198.out
    (first | subst eo73 | (injection eo73 with f1_ f2_ f3_; have f4_ := f1_.symm; have f5_ := f3_.symm; clear f1_ f2_ f3_; subst f4_; subst f5_))
    refine hK.out _ _ ⟨(blk_cell BK194.out 0).trans rfl, (blk_cell BK194.out 1).trans rfl, (blk_cell BK194.out 2).trans rfl, (blk_cell BK194.out 3).trans rfl, (blk_cell BK194.out 4).trans rfl, (blk_cell BK194.out 5).trans rfl⟩ (fun hHeld => ?_)
    clear hK K
    refine norm_ (a' := ?_) ?_ ?_
    rotate_left
    ·show Act.put _ (some 16) _ = _
     simp only [Act.put, List.setIfInBounds_toArray, List.set_cons_zero, List.set_cons_succ, i64_w, i32_w]
     rfl
    refine pure_ (i := 8) (N := some 17) (v := ?_) (a' := ?_) #[true, true, true, true, true, true, true, true, true, false, false, true, false] rfl rfl (any_of HT_.out Z7_18) (fun _ _ _ h => h) (Or.inl ⟨by rfl, ?_⟩) ?_ ?_
    rotate_left
    ·intro w'
     go_simp
     with_reducible rfl
    rotate_left
    ·simp only [Act.put, List.setIfInBounds_toArray, List.set_cons_zero, List.set_cons_succ, i64_w, i32_w]
     rfl
    refine one_ (i := 9) (N := some 18) #[true, true, true, true, true, true, true, true, true, true, false, true, false] rfl rfl (one_of HT_.out Z7_18) Z7_35 (fun K hK => ?_)
    refine Kd.S_lits_step k58 (w0 := w) w.heap.size 58 ?hg (N := 18) ?hd (xs := ([(⟨4096, 5, (l0_2.length : Int), t196⟩ : S58)] : List (S58))) (inner := [.int .i64 4096, .int .i64 5, .int .i64 (l0_2.length : Int), .slice Ao73 t196.length co73]) (ok := (fun _ => True)) (fun j_ k_ => j_ = 0 ∧ (fun k_ => some k_ = (.slice Ao73 t196.length co73 : Value).ownBlock) k_) ?hr rfl ?hp (fun _ _ _ h1_ h2_ => h1_.1.trans h2_.1.symm) (fun _ k_ h_ => ((show ∀ k_, (fun k_ => some k_ = (.slice Ao73 t196.length co73 : Value).ownBlock) k_ → ((fun _ => True)) k_ ∧ some k_ ≠ (.slice none 0 0 : Value).ownBlock from (fun k_ hk_ => ((Kd.R_mono (ok' := fun k_ => ((fun _ => True)) k_ ∧ some k_ ≠ (.slice none 0 0 : Value).ownBlock) (HO198.out) (fun k_ hk => ⟨trivial, Z7_22⟩))).1 k_ hk_.symm)) k_ h_.2).1) ?aF ?aB ?aS (by simp) ?_; (case hd => rfl); (case hg => rfl); (case hr => exact Z7_13); (case hp => exact Z7_5)
    (case aB => exact Z7_1)
    (case aF => exact (show ∀ k_, w72.heap.size ≤ k_ → (fun _ => True) k_ from (fun _ _ => trivial)) _ (Nat.le_refl _))
    (case aS => exact (below_size Z7_1))
    intro v200 w74 ho hb hg hat
    rw [← Ny199.out] at ho
    have n0_ := Aside0.mk (blk_grown (g := gb194) (o := .cells #[.int .i64 a0_0, .int .i64 a0_1, .slice A0_2 l0_2.length c0_2, .slice A0_3 l0_3.length c0_3, .int .i64 a0_4, .slice A0_5 l0_5.length c0_5] 51 (0, 0)) Z7_3 hg Z7_22)
    have n1_ := Aside0.mk (blk_grown (g := gb195) (o := .cells #[.int .i64 0, .slice none 0 0] 29 (0, 0)) Z7_4 hg Z7_22)
    have n2_ := Aside0.mk (blk_grown (g := gb202) (o := .cells #[.int .i64 0, .slice none 0 0] 29 (0, 0)) Z7_8 hg Z7_22)
    have n3_ := Aside0.mk (hb)
    have n4_ := Aside0.mk (ho)
    clear BK194
    clear BK195
    clear BK202
    clear HB
    clear HO198
    have BK194 := n0_
    have BK195 := n1_
    have BK202 := n2_
    have HB := n3_
    have HO201 := n4_
    clear n0_ n1_ n2_ n3_ n4_
    clear ho hb hg hat
    obtain ⟨Ao75, co75, eo75⟩ := Kd.S_slice HO201.out
    (first | subst eo75 | (injection eo75 with f1_ f2_ f3_; have f4_ := f1_.symm; have f5_ := f3_.symm; clear f1_ f2_ f3_; subst f4_; subst f5_))
    refine hK.out _ _ ⟨(blk_cell BK194.out 0).trans rfl, (blk_cell BK194.out 1).trans rfl, (blk_cell BK194.out 2).trans rfl, (blk_cell BK194.out 3).trans rfl, (blk_cell BK194.out 4).trans rfl, (blk_cell BK194.out 5).trans rfl⟩ (fun hHeld => ?_)
    clear hK K
    refine norm_ (a' := ?_) ?_ ?_
    rotate_left
    ·show Act.put _ (some 18) _ = _
     simp only [Act.put, List.setIfInBounds_toArray, List.set_cons_zero, List.set_cons_succ, i64_w, i32_w]
     rfl
    refine pure_ (i := 10) (N := some 19) (v := ?_) (a' := ?_) #[true, true, true, true, true, true, true, true, true, true, true, true, false] rfl rfl (any_of HT_.out Z7_18) (fun _ _ _ h => h) (Or.inl ⟨by rfl, ?_⟩) ?_ ?_
    rotate_left
    ·intro w'
     go_simp
     with_reducible rfl
    rotate_left
    ·simp only [Act.put, List.setIfInBounds_toArray, List.set_cons_zero, List.set_cons_succ, i64_w, i32_w]
     rfl
    exact norm_ Z7_19 (hCont (.slice Ao73 t196.length co73, .slice Ao75 y199.length co75, gb202) _ ⟨hHeld, Z7_12, Z7_3, Z7_4, Z7_8, GW202.out, GE202.out, NB194_202.out, NB202_194.out, NB195_202.out, NB202_195.out, Z7_1⟩)
   rintro ⟨v197, v200, gb202⟩ w76 ⟨hS_, h0_, h1_, h2_, h3_, h4_, h5_, h6_, h7_, h8_, h9_, h10_⟩
   have n0_ : Aside0 (Kd.S k58 58 w76 w.heap.size (fun _ => True) v200 y199) := ⟨h0_⟩
   have n1_ : Aside0 (w76.heap[gb194]? = some (.cells #[.int .i64 a0_0, .int .i64 a0_1, .slice A0_2 l0_2.length c0_2, .slice A0_3 l0_3.length c0_3, .int .i64 a0_4, .slice A0_5 l0_5.length c0_5] 51 (0, 0))) := ⟨h1_⟩
   have n2_ : Aside0 (w76.heap[gb195]? = some (.cells #[.int .i64 0, .slice none 0 0] 29 (0, 0))) := ⟨h2_⟩
   have n3_ : Aside0 (w76.heap[gb202]? = some (.cells #[.int .i64 0, .slice none 0 0] 29 (0, 0))) := ⟨h3_⟩
   have n4_ : Aside0 (w.heap.size ≤ gb202) := ⟨h4_⟩
   have n5_ : Aside0 (w.heap.size ≤ gb202) := ⟨h5_⟩
   have n6_ : Aside0 (gb194 ≠ gb202) := ⟨h6_⟩
   have n7_ : Aside0 (gb202 ≠ gb194) := ⟨h7_⟩
   have n8_ : Aside0 (gb195 ≠ gb202) := ⟨h8_⟩
   have n9_ : Aside0 (gb202 ≠ gb195) := ⟨h9_⟩
   have n10_ : Aside0 (Below w.heap.size w w76) := ⟨h10_⟩
   clear BK194
   clear BK195
   clear HB
   clear h0_ h1_ h2_ h3_ h4_ h5_ h6_ h7_ h8_ h9_ h10_
   have HO201 := n0_
   have BK194 := n1_
   have BK195 := n2_
   have BK202 := n3_
   have GW202 := n4_
   have GE202 := n5_
   have NB194_202 := n6_
   have NB202_194 := n7_
   have NB195_202 := n8_
   have NB202_195 := n9_
   have HB := n10_
   clear n0_ n1_ n2_ n3_ n4_ n5_ n6_ n7_ n8_ n9_ n10_
   have hHeld : w76.cell? ⟨gb194, 0, none⟩ = some (.int .i64 a0_0) ∧ w76.cell? ⟨gb194, 1, none⟩ = some (.int .i64 a0_1) ∧ w76.cell? ⟨gb194, 2, none⟩ = some (.slice A0_2 l0_2.length c0_2) ∧ w76.cell? ⟨gb194, 3, none⟩ = some (.slice A0_3 l0_3.length c0_3) ∧ w76.cell? ⟨gb194, 4, none⟩ = some (.int .i64 a0_4) ∧ w76.cell? ⟨gb194, 5, none⟩ = some (.slice A0_5 l0_5.length c0_5) := hS_
   obtain ⟨Ao77, co77, eo77⟩ := Kd.S_slice HO201.out
   (first | subst eo77 | (injection eo77 with f1_ f2_ f3_; have f4_ := f1_.symm; have f5_ := f3_.symm; clear f1_ f2_ f3_; subst f4_; subst f5_))
   refine norm_ (a' := ?_) ?_ ?_
   rotate_left
   ·simp only [putAll, Act.put, List.setIfInBounds_toArray, List.set_cons_zero, List.set_cons_succ]
    rfl
   refine one_ (i := 12) (N := none) #[true, true, true, true, true, true, true, true, true, true, true, true, true] rfl rfl (one_of HT_.out Z7_18) Z7_35 (fun K hK => ?_)
   have hs78 : w76.cell? ⟨gb202, 0, none⟩ = some (.int .i64 0) := (blk_cell BK202.out 0).trans rfl
   have hfs78 := blk_frozen BK202.out 0
   have hns78_0 := NB194_202.out
   have hns78_1 := NB195_202.out
   have hms78_0 := NB202_194.out
   have hms78_1 := NB202_195.out
   have hs79 : w76.cell? ⟨gb202, 1, none⟩ = some (.slice none 0 0) := (blk_cell BK202.out 1).trans rfl
   have hfs79 := blk_frozen BK202.out 1
   have hns79_0 := NB194_202.out
   have hns79_1 := NB195_202.out
   have hms79_0 := NB202_194.out
   have hms79_1 := NB202_195.out
   refine skip_ (w1 := ?_) (by rfl) rfl ?_ ?_
   rotate_left
   ·go_simp
    rfl
   refine hK.out _ _ ⟨((cell_far (p := ⟨gb202, _, none⟩) NB194_202.out _).trans (((cell_far (p := ⟨gb202, _, none⟩) NB194_202.out _).trans (hHeld.1)))), ((cell_far (p := ⟨gb202, _, none⟩) NB194_202.out _).trans (((cell_far (p := ⟨gb202, _, none⟩) NB194_202.out _).trans (hHeld.2.1)))), ((cell_far (p := ⟨gb202, _, none⟩) NB194_202.out _).trans (((cell_far (p := ⟨gb202, _, none⟩) NB194_202.out _).trans (hHeld.2.2.1)))), ((cell_far (p := ⟨gb202, _, none⟩) NB194_202.out _).trans (((cell_far (p := ⟨gb202, _, none⟩) NB194_202.out _).trans (hHeld.2.2.2.1)))), ((cell_far (p := ⟨gb202, _, none⟩) NB194_202.out _).trans (((cell_far (p := ⟨gb202, _, none⟩) NB194_202.out _).trans (hHeld.2.2.2.2.1)))), ((cell_far (p := ⟨gb202, _, none⟩) NB194_202.out _).trans (((cell_far (p := ⟨gb202, _, none⟩) NB194_202.out _).trans (hHeld.2.2.2.2.2))))⟩ (fun hHeld => ?_)
   clear hK K
   refine done_ (done_of HT_.out Z7_18) ?_
   have hnb80 := NB194_202.out
   have hnc80 := NB202_194.out
   have hcz81_0 : w76.cell? ⟨gb194, 0, none⟩ = some (.int .i64 a0_0) := (blk_cell BK194.out 0).trans rfl
   have hcz81_1 : w76.cell? ⟨gb194, 1, none⟩ = some (.int .i64 a0_1) := (blk_cell BK194.out 1).trans rfl
   have hcz81_2 : w76.cell? ⟨gb194, 2, none⟩ = some (.slice A0_2 l0_2.length c0_2) := (blk_cell BK194.out 2).trans rfl
   have hcz81_3 : w76.cell? ⟨gb194, 3, none⟩ = some (.slice A0_3 l0_3.length c0_3) := (blk_cell BK194.out 3).trans rfl
   have hcz81_4 : w76.cell? ⟨gb194, 4, none⟩ = some (.int .i64 a0_4) := (blk_cell BK194.out 4).trans rfl
   have hcz81_5 : w76.cell? ⟨gb194, 5, none⟩ = some (.slice A0_5 l0_5.length c0_5) := (blk_cell BK194.out 5).trans rfl
   have hfz81_0 := blk_frozen BK194.out 0
   have hfz81_1 := blk_frozen BK194.out 1
   have hfz81_2 := blk_frozen BK194.out 2
   have hfz81_3 := blk_frozen BK194.out 3
   have hfz81_4 := blk_frozen BK194.out 4
   have hfz81_5 := blk_frozen BK194.out 5
   have hnb82 := NB202_195.out
   have hnc82 := NB195_202.out
   have hcz83_0 : w76.cell? ⟨gb202, 0, none⟩ = some (.int .i64 0) := (blk_cell BK202.out 0).trans rfl
   have hcz83_1 : w76.cell? ⟨gb202, 1, none⟩ = some (.slice none 0 0) := (blk_cell BK202.out 1).trans rfl
   have hfz83_0 := blk_frozen BK202.out 0
   have hfz83_1 := blk_frozen BK202.out 1
   try go_wp2_with (first | ((with_reducible refine gate_callee (f := 10) rfl ?_); refine goesL_ (some 37) rfl rfl Try.func10 Z7_18 rfl #[.agg #[.int .i64 a0_4, .slice Ao77 y199.length co77]] rfl Z7_10 ?_; (with_reducible refine (impl_ImageOk.calls k a0_4 _ _ y199 true _ ?side1 ?side2 A64.out).mono ?_); (case side1 => refine (Kd.S_reads' (e := 58) (base := w.heap.size) (ok := fun k_ => True) (n := y199.length) (c := co77) ?_).2.2; exact Z7_27); (case side2 => exact (Kd.S_reads' HO201.out).2.1); rintro e w84 ⟨rfl, hb⟩; refine ⟨_, rfl, ?_⟩; have n0_ := Aside0.mk (Kd.S_below Z7_27 hb); have n1_ := Aside0.mk (blk_below (g := gb194) (o := .cells #[.int .i64 a0_0, .int .i64 a0_1, .slice A0_2 l0_2.length c0_2, .slice A0_3 l0_3.length c0_3, .int .i64 a0_4, .slice A0_5 l0_5.length c0_5] 51 (0, 0)) Z7_20 hb); have n2_ := Aside0.mk (blk_below (g := gb195) (o := .cells #[.int .i64 0, .slice none 0 0] 29 (0, 0)) Z7_21 hb); have n3_ := Aside0.mk (blk_below (g := gb202) (o := .cells #[.int .i64 a0_4, .slice Ao77 y199.length co77] 29 (0, 0)) Z7_14 hb); have n4_ := Aside0.mk (below_step Z7_1 hb); clear HO201; clear BK194; clear BK195; clear BK202; clear HB; have HO201 := n0_; have BK194 := n1_; have BK195 := n2_; have BK202 := n3_; have HB := n4_; clear n0_ n1_ n2_ n3_ n4_; (try clear hb); (try clear hb2); (try clear hk); (try clear hi); have hcz85_0 : w84.cell? ⟨gb202, 0, none⟩ = some (.int .i64 a0_4) := (blk_cell BK202.out 0).trans rfl; have hcz85_1 : w84.cell? ⟨gb202, 1, none⟩ = some (.slice Ao77 y199.length co77) := (blk_cell BK202.out 1).trans rfl; have hfz85_0 := blk_frozen BK202.out 0; have hfz85_1 := blk_frozen BK202.out 1; have hcz86_0 : w84.cell? ⟨gb195, 0, none⟩ = some (.int .i64 0) := (blk_cell BK195.out 0).trans rfl; have hcz86_1 : w84.cell? ⟨gb195, 1, none⟩ = some (.slice none 0 0) := (blk_cell BK195.out 1).trans rfl; have hfz86_0 := blk_frozen BK195.out 0; have hfz86_1 := blk_frozen BK195.out 1))
   refine bodyPost_ret (results_ct rfl _ _ gb195 29 #[.int .i64 a0_4, .slice Ao77 y199.length co77] (0, 0) _ rfl Z7_25 Try.underlying29 rfl Z7_18) rfl ?_
   exact ⟨_, Z7_26, by (with_reducible repeat (first | apply Kd.S_alloc | apply Kd.S_drewN | apply Kd.S_drew)); exact Kd.S_mono (Kd.S_far (p := ⟨gb195, 1, none⟩) (Kd.S_far (p := ⟨gb195, 0, none⟩) (Kd.S_types HO201.out BK195.out Z7_35) (fun _ hk => hk.2) (.int .i64 a0_4)) (fun _ hk => hk.2) (.slice Ao77 y199.length co77)) (fun _ hk => trivial), Z7_1⟩
  replace c65 := Bool.eq_false_iff.mpr c65
  subst c65
  have H1 : (some (0, ([] : List (S58)), false)) = some (r1, r2, r3) := by rw [if_neg (show ¬ (false = true) by decide)] at H; exact H
  clear H
  have H := H1
  clear H1
  simp only [Option.some.injEq, Prod.mk.injEq] at H
  obtain ⟨rfl, rfl, rfl⟩ := H
  go_enter Try.func25, Try.ntmps25
  try go_wp2_with (first | ((with_reducible refine gate_dst (N := 1) rfl ?_); refine box_event ?hg (N := 1) ?hd (cs := #[.int .i64 a0_0, .int .i64 a0_1, .slice A0_2 l0_2.length c0_2, .slice A0_3 l0_3.length c0_3, .int .i64 a0_4, .slice A0_5 l0_5.length c0_5]) (t := 51) ?hr ?_; (case hd => rfl); (case hg => rfl); (case hr => exact Z7_13); intro gb194 hg w87 hbox hb; have n0_ := Aside0.mk (below_step Z7_11 hb); have n1_ := Aside0.mk (hbox); have n2_ := Aside0.mk ((Z7_30 : w.heap.size ≤ gb194)); have n3_ := Aside0.mk ((Z7_30 : w.heap.size ≤ gb194)); clear HB; have HB := n0_; have BK194 := n1_; have GW194 := n2_; have GE194 := n3_; clear n0_ n1_ n2_ n3_; clear hb hbox hg) | ((with_reducible refine gate_dst (N := 2) rfl ?_); refine box_event ?hg (N := 2) ?hd (cs := #[.int .i64 0, .slice none 0 0]) (t := 29) ?hr ?_; (case hd => rfl); (case hg => rfl); (case hr => exact Z7_13); intro gb195 hg w88 hbox hb; have n0_ := Aside0.mk (blk_below (g := gb194) (o := .cells #[.int .i64 a0_0, .int .i64 a0_1, .slice A0_2 l0_2.length c0_2, .slice A0_3 l0_3.length c0_3, .int .i64 a0_4, .slice A0_5 l0_5.length c0_5] 51 (0, 0)) Z7_3 hb); have n1_ := Aside0.mk (below_step Z7_9 hb); have n2_ := Aside0.mk (hbox); have n3_ := Aside0.mk ((Z7_32 : w.heap.size ≤ gb195)); have n4_ := Aside0.mk ((Z7_32 : w.heap.size ≤ gb195)); have n5_ := Aside0.mk ((Z7_6 : gb194 ≠ gb195)); have n6_ := Aside0.mk ((Z7_7 : gb195 ≠ gb194)); clear BK194; clear HB; have BK194 := n0_; have HB := n1_; have BK195 := n2_; have GW195 := n3_; have GE195 := n4_; have NB194_195 := n5_; have NB195_194 := n6_; clear n0_ n1_ n2_ n3_ n4_ n5_ n6_; clear hb hbox hg; have hnb89 := NB194_195.out; have hnc89 := NB195_194.out; have hcz90_0 : w88.cell? ⟨gb194, 0, none⟩ = some (.int .i64 a0_0) := (blk_cell BK194.out 0).trans rfl; have hcz90_1 : w88.cell? ⟨gb194, 1, none⟩ = some (.int .i64 a0_1) := (blk_cell BK194.out 1).trans rfl; have hcz90_2 : w88.cell? ⟨gb194, 2, none⟩ = some (.slice A0_2 l0_2.length c0_2) := (blk_cell BK194.out 2).trans rfl; have hcz90_3 : w88.cell? ⟨gb194, 3, none⟩ = some (.slice A0_3 l0_3.length c0_3) := (blk_cell BK194.out 3).trans rfl; have hcz90_4 : w88.cell? ⟨gb194, 4, none⟩ = some (.int .i64 a0_4) := (blk_cell BK194.out 4).trans rfl; have hcz90_5 : w88.cell? ⟨gb194, 5, none⟩ = some (.slice A0_5 l0_5.length c0_5) := (blk_cell BK194.out 5).trans rfl; have hfz90_0 := blk_frozen BK194.out 0; have hfz90_1 := blk_frozen BK194.out 1; have hfz90_2 := blk_frozen BK194.out 2; have hfz90_3 := blk_frozen BK194.out 3; have hfz90_4 := blk_frozen BK194.out 4; have hfz90_5 := blk_frozen BK194.out 5))
  have n0_ := Aside0.mk (blk_drew BK194.out)
  have n1_ := Aside0.mk (blk_drew BK195.out)
  have n2_ := Aside0.mk (below_drew1 HB.out)
  clear BK194
  clear BK195
  clear HB
  have BK194 := n0_
  have BK195 := n1_
  have HB := n2_
  clear n0_ n1_ n2_
  refine start_ (n := 13) (S := fun w' => w'.cell? ⟨gb194, 0, none⟩ = some (.int .i64 a0_0) ∧ w'.cell? ⟨gb194, 1, none⟩ = some (.int .i64 a0_1) ∧ w'.cell? ⟨gb194, 2, none⟩ = some (.slice A0_2 l0_2.length c0_2) ∧ w'.cell? ⟨gb194, 3, none⟩ = some (.slice A0_3 l0_3.length c0_3) ∧ w'.cell? ⟨gb194, 4, none⟩ = some (.int .i64 a0_4) ∧ w'.cell? ⟨gb194, 5, none⟩ = some (.slice A0_5 l0_5.length c0_5)) (ds := []) #[false, false, false, false, false, false, false, false, false, false, false, false, false] Z7_18 rfl rfl ⟨(blk_cell BK194.out 0).trans rfl, (blk_cell BK194.out 1).trans rfl, (blk_cell BK194.out 2).trans rfl, (blk_cell BK194.out 3).trans rfl, (blk_cell BK194.out 4).trans rfl, (blk_cell BK194.out 5).trans rfl⟩ (fun hHeld => ?_); refine with_tabW impl_Link.tab3 impl_Link.bits3 (fun HT_ HW_ => ?_)
  generalize w88.drew = w91 at BK194 BK195 HB hHeld ⊢
  refine pure_ (i := 0) (N := some 9) (v := ?_) (a' := ?_) #[true, false, false, false, false, false, false, false, false, false, false, false, false] rfl rfl (any_of HT_.out Z7_18) (fun _ _ _ h => h) (Or.inl ⟨by rfl, ?_⟩) ?_ ?_
  rotate_left
  ·intro w'
   go_simp
   with_reducible rfl
  rotate_left
  ·simp only [Act.put, List.setIfInBounds_toArray, List.set_cons_zero, List.set_cons_succ, i64_w, i32_w]
   rfl
  refine pure_ (i := 2) (N := some 11) (v := ?_) (a' := ?_) #[true, false, true, false, false, false, false, false, false, false, false, false, false] rfl rfl (any_of HT_.out Z7_18) (fun _ _ _ h => h) (Or.inl ⟨by rfl, ?_⟩) ?_ ?_
  rotate_left
  ·intro w'
   go_simp
   with_reducible rfl
  rotate_left
  ·simp only [Act.put, List.setIfInBounds_toArray, List.set_cons_zero, List.set_cons_succ, i64_w, i32_w]
   rfl
  refine pure_ (i := 5) (N := some 14) (v := ?_) (a' := ?_) #[true, false, true, false, false, true, false, false, false, false, false, false, false] rfl rfl (any_of HT_.out Z7_18) (fun _ _ _ h => h) (Or.inl ⟨by rfl, ?_⟩) ?_ ?_
  rotate_left
  ·intro w'
   go_simp
   with_reducible rfl
  rotate_left
  ·simp only [Act.put, List.setIfInBounds_toArray, List.set_cons_zero, List.set_cons_succ, i64_w, i32_w]
   rfl
  refine take_ (i := 1) (N := some 10) (v := ?_) (a' := ?_) #[true, true, true, false, false, true, false, false, false, false, false, false, false] rfl rfl (take_ofW HT_.out HW_.out Z7_18) (fun _ _ _ h => h) (Or.inl ⟨by rfl, ?_⟩) hHeld ?_ ?_
  rotate_left
  ·rintro w' ⟨s0, s1, s2, s3, s4, s5⟩
   go_simp
   with_reducible rfl
  rotate_left
  ·simp only [Act.put, List.setIfInBounds_toArray, List.set_cons_zero, List.set_cons_succ, i64_w, i32_w]
   rfl
  refine take_ (i := 3) (N := some 12) (v := ?_) (a' := ?_) #[true, true, true, true, false, true, false, false, false, false, false, false, false] rfl rfl (take_ofW HT_.out HW_.out Z7_18) (fun _ _ _ h => h) (Or.inl ⟨by rfl, ?_⟩) hHeld ?_ ?_
  rotate_left
  ·rintro w' ⟨s0, s1, s2, s3, s4, s5⟩
   go_simp
   with_reducible rfl
  rotate_left
  ·simp only [Act.put, List.setIfInBounds_toArray, List.set_cons_zero, List.set_cons_succ, i64_w, i32_w]
   rfl
  refine pure_ (i := 4) (N := some 13) (v := ?_) (a' := ?_) #[true, true, true, true, true, true, false, false, false, false, false, false, false] rfl rfl (any_of HT_.out Z7_18) (fun _ _ _ h => h) (Or.inl ⟨by rfl, ?_⟩) ?_ ?_
  rotate_left
  ·intro w'
   go_simp
   with_reducible rfl
  rotate_left
  ·simp only [Act.put, List.setIfInBounds_toArray, List.set_cons_zero, List.set_cons_succ, i64_w, i32_w]
   rfl
  refine take_ (i := 6) (N := some 15) (v := ?_) (a' := ?_) #[true, true, true, true, true, true, true, false, false, false, false, false, false] rfl rfl (take_ofW HT_.out HW_.out Z7_18) (fun _ _ _ h => h) (Or.inl ⟨by rfl, ?_⟩) hHeld ?_ ?_
  rotate_left
  ·rintro w' ⟨s0, s1, s2, s3, s4, s5⟩
   go_simp
   with_reducible rfl
  rotate_left
  ·simp only [Act.put, List.setIfInBounds_toArray, List.set_cons_zero, List.set_cons_succ, i64_w, i32_w]
   rfl
  refine join_ (σ := Value × Value × Nat) 1 #[true, true, true, true, true, true, true, true, true, true, true, true, false] (fun s_ => [(16, s_.1), (18, s_.2.1), (4, .pointer (some ⟨s_.2.2, 0, none⟩)), (17, .agg #[.int .i64 4096, .int .i64 5, .int .i64 (l0_2.length : Int), s_.1]), (19, .agg #[.int .i64 a0_4, s_.2.1])]) (fun s_ w' => (w'.cell? ⟨gb194, 0, none⟩ = some (.int .i64 a0_0) ∧ w'.cell? ⟨gb194, 1, none⟩ = some (.int .i64 a0_1) ∧ w'.cell? ⟨gb194, 2, none⟩ = some (.slice A0_2 l0_2.length c0_2) ∧ w'.cell? ⟨gb194, 3, none⟩ = some (.slice A0_3 l0_3.length c0_3) ∧ w'.cell? ⟨gb194, 4, none⟩ = some (.int .i64 a0_4) ∧ w'.cell? ⟨gb194, 5, none⟩ = some (.slice A0_5 l0_5.length c0_5)) ∧ (Kd.S k58 58 w' w.heap.size (fun _ => True) s_.2.1 y199) ∧ (w'.heap[gb194]? = some (.cells #[.int .i64 a0_0, .int .i64 a0_1, .slice A0_2 l0_2.length c0_2, .slice A0_3 l0_3.length c0_3, .int .i64 a0_4, .slice A0_5 l0_5.length c0_5] 51 (0, 0))) ∧ (w'.heap[gb195]? = some (.cells #[.int .i64 0, .slice none 0 0] 29 (0, 0))) ∧ (w'.heap[s_.2.2]? = some (.cells #[.int .i64 0, .slice none 0 0] 29 (0, 0))) ∧ (w.heap.size ≤ s_.2.2) ∧ (w.heap.size ≤ s_.2.2) ∧ (gb194 ≠ s_.2.2) ∧ (s_.2.2 ≠ gb194) ∧ (gb195 ≠ s_.2.2) ∧ (s_.2.2 ≠ gb195) ∧ (Below w.heap.size w w')) ?_ ?_
  rotate_left
  ·intro hCont
   refine two_ (i := 7) (j := 11) (Ni := some 16) (Nj := some 4) #[true, true, true, true, true, true, true, true, false, false, false, false, false] #[true, true, true, true, true, true, true, false, false, false, false, true, false] rfl rfl rfl rfl (two_of HT_.out Z7_18) Z7_35 Z7_35 (fun K hK => ?_) (fun K hK => ?_)
   ·skip
    refine goes_ Try.func44 Z7_18 rfl #[.slice A0_2 l0_2.length c0_2] (by rfl) rfl rfl Z7_10 ?_
    with_reducible refine (impl_copied.calls _ _ l0_2 t196 _ ?side1 ?side2 A3.out).mono ?_
    (case side1 => exact Z7_15)
    (case side2 => exact HC0_2.out)
    rintro e w92 ⟨v197, rfl, ho0, hb⟩
    refine ⟨_, rfl, ?_⟩
    have n0_ := Aside0.mk (Kd.R_lower ho0 (below_size Z7_2))
    have n1_ := Aside0.mk (blk_below (g := gb194) (o := .cells #[.int .i64 a0_0, .int .i64 a0_1, .slice A0_2 l0_2.length c0_2, .slice A0_3 l0_3.length c0_3, .int .i64 a0_4, .slice A0_5 l0_5.length c0_5] 51 (0, 0)) Z7_3 hb)
    have n2_ := Aside0.mk (blk_below (g := gb195) (o := .cells #[.int .i64 0, .slice none 0 0] 29 (0, 0)) Z7_4 hb)
    have n3_ := Aside0.mk (below_step Z7_2 hb)
    clear BK194
    clear BK195
    clear HB
    have HO198 := n0_
    have BK194 := n1_
    have BK195 := n2_
    have HB := n3_
    clear n0_ n1_ n2_ n3_
    (try clear hb)
    (try clear hb2)
    (try clear hk)
    (try clear hi)
    (try clear ho0)
    obtain ⟨Ao93, co93, eo93⟩ := Kd.R_slice HO198.out
    (first | subst eo93 | (injection eo93 with f1_ f2_ f3_; have f4_ := f1_.symm; have f5_ := f3_.symm; clear f1_ f2_ f3_; subst f4_; subst f5_))
    refine hK.out _ _ ⟨(blk_cell BK194.out 0).trans rfl, (blk_cell BK194.out 1).trans rfl, (blk_cell BK194.out 2).trans rfl, (blk_cell BK194.out 3).trans rfl, (blk_cell BK194.out 4).trans rfl, (blk_cell BK194.out 5).trans rfl⟩ (fun hHeld => ?_)
    clear hK K
    refine norm_ (a' := ?_) ?_ ?_
    rotate_left
    ·show Act.put _ (some 16) _ = _
     simp only [Act.put, List.setIfInBounds_toArray, List.set_cons_zero, List.set_cons_succ, i64_w, i32_w]
     rfl
    refine pure_ (i := 8) (N := some 17) (v := ?_) (a' := ?_) #[true, true, true, true, true, true, true, true, true, false, false, false, false] rfl rfl (any_of HT_.out Z7_18) (fun _ _ _ h => h) (Or.inl ⟨by rfl, ?_⟩) ?_ ?_
    rotate_left
    ·intro w'
     go_simp
     with_reducible rfl
    rotate_left
    ·simp only [Act.put, List.setIfInBounds_toArray, List.set_cons_zero, List.set_cons_succ, i64_w, i32_w]
     rfl
    refine two_ (i := 9) (j := 11) (Ni := some 18) (Nj := some 4) #[true, true, true, true, true, true, true, true, true, true, false, false, false] #[true, true, true, true, true, true, true, true, true, false, false, true, false] rfl rfl rfl rfl (two_of HT_.out Z7_18) Z7_35 Z7_35 (fun K hK => ?_) (fun K hK => ?_)
    ·skip
     refine Kd.S_lits_step k58 (w0 := w) w.heap.size 58 ?hg (N := 18) ?hd (xs := ([(⟨4096, 5, (l0_2.length : Int), t196⟩ : S58)] : List (S58))) (inner := [.int .i64 4096, .int .i64 5, .int .i64 (l0_2.length : Int), .slice Ao93 t196.length co93]) (ok := (fun _ => True)) (fun j_ k_ => j_ = 0 ∧ (fun k_ => some k_ = (.slice Ao93 t196.length co93 : Value).ownBlock) k_) ?hr rfl ?hp (fun _ _ _ h1_ h2_ => h1_.1.trans h2_.1.symm) (fun _ k_ h_ => ((show ∀ k_, (fun k_ => some k_ = (.slice Ao93 t196.length co93 : Value).ownBlock) k_ → ((fun _ => True)) k_ ∧ some k_ ≠ (.slice none 0 0 : Value).ownBlock from (fun k_ hk_ => ((Kd.R_mono (ok' := fun k_ => ((fun _ => True)) k_ ∧ some k_ ≠ (.slice none 0 0 : Value).ownBlock) (HO198.out) (fun k_ hk => ⟨trivial, Z7_22⟩))).1 k_ hk_.symm)) k_ h_.2).1) ?aF ?aB ?aS (by simp) ?_; (case hd => rfl); (case hg => rfl); (case hr => exact Z7_13); (case hp => exact Z7_5)
     (case aB => exact Z7_2)
     (case aF => exact (show ∀ k_, w92.heap.size ≤ k_ → (fun _ => True) k_ from (fun _ _ => trivial)) _ (Nat.le_refl _))
     (case aS => exact (below_size Z7_2))
     intro v200 w94 ho hb hg hat
     rw [← Ny199.out] at ho
     have n0_ := Aside0.mk (blk_grown (g := gb194) (o := .cells #[.int .i64 a0_0, .int .i64 a0_1, .slice A0_2 l0_2.length c0_2, .slice A0_3 l0_3.length c0_3, .int .i64 a0_4, .slice A0_5 l0_5.length c0_5] 51 (0, 0)) Z7_3 hg Z7_22)
     have n1_ := Aside0.mk (blk_grown (g := gb195) (o := .cells #[.int .i64 0, .slice none 0 0] 29 (0, 0)) Z7_4 hg Z7_22)
     have n2_ := Aside0.mk (hb)
     have n3_ := Aside0.mk (ho)
     clear BK194
     clear BK195
     clear HB
     clear HO198
     have BK194 := n0_
     have BK195 := n1_
     have HB := n2_
     have HO201 := n3_
     clear n0_ n1_ n2_ n3_
     clear ho hb hg hat
     obtain ⟨Ao95, co95, eo95⟩ := Kd.S_slice HO201.out
     (first | subst eo95 | (injection eo95 with f1_ f2_ f3_; have f4_ := f1_.symm; have f5_ := f3_.symm; clear f1_ f2_ f3_; subst f4_; subst f5_))
     refine hK.out _ _ ⟨(blk_cell BK194.out 0).trans rfl, (blk_cell BK194.out 1).trans rfl, (blk_cell BK194.out 2).trans rfl, (blk_cell BK194.out 3).trans rfl, (blk_cell BK194.out 4).trans rfl, (blk_cell BK194.out 5).trans rfl⟩ (fun hHeld => ?_)
     clear hK K
     refine norm_ (a' := ?_) ?_ ?_
     rotate_left
     ·show Act.put _ (some 18) _ = _
      simp only [Act.put, List.setIfInBounds_toArray, List.set_cons_zero, List.set_cons_succ, i64_w, i32_w]
      rfl
     refine pure_ (i := 10) (N := some 19) (v := ?_) (a' := ?_) #[true, true, true, true, true, true, true, true, true, true, true, false, false] rfl rfl (any_of HT_.out Z7_18) (fun _ _ _ h => h) (Or.inl ⟨by rfl, ?_⟩) ?_ ?_
     rotate_left
     ·intro w'
      go_simp
      with_reducible rfl
     rotate_left
     ·simp only [Act.put, List.setIfInBounds_toArray, List.set_cons_zero, List.set_cons_succ, i64_w, i32_w]
      rfl
     refine one_ (i := 11) (N := some 4) #[true, true, true, true, true, true, true, true, true, true, true, true, false] rfl rfl (one_of HT_.out Z7_18) Z7_35 (fun K hK => ?_)
     refine box_step ?hg (N := 4) ?hd (cs := #[.int .i64 0, .slice none 0 0]) (t := 29) ?hr ?_; (case hd => rfl); (case hg => rfl); (case hr => exact Z7_13)
     intro gb202 hg w96 hbox hb
     have n0_ := Aside0.mk (Kd.S_below Z7_12 hb)
     have n1_ := Aside0.mk (blk_below (g := gb194) (o := .cells #[.int .i64 a0_0, .int .i64 a0_1, .slice A0_2 l0_2.length c0_2, .slice A0_3 l0_3.length c0_3, .int .i64 a0_4, .slice A0_5 l0_5.length c0_5] 51 (0, 0)) Z7_3 hb)
     have n2_ := Aside0.mk (blk_below (g := gb195) (o := .cells #[.int .i64 0, .slice none 0 0] 29 (0, 0)) Z7_4 hb)
     have n3_ := Aside0.mk (below_step Z7_2 hb)
     have n4_ := Aside0.mk (hbox)
     have n5_ := Aside0.mk ((Z7_24 : w.heap.size ≤ gb202))
     have n6_ := Aside0.mk ((Z7_24 : w.heap.size ≤ gb202))
     have n7_ := Aside0.mk ((Z7_6 : gb194 ≠ gb202))
     have n8_ := Aside0.mk ((Z7_7 : gb202 ≠ gb194))
     have n9_ := Aside0.mk ((Z7_16 : gb195 ≠ gb202))
     have n10_ := Aside0.mk ((Z7_17 : gb202 ≠ gb195))
     clear HO201
     clear BK194
     clear BK195
     clear HB
     have HO201 := n0_
     have BK194 := n1_
     have BK195 := n2_
     have HB := n3_
     have BK202 := n4_
     have GW202 := n5_
     have GE202 := n6_
     have NB194_202 := n7_
     have NB202_194 := n8_
     have NB195_202 := n9_
     have NB202_195 := n10_
     clear n0_ n1_ n2_ n3_ n4_ n5_ n6_ n7_ n8_ n9_ n10_
     clear hb hbox hg
     refine hK.out _ _ ⟨(blk_cell BK194.out 0).trans rfl, (blk_cell BK194.out 1).trans rfl, (blk_cell BK194.out 2).trans rfl, (blk_cell BK194.out 3).trans rfl, (blk_cell BK194.out 4).trans rfl, (blk_cell BK194.out 5).trans rfl⟩ (fun hHeld => ?_)
     clear hK K
     refine norm_ (a' := ?_) ?_ ?_
     rotate_left
     ·show Act.put _ (some 4) _ = _
      simp only [Act.put, List.setIfInBounds_toArray, List.set_cons_zero, List.set_cons_succ, i64_w, i32_w]
      rfl
     exact norm_ Z7_19 (hCont (.slice Ao93 t196.length co93, .slice Ao95 y199.length co95, gb202) _ ⟨hHeld, Z7_12, Z7_3, Z7_4, Z7_8, GW202.out, GE202.out, NB194_202.out, NB202_194.out, NB195_202.out, NB202_195.out, Z7_1⟩)
    skip
    refine box_step ?hg (N := 4) ?hd (cs := #[.int .i64 0, .slice none 0 0]) (t := 29) ?hr ?_; (case hd => rfl); (case hg => rfl); (case hr => exact Z7_13)
    intro gb202 hg w94 hbox hb
    have n0_ := Aside0.mk (Kd.R_below Z7_29 hb)
    have n1_ := Aside0.mk (blk_below (g := gb194) (o := .cells #[.int .i64 a0_0, .int .i64 a0_1, .slice A0_2 l0_2.length c0_2, .slice A0_3 l0_3.length c0_3, .int .i64 a0_4, .slice A0_5 l0_5.length c0_5] 51 (0, 0)) Z7_3 hb)
    have n2_ := Aside0.mk (blk_below (g := gb195) (o := .cells #[.int .i64 0, .slice none 0 0] 29 (0, 0)) Z7_4 hb)
    have n3_ := Aside0.mk (below_step Z7_2 hb)
    have n4_ := Aside0.mk (hbox)
    have n5_ := Aside0.mk ((Z7_24 : w.heap.size ≤ gb202))
    have n6_ := Aside0.mk ((Z7_24 : w.heap.size ≤ gb202))
    have n7_ := Aside0.mk ((Z7_6 : gb194 ≠ gb202))
    have n8_ := Aside0.mk ((Z7_7 : gb202 ≠ gb194))
    have n9_ := Aside0.mk ((Z7_16 : gb195 ≠ gb202))
    have n10_ := Aside0.mk ((Z7_17 : gb202 ≠ gb195))
    clear HO198
    clear BK194
    clear BK195
    clear HB
    have HO198 := n0_
    have BK194 := n1_
    have BK195 := n2_
    have HB := n3_
    have BK202 := n4_
    have GW202 := n5_
    have GE202 := n6_
    have NB194_202 := n7_
    have NB202_194 := n8_
    have NB195_202 := n9_
    have NB202_195 := n10_
    clear n0_ n1_ n2_ n3_ n4_ n5_ n6_ n7_ n8_ n9_ n10_
    clear hb hbox hg
    refine hK.out _ _ ⟨(blk_cell BK194.out 0).trans rfl, (blk_cell BK194.out 1).trans rfl, (blk_cell BK194.out 2).trans rfl, (blk_cell BK194.out 3).trans rfl, (blk_cell BK194.out 4).trans rfl, (blk_cell BK194.out 5).trans rfl⟩ (fun hHeld => ?_)
    clear hK K
    refine norm_ (a' := ?_) ?_ ?_
    rotate_left
    ·show Act.put _ (some 4) _ = _
     simp only [Act.put, List.setIfInBounds_toArray, List.set_cons_zero, List.set_cons_succ, i64_w, i32_w]
     rfl
    refine one_ (i := 9) (N := some 18) #[true, true, true, true, true, true, true, true, true, true, false, true, false] rfl rfl (one_of HT_.out Z7_18) Z7_35 (fun K hK => ?_)
    refine Kd.S_lits_step k58 (w0 := w) w.heap.size 58 ?hg (N := 18) ?hd (xs := ([(⟨4096, 5, (l0_2.length : Int), t196⟩ : S58)] : List (S58))) (inner := [.int .i64 4096, .int .i64 5, .int .i64 (l0_2.length : Int), .slice Ao93 t196.length co93]) (ok := (fun _ => True)) (fun j_ k_ => j_ = 0 ∧ (fun k_ => some k_ = (.slice Ao93 t196.length co93 : Value).ownBlock) k_) ?hr rfl ?hp (fun _ _ _ h1_ h2_ => h1_.1.trans h2_.1.symm) (fun _ k_ h_ => ((show ∀ k_, (fun k_ => some k_ = (.slice Ao93 t196.length co93 : Value).ownBlock) k_ → ((fun _ => True)) k_ ∧ some k_ ≠ (.slice none 0 0 : Value).ownBlock from (fun k_ hk_ => ((Kd.R_mono (ok' := fun k_ => ((fun _ => True)) k_ ∧ some k_ ≠ (.slice none 0 0 : Value).ownBlock) (HO198.out) (fun k_ hk => ⟨trivial, Z7_22⟩))).1 k_ hk_.symm)) k_ h_.2).1) ?aF ?aB ?aS (by simp) ?_; (case hd => rfl); (case hg => rfl); (case hr => exact Z7_13); (case hp => exact Z7_5)
    (case aB => exact Z7_1)
    (case aF => exact (show ∀ k_, w94.heap.size ≤ k_ → (fun _ => True) k_ from (fun _ _ => trivial)) _ (Nat.le_refl _))
    (case aS => exact (below_size Z7_1))
    intro v200 w95 ho hb hg hat
    rw [← Ny199.out] at ho
    have n0_ := Aside0.mk (blk_grown (g := gb194) (o := .cells #[.int .i64 a0_0, .int .i64 a0_1, .slice A0_2 l0_2.length c0_2, .slice A0_3 l0_3.length c0_3, .int .i64 a0_4, .slice A0_5 l0_5.length c0_5] 51 (0, 0)) Z7_3 hg Z7_22)
    have n1_ := Aside0.mk (blk_grown (g := gb195) (o := .cells #[.int .i64 0, .slice none 0 0] 29 (0, 0)) Z7_4 hg Z7_22)
    have n2_ := Aside0.mk (blk_grown (g := gb202) (o := .cells #[.int .i64 0, .slice none 0 0] 29 (0, 0)) Z7_8 hg Z7_22)
    have n3_ := Aside0.mk (hb)
    have n4_ := Aside0.mk (ho)
    clear BK194
    clear BK195
    clear BK202
    clear HB
    clear HO198
    have BK194 := n0_
    have BK195 := n1_
    have BK202 := n2_
    have HB := n3_
    have HO201 := n4_
    clear n0_ n1_ n2_ n3_ n4_
    clear ho hb hg hat
    obtain ⟨Ao96, co96, eo96⟩ := Kd.S_slice HO201.out
    (first | subst eo96 | (injection eo96 with f1_ f2_ f3_; have f4_ := f1_.symm; have f5_ := f3_.symm; clear f1_ f2_ f3_; subst f4_; subst f5_))
    refine hK.out _ _ ⟨(blk_cell BK194.out 0).trans rfl, (blk_cell BK194.out 1).trans rfl, (blk_cell BK194.out 2).trans rfl, (blk_cell BK194.out 3).trans rfl, (blk_cell BK194.out 4).trans rfl, (blk_cell BK194.out 5).trans rfl⟩ (fun hHeld => ?_)
    clear hK K
    refine norm_ (a' := ?_) ?_ ?_
    rotate_left
    ·show Act.put _ (some 18) _ = _
     simp only [Act.put, List.setIfInBounds_toArray, List.set_cons_zero, List.set_cons_succ, i64_w, i32_w]
     rfl
    refine pure_ (i := 10) (N := some 19) (v := ?_) (a' := ?_) #[true, true, true, true, true, true, true, true, true, true, true, true, false] rfl rfl (any_of HT_.out Z7_18) (fun _ _ _ h => h) (Or.inl ⟨by rfl, ?_⟩) ?_ ?_
    rotate_left
    ·intro w'
     go_simp
     with_reducible rfl
    rotate_left
    ·simp only [Act.put, List.setIfInBounds_toArray, List.set_cons_zero, List.set_cons_succ, i64_w, i32_w]
     rfl
    exact norm_ Z7_19 (hCont (.slice Ao93 t196.length co93, .slice Ao96 y199.length co96, gb202) _ ⟨hHeld, Z7_12, Z7_3, Z7_4, Z7_8, GW202.out, GE202.out, NB194_202.out, NB202_194.out, NB195_202.out, NB202_195.out, Z7_1⟩)
   skip
   refine box_step ?hg (N := 4) ?hd (cs := #[.int .i64 0, .slice none 0 0]) (t := 29) ?hr ?_; (case hd => rfl); (case hg => rfl); (case hr => exact Z7_13)
   intro gb202 hg w92 hbox hb
   have n0_ := Aside0.mk (blk_below (g := gb194) (o := .cells #[.int .i64 a0_0, .int .i64 a0_1, .slice A0_2 l0_2.length c0_2, .slice A0_3 l0_3.length c0_3, .int .i64 a0_4, .slice A0_5 l0_5.length c0_5] 51 (0, 0)) Z7_3 hb)
   have n1_ := Aside0.mk (blk_below (g := gb195) (o := .cells #[.int .i64 0, .slice none 0 0] 29 (0, 0)) Z7_4 hb)
   have n2_ := Aside0.mk (below_step Z7_2 hb)
   have n3_ := Aside0.mk (hbox)
   have n4_ := Aside0.mk ((Z7_24 : w.heap.size ≤ gb202))
   have n5_ := Aside0.mk ((Z7_24 : w.heap.size ≤ gb202))
   have n6_ := Aside0.mk ((Z7_6 : gb194 ≠ gb202))
   have n7_ := Aside0.mk ((Z7_7 : gb202 ≠ gb194))
   have n8_ := Aside0.mk ((Z7_16 : gb195 ≠ gb202))
   have n9_ := Aside0.mk ((Z7_17 : gb202 ≠ gb195))
   clear BK194
   clear BK195
   clear HB
   have BK194 := n0_
   have BK195 := n1_
   have HB := n2_
   have BK202 := n3_
   have GW202 := n4_
   have GE202 := n5_
   have NB194_202 := n6_
   have NB202_194 := n7_
   have NB195_202 := n8_
   have NB202_195 := n9_
   clear n0_ n1_ n2_ n3_ n4_ n5_ n6_ n7_ n8_ n9_
   clear hb hbox hg
   refine hK.out _ _ ⟨(blk_cell BK194.out 0).trans rfl, (blk_cell BK194.out 1).trans rfl, (blk_cell BK194.out 2).trans rfl, (blk_cell BK194.out 3).trans rfl, (blk_cell BK194.out 4).trans rfl, (blk_cell BK194.out 5).trans rfl⟩ (fun hHeld => ?_)
   clear hK K
   refine norm_ (a' := ?_) ?_ ?_
   rotate_left
   ·show Act.put _ (some 4) _ = _
    simp only [Act.put, List.setIfInBounds_toArray, List.set_cons_zero, List.set_cons_succ, i64_w, i32_w]
    rfl
   refine one_ (i := 7) (N := some 16) #[true, true, true, true, true, true, true, true, false, false, false, true, false] rfl rfl (one_of HT_.out Z7_18) Z7_35 (fun K hK => ?_)
   refine goes_ Try.func44 Z7_18 rfl #[.slice A0_2 l0_2.length c0_2] (by rfl) rfl rfl Z7_10 ?_
   with_reducible refine (impl_copied.calls _ _ l0_2 t196 _ ?side1 ?side2 A3.out).mono ?_
   (case side1 => exact Z7_15)
   (case side2 => exact HC0_2.out)
   rintro e w93 ⟨v197, rfl, ho0, hb⟩
   refine ⟨_, rfl, ?_⟩
   have n0_ := Aside0.mk (Kd.R_lower ho0 (below_size Z7_1))
   have n1_ := Aside0.mk (blk_below (g := gb194) (o := .cells #[.int .i64 a0_0, .int .i64 a0_1, .slice A0_2 l0_2.length c0_2, .slice A0_3 l0_3.length c0_3, .int .i64 a0_4, .slice A0_5 l0_5.length c0_5] 51 (0, 0)) Z7_3 hb)
   have n2_ := Aside0.mk (blk_below (g := gb195) (o := .cells #[.int .i64 0, .slice none 0 0] 29 (0, 0)) Z7_4 hb)
   have n3_ := Aside0.mk (blk_below (g := gb202) (o := .cells #[.int .i64 0, .slice none 0 0] 29 (0, 0)) Z7_8 hb)
   have n4_ := Aside0.mk (below_step Z7_1 hb)
   clear BK194
   clear BK195
   clear BK202
   clear HB
   have HO198 := n0_
   have BK194 := n1_
   have BK195 := n2_
   have BK202 := n3_
   have HB := n4_
   clear n0_ n1_ n2_ n3_ n4_
   (try clear hb)
   (try clear hb2)
   (try clear hk)
   (try clear hi)
   (try clear ho0)
   obtain ⟨Ao94, co94, eo94⟩ := Kd.R_slice HO198.out
   (first | subst eo94 | (injection eo94 with f1_ f2_ f3_; have f4_ := f1_.symm; have f5_ := f3_.symm; clear f1_ f2_ f3_; subst f4_; subst f5_))
   refine hK.out _ _ ⟨(blk_cell BK194.out 0).trans rfl, (blk_cell BK194.out 1).trans rfl, (blk_cell BK194.out 2).trans rfl, (blk_cell BK194.out 3).trans rfl, (blk_cell BK194.out 4).trans rfl, (blk_cell BK194.out 5).trans rfl⟩ (fun hHeld => ?_)
   clear hK K
   refine norm_ (a' := ?_) ?_ ?_
   rotate_left
   ·show Act.put _ (some 16) _ = _
    simp only [Act.put, List.setIfInBounds_toArray, List.set_cons_zero, List.set_cons_succ, i64_w, i32_w]
    rfl
   refine pure_ (i := 8) (N := some 17) (v := ?_) (a' := ?_) #[true, true, true, true, true, true, true, true, true, false, false, true, false] rfl rfl (any_of HT_.out Z7_18) (fun _ _ _ h => h) (Or.inl ⟨by rfl, ?_⟩) ?_ ?_
   rotate_left
   ·intro w'
    go_simp
    with_reducible rfl
   rotate_left
   ·simp only [Act.put, List.setIfInBounds_toArray, List.set_cons_zero, List.set_cons_succ, i64_w, i32_w]
    rfl
   refine one_ (i := 9) (N := some 18) #[true, true, true, true, true, true, true, true, true, true, false, true, false] rfl rfl (one_of HT_.out Z7_18) Z7_35 (fun K hK => ?_)
   refine Kd.S_lits_step k58 (w0 := w) w.heap.size 58 ?hg (N := 18) ?hd (xs := ([(⟨4096, 5, (l0_2.length : Int), t196⟩ : S58)] : List (S58))) (inner := [.int .i64 4096, .int .i64 5, .int .i64 (l0_2.length : Int), .slice Ao94 t196.length co94]) (ok := (fun _ => True)) (fun j_ k_ => j_ = 0 ∧ (fun k_ => some k_ = (.slice Ao94 t196.length co94 : Value).ownBlock) k_) ?hr rfl ?hp (fun _ _ _ h1_ h2_ => h1_.1.trans h2_.1.symm) (fun _ k_ h_ => ((show ∀ k_, (fun k_ => some k_ = (.slice Ao94 t196.length co94 : Value).ownBlock) k_ → ((fun _ => True)) k_ ∧ some k_ ≠ (.slice none 0 0 : Value).ownBlock from (fun k_ hk_ => ((Kd.R_mono (ok' := fun k_ => ((fun _ => True)) k_ ∧ some k_ ≠ (.slice none 0 0 : Value).ownBlock) (HO198.out) (fun k_ hk => ⟨trivial, Z7_22⟩))).1 k_ hk_.symm)) k_ h_.2).1) ?aF ?aB ?aS (by simp) ?_; (case hd => rfl); (case hg => rfl); (case hr => exact Z7_13); (case hp => exact Z7_5)
   (case aB => exact Z7_1)
   (case aF => exact (show ∀ k_, w93.heap.size ≤ k_ → (fun _ => True) k_ from (fun _ _ => trivial)) _ (Nat.le_refl _))
   (case aS => exact (below_size Z7_1))
   intro v200 w95 ho hb hg hat
   rw [← Ny199.out] at ho
   have n0_ := Aside0.mk (blk_grown (g := gb194) (o := .cells #[.int .i64 a0_0, .int .i64 a0_1, .slice A0_2 l0_2.length c0_2, .slice A0_3 l0_3.length c0_3, .int .i64 a0_4, .slice A0_5 l0_5.length c0_5] 51 (0, 0)) Z7_3 hg Z7_22)
   have n1_ := Aside0.mk (blk_grown (g := gb195) (o := .cells #[.int .i64 0, .slice none 0 0] 29 (0, 0)) Z7_4 hg Z7_22)
   have n2_ := Aside0.mk (blk_grown (g := gb202) (o := .cells #[.int .i64 0, .slice none 0 0] 29 (0, 0)) Z7_8 hg Z7_22)
   have n3_ := Aside0.mk (hb)
   have n4_ := Aside0.mk (ho)
   clear BK194
   clear BK195
   clear BK202
   clear HB
   clear HO198
   have BK194 := n0_
   have BK195 := n1_
   have BK202 := n2_
   have HB := n3_
   have HO201 := n4_
   clear n0_ n1_ n2_ n3_ n4_
   clear ho hb hg hat
   obtain ⟨Ao96, co96, eo96⟩ := Kd.S_slice HO201.out
   (first | subst eo96 | (injection eo96 with f1_ f2_ f3_; have f4_ := f1_.symm; have f5_ := f3_.symm; clear f1_ f2_ f3_; subst f4_; subst f5_))
   refine hK.out _ _ ⟨(blk_cell BK194.out 0).trans rfl, (blk_cell BK194.out 1).trans rfl, (blk_cell BK194.out 2).trans rfl, (blk_cell BK194.out 3).trans rfl, (blk_cell BK194.out 4).trans rfl, (blk_cell BK194.out 5).trans rfl⟩ (fun hHeld => ?_)
   clear hK K
   refine norm_ (a' := ?_) ?_ ?_
   rotate_left
   ·show Act.put _ (some 18) _ = _
    simp only [Act.put, List.setIfInBounds_toArray, List.set_cons_zero, List.set_cons_succ, i64_w, i32_w]
    rfl
   refine pure_ (i := 10) (N := some 19) (v := ?_) (a' := ?_) #[true, true, true, true, true, true, true, true, true, true, true, true, false] rfl rfl (any_of HT_.out Z7_18) (fun _ _ _ h => h) (Or.inl ⟨by rfl, ?_⟩) ?_ ?_
   rotate_left
   ·intro w'
    go_simp
    with_reducible rfl
   rotate_left
   ·simp only [Act.put, List.setIfInBounds_toArray, List.set_cons_zero, List.set_cons_succ, i64_w, i32_w]
    rfl
   exact norm_ Z7_19 (hCont (.slice Ao94 t196.length co94, .slice Ao96 y199.length co96, gb202) _ ⟨hHeld, Z7_12, Z7_3, Z7_4, Z7_8, GW202.out, GE202.out, NB194_202.out, NB202_194.out, NB195_202.out, NB202_195.out, Z7_1⟩)
  rintro ⟨v197, v200, gb202⟩ w97 ⟨hS_, h0_, h1_, h2_, h3_, h4_, h5_, h6_, h7_, h8_, h9_, h10_⟩
  have n0_ : Aside0 (Kd.S k58 58 w97 w.heap.size (fun _ => True) v200 y199) := ⟨h0_⟩
  have n1_ : Aside0 (w97.heap[gb194]? = some (.cells #[.int .i64 a0_0, .int .i64 a0_1, .slice A0_2 l0_2.length c0_2, .slice A0_3 l0_3.length c0_3, .int .i64 a0_4, .slice A0_5 l0_5.length c0_5] 51 (0, 0))) := ⟨h1_⟩
  have n2_ : Aside0 (w97.heap[gb195]? = some (.cells #[.int .i64 0, .slice none 0 0] 29 (0, 0))) := ⟨h2_⟩
  have n3_ : Aside0 (w97.heap[gb202]? = some (.cells #[.int .i64 0, .slice none 0 0] 29 (0, 0))) := ⟨h3_⟩
  have n4_ : Aside0 (w.heap.size ≤ gb202) := ⟨h4_⟩
  have n5_ : Aside0 (w.heap.size ≤ gb202) := ⟨h5_⟩
  have n6_ : Aside0 (gb194 ≠ gb202) := ⟨h6_⟩
  have n7_ : Aside0 (gb202 ≠ gb194) := ⟨h7_⟩
  have n8_ : Aside0 (gb195 ≠ gb202) := ⟨h8_⟩
  have n9_ : Aside0 (gb202 ≠ gb195) := ⟨h9_⟩
  have n10_ : Aside0 (Below w.heap.size w w97) := ⟨h10_⟩
  clear BK194
  clear BK195
  clear HB
  clear h0_ h1_ h2_ h3_ h4_ h5_ h6_ h7_ h8_ h9_ h10_
  have HO201 := n0_
  have BK194 := n1_
  have BK195 := n2_
  have BK202 := n3_
  have GW202 := n4_
  have GE202 := n5_
  have NB194_202 := n6_
  have NB202_194 := n7_
  have NB195_202 := n8_
  have NB202_195 := n9_
  have HB := n10_
  clear n0_ n1_ n2_ n3_ n4_ n5_ n6_ n7_ n8_ n9_ n10_
  have hHeld : w97.cell? ⟨gb194, 0, none⟩ = some (.int .i64 a0_0) ∧ w97.cell? ⟨gb194, 1, none⟩ = some (.int .i64 a0_1) ∧ w97.cell? ⟨gb194, 2, none⟩ = some (.slice A0_2 l0_2.length c0_2) ∧ w97.cell? ⟨gb194, 3, none⟩ = some (.slice A0_3 l0_3.length c0_3) ∧ w97.cell? ⟨gb194, 4, none⟩ = some (.int .i64 a0_4) ∧ w97.cell? ⟨gb194, 5, none⟩ = some (.slice A0_5 l0_5.length c0_5) := hS_
  obtain ⟨Ao98, co98, eo98⟩ := Kd.S_slice HO201.out
  (first | subst eo98 | (injection eo98 with f1_ f2_ f3_; have f4_ := f1_.symm; have f5_ := f3_.symm; clear f1_ f2_ f3_; subst f4_; subst f5_))
  refine norm_ (a' := ?_) ?_ ?_
  rotate_left
  ·simp only [putAll, Act.put, List.setIfInBounds_toArray, List.set_cons_zero, List.set_cons_succ]
   rfl
  refine one_ (i := 12) (N := none) #[true, true, true, true, true, true, true, true, true, true, true, true, true] rfl rfl (one_of HT_.out Z7_18) Z7_35 (fun K hK => ?_)
  have hs99 : w97.cell? ⟨gb202, 0, none⟩ = some (.int .i64 0) := (blk_cell BK202.out 0).trans rfl
  have hfs99 := blk_frozen BK202.out 0
  have hns99_0 := NB194_202.out
  have hns99_1 := NB195_202.out
  have hms99_0 := NB202_194.out
  have hms99_1 := NB202_195.out
  have hs100 : w97.cell? ⟨gb202, 1, none⟩ = some (.slice none 0 0) := (blk_cell BK202.out 1).trans rfl
  have hfs100 := blk_frozen BK202.out 1
  have hns100_0 := NB194_202.out
  have hns100_1 := NB195_202.out
  have hms100_0 := NB202_194.out
  have hms100_1 := NB202_195.out
  refine skip_ (w1 := ?_) (by rfl) rfl ?_ ?_
  rotate_left
  ·go_simp
   rfl
  refine hK.out _ _ ⟨((cell_far (p := ⟨gb202, _, none⟩) NB194_202.out _).trans (((cell_far (p := ⟨gb202, _, none⟩) NB194_202.out _).trans (hHeld.1)))), ((cell_far (p := ⟨gb202, _, none⟩) NB194_202.out _).trans (((cell_far (p := ⟨gb202, _, none⟩) NB194_202.out _).trans (hHeld.2.1)))), ((cell_far (p := ⟨gb202, _, none⟩) NB194_202.out _).trans (((cell_far (p := ⟨gb202, _, none⟩) NB194_202.out _).trans (hHeld.2.2.1)))), ((cell_far (p := ⟨gb202, _, none⟩) NB194_202.out _).trans (((cell_far (p := ⟨gb202, _, none⟩) NB194_202.out _).trans (hHeld.2.2.2.1)))), ((cell_far (p := ⟨gb202, _, none⟩) NB194_202.out _).trans (((cell_far (p := ⟨gb202, _, none⟩) NB194_202.out _).trans (hHeld.2.2.2.2.1)))), ((cell_far (p := ⟨gb202, _, none⟩) NB194_202.out _).trans (((cell_far (p := ⟨gb202, _, none⟩) NB194_202.out _).trans (hHeld.2.2.2.2.2))))⟩ (fun hHeld => ?_)
  clear hK K
  refine done_ (done_of HT_.out Z7_18) ?_
  have hnb101 := NB194_202.out
  have hnc101 := NB202_194.out
  have hcz102_0 : w97.cell? ⟨gb194, 0, none⟩ = some (.int .i64 a0_0) := (blk_cell BK194.out 0).trans rfl
  have hcz102_1 : w97.cell? ⟨gb194, 1, none⟩ = some (.int .i64 a0_1) := (blk_cell BK194.out 1).trans rfl
  have hcz102_2 : w97.cell? ⟨gb194, 2, none⟩ = some (.slice A0_2 l0_2.length c0_2) := (blk_cell BK194.out 2).trans rfl
  have hcz102_3 : w97.cell? ⟨gb194, 3, none⟩ = some (.slice A0_3 l0_3.length c0_3) := (blk_cell BK194.out 3).trans rfl
  have hcz102_4 : w97.cell? ⟨gb194, 4, none⟩ = some (.int .i64 a0_4) := (blk_cell BK194.out 4).trans rfl
  have hcz102_5 : w97.cell? ⟨gb194, 5, none⟩ = some (.slice A0_5 l0_5.length c0_5) := (blk_cell BK194.out 5).trans rfl
  have hfz102_0 := blk_frozen BK194.out 0
  have hfz102_1 := blk_frozen BK194.out 1
  have hfz102_2 := blk_frozen BK194.out 2
  have hfz102_3 := blk_frozen BK194.out 3
  have hfz102_4 := blk_frozen BK194.out 4
  have hfz102_5 := blk_frozen BK194.out 5
  have hnb103 := NB202_195.out
  have hnc103 := NB195_202.out
  have hcz104_0 : w97.cell? ⟨gb202, 0, none⟩ = some (.int .i64 0) := (blk_cell BK202.out 0).trans rfl
  have hcz104_1 : w97.cell? ⟨gb202, 1, none⟩ = some (.slice none 0 0) := (blk_cell BK202.out 1).trans rfl
  have hfz104_0 := blk_frozen BK202.out 0
  have hfz104_1 := blk_frozen BK202.out 1
  try go_wp2_with (first | ((with_reducible refine gate_callee (f := 10) rfl ?_); refine goesL_ (some 37) rfl rfl Try.func10 Z7_18 rfl #[.agg #[.int .i64 a0_4, .slice Ao98 y199.length co98]] rfl Z7_10 ?_; (with_reducible refine (impl_ImageOk.calls k a0_4 _ _ y199 false _ ?side1 ?side2 A64.out).mono ?_); (case side1 => refine (Kd.S_reads' (e := 58) (base := w.heap.size) (ok := fun k_ => True) (n := y199.length) (c := co98) ?_).2.2; exact Z7_28); (case side2 => exact (Kd.S_reads' HO201.out).2.1); rintro e w105 ⟨rfl, hb⟩; refine ⟨_, rfl, ?_⟩; have n0_ := Aside0.mk (Kd.S_below Z7_28 hb); have n1_ := Aside0.mk (blk_below (g := gb194) (o := .cells #[.int .i64 a0_0, .int .i64 a0_1, .slice A0_2 l0_2.length c0_2, .slice A0_3 l0_3.length c0_3, .int .i64 a0_4, .slice A0_5 l0_5.length c0_5] 51 (0, 0)) Z7_20 hb); have n2_ := Aside0.mk (blk_below (g := gb195) (o := .cells #[.int .i64 0, .slice none 0 0] 29 (0, 0)) Z7_21 hb); have n3_ := Aside0.mk (blk_below (g := gb202) (o := .cells #[.int .i64 a0_4, .slice Ao98 y199.length co98] 29 (0, 0)) Z7_14 hb); have n4_ := Aside0.mk (below_step Z7_1 hb); clear HO201; clear BK194; clear BK195; clear BK202; clear HB; have HO201 := n0_; have BK194 := n1_; have BK195 := n2_; have BK202 := n3_; have HB := n4_; clear n0_ n1_ n2_ n3_ n4_; (try clear hb); (try clear hb2); (try clear hk); (try clear hi); have hcz106_0 : w105.cell? ⟨gb195, 0, none⟩ = some (.int .i64 0) := (blk_cell BK195.out 0).trans rfl; have hcz106_1 : w105.cell? ⟨gb195, 1, none⟩ = some (.slice none 0 0) := (blk_cell BK195.out 1).trans rfl; have hfz106_0 := blk_frozen BK195.out 0; have hfz106_1 := blk_frozen BK195.out 1))
  refine bodyPost_ret (results_ct rfl _ _ gb195 29 #[.int .i64 0, .slice none 0 0] (0, 0) _ rfl Z7_23 Try.underlying29 rfl Z7_18) rfl ?_
  exact ⟨_, Z7_26, Z7_31, Z7_1⟩
 rw [if_neg c2] at H
 have c2b0 : (a0_0 == 0) = false := beq_eq_false_iff_ne.mpr c2
 have c2b1 : (a0_0 != 0) = true := bne_iff_ne.mpr c2
 simp only [Option.some.injEq, Prod.mk.injEq] at H
 obtain ⟨rfl, rfl, rfl⟩ := H
 go_enter Try.func25, Try.ntmps25
 go_wp2_with (first | ((with_reducible refine gate_dst (N := 1) rfl ?_); refine box_event ?hg (N := 1) ?hd (cs := #[.int .i64 a0_0, .int .i64 a0_1, .slice A0_2 l0_2.length c0_2, .slice A0_3 l0_3.length c0_3, .int .i64 a0_4, .slice A0_5 l0_5.length c0_5]) (t := 51) ?hr ?_; (case hd => rfl); (case hg => rfl); (case hr => exact Z7_13); intro gb194 hg w107 hbox hb; have n0_ := Aside0.mk (below_step Z7_11 hb); have n1_ := Aside0.mk (hbox); have n2_ := Aside0.mk ((Z7_30 : w.heap.size ≤ gb194)); have n3_ := Aside0.mk ((Z7_30 : w.heap.size ≤ gb194)); clear HB; have HB := n0_; have BK194 := n1_; have GW194 := n2_; have GE194 := n3_; clear n0_ n1_ n2_ n3_; clear hb hbox hg) | ((with_reducible refine gate_dst (N := 2) rfl ?_); refine box_event ?hg (N := 2) ?hd (cs := #[.int .i64 0, .slice none 0 0]) (t := 29) ?hr ?_; (case hd => rfl); (case hg => rfl); (case hr => exact Z7_13); intro gb195 hg w108 hbox hb; have n0_ := Aside0.mk (blk_below (g := gb194) (o := .cells #[.int .i64 a0_0, .int .i64 a0_1, .slice A0_2 l0_2.length c0_2, .slice A0_3 l0_3.length c0_3, .int .i64 a0_4, .slice A0_5 l0_5.length c0_5] 51 (0, 0)) Z7_3 hb); have n1_ := Aside0.mk (below_step Z7_9 hb); have n2_ := Aside0.mk (hbox); have n3_ := Aside0.mk ((Z7_32 : w.heap.size ≤ gb195)); have n4_ := Aside0.mk ((Z7_32 : w.heap.size ≤ gb195)); have n5_ := Aside0.mk ((Z7_6 : gb194 ≠ gb195)); have n6_ := Aside0.mk ((Z7_7 : gb195 ≠ gb194)); clear BK194; clear HB; have BK194 := n0_; have HB := n1_; have BK195 := n2_; have GW195 := n3_; have GE195 := n4_; have NB194_195 := n5_; have NB195_194 := n6_; clear n0_ n1_ n2_ n3_ n4_ n5_ n6_; clear hb hbox hg; have hnb109 := NB194_195.out; have hnc109 := NB195_194.out; have hcz110_0 : w108.cell? ⟨gb194, 0, none⟩ = some (.int .i64 a0_0) := (blk_cell BK194.out 0).trans rfl; have hcz110_1 : w108.cell? ⟨gb194, 1, none⟩ = some (.int .i64 a0_1) := (blk_cell BK194.out 1).trans rfl; have hcz110_2 : w108.cell? ⟨gb194, 2, none⟩ = some (.slice A0_2 l0_2.length c0_2) := (blk_cell BK194.out 2).trans rfl; have hcz110_3 : w108.cell? ⟨gb194, 3, none⟩ = some (.slice A0_3 l0_3.length c0_3) := (blk_cell BK194.out 3).trans rfl; have hcz110_4 : w108.cell? ⟨gb194, 4, none⟩ = some (.int .i64 a0_4) := (blk_cell BK194.out 4).trans rfl; have hcz110_5 : w108.cell? ⟨gb194, 5, none⟩ = some (.slice A0_5 l0_5.length c0_5) := (blk_cell BK194.out 5).trans rfl; have hfz110_0 := blk_frozen BK194.out 0; have hfz110_1 := blk_frozen BK194.out 1; have hfz110_2 := blk_frozen BK194.out 2; have hfz110_3 := blk_frozen BK194.out 3; have hfz110_4 := blk_frozen BK194.out 4; have hfz110_5 := blk_frozen BK194.out 5; have hcz111_0 : w108.cell? ⟨gb195, 0, none⟩ = some (.int .i64 0) := (blk_cell BK195.out 0).trans rfl; have hcz111_1 : w108.cell? ⟨gb195, 1, none⟩ = some (.slice none 0 0) := (blk_cell BK195.out 1).trans rfl; have hfz111_0 := blk_frozen BK195.out 0; have hfz111_1 := blk_frozen BK195.out 1))
 refine bodyPost_ret (results_ct rfl _ _ gb195 29 #[.int .i64 0, .slice none 0 0] (0, 0) _ rfl Z7_23 Try.underlying29 rfl Z7_18) rfl ?_
 exact ⟨_, Z7_26, Z7_31, Z7_2⟩
end Go.Proofs.Ytokiliilbopgkaa.PFnExactLink
