-- Written by a program of this session out of the translation. Not trusted: Lean checks it.
import Derived.Test.YtdhafphhkokniaaPFnLeavesFoundx0
import Derived.Test.YtdhafphhkokniaaPFnLeavesFoundx3
import Derived.Test.YtdhafphhkokniaaPFnLeavesFoundx4
namespace Go.Proofs.Ytdhafphhkokniaa.PFnLeavesFound
open Go.RowKit Go.Proofs.YtdhafphhkokniaaW.PrintWords Go.Proofs.YtdhafphhkokniaaW.PrintLast Go.Proofs.YtdhafphhkokniaaW.PrintMore
attribute [local go_sem] max2_int min2_int max_two min_two max_three min_three max_four min_four   -- for this text's walks alone
set_option linter.unusedVariables false
set_option linter.unusedSimpArgs false
theorem Z5_12 {P : Prop} (h : P := by have := HJ4.out; have := HK2.out; omega) : P := h
theorem Z5_11 {P : Prop} (h : P := by first | rfl | (simp [errW_none, errW_some] <;> rfl) | (simp [*, errW_none, errW_some] <;> rfl)) : P := h
theorem Z5_10 {P : Prop} (h : P := by repeat (first | exact HR0.out | (with_reducible refine Kd.C_alloc ?_ _) | (with_reducible refine Kd.C_drewN ?_ _) | (with_reducible refine Kd.C_drew ?_))) : P := h
theorem Z5_9 {P : Prop} (h : P := by repeat (first | exact (Kd.C_below HR162.out HB.out) | (with_reducible refine Kd.C_alloc ?_ _) | (with_reducible refine Kd.C_drewN ?_ _) | (with_reducible refine Kd.C_drew ?_))) : P := h
theorem Z5_8 {P : Prop} (h : P := by first | (with_reducible assumption) | assumption) : P := h
theorem Z5_7 {P : Prop} (h : P := by first | rfl | exact congrArg (Value.int .i64) (i64_w _) | (simp; done) | (simp [*]; done)) : P := h
theorem Z5_6 {P : Prop} (h : P := by (with_reducible repeat (first | apply Kd.R_alloc | apply Kd.R_drewN | apply Kd.R_drew)); exact (Kd.R_mono (Kd.R_far (p := ⟨gb177, 8, none⟩) (Kd.R_far (p := ⟨gb177, 7, none⟩) (Kd.R_far (p := ⟨gb177, 6, none⟩) (Kd.R_far (p := ⟨gb177, 5, none⟩) (Kd.R_far (p := ⟨gb177, 4, none⟩) (Kd.R_far (p := ⟨gb177, 3, none⟩) (Kd.R_far (p := ⟨gb177, 2, none⟩) (Kd.R_far (p := ⟨gb177, 1, none⟩) (Kd.R_far (p := ⟨gb177, 0, none⟩) (Kd.R_types HO_9.out BK177.out (by decide)) (fun _ hk => hk.2) (.bool t167)) (fun _ hk => hk.2) (.bool t168)) (fun _ hk => hk.2) (.bool t169)) (fun _ hk => hk.2) (.bool t170)) (fun _ hk => hk.2) (.bool t171)) (fun _ hk => hk.2) (.bool t172)) (fun _ hk => hk.2) (.bool t173)) (fun _ hk => hk.2) (.bool t174)) (fun _ hk => hk.2) (.int .i64 t175)) (fun _ h_ => h_.1))) : P := h
theorem Z5_5 {P : Prop} (h : P := by repeat (first | (with_reducible first | exact HB.out | apply below_alloc | apply pw_below_drewN | apply below_drew1 | refine below_set ?_ GE177.out) | exact HB.out)) : P := h
theorem Z5_4 {P : Prop} (h : P := by (try simp only [List.map_toArray, List.map_cons, List.map_nil]); first | done | (rw [show ((l0.take ((wrap64 ((ji11) + 8)) : Int).toNat).drop ((ji11) : Int).toNat).length = ((wrap64 ((ji11) + 8)).toNat - (ji11).toNat) from (by rw [List.length_drop, List.length_take]; have h_ : ((wrap64 ((ji11) + 8)) : Int) ≤ (l0.length : Int) := of_decide_eq_true (by first | (with_reducible assumption) | assumption); omega)] <;> rfl) | (simp only [hji11]; rfl) | rfl | (simp only [List.length_drop, List.length_take]; first | done | rfl)) : P := h
theorem Z5_3 {P : Prop} (h : P := by (with_reducible repeat (first | apply Kd.R_alloc | apply Kd.R_drewN | apply Kd.R_drew)); exact HO_9.out) : P := h
theorem Z5_2 {P : Prop} (h : P := by (try simp only [List.map_toArray, List.map_cons, List.map_nil]); first | done | rfl | (simp only [List.length_drop, List.length_take]; first | done | rfl)) : P := h
theorem Z5_1 {P : Prop} (h : P := by repeat (first | (with_reducible first | exact HB.out | apply below_alloc | apply pw_below_drewN | apply below_drew1) | exact HB.out)) : P := h

/-! ### spec_l6Below: function 55 -/
mutual
def spec_l6Below.j0 : Nat → List Int → Int → Int → Int → List (S52) → Bool → Option ((List (S52)))
 | 0, _, _, _, _, _, _ => none
 | k + 1, x0, x1, x2, x3, x9, x26 => if x26 = true then (some x9) else (spec_l6Below.l0 k x0 x1 x2 x3 x9 0)
def spec_l6Below.l0 : Nat → List Int → Int → Int → Int → List (S52) → Int → Option ((List (S52)))
 | 0, _, _, _, _, _, _ => none
 | k + 1, x0, x1, x2, x3, x9, x10 => if x10 < 32 then (if 0 ≤ (wrap64 ((wrap64 (x1 * 256)) + (wrap64 (8 * x10)))) then (if (wrap64 ((wrap64 (x1 * 256)) + (wrap64 (8 * x10)))) ≤ (wrap64 ((wrap64 ((wrap64 (x1 * 256)) + (wrap64 (8 * x10)))) + 8)) then (if (wrap64 ((wrap64 ((wrap64 (x1 * 256)) + (wrap64 (8 * x10)))) + 8)) ≤ (x0.length : Int) then ((spec_LoadWord.f k ((x0.take ((wrap64 ((wrap64 ((wrap64 (x1 * 256)) + (wrap64 (8 * x10)))) + 8)) : Int).toNat).drop ((wrap64 ((wrap64 (x1 * 256)) + (wrap64 (8 * x10)))) : Int).toNat) 0 8 false).bind fun bt163 => ((spec_l6Pages.f k x2).bind fun t165 => ((spec_l6Kind.f k bt163.1 x2).bind fun t166 => (if t166 = 0 then ((spec_GetEntry.f k bt163.1).bind fun bt167 => ((spec_l6Below.f k x0 bt167.2.2.2.2.2.2.2.2.1 (wrap64 (x2 - 1)) (wrap64 (x3 + (wrap64 ((wrap64 (x10 * 256)) * t165))))).bind fun t178 => (if x9.length + t178.length < 5864062014805 then (spec_l6Below.l0 k x0 x1 x2 x3 (x9 ++ t178) (wrap64 (x10 + 1))) else (none)))) else (if t166 = 1 then (if x9.length < 5864062014805 then (spec_l6Below.l0 k x0 x1 x2 x3 (x9 ++ [(⟨wrap64 (x3 + (wrap64 ((wrap64 (x10 * 256)) * t165))), x2, bt163.1⟩ : S52)]) (wrap64 (x10 + 1))) else (none)) else (spec_l6Below.l0 k x0 x1 x2 x3 x9 (wrap64 (x10 + 1)))))))) else (none)) else (none)) else (none)) else (some x9)
def spec_l6Below.f : Nat → List Int → Int → Int → Int → Option ((List (S52)))
 | 0, _, _, _, _ => none
 | k + 1, l0, a1, a2, a3 => (some (([] : List (S52)) : List (S52))).bind fun y159 => (if a1 < 0 then (spec_l6Below.j0 k l0 a1 a2 a3 y159 true) else (spec_l6Below.j0 k l0 a1 a2 a3 y159 (decide (a1 ≥ (wrap64 ((l0.length : Int) / 256))))))
end
theorem spec_l6Below.mono_l : ∀ k, (∀ y0 y1 y2 y3, LeO (spec_l6Below.f k y0 y1 y2 y3) (spec_l6Below.f (k + 1) y0 y1 y2 y3)) ∧ (∀ y0 y1 y2 y3 y4 y5, LeO (spec_l6Below.j0 k y0 y1 y2 y3 y4 y5) (spec_l6Below.j0 (k + 1) y0 y1 y2 y3 y4 y5)) ∧ (∀ y0 y1 y2 y3 y4 y5, LeO (spec_l6Below.l0 k y0 y1 y2 y3 y4 y5) (spec_l6Below.l0 (k + 1) y0 y1 y2 y3 y4 y5))
 | 0 => ⟨fun _ _ _ _ r h => by simp [spec_l6Below.f] at h, fun _ _ _ _ _ _ r h => by simp [spec_l6Below.j0] at h, fun _ _ _ _ _ _ r h => by simp [spec_l6Below.l0] at h⟩
 | k + 1 => by
  obtain ⟨ih0, ih1, ih2⟩ := spec_l6Below.mono_l k
  refine ⟨?_, ?_, ?_⟩
  ·intro y0 y1 y2 y3
   unfold spec_l6Below.f
   repeat' first
   | (with_reducible exact ih0 _ _ _ _)
   | (with_reducible exact ih1 _ _ _ _ _ _)
   | (with_reducible exact ih2 _ _ _ _ _ _)
   | (with_reducible exact spec_GetEntry.mono _ _)
   | (with_reducible exact spec_LoadWord.mono _ _ _ _ _)
   | (with_reducible exact spec_l6Kind.mono _ _ _)
   | (with_reducible exact spec_l6Pages.mono _ _)
   | (with_reducible exact LeO.refl _)
   | (with_reducible exact LeO.none _)
   | (with_reducible refine LeO.ite ?_ ?_)
   | (with_reducible refine LeO.bind ?_ (fun _ => ?_))
   | exact ih0 _ _ _ _
   | exact ih1 _ _ _ _ _ _
   | exact ih2 _ _ _ _ _ _
   | exact spec_GetEntry.mono _ _
   | exact spec_LoadWord.mono _ _ _ _ _
   | exact spec_l6Kind.mono _ _ _
   | exact spec_l6Pages.mono _ _
   | exact LeO.none _
   | refine LeO.ite ?_ ?_
   | refine LeO.bind ?_ (fun _ => ?_)
  ·intro y0 y1 y2 y3 y4 y5
   unfold spec_l6Below.j0
   repeat' first
   | (with_reducible exact ih0 _ _ _ _)
   | (with_reducible exact ih1 _ _ _ _ _ _)
   | (with_reducible exact ih2 _ _ _ _ _ _)
   | (with_reducible exact spec_GetEntry.mono _ _)
   | (with_reducible exact spec_LoadWord.mono _ _ _ _ _)
   | (with_reducible exact spec_l6Kind.mono _ _ _)
   | (with_reducible exact spec_l6Pages.mono _ _)
   | (with_reducible exact LeO.refl _)
   | (with_reducible exact LeO.none _)
   | (with_reducible refine LeO.ite ?_ ?_)
   | (with_reducible refine LeO.bind ?_ (fun _ => ?_))
   | exact ih0 _ _ _ _
   | exact ih1 _ _ _ _ _ _
   | exact ih2 _ _ _ _ _ _
   | exact spec_GetEntry.mono _ _
   | exact spec_LoadWord.mono _ _ _ _ _
   | exact spec_l6Kind.mono _ _ _
   | exact spec_l6Pages.mono _ _
   | exact LeO.none _
   | refine LeO.ite ?_ ?_
   | refine LeO.bind ?_ (fun _ => ?_)
  ·intro y0 y1 y2 y3 y4 y5
   unfold spec_l6Below.l0
   repeat' first
   | (with_reducible exact ih0 _ _ _ _)
   | (with_reducible exact ih1 _ _ _ _ _ _)
   | (with_reducible exact ih2 _ _ _ _ _ _)
   | (with_reducible exact spec_GetEntry.mono _ _)
   | (with_reducible exact spec_LoadWord.mono _ _ _ _ _)
   | (with_reducible exact spec_l6Kind.mono _ _ _)
   | (with_reducible exact spec_l6Pages.mono _ _)
   | (with_reducible exact LeO.refl _)
   | (with_reducible exact LeO.none _)
   | (with_reducible refine LeO.ite ?_ ?_)
   | (with_reducible refine LeO.bind ?_ (fun _ => ?_))
   | exact ih0 _ _ _ _
   | exact ih1 _ _ _ _ _ _
   | exact ih2 _ _ _ _ _ _
   | exact spec_GetEntry.mono _ _
   | exact spec_LoadWord.mono _ _ _ _ _
   | exact spec_l6Kind.mono _ _ _
   | exact spec_l6Pages.mono _ _
   | exact LeO.none _
   | refine LeO.ite ?_ ?_
   | refine LeO.bind ?_ (fun _ => ?_)
theorem spec_l6Below.mono : ∀ a0 a1 a2 a3 k, LeO (spec_l6Below.f k a0 a1 a2 a3) (spec_l6Below.f (k + 1) a0 a1 a2 a3) := by
 intro a0 a1 a2 a3 k
 obtain ⟨ih0, ih1, ih2⟩ := spec_l6Below.mono_l k
 exact ih0 a0 a1 a2 a3
set_option maxHeartbeats 8000000 in
set_option maxRecDepth 100000 in
theorem spec_l6Below.calls (k : Nat) : ∀ (A0 : Option Addr) (c0 : Nat) (l0 : List Int) (a1 : Int) (a2 : Int) (a3 : Int) (r : List (S52)) (w : World) (hr0 : Kd.C (Kd.int .u8) w A0 l0.length l0) (hc0 : l0.length ≤ c0) (h : spec_l6Below.f k l0 a1 a2 a3 = some r),
  Calls Try.prog 55 #[.slice A0 l0.length c0, .int .i64 a1, .int .i64 a2, .int .i64 a3] w fun e w' => ∃ v0_ : Value, e = .returned (v0_) ∧ Kd.R k52 52 w' w.heap.size (fun _ => True) v0_ r ∧ Below w.heap.size w w' := by
 induction k using Nat.strongRecOn with
 | _ k ih =>
 intro A0 c0 l0 a1 a2 a3 r w hr0 hc0 h
 cases k with
 | zero => exact absurd h (by simp [spec_l6Below.f])
 | succ k =>
 simp only [spec_l6Below.f] at h
 have hu27 := Try.underlying27
 have hu52 := Try.underlying52
 have HR0 := Aside0.mk hr0
 have HC0 := Aside0.mk hc0
 clear hr0 hc0
 have HB := Aside0.mk (Below.refl w.heap.size w)
 have H : ((some (([] : List (S52)) : List (S52))).bind fun y159 => (if a1 < 0 then (spec_l6Below.j0 k l0 a1 a2 a3 y159 true) else (spec_l6Below.j0 k l0 a1 a2 a3 y159 (decide (a1 ≥ (wrap64 ((l0.length : Int) / 256))))))) = some r := h
 clear h
 obtain ⟨y159, hy159⟩ : ∃ y_ : List (S52), y_ = (([] : List (S52))) := ⟨_, rfl⟩
 replace H : (if a1 < 0 then (spec_l6Below.j0 k l0 a1 a2 a3 y159 true) else (spec_l6Below.j0 k l0 a1 a2 a3 y159 (decide (a1 ≥ (wrap64 ((l0.length : Int) / 256)))))) = some r := by first | (rw [hy159]; with_reducible exact H) | (have H2_ := (Option.bind_some _ _).symm.trans H; rw [hy159]; with_reducible exact H2_) | (have H2_ := (Option.bind_some _ _).symm.trans H; with_reducible exact H2_) | with_reducible exact H | (rw [hy159]; exact H) | exact H
 have Ny159 := Aside0.mk hy159
 clear hy159
 have HC5 := Aside0.mk H
 clear H
 go_enter Try.func55, Try.ntmps55
 go_upto_region 2 with (first | ((with_reducible refine gate_dst (N := 17) rfl ?_); (try (refine gate_guard (by rfl) ?_; dsimp only)); refine Kd.R_lit k52 _ 52 ?hg (N := 17) ?hd (xs := ([] : List (S52))) (inner := []) (ok := fun _ => True) (okp := fun _ => True) ?hr ?hp (fun _ hk => hk) trivial (Below.refl _ _) (Nat.le_refl _) (by simp) ?_; (case hd => rfl); (case hg => rfl); (case hr => first | (go_simp; done) | (go_simp; rfl)); (case hp => exact (Reps.none _ _)); intro v160 w6 ho7 hb hg_ hnew_; clear hg_ hnew_; (first | rw [← Ny159.out] at ho7 | (simp only [Int.reduceToNat] at ho7; rw [← Ny159.out] at ho7)); have n0_ := Aside0.mk (Kd.R_lower ho7 (below_size Z5_1)); have n1_ := Aside0.mk (below_step Z5_1 hb); clear HB; have HO161 := n0_; have HB := n1_; clear n0_ n1_; clear hb ho7))
 (try simp only [Act.put, List.setIfInBounds_toArray, List.set_cons_zero, List.set_cons_succ])
 go_cut [26] (fun v26 wc => ∃ (kq : Nat) (x26_4 : Bool), v26 = .bool x26_4 ∧ Aside0 (spec_l6Below.j0 kq l0 a1 a2 a3 y159 x26_4 = some r) ∧ Aside0 (kq ≤ k) ∧ Aside0 (Kd.R k52 52 wc w.heap.size (fun _ => True) v160 y159) ∧ Aside0 (Below w.heap.size w wc))
 case first =>
  have H := HC5.out
  clear HC5
  by_cases c8 : a1 < 0
  ·rw [if_pos c8] at H
   have c8b0 : decide (a1 < 0) = true := decide_eq_true c8
   clear c8
   (first | rw [c8b0] | (simp only [i64_w, i32_w]; rw [c8b0]) | skip)
   have H' := Aside0.mk H
   clear H
   go_wp2
   go_meet
   case rel => exact ⟨_, (true), Z5_7, H', ⟨by first | omega | exact Nat.le_refl _⟩, ⟨by (with_reducible repeat (first | apply Kd.R_alloc | apply Kd.R_drewN | apply Kd.R_drew)); exact HO161.out⟩, ⟨Z5_1⟩⟩
  rw [if_neg c8] at H
  have c8b0 : decide (a1 < 0) = false := decide_eq_false c8
  clear c8
  (first | rw [c8b0] | (simp only [i64_w, i32_w]; rw [c8b0]) | skip)
  have H' := Aside0.mk H
  clear H
  go_wp2
  go_meet
  case rel => exact ⟨_, (decide (a1 ≥ (wrap64 ((l0.length : Int) / 256)))), Z5_7, H', ⟨by first | omega | exact Nat.le_refl _⟩, ⟨by (with_reducible repeat (first | apply Kd.R_alloc | apply Kd.R_drewN | apply Kd.R_drew)); exact HO161.out⟩, ⟨Z5_1⟩⟩
 clear HC5
 try clear p2
 try clear c5
 try clear p6
 try clear c8
 try clear c8b0
 obtain ⟨kq, x26_4, rfl, HA, HJ4, HO_9, HB⟩ := hcut
 cases kq with
 | zero => exact absurd HA.out (by simp [spec_l6Below.j0])
 | succ kj4 =>
  have H := HA.out
  clear HA
  simp only [spec_l6Below.j0] at H
  by_cases c9 : x26_4 = true
  ·subst c9
   have H1 : (some y159) = some r := by rw [if_pos rfl] at H; exact H
   clear H
   have H := H1
   clear H1
   obtain rfl := Option.some.inj H
   go_wp2
   go_ret
   exact ⟨_, Z5_11, Z5_3, Z5_1⟩
  replace c9 := Bool.eq_false_iff.mpr c9
  subst c9
  have H1 : (spec_l6Below.l0 kj4 l0 a1 a2 a3 y159 0) = some r := by rw [if_neg (show ¬ (false = true) by decide)] at H; exact H
  clear H
  have H := H1
  clear H1
  have H' := Aside0.mk H
  clear H
  go_wp2
  go_loopg [9, 10] kj4 (fun kq v9 v10 w' => ∃ (x9_2 : List (S52)) (x10_2 : Int), v10 = .int .i64 x10_2 ∧ Aside0 (spec_l6Below.l0 kq l0 a1 a2 a3 x9_2 x10_2 = some r) ∧ Aside0 (kq ≤ kj4) ∧ Aside0 (Kd.R k52 52 w' w.heap.size (fun _ => True) v9 x9_2) ∧ Aside0 (Below w.heap.size w w'))
  case atStart => exact ⟨(y159), (0), Z5_7, H', ⟨Nat.le_refl _⟩, ⟨Z5_3⟩, ⟨Z5_1⟩⟩
  clear H'
  try clear p2
  try clear c5
  try clear p6
  try clear c8
  try clear c8b0
  try clear c9
  try clear p2
  try clear p6
  obtain ⟨x9_2, x10_2, rfl, HA, HK2, HO_9, HB⟩ := hrel
  cases gk with
  | zero => exact absurd HA.out (by simp [spec_l6Below.l0])
  | succ k2 =>
   have H := HA.out
   clear HA
   simp only [spec_l6Below.l0] at H
   by_cases c10 : x10_2 < 32
   ·rw [if_pos c10] at H
    have c10b0 : decide (x10_2 < 32) = true := decide_eq_true c10
    clear c10
    obtain ⟨ji11, hji11⟩ : ∃ j_ : Int, (wrap64 ((wrap64 (a1 * 256)) + (wrap64 (8 * x10_2)))) = j_ := ⟨_, rfl⟩
    replace H : (if 0 ≤ (ji11) then (if (ji11) ≤ (wrap64 ((ji11) + 8)) then (if (wrap64 ((ji11) + 8)) ≤ (l0.length : Int) then ((spec_LoadWord.f k2 ((l0.take ((wrap64 ((ji11) + 8)) : Int).toNat).drop ((ji11) : Int).toNat) 0 8 false).bind fun bt163 => ((spec_l6Pages.f k2 a2).bind fun t165 => ((spec_l6Kind.f k2 bt163.1 a2).bind fun t166 => (if t166 = 0 then ((spec_GetEntry.f k2 bt163.1).bind fun bt167 => ((spec_l6Below.f k2 l0 bt167.2.2.2.2.2.2.2.2.1 (wrap64 (a2 - 1)) (wrap64 (a3 + (wrap64 ((wrap64 (x10_2 * 256)) * t165))))).bind fun t178 => (if x9_2.length + t178.length < 5864062014805 then (spec_l6Below.l0 k2 l0 a1 a2 a3 (x9_2 ++ t178) (wrap64 (x10_2 + 1))) else (none)))) else (if t166 = 1 then (if x9_2.length < 5864062014805 then (spec_l6Below.l0 k2 l0 a1 a2 a3 (x9_2 ++ [(⟨wrap64 (a3 + (wrap64 ((wrap64 (x10_2 * 256)) * t165))), a2, bt163.1⟩ : S52)]) (wrap64 (x10_2 + 1))) else (none)) else (spec_l6Below.l0 k2 l0 a1 a2 a3 x9_2 (wrap64 (x10_2 + 1)))))))) else (none)) else (none)) else (none)) = some r := by first | (rw [hji11] at H; exact H) | (simp only [hji11] at H ⊢; exact H)
    have hji11w : (IntKind.i64.wrap ((wrap64 (a1 * 256)) + (wrap64 (8 * x10_2)))) = ji11 := (i64_w _).trans hji11
    by_cases c12 : 0 ≤ (ji11)
    ·rw [if_pos c12] at H
     have c12b0 := eq_true c12
     have c12b1 : decide (0 ≤ (ji11)) = true := decide_eq_true c12
     clear c12
     by_cases c13 : (ji11) ≤ (wrap64 ((ji11) + 8))
     ·rw [if_pos c13] at H
      have c13b0 := eq_true c13
      have c13b1 : decide ((ji11) ≤ (wrap64 ((ji11) + 8))) = true := decide_eq_true c13
      by_cases c14 : (wrap64 ((ji11) + 8)) ≤ (l0.length : Int)
      ·rw [if_pos c14] at H
       have c14b0 := eq_true c14
       have c14b1 : decide ((wrap64 ((ji11) + 8)) ≤ (l0.length : Int)) = true := decide_eq_true c14
       replace H := Option.bind_eq_some_iff.mp H
       obtain ⟨⟨t163, t164⟩, A150, H⟩ := H
       replace H : ((spec_l6Pages.f k2 a2).bind fun t165 => ((spec_l6Kind.f k2 t163 a2).bind fun t166 => (if t166 = 0 then ((spec_GetEntry.f k2 t163).bind fun bt167 => ((spec_l6Below.f k2 l0 bt167.2.2.2.2.2.2.2.2.1 (wrap64 (a2 - 1)) (wrap64 (a3 + (wrap64 ((wrap64 (x10_2 * 256)) * t165))))).bind fun t178 => (if x9_2.length + t178.length < 5864062014805 then (spec_l6Below.l0 k2 l0 a1 a2 a3 (x9_2 ++ t178) (wrap64 (x10_2 + 1))) else (none)))) else (if t166 = 1 then (if x9_2.length < 5864062014805 then (spec_l6Below.l0 k2 l0 a1 a2 a3 (x9_2 ++ [(⟨wrap64 (a3 + (wrap64 ((wrap64 (x10_2 * 256)) * t165))), a2, t163⟩ : S52)]) (wrap64 (x10_2 + 1))) else (none)) else (spec_l6Below.l0 k2 l0 a1 a2 a3 x9_2 (wrap64 (x10_2 + 1))))))) = some r := H
       have A15 := Aside0.mk A150
       clear A150
       replace H := Option.bind_eq_some_iff.mp H
       obtain ⟨t165, A160, H⟩ := H
       replace H : ((spec_l6Kind.f k2 t163 a2).bind fun t166 => (if t166 = 0 then ((spec_GetEntry.f k2 t163).bind fun bt167 => ((spec_l6Below.f k2 l0 bt167.2.2.2.2.2.2.2.2.1 (wrap64 (a2 - 1)) (wrap64 (a3 + (wrap64 ((wrap64 (x10_2 * 256)) * t165))))).bind fun t178 => (if x9_2.length + t178.length < 5864062014805 then (spec_l6Below.l0 k2 l0 a1 a2 a3 (x9_2 ++ t178) (wrap64 (x10_2 + 1))) else (none)))) else (if t166 = 1 then (if x9_2.length < 5864062014805 then (spec_l6Below.l0 k2 l0 a1 a2 a3 (x9_2 ++ [(⟨wrap64 (a3 + (wrap64 ((wrap64 (x10_2 * 256)) * t165))), a2, t163⟩ : S52)]) (wrap64 (x10_2 + 1))) else (none)) else (spec_l6Below.l0 k2 l0 a1 a2 a3 x9_2 (wrap64 (x10_2 + 1)))))) = some r := H
       have A16 := Aside0.mk A160
       clear A160
       replace H := Option.bind_eq_some_iff.mp H
       obtain ⟨t166, A170, H⟩ := H
       replace H : (if t166 = 0 then ((spec_GetEntry.f k2 t163).bind fun bt167 => ((spec_l6Below.f k2 l0 bt167.2.2.2.2.2.2.2.2.1 (wrap64 (a2 - 1)) (wrap64 (a3 + (wrap64 ((wrap64 (x10_2 * 256)) * t165))))).bind fun t178 => (if x9_2.length + t178.length < 5864062014805 then (spec_l6Below.l0 k2 l0 a1 a2 a3 (x9_2 ++ t178) (wrap64 (x10_2 + 1))) else (none)))) else (if t166 = 1 then (if x9_2.length < 5864062014805 then (spec_l6Below.l0 k2 l0 a1 a2 a3 (x9_2 ++ [(⟨wrap64 (a3 + (wrap64 ((wrap64 (x10_2 * 256)) * t165))), a2, t163⟩ : S52)]) (wrap64 (x10_2 + 1))) else (none)) else (spec_l6Below.l0 k2 l0 a1 a2 a3 x9_2 (wrap64 (x10_2 + 1))))) = some r := H
       have A17 := Aside0.mk A170
       clear A170
       by_cases c18 : t166 = 0
       ·rw [if_pos c18] at H
        have c18b0 : (t166 == 0) = true := beq_iff_eq.mpr c18
        have c18b1 : (t166 != 0) = false := bne_eq_false_iff_eq.mpr c18
        clear c18
        replace H := Option.bind_eq_some_iff.mp H
        obtain ⟨⟨t167, t168, t169, t170, t171, t172, t173, t174, t175, t176⟩, A190, H⟩ := H
        replace H : ((spec_l6Below.f k2 l0 t175 (wrap64 (a2 - 1)) (wrap64 (a3 + (wrap64 ((wrap64 (x10_2 * 256)) * t165))))).bind fun t178 => (if x9_2.length + t178.length < 5864062014805 then (spec_l6Below.l0 k2 l0 a1 a2 a3 (x9_2 ++ t178) (wrap64 (x10_2 + 1))) else (none))) = some r := H
        have A19 := Aside0.mk A190
        clear A190
        replace H := Option.bind_eq_some_iff.mp H
        obtain ⟨t178, A200, H⟩ := H
        replace H : (if x9_2.length + t178.length < 5864062014805 then (spec_l6Below.l0 k2 l0 a1 a2 a3 (x9_2 ++ t178) (wrap64 (x10_2 + 1))) else (none)) = some r := H
        have A20 := Aside0.mk A200
        clear A200
        by_cases c21 : x9_2.length + t178.length < 5864062014805
        ·rw [if_pos c21] at H
         have LMc21 := Aside0.mk c21
         clear c21
         obtain ⟨y181, hy181⟩ : ∃ y_ : List (S52), y_ = (x9_2 ++ t178) := ⟨_, rfl⟩
         replace H : (spec_l6Below.l0 k2 l0 a1 a2 a3 y181 (wrap64 (x10_2 + 1))) = some r := by first | (rw [hy181]; with_reducible exact H) | (have H2_ := (Option.bind_some _ _).symm.trans H; rw [hy181]; with_reducible exact H2_) | (have H2_ := (Option.bind_some _ _).symm.trans H; with_reducible exact H2_) | with_reducible exact H | (rw [hy181]; exact H) | exact H
         have Ny181 := Aside0.mk hy181
         clear hy181
         have H' := Aside0.mk H
         clear H
         obtain ⟨i022, hi022, _, hsz22, _⟩ := info_parts info5
         obtain ⟨A22, hcut22, hA22, hC22⟩ := print_mid_of (P := Try.prog) (Value.int .u8) 0 34 5 .i64 .i64 Try.underlying34 hi022 hsz22 A0 c0 l0 (ji11) (wrap64 ((ji11) + 8)) (of_decide_eq_true Z5_8) (by first | omega | exact of_decide_eq_true Z5_8) (of_decide_eq_true Z5_8) HC0.out
         have HR162 := Aside0.mk (Kd.C_of_reads (h1 := fun _ => rfl) (hA22 _ (Kd.reads_of_C HR0.out)))
         have HC162 := Aside0.mk hC22
         clear hA22 hC22 hi022 hsz22
         go_wp2_with (first | ((with_reducible refine gate_callee (f := 88) rfl ?_); refine goesL_ (some 43) rfl rfl Try.func88 (by kernel_rfl) rfl #[.slice A22 ((l0.take ((wrap64 ((ji11) + 8)) : Int).toNat).drop ((ji11) : Int).toNat).length (c0 - (ji11).toNat), .int .i64 0, .int .i64 8, .bool false] rfl Z5_4 ?_; (with_reducible refine (spec_LoadWord.calls k2 _ _ ((l0.take ((wrap64 ((ji11) + 8)) : Int).toNat).drop ((ji11) : Int).toNat) 0 8 false t163 t164 _ ?side1 ?side2 A15.out).mono ?_); (case side1 => exact Z5_9); (case side2 => exact HC162.out); rintro e w' ⟨rfl, ⟨nd, rfl⟩⟩; refine ⟨_, rfl, ?_⟩; (try (rw [drewN_self wr]; generalize hq_ : World.drewN wr _ = wr; have n0_ : Aside0 (Kd.R k52 52 wr w.heap.size (fun _ => True) u9 x9_2) := ⟨by rw [← hq_]; exact Z5_3⟩; have n1_ : Aside0 (Below w.heap.size w wr) := ⟨by rw [← hq_]; exact Z5_1⟩; clear HO_9 HB hq_; have HO_9 := n0_; have HB := n1_; clear n0_ n1_))) | ((with_reducible refine gate_callee (f := 87) rfl ?_); refine goesL_ (some 50) rfl rfl Try.func87 (by kernel_rfl) rfl #[.int .i64 a2] rfl Z5_2 ?_; (with_reducible refine (spec_l6Pages.calls k2 a2 t165 _ A16.out).mono ?_); rintro e w' ⟨rfl, ⟨nd, rfl⟩⟩; refine ⟨_, rfl, ?_⟩; (try (rw [drewN_self wr]; generalize hq_ : World.drewN wr _ = wr; have n0_ : Aside0 (Kd.R k52 52 wr w.heap.size (fun _ => True) u9 x9_2) := ⟨by rw [← hq_]; exact Z5_3⟩; have n1_ : Aside0 (Below w.heap.size w wr) := ⟨by rw [← hq_]; exact Z5_1⟩; clear HO_9 HB hq_; have HO_9 := n0_; have HB := n1_; clear n0_ n1_))) | ((with_reducible refine gate_callee (f := 89) rfl ?_); refine goesL_ (some 55) rfl rfl Try.func89 (by kernel_rfl) rfl #[.int .u64 t163, .int .i64 a2] rfl Z5_2 ?_; (with_reducible refine (spec_l6Kind.calls k2 t163 a2 t166 _ A17.out).mono ?_); rintro e w23 ⟨rfl, hb⟩; refine ⟨_, rfl, ?_⟩; have n0_ := Aside0.mk (Kd.R_below Z5_3 hb); have n1_ := Aside0.mk (below_step Z5_1 hb); clear HO_9; clear HB; have HO_9 := n0_; have HB := n1_; clear n0_ n1_; (try clear hb); (try clear hb2); (try clear hk); (try clear hi)) | ((with_reducible refine gate_callee (f := 15) rfl ?_); refine goesL_ (some 60) rfl rfl Try.func15 (by kernel_rfl) rfl #[.int .u64 t163] rfl Z5_2 ?_; (with_reducible refine (spec_GetEntry.calls k2 t163 t167 t168 t169 t170 t171 t172 t173 t174 t175 t176 _ A19.out).mono ?_); rintro e w24 ⟨rfl, hb⟩; refine ⟨_, rfl, ?_⟩; have n0_ := Aside0.mk (Kd.R_below Z5_3 hb); have n1_ := Aside0.mk (below_step Z5_1 hb); clear HO_9; clear HB; have HO_9 := n0_; have HB := n1_; clear n0_ n1_; (try clear hb); (try clear hb2); (try clear hk); (try clear hi)) | ((with_reducible refine gate_dst (N := 15) rfl ?_); (try (refine gate_guard (by rfl) ?_; dsimp only)); refine box_event ?hg (N := 15) ?hd (cs := #[.bool false, .bool false, .bool false, .bool false, .bool false, .bool false, .bool false, .bool false, .int .i64 0]) (t := 27) ?hr ?_; (case hd => rfl); (case hg => rfl); (case hr => first | (go_simp; done) | (go_simp; rfl)); intro gb177 hg w25 hbox hb; have n0_ := Aside0.mk (Kd.R_below Z5_3 hb); have n1_ := Aside0.mk (below_step Z5_1 hb); have n2_ := Aside0.mk (hbox); have n3_ := Aside0.mk ((by rw [hg]; exact (below_size Z5_1) : w.heap.size ≤ gb177)); have n4_ := Aside0.mk ((by rw [hg]; exact (below_size Z5_1) : w.heap.size ≤ gb177)); clear HO_9; clear HB; have HO_9 := n0_; have HB := n1_; have BK177 := n2_; have GW177 := n3_; have GE177 := n4_; clear n0_ n1_ n2_ n3_ n4_; clear hb hbox hg; have hcz26_0 : w25.cell? ⟨gb177, 0, none⟩ = some (.bool false) := (blk_cell BK177.out 0).trans rfl; have hcz26_1 : w25.cell? ⟨gb177, 1, none⟩ = some (.bool false) := (blk_cell BK177.out 1).trans rfl; have hcz26_2 : w25.cell? ⟨gb177, 2, none⟩ = some (.bool false) := (blk_cell BK177.out 2).trans rfl; have hcz26_3 : w25.cell? ⟨gb177, 3, none⟩ = some (.bool false) := (blk_cell BK177.out 3).trans rfl; have hcz26_4 : w25.cell? ⟨gb177, 4, none⟩ = some (.bool false) := (blk_cell BK177.out 4).trans rfl; have hcz26_5 : w25.cell? ⟨gb177, 5, none⟩ = some (.bool false) := (blk_cell BK177.out 5).trans rfl; have hcz26_6 : w25.cell? ⟨gb177, 6, none⟩ = some (.bool false) := (blk_cell BK177.out 6).trans rfl; have hcz26_7 : w25.cell? ⟨gb177, 7, none⟩ = some (.bool false) := (blk_cell BK177.out 7).trans rfl; have hcz26_8 : w25.cell? ⟨gb177, 8, none⟩ = some (.int .i64 0) := (blk_cell BK177.out 8).trans rfl; have hfz26_0 := blk_frozen BK177.out 0; have hfz26_1 := blk_frozen BK177.out 1; have hfz26_2 := blk_frozen BK177.out 2; have hfz26_3 := blk_frozen BK177.out 3; have hfz26_4 := blk_frozen BK177.out 4; have hfz26_5 := blk_frozen BK177.out 5; have hfz26_6 := blk_frozen BK177.out 6; have hfz26_7 := blk_frozen BK177.out 7; have hfz26_8 := blk_frozen BK177.out 8) | ((with_reducible refine gate_callee (f := 55) rfl ?_); refine goesL_ (some 70) rfl rfl Try.func55 (by kernel_rfl) rfl #[.slice A0 l0.length c0, .int .i64 t175, .int .i64 (wrap64 (a2 - 1)), .int .i64 (wrap64 (a3 + (wrap64 ((wrap64 (x10_2 * 256)) * t165))))] rfl Z5_2 ?_; (with_reducible refine (ih k2 Z5_12 _ _ l0 t175 (wrap64 (a2 - 1)) (wrap64 (a3 + (wrap64 ((wrap64 (x10_2 * 256)) * t165)))) t178 _ ?side1 ?side2 A20.out).mono ?_); (case side1 => exact Kd.C_below HR0.out Z5_5); (case side2 => exact HC0.out); rintro e w27 ⟨v179, rfl, ho0, hb⟩; refine ⟨_, rfl, ?_⟩; have n0_ := Aside0.mk (Kd.R_elder' Z5_6 (Kd.R_base ho0) hb); have n1_ := Aside0.mk (Kd.R_lower (Kd.R_new' ho0 (Kd.R_lt Z5_6)) (below_size Z5_5)); have n2_ := Aside0.mk (blk_below (g := gb177) (o := .cells #[.bool t167, .bool t168, .bool t169, .bool t170, .bool t171, .bool t172, .bool t173, .bool t174, .int .i64 t175] 27 (0, 0)) (by (with_reducible repeat (first | apply blk_drewN | apply blk_drew | apply blk_alloc)); refine blk_put (cs := #[.bool t167, .bool t168, .bool t169, .bool t170, .bool t171, .bool t172, .bool t173, .bool t174, .int .i64 0]) ?_ 8 _ rfl; (with_reducible repeat (first | apply blk_drewN | apply blk_drew | apply blk_alloc)); refine blk_put (cs := #[.bool t167, .bool t168, .bool t169, .bool t170, .bool t171, .bool t172, .bool t173, .bool false, .int .i64 0]) ?_ 7 _ rfl; (with_reducible repeat (first | apply blk_drewN | apply blk_drew | apply blk_alloc)); refine blk_put (cs := #[.bool t167, .bool t168, .bool t169, .bool t170, .bool t171, .bool t172, .bool false, .bool false, .int .i64 0]) ?_ 6 _ rfl; (with_reducible repeat (first | apply blk_drewN | apply blk_drew | apply blk_alloc)); refine blk_put (cs := #[.bool t167, .bool t168, .bool t169, .bool t170, .bool t171, .bool false, .bool false, .bool false, .int .i64 0]) ?_ 5 _ rfl; (with_reducible repeat (first | apply blk_drewN | apply blk_drew | apply blk_alloc)); refine blk_put (cs := #[.bool t167, .bool t168, .bool t169, .bool t170, .bool false, .bool false, .bool false, .bool false, .int .i64 0]) ?_ 4 _ rfl; (with_reducible repeat (first | apply blk_drewN | apply blk_drew | apply blk_alloc)); refine blk_put (cs := #[.bool t167, .bool t168, .bool t169, .bool false, .bool false, .bool false, .bool false, .bool false, .int .i64 0]) ?_ 3 _ rfl; (with_reducible repeat (first | apply blk_drewN | apply blk_drew | apply blk_alloc)); refine blk_put (cs := #[.bool t167, .bool t168, .bool false, .bool false, .bool false, .bool false, .bool false, .bool false, .int .i64 0]) ?_ 2 _ rfl; (with_reducible repeat (first | apply blk_drewN | apply blk_drew | apply blk_alloc)); refine blk_put (cs := #[.bool t167, .bool false, .bool false, .bool false, .bool false, .bool false, .bool false, .bool false, .int .i64 0]) ?_ 1 _ rfl; (with_reducible repeat (first | apply blk_drewN | apply blk_drew | apply blk_alloc)); refine blk_put (cs := #[.bool false, .bool false, .bool false, .bool false, .bool false, .bool false, .bool false, .bool false, .int .i64 0]) ?_ 0 _ rfl; (with_reducible repeat (first | apply blk_drewN | apply blk_drew | apply blk_alloc)); exact BK177.out) hb); have n3_ := Aside0.mk (below_step Z5_5 hb); clear HO_9; clear BK177; clear HB; have HO_9 := n0_; have HO180 := n1_; have BK177 := n2_; have HB := n3_; clear n0_ n1_ n2_ n3_; (try clear hb); (try clear hb2 hk hi); (try clear ho0); obtain ⟨Ao29, co29, eo29⟩ := Kd.R_slice HO180.out; subst eo29) | ((with_reducible refine gate_builtin (b := .append) (xs := #[.tmp 63, .tmp 70]) rfl ?_); (try (refine gate_guard (by rfl) ?_; dsimp only)); at_builtin; refine Kd.R_append_rows k52 (w0 := w) w.heap.size rfl (.tmp 63) (.tmp 70) 42 52 (.agg #[(.int .i64 0), (.int .i64 0), (.int .u64 0)]) 24 rfl Try.underlying42 info52 rfl (by decide) (by omega) u9 x9_2 t178 _ _ _ (fun k_ => some k_ ≠ (.slice Ao29 t178.length co29 : Value).ownBlock) (fun _ => False) rfl rfl ?aO ?aR (fun _ _ h => h) (fun _ h => h.elim) ?aF ?aB ?aS ?aL ?_; (case aR => repeat (first | exact (Kd.R_reads' HO180.out).2.2 | (with_reducible refine Kd.C_alloc ?_ _) | (with_reducible refine Kd.C_drewN ?_ _) | (with_reducible refine Kd.C_drew ?_))); (case aB => exact Z5_5); (case aF => exact (fun k_ hk => Kd.fresh' (Kd.R_lt (by (with_reducible repeat (first | apply Kd.R_alloc | apply Kd.R_drewN | apply Kd.R_drew)); exact HO180.out)) k_ hk)); (case aO => exact (by (with_reducible repeat (first | apply Kd.R_alloc | apply Kd.R_drewN | apply Kd.R_drew)); exact Kd.R_mono HO_9.out (fun _ hk => hk.2))); (case aS => exact (below_size Z5_5)); (case aL => have := LMc21.out; omega); intro v182 w28 ho hb hg hat; rw [← Ny181.out] at ho; have n0_ := Aside0.mk (blk_grown (g := gb177) (o := .cells #[.bool t167, .bool t168, .bool t169, .bool t170, .bool t171, .bool t172, .bool t173, .bool t174, .int .i64 t175] 27 (0, 0)) (by (with_reducible repeat (first | apply blk_drewN | apply blk_drew | apply blk_alloc)); exact BK177.out) hg (Kd.R_ne HO_9.out BK177.out (by decide))); have n1_ := Aside0.mk (Kd.R_after (ok := (fun _ => True)) (by (with_reducible repeat (first | apply Kd.R_alloc | apply Kd.R_drewN | apply Kd.R_drew)); exact HO180.out) hg hat); have n2_ := Aside0.mk (hb); have n3_ := Aside0.mk (ho); clear BK177; clear HO180; clear HB; clear HO_9; have BK177 := n0_; have HO180 := n1_; have HB := n2_; have HO183 := n3_; clear n0_ n1_ n2_ n3_; clear ho hb hg hat))
         go_roundg k2
         case measure => have := HJ4.out; have := HK2.out; omega
         case rel => exact ⟨(y181), (wrap64 (x10_2 + 1)), Z5_7, H', ⟨Z5_12⟩, ⟨by (with_reducible repeat (first | apply Kd.R_alloc | apply Kd.R_drewN | apply Kd.R_drew)); exact Kd.R_mono HO183.out (fun _ hk => trivial)⟩, ⟨Z5_5⟩⟩
        rw [if_neg c21] at H
        exact absurd H (by simp)
       rw [if_neg c18] at H
       have c18b0 : (t166 == 0) = false := beq_eq_false_iff_ne.mpr c18
       have c18b1 : (t166 != 0) = true := bne_iff_ne.mpr c18
       by_cases c30 : t166 = 1
       ·rw [if_pos c30] at H
        have c30b0 : (t166 == 1) = true := beq_iff_eq.mpr c30
        have c30b1 : (t166 != 1) = false := bne_eq_false_iff_eq.mpr c30
        clear c30
        by_cases c31 : x9_2.length < 5864062014805
        ·rw [if_pos c31] at H
         have LMc31 := Aside0.mk c31
         clear c31
         obtain ⟨y184, hy184⟩ : ∃ y_ : List (S52), y_ = (x9_2 ++ [(⟨wrap64 (a3 + (wrap64 ((wrap64 (x10_2 * 256)) * t165))), a2, t163⟩ : S52)]) := ⟨_, rfl⟩
         replace H : (spec_l6Below.l0 k2 l0 a1 a2 a3 y184 (wrap64 (x10_2 + 1))) = some r := by first | (rw [hy184]; with_reducible exact H) | (have H2_ := (Option.bind_some _ _).symm.trans H; rw [hy184]; with_reducible exact H2_) | (have H2_ := (Option.bind_some _ _).symm.trans H; with_reducible exact H2_) | with_reducible exact H | (rw [hy184]; exact H) | exact H
         have Ny184 := Aside0.mk hy184
         clear hy184
         have H' := Aside0.mk H
         clear H
         obtain ⟨i032, hi032, _, hsz32, _⟩ := info_parts info5
         obtain ⟨A32, hcut32, hA32, hC32⟩ := print_mid_of (P := Try.prog) (Value.int .u8) 0 34 5 .i64 .i64 Try.underlying34 hi032 hsz32 A0 c0 l0 (ji11) (wrap64 ((ji11) + 8)) (of_decide_eq_true Z5_8) (by first | omega | exact of_decide_eq_true Z5_8) (of_decide_eq_true Z5_8) HC0.out
         have HR162 := Aside0.mk (Kd.C_of_reads (h1 := fun _ => rfl) (hA32 _ (Kd.reads_of_C HR0.out)))
         have HC162 := Aside0.mk hC32
         clear hA32 hC32 hi032 hsz32
         go_wp2_with (first | ((with_reducible refine gate_callee (f := 88) rfl ?_); refine goesL_ (some 43) rfl rfl Try.func88 (by kernel_rfl) rfl #[.slice A32 ((l0.take ((wrap64 ((ji11) + 8)) : Int).toNat).drop ((ji11) : Int).toNat).length (c0 - (ji11).toNat), .int .i64 0, .int .i64 8, .bool false] rfl Z5_4 ?_; (with_reducible refine (spec_LoadWord.calls k2 _ _ ((l0.take ((wrap64 ((ji11) + 8)) : Int).toNat).drop ((ji11) : Int).toNat) 0 8 false t163 t164 _ ?side1 ?side2 A15.out).mono ?_); (case side1 => exact Z5_9); (case side2 => exact HC162.out); rintro e w' ⟨rfl, ⟨nd, rfl⟩⟩; refine ⟨_, rfl, ?_⟩) | ((with_reducible refine gate_callee (f := 87) rfl ?_); refine goesL_ (some 50) rfl rfl Try.func87 (by kernel_rfl) rfl #[.int .i64 a2] rfl Z5_2 ?_; (with_reducible refine (spec_l6Pages.calls k2 a2 t165 _ A16.out).mono ?_); rintro e w' ⟨rfl, ⟨nd, rfl⟩⟩; refine ⟨_, rfl, ?_⟩) | ((with_reducible refine gate_callee (f := 89) rfl ?_); refine goesL_ (some 55) rfl rfl Try.func89 (by kernel_rfl) rfl #[.int .u64 t163, .int .i64 a2] rfl Z5_2 ?_; (with_reducible refine (spec_l6Kind.calls k2 t163 a2 t166 _ A17.out).mono ?_); rintro e w33 ⟨rfl, hb⟩; refine ⟨_, rfl, ?_⟩; have n0_ := Aside0.mk (Kd.R_below Z5_3 hb); have n1_ := Aside0.mk (below_step Z5_1 hb); clear HO_9; clear HB; have HO_9 := n0_; have HB := n1_; clear n0_ n1_; (try clear hb); (try clear hb2); (try clear hk); (try clear hi)) | ((with_reducible refine gate_builtin (b := .append) (xs := #[.tmp 74, .tmp 79]) rfl ?_); (try (refine gate_guard (by rfl) ?_; dsimp only)); at_builtin; refine Kd.R_append k52 (w0 := w) w.heap.size rfl (.tmp 74) (.tmp 79) 42 52 (.agg #[(.int .i64 0), (.int .i64 0), (.int .u64 0)]) 24 rfl Try.underlying42 info52 rfl (by decide) (by omega) u9 x9_2 (⟨wrap64 (a3 + (wrap64 ((wrap64 (x10_2 * 256)) * t165))), a2, t163⟩ : S52) [.int .i64 (wrap64 (a3 + (wrap64 ((wrap64 (x10_2 * 256)) * t165)))), .int .i64 a2, .int .u64 t163] (fun _ => True) (fun _ => False) rfl rfl ?aP (fun _ hk => hk.elim) ?aF ?aO ?aB ?aS ?aL ?_; (case aP => exact k52_mkM _ _ _ (⟨wrap64 (a3 + (wrap64 ((wrap64 (x10_2 * 256)) * t165))), a2, t163⟩ : S52)); (case aB => exact Z5_1); (case aF => exact (fun _ _ => trivial)); (case aO => exact Z5_3); (case aS => exact (below_size Z5_1)); (case aL => have := LMc31.out; omega); intro v185 w34 ho hb hg hat; rw [← Ny184.out] at ho; have n0_ := Aside0.mk (hb); have n1_ := Aside0.mk (ho); clear HB; clear HO_9; have HB := n0_; have HO186 := n1_; clear n0_ n1_; clear ho hb hg hat))
         go_roundg k2
         case measure => have := HJ4.out; have := HK2.out; omega
         case rel => exact ⟨(y184), (wrap64 (x10_2 + 1)), Z5_7, H', ⟨Z5_12⟩, ⟨by (with_reducible repeat (first | apply Kd.R_alloc | apply Kd.R_drewN | apply Kd.R_drew)); exact HO186.out⟩, ⟨Z5_1⟩⟩
        rw [if_neg c31] at H
        exact absurd H (by simp)
       rw [if_neg c30] at H
       have c30b0 : (t166 == 1) = false := beq_eq_false_iff_ne.mpr c30
       have c30b1 : (t166 != 1) = true := bne_iff_ne.mpr c30
       have H' := Aside0.mk H
       clear H
       obtain ⟨i035, hi035, _, hsz35, _⟩ := info_parts info5
       obtain ⟨A35, hcut35, hA35, hC35⟩ := print_mid_of (P := Try.prog) (Value.int .u8) 0 34 5 .i64 .i64 Try.underlying34 hi035 hsz35 A0 c0 l0 (ji11) (wrap64 ((ji11) + 8)) (of_decide_eq_true Z5_8) (by first | omega | exact of_decide_eq_true Z5_8) (of_decide_eq_true Z5_8) HC0.out
       have HR162 := Aside0.mk (Kd.C_of_reads (h1 := fun _ => rfl) (hA35 _ (Kd.reads_of_C HR0.out)))
       have HC162 := Aside0.mk hC35
       clear hA35 hC35 hi035 hsz35
       go_wp2_with (first | ((with_reducible refine gate_callee (f := 88) rfl ?_); refine goesL_ (some 43) rfl rfl Try.func88 (by kernel_rfl) rfl #[.slice A35 ((l0.take ((wrap64 ((ji11) + 8)) : Int).toNat).drop ((ji11) : Int).toNat).length (c0 - (ji11).toNat), .int .i64 0, .int .i64 8, .bool false] rfl Z5_4 ?_; (with_reducible refine (spec_LoadWord.calls k2 _ _ ((l0.take ((wrap64 ((ji11) + 8)) : Int).toNat).drop ((ji11) : Int).toNat) 0 8 false t163 t164 _ ?side1 ?side2 A15.out).mono ?_); (case side1 => exact Z5_9); (case side2 => exact HC162.out); rintro e w' ⟨rfl, ⟨nd, rfl⟩⟩; refine ⟨_, rfl, ?_⟩) | ((with_reducible refine gate_callee (f := 87) rfl ?_); refine goesL_ (some 50) rfl rfl Try.func87 (by kernel_rfl) rfl #[.int .i64 a2] rfl Z5_2 ?_; (with_reducible refine (spec_l6Pages.calls k2 a2 t165 _ A16.out).mono ?_); rintro e w' ⟨rfl, ⟨nd, rfl⟩⟩; refine ⟨_, rfl, ?_⟩) | ((with_reducible refine gate_callee (f := 89) rfl ?_); refine goesL_ (some 55) rfl rfl Try.func89 (by kernel_rfl) rfl #[.int .u64 t163, .int .i64 a2] rfl Z5_2 ?_; (with_reducible refine (spec_l6Kind.calls k2 t163 a2 t166 _ A17.out).mono ?_); rintro e w36 ⟨rfl, hb⟩; refine ⟨_, rfl, ?_⟩; have n0_ := Aside0.mk (Kd.R_below Z5_3 hb); have n1_ := Aside0.mk (below_step Z5_1 hb); clear HO_9; clear HB; have HO_9 := n0_; have HB := n1_; clear n0_ n1_; (try clear hb); (try clear hb2); (try clear hk); (try clear hi)))
       go_roundg k2
       case measure => have := HJ4.out; have := HK2.out; omega
       case rel => exact ⟨(x9_2), (wrap64 (x10_2 + 1)), Z5_7, H', ⟨Z5_12⟩, ⟨Z5_3⟩, ⟨Z5_1⟩⟩
      rw [if_neg c14] at H
      exact absurd H (by simp)
     rw [if_neg c13] at H
     exact absurd H (by simp)
    rw [if_neg c12] at H
    exact absurd H (by simp)
   rw [if_neg c10] at H
   have c10b0 : decide (x10_2 < 32) = false := decide_eq_false c10
   clear c10
   obtain rfl := Option.some.inj H
   go_wp2
   go_ret
   exact ⟨_, Z5_11, Z5_3, Z5_1⟩
/-! ### spec_Leaves: function 23 -/
def spec_Leaves.f (k : Nat) (l0 : List Int) (a1 : Int) : Option ((List (S52))) := (spec_l6MemOk.f l0).bind fun t187 => (if t187 = true then ((spec_l6Below.f k l0 a1 2 0).bind fun t188 => (some t188)) else (some (([] : List (S52)))))
theorem spec_Leaves.mono : ∀ a0 a1 k, LeO (spec_Leaves.f k a0 a1) (spec_Leaves.f (k + 1) a0 a1) := by
 intro a0 a1 k
 unfold spec_Leaves.f
 repeat' first
   | (with_reducible exact spec_l6Below.mono _ _ _ _ _)
   | (with_reducible exact LeO.refl _)
   | (with_reducible exact LeO.none _)
   | (with_reducible refine LeO.ite ?_ ?_)
   | (with_reducible refine LeO.bind ?_ (fun _ => ?_))
   | exact spec_l6Below.mono _ _ _ _ _
   | exact LeO.none _
   | refine LeO.ite ?_ ?_
   | refine LeO.bind ?_ (fun _ => ?_)
set_option maxHeartbeats 8000000 in
set_option maxRecDepth 100000 in
theorem spec_Leaves.calls (k : Nat) (A0 : Option Addr) (c0 : Nat) (l0 : List Int) (a1 : Int) (r : List (S52)) (w : World) (hr0 : Kd.C (Kd.int .u8) w A0 l0.length l0) (hc0 : l0.length ≤ c0) (h : spec_Leaves.f k l0 a1 = some r) :
  Calls Try.prog 23 #[.slice A0 l0.length c0, .int .i64 a1] w fun e w' => ∃ v0_ : Value, e = .returned (v0_) ∧ Kd.R k52 52 w' w.heap.size (fun _ => True) v0_ r ∧ Below w.heap.size w w' := by
 have HR0 := Aside0.mk hr0
 have HC0 := Aside0.mk hc0
 clear hr0 hc0
 have HB := Aside0.mk (Below.refl w.heap.size w)
 have H : ((spec_l6MemOk.f l0).bind fun t187 => (if t187 = true then ((spec_l6Below.f k l0 a1 2 0).bind fun t188 => (some t188)) else (some (([] : List (S52)))))) = some r := h
 clear h
 replace H := Option.bind_eq_some_iff.mp H
 obtain ⟨t187, A30, H⟩ := H
 replace H : (if t187 = true then ((spec_l6Below.f k l0 a1 2 0).bind fun t188 => (some t188)) else (some (([] : List (S52))))) = some r := H
 have A3 := Aside0.mk A30
 clear A30
 by_cases c4 : t187 = true
 ·subst c4
  have H1 : ((spec_l6Below.f k l0 a1 2 0).bind fun t188 => (some t188)) = some r := by rw [if_pos rfl] at H; exact H
  clear H
  have H := H1
  clear H1
  replace H := Option.bind_eq_some_iff.mp H
  obtain ⟨t188, A50, H⟩ := H
  replace H : (some t188) = some r := H
  have A5 := Aside0.mk A50
  clear A50
  obtain rfl := Option.some.inj H
  go_enter Try.func23, Try.ntmps23
  go_wp2_with (first | ((with_reducible refine gate_callee (f := 51) rfl ?_); refine goesL_ (some 6) rfl rfl Try.func51 (by kernel_rfl) rfl #[.slice A0 l0.length c0] rfl Z5_2 ?_; (with_reducible refine (spec_l6MemOk.calls _ _ l0 true _ ?side1 ?side2 A3.out).mono ?_); (case side1 => exact Z5_10); (case side2 => exact HC0.out); rintro e w' ⟨rfl, ⟨nd, rfl⟩⟩; refine ⟨_, rfl, ?_⟩) | ((with_reducible refine gate_callee (f := 55) rfl ?_); refine goesL_ (some 11) rfl rfl Try.func55 (by kernel_rfl) rfl #[.slice A0 l0.length c0, .int .i64 a1, .int .i64 2, .int .i64 0] rfl Z5_2 ?_; (with_reducible refine (spec_l6Below.calls k _ _ l0 a1 2 0 t188 _ ?side1 ?side2 A5.out).mono ?_); (case side1 => exact Z5_10); (case side2 => exact HC0.out); rintro e w6 ⟨v189, rfl, ho0, hb⟩; refine ⟨_, rfl, ?_⟩; have n0_ := Aside0.mk (Kd.R_lower ho0 (below_size Z5_1)); have n1_ := Aside0.mk (below_step Z5_1 hb); clear HB; have HO190 := n0_; have HB := n1_; clear n0_ n1_; (try clear hb); (try clear hb2 hk hi); (try clear ho0)))
  go_ret
  exact ⟨_, Z5_11, by (with_reducible repeat (first | apply Kd.R_alloc | apply Kd.R_drewN | apply Kd.R_drew)); exact HO190.out, Z5_1⟩
 replace c4 := Bool.eq_false_iff.mpr c4
 subst c4
 have H1 : (some (([] : List (S52)))) = some r := by rw [if_neg (show ¬ (false = true) by decide)] at H; exact H
 clear H
 have H := H1
 clear H1
 obtain ⟨y191, hy191⟩ : ∃ y_ : List (S52), y_ = (([] : List (S52))) := ⟨_, rfl⟩
 replace H : (some y191) = some r := by first | (rw [hy191]; with_reducible exact H) | (have H2_ := (Option.bind_some _ _).symm.trans H; rw [hy191]; with_reducible exact H2_) | (have H2_ := (Option.bind_some _ _).symm.trans H; with_reducible exact H2_) | with_reducible exact H | (rw [hy191]; exact H) | exact H
 have Ny191 := Aside0.mk hy191
 clear hy191
 obtain rfl := Option.some.inj H
 go_enter Try.func23, Try.ntmps23
 go_wp2_with (first | ((with_reducible refine gate_callee (f := 51) rfl ?_); refine goesL_ (some 6) rfl rfl Try.func51 (by kernel_rfl) rfl #[.slice A0 l0.length c0] rfl Z5_2 ?_; (with_reducible refine (spec_l6MemOk.calls _ _ l0 false _ ?side1 ?side2 A3.out).mono ?_); (case side1 => exact Z5_10); (case side2 => exact HC0.out); rintro e w' ⟨rfl, ⟨nd, rfl⟩⟩; refine ⟨_, rfl, ?_⟩) | ((with_reducible refine gate_dst (N := 8) rfl ?_); refine Kd.R_lit k52 _ 52 ?hg (N := 8) ?hd (xs := ([] : List (S52))) (inner := []) (ok := fun _ => True) (okp := fun _ => True) ?hr ?hp (fun _ hk => hk) trivial (Below.refl _ _) (Nat.le_refl _) (by simp) ?_; (case hd => rfl); (case hg => rfl); (case hr => first | (go_simp; done) | (go_simp; rfl)); (case hp => exact (Reps.none _ _)); intro v192 w7 ho8 hb hg_ hnew_; clear hg_ hnew_; (first | rw [← Ny191.out] at ho8 | (simp only [Int.reduceToNat] at ho8; rw [← Ny191.out] at ho8)); have n0_ := Aside0.mk (Kd.R_lower ho8 (below_size Z5_1)); have n1_ := Aside0.mk (below_step Z5_1 hb); clear HB; have HO193 := n0_; have HB := n1_; clear n0_ n1_; clear hb ho8))
 go_ret
 exact ⟨_, Z5_11, by (with_reducible repeat (first | apply Kd.R_alloc | apply Kd.R_drewN | apply Kd.R_drew)); exact HO193.out, Z5_1⟩
end Go.Proofs.Ytdhafphhkokniaa.PFnLeavesFound
