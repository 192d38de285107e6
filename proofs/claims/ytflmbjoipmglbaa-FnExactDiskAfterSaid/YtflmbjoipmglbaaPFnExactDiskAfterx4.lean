-- Written by a program of this session out of the translation. Not trusted: Lean checks it.
import Derived.Test.YtflmbjoipmglbaaPFnExactDiskAfterx0
import Derived.Test.YtflmbjoipmglbaaPFnExactDiskAfterx1
import Derived.Test.YtflmbjoipmglbaaPFnExactDiskAfterx2
import Derived.Test.YtflmbjoipmglbaaPFnExactDiskAfterx3
namespace Go.Proofs.Ytflmbjoipmglbaa.PFnExactDiskAfter
open Go.RowKit Go.Proofs.YtflmbjoipmglbaaW.PrintWords Go.Proofs.YtflmbjoipmglbaaW.PrintLast Go.Proofs.YtflmbjoipmglbaaW.PrintMore
attribute [local go_sem] max2_int min2_int max_two min_two max_three min_three max_four min_four   -- for this text's walks alone
set_option linter.unusedVariables false
set_option linter.unusedSimpArgs false

/-! ### laws_FnExactDiskAfter: function 3 -/
mutual
def laws_FnExactDiskAfter.j0 : Nat → List Int → List (S69) → List Int → Bool → List Int → List (S70) → List Int → Bool → Bool → Option (Bool)
  | 0, _, _, _, _, _, _, _, _, _ => none
  | k + 1, x0, x1, x6, x7, x8, x9, x10, x11, x51 => if x51 = true then (none) else ((laws_toByteS.f k x0).bind fun t186 => ((laws_eqByteS.f k x8 t186).bind fun t189 => (if t189 = true then ((laws_toDiskWriteS.f k x1).bind fun t190 => ((laws_eqDiskWriteS.f k x9 t190).bind fun t193 => (if t193 = true then ((laws_markByteS.f k x8 1).bind fun bt194 => ((laws_markDiskWriteS.f k x9 bt194.1).bind fun bt196 => (if bt196.1 < 0 then (laws_FnExactDiskAfter.j1 k x0 x1 x6 x7 x10 true) else ((laws_eqByteS.f k x10 x6).bind fun t198 => (if t198 = true then (laws_FnExactDiskAfter.j1 k x0 x1 x6 x7 x10 (x11 != x7)) else (laws_FnExactDiskAfter.j1 k x0 x1 x6 x7 x10 true)))))) else (none)))) else (none))))
def laws_FnExactDiskAfter.j1 : Nat → List Int → List (S69) → List Int → Bool → List Int → Bool → Option (Bool)
  | 0, _, _, _, _, _, _ => none
  | k + 1, x0, x1, x6, x7, x10, x80 => if x80 = true then (none) else ((laws_markByteS.f k x10 1).bind fun bt199 => ((laws_heldByteS.f k bt199.2 1).bind fun t201 => (if t201 < 0 then (none) else (if t201 = bt199.1 then ((laws_toByteS.f k x0).bind fun t202 => ((laws_toDiskWriteS.f k x1).bind fun t205 => ((impl_DiskAfter.f k t202 t205).bind fun bt208 => ((laws_eqByteS.f k bt208.1 x6).bind fun t212 => (if t212 = true then (laws_FnExactDiskAfter.j2 k bt199.2 bt199.1 (bt208.2 != x7)) else (laws_FnExactDiskAfter.j2 k bt199.2 bt199.1 true)))))) else (none)))))
def laws_FnExactDiskAfter.j2 : Nat → List Int → Int → Bool → Option (Bool)
  | 0, _, _, _ => none
  | k + 1, x10, x13, x108 => if x108 = true then (none) else ((laws_heldByteS.f k x10 1).bind fun t213 => (if t213 < 0 then (none) else (if t213 = x13 then (some true) else (none))))
end
def laws_FnExactDiskAfter.f (k : Nat) (l0 : List Int) (l1 : List (S69)) : Option (Bool) := if (l0.length : Int) > 1048576 then (some true) else ((laws_szDiskWriteS.f k l1 1048576).bind fun t164 => (if t164 < 0 then (some true) else ((laws_toByteS.f k l0).bind fun t165 => ((laws_toDiskWriteS.f k l1).bind fun t168 => ((spec_DiskAfter.f k t165 t168).bind fun bt171 => ((laws_toByteS.f k l0).bind fun t175 => ((laws_toDiskWriteS.f k l1).bind fun t178 => ((impl_DiskAfter.f k t175 t178).bind fun bt181 => ((laws_eqByteS.f k bt181.1 bt171.1).bind fun t185 => (if t185 = true then (laws_FnExactDiskAfter.j0 k l0 l1 bt171.1 bt171.2 t175 t178 bt181.1 bt181.2 (bt181.2 != bt171.2)) else (laws_FnExactDiskAfter.j0 k l0 l1 bt171.1 bt171.2 t175 t178 bt181.1 bt181.2 true)))))))))))
theorem laws_FnExactDiskAfter.mono_l : ∀ k, (∀ y0 y1 y2 y3 y4 y5 y6 y7 y8, LeO (laws_FnExactDiskAfter.j0 k y0 y1 y2 y3 y4 y5 y6 y7 y8) (laws_FnExactDiskAfter.j0 (k + 1) y0 y1 y2 y3 y4 y5 y6 y7 y8)) ∧ (∀ y0 y1 y2 y3 y4 y5, LeO (laws_FnExactDiskAfter.j1 k y0 y1 y2 y3 y4 y5) (laws_FnExactDiskAfter.j1 (k + 1) y0 y1 y2 y3 y4 y5)) ∧ (∀ y0 y1 y2, LeO (laws_FnExactDiskAfter.j2 k y0 y1 y2) (laws_FnExactDiskAfter.j2 (k + 1) y0 y1 y2))
  | 0 => ⟨fun _ _ _ _ _ _ _ _ _ r h => by simp [laws_FnExactDiskAfter.j0] at h, fun _ _ _ _ _ _ r h => by simp [laws_FnExactDiskAfter.j1] at h, fun _ _ _ r h => by simp [laws_FnExactDiskAfter.j2] at h⟩
  | k + 1 => by
    obtain ⟨ih0, ih1, ih2⟩ := laws_FnExactDiskAfter.mono_l k
    refine ⟨?_, ?_, ?_⟩
    · intro y0 y1 y2 y3 y4 y5 y6 y7 y8
      unfold laws_FnExactDiskAfter.j0
      repeat' first
      | (with_reducible exact ih0 _ _ _ _ _ _ _ _ _)
      | (with_reducible exact ih1 _ _ _ _ _ _)
      | (with_reducible exact ih2 _ _ _)
      | (with_reducible exact impl_DiskAfter.mono _ _ _)
      | (with_reducible exact laws_eqByteS.mono _ _ _)
      | (with_reducible exact laws_eqDiskWriteS.mono _ _ _)
      | (with_reducible exact laws_heldByteS.mono _ _ _)
      | (with_reducible exact laws_markByteS.mono _ _ _)
      | (with_reducible exact laws_markDiskWriteS.mono _ _ _)
      | (with_reducible exact laws_szDiskWriteS.mono _ _ _)
      | (with_reducible exact laws_toByteS.mono _ _)
      | (with_reducible exact laws_toDiskWriteS.mono _ _)
      | (with_reducible exact spec_DiskAfter.mono _ _ _)
      | (with_reducible exact LeO.refl _)
      | (with_reducible exact LeO.none _)
      | (with_reducible refine LeO.ite ?_ ?_)
      | (with_reducible refine LeO.bind ?_ (fun _ => ?_))
      | exact ih0 _ _ _ _ _ _ _ _ _
      | exact ih1 _ _ _ _ _ _
      | exact ih2 _ _ _
      | exact impl_DiskAfter.mono _ _ _
      | exact laws_eqByteS.mono _ _ _
      | exact laws_eqDiskWriteS.mono _ _ _
      | exact laws_heldByteS.mono _ _ _
      | exact laws_markByteS.mono _ _ _
      | exact laws_markDiskWriteS.mono _ _ _
      | exact laws_szDiskWriteS.mono _ _ _
      | exact laws_toByteS.mono _ _
      | exact laws_toDiskWriteS.mono _ _
      | exact spec_DiskAfter.mono _ _ _
      | exact LeO.none _
      | refine LeO.ite ?_ ?_
      | refine LeO.bind ?_ (fun _ => ?_)
    · intro y0 y1 y2 y3 y4 y5
      unfold laws_FnExactDiskAfter.j1
      repeat' first
      | (with_reducible exact ih0 _ _ _ _ _ _ _ _ _)
      | (with_reducible exact ih1 _ _ _ _ _ _)
      | (with_reducible exact ih2 _ _ _)
      | (with_reducible exact impl_DiskAfter.mono _ _ _)
      | (with_reducible exact laws_eqByteS.mono _ _ _)
      | (with_reducible exact laws_eqDiskWriteS.mono _ _ _)
      | (with_reducible exact laws_heldByteS.mono _ _ _)
      | (with_reducible exact laws_markByteS.mono _ _ _)
      | (with_reducible exact laws_markDiskWriteS.mono _ _ _)
      | (with_reducible exact laws_szDiskWriteS.mono _ _ _)
      | (with_reducible exact laws_toByteS.mono _ _)
      | (with_reducible exact laws_toDiskWriteS.mono _ _)
      | (with_reducible exact spec_DiskAfter.mono _ _ _)
      | (with_reducible exact LeO.refl _)
      | (with_reducible exact LeO.none _)
      | (with_reducible refine LeO.ite ?_ ?_)
      | (with_reducible refine LeO.bind ?_ (fun _ => ?_))
      | exact ih0 _ _ _ _ _ _ _ _ _
      | exact ih1 _ _ _ _ _ _
      | exact ih2 _ _ _
      | exact impl_DiskAfter.mono _ _ _
      | exact laws_eqByteS.mono _ _ _
      | exact laws_eqDiskWriteS.mono _ _ _
      | exact laws_heldByteS.mono _ _ _
      | exact laws_markByteS.mono _ _ _
      | exact laws_markDiskWriteS.mono _ _ _
      | exact laws_szDiskWriteS.mono _ _ _
      | exact laws_toByteS.mono _ _
      | exact laws_toDiskWriteS.mono _ _
      | exact spec_DiskAfter.mono _ _ _
      | exact LeO.none _
      | refine LeO.ite ?_ ?_
      | refine LeO.bind ?_ (fun _ => ?_)
    · intro y0 y1 y2
      unfold laws_FnExactDiskAfter.j2
      repeat' first
      | (with_reducible exact ih0 _ _ _ _ _ _ _ _ _)
      | (with_reducible exact ih1 _ _ _ _ _ _)
      | (with_reducible exact ih2 _ _ _)
      | (with_reducible exact impl_DiskAfter.mono _ _ _)
      | (with_reducible exact laws_eqByteS.mono _ _ _)
      | (with_reducible exact laws_eqDiskWriteS.mono _ _ _)
      | (with_reducible exact laws_heldByteS.mono _ _ _)
      | (with_reducible exact laws_markByteS.mono _ _ _)
      | (with_reducible exact laws_markDiskWriteS.mono _ _ _)
      | (with_reducible exact laws_szDiskWriteS.mono _ _ _)
      | (with_reducible exact laws_toByteS.mono _ _)
      | (with_reducible exact laws_toDiskWriteS.mono _ _)
      | (with_reducible exact spec_DiskAfter.mono _ _ _)
      | (with_reducible exact LeO.refl _)
      | (with_reducible exact LeO.none _)
      | (with_reducible refine LeO.ite ?_ ?_)
      | (with_reducible refine LeO.bind ?_ (fun _ => ?_))
      | exact ih0 _ _ _ _ _ _ _ _ _
      | exact ih1 _ _ _ _ _ _
      | exact ih2 _ _ _
      | exact impl_DiskAfter.mono _ _ _
      | exact laws_eqByteS.mono _ _ _
      | exact laws_eqDiskWriteS.mono _ _ _
      | exact laws_heldByteS.mono _ _ _
      | exact laws_markByteS.mono _ _ _
      | exact laws_markDiskWriteS.mono _ _ _
      | exact laws_szDiskWriteS.mono _ _ _
      | exact laws_toByteS.mono _ _
      | exact laws_toDiskWriteS.mono _ _
      | exact spec_DiskAfter.mono _ _ _
      | exact LeO.none _
      | refine LeO.ite ?_ ?_
      | refine LeO.bind ?_ (fun _ => ?_)
theorem laws_FnExactDiskAfter.mono : ∀ a0 a1 k, LeO (laws_FnExactDiskAfter.f k a0 a1) (laws_FnExactDiskAfter.f (k + 1) a0 a1) := by
  intro a0 a1 k
  obtain ⟨ih0, ih1, ih2⟩ := laws_FnExactDiskAfter.mono_l k
  unfold laws_FnExactDiskAfter.f
  repeat' first
      | (with_reducible exact ih0 _ _ _ _ _ _ _ _ _)
      | (with_reducible exact ih1 _ _ _ _ _ _)
      | (with_reducible exact ih2 _ _ _)
      | (with_reducible exact impl_DiskAfter.mono _ _ _)
      | (with_reducible exact laws_eqByteS.mono _ _ _)
      | (with_reducible exact laws_eqDiskWriteS.mono _ _ _)
      | (with_reducible exact laws_heldByteS.mono _ _ _)
      | (with_reducible exact laws_markByteS.mono _ _ _)
      | (with_reducible exact laws_markDiskWriteS.mono _ _ _)
      | (with_reducible exact laws_szDiskWriteS.mono _ _ _)
      | (with_reducible exact laws_toByteS.mono _ _)
      | (with_reducible exact laws_toDiskWriteS.mono _ _)
      | (with_reducible exact spec_DiskAfter.mono _ _ _)
      | (with_reducible exact LeO.refl _)
      | (with_reducible exact LeO.none _)
      | (with_reducible refine LeO.ite ?_ ?_)
      | (with_reducible refine LeO.bind ?_ (fun _ => ?_))
      | exact ih0 _ _ _ _ _ _ _ _ _
      | exact ih1 _ _ _ _ _ _
      | exact ih2 _ _ _
      | exact impl_DiskAfter.mono _ _ _
      | exact laws_eqByteS.mono _ _ _
      | exact laws_eqDiskWriteS.mono _ _ _
      | exact laws_heldByteS.mono _ _ _
      | exact laws_markByteS.mono _ _ _
      | exact laws_markDiskWriteS.mono _ _ _
      | exact laws_szDiskWriteS.mono _ _ _
      | exact laws_toByteS.mono _ _
      | exact laws_toDiskWriteS.mono _ _
      | exact spec_DiskAfter.mono _ _ _
      | exact LeO.none _
      | refine LeO.ite ?_ ?_
      | refine LeO.bind ?_ (fun _ => ?_)
set_option maxHeartbeats 8000000 in
set_option maxRecDepth 100000 in
theorem laws_FnExactDiskAfter.calls (k : Nat) (A0 : Option Addr) (c0 : Nat) (l0 : List Int) (A1 : Option Addr) (c1 : Nat) (l1 : List (S69)) (r : Bool) (w : World) (hr0 : Kd.C (Kd.int .u8) w A0 l0.length l0) (hc0 : l0.length ≤ c0) (hr1 : Kd.C k69 w A1 l1.length l1) (hc1 : l1.length ≤ c1) (h : laws_FnExactDiskAfter.f k l0 l1 = some r) :
    Calls Try.prog 3 #[.slice A0 l0.length c0, .slice A1 l1.length c1] w fun e w' => e = .returned (.bool r) ∧ Below w.heap.size w w' := by
  have HR0 := Aside0.mk hr0
  have HC0 := Aside0.mk hc0
  clear hr0 hc0
  have HR1 := Aside0.mk hr1
  have HC1 := Aside0.mk hc1
  clear hr1 hc1
  have HB := Aside0.mk (Below.refl w.heap.size w)
  have H : (if (l0.length : Int) > 1048576 then (some true) else ((laws_szDiskWriteS.f k l1 1048576).bind fun t164 => (if t164 < 0 then (some true) else ((laws_toByteS.f k l0).bind fun t165 => ((laws_toDiskWriteS.f k l1).bind fun t168 => ((spec_DiskAfter.f k t165 t168).bind fun bt171 => ((laws_toByteS.f k l0).bind fun t175 => ((laws_toDiskWriteS.f k l1).bind fun t178 => ((impl_DiskAfter.f k t175 t178).bind fun bt181 => ((laws_eqByteS.f k bt181.1 bt171.1).bind fun t185 => (if t185 = true then (laws_FnExactDiskAfter.j0 k l0 l1 bt171.1 bt171.2 t175 t178 bt181.1 bt181.2 (bt181.2 != bt171.2)) else (laws_FnExactDiskAfter.j0 k l0 l1 bt171.1 bt171.2 t175 t178 bt181.1 bt181.2 true)))))))))))) = some r := h
  clear h
  by_cases c3 : (l0.length : Int) > 1048576
  · rw [if_pos c3] at H
    have c3b0 : decide (1048576 < (l0.length : Int)) = true := decide_eq_true c3
    have c3b1 : decide (1048576 < l0.length) = true := decide_eq_true (by omega)
    clear c3
    obtain rfl := Option.some.inj H
    go_enter Try.func3, Try.ntmps3
    go_wp2
    go_ret
    exact ⟨by first | rfl | (simp [errW_none, errW_some] <;> rfl) | (simp [*, errW_none, errW_some] <;> rfl), by repeat (first | (with_reducible first | exact HB.out | apply below_alloc | apply pw_below_drewN | apply below_drew1) | exact HB.out)⟩
  · rw [if_neg c3] at H
    have c3b0 : decide (1048576 < (l0.length : Int)) = false := decide_eq_false c3
    have c3b1 : decide (1048576 < l0.length) = false := decide_eq_false (by omega)
    clear c3
    replace H := Option.bind_eq_some_iff.mp H
    obtain ⟨t164, A40, H⟩ := H
    replace H : (if t164 < 0 then (some true) else ((laws_toByteS.f k l0).bind fun t165 => ((laws_toDiskWriteS.f k l1).bind fun t168 => ((spec_DiskAfter.f k t165 t168).bind fun bt171 => ((laws_toByteS.f k l0).bind fun t175 => ((laws_toDiskWriteS.f k l1).bind fun t178 => ((impl_DiskAfter.f k t175 t178).bind fun bt181 => ((laws_eqByteS.f k bt181.1 bt171.1).bind fun t185 => (if t185 = true then (laws_FnExactDiskAfter.j0 k l0 l1 bt171.1 bt171.2 t175 t178 bt181.1 bt181.2 (bt181.2 != bt171.2)) else (laws_FnExactDiskAfter.j0 k l0 l1 bt171.1 bt171.2 t175 t178 bt181.1 bt181.2 true)))))))))) = some r := H
    have A4 := Aside0.mk A40
    clear A40
    by_cases c5 : t164 < 0
    · rw [if_pos c5] at H
      have c5b0 : decide (t164 < 0) = true := decide_eq_true c5
      clear c5
      obtain rfl := Option.some.inj H
      go_enter Try.func3, Try.ntmps3
      go_wp2_with (first | ((with_reducible refine gate_callee (f := 13) rfl ?_); refine goesL_ (some 22) rfl rfl Try.func13 (by kernel_rfl) rfl #[.slice A1 l1.length c1, .int .i64 1048576] rfl (by (try simp only [List.map_toArray, List.map_cons, List.map_nil]); first | done | rfl | (simp only [List.length_drop, List.length_take]; first | done | rfl)) ?_; (with_reducible refine (laws_szDiskWriteS.calls k _ _ l1 1048576 t164 _ ?side1 ?side2 A4.out).mono ?_); (case side1 => repeat (first | exact HR1.out | (with_reducible refine Kd.C_alloc ?_ _) | (with_reducible refine Kd.C_drewN ?_ _) | (with_reducible refine Kd.C_drew ?_))); (case side2 => exact HC1.out); rintro e w6 ⟨rfl, hb⟩; refine ⟨_, rfl, ?_⟩; have n0_ := Aside0.mk (below_step (by repeat (first | (with_reducible first | exact HB.out | apply below_alloc | apply pw_below_drewN | apply below_drew1) | exact HB.out)) hb); clear HB; have HB := n0_; clear n0_; (try clear hb); (try clear hb2); (try clear hk); (try clear hi)))
      go_ret
      exact ⟨by first | rfl | (simp [errW_none, errW_some] <;> rfl) | (simp [*, errW_none, errW_some] <;> rfl), by repeat (first | (with_reducible first | exact HB.out | apply below_alloc | apply pw_below_drewN | apply below_drew1) | exact HB.out)⟩
    · rw [if_neg c5] at H
      have c5b0 : decide (t164 < 0) = false := decide_eq_false c5
      clear c5
      replace H := Option.bind_eq_some_iff.mp H
      obtain ⟨t165, A70, H⟩ := H
      replace H : ((laws_toDiskWriteS.f k l1).bind fun t168 => ((spec_DiskAfter.f k t165 t168).bind fun bt171 => ((laws_toByteS.f k l0).bind fun t175 => ((laws_toDiskWriteS.f k l1).bind fun t178 => ((impl_DiskAfter.f k t175 t178).bind fun bt181 => ((laws_eqByteS.f k bt181.1 bt171.1).bind fun t185 => (if t185 = true then (laws_FnExactDiskAfter.j0 k l0 l1 bt171.1 bt171.2 t175 t178 bt181.1 bt181.2 (bt181.2 != bt171.2)) else (laws_FnExactDiskAfter.j0 k l0 l1 bt171.1 bt171.2 t175 t178 bt181.1 bt181.2 true)))))))) = some r := H
      have A7 := Aside0.mk A70
      clear A70
      replace H := Option.bind_eq_some_iff.mp H
      obtain ⟨t168, A80, H⟩ := H
      replace H : ((spec_DiskAfter.f k t165 t168).bind fun bt171 => ((laws_toByteS.f k l0).bind fun t175 => ((laws_toDiskWriteS.f k l1).bind fun t178 => ((impl_DiskAfter.f k t175 t178).bind fun bt181 => ((laws_eqByteS.f k bt181.1 bt171.1).bind fun t185 => (if t185 = true then (laws_FnExactDiskAfter.j0 k l0 l1 bt171.1 bt171.2 t175 t178 bt181.1 bt181.2 (bt181.2 != bt171.2)) else (laws_FnExactDiskAfter.j0 k l0 l1 bt171.1 bt171.2 t175 t178 bt181.1 bt181.2 true))))))) = some r := H
      have A8 := Aside0.mk A80
      clear A80
      replace H := Option.bind_eq_some_iff.mp H
      obtain ⟨⟨t171, t172⟩, A90, H⟩ := H
      replace H : ((laws_toByteS.f k l0).bind fun t175 => ((laws_toDiskWriteS.f k l1).bind fun t178 => ((impl_DiskAfter.f k t175 t178).bind fun bt181 => ((laws_eqByteS.f k bt181.1 t171).bind fun t185 => (if t185 = true then (laws_FnExactDiskAfter.j0 k l0 l1 t171 t172 t175 t178 bt181.1 bt181.2 (bt181.2 != t172)) else (laws_FnExactDiskAfter.j0 k l0 l1 t171 t172 t175 t178 bt181.1 bt181.2 true)))))) = some r := H
      have A9 := Aside0.mk A90
      clear A90
      replace H := Option.bind_eq_some_iff.mp H
      obtain ⟨t175, A100, H⟩ := H
      replace H : ((laws_toDiskWriteS.f k l1).bind fun t178 => ((impl_DiskAfter.f k t175 t178).bind fun bt181 => ((laws_eqByteS.f k bt181.1 t171).bind fun t185 => (if t185 = true then (laws_FnExactDiskAfter.j0 k l0 l1 t171 t172 t175 t178 bt181.1 bt181.2 (bt181.2 != t172)) else (laws_FnExactDiskAfter.j0 k l0 l1 t171 t172 t175 t178 bt181.1 bt181.2 true))))) = some r := H
      have A10 := Aside0.mk A100
      clear A100
      replace H := Option.bind_eq_some_iff.mp H
      obtain ⟨t178, A110, H⟩ := H
      replace H : ((impl_DiskAfter.f k t175 t178).bind fun bt181 => ((laws_eqByteS.f k bt181.1 t171).bind fun t185 => (if t185 = true then (laws_FnExactDiskAfter.j0 k l0 l1 t171 t172 t175 t178 bt181.1 bt181.2 (bt181.2 != t172)) else (laws_FnExactDiskAfter.j0 k l0 l1 t171 t172 t175 t178 bt181.1 bt181.2 true)))) = some r := H
      have A11 := Aside0.mk A110
      clear A110
      replace H := Option.bind_eq_some_iff.mp H
      obtain ⟨⟨t181, t182⟩, A120, H⟩ := H
      replace H : ((laws_eqByteS.f k t181 t171).bind fun t185 => (if t185 = true then (laws_FnExactDiskAfter.j0 k l0 l1 t171 t172 t175 t178 t181 t182 (t182 != t172)) else (laws_FnExactDiskAfter.j0 k l0 l1 t171 t172 t175 t178 t181 t182 true))) = some r := H
      have A12 := Aside0.mk A120
      clear A120
      have HC13 := Aside0.mk H
      clear H
      go_enter Try.func3, Try.ntmps3
      go_upto_region 11 with (first | ((with_reducible refine gate_callee (f := 13) rfl ?_); refine goesL_ (some 22) rfl rfl Try.func13 (by kernel_rfl) rfl #[.slice A1 l1.length c1, .int .i64 1048576] rfl (by (try simp only [List.map_toArray, List.map_cons, List.map_nil]); first | done | rfl | (simp only [List.length_drop, List.length_take]; first | done | rfl)) ?_; (with_reducible refine (laws_szDiskWriteS.calls k _ _ l1 1048576 t164 _ ?side1 ?side2 A4.out).mono ?_); (case side1 => repeat (first | exact HR1.out | (with_reducible refine Kd.C_alloc ?_ _) | (with_reducible refine Kd.C_drewN ?_ _) | (with_reducible refine Kd.C_drew ?_))); (case side2 => exact HC1.out); rintro e w14 ⟨rfl, hb⟩; refine ⟨_, rfl, ?_⟩; have n0_ := Aside0.mk (below_step (by repeat (first | (with_reducible first | exact HB.out | apply below_alloc | apply pw_below_drewN | apply below_drew1) | exact HB.out)) hb); clear HB; have HB := n0_; clear n0_; (try clear hb); (try clear hb2); (try clear hk); (try clear hi)) | ((with_reducible refine gate_callee (f := 15) rfl ?_); refine goesL_ (some 27) rfl rfl Try.func15 (by kernel_rfl) rfl #[.slice A0 l0.length c0] rfl (by (try simp only [List.map_toArray, List.map_cons, List.map_nil]); first | done | rfl | (simp only [List.length_drop, List.length_take]; first | done | rfl)) ?_; (with_reducible refine (laws_toByteS.calls k _ _ l0 t165 _ ?side1 ?side2 A7.out).mono ?_); (case side1 => repeat (first | exact (Kd.C_below HR0.out HB.out) | (with_reducible refine Kd.C_alloc ?_ _) | (with_reducible refine Kd.C_drewN ?_ _) | (with_reducible refine Kd.C_drew ?_))); (case side2 => exact HC0.out); rintro e w15 ⟨v166, rfl, ho0, hb⟩; refine ⟨_, rfl, ?_⟩; have n0_ := Aside0.mk (Kd.R_lower ho0 (below_size (by repeat (first | (with_reducible first | exact HB.out | apply below_alloc | apply pw_below_drewN | apply below_drew1) | exact HB.out)))); have n1_ := Aside0.mk (below_step (by repeat (first | (with_reducible first | exact HB.out | apply below_alloc | apply pw_below_drewN | apply below_drew1) | exact HB.out)) hb); clear HB; have HO167 := n0_; have HB := n1_; clear n0_ n1_; (try clear hb); (try clear hb2); (try clear hk); (try clear hi); (try clear ho0)) | ((with_reducible refine gate_callee (f := 16) rfl ?_); refine goesL_ (some 29) rfl rfl Try.func16 (by kernel_rfl) rfl #[.slice A1 l1.length c1] rfl (by (try simp only [List.map_toArray, List.map_cons, List.map_nil]); first | done | rfl | (simp only [List.length_drop, List.length_take]; first | done | rfl)) ?_; (with_reducible refine (laws_toDiskWriteS.calls k _ _ l1 t168 _ ?side1 ?side2 A8.out).mono ?_); (case side1 => repeat (first | exact (Kd.C_below HR1.out HB.out) | (with_reducible refine Kd.C_alloc ?_ _) | (with_reducible refine Kd.C_drewN ?_ _) | (with_reducible refine Kd.C_drew ?_))); (case side2 => exact HC1.out); rintro e w16 ⟨v169, rfl, ho0, hb⟩; refine ⟨_, rfl, ?_⟩; have n0_ := Aside0.mk (Kd.R_below (by (with_reducible repeat (first | apply Kd.R_alloc | apply Kd.R_drewN | apply Kd.R_drew)); exact HO167.out) hb); have n1_ := Aside0.mk (Kd.S_lower (Kd.S_new' ho0 (Kd.R_lt (by (with_reducible repeat (first | apply Kd.R_alloc | apply Kd.R_drewN | apply Kd.R_drew)); exact HO167.out))) (below_size (by repeat (first | (with_reducible first | exact HB.out | apply below_alloc | apply pw_below_drewN | apply below_drew1) | exact HB.out)))); have n2_ := Aside0.mk (below_step (by repeat (first | (with_reducible first | exact HB.out | apply below_alloc | apply pw_below_drewN | apply below_drew1) | exact HB.out)) hb); clear HO167; clear HB; have HO167 := n0_; have HO170 := n1_; have HB := n2_; clear n0_ n1_ n2_; (try clear hb); (try clear hb2); (try clear hk); (try clear hi); (try clear ho0); obtain ⟨Ao17, co17, eo17⟩ := Kd.R_slice HO167.out; subst eo17; obtain ⟨Ao18, co18, eo18⟩ := Kd.S_slice HO170.out; subst eo18) | ((with_reducible refine gate_callee (f := 14) rfl ?_); refine goesL_ (some 30) rfl rfl Try.func14 (by kernel_rfl) rfl #[.slice Ao17 t165.length co17, .slice Ao18 t168.length co18] rfl (by (try simp only [List.map_toArray, List.map_cons, List.map_nil]); first | done | rfl | (simp only [List.length_drop, List.length_take]; first | done | rfl)) ?_; (with_reducible refine (spec_DiskAfter.calls k _ _ t165 _ _ t168 t171 t172 _ ?side1 ?side2 ?side3 ?side4 A9.out).mono ?_); (case side1 => repeat (first | exact (Kd.R_reads' HO167.out).2.2 | (with_reducible refine Kd.C_alloc ?_ _) | (with_reducible refine Kd.C_drewN ?_ _) | (with_reducible refine Kd.C_drew ?_))); (case side2 => exact (Kd.R_reads' HO167.out).2.1); (case side3 => repeat (first | exact (Kd.S_reads' HO170.out).2.2 | (with_reducible refine Kd.C_alloc ?_ _) | (with_reducible refine Kd.C_drewN ?_ _) | (with_reducible refine Kd.C_drew ?_))); (case side4 => exact (Kd.S_reads' HO170.out).2.1); rintro e w19 ⟨v173, rfl, ho0, hb⟩; refine ⟨_, rfl, ?_⟩; have n0_ := Aside0.mk (Kd.R_elder' (by (with_reducible repeat (first | apply Kd.R_alloc | apply Kd.R_drewN | apply Kd.R_drew)); exact HO167.out) (Kd.R_base ho0) hb); have n1_ := Aside0.mk (Kd.S_elder' (by (with_reducible repeat (first | apply Kd.S_alloc | apply Kd.S_drewN | apply Kd.S_drew)); exact HO170.out) (Kd.R_base ho0) hb); have n2_ := Aside0.mk (Kd.R_lower (Kd.R_new' ho0 (Kd.R_lt (by (with_reducible repeat (first | apply Kd.R_alloc | apply Kd.R_drewN | apply Kd.R_drew)); exact HO167.out))) (below_size (by repeat (first | (with_reducible first | exact HB.out | apply below_alloc | apply pw_below_drewN | apply below_drew1) | exact HB.out)))); have n3_ := Aside0.mk (below_step (by repeat (first | (with_reducible first | exact HB.out | apply below_alloc | apply pw_below_drewN | apply below_drew1) | exact HB.out)) hb); clear HO167; clear HO170; clear HB; have HO167 := n0_; have HO170 := n1_; have HO174 := n2_; have HB := n3_; clear n0_ n1_ n2_ n3_; (try clear hb); (try clear hb2); (try clear hk); (try clear hi); (try clear ho0)) | ((with_reducible refine gate_callee (f := 15) rfl ?_); refine goesL_ (some 34) rfl rfl Try.func15 (by kernel_rfl) rfl #[.slice A0 l0.length c0] rfl (by (try simp only [List.map_toArray, List.map_cons, List.map_nil]); first | done | rfl | (simp only [List.length_drop, List.length_take]; first | done | rfl)) ?_; (with_reducible refine (laws_toByteS.calls k _ _ l0 t175 _ ?side1 ?side2 A10.out).mono ?_); (case side1 => repeat (first | exact (Kd.C_below HR0.out HB.out) | (with_reducible refine Kd.C_alloc ?_ _) | (with_reducible refine Kd.C_drewN ?_ _) | (with_reducible refine Kd.C_drew ?_))); (case side2 => exact HC0.out); rintro e w20 ⟨v176, rfl, ho0, hb⟩; refine ⟨_, rfl, ?_⟩; have n0_ := Aside0.mk (Kd.R_elder' (by (with_reducible repeat (first | apply Kd.R_alloc | apply Kd.R_drewN | apply Kd.R_drew)); exact HO167.out) (Kd.R_base ho0) hb); have n1_ := Aside0.mk (Kd.S_elder' (by (with_reducible repeat (first | apply Kd.S_alloc | apply Kd.S_drewN | apply Kd.S_drew)); exact HO170.out) (Kd.R_base ho0) hb); have n2_ := Aside0.mk (Kd.R_elder' (by (with_reducible repeat (first | apply Kd.R_alloc | apply Kd.R_drewN | apply Kd.R_drew)); exact HO174.out) (Kd.R_base ho0) hb); have n3_ := Aside0.mk (Kd.R_lower (Kd.R_new' (Kd.R_new' ho0 (Kd.R_lt (by (with_reducible repeat (first | apply Kd.R_alloc | apply Kd.R_drewN | apply Kd.R_drew)); exact HO167.out))) (Kd.R_lt (by (with_reducible repeat (first | apply Kd.R_alloc | apply Kd.R_drewN | apply Kd.R_drew)); exact HO174.out))) (below_size (by repeat (first | (with_reducible first | exact HB.out | apply below_alloc | apply pw_below_drewN | apply below_drew1) | exact HB.out)))); have n4_ := Aside0.mk (below_step (by repeat (first | (with_reducible first | exact HB.out | apply below_alloc | apply pw_below_drewN | apply below_drew1) | exact HB.out)) hb); clear HO167; clear HO170; clear HO174; clear HB; have HO167 := n0_; have HO170 := n1_; have HO174 := n2_; have HO177 := n3_; have HB := n4_; clear n0_ n1_ n2_ n3_ n4_; (try clear hb); (try clear hb2); (try clear hk); (try clear hi); (try clear ho0)) | ((with_reducible refine gate_callee (f := 16) rfl ?_); refine goesL_ (some 36) rfl rfl Try.func16 (by kernel_rfl) rfl #[.slice A1 l1.length c1] rfl (by (try simp only [List.map_toArray, List.map_cons, List.map_nil]); first | done | rfl | (simp only [List.length_drop, List.length_take]; first | done | rfl)) ?_; (with_reducible refine (laws_toDiskWriteS.calls k _ _ l1 t178 _ ?side1 ?side2 A11.out).mono ?_); (case side1 => repeat (first | exact (Kd.C_below HR1.out HB.out) | (with_reducible refine Kd.C_alloc ?_ _) | (with_reducible refine Kd.C_drewN ?_ _) | (with_reducible refine Kd.C_drew ?_))); (case side2 => exact HC1.out); rintro e w21 ⟨v179, rfl, ho0, hb⟩; refine ⟨_, rfl, ?_⟩; have n0_ := Aside0.mk (Kd.R_below (by (with_reducible repeat (first | apply Kd.R_alloc | apply Kd.R_drewN | apply Kd.R_drew)); exact HO167.out) hb); have n1_ := Aside0.mk (Kd.S_elder' (by (with_reducible repeat (first | apply Kd.S_alloc | apply Kd.S_drewN | apply Kd.S_drew)); exact HO170.out) (Kd.S_base ho0) hb); have n2_ := Aside0.mk (Kd.R_below (by (with_reducible repeat (first | apply Kd.R_alloc | apply Kd.R_drewN | apply Kd.R_drew)); exact HO174.out) hb); have n3_ := Aside0.mk (Kd.R_below (by (with_reducible repeat (first | apply Kd.R_alloc | apply Kd.R_drewN | apply Kd.R_drew)); exact HO177.out) hb); have n4_ := Aside0.mk (Kd.S_lower (Kd.S_new' (Kd.S_new' (Kd.S_new' (Kd.S_new' ho0 (Kd.R_lt (by (with_reducible repeat (first | apply Kd.R_alloc | apply Kd.R_drewN | apply Kd.R_drew)); exact HO167.out))) (Kd.S_lt (by (with_reducible repeat (first | apply Kd.S_alloc | apply Kd.S_drewN | apply Kd.S_drew)); exact HO170.out))) (Kd.R_lt (by (with_reducible repeat (first | apply Kd.R_alloc | apply Kd.R_drewN | apply Kd.R_drew)); exact HO174.out))) (Kd.R_lt (by (with_reducible repeat (first | apply Kd.R_alloc | apply Kd.R_drewN | apply Kd.R_drew)); exact HO177.out))) (below_size (by repeat (first | (with_reducible first | exact HB.out | apply below_alloc | apply pw_below_drewN | apply below_drew1) | exact HB.out)))); have n5_ := Aside0.mk (below_step (by repeat (first | (with_reducible first | exact HB.out | apply below_alloc | apply pw_below_drewN | apply below_drew1) | exact HB.out)) hb); clear HO167; clear HO170; clear HO174; clear HO177; clear HB; have HO167 := n0_; have HO170 := n1_; have HO174 := n2_; have HO177 := n3_; have HO180 := n4_; have HB := n5_; clear n0_ n1_ n2_ n3_ n4_ n5_; (try clear hb); (try clear hb2); (try clear hk); (try clear hi); (try clear ho0); obtain ⟨Ao22, co22, eo22⟩ := Kd.R_slice HO177.out; subst eo22; obtain ⟨Ao23, co23, eo23⟩ := Kd.S_slice HO180.out; subst eo23) | ((with_reducible refine gate_callee (f := 17) rfl ?_); refine goesL_ (some 40) rfl rfl Try.func17 (by kernel_rfl) rfl #[.slice Ao22 t175.length co22, .slice Ao23 t178.length co23] rfl (by (try simp only [List.map_toArray, List.map_cons, List.map_nil]); first | done | rfl | (simp only [List.length_drop, List.length_take]; first | done | rfl)) ?_; (with_reducible refine (impl_DiskAfter.calls k _ _ t175 _ _ t178 t181 t182 _ ?side1 ?side2 ?side3 ?side4 A12.out).mono ?_); (case side1 => repeat (first | exact (Kd.R_reads' HO177.out).2.2 | (with_reducible refine Kd.C_alloc ?_ _) | (with_reducible refine Kd.C_drewN ?_ _) | (with_reducible refine Kd.C_drew ?_))); (case side2 => exact (Kd.R_reads' HO177.out).2.1); (case side3 => repeat (first | exact (Kd.S_reads' HO180.out).2.2 | (with_reducible refine Kd.C_alloc ?_ _) | (with_reducible refine Kd.C_drewN ?_ _) | (with_reducible refine Kd.C_drew ?_))); (case side4 => exact (Kd.S_reads' HO180.out).2.1); rintro e w24 ⟨v183, rfl, ho0, hb⟩; refine ⟨_, rfl, ?_⟩; have n0_ := Aside0.mk (Kd.R_elder' (by (with_reducible repeat (first | apply Kd.R_alloc | apply Kd.R_drewN | apply Kd.R_drew)); exact HO167.out) (Kd.R_base ho0) hb); have n1_ := Aside0.mk (Kd.S_elder' (by (with_reducible repeat (first | apply Kd.S_alloc | apply Kd.S_drewN | apply Kd.S_drew)); exact HO170.out) (Kd.R_base ho0) hb); have n2_ := Aside0.mk (Kd.R_elder' (by (with_reducible repeat (first | apply Kd.R_alloc | apply Kd.R_drewN | apply Kd.R_drew)); exact HO174.out) (Kd.R_base ho0) hb); have n3_ := Aside0.mk (Kd.R_elder' (by (with_reducible repeat (first | apply Kd.R_alloc | apply Kd.R_drewN | apply Kd.R_drew)); exact HO177.out) (Kd.R_base ho0) hb); have n4_ := Aside0.mk (Kd.S_elder' (by (with_reducible repeat (first | apply Kd.S_alloc | apply Kd.S_drewN | apply Kd.S_drew)); exact HO180.out) (Kd.R_base ho0) hb); have n5_ := Aside0.mk (Kd.R_lower (Kd.R_new' (Kd.R_new' (Kd.R_new' ho0 (Kd.R_lt (by (with_reducible repeat (first | apply Kd.R_alloc | apply Kd.R_drewN | apply Kd.R_drew)); exact HO167.out))) (Kd.R_lt (by (with_reducible repeat (first | apply Kd.R_alloc | apply Kd.R_drewN | apply Kd.R_drew)); exact HO174.out))) (Kd.R_lt (by (with_reducible repeat (first | apply Kd.R_alloc | apply Kd.R_drewN | apply Kd.R_drew)); exact HO177.out))) (below_size (by repeat (first | (with_reducible first | exact HB.out | apply below_alloc | apply pw_below_drewN | apply below_drew1) | exact HB.out)))); have n6_ := Aside0.mk (below_step (by repeat (first | (with_reducible first | exact HB.out | apply below_alloc | apply pw_below_drewN | apply below_drew1) | exact HB.out)) hb); clear HO167; clear HO170; clear HO174; clear HO177; clear HO180; clear HB; have HO167 := n0_; have HO170 := n1_; have HO174 := n2_; have HO177 := n3_; have HO180 := n4_; have HO184 := n5_; have HB := n6_; clear n0_ n1_ n2_ n3_ n4_ n5_ n6_; (try clear hb); (try clear hb2); (try clear hk); (try clear hi); (try clear ho0)))
      (try simp only [Act.put, List.setIfInBounds_toArray, List.set_cons_zero, List.set_cons_succ])
      go_cut [51] (fun v51 wc => ∃ (kq : Nat) (x51_12 : Bool), v51 = .bool x51_12 ∧ Aside0 (laws_FnExactDiskAfter.j0 kq l0 l1 t171 t172 t175 t178 t181 t182 x51_12 = some r) ∧ Aside0 (kq ≤ k) ∧ Aside0 (Kd.R (Kd.int .u8) 5 wc w.heap.size (fun k_ => some k_ ≠ ((.slice Ao22 t175.length co22) : Value).ownBlock ∧ some k_ ≠ (v183 : Value).ownBlock) v173 t171) ∧ Aside0 (Kd.R (Kd.int .u8) 5 wc w.heap.size (fun k_ => some k_ ≠ (v173 : Value).ownBlock ∧ some k_ ≠ (v183 : Value).ownBlock) (.slice Ao22 t175.length co22) t175) ∧ Aside0 (Kd.S k70 70 wc w.heap.size (fun k_ => some k_ ≠ (v173 : Value).ownBlock ∧ some k_ ≠ ((.slice Ao22 t175.length co22) : Value).ownBlock ∧ some k_ ≠ (v183 : Value).ownBlock) (.slice Ao23 t178.length co23) t178) ∧ Aside0 (Kd.R (Kd.int .u8) 5 wc w.heap.size (fun k_ => some k_ ≠ (v173 : Value).ownBlock ∧ some k_ ≠ ((.slice Ao22 t175.length co22) : Value).ownBlock) v183 t181) ∧ Aside0 (Below w.heap.size w wc))
      case first =>
        have H := HC13.out
        clear HC13
        replace H := Option.bind_eq_some_iff.mp H
        obtain ⟨t185, A250, H⟩ := H
        replace H : (if t185 = true then (laws_FnExactDiskAfter.j0 k l0 l1 t171 t172 t175 t178 t181 t182 (t182 != t172)) else (laws_FnExactDiskAfter.j0 k l0 l1 t171 t172 t175 t178 t181 t182 true)) = some r := H
        have A25 := Aside0.mk A250
        clear A250
        by_cases c26 : t185 = true
        · subst c26
          have H1 : (laws_FnExactDiskAfter.j0 k l0 l1 t171 t172 t175 t178 t181 t182 (t182 != t172)) = some r := by rw [if_pos rfl] at H; exact H
          clear H
          have H := H1
          clear H1
          have H' := Aside0.mk H
          clear H
          obtain ⟨Ao27, co27, eo27⟩ := Kd.R_slice HO184.out
          subst eo27
          obtain ⟨Ao28, co28, eo28⟩ := Kd.R_slice HO174.out
          subst eo28
          go_wp2_with (first | ((with_reducible refine gate_callee (f := 18) rfl ?_); refine goesL_ (some 45) rfl rfl Try.func18 (by kernel_rfl) rfl #[.slice Ao27 t181.length co27, .slice Ao28 t171.length co28] rfl (by (try simp only [List.map_toArray, List.map_cons, List.map_nil]); first | done | rfl | (simp only [List.length_drop, List.length_take]; first | done | rfl)) ?_; (with_reducible refine (laws_eqByteS.calls k _ _ t181 _ _ t171 true _ ?side1 ?side2 ?side3 ?side4 A25.out).mono ?_); (case side1 => repeat (first | exact (Kd.R_reads' HO184.out).2.2 | (with_reducible refine Kd.C_alloc ?_ _) | (with_reducible refine Kd.C_drewN ?_ _) | (with_reducible refine Kd.C_drew ?_))); (case side2 => exact (Kd.R_reads' HO184.out).2.1); (case side3 => repeat (first | exact (Kd.R_reads' HO174.out).2.2 | (with_reducible refine Kd.C_alloc ?_ _) | (with_reducible refine Kd.C_drewN ?_ _) | (with_reducible refine Kd.C_drew ?_))); (case side4 => exact (Kd.R_reads' HO174.out).2.1); rintro e w' ⟨rfl, ⟨nd, rfl⟩⟩; refine ⟨_, rfl, ?_⟩))
          go_meet
          case rel => exact ⟨_, ((t182 != t172)), (by first | rfl | exact congrArg (Value.int .i64) (i64_w _) | (simp; done) | (simp [*]; done)), H', ⟨by first | omega | exact Nat.le_refl _⟩, ⟨by (with_reducible repeat (first | apply Kd.R_alloc | apply Kd.R_drewN | apply Kd.R_drew)); exact Kd.R_mono HO174.out (fun _ hk => ⟨hk.1.2, hk.2⟩)⟩, ⟨by (with_reducible repeat (first | apply Kd.R_alloc | apply Kd.R_drewN | apply Kd.R_drew)); exact Kd.R_mono HO177.out (fun _ hk => ⟨hk.1.2, hk.2⟩)⟩, ⟨by (with_reducible repeat (first | apply Kd.S_alloc | apply Kd.S_drewN | apply Kd.S_drew)); exact Kd.S_mono HO180.out (fun _ hk => ⟨hk.1.1.2, ⟨hk.1.2, hk.2⟩⟩)⟩, ⟨by (with_reducible repeat (first | apply Kd.R_alloc | apply Kd.R_drewN | apply Kd.R_drew)); exact Kd.R_mono HO184.out (fun _ hk => ⟨hk.1.2, hk.2⟩)⟩, ⟨by repeat (first | (with_reducible first | exact HB.out | apply below_alloc | apply pw_below_drewN | apply below_drew1) | exact HB.out)⟩⟩
        · replace c26 := Bool.eq_false_iff.mpr c26
          subst c26
          have H1 : (laws_FnExactDiskAfter.j0 k l0 l1 t171 t172 t175 t178 t181 t182 true) = some r := by rw [if_neg (show ¬ (false = true) by decide)] at H; exact H
          clear H
          have H := H1
          clear H1
          have H' := Aside0.mk H
          clear H
          obtain ⟨Ao29, co29, eo29⟩ := Kd.R_slice HO184.out
          subst eo29
          obtain ⟨Ao30, co30, eo30⟩ := Kd.R_slice HO174.out
          subst eo30
          go_wp2_with (first | ((with_reducible refine gate_callee (f := 18) rfl ?_); refine goesL_ (some 45) rfl rfl Try.func18 (by kernel_rfl) rfl #[.slice Ao29 t181.length co29, .slice Ao30 t171.length co30] rfl (by (try simp only [List.map_toArray, List.map_cons, List.map_nil]); first | done | rfl | (simp only [List.length_drop, List.length_take]; first | done | rfl)) ?_; (with_reducible refine (laws_eqByteS.calls k _ _ t181 _ _ t171 false _ ?side1 ?side2 ?side3 ?side4 A25.out).mono ?_); (case side1 => repeat (first | exact (Kd.R_reads' HO184.out).2.2 | (with_reducible refine Kd.C_alloc ?_ _) | (with_reducible refine Kd.C_drewN ?_ _) | (with_reducible refine Kd.C_drew ?_))); (case side2 => exact (Kd.R_reads' HO184.out).2.1); (case side3 => repeat (first | exact (Kd.R_reads' HO174.out).2.2 | (with_reducible refine Kd.C_alloc ?_ _) | (with_reducible refine Kd.C_drewN ?_ _) | (with_reducible refine Kd.C_drew ?_))); (case side4 => exact (Kd.R_reads' HO174.out).2.1); rintro e w' ⟨rfl, ⟨nd, rfl⟩⟩; refine ⟨_, rfl, ?_⟩))
          go_meet
          case rel => exact ⟨_, (true), (by first | rfl | exact congrArg (Value.int .i64) (i64_w _) | (simp; done) | (simp [*]; done)), H', ⟨by first | omega | exact Nat.le_refl _⟩, ⟨by (with_reducible repeat (first | apply Kd.R_alloc | apply Kd.R_drewN | apply Kd.R_drew)); exact Kd.R_mono HO174.out (fun _ hk => ⟨hk.1.2, hk.2⟩)⟩, ⟨by (with_reducible repeat (first | apply Kd.R_alloc | apply Kd.R_drewN | apply Kd.R_drew)); exact Kd.R_mono HO177.out (fun _ hk => ⟨hk.1.2, hk.2⟩)⟩, ⟨by (with_reducible repeat (first | apply Kd.S_alloc | apply Kd.S_drewN | apply Kd.S_drew)); exact Kd.S_mono HO180.out (fun _ hk => ⟨hk.1.1.2, ⟨hk.1.2, hk.2⟩⟩)⟩, ⟨by (with_reducible repeat (first | apply Kd.R_alloc | apply Kd.R_drewN | apply Kd.R_drew)); exact Kd.R_mono HO184.out (fun _ hk => ⟨hk.1.2, hk.2⟩)⟩, ⟨by repeat (first | (with_reducible first | exact HB.out | apply below_alloc | apply pw_below_drewN | apply below_drew1) | exact HB.out)⟩⟩
      case rest =>
        clear HC13
        try clear c1
        try clear c2
        try clear p2
        try clear c3
        try clear c3b0
        try clear c3b1
        try clear c5
        try clear c5b0
        try clear c13
        try clear c14
        try clear c15
        try clear c16
        try clear c17
        try clear c18
        try clear c26
        obtain ⟨kq, x51_12, rfl, HA, HJ12, HO_6, HO_8, HO_9, HO_10, HB⟩ := hcut
        cases kq with
        | zero => exact absurd HA.out (by simp [laws_FnExactDiskAfter.j0])
        | succ kj12 =>
          have H := HA.out
          clear HA
          simp only [laws_FnExactDiskAfter.j0] at H
          by_cases c31 : x51_12 = true
          · subst c31
            have H1 : (none) = some r := by rw [if_pos rfl] at H; exact H
            clear H
            have H := H1
            clear H1
            exact absurd H (by simp)
          · replace c31 := Bool.eq_false_iff.mpr c31
            subst c31
            have H1 : ((laws_toByteS.f kj12 l0).bind fun t186 => ((laws_eqByteS.f kj12 t175 t186).bind fun t189 => (if t189 = true then ((laws_toDiskWriteS.f kj12 l1).bind fun t190 => ((laws_eqDiskWriteS.f kj12 t178 t190).bind fun t193 => (if t193 = true then ((laws_markByteS.f kj12 t175 1).bind fun bt194 => ((laws_markDiskWriteS.f kj12 t178 bt194.1).bind fun bt196 => (if bt196.1 < 0 then (laws_FnExactDiskAfter.j1 kj12 l0 l1 t171 t172 t181 true) else ((laws_eqByteS.f kj12 t181 t171).bind fun t198 => (if t198 = true then (laws_FnExactDiskAfter.j1 kj12 l0 l1 t171 t172 t181 (t182 != t172)) else (laws_FnExactDiskAfter.j1 kj12 l0 l1 t171 t172 t181 true)))))) else (none)))) else (none)))) = some r := by rw [if_neg (show ¬ (false = true) by decide)] at H; exact H
            clear H
            have H := H1
            clear H1
            replace H := Option.bind_eq_some_iff.mp H
            obtain ⟨t186, A320, H⟩ := H
            replace H : ((laws_eqByteS.f kj12 t175 t186).bind fun t189 => (if t189 = true then ((laws_toDiskWriteS.f kj12 l1).bind fun t190 => ((laws_eqDiskWriteS.f kj12 t178 t190).bind fun t193 => (if t193 = true then ((laws_markByteS.f kj12 t175 1).bind fun bt194 => ((laws_markDiskWriteS.f kj12 t178 bt194.1).bind fun bt196 => (if bt196.1 < 0 then (laws_FnExactDiskAfter.j1 kj12 l0 l1 t171 t172 t181 true) else ((laws_eqByteS.f kj12 t181 t171).bind fun t198 => (if t198 = true then (laws_FnExactDiskAfter.j1 kj12 l0 l1 t171 t172 t181 (t182 != t172)) else (laws_FnExactDiskAfter.j1 kj12 l0 l1 t171 t172 t181 true)))))) else (none)))) else (none))) = some r := H
            have A32 := Aside0.mk A320
            clear A320
            replace H := Option.bind_eq_some_iff.mp H
            obtain ⟨t189, A330, H⟩ := H
            replace H : (if t189 = true then ((laws_toDiskWriteS.f kj12 l1).bind fun t190 => ((laws_eqDiskWriteS.f kj12 t178 t190).bind fun t193 => (if t193 = true then ((laws_markByteS.f kj12 t175 1).bind fun bt194 => ((laws_markDiskWriteS.f kj12 t178 bt194.1).bind fun bt196 => (if bt196.1 < 0 then (laws_FnExactDiskAfter.j1 kj12 l0 l1 t171 t172 t181 true) else ((laws_eqByteS.f kj12 t181 t171).bind fun t198 => (if t198 = true then (laws_FnExactDiskAfter.j1 kj12 l0 l1 t171 t172 t181 (t182 != t172)) else (laws_FnExactDiskAfter.j1 kj12 l0 l1 t171 t172 t181 true)))))) else (none)))) else (none)) = some r := H
            have A33 := Aside0.mk A330
            clear A330
            by_cases c34 : t189 = true
            · subst c34
              have H1 : ((laws_toDiskWriteS.f kj12 l1).bind fun t190 => ((laws_eqDiskWriteS.f kj12 t178 t190).bind fun t193 => (if t193 = true then ((laws_markByteS.f kj12 t175 1).bind fun bt194 => ((laws_markDiskWriteS.f kj12 t178 bt194.1).bind fun bt196 => (if bt196.1 < 0 then (laws_FnExactDiskAfter.j1 kj12 l0 l1 t171 t172 t181 true) else ((laws_eqByteS.f kj12 t181 t171).bind fun t198 => (if t198 = true then (laws_FnExactDiskAfter.j1 kj12 l0 l1 t171 t172 t181 (t182 != t172)) else (laws_FnExactDiskAfter.j1 kj12 l0 l1 t171 t172 t181 true)))))) else (none)))) = some r := by rw [if_pos rfl] at H; exact H
              clear H
              have H := H1
              clear H1
              replace H := Option.bind_eq_some_iff.mp H
              obtain ⟨t190, A350, H⟩ := H
              replace H : ((laws_eqDiskWriteS.f kj12 t178 t190).bind fun t193 => (if t193 = true then ((laws_markByteS.f kj12 t175 1).bind fun bt194 => ((laws_markDiskWriteS.f kj12 t178 bt194.1).bind fun bt196 => (if bt196.1 < 0 then (laws_FnExactDiskAfter.j1 kj12 l0 l1 t171 t172 t181 true) else ((laws_eqByteS.f kj12 t181 t171).bind fun t198 => (if t198 = true then (laws_FnExactDiskAfter.j1 kj12 l0 l1 t171 t172 t181 (t182 != t172)) else (laws_FnExactDiskAfter.j1 kj12 l0 l1 t171 t172 t181 true)))))) else (none))) = some r := H
              have A35 := Aside0.mk A350
              clear A350
              replace H := Option.bind_eq_some_iff.mp H
              obtain ⟨t193, A360, H⟩ := H
              replace H : (if t193 = true then ((laws_markByteS.f kj12 t175 1).bind fun bt194 => ((laws_markDiskWriteS.f kj12 t178 bt194.1).bind fun bt196 => (if bt196.1 < 0 then (laws_FnExactDiskAfter.j1 kj12 l0 l1 t171 t172 t181 true) else ((laws_eqByteS.f kj12 t181 t171).bind fun t198 => (if t198 = true then (laws_FnExactDiskAfter.j1 kj12 l0 l1 t171 t172 t181 (t182 != t172)) else (laws_FnExactDiskAfter.j1 kj12 l0 l1 t171 t172 t181 true)))))) else (none)) = some r := H
              have A36 := Aside0.mk A360
              clear A360
              by_cases c37 : t193 = true
              · subst c37
                have H1 : ((laws_markByteS.f kj12 t175 1).bind fun bt194 => ((laws_markDiskWriteS.f kj12 t178 bt194.1).bind fun bt196 => (if bt196.1 < 0 then (laws_FnExactDiskAfter.j1 kj12 l0 l1 t171 t172 t181 true) else ((laws_eqByteS.f kj12 t181 t171).bind fun t198 => (if t198 = true then (laws_FnExactDiskAfter.j1 kj12 l0 l1 t171 t172 t181 (t182 != t172)) else (laws_FnExactDiskAfter.j1 kj12 l0 l1 t171 t172 t181 true)))))) = some r := by rw [if_pos rfl] at H; exact H
                clear H
                have H := H1
                clear H1
                replace H := Option.bind_eq_some_iff.mp H
                obtain ⟨⟨t194, t195⟩, A380, H⟩ := H
                replace H : ((laws_markDiskWriteS.f kj12 t178 t194).bind fun bt196 => (if bt196.1 < 0 then (laws_FnExactDiskAfter.j1 kj12 l0 l1 t171 t172 t181 true) else ((laws_eqByteS.f kj12 t181 t171).bind fun t198 => (if t198 = true then (laws_FnExactDiskAfter.j1 kj12 l0 l1 t171 t172 t181 (t182 != t172)) else (laws_FnExactDiskAfter.j1 kj12 l0 l1 t171 t172 t181 true))))) = some r := H
                have A38 := Aside0.mk A380
                clear A380
                replace H := Option.bind_eq_some_iff.mp H
                obtain ⟨⟨t196, t197⟩, A390, H⟩ := H
                replace H : (if t196 < 0 then (laws_FnExactDiskAfter.j1 kj12 l0 l1 t171 t172 t181 true) else ((laws_eqByteS.f kj12 t181 t171).bind fun t198 => (if t198 = true then (laws_FnExactDiskAfter.j1 kj12 l0 l1 t171 t172 t181 (t182 != t172)) else (laws_FnExactDiskAfter.j1 kj12 l0 l1 t171 t172 t181 true)))) = some r := H
                have A39 := Aside0.mk A390
                clear A390
                have HC40 := Aside0.mk H
                clear H
                go_upto_region 20 with (first | ((with_reducible refine gate_callee (f := 15) rfl ?_); refine goesL_ (some 54) rfl rfl Try.func15 (by kernel_rfl) rfl #[.slice A0 l0.length c0] rfl (by (try simp only [List.map_toArray, List.map_cons, List.map_nil]); first | done | rfl | (simp only [List.length_drop, List.length_take]; first | done | rfl)) ?_; (with_reducible refine (laws_toByteS.calls kj12 _ _ l0 t186 _ ?side1 ?side2 A32.out).mono ?_); (case side1 => repeat (first | exact (Kd.C_below HR0.out HB.out) | (with_reducible refine Kd.C_alloc ?_ _) | (with_reducible refine Kd.C_drewN ?_ _) | (with_reducible refine Kd.C_drew ?_))); (case side2 => exact HC0.out); rintro e w41 ⟨v187, rfl, ho0, hb⟩; refine ⟨_, rfl, ?_⟩; have n0_ := Aside0.mk (Kd.R_elder' (by (with_reducible repeat (first | apply Kd.R_alloc | apply Kd.R_drewN | apply Kd.R_drew)); exact HO_6.out) (Kd.R_base ho0) hb); have n1_ := Aside0.mk (Kd.R_elder' (by (with_reducible repeat (first | apply Kd.R_alloc | apply Kd.R_drewN | apply Kd.R_drew)); exact HO_8.out) (Kd.R_base ho0) hb); have n2_ := Aside0.mk (Kd.S_elder' (by (with_reducible repeat (first | apply Kd.S_alloc | apply Kd.S_drewN | apply Kd.S_drew)); exact HO_9.out) (Kd.R_base ho0) hb); have n3_ := Aside0.mk (Kd.R_elder' (by (with_reducible repeat (first | apply Kd.R_alloc | apply Kd.R_drewN | apply Kd.R_drew)); exact HO_10.out) (Kd.R_base ho0) hb); have n4_ := Aside0.mk (Kd.R_lower (Kd.R_new' (Kd.R_new' (Kd.R_new' ho0 (Kd.R_lt (by (with_reducible repeat (first | apply Kd.R_alloc | apply Kd.R_drewN | apply Kd.R_drew)); exact HO_6.out))) (Kd.R_lt (by (with_reducible repeat (first | apply Kd.R_alloc | apply Kd.R_drewN | apply Kd.R_drew)); exact HO_8.out))) (Kd.R_lt (by (with_reducible repeat (first | apply Kd.R_alloc | apply Kd.R_drewN | apply Kd.R_drew)); exact HO_10.out))) (below_size (by repeat (first | (with_reducible first | exact HB.out | apply below_alloc | apply pw_below_drewN | apply below_drew1) | exact HB.out)))); have n5_ := Aside0.mk (below_step (by repeat (first | (with_reducible first | exact HB.out | apply below_alloc | apply pw_below_drewN | apply below_drew1) | exact HB.out)) hb); clear HO_6; clear HO_8; clear HO_9; clear HO_10; clear HB; have HO_6 := n0_; have HO_8 := n1_; have HO_9 := n2_; have HO_10 := n3_; have HO188 := n4_; have HB := n5_; clear n0_ n1_ n2_ n3_ n4_ n5_; (try clear hb); (try clear hb2); (try clear hk); (try clear hi); (try clear ho0); obtain ⟨Ao42, co42, eo42⟩ := Kd.R_slice HO188.out; subst eo42) | ((with_reducible refine gate_callee (f := 18) rfl ?_); refine goesL_ (some 55) rfl rfl Try.func18 (by kernel_rfl) rfl #[.slice Ao22 t175.length co22, .slice Ao42 t186.length co42] rfl (by (try simp only [List.map_toArray, List.map_cons, List.map_nil]); first | done | rfl | (simp only [List.length_drop, List.length_take]; first | done | rfl)) ?_; (with_reducible refine (laws_eqByteS.calls kj12 _ _ t175 _ _ t186 true _ ?side1 ?side2 ?side3 ?side4 A33.out).mono ?_); (case side1 => repeat (first | exact (Kd.R_reads' HO_8.out).2.2 | (with_reducible refine Kd.C_alloc ?_ _) | (with_reducible refine Kd.C_drewN ?_ _) | (with_reducible refine Kd.C_drew ?_))); (case side2 => exact (Kd.R_reads' HO_8.out).2.1); (case side3 => repeat (first | exact (Kd.R_reads' HO188.out).2.2 | (with_reducible refine Kd.C_alloc ?_ _) | (with_reducible refine Kd.C_drewN ?_ _) | (with_reducible refine Kd.C_drew ?_))); (case side4 => exact (Kd.R_reads' HO188.out).2.1); rintro e w' ⟨rfl, ⟨nd, rfl⟩⟩; refine ⟨_, rfl, ?_⟩) | ((with_reducible refine gate_callee (f := 16) rfl ?_); refine goesL_ (some 59) rfl rfl Try.func16 (by kernel_rfl) rfl #[.slice A1 l1.length c1] rfl (by (try simp only [List.map_toArray, List.map_cons, List.map_nil]); first | done | rfl | (simp only [List.length_drop, List.length_take]; first | done | rfl)) ?_; (with_reducible refine (laws_toDiskWriteS.calls kj12 _ _ l1 t190 _ ?side1 ?side2 A35.out).mono ?_); (case side1 => repeat (first | exact (Kd.C_below HR1.out (by repeat (first | (with_reducible first | exact HB.out | apply below_alloc | apply pw_below_drewN | apply below_drew1) | exact HB.out))) | (with_reducible refine Kd.C_alloc ?_ _) | (with_reducible refine Kd.C_drewN ?_ _) | (with_reducible refine Kd.C_drew ?_))); (case side2 => exact HC1.out); rintro e w43 ⟨v191, rfl, ho0, hb⟩; refine ⟨_, rfl, ?_⟩; have n0_ := Aside0.mk (Kd.R_below (by (with_reducible repeat (first | apply Kd.R_alloc | apply Kd.R_drewN | apply Kd.R_drew)); exact HO_6.out) hb); have n1_ := Aside0.mk (Kd.R_below (by (with_reducible repeat (first | apply Kd.R_alloc | apply Kd.R_drewN | apply Kd.R_drew)); exact HO_8.out) hb); have n2_ := Aside0.mk (Kd.S_elder' (by (with_reducible repeat (first | apply Kd.S_alloc | apply Kd.S_drewN | apply Kd.S_drew)); exact HO_9.out) (Kd.S_base ho0) hb); have n3_ := Aside0.mk (Kd.R_below (by (with_reducible repeat (first | apply Kd.R_alloc | apply Kd.R_drewN | apply Kd.R_drew)); exact HO_10.out) hb); have n4_ := Aside0.mk (Kd.R_below (by (with_reducible repeat (first | apply Kd.R_alloc | apply Kd.R_drewN | apply Kd.R_drew)); exact HO188.out) hb); have n5_ := Aside0.mk (Kd.S_lower (Kd.S_new' (Kd.S_new' (Kd.S_new' (Kd.S_new' (Kd.S_new' ho0 (Kd.R_lt (by (with_reducible repeat (first | apply Kd.R_alloc | apply Kd.R_drewN | apply Kd.R_drew)); exact HO_6.out))) (Kd.R_lt (by (with_reducible repeat (first | apply Kd.R_alloc | apply Kd.R_drewN | apply Kd.R_drew)); exact HO_8.out))) (Kd.S_lt (by (with_reducible repeat (first | apply Kd.S_alloc | apply Kd.S_drewN | apply Kd.S_drew)); exact HO_9.out))) (Kd.R_lt (by (with_reducible repeat (first | apply Kd.R_alloc | apply Kd.R_drewN | apply Kd.R_drew)); exact HO_10.out))) (Kd.R_lt (by (with_reducible repeat (first | apply Kd.R_alloc | apply Kd.R_drewN | apply Kd.R_drew)); exact HO188.out))) (below_size (by repeat (first | (with_reducible first | exact HB.out | apply below_alloc | apply pw_below_drewN | apply below_drew1) | exact HB.out)))); have n6_ := Aside0.mk (below_step (by repeat (first | (with_reducible first | exact HB.out | apply below_alloc | apply pw_below_drewN | apply below_drew1) | exact HB.out)) hb); clear HO_6; clear HO_8; clear HO_9; clear HO_10; clear HO188; clear HB; have HO_6 := n0_; have HO_8 := n1_; have HO_9 := n2_; have HO_10 := n3_; have HO188 := n4_; have HO192 := n5_; have HB := n6_; clear n0_ n1_ n2_ n3_ n4_ n5_ n6_; (try clear hb); (try clear hb2); (try clear hk); (try clear hi); (try clear ho0); obtain ⟨Ao44, co44, eo44⟩ := Kd.S_slice HO192.out; subst eo44) | ((with_reducible refine gate_callee (f := 19) rfl ?_); refine goesL_ (some 60) rfl rfl Try.func19 (by kernel_rfl) rfl #[.slice Ao23 t178.length co23, .slice Ao44 t190.length co44] rfl (by (try simp only [List.map_toArray, List.map_cons, List.map_nil]); first | done | rfl | (simp only [List.length_drop, List.length_take]; first | done | rfl)) ?_; (with_reducible refine (laws_eqDiskWriteS.calls kj12 _ _ t178 _ _ t190 true _ ?side1 ?side2 ?side3 ?side4 A36.out).mono ?_); (case side1 => repeat (first | exact (Kd.S_reads' HO_9.out).2.2 | (with_reducible refine Kd.C_alloc ?_ _) | (with_reducible refine Kd.C_drewN ?_ _) | (with_reducible refine Kd.C_drew ?_))); (case side2 => exact (Kd.S_reads' HO_9.out).2.1); (case side3 => repeat (first | exact (Kd.S_reads' HO192.out).2.2 | (with_reducible refine Kd.C_alloc ?_ _) | (with_reducible refine Kd.C_drewN ?_ _) | (with_reducible refine Kd.C_drew ?_))); (case side4 => exact (Kd.S_reads' HO192.out).2.1); rintro e w45 ⟨rfl, hb⟩; refine ⟨_, rfl, ?_⟩; have n0_ := Aside0.mk (Kd.R_below (by (with_reducible repeat (first | apply Kd.R_alloc | apply Kd.R_drewN | apply Kd.R_drew)); exact HO_6.out) hb); have n1_ := Aside0.mk (Kd.R_below (by (with_reducible repeat (first | apply Kd.R_alloc | apply Kd.R_drewN | apply Kd.R_drew)); exact HO_8.out) hb); have n2_ := Aside0.mk (Kd.S_below (by (with_reducible repeat (first | apply Kd.S_alloc | apply Kd.S_drewN | apply Kd.S_drew)); exact HO_9.out) hb); have n3_ := Aside0.mk (Kd.R_below (by (with_reducible repeat (first | apply Kd.R_alloc | apply Kd.R_drewN | apply Kd.R_drew)); exact HO_10.out) hb); have n4_ := Aside0.mk (Kd.R_below (by (with_reducible repeat (first | apply Kd.R_alloc | apply Kd.R_drewN | apply Kd.R_drew)); exact HO188.out) hb); have n5_ := Aside0.mk (Kd.S_below (by (with_reducible repeat (first | apply Kd.S_alloc | apply Kd.S_drewN | apply Kd.S_drew)); exact HO192.out) hb); have n6_ := Aside0.mk (below_step (by repeat (first | (with_reducible first | exact HB.out | apply below_alloc | apply pw_below_drewN | apply below_drew1) | exact HB.out)) hb); clear HO_6; clear HO_8; clear HO_9; clear HO_10; clear HO188; clear HO192; clear HB; have HO_6 := n0_; have HO_8 := n1_; have HO_9 := n2_; have HO_10 := n3_; have HO188 := n4_; have HO192 := n5_; have HB := n6_; clear n0_ n1_ n2_ n3_ n4_ n5_ n6_; (try clear hb); (try clear hb2); (try clear hk); (try clear hi)) | ((with_reducible refine gate_callee (f := 20) rfl ?_); refine goesL_ (some 64) rfl rfl Try.func20 (by kernel_rfl) rfl #[.slice Ao22 t175.length co22, .int .i64 1] rfl (by (try simp only [List.map_toArray, List.map_cons, List.map_nil]); first | done | rfl | (simp only [List.length_drop, List.length_take]; first | done | rfl)) ?_; (with_reducible refine (laws_markByteS.calls kj12 (fun k_ => some k_ = (.slice Ao22 t175.length co22 : Value).ownBlock) (.slice Ao22 t175.length co22) t175 1 t194 t195 w _ ?side1 ?side2 A38.out).mono ?_); (case side1 => repeat (first | (with_reducible first | exact HB.out | apply below_alloc | apply pw_below_drewN | apply below_drew1) | exact HB.out)); (case side2 => exact Kd.R_tight rfl HO_8.out); rintro e w46 ⟨rfl, hy0, hb, hkp⟩; refine ⟨_, rfl, ?_⟩; have n0_ := Aside0.mk (Kd.R_mono (ok' := fun k_ => some k_ ≠ (.slice Ao22 t175.length co22 : Value).ownBlock ∧ some k_ ≠ (v183 : Value).ownBlock ∧ some k_ ≠ (.slice Ao42 t186.length co42 : Value).ownBlock) (Kd.R_keptB (HO_6.out) hkp (fun k_ hk_ hs_ => (hk_.1.1) hs_)) (fun k_ hk_ => ⟨hk_.1.1.1, hk_.1.1.2, hk_.1.2⟩)); have n1_ := Aside0.mk (Kd.R_reok rfl hy0 (fun k_ e_ => HO_8.out.1 k_ e_)); have n2_ := Aside0.mk (Kd.S_mono (ok' := fun k_ => some k_ ≠ (v173 : Value).ownBlock ∧ some k_ ≠ (.slice Ao22 t175.length co22 : Value).ownBlock ∧ some k_ ≠ (v183 : Value).ownBlock ∧ some k_ ≠ (.slice Ao42 t186.length co42 : Value).ownBlock ∧ some k_ ≠ (.slice Ao44 t190.length co44 : Value).ownBlock) (Kd.S_keptB (HO_9.out) hkp (fun k_ hk_ hs_ => (hk_.1.1.2.1) hs_)) (fun k_ hk_ => ⟨hk_.1.1.1.1, hk_.1.1.1.2.1, hk_.1.1.1.2.2, hk_.1.1.2, hk_.1.2⟩)); have n3_ := Aside0.mk (Kd.R_mono (ok' := fun k_ => some k_ ≠ (v173 : Value).ownBlock ∧ some k_ ≠ (.slice Ao22 t175.length co22 : Value).ownBlock ∧ some k_ ≠ (.slice Ao42 t186.length co42 : Value).ownBlock) (Kd.R_keptB (HO_10.out) hkp (fun k_ hk_ hs_ => (hk_.1.2) hs_)) (fun k_ hk_ => ⟨hk_.1.1.1, hk_.1.1.2, hk_.1.2⟩)); have n4_ := Aside0.mk (Kd.R_mono (ok' := fun k_ => some k_ ≠ (v173 : Value).ownBlock ∧ some k_ ≠ (.slice Ao22 t175.length co22 : Value).ownBlock ∧ some k_ ≠ (v183 : Value).ownBlock) (Kd.R_keptB (HO188.out) hkp (fun k_ hk_ hs_ => (hk_.1.2) hs_)) (fun k_ hk_ => ⟨hk_.1.1.1.2, hk_.1.1.2, hk_.1.2⟩)); have n5_ := Aside0.mk (Kd.S_mono (ok' := fun k_ => some k_ ≠ (v173 : Value).ownBlock ∧ some k_ ≠ (.slice Ao22 t175.length co22 : Value).ownBlock ∧ some k_ ≠ (.slice Ao23 t178.length co23 : Value).ownBlock ∧ some k_ ≠ (v183 : Value).ownBlock ∧ some k_ ≠ (.slice Ao42 t186.length co42 : Value).ownBlock) (Kd.S_keptB (HO192.out) hkp (fun k_ hk_ hs_ => (hk_.1.1.1.2) hs_)) (fun k_ hk_ => ⟨hk_.1.1.1.1.1.2, hk_.1.1.1.1.2, hk_.1.1.1.2, hk_.1.1.2, hk_.1.2⟩)); have n6_ := Aside0.mk (hb); clear HO_6; clear HO_8; clear HO_9; clear HO_10; clear HO188; clear HO192; clear HB; have HO_6 := n0_; have HO_8 := n1_; have HO_9 := n2_; have HO_10 := n3_; have HO188 := n4_; have HO192 := n5_; have HB := n6_; clear n0_ n1_ n2_ n3_ n4_ n5_ n6_; (try clear hb); (try clear hkp); (try clear hy0)) | ((with_reducible refine gate_callee (f := 21) rfl ?_); refine goesL_ (some 67) rfl rfl Try.func21 (by kernel_rfl) rfl #[.slice Ao23 t178.length co23, .int .i64 t194] rfl (by (try simp only [List.map_toArray, List.map_cons, List.map_nil]); first | done | rfl | (simp only [List.length_drop, List.length_take]; first | done | rfl)) ?_; (with_reducible refine (laws_markDiskWriteS.calls kj12 (fun k_ => (some k_ ≠ (v173 : Value).ownBlock ∧ (some k_ ≠ (.slice Ao22 t175.length co22 : Value).ownBlock ∧ (some k_ ≠ (v183 : Value).ownBlock ∧ (some k_ ≠ (.slice Ao42 t186.length co42 : Value).ownBlock ∧ some k_ ≠ (.slice Ao44 t190.length co44 : Value).ownBlock)))) ∧ w.heap.size ≤ k_) (.slice Ao23 t178.length co23) t178 t194 t196 t197 w _ ?side1 ?side2 A39.out).mono ?_); (case side1 => repeat (first | (with_reducible first | exact HB.out | apply below_alloc | apply pw_below_drewN | apply below_drew1) | exact HB.out)); (case side2 => exact Kd.S_mono (Kd.S_bound (HO_9.out)) (fun _ h_ => ⟨h_.1, h_.2.1⟩)); rintro e w47 ⟨rfl, hy0, hb, hkp⟩; refine ⟨_, rfl, ?_⟩; have n0_ := Aside0.mk (Kd.R_mono (ok' := fun k_ => some k_ ≠ (.slice Ao22 t175.length co22 : Value).ownBlock ∧ some k_ ≠ (v183 : Value).ownBlock ∧ some k_ ≠ (.slice Ao42 t186.length co42 : Value).ownBlock) (Kd.R_keptB ((Kd.R_tight2 rfl HO_6.out)) hkp (fun k_ hk_ hs_ => (fun hs2_ => (hs2_.1.1) hk_.1) hs_)) (fun k_ hk_ => ⟨hk_.1.2.1, hk_.1.2.2.1, hk_.1.2.2.2⟩)); have n1_ := Aside0.mk (Kd.R_mono (ok' := fun k_ => some k_ ≠ (v173 : Value).ownBlock ∧ some k_ ≠ (v183 : Value).ownBlock ∧ some k_ ≠ (.slice Ao42 t186.length co42 : Value).ownBlock) (Kd.R_keptB ((Kd.R_tight2 rfl HO_8.out)) hkp (fun k_ hk_ hs_ => (fun hs2_ => (hs2_.1.2.1) hk_.1) hs_)) (fun k_ hk_ => ⟨hk_.1.2.1.1, hk_.1.2.1.2, hk_.1.2.2⟩)); have n2_ := Aside0.mk (Kd.S_mono (ok' := fun k_ => some k_ ≠ (v173 : Value).ownBlock ∧ some k_ ≠ (.slice Ao22 t175.length co22 : Value).ownBlock ∧ some k_ ≠ (v183 : Value).ownBlock ∧ some k_ ≠ (.slice Ao42 t186.length co42 : Value).ownBlock) hy0 (fun k_ hk_ => Or.elim hk_ (fun hs_ => ⟨hs_.1.1, hs_.1.2.1, hs_.1.2.2.1, hs_.1.2.2.2.1⟩) (fun hn_ => ⟨fun e_ => Nat.not_le.2 ((Kd.R_bound HO_6.out).1 k_ e_.symm).2.2.1 hn_, fun e_ => Nat.not_le.2 ((Kd.R_bound HO_8.out).1 k_ e_.symm).2.2.1 hn_, fun e_ => Nat.not_le.2 ((Kd.R_bound HO_10.out).1 k_ e_.symm).2.2.1 hn_, fun e_ => Nat.not_le.2 ((Kd.R_bound HO188.out).1 k_ e_.symm).2.2.1 hn_⟩))); have n3_ := Aside0.mk (Kd.R_mono (ok' := fun k_ => some k_ ≠ (v173 : Value).ownBlock ∧ some k_ ≠ (.slice Ao22 t175.length co22 : Value).ownBlock ∧ some k_ ≠ (.slice Ao42 t186.length co42 : Value).ownBlock) (Kd.R_keptB ((Kd.R_tight2 rfl HO_10.out)) hkp (fun k_ hk_ hs_ => (fun hs2_ => (hs2_.1.2.2.1) hk_.1) hs_)) (fun k_ hk_ => ⟨hk_.1.2.1, hk_.1.2.2.1, hk_.1.2.2.2⟩)); have n4_ := Aside0.mk (Kd.R_mono (ok' := fun k_ => some k_ ≠ (v173 : Value).ownBlock ∧ some k_ ≠ (.slice Ao22 t175.length co22 : Value).ownBlock ∧ some k_ ≠ (v183 : Value).ownBlock) (Kd.R_keptB ((Kd.R_tight2 rfl HO188.out)) hkp (fun k_ hk_ hs_ => (fun hs2_ => (hs2_.1.2.2.2.1) hk_.1) hs_)) (fun k_ hk_ => ⟨hk_.1.2.1, hk_.1.2.2.1, hk_.1.2.2.2⟩)); have n5_ := Aside0.mk (hb); clear HO_6; clear HO_8; clear HO_9; clear HO_10; clear HO188; clear HB; clear HO192; have HO_6 := n0_; have HO_8 := n1_; have HO_9 := n2_; have HO_10 := n3_; have HO188 := n4_; have HB := n5_; clear n0_ n1_ n2_ n3_ n4_ n5_; (try clear hb); (try clear hkp); (try clear hy0)))
                (try simp only [Act.put, List.setIfInBounds_toArray, List.set_cons_zero, List.set_cons_succ])
                go_cut [80] (fun v80 wc => ∃ (kq : Nat) (x80_39 : Bool), v80 = .bool x80_39 ∧ Aside0 (laws_FnExactDiskAfter.j1 kq l0 l1 t171 t172 t181 x80_39 = some r) ∧ Aside0 (kq ≤ kj12) ∧ Aside0 (Kd.R (Kd.int .u8) 5 wc w.heap.size (fun k_ => some k_ ≠ (v183 : Value).ownBlock) v173 t171) ∧ Aside0 (Kd.R (Kd.int .u8) 5 wc w.heap.size (fun k_ => some k_ ≠ (v173 : Value).ownBlock) v183 t181) ∧ Aside0 (Below w.heap.size w wc))
                case first =>
                  have H := HC40.out
                  clear HC40
                  by_cases c48 : t196 < 0
                  · rw [if_pos c48] at H
                    have c48b0 : decide (t196 < 0) = true := decide_eq_true c48
                    clear c48
                    (first | rw [c48b0] | (simp only [i64_w, i32_w]; rw [c48b0]) | skip)
                    have H' := Aside0.mk H
                    clear H
                    go_wp2
                    go_meet
                    case rel => exact ⟨_, (true), (by first | rfl | exact congrArg (Value.int .i64) (i64_w _) | (simp; done) | (simp [*]; done)), H', ⟨by have := HJ12.out; first | omega | exact Nat.le_refl _⟩, ⟨by (with_reducible repeat (first | apply Kd.R_alloc | apply Kd.R_drewN | apply Kd.R_drew)); exact Kd.R_mono HO_6.out (fun _ hk => hk.2.1)⟩, ⟨by (with_reducible repeat (first | apply Kd.R_alloc | apply Kd.R_drewN | apply Kd.R_drew)); exact Kd.R_mono HO_10.out (fun _ hk => hk.1)⟩, ⟨by repeat (first | (with_reducible first | exact HB.out | apply below_alloc | apply pw_below_drewN | apply below_drew1) | exact HB.out)⟩⟩
                  · rw [if_neg c48] at H
                    have c48b0 : decide (t196 < 0) = false := decide_eq_false c48
                    clear c48
                    (first | rw [c48b0] | (simp only [i64_w, i32_w]; rw [c48b0]) | skip)
                    replace H := Option.bind_eq_some_iff.mp H
                    obtain ⟨t198, A490, H⟩ := H
                    replace H : (if t198 = true then (laws_FnExactDiskAfter.j1 kj12 l0 l1 t171 t172 t181 (t182 != t172)) else (laws_FnExactDiskAfter.j1 kj12 l0 l1 t171 t172 t181 true)) = some r := H
                    have A49 := Aside0.mk A490
                    clear A490
                    by_cases c50 : t198 = true
                    · subst c50
                      have H1 : (laws_FnExactDiskAfter.j1 kj12 l0 l1 t171 t172 t181 (t182 != t172)) = some r := by rw [if_pos rfl] at H; exact H
                      clear H
                      have H := H1
                      clear H1
                      have H' := Aside0.mk H
                      clear H
                      obtain ⟨Ao51, co51, eo51⟩ := Kd.R_slice HO_10.out
                      subst eo51
                      obtain ⟨Ao52, co52, eo52⟩ := Kd.R_slice HO_6.out
                      subst eo52
                      go_wp2_with (first | (go_at_call 18; (with_reducible refine (laws_eqByteS.calls kj12 _ _ t181 _ _ t171 true _ ?side1 ?side2 ?side3 ?side4 A49.out).mono ?_); (case side1 => repeat (first | exact (Kd.R_reads' HO_10.out).2.2 | (with_reducible refine Kd.C_alloc ?_ _) | (with_reducible refine Kd.C_drewN ?_ _) | (with_reducible refine Kd.C_drew ?_))); (case side2 => exact (Kd.R_reads' HO_10.out).2.1); (case side3 => repeat (first | exact (Kd.R_reads' HO_6.out).2.2 | (with_reducible refine Kd.C_alloc ?_ _) | (with_reducible refine Kd.C_drewN ?_ _) | (with_reducible refine Kd.C_drew ?_))); (case side4 => exact (Kd.R_reads' HO_6.out).2.1); rintro e w' ⟨rfl, ⟨nd, rfl⟩⟩))
                      go_meet
                      case rel => exact ⟨_, ((t182 != t172)), (by first | rfl | exact congrArg (Value.int .i64) (i64_w _) | (simp; done) | (simp [*]; done)), H', ⟨by have := HJ12.out; first | omega | exact Nat.le_refl _⟩, ⟨by (with_reducible repeat (first | apply Kd.R_alloc | apply Kd.R_drewN | apply Kd.R_drew)); exact Kd.R_mono HO_6.out (fun _ hk => hk.2.1)⟩, ⟨by (with_reducible repeat (first | apply Kd.R_alloc | apply Kd.R_drewN | apply Kd.R_drew)); exact Kd.R_mono HO_10.out (fun _ hk => hk.1)⟩, ⟨by repeat (first | (with_reducible first | exact HB.out | apply below_alloc | apply pw_below_drewN | apply below_drew1) | exact HB.out)⟩⟩
                    · replace c50 := Bool.eq_false_iff.mpr c50
                      subst c50
                      have H1 : (laws_FnExactDiskAfter.j1 kj12 l0 l1 t171 t172 t181 true) = some r := by rw [if_neg (show ¬ (false = true) by decide)] at H; exact H
                      clear H
                      have H := H1
                      clear H1
                      have H' := Aside0.mk H
                      clear H
                      obtain ⟨Ao53, co53, eo53⟩ := Kd.R_slice HO_10.out
                      subst eo53
                      obtain ⟨Ao54, co54, eo54⟩ := Kd.R_slice HO_6.out
                      subst eo54
                      go_wp2_with (first | (go_at_call 18; (with_reducible refine (laws_eqByteS.calls kj12 _ _ t181 _ _ t171 false _ ?side1 ?side2 ?side3 ?side4 A49.out).mono ?_); (case side1 => repeat (first | exact (Kd.R_reads' HO_10.out).2.2 | (with_reducible refine Kd.C_alloc ?_ _) | (with_reducible refine Kd.C_drewN ?_ _) | (with_reducible refine Kd.C_drew ?_))); (case side2 => exact (Kd.R_reads' HO_10.out).2.1); (case side3 => repeat (first | exact (Kd.R_reads' HO_6.out).2.2 | (with_reducible refine Kd.C_alloc ?_ _) | (with_reducible refine Kd.C_drewN ?_ _) | (with_reducible refine Kd.C_drew ?_))); (case side4 => exact (Kd.R_reads' HO_6.out).2.1); rintro e w' ⟨rfl, ⟨nd, rfl⟩⟩))
                      go_meet
                      case rel => exact ⟨_, (true), (by first | rfl | exact congrArg (Value.int .i64) (i64_w _) | (simp; done) | (simp [*]; done)), H', ⟨by have := HJ12.out; first | omega | exact Nat.le_refl _⟩, ⟨by (with_reducible repeat (first | apply Kd.R_alloc | apply Kd.R_drewN | apply Kd.R_drew)); exact Kd.R_mono HO_6.out (fun _ hk => hk.2.1)⟩, ⟨by (with_reducible repeat (first | apply Kd.R_alloc | apply Kd.R_drewN | apply Kd.R_drew)); exact Kd.R_mono HO_10.out (fun _ hk => hk.1)⟩, ⟨by repeat (first | (with_reducible first | exact HB.out | apply below_alloc | apply pw_below_drewN | apply below_drew1) | exact HB.out)⟩⟩
                case rest =>
                  clear HC40
                  try clear c1
                  try clear c2
                  try clear p2
                  try clear c3
                  try clear c3b0
                  try clear c3b1
                  try clear c4
                  try clear c5
                  try clear c5b0
                  try clear c13
                  try clear c14
                  try clear c15
                  try clear c16
                  try clear c17
                  try clear c18
                  try clear c19
                  try clear c20
                  try clear c21
                  try clear c26
                  try clear c31
                  try clear c34
                  try clear c37
                  try clear c48
                  try clear c48b0
                  try clear c50
                  try clear p2
                  obtain ⟨kq, x80_39, rfl, HA, HJ39, HO_6, HO_10, HB⟩ := hcut
                  cases kq with
                  | zero => exact absurd HA.out (by simp [laws_FnExactDiskAfter.j1])
                  | succ kj39 =>
                    have H := HA.out
                    clear HA
                    simp only [laws_FnExactDiskAfter.j1] at H
                    by_cases c55 : x80_39 = true
                    · subst c55
                      have H1 : (none) = some r := by rw [if_pos rfl] at H; exact H
                      clear H
                      have H := H1
                      clear H1
                      exact absurd H (by simp)
                    · replace c55 := Bool.eq_false_iff.mpr c55
                      subst c55
                      have H1 : ((laws_markByteS.f kj39 t181 1).bind fun bt199 => ((laws_heldByteS.f kj39 bt199.2 1).bind fun t201 => (if t201 < 0 then (none) else (if t201 = bt199.1 then ((laws_toByteS.f kj39 l0).bind fun t202 => ((laws_toDiskWriteS.f kj39 l1).bind fun t205 => ((impl_DiskAfter.f kj39 t202 t205).bind fun bt208 => ((laws_eqByteS.f kj39 bt208.1 t171).bind fun t212 => (if t212 = true then (laws_FnExactDiskAfter.j2 kj39 bt199.2 bt199.1 (bt208.2 != t172)) else (laws_FnExactDiskAfter.j2 kj39 bt199.2 bt199.1 true)))))) else (none))))) = some r := by rw [if_neg (show ¬ (false = true) by decide)] at H; exact H
                      clear H
                      have H := H1
                      clear H1
                      replace H := Option.bind_eq_some_iff.mp H
                      obtain ⟨⟨t199, t200⟩, A560, H⟩ := H
                      replace H : ((laws_heldByteS.f kj39 t200 1).bind fun t201 => (if t201 < 0 then (none) else (if t201 = t199 then ((laws_toByteS.f kj39 l0).bind fun t202 => ((laws_toDiskWriteS.f kj39 l1).bind fun t205 => ((impl_DiskAfter.f kj39 t202 t205).bind fun bt208 => ((laws_eqByteS.f kj39 bt208.1 t171).bind fun t212 => (if t212 = true then (laws_FnExactDiskAfter.j2 kj39 t200 t199 (bt208.2 != t172)) else (laws_FnExactDiskAfter.j2 kj39 t200 t199 true)))))) else (none)))) = some r := H
                      have A56 := Aside0.mk A560
                      clear A560
                      replace H := Option.bind_eq_some_iff.mp H
                      obtain ⟨t201, A570, H⟩ := H
                      replace H : (if t201 < 0 then (none) else (if t201 = t199 then ((laws_toByteS.f kj39 l0).bind fun t202 => ((laws_toDiskWriteS.f kj39 l1).bind fun t205 => ((impl_DiskAfter.f kj39 t202 t205).bind fun bt208 => ((laws_eqByteS.f kj39 bt208.1 t171).bind fun t212 => (if t212 = true then (laws_FnExactDiskAfter.j2 kj39 t200 t199 (bt208.2 != t172)) else (laws_FnExactDiskAfter.j2 kj39 t200 t199 true)))))) else (none))) = some r := H
                      have A57 := Aside0.mk A570
                      clear A570
                      by_cases c58 : t201 < 0
                      · rw [if_pos c58] at H
                        exact absurd H (by simp)
                      · rw [if_neg c58] at H
                        have c58b0 : decide (t201 < 0) = false := decide_eq_false c58
                        clear c58
                        by_cases c59 : t201 = t199
                        · rw [if_pos c59] at H
                          have c59b0 : (t201 == t199) = true := beq_iff_eq.mpr c59
                          have c59b1 : (t201 != t199) = false := bne_eq_false_iff_eq.mpr c59
                          clear c59
                          replace H := Option.bind_eq_some_iff.mp H
                          obtain ⟨t202, A600, H⟩ := H
                          replace H : ((laws_toDiskWriteS.f kj39 l1).bind fun t205 => ((impl_DiskAfter.f kj39 t202 t205).bind fun bt208 => ((laws_eqByteS.f kj39 bt208.1 t171).bind fun t212 => (if t212 = true then (laws_FnExactDiskAfter.j2 kj39 t200 t199 (bt208.2 != t172)) else (laws_FnExactDiskAfter.j2 kj39 t200 t199 true))))) = some r := H
                          have A60 := Aside0.mk A600
                          clear A600
                          replace H := Option.bind_eq_some_iff.mp H
                          obtain ⟨t205, A610, H⟩ := H
                          replace H : ((impl_DiskAfter.f kj39 t202 t205).bind fun bt208 => ((laws_eqByteS.f kj39 bt208.1 t171).bind fun t212 => (if t212 = true then (laws_FnExactDiskAfter.j2 kj39 t200 t199 (bt208.2 != t172)) else (laws_FnExactDiskAfter.j2 kj39 t200 t199 true)))) = some r := H
                          have A61 := Aside0.mk A610
                          clear A610
                          replace H := Option.bind_eq_some_iff.mp H
                          obtain ⟨⟨t208, t209⟩, A620, H⟩ := H
                          replace H : ((laws_eqByteS.f kj39 t208 t171).bind fun t212 => (if t212 = true then (laws_FnExactDiskAfter.j2 kj39 t200 t199 (t209 != t172)) else (laws_FnExactDiskAfter.j2 kj39 t200 t199 true))) = some r := H
                          have A62 := Aside0.mk A620
                          clear A620
                          have HC63 := Aside0.mk H
                          clear H
                          obtain ⟨Ao64, co64, eo64⟩ := Kd.R_slice HO_10.out
                          subst eo64
                          go_upto_region 31 with (first | ((with_reducible refine gate_callee (f := 20) rfl ?_); refine goesL_ (some 83) rfl rfl Try.func20 (by kernel_rfl) rfl #[.slice Ao64 t181.length co64, .int .i64 1] rfl (by (try simp only [List.map_toArray, List.map_cons, List.map_nil]); first | done | rfl | (simp only [List.length_drop, List.length_take]; first | done | rfl)) ?_; (with_reducible refine (laws_markByteS.calls kj39 (fun k_ => some k_ = (.slice Ao64 t181.length co64 : Value).ownBlock) (.slice Ao64 t181.length co64) t181 1 t199 t200 w _ ?side1 ?side2 A56.out).mono ?_); (case side1 => repeat (first | (with_reducible first | exact HB.out | apply below_alloc | apply pw_below_drewN | apply below_drew1) | exact HB.out)); (case side2 => exact Kd.R_tight rfl HO_10.out); rintro e w65 ⟨rfl, hy0, hb, hkp⟩; refine ⟨_, rfl, ?_⟩; have n0_ := Aside0.mk (Kd.R_mono (ok' := fun k_ => some k_ ≠ (.slice Ao64 t181.length co64 : Value).ownBlock) (Kd.R_keptB (HO_6.out) hkp (fun k_ hk_ hs_ => (hk_) hs_)) (fun k_ hk_ => hk_.1)); have n1_ := Aside0.mk (Kd.R_reok rfl hy0 (fun k_ e_ => HO_10.out.1 k_ e_)); have n2_ := Aside0.mk (hb); clear HO_6; clear HO_10; clear HB; have HO_6 := n0_; have HO_10 := n1_; have HB := n2_; clear n0_ n1_ n2_; (try clear hb); (try clear hkp); (try clear hy0)) | ((with_reducible refine gate_callee (f := 22) rfl ?_); refine goesL_ (some 86) rfl rfl Try.func22 (by kernel_rfl) rfl #[.slice Ao64 t200.length co64, .int .i64 1] rfl (by (try simp only [List.map_toArray, List.map_cons, List.map_nil]); first | done | (rw [show t200.length = t181.length from (Kd.R_reads' HO_10.out).1.symm] <;> rfl) | rfl | (simp only [List.length_drop, List.length_take]; first | done | rfl)) ?_; (with_reducible refine (laws_heldByteS.calls kj39 _ _ t200 1 t201 _ ?side1 ?side2 A57.out).mono ?_); (case side1 => repeat (first | exact (Kd.R_reads' HO_10.out).2.2 | (with_reducible refine Kd.C_alloc ?_ _) | (with_reducible refine Kd.C_drewN ?_ _) | (with_reducible refine Kd.C_drew ?_))); (case side2 => rw [show t200.length = t181.length from (Kd.R_reads' HO_10.out).1.symm]; exact (Kd.R_reads' HO_10.out).2.1); rintro e w' ⟨rfl, ⟨nd, rfl⟩⟩; refine ⟨_, rfl, ?_⟩) | ((with_reducible refine gate_callee (f := 15) rfl ?_); refine goesL_ (some 94) rfl rfl Try.func15 (by kernel_rfl) rfl #[.slice A0 l0.length c0] rfl (by (try simp only [List.map_toArray, List.map_cons, List.map_nil]); first | done | rfl | (simp only [List.length_drop, List.length_take]; first | done | rfl)) ?_; (with_reducible refine (laws_toByteS.calls kj39 _ _ l0 t202 _ ?side1 ?side2 A60.out).mono ?_); (case side1 => repeat (first | exact (Kd.C_below HR0.out (by repeat (first | (with_reducible first | exact HB.out | apply below_alloc | apply pw_below_drewN | apply below_drew1) | exact HB.out))) | (with_reducible refine Kd.C_alloc ?_ _) | (with_reducible refine Kd.C_drewN ?_ _) | (with_reducible refine Kd.C_drew ?_))); (case side2 => exact HC0.out); rintro e w66 ⟨v203, rfl, ho0, hb⟩; refine ⟨_, rfl, ?_⟩; have n0_ := Aside0.mk (Kd.R_elder' (by (with_reducible repeat (first | apply Kd.R_alloc | apply Kd.R_drewN | apply Kd.R_drew)); exact HO_6.out) (Kd.R_base ho0) hb); have n1_ := Aside0.mk (Kd.R_elder' (by (with_reducible repeat (first | apply Kd.R_alloc | apply Kd.R_drewN | apply Kd.R_drew)); exact HO_10.out) (Kd.R_base ho0) hb); have n2_ := Aside0.mk (Kd.R_lower (Kd.R_new' (Kd.R_new' ho0 (Kd.R_lt (by (with_reducible repeat (first | apply Kd.R_alloc | apply Kd.R_drewN | apply Kd.R_drew)); exact HO_6.out))) (Kd.R_lt (by (with_reducible repeat (first | apply Kd.R_alloc | apply Kd.R_drewN | apply Kd.R_drew)); exact HO_10.out))) (below_size (by repeat (first | (with_reducible first | exact HB.out | apply below_alloc | apply pw_below_drewN | apply below_drew1) | exact HB.out)))); have n3_ := Aside0.mk (below_step (by repeat (first | (with_reducible first | exact HB.out | apply below_alloc | apply pw_below_drewN | apply below_drew1) | exact HB.out)) hb); clear HO_6; clear HO_10; clear HB; have HO_6 := n0_; have HO_10 := n1_; have HO204 := n2_; have HB := n3_; clear n0_ n1_ n2_ n3_; (try clear hb); (try clear hb2); (try clear hk); (try clear hi); (try clear ho0)) | ((with_reducible refine gate_callee (f := 16) rfl ?_); refine goesL_ (some 96) rfl rfl Try.func16 (by kernel_rfl) rfl #[.slice A1 l1.length c1] rfl (by (try simp only [List.map_toArray, List.map_cons, List.map_nil]); first | done | rfl | (simp only [List.length_drop, List.length_take]; first | done | rfl)) ?_; (with_reducible refine (laws_toDiskWriteS.calls kj39 _ _ l1 t205 _ ?side1 ?side2 A61.out).mono ?_); (case side1 => repeat (first | exact (Kd.C_below HR1.out HB.out) | (with_reducible refine Kd.C_alloc ?_ _) | (with_reducible refine Kd.C_drewN ?_ _) | (with_reducible refine Kd.C_drew ?_))); (case side2 => exact HC1.out); rintro e w67 ⟨v206, rfl, ho0, hb⟩; refine ⟨_, rfl, ?_⟩; have n0_ := Aside0.mk (Kd.R_below (by (with_reducible repeat (first | apply Kd.R_alloc | apply Kd.R_drewN | apply Kd.R_drew)); exact HO_6.out) hb); have n1_ := Aside0.mk (Kd.R_below (by (with_reducible repeat (first | apply Kd.R_alloc | apply Kd.R_drewN | apply Kd.R_drew)); exact HO_10.out) hb); have n2_ := Aside0.mk (Kd.R_below (by (with_reducible repeat (first | apply Kd.R_alloc | apply Kd.R_drewN | apply Kd.R_drew)); exact HO204.out) hb); have n3_ := Aside0.mk (Kd.S_lower (Kd.S_new' (Kd.S_new' (Kd.S_new' ho0 (Kd.R_lt (by (with_reducible repeat (first | apply Kd.R_alloc | apply Kd.R_drewN | apply Kd.R_drew)); exact HO_6.out))) (Kd.R_lt (by (with_reducible repeat (first | apply Kd.R_alloc | apply Kd.R_drewN | apply Kd.R_drew)); exact HO_10.out))) (Kd.R_lt (by (with_reducible repeat (first | apply Kd.R_alloc | apply Kd.R_drewN | apply Kd.R_drew)); exact HO204.out))) (below_size (by repeat (first | (with_reducible first | exact HB.out | apply below_alloc | apply pw_below_drewN | apply below_drew1) | exact HB.out)))); have n4_ := Aside0.mk (below_step (by repeat (first | (with_reducible first | exact HB.out | apply below_alloc | apply pw_below_drewN | apply below_drew1) | exact HB.out)) hb); clear HO_6; clear HO_10; clear HO204; clear HB; have HO_6 := n0_; have HO_10 := n1_; have HO204 := n2_; have HO207 := n3_; have HB := n4_; clear n0_ n1_ n2_ n3_ n4_; (try clear hb); (try clear hb2); (try clear hk); (try clear hi); (try clear ho0); obtain ⟨Ao68, co68, eo68⟩ := Kd.R_slice HO204.out; subst eo68; obtain ⟨Ao69, co69, eo69⟩ := Kd.S_slice HO207.out; subst eo69) | ((with_reducible refine gate_callee (f := 17) rfl ?_); refine goesL_ (some 97) rfl rfl Try.func17 (by kernel_rfl) rfl #[.slice Ao68 t202.length co68, .slice Ao69 t205.length co69] rfl (by (try simp only [List.map_toArray, List.map_cons, List.map_nil]); first | done | rfl | (simp only [List.length_drop, List.length_take]; first | done | rfl)) ?_; (with_reducible refine (impl_DiskAfter.calls kj39 _ _ t202 _ _ t205 t208 t209 _ ?side1 ?side2 ?side3 ?side4 A62.out).mono ?_); (case side1 => repeat (first | exact (Kd.R_reads' HO204.out).2.2 | (with_reducible refine Kd.C_alloc ?_ _) | (with_reducible refine Kd.C_drewN ?_ _) | (with_reducible refine Kd.C_drew ?_))); (case side2 => exact (Kd.R_reads' HO204.out).2.1); (case side3 => repeat (first | exact (Kd.S_reads' HO207.out).2.2 | (with_reducible refine Kd.C_alloc ?_ _) | (with_reducible refine Kd.C_drewN ?_ _) | (with_reducible refine Kd.C_drew ?_))); (case side4 => exact (Kd.S_reads' HO207.out).2.1); rintro e w70 ⟨v210, rfl, ho0, hb⟩; refine ⟨_, rfl, ?_⟩; have n0_ := Aside0.mk (Kd.R_elder' (by (with_reducible repeat (first | apply Kd.R_alloc | apply Kd.R_drewN | apply Kd.R_drew)); exact HO_6.out) (Kd.R_base ho0) hb); have n1_ := Aside0.mk (Kd.R_elder' (by (with_reducible repeat (first | apply Kd.R_alloc | apply Kd.R_drewN | apply Kd.R_drew)); exact HO_10.out) (Kd.R_base ho0) hb); have n2_ := Aside0.mk (Kd.R_elder' (by (with_reducible repeat (first | apply Kd.R_alloc | apply Kd.R_drewN | apply Kd.R_drew)); exact HO204.out) (Kd.R_base ho0) hb); have n3_ := Aside0.mk (Kd.S_elder' (by (with_reducible repeat (first | apply Kd.S_alloc | apply Kd.S_drewN | apply Kd.S_drew)); exact HO207.out) (Kd.R_base ho0) hb); have n4_ := Aside0.mk (Kd.R_lower (Kd.R_new' (Kd.R_new' (Kd.R_new' ho0 (Kd.R_lt (by (with_reducible repeat (first | apply Kd.R_alloc | apply Kd.R_drewN | apply Kd.R_drew)); exact HO_6.out))) (Kd.R_lt (by (with_reducible repeat (first | apply Kd.R_alloc | apply Kd.R_drewN | apply Kd.R_drew)); exact HO_10.out))) (Kd.R_lt (by (with_reducible repeat (first | apply Kd.R_alloc | apply Kd.R_drewN | apply Kd.R_drew)); exact HO204.out))) (below_size (by repeat (first | (with_reducible first | exact HB.out | apply below_alloc | apply pw_below_drewN | apply below_drew1) | exact HB.out)))); have n5_ := Aside0.mk (below_step (by repeat (first | (with_reducible first | exact HB.out | apply below_alloc | apply pw_below_drewN | apply below_drew1) | exact HB.out)) hb); clear HO_6; clear HO_10; clear HO204; clear HO207; clear HB; have HO_6 := n0_; have HO_10 := n1_; have HO204 := n2_; have HO207 := n3_; have HO211 := n4_; have HB := n5_; clear n0_ n1_ n2_ n3_ n4_ n5_; (try clear hb); (try clear hb2); (try clear hk); (try clear hi); (try clear ho0)))
                          (try simp only [Act.put, List.setIfInBounds_toArray, List.set_cons_zero, List.set_cons_succ])
                          go_cut [108] (fun v108 wc => ∃ (kq : Nat) (x108_62 : Bool), v108 = .bool x108_62 ∧ Aside0 (laws_FnExactDiskAfter.j2 kq t200 t199 x108_62 = some r) ∧ Aside0 (kq ≤ kj39) ∧ Aside0 (Kd.R (Kd.int .u8) 5 wc w.heap.size (fun _ => True) (.slice Ao64 t181.length co64) t200) ∧ Aside0 (Below w.heap.size w wc))
                          case first =>
                            have H := HC63.out
                            clear HC63
                            replace H := Option.bind_eq_some_iff.mp H
                            obtain ⟨t212, A710, H⟩ := H
                            replace H : (if t212 = true then (laws_FnExactDiskAfter.j2 kj39 t200 t199 (t209 != t172)) else (laws_FnExactDiskAfter.j2 kj39 t200 t199 true)) = some r := H
                            have A71 := Aside0.mk A710
                            clear A710
                            by_cases c72 : t212 = true
                            · subst c72
                              have H1 : (laws_FnExactDiskAfter.j2 kj39 t200 t199 (t209 != t172)) = some r := by rw [if_pos rfl] at H; exact H
                              clear H
                              have H := H1
                              clear H1
                              have H' := Aside0.mk H
                              clear H
                              obtain ⟨Ao73, co73, eo73⟩ := Kd.R_slice HO211.out
                              subst eo73
                              obtain ⟨Ao74, co74, eo74⟩ := Kd.R_slice HO_6.out
                              subst eo74
                              go_wp2_with (first | ((with_reducible refine gate_callee (f := 18) rfl ?_); refine goesL_ (some 102) rfl rfl Try.func18 (by kernel_rfl) rfl #[.slice Ao73 t208.length co73, .slice Ao74 t171.length co74] rfl (by (try simp only [List.map_toArray, List.map_cons, List.map_nil]); first | done | rfl | (simp only [List.length_drop, List.length_take]; first | done | rfl)) ?_; (with_reducible refine (laws_eqByteS.calls kj39 _ _ t208 _ _ t171 true _ ?side1 ?side2 ?side3 ?side4 A71.out).mono ?_); (case side1 => repeat (first | exact (Kd.R_reads' HO211.out).2.2 | (with_reducible refine Kd.C_alloc ?_ _) | (with_reducible refine Kd.C_drewN ?_ _) | (with_reducible refine Kd.C_drew ?_))); (case side2 => exact (Kd.R_reads' HO211.out).2.1); (case side3 => repeat (first | exact (Kd.R_reads' HO_6.out).2.2 | (with_reducible refine Kd.C_alloc ?_ _) | (with_reducible refine Kd.C_drewN ?_ _) | (with_reducible refine Kd.C_drew ?_))); (case side4 => exact (Kd.R_reads' HO_6.out).2.1); rintro e w' ⟨rfl, ⟨nd, rfl⟩⟩; refine ⟨_, rfl, ?_⟩))
                              go_meet
                              case rel => exact ⟨_, ((t209 != t172)), (by first | rfl | exact congrArg (Value.int .i64) (i64_w _) | (simp; done) | (simp [*]; done)), H', ⟨by have := HJ12.out; have := HJ39.out; first | omega | exact Nat.le_refl _⟩, ⟨by (with_reducible repeat (first | apply Kd.R_alloc | apply Kd.R_drewN | apply Kd.R_drew)); exact Kd.R_mono HO_10.out (fun _ hk => trivial)⟩, ⟨by repeat (first | (with_reducible first | exact HB.out | apply below_alloc | apply pw_below_drewN | apply below_drew1) | exact HB.out)⟩⟩
                            · replace c72 := Bool.eq_false_iff.mpr c72
                              subst c72
                              have H1 : (laws_FnExactDiskAfter.j2 kj39 t200 t199 true) = some r := by rw [if_neg (show ¬ (false = true) by decide)] at H; exact H
                              clear H
                              have H := H1
                              clear H1
                              have H' := Aside0.mk H
                              clear H
                              obtain ⟨Ao75, co75, eo75⟩ := Kd.R_slice HO211.out
                              subst eo75
                              obtain ⟨Ao76, co76, eo76⟩ := Kd.R_slice HO_6.out
                              subst eo76
                              go_wp2_with (first | ((with_reducible refine gate_callee (f := 18) rfl ?_); refine goesL_ (some 102) rfl rfl Try.func18 (by kernel_rfl) rfl #[.slice Ao75 t208.length co75, .slice Ao76 t171.length co76] rfl (by (try simp only [List.map_toArray, List.map_cons, List.map_nil]); first | done | rfl | (simp only [List.length_drop, List.length_take]; first | done | rfl)) ?_; (with_reducible refine (laws_eqByteS.calls kj39 _ _ t208 _ _ t171 false _ ?side1 ?side2 ?side3 ?side4 A71.out).mono ?_); (case side1 => repeat (first | exact (Kd.R_reads' HO211.out).2.2 | (with_reducible refine Kd.C_alloc ?_ _) | (with_reducible refine Kd.C_drewN ?_ _) | (with_reducible refine Kd.C_drew ?_))); (case side2 => exact (Kd.R_reads' HO211.out).2.1); (case side3 => repeat (first | exact (Kd.R_reads' HO_6.out).2.2 | (with_reducible refine Kd.C_alloc ?_ _) | (with_reducible refine Kd.C_drewN ?_ _) | (with_reducible refine Kd.C_drew ?_))); (case side4 => exact (Kd.R_reads' HO_6.out).2.1); rintro e w' ⟨rfl, ⟨nd, rfl⟩⟩; refine ⟨_, rfl, ?_⟩))
                              go_meet
                              case rel => exact ⟨_, (true), (by first | rfl | exact congrArg (Value.int .i64) (i64_w _) | (simp; done) | (simp [*]; done)), H', ⟨by have := HJ12.out; have := HJ39.out; first | omega | exact Nat.le_refl _⟩, ⟨by (with_reducible repeat (first | apply Kd.R_alloc | apply Kd.R_drewN | apply Kd.R_drew)); exact Kd.R_mono HO_10.out (fun _ hk => trivial)⟩, ⟨by repeat (first | (with_reducible first | exact HB.out | apply below_alloc | apply pw_below_drewN | apply below_drew1) | exact HB.out)⟩⟩
                          case rest =>
                            clear HC63
                            try clear c1
                            try clear c2
                            try clear p2
                            try clear c3
                            try clear c3b0
                            try clear c3b1
                            try clear c4
                            try clear c5
                            try clear c5b0
                            try clear c7
                            try clear c13
                            try clear c14
                            try clear c15
                            try clear c16
                            try clear c17
                            try clear c18
                            try clear c19
                            try clear c20
                            try clear c21
                            try clear c22
                            try clear c26
                            try clear c31
                            try clear c34
                            try clear c37
                            try clear c48
                            try clear c48b0
                            try clear c50
                            try clear c55
                            try clear c58
                            try clear c58b0
                            try clear c59
                            try clear c59b0
                            try clear c59b1
                            try clear c72
                            try clear p2
                            obtain ⟨kq, x108_62, rfl, HA, HJ62, HO_10, HB⟩ := hcut
                            have hl10_62 := (Kd.R_reads' HO_10.out).1
                            rw [hl10_62] at HO_10
                            (try simp only [hl10_62])
                            cases kq with
                            | zero => exact absurd HA.out (by simp [laws_FnExactDiskAfter.j2])
                            | succ kj62 =>
                              have H := HA.out
                              clear HA
                              simp only [laws_FnExactDiskAfter.j2] at H
                              by_cases c77 : x108_62 = true
                              · subst c77
                                have H1 : (none) = some r := by rw [if_pos rfl] at H; exact H
                                clear H
                                have H := H1
                                clear H1
                                exact absurd H (by simp)
                              · replace c77 := Bool.eq_false_iff.mpr c77
                                subst c77
                                have H1 : ((laws_heldByteS.f kj62 t200 1).bind fun t213 => (if t213 < 0 then (none) else (if t213 = t199 then (some true) else (none)))) = some r := by rw [if_neg (show ¬ (false = true) by decide)] at H; exact H
                                clear H
                                have H := H1
                                clear H1
                                replace H := Option.bind_eq_some_iff.mp H
                                obtain ⟨t213, A780, H⟩ := H
                                replace H : (if t213 < 0 then (none) else (if t213 = t199 then (some true) else (none))) = some r := H
                                have A78 := Aside0.mk A780
                                clear A780
                                by_cases c79 : t213 < 0
                                · rw [if_pos c79] at H
                                  exact absurd H (by simp)
                                · rw [if_neg c79] at H
                                  have c79b0 : decide (t213 < 0) = false := decide_eq_false c79
                                  clear c79
                                  by_cases c80 : t213 = t199
                                  · rw [if_pos c80] at H
                                    have c80b0 : (t213 == t199) = true := beq_iff_eq.mpr c80
                                    have c80b1 : (t213 != t199) = false := bne_eq_false_iff_eq.mpr c80
                                    clear c80
                                    obtain rfl := Option.some.inj H
                                    go_wp2_with (first | ((with_reducible refine gate_callee (f := 22) rfl ?_); refine goesL_ (some 111) rfl rfl Try.func22 (by kernel_rfl) rfl #[.slice Ao64 t200.length co64, .int .i64 1] rfl (by (try simp only [List.map_toArray, List.map_cons, List.map_nil]); first | done | rfl | (simp only [List.length_drop, List.length_take]; first | done | rfl)) ?_; (with_reducible refine (laws_heldByteS.calls kj62 _ _ t200 1 t213 _ ?side1 ?side2 A78.out).mono ?_); (case side1 => repeat (first | exact (Kd.R_reads' HO_10.out).2.2 | (with_reducible refine Kd.C_alloc ?_ _) | (with_reducible refine Kd.C_drewN ?_ _) | (with_reducible refine Kd.C_drew ?_))); (case side2 => exact (Kd.R_reads' HO_10.out).2.1); rintro e w' ⟨rfl, ⟨nd, rfl⟩⟩; refine ⟨_, rfl, ?_⟩))
                                    go_ret
                                    exact ⟨by first | rfl | (simp [errW_none, errW_some] <;> rfl) | (simp [*, errW_none, errW_some] <;> rfl), by repeat (first | (with_reducible first | exact HB.out | apply below_alloc | apply pw_below_drewN | apply below_drew1) | exact HB.out)⟩
                                  · rw [if_neg c80] at H
                                    exact absurd H (by simp)
                        · rw [if_neg c59] at H
                          exact absurd H (by simp)
              · replace c37 := Bool.eq_false_iff.mpr c37
                subst c37
                have H1 : (none) = some r := by rw [if_neg (show ¬ (false = true) by decide)] at H; exact H
                clear H
                have H := H1
                clear H1
                exact absurd H (by simp)
            · replace c34 := Bool.eq_false_iff.mpr c34
              subst c34
              have H1 : (none) = some r := by rw [if_neg (show ¬ (false = true) by decide)] at H; exact H
              clear H
              have H := H1
              clear H1
              exact absurd H (by simp)

def laws_FnExactDiskAfter.wf69 (x : S69) : Prop := ((Lit.int .i64 x.f0).wf = true) ∧ (x.f1.length ≤ maxLen ∧ ∀ y_ ∈ x.f1, (Lit.int .u8 y_).wf = true)
/-- THE ONE PURE STATEMENT of laws_FnExactDiskAfter: yours. -/
def laws_FnExactDiskAfter.Pure : Prop := ∀ (l0 : List Int) (l1 : List (S69)), l0.length ≤ maxLen → l0.length * 1 ≤ 140737488351232 → (∀ x ∈ l0, (Lit.int .u8 x).wf = true) → (l1.length ≤ maxLen ∧ ∀ y_ ∈ l1, laws_FnExactDiskAfter.wf69 y_) → ∃ k, laws_FnExactDiskAfter.f k l0 l1 = some true
theorem laws_FnExactDiskAfter.walk (P : laws_FnExactDiskAfter.Pure) (a0 : Option Addr) (len0 cap0 : Nat) (z0 : List Int) (A1 : Option Addr) (c1 : Nat) (l1 : List (S69)) (w : World) (w0 : (a0 = none ∧ len0 = 0 ∧ cap0 = 0 ∧ z0 = []) ∨ ∃ x, a0 = some x ∧ len0 ≤ cap0 ∧ cap0 ≤ maxLen ∧ z0.length = cap0 ∧ (∀ i, i < z0.length → w.cell? (x.add i) = some (.int .u8 (z0.getD i 0))) ∧ ∀ n ∈ z0, (Lit.int .u8 n).wf = true) (y0 : len0 * 1 ≤ 140737488351232) (hr1 : Kd.C k69 w A1 l1.length l1) (hc1 : l1.length ≤ c1) (hq1 : l1.length ≤ maxLen ∧ ∀ y_ ∈ l1, laws_FnExactDiskAfter.wf69 y_) :
    Calls Try.prog 3 #[.slice a0 len0 cap0, .slice A1 l1.length c1] w fun e w' => e = .returned (.bool true) ∧ Below w.heap.size w w' := by
  obtain ⟨l0, rfl, hr0, hm0, hw0, hc0⟩ := ReadsInt.ofRowC w0
  obtain ⟨k, h⟩ := P l0 l1 hm0 y0 hw0 hq1
  refine (laws_FnExactDiskAfter.calls k _ _ l0 _ _ l1 true w (Kd.C_of_reads (d := (0 : Int)) (h1 := fun _ => rfl) hr0) hc0 hr1 hc1 h).mono ?_
  rintro e w' ⟨rfl, hd⟩
  exact ⟨rfl, hd⟩

end Go.Proofs.Ytflmbjoipmglbaa.PFnExactDiskAfter
