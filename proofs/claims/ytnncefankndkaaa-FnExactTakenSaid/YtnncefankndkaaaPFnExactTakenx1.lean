-- PRINTED BY print.sh 35421559b90ae4d0a3588c463048766b98c2df88dd9212a6774a882060cdf62d: not written by this session
import Derived.Test.YtnncefankndkaaaPFnExactTakenx0
namespace Go.Proofs.Ytnncefankndkaaa.PFnExactTaken
open Go.RowKit Go.Proofs.YtnncefankndkaaaW.PrintWords Go.Proofs.YtnncefankndkaaaW.PrintLast Go.Proofs.YtnncefankndkaaaW.PrintMore
attribute [local go_sem] max2_int min2_int max_two min_two max_three min_three max_four min_four   -- for this text's walks alone
set_option linter.unusedVariables false
set_option linter.unusedSimpArgs false

/-! ### spec_Taken: function 15 -/
def spec_Taken.f (a0 : Int) (a1 : Int) (a2 : Int) : Option (Bool × Bool) := if a0 = 64 then (some ((a1 == a2), true)) else (if a0 = 65 then (some ((a1 != a2), true)) else (if a0 = 66 then (some (decide ((wrap64 (a1)) < (wrap64 (a2))), true)) else (if a0 = 67 then (some (decide ((wrap64 (a1)) ≥ (wrap64 (a2))), true)) else (if a0 = 68 then (some (decide (a1 < a2), true)) else (if a0 = 69 then (some (decide (a1 ≥ a2), true)) else (some (false, false)))))))
set_option maxHeartbeats 8000000 in
set_option maxRecDepth 100000 in
theorem spec_Taken.calls (a0 : Int) (a1 : Int) (a2 : Int) (r1 : Bool) (r2 : Bool) (w : World) (h : spec_Taken.f a0 a1 a2 = some (r1, r2)) :
    Calls Try.prog 15 #[.int .i64 a0, .int .u64 a1, .int .u64 a2] w fun e w' => e = .returned (.tuple #[.bool r1, .bool r2]) ∧ Drawn0 w w' := by
  have H : (if a0 = 64 then (some ((a1 == a2), true)) else (if a0 = 65 then (some ((a1 != a2), true)) else (if a0 = 66 then (some (decide ((wrap64 (a1)) < (wrap64 (a2))), true)) else (if a0 = 67 then (some (decide ((wrap64 (a1)) ≥ (wrap64 (a2))), true)) else (if a0 = 68 then (some (decide (a1 < a2), true)) else (if a0 = 69 then (some (decide (a1 ≥ a2), true)) else (some (false, false)))))))) = some (r1, r2) := h
  clear h
  by_cases c4 : a0 = 64
  · rw [if_pos c4] at H
    have c4b0 : (a0 == 64) = true := beq_iff_eq.mpr c4
    have c4b1 : (a0 != 64) = false := bne_eq_false_iff_eq.mpr c4
    clear c4
    simp only [Option.some.injEq, Prod.mk.injEq] at H
    obtain ⟨rfl, rfl⟩ := H
    go_enter Try.func15, Try.ntmps15
    go_wp2
    go_ret2
    exact ⟨by first | rfl | (simp; done) | (simp [*]; done), by repeat (first | exact Drawn0.refl _ | apply Drawn0.step)⟩
  · rw [if_neg c4] at H
    have c4b0 : (a0 == 64) = false := beq_eq_false_iff_ne.mpr c4
    have c4b1 : (a0 != 64) = true := bne_iff_ne.mpr c4
    by_cases c5 : a0 = 65
    · rw [if_pos c5] at H
      have c5b0 : (a0 == 65) = true := beq_iff_eq.mpr c5
      have c5b1 : (a0 != 65) = false := bne_eq_false_iff_eq.mpr c5
      clear c5
      simp only [Option.some.injEq, Prod.mk.injEq] at H
      obtain ⟨rfl, rfl⟩ := H
      go_enter Try.func15, Try.ntmps15
      go_wp2
      go_ret2
      exact ⟨by first | rfl | (simp; done) | (simp [*]; done), by repeat (first | exact Drawn0.refl _ | apply Drawn0.step)⟩
    · rw [if_neg c5] at H
      have c5b0 : (a0 == 65) = false := beq_eq_false_iff_ne.mpr c5
      have c5b1 : (a0 != 65) = true := bne_iff_ne.mpr c5
      by_cases c6 : a0 = 66
      · rw [if_pos c6] at H
        have c6b0 : (a0 == 66) = true := beq_iff_eq.mpr c6
        have c6b1 : (a0 != 66) = false := bne_eq_false_iff_eq.mpr c6
        clear c6
        simp only [Option.some.injEq, Prod.mk.injEq] at H
        obtain ⟨rfl, rfl⟩ := H
        go_enter Try.func15, Try.ntmps15
        go_wp2
        go_ret2
        exact ⟨by first | rfl | (simp; done) | (simp [*]; done), by repeat (first | exact Drawn0.refl _ | apply Drawn0.step)⟩
      · rw [if_neg c6] at H
        have c6b0 : (a0 == 66) = false := beq_eq_false_iff_ne.mpr c6
        have c6b1 : (a0 != 66) = true := bne_iff_ne.mpr c6
        by_cases c7 : a0 = 67
        · rw [if_pos c7] at H
          have c7b0 : (a0 == 67) = true := beq_iff_eq.mpr c7
          have c7b1 : (a0 != 67) = false := bne_eq_false_iff_eq.mpr c7
          clear c7
          simp only [Option.some.injEq, Prod.mk.injEq] at H
          obtain ⟨rfl, rfl⟩ := H
          go_enter Try.func15, Try.ntmps15
          go_wp2
          go_ret2
          exact ⟨by first | rfl | (simp; done) | (simp [*]; done), by repeat (first | exact Drawn0.refl _ | apply Drawn0.step)⟩
        · rw [if_neg c7] at H
          have c7b0 : (a0 == 67) = false := beq_eq_false_iff_ne.mpr c7
          have c7b1 : (a0 != 67) = true := bne_iff_ne.mpr c7
          by_cases c8 : a0 = 68
          · rw [if_pos c8] at H
            have c8b0 : (a0 == 68) = true := beq_iff_eq.mpr c8
            have c8b1 : (a0 != 68) = false := bne_eq_false_iff_eq.mpr c8
            clear c8
            simp only [Option.some.injEq, Prod.mk.injEq] at H
            obtain ⟨rfl, rfl⟩ := H
            go_enter Try.func15, Try.ntmps15
            go_wp2
            go_ret2
            exact ⟨by first | rfl | (simp; done) | (simp [*]; done), by repeat (first | exact Drawn0.refl _ | apply Drawn0.step)⟩
          · rw [if_neg c8] at H
            have c8b0 : (a0 == 68) = false := beq_eq_false_iff_ne.mpr c8
            have c8b1 : (a0 != 68) = true := bne_iff_ne.mpr c8
            by_cases c9 : a0 = 69
            · rw [if_pos c9] at H
              have c9b0 : (a0 == 69) = true := beq_iff_eq.mpr c9
              have c9b1 : (a0 != 69) = false := bne_eq_false_iff_eq.mpr c9
              clear c9
              simp only [Option.some.injEq, Prod.mk.injEq] at H
              obtain ⟨rfl, rfl⟩ := H
              go_enter Try.func15, Try.ntmps15
              go_wp2
              go_ret2
              exact ⟨by first | rfl | (simp; done) | (simp [*]; done), by repeat (first | exact Drawn0.refl _ | apply Drawn0.step)⟩
            · rw [if_neg c9] at H
              have c9b0 : (a0 == 69) = false := beq_eq_false_iff_ne.mpr c9
              have c9b1 : (a0 != 69) = true := bne_iff_ne.mpr c9
              simp only [Option.some.injEq, Prod.mk.injEq] at H
              obtain ⟨rfl, rfl⟩ := H
              go_enter Try.func15, Try.ntmps15
              go_wp2
              go_ret2
              exact ⟨by first | rfl | (simp; done) | (simp [*]; done), by repeat (first | exact Drawn0.refl _ | apply Drawn0.step)⟩

/-! ### impl_Taken: function 16 -/
def impl_Taken.f (a0 : Int) (a1 : Int) (a2 : Int) : Option (Bool × Bool) := if a0 = 64 then (some ((a1 == a2), true)) else (if a0 = 65 then (some ((a1 != a2), true)) else (if a0 = 66 then (some (decide ((wrap64 (a1)) < (wrap64 (a2))), true)) else (if a0 = 67 then (some (decide ((wrap64 (a1)) ≥ (wrap64 (a2))), true)) else (if a0 = 68 then (some (decide (a1 < a2), true)) else (if a0 = 69 then (some (decide (a1 ≥ a2), true)) else (some (false, false)))))))
set_option maxHeartbeats 8000000 in
set_option maxRecDepth 100000 in
theorem impl_Taken.calls (a0 : Int) (a1 : Int) (a2 : Int) (r1 : Bool) (r2 : Bool) (w : World) (h : impl_Taken.f a0 a1 a2 = some (r1, r2)) :
    Calls Try.prog 16 #[.int .i64 a0, .int .u64 a1, .int .u64 a2] w fun e w' => e = .returned (.tuple #[.bool r1, .bool r2]) ∧ Drawn0 w w' := by
  have H : (if a0 = 64 then (some ((a1 == a2), true)) else (if a0 = 65 then (some ((a1 != a2), true)) else (if a0 = 66 then (some (decide ((wrap64 (a1)) < (wrap64 (a2))), true)) else (if a0 = 67 then (some (decide ((wrap64 (a1)) ≥ (wrap64 (a2))), true)) else (if a0 = 68 then (some (decide (a1 < a2), true)) else (if a0 = 69 then (some (decide (a1 ≥ a2), true)) else (some (false, false)))))))) = some (r1, r2) := h
  clear h
  by_cases c4 : a0 = 64
  · rw [if_pos c4] at H
    have c4b0 : (a0 == 64) = true := beq_iff_eq.mpr c4
    have c4b1 : (a0 != 64) = false := bne_eq_false_iff_eq.mpr c4
    clear c4
    simp only [Option.some.injEq, Prod.mk.injEq] at H
    obtain ⟨rfl, rfl⟩ := H
    go_enter Try.func16, Try.ntmps16
    go_wp2
    go_ret2
    exact ⟨by first | rfl | (simp; done) | (simp [*]; done), by repeat (first | exact Drawn0.refl _ | apply Drawn0.step)⟩
  · rw [if_neg c4] at H
    have c4b0 : (a0 == 64) = false := beq_eq_false_iff_ne.mpr c4
    have c4b1 : (a0 != 64) = true := bne_iff_ne.mpr c4
    by_cases c5 : a0 = 65
    · rw [if_pos c5] at H
      have c5b0 : (a0 == 65) = true := beq_iff_eq.mpr c5
      have c5b1 : (a0 != 65) = false := bne_eq_false_iff_eq.mpr c5
      clear c5
      simp only [Option.some.injEq, Prod.mk.injEq] at H
      obtain ⟨rfl, rfl⟩ := H
      go_enter Try.func16, Try.ntmps16
      go_wp2
      go_ret2
      exact ⟨by first | rfl | (simp; done) | (simp [*]; done), by repeat (first | exact Drawn0.refl _ | apply Drawn0.step)⟩
    · rw [if_neg c5] at H
      have c5b0 : (a0 == 65) = false := beq_eq_false_iff_ne.mpr c5
      have c5b1 : (a0 != 65) = true := bne_iff_ne.mpr c5
      by_cases c6 : a0 = 66
      · rw [if_pos c6] at H
        have c6b0 : (a0 == 66) = true := beq_iff_eq.mpr c6
        have c6b1 : (a0 != 66) = false := bne_eq_false_iff_eq.mpr c6
        clear c6
        simp only [Option.some.injEq, Prod.mk.injEq] at H
        obtain ⟨rfl, rfl⟩ := H
        go_enter Try.func16, Try.ntmps16
        go_wp2
        go_ret2
        exact ⟨by first | rfl | (simp; done) | (simp [*]; done), by repeat (first | exact Drawn0.refl _ | apply Drawn0.step)⟩
      · rw [if_neg c6] at H
        have c6b0 : (a0 == 66) = false := beq_eq_false_iff_ne.mpr c6
        have c6b1 : (a0 != 66) = true := bne_iff_ne.mpr c6
        by_cases c7 : a0 = 67
        · rw [if_pos c7] at H
          have c7b0 : (a0 == 67) = true := beq_iff_eq.mpr c7
          have c7b1 : (a0 != 67) = false := bne_eq_false_iff_eq.mpr c7
          clear c7
          simp only [Option.some.injEq, Prod.mk.injEq] at H
          obtain ⟨rfl, rfl⟩ := H
          go_enter Try.func16, Try.ntmps16
          go_wp2
          go_ret2
          exact ⟨by first | rfl | (simp; done) | (simp [*]; done), by repeat (first | exact Drawn0.refl _ | apply Drawn0.step)⟩
        · rw [if_neg c7] at H
          have c7b0 : (a0 == 67) = false := beq_eq_false_iff_ne.mpr c7
          have c7b1 : (a0 != 67) = true := bne_iff_ne.mpr c7
          by_cases c8 : a0 = 68
          · rw [if_pos c8] at H
            have c8b0 : (a0 == 68) = true := beq_iff_eq.mpr c8
            have c8b1 : (a0 != 68) = false := bne_eq_false_iff_eq.mpr c8
            clear c8
            simp only [Option.some.injEq, Prod.mk.injEq] at H
            obtain ⟨rfl, rfl⟩ := H
            go_enter Try.func16, Try.ntmps16
            go_wp2
            go_ret2
            exact ⟨by first | rfl | (simp; done) | (simp [*]; done), by repeat (first | exact Drawn0.refl _ | apply Drawn0.step)⟩
          · rw [if_neg c8] at H
            have c8b0 : (a0 == 68) = false := beq_eq_false_iff_ne.mpr c8
            have c8b1 : (a0 != 68) = true := bne_iff_ne.mpr c8
            by_cases c9 : a0 = 69
            · rw [if_pos c9] at H
              have c9b0 : (a0 == 69) = true := beq_iff_eq.mpr c9
              have c9b1 : (a0 != 69) = false := bne_eq_false_iff_eq.mpr c9
              clear c9
              simp only [Option.some.injEq, Prod.mk.injEq] at H
              obtain ⟨rfl, rfl⟩ := H
              go_enter Try.func16, Try.ntmps16
              go_wp2
              go_ret2
              exact ⟨by first | rfl | (simp; done) | (simp [*]; done), by repeat (first | exact Drawn0.refl _ | apply Drawn0.step)⟩
            · rw [if_neg c9] at H
              have c9b0 : (a0 == 69) = false := beq_eq_false_iff_ne.mpr c9
              have c9b1 : (a0 != 69) = true := bne_iff_ne.mpr c9
              simp only [Option.some.injEq, Prod.mk.injEq] at H
              obtain ⟨rfl, rfl⟩ := H
              go_enter Try.func16, Try.ntmps16
              go_wp2
              go_ret2
              exact ⟨by first | rfl | (simp; done) | (simp [*]; done), by repeat (first | exact Drawn0.refl _ | apply Drawn0.step)⟩

/-! ### laws_FnExactTaken: function 7 -/
def laws_FnExactTaken.f (a0 : Int) (a1 : Int) (a2 : Int) : Option (Bool) := (spec_Taken.f a0 a1 a2).bind fun bt101 => ((impl_Taken.f a0 a1 a2).bind fun bt103 => (if (bt103.1 != bt101.1) = true then (some false) else (if (bt103.2 != bt101.2) = true then (some false) else (some true))))
set_option maxHeartbeats 8000000 in
set_option maxRecDepth 100000 in
theorem laws_FnExactTaken.calls (a0 : Int) (a1 : Int) (a2 : Int) (r : Bool) (w : World) (h : laws_FnExactTaken.f a0 a1 a2 = some r) :
    Calls Try.prog 7 #[.int .i64 a0, .int .u64 a1, .int .u64 a2] w fun e w' => e = .returned (.bool r) ∧ Drawn0 w w' := by
  have H : ((spec_Taken.f a0 a1 a2).bind fun bt101 => ((impl_Taken.f a0 a1 a2).bind fun bt103 => (if (bt103.1 != bt101.1) = true then (some false) else (if (bt103.2 != bt101.2) = true then (some false) else (some true))))) = some r := h
  clear h
  replace H := Option.bind_eq_some_iff.mp H
  obtain ⟨⟨t101, t102⟩, A40, H⟩ := H
  replace H : ((impl_Taken.f a0 a1 a2).bind fun bt103 => (if (bt103.1 != t101) = true then (some false) else (if (bt103.2 != t102) = true then (some false) else (some true)))) = some r := H
  have A4 := Aside0.mk A40
  clear A40
  replace H := Option.bind_eq_some_iff.mp H
  obtain ⟨⟨t103, t104⟩, A50, H⟩ := H
  replace H : (if (t103 != t101) = true then (some false) else (if (t104 != t102) = true then (some false) else (some true))) = some r := H
  have A5 := Aside0.mk A50
  clear A50
  by_cases c6 : (t103 != t101) = true
  · rw [if_pos c6] at H
    have c6b0 : (t103 != t101) = true := c6
    (try (have c6b1 : decide (t103 = t101) = false := by simpa using c6))
    (try (have c6b2 : (t103 == t101) = false := by simpa using c6))
    (try (have c6b3 : ¬ (t103 = t101) := by simpa using c6))
    clear c6
    obtain rfl := Option.some.inj H
    go_enter Try.func7, Try.ntmps7
    go_wp2_with (first | ((with_reducible refine gate_callee (f := 15) rfl ?_); refine goesL_ (some 15) rfl rfl Try.func15 (by kernel_rfl) rfl #[.int .i64 a0, .int .u64 a1, .int .u64 a2] rfl (by (try simp only [List.map_toArray, List.map_cons, List.map_nil]); first | done | rfl | (simp only [List.length_drop, List.length_take]; rfl)) ?_; (with_reducible refine (spec_Taken.calls a0 a1 a2 t101 t102 _ A4.out).mono ?_); rintro e w' ⟨rfl, ⟨nd, rfl⟩⟩; refine ⟨_, rfl, ?_⟩) | ((with_reducible refine gate_callee (f := 16) rfl ?_); refine goesL_ (some 22) rfl rfl Try.func16 (by kernel_rfl) rfl #[.int .i64 a0, .int .u64 a1, .int .u64 a2] rfl (by (try simp only [List.map_toArray, List.map_cons, List.map_nil]); first | done | rfl | (simp only [List.length_drop, List.length_take]; rfl)) ?_; (with_reducible refine (impl_Taken.calls a0 a1 a2 t103 t104 _ A5.out).mono ?_); rintro e w' ⟨rfl, ⟨nd, rfl⟩⟩; refine ⟨_, rfl, ?_⟩))
    go_ret
    exact ⟨by first | rfl | (simp; done) | (simp [*]; done), by repeat (first | exact Drawn0.refl _ | apply Drawn0.step)⟩
  · rw [if_neg c6] at H
    have c6b0 : (t103 != t101) = false := by simpa using c6
    (try (have c6b1 : decide (t103 = t101) = true := by simpa using c6))
    (try (have c6b2 : (t103 == t101) = true := by simpa using c6))
    clear c6
    by_cases c7 : (t104 != t102) = true
    · rw [if_pos c7] at H
      have c7b0 : (t104 != t102) = true := c7
      (try (have c7b1 : decide (t104 = t102) = false := by simpa using c7))
      (try (have c7b2 : (t104 == t102) = false := by simpa using c7))
      (try (have c7b3 : ¬ (t104 = t102) := by simpa using c7))
      clear c7
      obtain rfl := Option.some.inj H
      go_enter Try.func7, Try.ntmps7
      go_wp2_with (first | ((with_reducible refine gate_callee (f := 15) rfl ?_); refine goesL_ (some 15) rfl rfl Try.func15 (by kernel_rfl) rfl #[.int .i64 a0, .int .u64 a1, .int .u64 a2] rfl (by (try simp only [List.map_toArray, List.map_cons, List.map_nil]); first | done | rfl | (simp only [List.length_drop, List.length_take]; rfl)) ?_; (with_reducible refine (spec_Taken.calls a0 a1 a2 t101 t102 _ A4.out).mono ?_); rintro e w' ⟨rfl, ⟨nd, rfl⟩⟩; refine ⟨_, rfl, ?_⟩) | ((with_reducible refine gate_callee (f := 16) rfl ?_); refine goesL_ (some 22) rfl rfl Try.func16 (by kernel_rfl) rfl #[.int .i64 a0, .int .u64 a1, .int .u64 a2] rfl (by (try simp only [List.map_toArray, List.map_cons, List.map_nil]); first | done | rfl | (simp only [List.length_drop, List.length_take]; rfl)) ?_; (with_reducible refine (impl_Taken.calls a0 a1 a2 t103 t104 _ A5.out).mono ?_); rintro e w' ⟨rfl, ⟨nd, rfl⟩⟩; refine ⟨_, rfl, ?_⟩))
      go_ret
      exact ⟨by first | rfl | (simp; done) | (simp [*]; done), by repeat (first | exact Drawn0.refl _ | apply Drawn0.step)⟩
    · rw [if_neg c7] at H
      have c7b0 : (t104 != t102) = false := by simpa using c7
      (try (have c7b1 : decide (t104 = t102) = true := by simpa using c7))
      (try (have c7b2 : (t104 == t102) = true := by simpa using c7))
      clear c7
      obtain rfl := Option.some.inj H
      go_enter Try.func7, Try.ntmps7
      go_wp2_with (first | ((with_reducible refine gate_callee (f := 15) rfl ?_); refine goesL_ (some 15) rfl rfl Try.func15 (by kernel_rfl) rfl #[.int .i64 a0, .int .u64 a1, .int .u64 a2] rfl (by (try simp only [List.map_toArray, List.map_cons, List.map_nil]); first | done | rfl | (simp only [List.length_drop, List.length_take]; rfl)) ?_; (with_reducible refine (spec_Taken.calls a0 a1 a2 t101 t102 _ A4.out).mono ?_); rintro e w' ⟨rfl, ⟨nd, rfl⟩⟩; refine ⟨_, rfl, ?_⟩) | ((with_reducible refine gate_callee (f := 16) rfl ?_); refine goesL_ (some 22) rfl rfl Try.func16 (by kernel_rfl) rfl #[.int .i64 a0, .int .u64 a1, .int .u64 a2] rfl (by (try simp only [List.map_toArray, List.map_cons, List.map_nil]); first | done | rfl | (simp only [List.length_drop, List.length_take]; rfl)) ?_; (with_reducible refine (impl_Taken.calls a0 a1 a2 t103 t104 _ A5.out).mono ?_); rintro e w' ⟨rfl, ⟨nd, rfl⟩⟩; refine ⟨_, rfl, ?_⟩))
      go_ret
      exact ⟨by first | rfl | (simp; done) | (simp [*]; done), by repeat (first | exact Drawn0.refl _ | apply Drawn0.step)⟩

/-- THE ONE PURE STATEMENT of laws_FnExactTaken: yours. -/
def laws_FnExactTaken.Pure : Prop := ∀ (a0 : Int) (a1 : Int) (a2 : Int), (Lit.int .i64 a0).wf = true → (Lit.int .u64 a1).wf = true → (Lit.int .u64 a2).wf = true → laws_FnExactTaken.f a0 a1 a2 = some true
theorem laws_FnExactTaken.walk (P : laws_FnExactTaken.Pure) (a0 : Int) (a1 : Int) (a2 : Int) (w : World) (w0 : (Lit.int .i64 a0).wf = true) (w1 : (Lit.int .u64 a1).wf = true) (w2 : (Lit.int .u64 a2).wf = true) :
    Calls Try.prog 7 #[.int .i64 a0, .int .u64 a1, .int .u64 a2] w fun e w' => e = .returned (.bool true) ∧ Below w.heap.size w w' := by
  have h := P a0 a1 a2 w0 w1 w2
  refine (laws_FnExactTaken.calls a0 a1 a2 true w h).mono ?_
  rintro e w' ⟨rfl, hd⟩
  exact ⟨rfl, hd.below⟩

end Go.Proofs.Ytnncefankndkaaa.PFnExactTaken
