/- The walk of impl.Alu, for some of its operations. -/
import Derived.Test.YtmbcihfdfohfcaaPFnExactAlux5
namespace Go.Proofs.Ytmbcihfdfohfcaa.PFnExactAlu
open Go.RowKit Go.Proofs.YtmbcihfdfohfcaaW.PrintWords Go.Proofs.YtmbcihfdfohfcaaW.PrintLast Go.Proofs.YtmbcihfdfohfcaaW.PrintMore
attribute [local go_sem] max2_int min2_int max_two min_two max_three min_three max_four min_four   -- for this text's walks alone
set_option linter.unusedVariables false
set_option linter.unusedSimpArgs false

set_option maxHeartbeats 40000000 in
set_option maxRecDepth 100000 in
theorem impl_Alu.callsA (k : Nat) (a0 : Int) (a1 : Int) (a2 : Int) (r1 : Int) (r2 : Bool) (w : World) (hP_ : 1 ≤ impl_Alu.op0 a0 ∧ impl_Alu.op0 a0 ≤ 13) (h : impl_Alu.f k a0 a1 a2 = some (r1, r2)) :
    Calls Try.prog 8 #[.int .i64 a0, .int .u64 a1, .int .u64 a2] w fun e w' => e = .returned (.tuple #[.int .u64 r1, .bool r2]) ∧ Below w.heap.size w w' := by
  have HB := Aside0.mk (Below.refl w.heap.size w)
  have H : (if a0 ≥ 32 then (impl_Alu.j0 k a0 a1 a2 (decide (a0 ≤ 41))) else (impl_Alu.j0 k a0 a1 a2 false)) = some (r1, r2) := h
  clear h
  have HC4 := Aside0.mk H
  clear H
  go_enter Try.func8, Try.ntmps8
  go_upto_region 1 with (fail)
  go_cut [22] (fun v22 wc => ∃ (kq : Nat) (x22_3 : Bool), v22 = .bool x22_3 ∧ Aside0 (impl_Alu.j0 kq a0 a1 a2 x22_3 = some (r1, r2)) ∧ Aside0 (kq ≤ k) ∧ Aside0 (Below w.heap.size w wc) ∧ Aside0 (x22_3 = decide (32 ≤ a0 ∧ a0 ≤ 41)))
  case first =>
    have H := HC4.out
    clear HC4
    by_cases c5 : a0 ≥ 32
    · rw [if_pos c5] at H
      have c5b0 : decide (32 ≤ a0) = true := decide_eq_true c5
      clear c5
      (first | rw [c5b0] | (simp only [i64_w, i32_w]; rw [c5b0]) | skip)
      have H' := Aside0.mk H
      clear H
      go_wp2
      go_meet
      case rel => exact ⟨_, (decide (a0 ≤ 41)), (by first | rfl | exact congrArg (Value.int .i64) (i64_w _) | (simp; done) | (simp [*]; done)), H', ⟨by first | omega | exact Nat.le_refl _⟩, ⟨by repeat (first | (with_reducible first | exact HB.out | apply below_alloc | apply pw_below_drewN | apply below_drew1) | exact HB.out)⟩, ⟨by have h_ := of_decide_eq_true c5b0; rw [decide_eq_decide]; exact ⟨fun h => ⟨h_, h⟩, fun h => h.2⟩⟩⟩
    · rw [if_neg c5] at H
      have c5b0 : decide (32 ≤ a0) = false := decide_eq_false c5
      clear c5
      (first | rw [c5b0] | (simp only [i64_w, i32_w]; rw [c5b0]) | skip)
      have H' := Aside0.mk H
      clear H
      go_wp2
      go_meet
      case rel => exact ⟨_, (false), (by first | rfl | exact congrArg (Value.int .i64) (i64_w _) | (simp; done) | (simp [*]; done)), H', ⟨by first | omega | exact Nat.le_refl _⟩, ⟨by repeat (first | (with_reducible first | exact HB.out | apply below_alloc | apply pw_below_drewN | apply below_drew1) | exact HB.out)⟩, ⟨(decide_eq_false (fun h => absurd h.1 (of_decide_eq_false c5b0))).symm⟩⟩
  case rest =>
    clear HC4
    try clear p2
    try clear c5
    try clear c5b0
    obtain ⟨kq, x22_3, rfl, HA, HJ3, HB, HX22_⟩ := hcut
    cases kq with
    | zero => exact absurd HA.out (by simp [impl_Alu.j0])
    | succ kj3 =>
      have H := HA.out
      clear HA
      simp only [impl_Alu.j0] at H
      have HC6 := Aside0.mk H
      clear H
      go_upto_if 22 with (fail)
      go_cut [0] (fun v0 wc => ∃ (kq : Nat) (x0_5 : Int), v0 = .int .i64 x0_5 ∧ Aside0 (impl_Alu.j1 kq x0_5 a1 a2 = some (r1, r2)) ∧ Aside0 (kq ≤ kj3) ∧ Aside0 (Below w.heap.size w wc) ∧ Aside0 (x0_5 = impl_Alu.op0 a0))
      case first =>
        have H := HC6.out
        clear HC6
        by_cases c7 : x22_3 = true
        · subst c7
          have H1 : ((some (([1, 3, 4, 5, 6, 7, 8, 9, 10, 18] : List Int) : List Int)).bind fun y201 => (if 0 ≤ (wrap64 (a0 - 32)) then (if (wrap64 (a0 - 32)) < (y201.length : Int) then (impl_Alu.j1 kj3 (rd y201 (wrap64 (a0 - 32))) a1 a2) else (none)) else (none))) = some (r1, r2) := by rw [if_pos rfl] at H; exact H
          clear H
          have H := H1
          clear H1
          obtain ⟨y201, hy201⟩ : ∃ y_ : List Int, y_ = (([1, 3, 4, 5, 6, 7, 8, 9, 10, 18] : List Int)) := ⟨_, rfl⟩
          replace H : (if 0 ≤ (wrap64 (a0 - 32)) then (if (wrap64 (a0 - 32)) < (y201.length : Int) then (impl_Alu.j1 kj3 (rd y201 (wrap64 (a0 - 32))) a1 a2) else (none)) else (none)) = some (r1, r2) := by first | (rw [hy201]; with_reducible exact H) | (have H2_ := (Option.bind_some _ _).symm.trans H; rw [hy201]; with_reducible exact H2_) | (have H2_ := (Option.bind_some _ _).symm.trans H; with_reducible exact H2_) | with_reducible exact H | (rw [hy201]; exact H) | exact H
          have Ny201 := Aside0.mk hy201
          clear hy201
          obtain ⟨ji8, hji8⟩ : ∃ j_ : Int, (wrap64 (a0 - 32)) = j_ := ⟨_, rfl⟩
          replace H : (if 0 ≤ (ji8) then (if (ji8) < (y201.length : Int) then (impl_Alu.j1 kj3 (rd y201 (ji8)) a1 a2) else (none)) else (none)) = some (r1, r2) := by first | (rw [hji8] at H; exact H) | (simp only [hji8] at H ⊢; exact H)
          have hji8w : (IntKind.i64.wrap (a0 - 32)) = ji8 := (i64_w _).trans hji8
          by_cases c9 : 0 ≤ (ji8)
          · rw [if_pos c9] at H
            have c9b0 : decide (0 ≤ (ji8)) = true := decide_eq_true c9
            clear c9
            (first | rw [c9b0] | (simp only [i64_w, i32_w]; rw [c9b0]) | skip)
            by_cases c10 : (ji8) < (y201.length : Int)
            · rw [if_pos c10] at H
              have c10b0 : decide ((ji8) < (y201.length : Int)) = true := decide_eq_true c10
              clear c10
              have H' := Aside0.mk H
              clear H
              go_wp2_with (first | ((with_reducible refine gate_dst (N := 23) rfl ?_); refine Kd.R_lit (Kd.int .i64) _ 2 ?hg (N := 23) ?hd (xs := ([1, 3, 4, 5, 6, 7, 8, 9, 10, 18] : List Int)) (inner := [.int .i64 1, .int .i64 3, .int .i64 4, .int .i64 5, .int .i64 6, .int .i64 7, .int .i64 8, .int .i64 9, .int .i64 10, .int .i64 18]) (ok := fun _ => True) (okp := fun _ => True) ?hr ?hp (fun _ hk => hk) trivial (Below.refl _ _) (Nat.le_refl _) (by simp) ?_; (case hd => rfl); (case hg => rfl); (case hr => first | (go_simp; done) | (go_simp; rfl)); (case hp => exact (Reps.one (show Kd.M (Kd.int .i64) _ _ _ 1 [.int .i64 1] from rfl) (Reps.one (show Kd.M (Kd.int .i64) _ _ _ 3 [.int .i64 3] from rfl) (Reps.one (show Kd.M (Kd.int .i64) _ _ _ 4 [.int .i64 4] from rfl) (Reps.one (show Kd.M (Kd.int .i64) _ _ _ 5 [.int .i64 5] from rfl) (Reps.one (show Kd.M (Kd.int .i64) _ _ _ 6 [.int .i64 6] from rfl) (Reps.one (show Kd.M (Kd.int .i64) _ _ _ 7 [.int .i64 7] from rfl) (Reps.one (show Kd.M (Kd.int .i64) _ _ _ 8 [.int .i64 8] from rfl) (Reps.one (show Kd.M (Kd.int .i64) _ _ _ 9 [.int .i64 9] from rfl) (Reps.one (show Kd.M (Kd.int .i64) _ _ _ 10 [.int .i64 10] from rfl) (Reps.one (show Kd.M (Kd.int .i64) _ _ _ 18 [.int .i64 18] from rfl) (Reps.none _ _)))))))))))); intro v202 w11 ho12 hb hg_ hnew_; clear hg_ hnew_; (first | rw [← Ny201.out] at ho12 | (simp only [Int.reduceToNat] at ho12; rw [← Ny201.out] at ho12)); have n0_ := Aside0.mk (Kd.R_lower ho12 (below_size (by repeat (first | (with_reducible first | exact HB.out | apply below_alloc | apply pw_below_drewN | apply below_drew1) | exact HB.out)))); have n1_ := Aside0.mk (below_step (by repeat (first | (with_reducible first | exact HB.out | apply below_alloc | apply pw_below_drewN | apply below_drew1) | exact HB.out)) hb); clear HB; have HO203 := n0_; have HB := n1_; clear n0_ n1_; clear hb ho12; obtain ⟨Ao13, co13, eo13⟩ := Kd.R_slice HO203.out; subst eo13; have p204 : 0 ≤ ((ji8) : Int) := of_decide_eq_true (by first | (with_reducible assumption) | assumption); have q204 : (ji8) < (y201.length : Int) := of_decide_eq_true (by first | (with_reducible assumption) | assumption); obtain ⟨ad204, e204, hx204_0⟩ := Kd.at_int (Kd.R_reads' HO203.out).2.2 (ji8) p204 q204; cases e204; replace p204 := eq_true p204; replace q204 := eq_true q204))
              go_meet
              case rel => exact ⟨_, (rd y201 (ji8)), (by first | rfl | (simp; done) | (simp only [← hji8] <;> (first | rfl | simp)) | (simp [*]; done)), H', ⟨by have := HJ3.out; first | omega | exact Nat.le_refl _⟩, ⟨by repeat (first | (with_reducible first | exact HB.out | apply below_alloc | apply pw_below_drewN | apply below_drew1) | exact HB.out)⟩, ⟨by unfold impl_Alu.op0; rw [if_pos (of_decide_eq_true HX22_.out.symm), hji8, Ny201.out]⟩⟩
            · rw [if_neg c10] at H
              exact absurd H (by simp)
          · rw [if_neg c9] at H
            exact absurd H (by simp)
        · replace c7 := Bool.eq_false_iff.mpr c7
          subst c7
          have H1 : (impl_Alu.j1 kj3 a0 a1 a2) = some (r1, r2) := by rw [if_neg (show ¬ (false = true) by decide)] at H; exact H
          clear H
          have H := H1
          clear H1
          have H' := Aside0.mk H
          clear H
          go_wp2
          go_meet
          case rel => exact ⟨_, (a0), (by first | rfl | exact congrArg (Value.int .i64) (i64_w _) | (simp; done) | (simp [*]; done)), H', ⟨by have := HJ3.out; first | omega | exact Nat.le_refl _⟩, ⟨by repeat (first | (with_reducible first | exact HB.out | apply below_alloc | apply pw_below_drewN | apply below_drew1) | exact HB.out)⟩, ⟨by unfold impl_Alu.op0; rw [if_neg (of_decide_eq_false HX22_.out.symm)]⟩⟩
      case rest =>
        clear HC6
        try clear c1
        try clear p2
        try clear q2
        try clear hx2
        try clear c5
        try clear c5b0
        try clear p6
        try clear c7
        try clear c8
        try clear c9
        try clear c9b0
        try clear c10
        try clear c10b0
        try clear hx204_0
        try clear p2
        try clear p204
        try clear q204
        obtain ⟨kq, x0_5, rfl, HA, HJ5, HB, HX0_⟩ := hcut
        have hpr_ : Aside0 (1 ≤ x0_5 ∧ x0_5 ≤ 13) := ⟨by rw [HX0_.out]; exact hP_⟩
        cases kq with
        | zero => exact absurd HA.out (by simp [impl_Alu.j1])
        | succ kj5 =>
          have H := HA.out
          clear HA
          simp only [impl_Alu.j1] at H
          by_cases c14 : x0_5 = 1
          · rw [if_pos c14] at H
            have c14b0 : (x0_5 == 1) = true := beq_iff_eq.mpr c14
            have c14b1 : (x0_5 != 1) = false := bne_eq_false_iff_eq.mpr c14
            clear c14
            simp only [Option.some.injEq, Prod.mk.injEq] at H
            obtain ⟨rfl, rfl⟩ := H
            go_wp2
            go_ret2
            exact ⟨by first | rfl | (simp [errW_none, errW_some] <;> rfl) | (simp [*, errW_none, errW_some] <;> rfl), by repeat (first | (with_reducible first | exact HB.out | apply below_alloc | apply pw_below_drewN | apply below_drew1) | exact HB.out)⟩
          · rw [if_neg c14] at H
            have c14b0 : (x0_5 == 1) = false := beq_eq_false_iff_ne.mpr c14
            have c14b1 : (x0_5 != 1) = true := bne_iff_ne.mpr c14
            go_upto_region 9 with (fail)
            by_cases c15 : x0_5 = 2
            · rw [if_pos c15] at H
              have c15b0 : (x0_5 == 2) = true := beq_iff_eq.mpr c15
              have c15b1 : (x0_5 != 2) = false := bne_eq_false_iff_eq.mpr c15
              clear c15
              simp only [Option.some.injEq, Prod.mk.injEq] at H
              obtain ⟨rfl, rfl⟩ := H
              go_wp2
              go_ret2
              exact ⟨by first | rfl | (simp [errW_none, errW_some] <;> rfl) | (simp [*, errW_none, errW_some] <;> rfl), by repeat (first | (with_reducible first | exact HB.out | apply below_alloc | apply pw_below_drewN | apply below_drew1) | exact HB.out)⟩
            · rw [if_neg c15] at H
              have c15b0 : (x0_5 == 2) = false := beq_eq_false_iff_ne.mpr c15
              have c15b1 : (x0_5 != 2) = true := bne_iff_ne.mpr c15
              go_upto_region 11 with (fail)
              by_cases c16 : x0_5 = 3
              · rw [if_pos c16] at H
                have c16b0 : (x0_5 == 3) = true := beq_iff_eq.mpr c16
                have c16b1 : (x0_5 != 3) = false := bne_eq_false_iff_eq.mpr c16
                clear c16
                simp only [Option.some.injEq, Prod.mk.injEq] at H
                obtain ⟨rfl, rfl⟩ := H
                go_wp2
                go_ret2
                exact ⟨by first | rfl | (simp [errW_none, errW_some] <;> rfl) | (simp [*, errW_none, errW_some] <;> rfl), by repeat (first | (with_reducible first | exact HB.out | apply below_alloc | apply pw_below_drewN | apply below_drew1) | exact HB.out)⟩
              · rw [if_neg c16] at H
                have c16b0 : (x0_5 == 3) = false := beq_eq_false_iff_ne.mpr c16
                have c16b1 : (x0_5 != 3) = true := bne_iff_ne.mpr c16
                go_upto_region 13 with (fail)
                by_cases c17 : x0_5 = 4
                · rw [if_pos c17] at H
                  have c17b0 : (x0_5 == 4) = true := beq_iff_eq.mpr c17
                  have c17b1 : (x0_5 != 4) = false := bne_eq_false_iff_eq.mpr c17
                  clear c17
                  simp only [Option.some.injEq, Prod.mk.injEq] at H
                  obtain ⟨rfl, rfl⟩ := H
                  go_wp2
                  go_ret2
                  exact ⟨by first | rfl | (simp [errW_none, errW_some] <;> rfl) | (simp [*, errW_none, errW_some] <;> rfl), by repeat (first | (with_reducible first | exact HB.out | apply below_alloc | apply pw_below_drewN | apply below_drew1) | exact HB.out)⟩
                · rw [if_neg c17] at H
                  have c17b0 : (x0_5 == 4) = false := beq_eq_false_iff_ne.mpr c17
                  have c17b1 : (x0_5 != 4) = true := bne_iff_ne.mpr c17
                  go_upto_region 15 with (fail)
                  by_cases c18 : x0_5 = 5
                  · rw [if_pos c18] at H
                    have c18b0 : (x0_5 == 5) = true := beq_iff_eq.mpr c18
                    have c18b1 : (x0_5 != 5) = false := bne_eq_false_iff_eq.mpr c18
                    clear c18
                    simp only [Option.some.injEq, Prod.mk.injEq] at H
                    obtain ⟨rfl, rfl⟩ := H
                    go_wp2
                    go_ret2
                    exact ⟨by first | rfl | (simp [errW_none, errW_some] <;> rfl) | (simp [*, errW_none, errW_some] <;> rfl), by repeat (first | (with_reducible first | exact HB.out | apply below_alloc | apply pw_below_drewN | apply below_drew1) | exact HB.out)⟩
                  · rw [if_neg c18] at H
                    have c18b0 : (x0_5 == 5) = false := beq_eq_false_iff_ne.mpr c18
                    have c18b1 : (x0_5 != 5) = true := bne_iff_ne.mpr c18
                    go_upto_region 17 with (fail)
                    by_cases c19 : x0_5 = 6
                    · rw [if_pos c19] at H
                      have c19b0 : (x0_5 == 6) = true := beq_iff_eq.mpr c19
                      have c19b1 : (x0_5 != 6) = false := bne_eq_false_iff_eq.mpr c19
                      clear c19
                      by_cases c20 : 0 ≤ (Go.bits .and .u64 a2 63)
                      · rw [if_pos c20] at H
                        have c20b0 := eq_true c20
                        have c20b1 : decide (0 ≤ (Go.bits .and .u64 a2 63)) = true := decide_eq_true c20
                        clear c20
                        obtain ⟨ji21, hji21⟩ : ∃ j_ : Int, (shl .u64 a1 (Go.bits .and .u64 a2 63)) = j_ := ⟨_, rfl⟩
                        replace H : (some (ji21, true)) = some (r1, r2) := by first | (rw [hji21] at H; exact H) | (simp only [hji21] at H ⊢; exact H)
                        have hji21_ : (IntKind.u64.wrap (a1 * 2 ^ min (Go.bits .and .u64 a2 63).toNat 64)) = ji21 := hji21
                        have hji21z : (Go.bits .and .u64 a2 63) ≤ 64 → (IntKind.u64.wrap (a1 * 2 ^ (Go.bits .and .u64 a2 63).toNat)) = ji21 := shl_small hji21
                        simp only [Option.some.injEq, Prod.mk.injEq] at H
                        obtain ⟨rfl, rfl⟩ := H
                        go_wp2
                        go_ret2
                        exact ⟨by first | rfl | (simp [errW_none, errW_some] <;> rfl) | (simp only [← hji21]; first | rfl | (simp [errW_none, errW_some] <;> rfl)) | (simp [*, errW_none, errW_some] <;> rfl), by repeat (first | (with_reducible first | exact HB.out | apply below_alloc | apply pw_below_drewN | apply below_drew1) | exact HB.out)⟩
                      · rw [if_neg c20] at H
                        exact absurd H (by simp)
                    · rw [if_neg c19] at H
                      have c19b0 : (x0_5 == 6) = false := beq_eq_false_iff_ne.mpr c19
                      have c19b1 : (x0_5 != 6) = true := bne_iff_ne.mpr c19
                      go_upto_region 19 with (fail)
                      by_cases c22 : x0_5 = 7
                      · rw [if_pos c22] at H
                        have c22b0 : (x0_5 == 7) = true := beq_iff_eq.mpr c22
                        have c22b1 : (x0_5 != 7) = false := bne_eq_false_iff_eq.mpr c22
                        clear c22
                        by_cases c23 : 0 ≤ (Go.bits .and .u64 a2 63)
                        · rw [if_pos c23] at H
                          have c23b0 := eq_true c23
                          have c23b1 : decide (0 ≤ (Go.bits .and .u64 a2 63)) = true := decide_eq_true c23
                          clear c23
                          obtain ⟨ji24, hji24⟩ : ∃ j_ : Int, (shr .u64 a1 (Go.bits .and .u64 a2 63)) = j_ := ⟨_, rfl⟩
                          replace H : (some (ji24, true)) = some (r1, r2) := by first | (rw [hji24] at H; exact H) | (simp only [hji24] at H ⊢; exact H)
                          have hji24_ : (a1 / 2 ^ min (Go.bits .and .u64 a2 63).toNat 64) = ji24 := hji24
                          have hji24z : (Go.bits .and .u64 a2 63) ≤ 64 → (a1 / 2 ^ (Go.bits .and .u64 a2 63).toNat) = ji24 := shr_small hji24
                          simp only [Option.some.injEq, Prod.mk.injEq] at H
                          obtain ⟨rfl, rfl⟩ := H
                          go_wp2
                          go_ret2
                          exact ⟨by first | rfl | (simp [errW_none, errW_some] <;> rfl) | (simp only [← hji24]; first | rfl | (simp [errW_none, errW_some] <;> rfl)) | (simp [*, errW_none, errW_some] <;> rfl), by repeat (first | (with_reducible first | exact HB.out | apply below_alloc | apply pw_below_drewN | apply below_drew1) | exact HB.out)⟩
                        · rw [if_neg c23] at H
                          exact absurd H (by simp)
                      · rw [if_neg c22] at H
                        have c22b0 : (x0_5 == 7) = false := beq_eq_false_iff_ne.mpr c22
                        have c22b1 : (x0_5 != 7) = true := bne_iff_ne.mpr c22
                        go_upto_region 21 with (fail)
                        by_cases c25 : x0_5 = 8
                        · rw [if_pos c25] at H
                          have c25b0 : (x0_5 == 8) = true := beq_iff_eq.mpr c25
                          have c25b1 : (x0_5 != 8) = false := bne_eq_false_iff_eq.mpr c25
                          clear c25
                          by_cases c26 : 0 ≤ (Go.bits .and .u64 a2 63)
                          · rw [if_pos c26] at H
                            have c26b0 := eq_true c26
                            have c26b1 : decide (0 ≤ (Go.bits .and .u64 a2 63)) = true := decide_eq_true c26
                            clear c26
                            obtain ⟨ji27, hji27⟩ : ∃ j_ : Int, (shr .i64 (wrap64 (a1)) (Go.bits .and .u64 a2 63)) = j_ := ⟨_, rfl⟩
                            replace H : (some (IntKind.u64.wrap (ji27), true)) = some (r1, r2) := by first | (rw [hji27] at H; exact H) | (simp only [hji27] at H ⊢; exact H)
                            have hji27_ : ((wrap64 (a1)) / 2 ^ min (Go.bits .and .u64 a2 63).toNat 64) = ji27 := hji27
                            have hji27z : (Go.bits .and .u64 a2 63) ≤ 64 → ((wrap64 (a1)) / 2 ^ (Go.bits .and .u64 a2 63).toNat) = ji27 := shr_small hji27
                            simp only [Option.some.injEq, Prod.mk.injEq] at H
                            obtain ⟨rfl, rfl⟩ := H
                            go_wp2
                            go_ret2
                            exact ⟨by first | rfl | (simp [errW_none, errW_some] <;> rfl) | (simp only [← hji27]; first | rfl | (simp [errW_none, errW_some] <;> rfl)) | (simp [*, errW_none, errW_some] <;> rfl), by repeat (first | (with_reducible first | exact HB.out | apply below_alloc | apply pw_below_drewN | apply below_drew1) | exact HB.out)⟩
                          · rw [if_neg c26] at H
                            exact absurd H (by simp)
                        · rw [if_neg c25] at H
                          have c25b0 : (x0_5 == 8) = false := beq_eq_false_iff_ne.mpr c25
                          have c25b1 : (x0_5 != 8) = true := bne_iff_ne.mpr c25
                          go_upto_region 23 with (fail)
                          by_cases c28 : x0_5 = 9
                          · rw [if_pos c28] at H
                            have c28b0 : (x0_5 == 9) = true := beq_iff_eq.mpr c28
                            have c28b1 : (x0_5 != 9) = false := bne_eq_false_iff_eq.mpr c28
                            clear c28
                            replace H := Option.bind_eq_some_iff.mp H
                            obtain ⟨t205, A290, H⟩ := H
                            replace H : (some (t205, true)) = some (r1, r2) := H
                            have A29 := Aside0.mk A290
                            clear A290
                            simp only [Option.some.injEq, Prod.mk.injEq] at H
                            obtain ⟨rfl, rfl⟩ := H
                            go_wp2_with (first | ((with_reducible refine gate_callee (f := 28) rfl ?_); refine goesL_ (some 86) rfl rfl Try.func28 (by kernel_rfl) rfl #[.bool (decide ((wrap64 (a1)) < (wrap64 (a2))))] rfl (by (try simp only [List.map_toArray, List.map_cons, List.map_nil]); first | done | rfl | (simp only [List.length_drop, List.length_take]; rfl)) ?_; (with_reducible refine (impl_one.calls (decide ((wrap64 (a1)) < (wrap64 (a2)))) t205 _ A29.out).mono ?_); rintro e w' ⟨rfl, ⟨nd, rfl⟩⟩; refine ⟨_, rfl, ?_⟩))
                            go_ret2
                            exact ⟨by first | rfl | (simp [errW_none, errW_some] <;> rfl) | (simp [*, errW_none, errW_some] <;> rfl), by repeat (first | (with_reducible first | exact HB.out | apply below_alloc | apply pw_below_drewN | apply below_drew1) | exact HB.out)⟩
                          · rw [if_neg c28] at H
                            have c28b0 : (x0_5 == 9) = false := beq_eq_false_iff_ne.mpr c28
                            have c28b1 : (x0_5 != 9) = true := bne_iff_ne.mpr c28
                            go_upto_region 25 with (fail)
                            by_cases c30 : x0_5 = 10
                            · rw [if_pos c30] at H
                              have c30b0 : (x0_5 == 10) = true := beq_iff_eq.mpr c30
                              have c30b1 : (x0_5 != 10) = false := bne_eq_false_iff_eq.mpr c30
                              clear c30
                              replace H := Option.bind_eq_some_iff.mp H
                              obtain ⟨t206, A310, H⟩ := H
                              replace H : (some (t206, true)) = some (r1, r2) := H
                              have A31 := Aside0.mk A310
                              clear A310
                              simp only [Option.some.injEq, Prod.mk.injEq] at H
                              obtain ⟨rfl, rfl⟩ := H
                              go_wp2_with (first | ((with_reducible refine gate_callee (f := 28) rfl ?_); refine goesL_ (some 92) rfl rfl Try.func28 (by kernel_rfl) rfl #[.bool (decide (a1 < a2))] rfl (by (try simp only [List.map_toArray, List.map_cons, List.map_nil]); first | done | rfl | (simp only [List.length_drop, List.length_take]; rfl)) ?_; (with_reducible refine (impl_one.calls (decide (a1 < a2)) t206 _ A31.out).mono ?_); rintro e w' ⟨rfl, ⟨nd, rfl⟩⟩; refine ⟨_, rfl, ?_⟩))
                              go_ret2
                              exact ⟨by first | rfl | (simp [errW_none, errW_some] <;> rfl) | (simp [*, errW_none, errW_some] <;> rfl), by repeat (first | (with_reducible first | exact HB.out | apply below_alloc | apply pw_below_drewN | apply below_drew1) | exact HB.out)⟩
                            · rw [if_neg c30] at H
                              have c30b0 : (x0_5 == 10) = false := beq_eq_false_iff_ne.mpr c30
                              have c30b1 : (x0_5 != 10) = true := bne_iff_ne.mpr c30
                              go_upto_region 27 with (fail)
                              by_cases c32 : x0_5 = 11
                              · rw [if_pos c32] at H
                                have c32b0 : (x0_5 == 11) = true := beq_iff_eq.mpr c32
                                have c32b1 : (x0_5 != 11) = false := bne_eq_false_iff_eq.mpr c32
                                clear c32
                                simp only [Option.some.injEq, Prod.mk.injEq] at H
                                obtain ⟨rfl, rfl⟩ := H
                                go_wp2
                                go_ret2
                                exact ⟨by first | rfl | (simp [errW_none, errW_some] <;> rfl) | (simp [*, errW_none, errW_some] <;> rfl), by repeat (first | (with_reducible first | exact HB.out | apply below_alloc | apply pw_below_drewN | apply below_drew1) | exact HB.out)⟩
                              · rw [if_neg c32] at H
                                have c32b0 : (x0_5 == 11) = false := beq_eq_false_iff_ne.mpr c32
                                have c32b1 : (x0_5 != 11) = true := bne_iff_ne.mpr c32
                                go_upto_region 29 with (fail)
                                by_cases c33 : x0_5 = 12
                                · rw [if_pos c33] at H
                                  have c33b0 : (x0_5 == 12) = true := beq_iff_eq.mpr c33
                                  have c33b1 : (x0_5 != 12) = false := bne_eq_false_iff_eq.mpr c33
                                  clear c33
                                  replace H := Option.bind_eq_some_iff.mp H
                                  obtain ⟨⟨t207, t208⟩, A340, H⟩ := H
                                  replace H : (if (wrap64 (a1)) < 0 then (if (wrap64 (a2)) < 0 then (some (IntKind.u64.wrap ((IntKind.u64.wrap (t207 - a2)) - a1), true)) else (some (IntKind.u64.wrap (t207 - a2), true))) else (if (wrap64 (a2)) < 0 then (some (IntKind.u64.wrap (t207 - a1), true)) else (some (t207, true)))) = some (r1, r2) := H
                                  have A34 := Aside0.mk A340
                                  clear A340
                                  by_cases c35 : (wrap64 (a1)) < 0
                                  · rw [if_pos c35] at H
                                    have c35b0 : decide ((wrap64 (a1)) < 0) = true := decide_eq_true c35
                                    clear c35
                                    by_cases c36 : (wrap64 (a2)) < 0
                                    · rw [if_pos c36] at H
                                      have c36b0 : decide ((wrap64 (a2)) < 0) = true := decide_eq_true c36
                                      clear c36
                                      simp only [Option.some.injEq, Prod.mk.injEq] at H
                                      obtain ⟨rfl, rfl⟩ := H
                                      go_wp2_with (first | ((with_reducible refine gate_callee (f := 29) rfl ?_); refine goesL_ (some 103) rfl rfl Try.func29 (by kernel_rfl) rfl #[.int .u64 a1, .int .u64 a2] rfl (by (try simp only [List.map_toArray, List.map_cons, List.map_nil]); first | done | rfl | (simp only [List.length_drop, List.length_take]; rfl)) ?_; (with_reducible refine (bits_Mul64.calls a1 a2 t207 t208 _ A34.out).mono ?_); rintro e w' ⟨rfl, ⟨nd, rfl⟩⟩; refine ⟨_, rfl, ?_⟩))
                                      go_ret2
                                      exact ⟨by first | rfl | (simp [errW_none, errW_some] <;> rfl) | (simp [*, errW_none, errW_some] <;> rfl), by repeat (first | (with_reducible first | exact HB.out | apply below_alloc | apply pw_below_drewN | apply below_drew1) | exact HB.out)⟩
                                    · rw [if_neg c36] at H
                                      have c36b0 : decide ((wrap64 (a2)) < 0) = false := decide_eq_false c36
                                      clear c36
                                      simp only [Option.some.injEq, Prod.mk.injEq] at H
                                      obtain ⟨rfl, rfl⟩ := H
                                      go_wp2_with (first | ((with_reducible refine gate_callee (f := 29) rfl ?_); refine goesL_ (some 103) rfl rfl Try.func29 (by kernel_rfl) rfl #[.int .u64 a1, .int .u64 a2] rfl (by (try simp only [List.map_toArray, List.map_cons, List.map_nil]); first | done | rfl | (simp only [List.length_drop, List.length_take]; rfl)) ?_; (with_reducible refine (bits_Mul64.calls a1 a2 t207 t208 _ A34.out).mono ?_); rintro e w' ⟨rfl, ⟨nd, rfl⟩⟩; refine ⟨_, rfl, ?_⟩))
                                      go_ret2
                                      exact ⟨by first | rfl | (simp [errW_none, errW_some] <;> rfl) | (simp [*, errW_none, errW_some] <;> rfl), by repeat (first | (with_reducible first | exact HB.out | apply below_alloc | apply pw_below_drewN | apply below_drew1) | exact HB.out)⟩
                                  · rw [if_neg c35] at H
                                    have c35b0 : decide ((wrap64 (a1)) < 0) = false := decide_eq_false c35
                                    clear c35
                                    by_cases c37 : (wrap64 (a2)) < 0
                                    · rw [if_pos c37] at H
                                      have c37b0 : decide ((wrap64 (a2)) < 0) = true := decide_eq_true c37
                                      clear c37
                                      simp only [Option.some.injEq, Prod.mk.injEq] at H
                                      obtain ⟨rfl, rfl⟩ := H
                                      go_wp2_with (first | ((with_reducible refine gate_callee (f := 29) rfl ?_); refine goesL_ (some 103) rfl rfl Try.func29 (by kernel_rfl) rfl #[.int .u64 a1, .int .u64 a2] rfl (by (try simp only [List.map_toArray, List.map_cons, List.map_nil]); first | done | rfl | (simp only [List.length_drop, List.length_take]; rfl)) ?_; (with_reducible refine (bits_Mul64.calls a1 a2 t207 t208 _ A34.out).mono ?_); rintro e w' ⟨rfl, ⟨nd, rfl⟩⟩; refine ⟨_, rfl, ?_⟩))
                                      go_ret2
                                      exact ⟨by first | rfl | (simp [errW_none, errW_some] <;> rfl) | (simp [*, errW_none, errW_some] <;> rfl), by repeat (first | (with_reducible first | exact HB.out | apply below_alloc | apply pw_below_drewN | apply below_drew1) | exact HB.out)⟩
                                    · rw [if_neg c37] at H
                                      have c37b0 : decide ((wrap64 (a2)) < 0) = false := decide_eq_false c37
                                      clear c37
                                      simp only [Option.some.injEq, Prod.mk.injEq] at H
                                      obtain ⟨rfl, rfl⟩ := H
                                      go_wp2_with (first | ((with_reducible refine gate_callee (f := 29) rfl ?_); refine goesL_ (some 103) rfl rfl Try.func29 (by kernel_rfl) rfl #[.int .u64 a1, .int .u64 a2] rfl (by (try simp only [List.map_toArray, List.map_cons, List.map_nil]); first | done | rfl | (simp only [List.length_drop, List.length_take]; rfl)) ?_; (with_reducible refine (bits_Mul64.calls a1 a2 t207 t208 _ A34.out).mono ?_); rintro e w' ⟨rfl, ⟨nd, rfl⟩⟩; refine ⟨_, rfl, ?_⟩))
                                      go_ret2
                                      exact ⟨by first | rfl | (simp [errW_none, errW_some] <;> rfl) | (simp [*, errW_none, errW_some] <;> rfl), by repeat (first | (with_reducible first | exact HB.out | apply below_alloc | apply pw_below_drewN | apply below_drew1) | exact HB.out)⟩
                                · rw [if_neg c33] at H
                                  have c33b0 : (x0_5 == 12) = false := beq_eq_false_iff_ne.mpr c33
                                  have c33b1 : (x0_5 != 12) = true := bne_iff_ne.mpr c33
                                  go_upto_region 36 with (fail)
                                  by_cases c38 : x0_5 = 13
                                  · rw [if_pos c38] at H
                                    have c38b0 : (x0_5 == 13) = true := beq_iff_eq.mpr c38
                                    have c38b1 : (x0_5 != 13) = false := bne_eq_false_iff_eq.mpr c38
                                    clear c38
                                    replace H := Option.bind_eq_some_iff.mp H
                                    obtain ⟨⟨t209, t210⟩, A390, H⟩ := H
                                    replace H : (some (t209, true)) = some (r1, r2) := H
                                    have A39 := Aside0.mk A390
                                    clear A390
                                    simp only [Option.some.injEq, Prod.mk.injEq] at H
                                    obtain ⟨rfl, rfl⟩ := H
                                    go_wp2_with (first | ((with_reducible refine gate_callee (f := 29) rfl ?_); refine goesL_ (some 122) rfl rfl Try.func29 (by kernel_rfl) rfl #[.int .u64 a1, .int .u64 a2] rfl (by (try simp only [List.map_toArray, List.map_cons, List.map_nil]); first | done | rfl | (simp only [List.length_drop, List.length_take]; rfl)) ?_; (with_reducible refine (bits_Mul64.calls a1 a2 t209 t210 _ A39.out).mono ?_); rintro e w' ⟨rfl, ⟨nd, rfl⟩⟩; refine ⟨_, rfl, ?_⟩))
                                    go_ret2
                                    exact ⟨by first | rfl | (simp [errW_none, errW_some] <;> rfl) | (simp [*, errW_none, errW_some] <;> rfl), by repeat (first | (with_reducible first | exact HB.out | apply below_alloc | apply pw_below_drewN | apply below_drew1) | exact HB.out)⟩
                                  · exfalso; have hq_ := hpr_.out; omega
end Go.Proofs.Ytmbcihfdfohfcaa.PFnExactAlu
