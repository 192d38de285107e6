/- The walk of impl.Alu, for some of its operations. -/
import Derived.Test.YtmbcihfdfohfcaaPFnExactAlux5
namespace Go.Proofs.Ytmbcihfdfohfcaa.PFnExactAlu
open Go.RowKit Go.Proofs.YtmbcihfdfohfcaaW.PrintWords Go.Proofs.YtmbcihfdfohfcaaW.PrintLast Go.Proofs.YtmbcihfdfohfcaaW.PrintMore
attribute [local go_sem] max2_int min2_int max_two min_two max_three min_three max_four min_four   -- for this text's walks alone
set_option linter.unusedVariables false
set_option linter.unusedSimpArgs false

set_option maxHeartbeats 40000000 in
set_option maxRecDepth 100000 in
theorem impl_Alu.callsC (k : Nat) (a0 : Int) (a1 : Int) (a2 : Int) (r1 : Int) (r2 : Bool) (w : World) (hP_ : impl_Alu.op0 a0 ≤ 0 ∨ 18 ≤ impl_Alu.op0 a0) (h : impl_Alu.f k a0 a1 a2 = some (r1, r2)) :
    Calls Try.prog 8 #[.int .i64 a0, .int .u64 a1, .int .u64 a2] w fun e w' => e = .returned (.tuple #[.int .u64 r1, .bool r2]) ∧ Below w.heap.size w w' := by
  have HB := Aside0.mk (Below.refl w.heap.size w)
  have H : (if a0 ≥ 32 then (impl_Alu.j0 k a0 a1 a2 (decide (a0 ≤ 41))) else (impl_Alu.j0 k a0 a1 a2 false)) = some (r1, r2) := h
  clear h
  have HC4 := Aside0.mk H
  clear H
  go_enter Try.func8, Try.ntmps8
  go_upto_region 1 with (fail)
  go_cut [22] (fun v22 wc => ∃ (kq : Nat) (x22_3 : Bool), v22 = .bool x22_3 ∧ Aside0 (impl_Alu.j0 kq a0 a1 a2 x22_3 = some (r1, r2)) ∧ Aside0 (kq ≤ k) ∧ Aside0 (Below w.heap.size w wc) ∧ Aside0 (x22_3 = decide (32 ≤ a0 ∧ a0 ≤ 41)))
  case first =>
    have H := HC4.out
    clear HC4
    by_cases c5 : a0 ≥ 32
    · rw [if_pos c5] at H
      have c5b0 : decide (32 ≤ a0) = true := decide_eq_true c5
      clear c5
      (first | rw [c5b0] | (simp only [i64_w, i32_w]; rw [c5b0]) | skip)
      have H' := Aside0.mk H
      clear H
      go_wp2
      go_meet
      case rel => exact ⟨_, (decide (a0 ≤ 41)), (by first | rfl | exact congrArg (Value.int .i64) (i64_w _) | (simp; done) | (simp [*]; done)), H', ⟨by first | omega | exact Nat.le_refl _⟩, ⟨by repeat (first | (with_reducible first | exact HB.out | apply below_alloc | apply pw_below_drewN | apply below_drew1) | exact HB.out)⟩, ⟨by have h_ := of_decide_eq_true c5b0; rw [decide_eq_decide]; exact ⟨fun h => ⟨h_, h⟩, fun h => h.2⟩⟩⟩
    · rw [if_neg c5] at H
      have c5b0 : decide (32 ≤ a0) = false := decide_eq_false c5
      clear c5
      (first | rw [c5b0] | (simp only [i64_w, i32_w]; rw [c5b0]) | skip)
      have H' := Aside0.mk H
      clear H
      go_wp2
      go_meet
      case rel => exact ⟨_, (false), (by first | rfl | exact congrArg (Value.int .i64) (i64_w _) | (simp; done) | (simp [*]; done)), H', ⟨by first | omega | exact Nat.le_refl _⟩, ⟨by repeat (first | (with_reducible first | exact HB.out | apply below_alloc | apply pw_below_drewN | apply below_drew1) | exact HB.out)⟩, ⟨(decide_eq_false (fun h => absurd h.1 (of_decide_eq_false c5b0))).symm⟩⟩
  case rest =>
    clear HC4
    try clear p2
    try clear c5
    try clear c5b0
    obtain ⟨kq, x22_3, rfl, HA, HJ3, HB, HX22_⟩ := hcut
    cases kq with
    | zero => exact absurd HA.out (by simp [impl_Alu.j0])
    | succ kj3 =>
      have H := HA.out
      clear HA
      simp only [impl_Alu.j0] at H
      have HC6 := Aside0.mk H
      clear H
      go_upto_if 22 with (fail)
      go_cut [0] (fun v0 wc => ∃ (kq : Nat) (x0_5 : Int), v0 = .int .i64 x0_5 ∧ Aside0 (impl_Alu.j1 kq x0_5 a1 a2 = some (r1, r2)) ∧ Aside0 (kq ≤ kj3) ∧ Aside0 (Below w.heap.size w wc) ∧ Aside0 (x0_5 = impl_Alu.op0 a0))
      case first =>
        have H := HC6.out
        clear HC6
        by_cases c7 : x22_3 = true
        · subst c7
          have H1 : ((some (([1, 3, 4, 5, 6, 7, 8, 9, 10, 18] : List Int) : List Int)).bind fun y201 => (if 0 ≤ (wrap64 (a0 - 32)) then (if (wrap64 (a0 - 32)) < (y201.length : Int) then (impl_Alu.j1 kj3 (rd y201 (wrap64 (a0 - 32))) a1 a2) else (none)) else (none))) = some (r1, r2) := by rw [if_pos rfl] at H; exact H
          clear H
          have H := H1
          clear H1
          obtain ⟨y201, hy201⟩ : ∃ y_ : List Int, y_ = (([1, 3, 4, 5, 6, 7, 8, 9, 10, 18] : List Int)) := ⟨_, rfl⟩
          replace H : (if 0 ≤ (wrap64 (a0 - 32)) then (if (wrap64 (a0 - 32)) < (y201.length : Int) then (impl_Alu.j1 kj3 (rd y201 (wrap64 (a0 - 32))) a1 a2) else (none)) else (none)) = some (r1, r2) := by first | (rw [hy201]; with_reducible exact H) | (have H2_ := (Option.bind_some _ _).symm.trans H; rw [hy201]; with_reducible exact H2_) | (have H2_ := (Option.bind_some _ _).symm.trans H; with_reducible exact H2_) | with_reducible exact H | (rw [hy201]; exact H) | exact H
          have Ny201 := Aside0.mk hy201
          clear hy201
          obtain ⟨ji8, hji8⟩ : ∃ j_ : Int, (wrap64 (a0 - 32)) = j_ := ⟨_, rfl⟩
          replace H : (if 0 ≤ (ji8) then (if (ji8) < (y201.length : Int) then (impl_Alu.j1 kj3 (rd y201 (ji8)) a1 a2) else (none)) else (none)) = some (r1, r2) := by first | (rw [hji8] at H; exact H) | (simp only [hji8] at H ⊢; exact H)
          have hji8w : (IntKind.i64.wrap (a0 - 32)) = ji8 := (i64_w _).trans hji8
          by_cases c9 : 0 ≤ (ji8)
          · rw [if_pos c9] at H
            have c9b0 : decide (0 ≤ (ji8)) = true := decide_eq_true c9
            clear c9
            (first | rw [c9b0] | (simp only [i64_w, i32_w]; rw [c9b0]) | skip)
            by_cases c10 : (ji8) < (y201.length : Int)
            · rw [if_pos c10] at H
              have c10b0 : decide ((ji8) < (y201.length : Int)) = true := decide_eq_true c10
              clear c10
              have H' := Aside0.mk H
              clear H
              go_wp2_with (first | ((with_reducible refine gate_dst (N := 23) rfl ?_); refine Kd.R_lit (Kd.int .i64) _ 2 ?hg (N := 23) ?hd (xs := ([1, 3, 4, 5, 6, 7, 8, 9, 10, 18] : List Int)) (inner := [.int .i64 1, .int .i64 3, .int .i64 4, .int .i64 5, .int .i64 6, .int .i64 7, .int .i64 8, .int .i64 9, .int .i64 10, .int .i64 18]) (ok := fun _ => True) (okp := fun _ => True) ?hr ?hp (fun _ hk => hk) trivial (Below.refl _ _) (Nat.le_refl _) (by simp) ?_; (case hd => rfl); (case hg => rfl); (case hr => first | (go_simp; done) | (go_simp; rfl)); (case hp => exact (Reps.one (show Kd.M (Kd.int .i64) _ _ _ 1 [.int .i64 1] from rfl) (Reps.one (show Kd.M (Kd.int .i64) _ _ _ 3 [.int .i64 3] from rfl) (Reps.one (show Kd.M (Kd.int .i64) _ _ _ 4 [.int .i64 4] from rfl) (Reps.one (show Kd.M (Kd.int .i64) _ _ _ 5 [.int .i64 5] from rfl) (Reps.one (show Kd.M (Kd.int .i64) _ _ _ 6 [.int .i64 6] from rfl) (Reps.one (show Kd.M (Kd.int .i64) _ _ _ 7 [.int .i64 7] from rfl) (Reps.one (show Kd.M (Kd.int .i64) _ _ _ 8 [.int .i64 8] from rfl) (Reps.one (show Kd.M (Kd.int .i64) _ _ _ 9 [.int .i64 9] from rfl) (Reps.one (show Kd.M (Kd.int .i64) _ _ _ 10 [.int .i64 10] from rfl) (Reps.one (show Kd.M (Kd.int .i64) _ _ _ 18 [.int .i64 18] from rfl) (Reps.none _ _)))))))))))); intro v202 w11 ho12 hb hg_ hnew_; clear hg_ hnew_; (first | rw [← Ny201.out] at ho12 | (simp only [Int.reduceToNat] at ho12; rw [← Ny201.out] at ho12)); have n0_ := Aside0.mk (Kd.R_lower ho12 (below_size (by repeat (first | (with_reducible first | exact HB.out | apply below_alloc | apply pw_below_drewN | apply below_drew1) | exact HB.out)))); have n1_ := Aside0.mk (below_step (by repeat (first | (with_reducible first | exact HB.out | apply below_alloc | apply pw_below_drewN | apply below_drew1) | exact HB.out)) hb); clear HB; have HO203 := n0_; have HB := n1_; clear n0_ n1_; clear hb ho12; obtain ⟨Ao13, co13, eo13⟩ := Kd.R_slice HO203.out; subst eo13; have p204 : 0 ≤ ((ji8) : Int) := of_decide_eq_true (by first | (with_reducible assumption) | assumption); have q204 : (ji8) < (y201.length : Int) := of_decide_eq_true (by first | (with_reducible assumption) | assumption); obtain ⟨ad204, e204, hx204_0⟩ := Kd.at_int (Kd.R_reads' HO203.out).2.2 (ji8) p204 q204; cases e204; replace p204 := eq_true p204; replace q204 := eq_true q204))
              go_meet
              case rel => exact ⟨_, (rd y201 (ji8)), (by first | rfl | (simp; done) | (simp only [← hji8] <;> (first | rfl | simp)) | (simp [*]; done)), H', ⟨by have := HJ3.out; first | omega | exact Nat.le_refl _⟩, ⟨by repeat (first | (with_reducible first | exact HB.out | apply below_alloc | apply pw_below_drewN | apply below_drew1) | exact HB.out)⟩, ⟨by unfold impl_Alu.op0; rw [if_pos (of_decide_eq_true HX22_.out.symm), hji8, Ny201.out]⟩⟩
            · rw [if_neg c10] at H
              exact absurd H (by simp)
          · rw [if_neg c9] at H
            exact absurd H (by simp)
        · replace c7 := Bool.eq_false_iff.mpr c7
          subst c7
          have H1 : (impl_Alu.j1 kj3 a0 a1 a2) = some (r1, r2) := by rw [if_neg (show ¬ (false = true) by decide)] at H; exact H
          clear H
          have H := H1
          clear H1
          have H' := Aside0.mk H
          clear H
          go_wp2
          go_meet
          case rel => exact ⟨_, (a0), (by first | rfl | exact congrArg (Value.int .i64) (i64_w _) | (simp; done) | (simp [*]; done)), H', ⟨by have := HJ3.out; first | omega | exact Nat.le_refl _⟩, ⟨by repeat (first | (with_reducible first | exact HB.out | apply below_alloc | apply pw_below_drewN | apply below_drew1) | exact HB.out)⟩, ⟨by unfold impl_Alu.op0; rw [if_neg (of_decide_eq_false HX22_.out.symm)]⟩⟩
      case rest =>
        clear HC6
        try clear c1
        try clear p2
        try clear q2
        try clear hx2
        try clear c5
        try clear c5b0
        try clear p6
        try clear c7
        try clear c8
        try clear c9
        try clear c9b0
        try clear c10
        try clear c10b0
        try clear hx204_0
        try clear p2
        try clear p204
        try clear q204
        obtain ⟨kq, x0_5, rfl, HA, HJ5, HB, HX0_⟩ := hcut
        have hpr_ : Aside0 (x0_5 ≤ 0 ∨ 18 ≤ x0_5) := ⟨by rw [HX0_.out]; exact hP_⟩
        cases kq with
        | zero => exact absurd HA.out (by simp [impl_Alu.j1])
        | succ kj5 =>
          have H := HA.out
          clear HA
          simp only [impl_Alu.j1] at H
          by_cases c14 : x0_5 = 1
          · exfalso; have hq_ := hpr_.out; omega
          · rw [if_neg c14] at H
            have c14b0 : (x0_5 == 1) = false := beq_eq_false_iff_ne.mpr c14
            have c14b1 : (x0_5 != 1) = true := bne_iff_ne.mpr c14
            go_upto_region 9 with (fail)
            by_cases c15 : x0_5 = 2
            · exfalso; have hq_ := hpr_.out; omega
            · rw [if_neg c15] at H
              have c15b0 : (x0_5 == 2) = false := beq_eq_false_iff_ne.mpr c15
              have c15b1 : (x0_5 != 2) = true := bne_iff_ne.mpr c15
              go_upto_region 11 with (fail)
              by_cases c16 : x0_5 = 3
              · exfalso; have hq_ := hpr_.out; omega
              · rw [if_neg c16] at H
                have c16b0 : (x0_5 == 3) = false := beq_eq_false_iff_ne.mpr c16
                have c16b1 : (x0_5 != 3) = true := bne_iff_ne.mpr c16
                go_upto_region 13 with (fail)
                by_cases c17 : x0_5 = 4
                · exfalso; have hq_ := hpr_.out; omega
                · rw [if_neg c17] at H
                  have c17b0 : (x0_5 == 4) = false := beq_eq_false_iff_ne.mpr c17
                  have c17b1 : (x0_5 != 4) = true := bne_iff_ne.mpr c17
                  go_upto_region 15 with (fail)
                  by_cases c18 : x0_5 = 5
                  · exfalso; have hq_ := hpr_.out; omega
                  · rw [if_neg c18] at H
                    have c18b0 : (x0_5 == 5) = false := beq_eq_false_iff_ne.mpr c18
                    have c18b1 : (x0_5 != 5) = true := bne_iff_ne.mpr c18
                    go_upto_region 17 with (fail)
                    by_cases c19 : x0_5 = 6
                    · exfalso; have hq_ := hpr_.out; omega
                    · rw [if_neg c19] at H
                      have c19b0 : (x0_5 == 6) = false := beq_eq_false_iff_ne.mpr c19
                      have c19b1 : (x0_5 != 6) = true := bne_iff_ne.mpr c19
                      go_upto_region 19 with (fail)
                      by_cases c22 : x0_5 = 7
                      · exfalso; have hq_ := hpr_.out; omega
                      · rw [if_neg c22] at H
                        have c22b0 : (x0_5 == 7) = false := beq_eq_false_iff_ne.mpr c22
                        have c22b1 : (x0_5 != 7) = true := bne_iff_ne.mpr c22
                        go_upto_region 21 with (fail)
                        by_cases c25 : x0_5 = 8
                        · exfalso; have hq_ := hpr_.out; omega
                        · rw [if_neg c25] at H
                          have c25b0 : (x0_5 == 8) = false := beq_eq_false_iff_ne.mpr c25
                          have c25b1 : (x0_5 != 8) = true := bne_iff_ne.mpr c25
                          go_upto_region 23 with (fail)
                          by_cases c28 : x0_5 = 9
                          · exfalso; have hq_ := hpr_.out; omega
                          · rw [if_neg c28] at H
                            have c28b0 : (x0_5 == 9) = false := beq_eq_false_iff_ne.mpr c28
                            have c28b1 : (x0_5 != 9) = true := bne_iff_ne.mpr c28
                            go_upto_region 25 with (fail)
                            by_cases c30 : x0_5 = 10
                            · exfalso; have hq_ := hpr_.out; omega
                            · rw [if_neg c30] at H
                              have c30b0 : (x0_5 == 10) = false := beq_eq_false_iff_ne.mpr c30
                              have c30b1 : (x0_5 != 10) = true := bne_iff_ne.mpr c30
                              go_upto_region 27 with (fail)
                              by_cases c32 : x0_5 = 11
                              · exfalso; have hq_ := hpr_.out; omega
                              · rw [if_neg c32] at H
                                have c32b0 : (x0_5 == 11) = false := beq_eq_false_iff_ne.mpr c32
                                have c32b1 : (x0_5 != 11) = true := bne_iff_ne.mpr c32
                                go_upto_region 29 with (fail)
                                by_cases c33 : x0_5 = 12
                                · exfalso; have hq_ := hpr_.out; omega
                                · rw [if_neg c33] at H
                                  have c33b0 : (x0_5 == 12) = false := beq_eq_false_iff_ne.mpr c33
                                  have c33b1 : (x0_5 != 12) = true := bne_iff_ne.mpr c33
                                  go_upto_region 36 with (fail)
                                  by_cases c38 : x0_5 = 13
                                  · exfalso; have hq_ := hpr_.out; omega
                                  · rw [if_neg c38] at H
                                    have c38b0 : (x0_5 == 13) = false := beq_eq_false_iff_ne.mpr c38
                                    have c38b1 : (x0_5 != 13) = true := bne_iff_ne.mpr c38
                                    go_upto_region 39 with (fail)
                                    have hx14_ : ¬ x0_5 = 14 := by have hq_ := hpr_.out; omega
                                    have hx16_ : ¬ x0_5 = 16 := by have hq_ := hpr_.out; omega
                                    have hx15_ : ¬ x0_5 = 15 := by have hq_ := hpr_.out; omega
                                    have hx17_ : ¬ x0_5 = 17 := by have hq_ := hpr_.out; omega
                                    have hb14_ : (x0_5 == 14) = false := beq_eq_false_iff_ne.mpr hx14_
                                    have hb16_ : (x0_5 == 16) = false := beq_eq_false_iff_ne.mpr hx16_
                                    have hb15_ : (x0_5 == 15) = false := beq_eq_false_iff_ne.mpr hx15_
                                    have hb17_ : (x0_5 == 17) = false := beq_eq_false_iff_ne.mpr hx17_
                                    rw [if_neg hx14_, hb16_] at H
                                    cases kj5 with
                                    | zero => exact absurd H (by simp [impl_Alu.j2])
                                    | succ kj39 =>
                                      simp only [impl_Alu.j2] at H
                                      rw [if_neg (show ¬ (false = true) by decide), if_neg hx15_, hb17_] at H
                                      cases kj39 with
                                      | zero => exact absurd H (by simp [impl_Alu.j5])
                                      | succ kj53 =>
                                        simp only [impl_Alu.j5] at H
                                        rw [if_neg (show ¬ (false = true) by decide)] at H
                                        go_upto_region 61 with (fail)
                                        by_cases c62 : x0_5 = 18
                                        · rw [if_pos c62] at H
                                          have c62b0 : (x0_5 == 18) = true := beq_iff_eq.mpr c62
                                          have c62b1 : (x0_5 != 18) = false := bne_eq_false_iff_eq.mpr c62
                                          clear c62
                                          replace H := Option.bind_eq_some_iff.mp H
                                          obtain ⟨⟨t211, t212⟩, A630, H⟩ := H
                                          replace H : (some (t211, t212)) = some (r1, r2) := H
                                          have A63 := Aside0.mk A630
                                          clear A630
                                          simp only [Option.some.injEq, Prod.mk.injEq] at H
                                          obtain ⟨rfl, rfl⟩ := H
                                          go_wp2_with (first | (refine goesV_ (some 192) rfl rfl Try.func27 (by kernel_rfl) rfl #[.int .i32 (wrap32 ((wrap32 (a1)) + (wrap32 (a2))))] rfl rfl (by (try simp only [List.map_toArray, List.map_cons, List.map_nil]); first | done | rfl | (simp only [List.length_drop, List.length_take]; rfl)) ?_; (with_reducible refine (impl_Alu_1.calls (wrap32 ((wrap32 (a1)) + (wrap32 (a2)))) t211 t212 _ A63.out).mono ?_); rintro e w' ⟨rfl, ⟨nd, rfl⟩⟩; refine ⟨_, rfl, ?_⟩))
                                          go_ret2
                                          exact ⟨by first | rfl | (simp [errW_none, errW_some] <;> rfl) | (simp [*, errW_none, errW_some] <;> rfl), by repeat (first | (with_reducible first | exact HB.out | apply below_alloc | apply pw_below_drewN | apply below_drew1) | exact HB.out)⟩
                                        · rw [if_neg c62] at H
                                          have c62b0 : (x0_5 == 18) = false := beq_eq_false_iff_ne.mpr c62
                                          have c62b1 : (x0_5 != 18) = true := bne_iff_ne.mpr c62
                                          by_cases c64 : x0_5 = 19
                                          · rw [if_pos c64] at H
                                            have c64b0 : (x0_5 == 19) = true := beq_iff_eq.mpr c64
                                            have c64b1 : (x0_5 != 19) = false := bne_eq_false_iff_eq.mpr c64
                                            clear c64
                                            replace H := Option.bind_eq_some_iff.mp H
                                            obtain ⟨⟨t213, t214⟩, A650, H⟩ := H
                                            replace H : (some (t213, t214)) = some (r1, r2) := H
                                            have A65 := Aside0.mk A650
                                            clear A650
                                            simp only [Option.some.injEq, Prod.mk.injEq] at H
                                            obtain ⟨rfl, rfl⟩ := H
                                            go_wp2_with (first | (refine goesV_ (some 201) rfl rfl Try.func27 (by kernel_rfl) rfl #[.int .i32 (wrap32 ((wrap32 (a1)) - (wrap32 (a2))))] rfl rfl (by (try simp only [List.map_toArray, List.map_cons, List.map_nil]); first | done | rfl | (simp only [List.length_drop, List.length_take]; rfl)) ?_; (with_reducible refine (impl_Alu_1.calls (wrap32 ((wrap32 (a1)) - (wrap32 (a2)))) t213 t214 _ A65.out).mono ?_); rintro e w' ⟨rfl, ⟨nd, rfl⟩⟩; refine ⟨_, rfl, ?_⟩))
                                            go_ret2
                                            exact ⟨by first | rfl | (simp [errW_none, errW_some] <;> rfl) | (simp [*, errW_none, errW_some] <;> rfl), by repeat (first | (with_reducible first | exact HB.out | apply below_alloc | apply pw_below_drewN | apply below_drew1) | exact HB.out)⟩
                                          · rw [if_neg c64] at H
                                            have c64b0 : (x0_5 == 19) = false := beq_eq_false_iff_ne.mpr c64
                                            have c64b1 : (x0_5 != 19) = true := bne_iff_ne.mpr c64
                                            by_cases c66 : x0_5 = 20
                                            · rw [if_pos c66] at H
                                              have c66b0 : (x0_5 == 20) = true := beq_iff_eq.mpr c66
                                              have c66b1 : (x0_5 != 20) = false := bne_eq_false_iff_eq.mpr c66
                                              clear c66
                                              replace H := Option.bind_eq_some_iff.mp H
                                              obtain ⟨⟨t215, t216⟩, A670, H⟩ := H
                                              replace H : (some (t215, t216)) = some (r1, r2) := H
                                              have A67 := Aside0.mk A670
                                              clear A670
                                              simp only [Option.some.injEq, Prod.mk.injEq] at H
                                              obtain ⟨rfl, rfl⟩ := H
                                              go_wp2_with (first | (refine goesV_ (some 210) rfl rfl Try.func27 (by kernel_rfl) rfl #[.int .i32 (wrap32 ((wrap32 (a1)) * (wrap32 (a2))))] rfl rfl (by (try simp only [List.map_toArray, List.map_cons, List.map_nil]); first | done | rfl | (simp only [List.length_drop, List.length_take]; rfl)) ?_; (with_reducible refine (impl_Alu_1.calls (wrap32 ((wrap32 (a1)) * (wrap32 (a2)))) t215 t216 _ A67.out).mono ?_); rintro e w' ⟨rfl, ⟨nd, rfl⟩⟩; refine ⟨_, rfl, ?_⟩))
                                              go_ret2
                                              exact ⟨by first | rfl | (simp [errW_none, errW_some] <;> rfl) | (simp [*, errW_none, errW_some] <;> rfl), by repeat (first | (with_reducible first | exact HB.out | apply below_alloc | apply pw_below_drewN | apply below_drew1) | exact HB.out)⟩
                                            · rw [if_neg c66] at H
                                              have c66b0 : (x0_5 == 20) = false := beq_eq_false_iff_ne.mpr c66
                                              have c66b1 : (x0_5 != 20) = true := bne_iff_ne.mpr c66
                                              by_cases c68 : x0_5 = 21
                                              · rw [if_pos c68] at H
                                                have c68b0 : (x0_5 == 21) = true := beq_iff_eq.mpr c68
                                                have c68b1 : (x0_5 != 21) = false := bne_eq_false_iff_eq.mpr c68
                                                clear c68
                                                by_cases c69 : (wrap32 (a2)) = 0
                                                · rw [if_pos c69] at H
                                                  have c69b0 : ((wrap32 (a2)) == 0) = true := beq_iff_eq.mpr c69
                                                  have c69b1 : ((wrap32 (a2)) != 0) = false := bne_eq_false_iff_eq.mpr c69
                                                  clear c69
                                                  simp only [Option.some.injEq, Prod.mk.injEq] at H
                                                  obtain ⟨rfl, rfl⟩ := H
                                                  go_wp2
                                                  go_ret2
                                                  exact ⟨by first | rfl | (simp [errW_none, errW_some] <;> rfl) | (simp [*, errW_none, errW_some] <;> rfl), by repeat (first | (with_reducible first | exact HB.out | apply below_alloc | apply pw_below_drewN | apply below_drew1) | exact HB.out)⟩
                                                · rw [if_neg c69] at H
                                                  have c69b0 : ((wrap32 (a2)) == 0) = false := beq_eq_false_iff_ne.mpr c69
                                                  have c69b1 : ((wrap32 (a2)) != 0) = true := bne_iff_ne.mpr c69
                                                  by_cases c70 : (wrap32 (a2)) = (-1)
                                                  · rw [if_pos c70] at H
                                                    have c70b0 : ((wrap32 (a2)) == (-1)) = true := beq_iff_eq.mpr c70
                                                    have c70b1 : ((wrap32 (a2)) != (-1)) = false := bne_eq_false_iff_eq.mpr c70
                                                    clear c70
                                                    replace H := Option.bind_eq_some_iff.mp H
                                                    obtain ⟨⟨t217, t218⟩, A710, H⟩ := H
                                                    replace H : (some (t217, t218)) = some (r1, r2) := H
                                                    have A71 := Aside0.mk A710
                                                    clear A710
                                                    simp only [Option.some.injEq, Prod.mk.injEq] at H
                                                    obtain ⟨rfl, rfl⟩ := H
                                                    go_wp2_with (first | (refine goesV_ (some 223) rfl rfl Try.func27 (by kernel_rfl) rfl #[.int .i32 (wrap32 (-(wrap32 (a1))))] rfl rfl (by (try simp only [List.map_toArray, List.map_cons, List.map_nil]); first | done | rfl | (simp only [List.length_drop, List.length_take]; rfl)) ?_; (with_reducible refine (impl_Alu_1.calls (wrap32 (-(wrap32 (a1)))) t217 t218 _ A71.out).mono ?_); rintro e w' ⟨rfl, ⟨nd, rfl⟩⟩; refine ⟨_, rfl, ?_⟩))
                                                    go_ret2
                                                    exact ⟨by first | rfl | (simp [errW_none, errW_some] <;> rfl) | (simp [*, errW_none, errW_some] <;> rfl), by repeat (first | (with_reducible first | exact HB.out | apply below_alloc | apply pw_below_drewN | apply below_drew1) | exact HB.out)⟩
                                                  · rw [if_neg c70] at H
                                                    have c70b0 : ((wrap32 (a2)) == (-1)) = false := beq_eq_false_iff_ne.mpr c70
                                                    have c70b1 : ((wrap32 (a2)) != (-1)) = true := bne_iff_ne.mpr c70
                                                    replace H := Option.bind_eq_some_iff.mp H
                                                    obtain ⟨⟨t219, t220⟩, A720, H⟩ := H
                                                    replace H : (some (t219, t220)) = some (r1, r2) := H
                                                    have A72 := Aside0.mk A720
                                                    clear A720
                                                    simp only [Option.some.injEq, Prod.mk.injEq] at H
                                                    obtain ⟨rfl, rfl⟩ := H
                                                    go_wp2_with (first | (refine goesV_ (some 230) rfl rfl Try.func27 (by kernel_rfl) rfl #[.int .i32 (wrap32 (Int.tdiv (wrap32 (a1)) (wrap32 (a2))))] rfl rfl (by (try simp only [List.map_toArray, List.map_cons, List.map_nil]); first | done | rfl | (simp only [List.length_drop, List.length_take]; rfl)) ?_; (with_reducible refine (impl_Alu_1.calls (wrap32 (Int.tdiv (wrap32 (a1)) (wrap32 (a2)))) t219 t220 _ A72.out).mono ?_); rintro e w' ⟨rfl, ⟨nd, rfl⟩⟩; refine ⟨_, rfl, ?_⟩))
                                                    go_ret2
                                                    exact ⟨by first | rfl | (simp [errW_none, errW_some] <;> rfl) | (simp [*, errW_none, errW_some] <;> rfl), by repeat (first | (with_reducible first | exact HB.out | apply below_alloc | apply pw_below_drewN | apply below_drew1) | exact HB.out)⟩
                                              · rw [if_neg c68] at H
                                                have c68b0 : (x0_5 == 21) = false := beq_eq_false_iff_ne.mpr c68
                                                have c68b1 : (x0_5 != 21) = true := bne_iff_ne.mpr c68
                                                by_cases c73 : x0_5 = 22
                                                · rw [if_pos c73] at H
                                                  have c73b0 : (x0_5 == 22) = true := beq_iff_eq.mpr c73
                                                  have c73b1 : (x0_5 != 22) = false := bne_eq_false_iff_eq.mpr c73
                                                  clear c73
                                                  by_cases c74 : (wrap32 (a2)) = 0
                                                  · rw [if_pos c74] at H
                                                    have c74b0 : ((wrap32 (a2)) == 0) = true := beq_iff_eq.mpr c74
                                                    have c74b1 : ((wrap32 (a2)) != 0) = false := bne_eq_false_iff_eq.mpr c74
                                                    clear c74
                                                    replace H := Option.bind_eq_some_iff.mp H
                                                    obtain ⟨⟨t221, t222⟩, A750, H⟩ := H
                                                    replace H : (some (t221, t222)) = some (r1, r2) := H
                                                    have A75 := Aside0.mk A750
                                                    clear A750
                                                    simp only [Option.some.injEq, Prod.mk.injEq] at H
                                                    obtain ⟨rfl, rfl⟩ := H
                                                    go_wp2_with (first | (refine goesV_ (some 240) rfl rfl Try.func27 (by kernel_rfl) rfl #[.int .i32 (wrap32 (a1))] rfl rfl (by (try simp only [List.map_toArray, List.map_cons, List.map_nil]); first | done | rfl | (simp only [List.length_drop, List.length_take]; rfl)) ?_; (with_reducible refine (impl_Alu_1.calls (wrap32 (a1)) t221 t222 _ A75.out).mono ?_); rintro e w' ⟨rfl, ⟨nd, rfl⟩⟩; refine ⟨_, rfl, ?_⟩))
                                                    go_ret2
                                                    exact ⟨by first | rfl | (simp [errW_none, errW_some] <;> rfl) | (simp [*, errW_none, errW_some] <;> rfl), by repeat (first | (with_reducible first | exact HB.out | apply below_alloc | apply pw_below_drewN | apply below_drew1) | exact HB.out)⟩
                                                  · rw [if_neg c74] at H
                                                    have c74b0 : ((wrap32 (a2)) == 0) = false := beq_eq_false_iff_ne.mpr c74
                                                    have c74b1 : ((wrap32 (a2)) != 0) = true := bne_iff_ne.mpr c74
                                                    by_cases c76 : (wrap32 (a2)) = (-1)
                                                    · rw [if_pos c76] at H
                                                      have c76b0 : ((wrap32 (a2)) == (-1)) = true := beq_iff_eq.mpr c76
                                                      have c76b1 : ((wrap32 (a2)) != (-1)) = false := bne_eq_false_iff_eq.mpr c76
                                                      clear c76
                                                      simp only [Option.some.injEq, Prod.mk.injEq] at H
                                                      obtain ⟨rfl, rfl⟩ := H
                                                      go_wp2
                                                      go_ret2
                                                      exact ⟨by first | rfl | (simp [errW_none, errW_some] <;> rfl) | (simp [*, errW_none, errW_some] <;> rfl), by repeat (first | (with_reducible first | exact HB.out | apply below_alloc | apply pw_below_drewN | apply below_drew1) | exact HB.out)⟩
                                                    · rw [if_neg c76] at H
                                                      have c76b0 : ((wrap32 (a2)) == (-1)) = false := beq_eq_false_iff_ne.mpr c76
                                                      have c76b1 : ((wrap32 (a2)) != (-1)) = true := bne_iff_ne.mpr c76
                                                      replace H := Option.bind_eq_some_iff.mp H
                                                      obtain ⟨⟨t223, t224⟩, A770, H⟩ := H
                                                      replace H : (some (t223, t224)) = some (r1, r2) := H
                                                      have A77 := Aside0.mk A770
                                                      clear A770
                                                      simp only [Option.some.injEq, Prod.mk.injEq] at H
                                                      obtain ⟨rfl, rfl⟩ := H
                                                      go_wp2_with (first | (refine goesV_ (some 249) rfl rfl Try.func27 (by kernel_rfl) rfl #[.int .i32 (Int.tmod (wrap32 (a1)) (wrap32 (a2)))] rfl rfl (by (try simp only [List.map_toArray, List.map_cons, List.map_nil]); first | done | rfl | (simp only [List.length_drop, List.length_take]; rfl)) ?_; (with_reducible refine (impl_Alu_1.calls (Int.tmod (wrap32 (a1)) (wrap32 (a2))) t223 t224 _ A77.out).mono ?_); rintro e w' ⟨rfl, ⟨nd, rfl⟩⟩; refine ⟨_, rfl, ?_⟩))
                                                      go_ret2
                                                      exact ⟨by first | rfl | (simp [errW_none, errW_some] <;> rfl) | (simp [*, errW_none, errW_some] <;> rfl), by repeat (first | (with_reducible first | exact HB.out | apply below_alloc | apply pw_below_drewN | apply below_drew1) | exact HB.out)⟩
                                                · rw [if_neg c73] at H
                                                  have c73b0 : (x0_5 == 22) = false := beq_eq_false_iff_ne.mpr c73
                                                  have c73b1 : (x0_5 != 22) = true := bne_iff_ne.mpr c73
                                                  by_cases c78 : x0_5 = 23
                                                  · rw [if_pos c78] at H
                                                    have c78b0 : (x0_5 == 23) = true := beq_iff_eq.mpr c78
                                                    have c78b1 : (x0_5 != 23) = false := bne_eq_false_iff_eq.mpr c78
                                                    clear c78
                                                    by_cases c79 : 0 ≤ (Go.bits .and .u64 a2 31)
                                                    · rw [if_pos c79] at H
                                                      have c79b0 := eq_true c79
                                                      have c79b1 : decide (0 ≤ (Go.bits .and .u64 a2 31)) = true := decide_eq_true c79
                                                      clear c79
                                                      obtain ⟨ji80, hji80⟩ : ∃ j_ : Int, (shl .i32 (wrap32 (a1)) (Go.bits .and .u64 a2 31)) = j_ := ⟨_, rfl⟩
                                                      replace H : ((impl_Alu_1.f (ji80)).bind fun bt225 => (some (bt225.1, bt225.2))) = some (r1, r2) := by first | (rw [hji80] at H; exact H) | (simp only [hji80] at H ⊢; exact H)
                                                      have hji80_ : (IntKind.i32.wrap ((wrap32 (a1)) * 2 ^ min (Go.bits .and .u64 a2 31).toNat 32)) = ji80 := hji80
                                                      have hji80z : (Go.bits .and .u64 a2 31) ≤ 32 → (IntKind.i32.wrap ((wrap32 (a1)) * 2 ^ (Go.bits .and .u64 a2 31).toNat)) = ji80 := shl_small hji80
                                                      have hji80y : (wrap32 ((wrap32 (a1)) * 2 ^ min (Go.bits .and .u64 a2 31).toNat 32)) = ji80 := (i32_w _).symm.trans hji80_
                                                      have hji80x : (Go.bits .and .u64 a2 31) ≤ 32 → (wrap32 ((wrap32 (a1)) * 2 ^ (Go.bits .and .u64 a2 31).toNat)) = ji80 := fun h_ => (i32_w _).symm.trans (hji80z h_)
                                                      replace H := Option.bind_eq_some_iff.mp H
                                                      obtain ⟨⟨t225, t226⟩, A810, H⟩ := H
                                                      replace H : (some (t225, t226)) = some (r1, r2) := H
                                                      have A81 := Aside0.mk A810
                                                      clear A810
                                                      simp only [Option.some.injEq, Prod.mk.injEq] at H
                                                      obtain ⟨rfl, rfl⟩ := H
                                                      go_wp2_with (first | (refine goesV_ (some 259) rfl rfl Try.func27 (by kernel_rfl) rfl #[.int .i32 ji80] rfl rfl (by (try simp only [List.map_toArray, List.map_cons, List.map_nil]); first | done | (simp only [hji80]; rfl) | rfl | (simp only [List.length_drop, List.length_take]; rfl)) ?_; (with_reducible refine (impl_Alu_1.calls ji80 t225 t226 _ A81.out).mono ?_); rintro e w' ⟨rfl, ⟨nd, rfl⟩⟩; refine ⟨_, rfl, ?_⟩))
                                                      go_ret2
                                                      exact ⟨by first | rfl | (simp [errW_none, errW_some] <;> rfl) | (simp only [← hji80]; first | rfl | (simp [errW_none, errW_some] <;> rfl)) | (simp [*, errW_none, errW_some] <;> rfl), by repeat (first | (with_reducible first | exact HB.out | apply below_alloc | apply pw_below_drewN | apply below_drew1) | exact HB.out)⟩
                                                    · rw [if_neg c79] at H
                                                      exact absurd H (by simp)
                                                  · rw [if_neg c78] at H
                                                    have c78b0 : (x0_5 == 23) = false := beq_eq_false_iff_ne.mpr c78
                                                    have c78b1 : (x0_5 != 23) = true := bne_iff_ne.mpr c78
                                                    by_cases c82 : x0_5 = 24
                                                    · rw [if_pos c82] at H
                                                      have c82b0 : (x0_5 == 24) = true := beq_iff_eq.mpr c82
                                                      have c82b1 : (x0_5 != 24) = false := bne_eq_false_iff_eq.mpr c82
                                                      clear c82
                                                      by_cases c83 : 0 ≤ (Go.bits .and .u64 a2 31)
                                                      · rw [if_pos c83] at H
                                                        have c83b0 := eq_true c83
                                                        have c83b1 : decide (0 ≤ (Go.bits .and .u64 a2 31)) = true := decide_eq_true c83
                                                        clear c83
                                                        obtain ⟨ji84, hji84⟩ : ∃ j_ : Int, (shr .u32 ((a1) % 4294967296) (Go.bits .and .u64 a2 31)) = j_ := ⟨_, rfl⟩
                                                        replace H : ((impl_Alu_1.f (wrap32 (ji84))).bind fun bt227 => (some (bt227.1, bt227.2))) = some (r1, r2) := by first | (rw [hji84] at H; exact H) | (simp only [hji84] at H ⊢; exact H)
                                                        have hji84_ : (((a1) % 4294967296) / 2 ^ min (Go.bits .and .u64 a2 31).toNat 32) = ji84 := hji84
                                                        have hji84z : (Go.bits .and .u64 a2 31) ≤ 32 → (((a1) % 4294967296) / 2 ^ (Go.bits .and .u64 a2 31).toNat) = ji84 := shr_small hji84
                                                        replace H := Option.bind_eq_some_iff.mp H
                                                        obtain ⟨⟨t227, t228⟩, A850, H⟩ := H
                                                        replace H : (some (t227, t228)) = some (r1, r2) := H
                                                        have A85 := Aside0.mk A850
                                                        clear A850
                                                        simp only [Option.some.injEq, Prod.mk.injEq] at H
                                                        obtain ⟨rfl, rfl⟩ := H
                                                        go_wp2_with (first | (refine goesV_ (some 271) rfl rfl Try.func27 (by kernel_rfl) rfl #[.int .i32 (wrap32 (ji84))] rfl rfl (by (try simp only [List.map_toArray, List.map_cons, List.map_nil]); first | done | (simp only [hji84]; rfl) | rfl | (simp only [List.length_drop, List.length_take]; rfl)) ?_; (with_reducible refine (impl_Alu_1.calls (wrap32 (ji84)) t227 t228 _ A85.out).mono ?_); rintro e w' ⟨rfl, ⟨nd, rfl⟩⟩; refine ⟨_, rfl, ?_⟩))
                                                        go_ret2
                                                        exact ⟨by first | rfl | (simp [errW_none, errW_some] <;> rfl) | (simp only [← hji84]; first | rfl | (simp [errW_none, errW_some] <;> rfl)) | (simp [*, errW_none, errW_some] <;> rfl), by repeat (first | (with_reducible first | exact HB.out | apply below_alloc | apply pw_below_drewN | apply below_drew1) | exact HB.out)⟩
                                                      · rw [if_neg c83] at H
                                                        exact absurd H (by simp)
                                                    · rw [if_neg c82] at H
                                                      have c82b0 : (x0_5 == 24) = false := beq_eq_false_iff_ne.mpr c82
                                                      have c82b1 : (x0_5 != 24) = true := bne_iff_ne.mpr c82
                                                      by_cases c86 : x0_5 = 25
                                                      · rw [if_pos c86] at H
                                                        have c86b0 : (x0_5 == 25) = true := beq_iff_eq.mpr c86
                                                        have c86b1 : (x0_5 != 25) = false := bne_eq_false_iff_eq.mpr c86
                                                        clear c86
                                                        by_cases c87 : 0 ≤ (Go.bits .and .u64 a2 31)
                                                        · rw [if_pos c87] at H
                                                          have c87b0 := eq_true c87
                                                          have c87b1 : decide (0 ≤ (Go.bits .and .u64 a2 31)) = true := decide_eq_true c87
                                                          clear c87
                                                          obtain ⟨ji88, hji88⟩ : ∃ j_ : Int, (shr .i32 (wrap32 (a1)) (Go.bits .and .u64 a2 31)) = j_ := ⟨_, rfl⟩
                                                          replace H : ((impl_Alu_1.f (ji88)).bind fun bt229 => (some (bt229.1, bt229.2))) = some (r1, r2) := by first | (rw [hji88] at H; exact H) | (simp only [hji88] at H ⊢; exact H)
                                                          have hji88_ : ((wrap32 (a1)) / 2 ^ min (Go.bits .and .u64 a2 31).toNat 32) = ji88 := hji88
                                                          have hji88z : (Go.bits .and .u64 a2 31) ≤ 32 → ((wrap32 (a1)) / 2 ^ (Go.bits .and .u64 a2 31).toNat) = ji88 := shr_small hji88
                                                          replace H := Option.bind_eq_some_iff.mp H
                                                          obtain ⟨⟨t229, t230⟩, A890, H⟩ := H
                                                          replace H : (some (t229, t230)) = some (r1, r2) := H
                                                          have A89 := Aside0.mk A890
                                                          clear A890
                                                          simp only [Option.some.injEq, Prod.mk.injEq] at H
                                                          obtain ⟨rfl, rfl⟩ := H
                                                          go_wp2_with (first | (refine goesV_ (some 281) rfl rfl Try.func27 (by kernel_rfl) rfl #[.int .i32 ji88] rfl rfl (by (try simp only [List.map_toArray, List.map_cons, List.map_nil]); first | done | (simp only [hji88]; rfl) | rfl | (simp only [List.length_drop, List.length_take]; rfl)) ?_; (with_reducible refine (impl_Alu_1.calls ji88 t229 t230 _ A89.out).mono ?_); rintro e w' ⟨rfl, ⟨nd, rfl⟩⟩; refine ⟨_, rfl, ?_⟩))
                                                          go_ret2
                                                          exact ⟨by first | rfl | (simp [errW_none, errW_some] <;> rfl) | (simp only [← hji88]; first | rfl | (simp [errW_none, errW_some] <;> rfl)) | (simp [*, errW_none, errW_some] <;> rfl), by repeat (first | (with_reducible first | exact HB.out | apply below_alloc | apply pw_below_drewN | apply below_drew1) | exact HB.out)⟩
                                                        · rw [if_neg c87] at H
                                                          exact absurd H (by simp)
                                                      · rw [if_neg c86] at H
                                                        have c86b0 : (x0_5 == 25) = false := beq_eq_false_iff_ne.mpr c86
                                                        have c86b1 : (x0_5 != 25) = true := bne_iff_ne.mpr c86
                                                        simp only [Option.some.injEq, Prod.mk.injEq] at H
                                                        obtain ⟨rfl, rfl⟩ := H
                                                        go_wp2
                                                        go_ret2
                                                        exact ⟨by first | rfl | (simp [errW_none, errW_some] <;> rfl) | (simp [*, errW_none, errW_some] <;> rfl), by repeat (first | (with_reducible first | exact HB.out | apply below_alloc | apply pw_below_drewN | apply below_drew1) | exact HB.out)⟩
                                        
end Go.Proofs.Ytmbcihfdfohfcaa.PFnExactAlu
