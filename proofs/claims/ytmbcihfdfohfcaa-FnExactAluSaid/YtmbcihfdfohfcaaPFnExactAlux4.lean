-- Written by a program of this session out of the translation. Not trusted: Lean checks it.
import Derived.Test.YtmbcihfdfohfcaaPFnExactAlux0
import Derived.Test.YtmbcihfdfohfcaaPFnExactAlux1
import Derived.Test.YtmbcihfdfohfcaaPFnExactAlux2
import Derived.Test.YtmbcihfdfohfcaaPFnExactAlux3
namespace Go.Proofs.Ytmbcihfdfohfcaa.PFnExactAlu
open Go.RowKit Go.Proofs.YtmbcihfdfohfcaaW.PrintWords Go.Proofs.YtmbcihfdfohfcaaW.PrintLast Go.Proofs.YtmbcihfdfohfcaaW.PrintMore
attribute [local go_sem] max2_int min2_int max_two min_two max_three min_three max_four min_four   -- for this text's walks alone
set_option linter.unusedVariables false
set_option linter.unusedSimpArgs false

/-! ### spec_Alu: function 7 -/
mutual
def spec_Alu.j0 : Nat → Int → Int → Int → Bool → Option (Int × Bool)
  | 0, _, _, _, _ => none
  | k + 1, x0, x1, x2, x15 => if x15 = true then ((some (([1, 3, 4, 5, 6, 7, 8, 9, 10, 18] : List Int) : List Int)).bind fun y165 => (if 0 ≤ (wrap64 (x0 - 32)) then (if (wrap64 (x0 - 32)) < (y165.length : Int) then (spec_Alu.j1 k (rd y165 (wrap64 (x0 - 32))) x1 x2) else (none)) else (none))) else (spec_Alu.j1 k x0 x1 x2)
def spec_Alu.j1 : Nat → Int → Int → Int → Option (Int × Bool)
  | 0, _, _, _ => none
  | k + 1, x0, x1, x2 => if x0 < 1 then (spec_Alu.j2 k x0 x1 x2 true) else (spec_Alu.j2 k x0 x1 x2 (decide (x0 > 25)))
def spec_Alu.j2 : Nat → Int → Int → Int → Bool → Option (Int × Bool)
  | 0, _, _, _, _ => none
  | k + 1, x0, x1, x2, x26 => if x26 = true then (some (0, false)) else (if x0 ≥ 18 then ((spec_l3Half.f k x0 x1 x2).bind fun t169 => (some (t169, true))) else (if x0 = 1 then (some (IntKind.u64.wrap (x1 + x2), true)) else (if x0 = 2 then (some (IntKind.u64.wrap (x1 - x2), true)) else (if x0 = 3 then ((spec_l3Both.f k x1 x2 (([0, 0, 0, 1] : List Int))).bind fun t173 => (some (t173, true))) else (if x0 = 4 then ((spec_l3Both.f k x1 x2 (([0, 1, 1, 1] : List Int))).bind fun t177 => (some (t177, true))) else (if x0 = 5 then ((spec_l3Both.f k x1 x2 (([0, 1, 1, 0] : List Int))).bind fun t181 => (some (t181, true))) else (if x0 = 6 then ((spec_l3Move.f k x1 (wrap64 (Int.tmod x2 64)) 0).bind fun t182 => (some (t182, true))) else (if x0 = 7 then ((spec_l3Move.f k x1 (wrap64 (-(wrap64 (Int.tmod x2 64)))) 0).bind fun t183 => (some (t183, true))) else (if x0 = 8 then ((spec_l1Bit.f k x1 63).bind fun t184 => ((spec_l3Move.f k x1 (wrap64 (-(wrap64 (Int.tmod x2 64)))) t184).bind fun t185 => (some (t185, true)))) else (if x0 = 9 then ((spec_l3Less.f x1 x2).bind fun t186 => (some (t186, true))) else (if x0 = 10 then ((spec_l3Below.f x1 x2).bind fun t187 => (some (t187, true))) else (if x0 = 11 then ((spec_Wide.f k x1 x2).bind fun bt188 => (some (bt188.2, true))) else (if x0 = 12 then ((spec_l3High.f k x1 x2).bind fun t190 => (some (t190, true))) else (if x0 = 13 then ((spec_Wide.f k x1 x2).bind fun bt191 => (some (bt191.1, true))) else (if x0 = 14 then ((spec_l3Signed.f k x1 x2).bind fun bt193 => (some (bt193.1, true))) else (if x0 = 15 then ((spec_l3Unsigned.f k x1 x2).bind fun bt195 => (some (bt195.1, true))) else (if x0 = 16 then ((spec_l3Signed.f k x1 x2).bind fun bt197 => (some (bt197.2, true))) else (if x0 = 17 then ((spec_l3Unsigned.f k x1 x2).bind fun bt199 => (some (bt199.2, true))) else (some (0, true))))))))))))))))))))
end
def spec_Alu.f (k : Nat) (a0 : Int) (a1 : Int) (a2 : Int) : Option (Int × Bool) := if a0 ≥ 32 then (spec_Alu.j0 k a0 a1 a2 (decide (a0 ≤ 41))) else (spec_Alu.j0 k a0 a1 a2 false)
theorem spec_Alu.mono_l : ∀ k, (∀ y0 y1 y2 y3, LeO (spec_Alu.j0 k y0 y1 y2 y3) (spec_Alu.j0 (k + 1) y0 y1 y2 y3)) ∧ (∀ y0 y1 y2, LeO (spec_Alu.j1 k y0 y1 y2) (spec_Alu.j1 (k + 1) y0 y1 y2)) ∧ (∀ y0 y1 y2 y3, LeO (spec_Alu.j2 k y0 y1 y2 y3) (spec_Alu.j2 (k + 1) y0 y1 y2 y3))
  | 0 => ⟨fun _ _ _ _ r h => by simp [spec_Alu.j0] at h, fun _ _ _ r h => by simp [spec_Alu.j1] at h, fun _ _ _ _ r h => by simp [spec_Alu.j2] at h⟩
  | k + 1 => by
    obtain ⟨ih0, ih1, ih2⟩ := spec_Alu.mono_l k
    refine ⟨?_, ?_, ?_⟩
    · intro y0 y1 y2 y3
      unfold spec_Alu.j0
      repeat' first
      | (with_reducible exact ih0 _ _ _ _)
      | (with_reducible exact ih1 _ _ _)
      | (with_reducible exact ih2 _ _ _ _)
      | (with_reducible exact spec_Wide.mono _ _ _)
      | (with_reducible exact spec_l1Bit.mono _ _ _)
      | (with_reducible exact spec_l3Both.mono _ _ _ _)
      | (with_reducible exact spec_l3Half.mono _ _ _ _)
      | (with_reducible exact spec_l3High.mono _ _ _)
      | (with_reducible exact spec_l3Move.mono _ _ _ _)
      | (with_reducible exact spec_l3Signed.mono _ _ _)
      | (with_reducible exact spec_l3Unsigned.mono _ _ _)
      | (with_reducible exact LeO.refl _)
      | (with_reducible exact LeO.none _)
      | (with_reducible refine LeO.ite ?_ ?_)
      | (with_reducible refine LeO.bind ?_ (fun _ => ?_))
      | exact ih0 _ _ _ _
      | exact ih1 _ _ _
      | exact ih2 _ _ _ _
      | exact spec_Wide.mono _ _ _
      | exact spec_l1Bit.mono _ _ _
      | exact spec_l3Both.mono _ _ _ _
      | exact spec_l3Half.mono _ _ _ _
      | exact spec_l3High.mono _ _ _
      | exact spec_l3Move.mono _ _ _ _
      | exact spec_l3Signed.mono _ _ _
      | exact spec_l3Unsigned.mono _ _ _
      | exact LeO.none _
      | refine LeO.ite ?_ ?_
      | refine LeO.bind ?_ (fun _ => ?_)
    · intro y0 y1 y2
      unfold spec_Alu.j1
      repeat' first
      | (with_reducible exact ih0 _ _ _ _)
      | (with_reducible exact ih1 _ _ _)
      | (with_reducible exact ih2 _ _ _ _)
      | (with_reducible exact spec_Wide.mono _ _ _)
      | (with_reducible exact spec_l1Bit.mono _ _ _)
      | (with_reducible exact spec_l3Both.mono _ _ _ _)
      | (with_reducible exact spec_l3Half.mono _ _ _ _)
      | (with_reducible exact spec_l3High.mono _ _ _)
      | (with_reducible exact spec_l3Move.mono _ _ _ _)
      | (with_reducible exact spec_l3Signed.mono _ _ _)
      | (with_reducible exact spec_l3Unsigned.mono _ _ _)
      | (with_reducible exact LeO.refl _)
      | (with_reducible exact LeO.none _)
      | (with_reducible refine LeO.ite ?_ ?_)
      | (with_reducible refine LeO.bind ?_ (fun _ => ?_))
      | exact ih0 _ _ _ _
      | exact ih1 _ _ _
      | exact ih2 _ _ _ _
      | exact spec_Wide.mono _ _ _
      | exact spec_l1Bit.mono _ _ _
      | exact spec_l3Both.mono _ _ _ _
      | exact spec_l3Half.mono _ _ _ _
      | exact spec_l3High.mono _ _ _
      | exact spec_l3Move.mono _ _ _ _
      | exact spec_l3Signed.mono _ _ _
      | exact spec_l3Unsigned.mono _ _ _
      | exact LeO.none _
      | refine LeO.ite ?_ ?_
      | refine LeO.bind ?_ (fun _ => ?_)
    · intro y0 y1 y2 y3
      unfold spec_Alu.j2
      repeat' first
      | (with_reducible exact ih0 _ _ _ _)
      | (with_reducible exact ih1 _ _ _)
      | (with_reducible exact ih2 _ _ _ _)
      | (with_reducible exact spec_Wide.mono _ _ _)
      | (with_reducible exact spec_l1Bit.mono _ _ _)
      | (with_reducible exact spec_l3Both.mono _ _ _ _)
      | (with_reducible exact spec_l3Half.mono _ _ _ _)
      | (with_reducible exact spec_l3High.mono _ _ _)
      | (with_reducible exact spec_l3Move.mono _ _ _ _)
      | (with_reducible exact spec_l3Signed.mono _ _ _)
      | (with_reducible exact spec_l3Unsigned.mono _ _ _)
      | (with_reducible exact LeO.refl _)
      | (with_reducible exact LeO.none _)
      | (with_reducible refine LeO.ite ?_ ?_)
      | (with_reducible refine LeO.bind ?_ (fun _ => ?_))
      | exact ih0 _ _ _ _
      | exact ih1 _ _ _
      | exact ih2 _ _ _ _
      | exact spec_Wide.mono _ _ _
      | exact spec_l1Bit.mono _ _ _
      | exact spec_l3Both.mono _ _ _ _
      | exact spec_l3Half.mono _ _ _ _
      | exact spec_l3High.mono _ _ _
      | exact spec_l3Move.mono _ _ _ _
      | exact spec_l3Signed.mono _ _ _
      | exact spec_l3Unsigned.mono _ _ _
      | exact LeO.none _
      | refine LeO.ite ?_ ?_
      | refine LeO.bind ?_ (fun _ => ?_)
theorem spec_Alu.mono : ∀ a0 a1 a2 k, LeO (spec_Alu.f k a0 a1 a2) (spec_Alu.f (k + 1) a0 a1 a2) := by
  intro a0 a1 a2 k
  obtain ⟨ih0, ih1, ih2⟩ := spec_Alu.mono_l k
  unfold spec_Alu.f
  repeat' first
      | (with_reducible exact ih0 _ _ _ _)
      | (with_reducible exact ih1 _ _ _)
      | (with_reducible exact ih2 _ _ _ _)
      | (with_reducible exact spec_Wide.mono _ _ _)
      | (with_reducible exact spec_l1Bit.mono _ _ _)
      | (with_reducible exact spec_l3Both.mono _ _ _ _)
      | (with_reducible exact spec_l3Half.mono _ _ _ _)
      | (with_reducible exact spec_l3High.mono _ _ _)
      | (with_reducible exact spec_l3Move.mono _ _ _ _)
      | (with_reducible exact spec_l3Signed.mono _ _ _)
      | (with_reducible exact spec_l3Unsigned.mono _ _ _)
      | (with_reducible exact LeO.refl _)
      | (with_reducible exact LeO.none _)
      | (with_reducible refine LeO.ite ?_ ?_)
      | (with_reducible refine LeO.bind ?_ (fun _ => ?_))
      | exact ih0 _ _ _ _
      | exact ih1 _ _ _
      | exact ih2 _ _ _ _
      | exact spec_Wide.mono _ _ _
      | exact spec_l1Bit.mono _ _ _
      | exact spec_l3Both.mono _ _ _ _
      | exact spec_l3Half.mono _ _ _ _
      | exact spec_l3High.mono _ _ _
      | exact spec_l3Move.mono _ _ _ _
      | exact spec_l3Signed.mono _ _ _
      | exact spec_l3Unsigned.mono _ _ _
      | exact LeO.none _
      | refine LeO.ite ?_ ?_
      | refine LeO.bind ?_ (fun _ => ?_)
set_option maxHeartbeats 8000000 in
set_option maxRecDepth 100000 in
theorem spec_Alu.calls (k : Nat) (a0 : Int) (a1 : Int) (a2 : Int) (r1 : Int) (r2 : Bool) (w : World) (h : spec_Alu.f k a0 a1 a2 = some (r1, r2)) :
    Calls Try.prog 7 #[.int .i64 a0, .int .u64 a1, .int .u64 a2] w fun e w' => e = .returned (.tuple #[.int .u64 r1, .bool r2]) ∧ Below w.heap.size w w' := by
  have HB := Aside0.mk (Below.refl w.heap.size w)
  have H : (if a0 ≥ 32 then (spec_Alu.j0 k a0 a1 a2 (decide (a0 ≤ 41))) else (spec_Alu.j0 k a0 a1 a2 false)) = some (r1, r2) := h
  clear h
  have HC4 := Aside0.mk H
  clear H
  go_enter Try.func7, Try.ntmps7
  go_upto_region 1 with (fail)
  go_cut [15] (fun v15 wc => ∃ (kq : Nat) (x15_3 : Bool), v15 = .bool x15_3 ∧ Aside0 (spec_Alu.j0 kq a0 a1 a2 x15_3 = some (r1, r2)) ∧ Aside0 (kq ≤ k) ∧ Aside0 (Below w.heap.size w wc))
  case first =>
    have H := HC4.out
    clear HC4
    by_cases c5 : a0 ≥ 32
    · rw [if_pos c5] at H
      have c5b0 : decide (32 ≤ a0) = true := decide_eq_true c5
      clear c5
      (first | rw [c5b0] | (simp only [i64_w, i32_w]; rw [c5b0]) | skip)
      have H' := Aside0.mk H
      clear H
      go_wp2
      go_meet
      case rel => exact ⟨_, (decide (a0 ≤ 41)), (by first | rfl | exact congrArg (Value.int .i64) (i64_w _) | (simp; done) | (simp [*]; done)), H', ⟨by first | omega | exact Nat.le_refl _⟩, ⟨by repeat (first | (with_reducible first | exact HB.out | apply below_alloc | apply pw_below_drewN | apply below_drew1) | exact HB.out)⟩⟩
    · rw [if_neg c5] at H
      have c5b0 : decide (32 ≤ a0) = false := decide_eq_false c5
      clear c5
      (first | rw [c5b0] | (simp only [i64_w, i32_w]; rw [c5b0]) | skip)
      have H' := Aside0.mk H
      clear H
      go_wp2
      go_meet
      case rel => exact ⟨_, (false), (by first | rfl | exact congrArg (Value.int .i64) (i64_w _) | (simp; done) | (simp [*]; done)), H', ⟨by first | omega | exact Nat.le_refl _⟩, ⟨by repeat (first | (with_reducible first | exact HB.out | apply below_alloc | apply pw_below_drewN | apply below_drew1) | exact HB.out)⟩⟩
  case rest =>
    clear HC4
    try clear p2
    try clear c5
    try clear c5b0
    obtain ⟨kq, x15_3, rfl, HA, HJ3, HB⟩ := hcut
    cases kq with
    | zero => exact absurd HA.out (by simp [spec_Alu.j0])
    | succ kj3 =>
      have H := HA.out
      clear HA
      simp only [spec_Alu.j0] at H
      have HC6 := Aside0.mk H
      clear H
      go_upto_if 15 with (fail)
      go_cut [0] (fun v0 wc => ∃ (kq : Nat) (x0_5 : Int), v0 = .int .i64 x0_5 ∧ Aside0 (spec_Alu.j1 kq x0_5 a1 a2 = some (r1, r2)) ∧ Aside0 (kq ≤ kj3) ∧ Aside0 (Below w.heap.size w wc))
      case first =>
        have H := HC6.out
        clear HC6
        by_cases c7 : x15_3 = true
        · subst c7
          have H1 : ((some (([1, 3, 4, 5, 6, 7, 8, 9, 10, 18] : List Int) : List Int)).bind fun y165 => (if 0 ≤ (wrap64 (a0 - 32)) then (if (wrap64 (a0 - 32)) < (y165.length : Int) then (spec_Alu.j1 kj3 (rd y165 (wrap64 (a0 - 32))) a1 a2) else (none)) else (none))) = some (r1, r2) := by rw [if_pos rfl] at H; exact H
          clear H
          have H := H1
          clear H1
          obtain ⟨y165, hy165⟩ : ∃ y_ : List Int, y_ = (([1, 3, 4, 5, 6, 7, 8, 9, 10, 18] : List Int)) := ⟨_, rfl⟩
          replace H : (if 0 ≤ (wrap64 (a0 - 32)) then (if (wrap64 (a0 - 32)) < (y165.length : Int) then (spec_Alu.j1 kj3 (rd y165 (wrap64 (a0 - 32))) a1 a2) else (none)) else (none)) = some (r1, r2) := by first | (rw [hy165]; with_reducible exact H) | (have H2_ := (Option.bind_some _ _).symm.trans H; rw [hy165]; with_reducible exact H2_) | (have H2_ := (Option.bind_some _ _).symm.trans H; with_reducible exact H2_) | with_reducible exact H | (rw [hy165]; exact H) | exact H
          have Ny165 := Aside0.mk hy165
          clear hy165
          obtain ⟨ji8, hji8⟩ : ∃ j_ : Int, (wrap64 (a0 - 32)) = j_ := ⟨_, rfl⟩
          replace H : (if 0 ≤ (ji8) then (if (ji8) < (y165.length : Int) then (spec_Alu.j1 kj3 (rd y165 (ji8)) a1 a2) else (none)) else (none)) = some (r1, r2) := by first | (rw [hji8] at H; exact H) | (simp only [hji8] at H ⊢; exact H)
          have hji8w : (IntKind.i64.wrap (a0 - 32)) = ji8 := (i64_w _).trans hji8
          by_cases c9 : 0 ≤ (ji8)
          · rw [if_pos c9] at H
            have c9b0 : decide (0 ≤ (ji8)) = true := decide_eq_true c9
            clear c9
            (first | rw [c9b0] | (simp only [i64_w, i32_w]; rw [c9b0]) | skip)
            by_cases c10 : (ji8) < (y165.length : Int)
            · rw [if_pos c10] at H
              have c10b0 : decide ((ji8) < (y165.length : Int)) = true := decide_eq_true c10
              clear c10
              have H' := Aside0.mk H
              clear H
              go_wp2_with (first | ((with_reducible refine gate_dst (N := 16) rfl ?_); refine Kd.R_lit (Kd.int .i64) _ 2 ?hg (N := 16) ?hd (xs := ([1, 3, 4, 5, 6, 7, 8, 9, 10, 18] : List Int)) (inner := [.int .i64 1, .int .i64 3, .int .i64 4, .int .i64 5, .int .i64 6, .int .i64 7, .int .i64 8, .int .i64 9, .int .i64 10, .int .i64 18]) (ok := fun _ => True) (okp := fun _ => True) ?hr ?hp (fun _ hk => hk) trivial (Below.refl _ _) (Nat.le_refl _) (by simp) ?_; (case hd => rfl); (case hg => rfl); (case hr => first | (go_simp; done) | (go_simp; rfl)); (case hp => exact (Reps.one (show Kd.M (Kd.int .i64) _ _ _ 1 [.int .i64 1] from rfl) (Reps.one (show Kd.M (Kd.int .i64) _ _ _ 3 [.int .i64 3] from rfl) (Reps.one (show Kd.M (Kd.int .i64) _ _ _ 4 [.int .i64 4] from rfl) (Reps.one (show Kd.M (Kd.int .i64) _ _ _ 5 [.int .i64 5] from rfl) (Reps.one (show Kd.M (Kd.int .i64) _ _ _ 6 [.int .i64 6] from rfl) (Reps.one (show Kd.M (Kd.int .i64) _ _ _ 7 [.int .i64 7] from rfl) (Reps.one (show Kd.M (Kd.int .i64) _ _ _ 8 [.int .i64 8] from rfl) (Reps.one (show Kd.M (Kd.int .i64) _ _ _ 9 [.int .i64 9] from rfl) (Reps.one (show Kd.M (Kd.int .i64) _ _ _ 10 [.int .i64 10] from rfl) (Reps.one (show Kd.M (Kd.int .i64) _ _ _ 18 [.int .i64 18] from rfl) (Reps.none _ _)))))))))))); intro v166 w11 ho12 hb hg_ hnew_; clear hg_ hnew_; (first | rw [← Ny165.out] at ho12 | (simp only [Int.reduceToNat] at ho12; rw [← Ny165.out] at ho12)); have n0_ := Aside0.mk (Kd.R_lower ho12 (below_size (by repeat (first | (with_reducible first | exact HB.out | apply below_alloc | apply pw_below_drewN | apply below_drew1) | exact HB.out)))); have n1_ := Aside0.mk (below_step (by repeat (first | (with_reducible first | exact HB.out | apply below_alloc | apply pw_below_drewN | apply below_drew1) | exact HB.out)) hb); clear HB; have HO167 := n0_; have HB := n1_; clear n0_ n1_; clear hb ho12; obtain ⟨Ao13, co13, eo13⟩ := Kd.R_slice HO167.out; subst eo13; have p168 : 0 ≤ ((ji8) : Int) := of_decide_eq_true (by first | (with_reducible assumption) | assumption); have q168 : (ji8) < (y165.length : Int) := of_decide_eq_true (by first | (with_reducible assumption) | assumption); obtain ⟨ad168, e168, hx168_0⟩ := Kd.at_int (Kd.R_reads' HO167.out).2.2 (ji8) p168 q168; cases e168; replace p168 := eq_true p168; replace q168 := eq_true q168))
              go_meet
              case rel => exact ⟨_, (rd y165 (ji8)), (by first | rfl | (simp; done) | (simp only [← hji8] <;> (first | rfl | simp)) | (simp [*]; done)), H', ⟨by have := HJ3.out; first | omega | exact Nat.le_refl _⟩, ⟨by repeat (first | (with_reducible first | exact HB.out | apply below_alloc | apply pw_below_drewN | apply below_drew1) | exact HB.out)⟩⟩
            · rw [if_neg c10] at H
              exact absurd H (by simp)
          · rw [if_neg c9] at H
            exact absurd H (by simp)
        · replace c7 := Bool.eq_false_iff.mpr c7
          subst c7
          have H1 : (spec_Alu.j1 kj3 a0 a1 a2) = some (r1, r2) := by rw [if_neg (show ¬ (false = true) by decide)] at H; exact H
          clear H
          have H := H1
          clear H1
          have H' := Aside0.mk H
          clear H
          go_wp2
          go_meet
          case rel => exact ⟨_, (a0), (by first | rfl | exact congrArg (Value.int .i64) (i64_w _) | (simp; done) | (simp [*]; done)), H', ⟨by have := HJ3.out; first | omega | exact Nat.le_refl _⟩, ⟨by repeat (first | (with_reducible first | exact HB.out | apply below_alloc | apply pw_below_drewN | apply below_drew1) | exact HB.out)⟩⟩
      case rest =>
        clear HC6
        try clear c1
        try clear p1
        try clear q1
        try clear hx1
        try clear p2
        try clear c5
        try clear c5b0
        try clear p6
        try clear c7
        try clear c9
        try clear c9b0
        try clear c10
        try clear c10b0
        try clear hx168_0
        try clear p168
        try clear p2
        try clear q168
        obtain ⟨kq, x0_5, rfl, HA, HJ5, HB⟩ := hcut
        cases kq with
        | zero => exact absurd HA.out (by simp [spec_Alu.j1])
        | succ kj5 =>
          have H := HA.out
          clear HA
          simp only [spec_Alu.j1] at H
          have HC14 := Aside0.mk H
          clear H
          go_upto_region 3 with (fail)
          go_cut [26] (fun v26 wc => ∃ (kq : Nat) (x26_13 : Bool), v26 = .bool x26_13 ∧ Aside0 (spec_Alu.j2 kq x0_5 a1 a2 x26_13 = some (r1, r2)) ∧ Aside0 (kq ≤ kj5) ∧ Aside0 (Below w.heap.size w wc))
          case first =>
            have H := HC14.out
            clear HC14
            by_cases c15 : x0_5 < 1
            · rw [if_pos c15] at H
              have c15b0 : decide (x0_5 < 1) = true := decide_eq_true c15
              clear c15
              (first | rw [c15b0] | (simp only [i64_w, i32_w]; rw [c15b0]) | skip)
              have H' := Aside0.mk H
              clear H
              go_wp2
              go_meet
              case rel => exact ⟨_, (true), (by first | rfl | exact congrArg (Value.int .i64) (i64_w _) | (simp; done) | (simp [*]; done)), H', ⟨by have := HJ3.out; have := HJ5.out; first | omega | exact Nat.le_refl _⟩, ⟨by repeat (first | (with_reducible first | exact HB.out | apply below_alloc | apply pw_below_drewN | apply below_drew1) | exact HB.out)⟩⟩
            · rw [if_neg c15] at H
              have c15b0 : decide (x0_5 < 1) = false := decide_eq_false c15
              clear c15
              (first | rw [c15b0] | (simp only [i64_w, i32_w]; rw [c15b0]) | skip)
              have H' := Aside0.mk H
              clear H
              go_wp2
              go_meet
              case rel => exact ⟨_, (decide (x0_5 > 25)), (by first | rfl | exact congrArg (Value.int .i64) (i64_w _) | (simp; done) | (simp [*]; done)), H', ⟨by have := HJ3.out; have := HJ5.out; first | omega | exact Nat.le_refl _⟩, ⟨by repeat (first | (with_reducible first | exact HB.out | apply below_alloc | apply pw_below_drewN | apply below_drew1) | exact HB.out)⟩⟩
          case rest =>
            clear HC14
            try clear c1
            try clear p1
            try clear q1
            try clear hx1
            try clear p2
            try clear c5
            try clear c5b0
            try clear p6
            try clear c7
            try clear c9
            try clear c9b0
            try clear c10
            try clear c10b0
            try clear c15
            try clear c15b0
            try clear hx168_0
            try clear p1
            try clear p168
            try clear p2
            try clear p6
            try clear q1
            try clear q168
            obtain ⟨kq, x26_13, rfl, HA, HJ13, HB⟩ := hcut
            cases kq with
            | zero => exact absurd HA.out (by simp [spec_Alu.j2])
            | succ kj13 =>
              have H := HA.out
              clear HA
              simp only [spec_Alu.j2] at H
              by_cases c16 : x26_13 = true
              · subst c16
                have H1 : (some (0, false)) = some (r1, r2) := by rw [if_pos rfl] at H; exact H
                clear H
                have H := H1
                clear H1
                simp only [Option.some.injEq, Prod.mk.injEq] at H
                obtain ⟨rfl, rfl⟩ := H
                go_wp2
                go_ret2
                exact ⟨by first | rfl | (simp [errW_none, errW_some] <;> rfl) | (simp [*, errW_none, errW_some] <;> rfl), by repeat (first | (with_reducible first | exact HB.out | apply below_alloc | apply pw_below_drewN | apply below_drew1) | exact HB.out)⟩
              · replace c16 := Bool.eq_false_iff.mpr c16
                subst c16
                have H1 : (if x0_5 ≥ 18 then ((spec_l3Half.f kj13 x0_5 a1 a2).bind fun t169 => (some (t169, true))) else (if x0_5 = 1 then (some (IntKind.u64.wrap (a1 + a2), true)) else (if x0_5 = 2 then (some (IntKind.u64.wrap (a1 - a2), true)) else (if x0_5 = 3 then ((spec_l3Both.f kj13 a1 a2 (([0, 0, 0, 1] : List Int))).bind fun t173 => (some (t173, true))) else (if x0_5 = 4 then ((spec_l3Both.f kj13 a1 a2 (([0, 1, 1, 1] : List Int))).bind fun t177 => (some (t177, true))) else (if x0_5 = 5 then ((spec_l3Both.f kj13 a1 a2 (([0, 1, 1, 0] : List Int))).bind fun t181 => (some (t181, true))) else (if x0_5 = 6 then ((spec_l3Move.f kj13 a1 (wrap64 (Int.tmod a2 64)) 0).bind fun t182 => (some (t182, true))) else (if x0_5 = 7 then ((spec_l3Move.f kj13 a1 (wrap64 (-(wrap64 (Int.tmod a2 64)))) 0).bind fun t183 => (some (t183, true))) else (if x0_5 = 8 then ((spec_l1Bit.f kj13 a1 63).bind fun t184 => ((spec_l3Move.f kj13 a1 (wrap64 (-(wrap64 (Int.tmod a2 64)))) t184).bind fun t185 => (some (t185, true)))) else (if x0_5 = 9 then ((spec_l3Less.f a1 a2).bind fun t186 => (some (t186, true))) else (if x0_5 = 10 then ((spec_l3Below.f a1 a2).bind fun t187 => (some (t187, true))) else (if x0_5 = 11 then ((spec_Wide.f kj13 a1 a2).bind fun bt188 => (some (bt188.2, true))) else (if x0_5 = 12 then ((spec_l3High.f kj13 a1 a2).bind fun t190 => (some (t190, true))) else (if x0_5 = 13 then ((spec_Wide.f kj13 a1 a2).bind fun bt191 => (some (bt191.1, true))) else (if x0_5 = 14 then ((spec_l3Signed.f kj13 a1 a2).bind fun bt193 => (some (bt193.1, true))) else (if x0_5 = 15 then ((spec_l3Unsigned.f kj13 a1 a2).bind fun bt195 => (some (bt195.1, true))) else (if x0_5 = 16 then ((spec_l3Signed.f kj13 a1 a2).bind fun bt197 => (some (bt197.2, true))) else (if x0_5 = 17 then ((spec_l3Unsigned.f kj13 a1 a2).bind fun bt199 => (some (bt199.2, true))) else (some (0, true)))))))))))))))))))) = some (r1, r2) := by rw [if_neg (show ¬ (false = true) by decide)] at H; exact H
                clear H
                have H := H1
                clear H1
                by_cases c17 : x0_5 ≥ 18
                · rw [if_pos c17] at H
                  have c17b0 : decide (18 ≤ x0_5) = true := decide_eq_true c17
                  clear c17
                  replace H := Option.bind_eq_some_iff.mp H
                  obtain ⟨t169, A180, H⟩ := H
                  replace H : (some (t169, true)) = some (r1, r2) := H
                  have A18 := Aside0.mk A180
                  clear A180
                  simp only [Option.some.injEq, Prod.mk.injEq] at H
                  obtain ⟨rfl, rfl⟩ := H
                  go_wp2_with (first | ((with_reducible refine gate_callee (f := 17) rfl ?_); refine goesL_ (some 32) rfl rfl Try.func17 (by kernel_rfl) rfl #[.int .i64 x0_5, .int .u64 a1, .int .u64 a2] rfl (by (try simp only [List.map_toArray, List.map_cons, List.map_nil]); first | done | rfl | (simp only [List.length_drop, List.length_take]; rfl)) ?_; (with_reducible refine (spec_l3Half.calls kj13 x0_5 a1 a2 t169 _ A18.out).mono ?_); rintro e w' ⟨rfl, ⟨nd, rfl⟩⟩; refine ⟨_, rfl, ?_⟩))
                  go_ret2
                  exact ⟨by first | rfl | (simp [errW_none, errW_some] <;> rfl) | (simp [*, errW_none, errW_some] <;> rfl), by repeat (first | (with_reducible first | exact HB.out | apply below_alloc | apply pw_below_drewN | apply below_drew1) | exact HB.out)⟩
                · rw [if_neg c17] at H
                  have c17b0 : decide (18 ≤ x0_5) = false := decide_eq_false c17
                  clear c17
                  by_cases c19 : x0_5 = 1
                  · rw [if_pos c19] at H
                    have c19b0 : (x0_5 == 1) = true := beq_iff_eq.mpr c19
                    have c19b1 : (x0_5 != 1) = false := bne_eq_false_iff_eq.mpr c19
                    clear c19
                    simp only [Option.some.injEq, Prod.mk.injEq] at H
                    obtain ⟨rfl, rfl⟩ := H
                    go_wp2
                    go_ret2
                    exact ⟨by first | rfl | (simp [errW_none, errW_some] <;> rfl) | (simp [*, errW_none, errW_some] <;> rfl), by repeat (first | (with_reducible first | exact HB.out | apply below_alloc | apply pw_below_drewN | apply below_drew1) | exact HB.out)⟩
                  · rw [if_neg c19] at H
                    have c19b0 : (x0_5 == 1) = false := beq_eq_false_iff_ne.mpr c19
                    have c19b1 : (x0_5 != 1) = true := bne_iff_ne.mpr c19
                    by_cases c20 : x0_5 = 2
                    · rw [if_pos c20] at H
                      have c20b0 : (x0_5 == 2) = true := beq_iff_eq.mpr c20
                      have c20b1 : (x0_5 != 2) = false := bne_eq_false_iff_eq.mpr c20
                      clear c20
                      simp only [Option.some.injEq, Prod.mk.injEq] at H
                      obtain ⟨rfl, rfl⟩ := H
                      go_wp2
                      go_ret2
                      exact ⟨by first | rfl | (simp [errW_none, errW_some] <;> rfl) | (simp [*, errW_none, errW_some] <;> rfl), by repeat (first | (with_reducible first | exact HB.out | apply below_alloc | apply pw_below_drewN | apply below_drew1) | exact HB.out)⟩
                    · rw [if_neg c20] at H
                      have c20b0 : (x0_5 == 2) = false := beq_eq_false_iff_ne.mpr c20
                      have c20b1 : (x0_5 != 2) = true := bne_iff_ne.mpr c20
                      by_cases c21 : x0_5 = 3
                      · rw [if_pos c21] at H
                        have c21b0 : (x0_5 == 3) = true := beq_iff_eq.mpr c21
                        have c21b1 : (x0_5 != 3) = false := bne_eq_false_iff_eq.mpr c21
                        clear c21
                        obtain ⟨y170, hy170⟩ : ∃ y_ : List Int, y_ = (([0, 0, 0, 1] : List Int)) := ⟨_, rfl⟩
                        replace H : ((spec_l3Both.f kj13 a1 a2 y170).bind fun t173 => (some (t173, true))) = some (r1, r2) := by first | (rw [hy170]; with_reducible exact H) | (have H2_ := (Option.bind_some _ _).symm.trans H; rw [hy170]; with_reducible exact H2_) | (have H2_ := (Option.bind_some _ _).symm.trans H; with_reducible exact H2_) | with_reducible exact H | (rw [hy170]; exact H) | exact H
                        have Ny170 := Aside0.mk hy170
                        clear hy170
                        replace H := Option.bind_eq_some_iff.mp H
                        obtain ⟨t173, A220, H⟩ := H
                        replace H : (some (t173, true)) = some (r1, r2) := H
                        have A22 := Aside0.mk A220
                        clear A220
                        simp only [Option.some.injEq, Prod.mk.injEq] at H
                        obtain ⟨rfl, rfl⟩ := H
                        go_wp2_with (first | ((with_reducible refine gate_dst (N := 51) rfl ?_); refine Kd.R_lit (Kd.int .u64) _ 22 ?hg (N := 51) ?hd (xs := ([0, 0, 0, 1] : List Int)) (inner := [.int .u64 0, .int .u64 0, .int .u64 0, .int .u64 1]) (ok := fun _ => True) (okp := fun _ => True) ?hr ?hp (fun _ hk => hk) trivial (Below.refl _ _) (Nat.le_refl _) (by simp) ?_; (case hd => rfl); (case hg => rfl); (case hr => first | (go_simp; done) | (go_simp; rfl)); (case hp => exact (Reps.one (show Kd.M (Kd.int .u64) _ _ _ 0 [.int .u64 0] from rfl) (Reps.one (show Kd.M (Kd.int .u64) _ _ _ 0 [.int .u64 0] from rfl) (Reps.one (show Kd.M (Kd.int .u64) _ _ _ 0 [.int .u64 0] from rfl) (Reps.one (show Kd.M (Kd.int .u64) _ _ _ 1 [.int .u64 1] from rfl) (Reps.none _ _)))))); intro v171 w23 ho24 hb hg_ hnew_; clear hg_ hnew_; (first | rw [← Ny170.out] at ho24 | (simp only [Int.reduceToNat] at ho24; rw [← Ny170.out] at ho24)); have n0_ := Aside0.mk (Kd.R_lower ho24 (below_size (by repeat (first | (with_reducible first | exact HB.out | apply below_alloc | apply pw_below_drewN | apply below_drew1) | exact HB.out)))); have n1_ := Aside0.mk (below_step (by repeat (first | (with_reducible first | exact HB.out | apply below_alloc | apply pw_below_drewN | apply below_drew1) | exact HB.out)) hb); clear HB; have HO172 := n0_; have HB := n1_; clear n0_ n1_; clear hb ho24; obtain ⟨Ao25, co25, eo25⟩ := Kd.R_slice HO172.out; subst eo25) | ((with_reducible refine gate_callee (f := 18) rfl ?_); refine goesL_ (some 52) rfl rfl Try.func18 (by kernel_rfl) rfl #[.int .u64 a1, .int .u64 a2, .slice Ao25 y170.length co25] rfl (by (try simp only [List.map_toArray, List.map_cons, List.map_nil]); first | done | rfl | (simp only [List.length_drop, List.length_take]; rfl)) ?_; (with_reducible refine (spec_l3Both.calls kj13 a1 a2 _ _ y170 t173 _ ?side1 ?side2 A22.out).mono ?_); (case side1 => repeat (first | exact (Kd.R_reads' HO172.out).2.2 | (with_reducible refine Kd.C_alloc ?_ _) | (with_reducible refine Kd.C_drewN ?_ _) | (with_reducible refine Kd.C_drew ?_))); (case side2 => exact (Kd.R_reads' HO172.out).2.1); rintro e w' ⟨rfl, ⟨nd, rfl⟩⟩; refine ⟨_, rfl, ?_⟩))
                        go_ret2
                        exact ⟨by first | rfl | (simp [errW_none, errW_some] <;> rfl) | (simp [*, errW_none, errW_some] <;> rfl), by repeat (first | (with_reducible first | exact HB.out | apply below_alloc | apply pw_below_drewN | apply below_drew1) | exact HB.out)⟩
                      · rw [if_neg c21] at H
                        have c21b0 : (x0_5 == 3) = false := beq_eq_false_iff_ne.mpr c21
                        have c21b1 : (x0_5 != 3) = true := bne_iff_ne.mpr c21
                        by_cases c26 : x0_5 = 4
                        · rw [if_pos c26] at H
                          have c26b0 : (x0_5 == 4) = true := beq_iff_eq.mpr c26
                          have c26b1 : (x0_5 != 4) = false := bne_eq_false_iff_eq.mpr c26
                          clear c26
                          obtain ⟨y174, hy174⟩ : ∃ y_ : List Int, y_ = (([0, 1, 1, 1] : List Int)) := ⟨_, rfl⟩
                          replace H : ((spec_l3Both.f kj13 a1 a2 y174).bind fun t177 => (some (t177, true))) = some (r1, r2) := by first | (rw [hy174]; with_reducible exact H) | (have H2_ := (Option.bind_some _ _).symm.trans H; rw [hy174]; with_reducible exact H2_) | (have H2_ := (Option.bind_some _ _).symm.trans H; with_reducible exact H2_) | with_reducible exact H | (rw [hy174]; exact H) | exact H
                          have Ny174 := Aside0.mk hy174
                          clear hy174
                          replace H := Option.bind_eq_some_iff.mp H
                          obtain ⟨t177, A270, H⟩ := H
                          replace H : (some (t177, true)) = some (r1, r2) := H
                          have A27 := Aside0.mk A270
                          clear A270
                          simp only [Option.some.injEq, Prod.mk.injEq] at H
                          obtain ⟨rfl, rfl⟩ := H
                          go_wp2_with (first | ((with_reducible refine gate_dst (N := 57) rfl ?_); refine Kd.R_lit (Kd.int .u64) _ 22 ?hg (N := 57) ?hd (xs := ([0, 1, 1, 1] : List Int)) (inner := [.int .u64 0, .int .u64 1, .int .u64 1, .int .u64 1]) (ok := fun _ => True) (okp := fun _ => True) ?hr ?hp (fun _ hk => hk) trivial (Below.refl _ _) (Nat.le_refl _) (by simp) ?_; (case hd => rfl); (case hg => rfl); (case hr => first | (go_simp; done) | (go_simp; rfl)); (case hp => exact (Reps.one (show Kd.M (Kd.int .u64) _ _ _ 0 [.int .u64 0] from rfl) (Reps.one (show Kd.M (Kd.int .u64) _ _ _ 1 [.int .u64 1] from rfl) (Reps.one (show Kd.M (Kd.int .u64) _ _ _ 1 [.int .u64 1] from rfl) (Reps.one (show Kd.M (Kd.int .u64) _ _ _ 1 [.int .u64 1] from rfl) (Reps.none _ _)))))); intro v175 w28 ho29 hb hg_ hnew_; clear hg_ hnew_; (first | rw [← Ny174.out] at ho29 | (simp only [Int.reduceToNat] at ho29; rw [← Ny174.out] at ho29)); have n0_ := Aside0.mk (Kd.R_lower ho29 (below_size (by repeat (first | (with_reducible first | exact HB.out | apply below_alloc | apply pw_below_drewN | apply below_drew1) | exact HB.out)))); have n1_ := Aside0.mk (below_step (by repeat (first | (with_reducible first | exact HB.out | apply below_alloc | apply pw_below_drewN | apply below_drew1) | exact HB.out)) hb); clear HB; have HO176 := n0_; have HB := n1_; clear n0_ n1_; clear hb ho29; obtain ⟨Ao30, co30, eo30⟩ := Kd.R_slice HO176.out; subst eo30) | ((with_reducible refine gate_callee (f := 18) rfl ?_); refine goesL_ (some 58) rfl rfl Try.func18 (by kernel_rfl) rfl #[.int .u64 a1, .int .u64 a2, .slice Ao30 y174.length co30] rfl (by (try simp only [List.map_toArray, List.map_cons, List.map_nil]); first | done | rfl | (simp only [List.length_drop, List.length_take]; rfl)) ?_; (with_reducible refine (spec_l3Both.calls kj13 a1 a2 _ _ y174 t177 _ ?side1 ?side2 A27.out).mono ?_); (case side1 => repeat (first | exact (Kd.R_reads' HO176.out).2.2 | (with_reducible refine Kd.C_alloc ?_ _) | (with_reducible refine Kd.C_drewN ?_ _) | (with_reducible refine Kd.C_drew ?_))); (case side2 => exact (Kd.R_reads' HO176.out).2.1); rintro e w' ⟨rfl, ⟨nd, rfl⟩⟩; refine ⟨_, rfl, ?_⟩))
                          go_ret2
                          exact ⟨by first | rfl | (simp [errW_none, errW_some] <;> rfl) | (simp [*, errW_none, errW_some] <;> rfl), by repeat (first | (with_reducible first | exact HB.out | apply below_alloc | apply pw_below_drewN | apply below_drew1) | exact HB.out)⟩
                        · rw [if_neg c26] at H
                          have c26b0 : (x0_5 == 4) = false := beq_eq_false_iff_ne.mpr c26
                          have c26b1 : (x0_5 != 4) = true := bne_iff_ne.mpr c26
                          by_cases c31 : x0_5 = 5
                          · rw [if_pos c31] at H
                            have c31b0 : (x0_5 == 5) = true := beq_iff_eq.mpr c31
                            have c31b1 : (x0_5 != 5) = false := bne_eq_false_iff_eq.mpr c31
                            clear c31
                            obtain ⟨y178, hy178⟩ : ∃ y_ : List Int, y_ = (([0, 1, 1, 0] : List Int)) := ⟨_, rfl⟩
                            replace H : ((spec_l3Both.f kj13 a1 a2 y178).bind fun t181 => (some (t181, true))) = some (r1, r2) := by first | (rw [hy178]; with_reducible exact H) | (have H2_ := (Option.bind_some _ _).symm.trans H; rw [hy178]; with_reducible exact H2_) | (have H2_ := (Option.bind_some _ _).symm.trans H; with_reducible exact H2_) | with_reducible exact H | (rw [hy178]; exact H) | exact H
                            have Ny178 := Aside0.mk hy178
                            clear hy178
                            replace H := Option.bind_eq_some_iff.mp H
                            obtain ⟨t181, A320, H⟩ := H
                            replace H : (some (t181, true)) = some (r1, r2) := H
                            have A32 := Aside0.mk A320
                            clear A320
                            simp only [Option.some.injEq, Prod.mk.injEq] at H
                            obtain ⟨rfl, rfl⟩ := H
                            go_wp2_with (first | ((with_reducible refine gate_dst (N := 63) rfl ?_); refine Kd.R_lit (Kd.int .u64) _ 22 ?hg (N := 63) ?hd (xs := ([0, 1, 1, 0] : List Int)) (inner := [.int .u64 0, .int .u64 1, .int .u64 1, .int .u64 0]) (ok := fun _ => True) (okp := fun _ => True) ?hr ?hp (fun _ hk => hk) trivial (Below.refl _ _) (Nat.le_refl _) (by simp) ?_; (case hd => rfl); (case hg => rfl); (case hr => first | (go_simp; done) | (go_simp; rfl)); (case hp => exact (Reps.one (show Kd.M (Kd.int .u64) _ _ _ 0 [.int .u64 0] from rfl) (Reps.one (show Kd.M (Kd.int .u64) _ _ _ 1 [.int .u64 1] from rfl) (Reps.one (show Kd.M (Kd.int .u64) _ _ _ 1 [.int .u64 1] from rfl) (Reps.one (show Kd.M (Kd.int .u64) _ _ _ 0 [.int .u64 0] from rfl) (Reps.none _ _)))))); intro v179 w33 ho34 hb hg_ hnew_; clear hg_ hnew_; (first | rw [← Ny178.out] at ho34 | (simp only [Int.reduceToNat] at ho34; rw [← Ny178.out] at ho34)); have n0_ := Aside0.mk (Kd.R_lower ho34 (below_size (by repeat (first | (with_reducible first | exact HB.out | apply below_alloc | apply pw_below_drewN | apply below_drew1) | exact HB.out)))); have n1_ := Aside0.mk (below_step (by repeat (first | (with_reducible first | exact HB.out | apply below_alloc | apply pw_below_drewN | apply below_drew1) | exact HB.out)) hb); clear HB; have HO180 := n0_; have HB := n1_; clear n0_ n1_; clear hb ho34; obtain ⟨Ao35, co35, eo35⟩ := Kd.R_slice HO180.out; subst eo35) | ((with_reducible refine gate_callee (f := 18) rfl ?_); refine goesL_ (some 64) rfl rfl Try.func18 (by kernel_rfl) rfl #[.int .u64 a1, .int .u64 a2, .slice Ao35 y178.length co35] rfl (by (try simp only [List.map_toArray, List.map_cons, List.map_nil]); first | done | rfl | (simp only [List.length_drop, List.length_take]; rfl)) ?_; (with_reducible refine (spec_l3Both.calls kj13 a1 a2 _ _ y178 t181 _ ?side1 ?side2 A32.out).mono ?_); (case side1 => repeat (first | exact (Kd.R_reads' HO180.out).2.2 | (with_reducible refine Kd.C_alloc ?_ _) | (with_reducible refine Kd.C_drewN ?_ _) | (with_reducible refine Kd.C_drew ?_))); (case side2 => exact (Kd.R_reads' HO180.out).2.1); rintro e w' ⟨rfl, ⟨nd, rfl⟩⟩; refine ⟨_, rfl, ?_⟩))
                            go_ret2
                            exact ⟨by first | rfl | (simp [errW_none, errW_some] <;> rfl) | (simp [*, errW_none, errW_some] <;> rfl), by repeat (first | (with_reducible first | exact HB.out | apply below_alloc | apply pw_below_drewN | apply below_drew1) | exact HB.out)⟩
                          · rw [if_neg c31] at H
                            have c31b0 : (x0_5 == 5) = false := beq_eq_false_iff_ne.mpr c31
                            have c31b1 : (x0_5 != 5) = true := bne_iff_ne.mpr c31
                            by_cases c36 : x0_5 = 6
                            · rw [if_pos c36] at H
                              have c36b0 : (x0_5 == 6) = true := beq_iff_eq.mpr c36
                              have c36b1 : (x0_5 != 6) = false := bne_eq_false_iff_eq.mpr c36
                              clear c36
                              replace H := Option.bind_eq_some_iff.mp H
                              obtain ⟨t182, A370, H⟩ := H
                              replace H : (some (t182, true)) = some (r1, r2) := H
                              have A37 := Aside0.mk A370
                              clear A370
                              simp only [Option.some.injEq, Prod.mk.injEq] at H
                              obtain ⟨rfl, rfl⟩ := H
                              go_wp2_with (first | ((with_reducible refine gate_callee (f := 19) rfl ?_); refine goesL_ (some 69) rfl rfl Try.func19 (by kernel_rfl) rfl #[.int .u64 a1, .int .i64 (wrap64 (Int.tmod a2 64)), .int .u64 0] rfl (by (try simp only [List.map_toArray, List.map_cons, List.map_nil]); first | done | rfl | (simp only [List.length_drop, List.length_take]; rfl)) ?_; (with_reducible refine (spec_l3Move.calls kj13 a1 (wrap64 (Int.tmod a2 64)) 0 t182 _ A37.out).mono ?_); rintro e w' ⟨rfl, ⟨nd, rfl⟩⟩; refine ⟨_, rfl, ?_⟩))
                              go_ret2
                              exact ⟨by first | rfl | (simp [errW_none, errW_some] <;> rfl) | (simp [*, errW_none, errW_some] <;> rfl), by repeat (first | (with_reducible first | exact HB.out | apply below_alloc | apply pw_below_drewN | apply below_drew1) | exact HB.out)⟩
                            · rw [if_neg c36] at H
                              have c36b0 : (x0_5 == 6) = false := beq_eq_false_iff_ne.mpr c36
                              have c36b1 : (x0_5 != 6) = true := bne_iff_ne.mpr c36
                              by_cases c38 : x0_5 = 7
                              · rw [if_pos c38] at H
                                have c38b0 : (x0_5 == 7) = true := beq_iff_eq.mpr c38
                                have c38b1 : (x0_5 != 7) = false := bne_eq_false_iff_eq.mpr c38
                                clear c38
                                replace H := Option.bind_eq_some_iff.mp H
                                obtain ⟨t183, A390, H⟩ := H
                                replace H : (some (t183, true)) = some (r1, r2) := H
                                have A39 := Aside0.mk A390
                                clear A390
                                simp only [Option.some.injEq, Prod.mk.injEq] at H
                                obtain ⟨rfl, rfl⟩ := H
                                go_wp2_with (first | ((with_reducible refine gate_callee (f := 19) rfl ?_); refine goesL_ (some 75) rfl rfl Try.func19 (by kernel_rfl) rfl #[.int .u64 a1, .int .i64 (wrap64 (-(wrap64 (Int.tmod a2 64)))), .int .u64 0] rfl (by (try simp only [List.map_toArray, List.map_cons, List.map_nil]); first | done | rfl | (simp only [List.length_drop, List.length_take]; rfl)) ?_; (with_reducible refine (spec_l3Move.calls kj13 a1 (wrap64 (-(wrap64 (Int.tmod a2 64)))) 0 t183 _ A39.out).mono ?_); rintro e w' ⟨rfl, ⟨nd, rfl⟩⟩; refine ⟨_, rfl, ?_⟩))
                                go_ret2
                                exact ⟨by first | rfl | (simp [errW_none, errW_some] <;> rfl) | (simp [*, errW_none, errW_some] <;> rfl), by repeat (first | (with_reducible first | exact HB.out | apply below_alloc | apply pw_below_drewN | apply below_drew1) | exact HB.out)⟩
                              · rw [if_neg c38] at H
                                have c38b0 : (x0_5 == 7) = false := beq_eq_false_iff_ne.mpr c38
                                have c38b1 : (x0_5 != 7) = true := bne_iff_ne.mpr c38
                                by_cases c40 : x0_5 = 8
                                · rw [if_pos c40] at H
                                  have c40b0 : (x0_5 == 8) = true := beq_iff_eq.mpr c40
                                  have c40b1 : (x0_5 != 8) = false := bne_eq_false_iff_eq.mpr c40
                                  clear c40
                                  replace H := Option.bind_eq_some_iff.mp H
                                  obtain ⟨t184, A410, H⟩ := H
                                  replace H : ((spec_l3Move.f kj13 a1 (wrap64 (-(wrap64 (Int.tmod a2 64)))) t184).bind fun t185 => (some (t185, true))) = some (r1, r2) := H
                                  have A41 := Aside0.mk A410
                                  clear A410
                                  replace H := Option.bind_eq_some_iff.mp H
                                  obtain ⟨t185, A420, H⟩ := H
                                  replace H : (some (t185, true)) = some (r1, r2) := H
                                  have A42 := Aside0.mk A420
                                  clear A420
                                  simp only [Option.some.injEq, Prod.mk.injEq] at H
                                  obtain ⟨rfl, rfl⟩ := H
                                  go_wp2_with (first | ((with_reducible refine gate_callee (f := 20) rfl ?_); refine goesL_ (some 82) rfl rfl Try.func20 (by kernel_rfl) rfl #[.int .u64 a1, .int .i64 63] rfl (by (try simp only [List.map_toArray, List.map_cons, List.map_nil]); first | done | rfl | (simp only [List.length_drop, List.length_take]; rfl)) ?_; (with_reducible refine (spec_l1Bit.calls kj13 a1 63 t184 _ A41.out).mono ?_); rintro e w' ⟨rfl, ⟨nd, rfl⟩⟩; refine ⟨_, rfl, ?_⟩) | ((with_reducible refine gate_callee (f := 19) rfl ?_); refine goesL_ (some 83) rfl rfl Try.func19 (by kernel_rfl) rfl #[.int .u64 a1, .int .i64 (wrap64 (-(wrap64 (Int.tmod a2 64)))), .int .u64 t184] rfl (by (try simp only [List.map_toArray, List.map_cons, List.map_nil]); first | done | rfl | (simp only [List.length_drop, List.length_take]; rfl)) ?_; (with_reducible refine (spec_l3Move.calls kj13 a1 (wrap64 (-(wrap64 (Int.tmod a2 64)))) t184 t185 _ A42.out).mono ?_); rintro e w' ⟨rfl, ⟨nd, rfl⟩⟩; refine ⟨_, rfl, ?_⟩))
                                  go_ret2
                                  exact ⟨by first | rfl | (simp [errW_none, errW_some] <;> rfl) | (simp [*, errW_none, errW_some] <;> rfl), by repeat (first | (with_reducible first | exact HB.out | apply below_alloc | apply pw_below_drewN | apply below_drew1) | exact HB.out)⟩
                                · rw [if_neg c40] at H
                                  have c40b0 : (x0_5 == 8) = false := beq_eq_false_iff_ne.mpr c40
                                  have c40b1 : (x0_5 != 8) = true := bne_iff_ne.mpr c40
                                  by_cases c43 : x0_5 = 9
                                  · rw [if_pos c43] at H
                                    have c43b0 : (x0_5 == 9) = true := beq_iff_eq.mpr c43
                                    have c43b1 : (x0_5 != 9) = false := bne_eq_false_iff_eq.mpr c43
                                    clear c43
                                    replace H := Option.bind_eq_some_iff.mp H
                                    obtain ⟨t186, A440, H⟩ := H
                                    replace H : (some (t186, true)) = some (r1, r2) := H
                                    have A44 := Aside0.mk A440
                                    clear A440
                                    simp only [Option.some.injEq, Prod.mk.injEq] at H
                                    obtain ⟨rfl, rfl⟩ := H
                                    go_wp2_with (first | ((with_reducible refine gate_callee (f := 21) rfl ?_); refine goesL_ (some 88) rfl rfl Try.func21 (by kernel_rfl) rfl #[.int .u64 a1, .int .u64 a2] rfl (by (try simp only [List.map_toArray, List.map_cons, List.map_nil]); first | done | rfl | (simp only [List.length_drop, List.length_take]; rfl)) ?_; (with_reducible refine (spec_l3Less.calls a1 a2 t186 _ A44.out).mono ?_); rintro e w' ⟨rfl, ⟨nd, rfl⟩⟩; refine ⟨_, rfl, ?_⟩))
                                    go_ret2
                                    exact ⟨by first | rfl | (simp [errW_none, errW_some] <;> rfl) | (simp [*, errW_none, errW_some] <;> rfl), by repeat (first | (with_reducible first | exact HB.out | apply below_alloc | apply pw_below_drewN | apply below_drew1) | exact HB.out)⟩
                                  · rw [if_neg c43] at H
                                    have c43b0 : (x0_5 == 9) = false := beq_eq_false_iff_ne.mpr c43
                                    have c43b1 : (x0_5 != 9) = true := bne_iff_ne.mpr c43
                                    by_cases c45 : x0_5 = 10
                                    · rw [if_pos c45] at H
                                      have c45b0 : (x0_5 == 10) = true := beq_iff_eq.mpr c45
                                      have c45b1 : (x0_5 != 10) = false := bne_eq_false_iff_eq.mpr c45
                                      clear c45
                                      replace H := Option.bind_eq_some_iff.mp H
                                      obtain ⟨t187, A460, H⟩ := H
                                      replace H : (some (t187, true)) = some (r1, r2) := H
                                      have A46 := Aside0.mk A460
                                      clear A460
                                      simp only [Option.some.injEq, Prod.mk.injEq] at H
                                      obtain ⟨rfl, rfl⟩ := H
                                      go_wp2_with (first | ((with_reducible refine gate_callee (f := 22) rfl ?_); refine goesL_ (some 93) rfl rfl Try.func22 (by kernel_rfl) rfl #[.int .u64 a1, .int .u64 a2] rfl (by (try simp only [List.map_toArray, List.map_cons, List.map_nil]); first | done | rfl | (simp only [List.length_drop, List.length_take]; rfl)) ?_; (with_reducible refine (spec_l3Below.calls a1 a2 t187 _ A46.out).mono ?_); rintro e w' ⟨rfl, ⟨nd, rfl⟩⟩; refine ⟨_, rfl, ?_⟩))
                                      go_ret2
                                      exact ⟨by first | rfl | (simp [errW_none, errW_some] <;> rfl) | (simp [*, errW_none, errW_some] <;> rfl), by repeat (first | (with_reducible first | exact HB.out | apply below_alloc | apply pw_below_drewN | apply below_drew1) | exact HB.out)⟩
                                    · rw [if_neg c45] at H
                                      have c45b0 : (x0_5 == 10) = false := beq_eq_false_iff_ne.mpr c45
                                      have c45b1 : (x0_5 != 10) = true := bne_iff_ne.mpr c45
                                      by_cases c47 : x0_5 = 11
                                      · rw [if_pos c47] at H
                                        have c47b0 : (x0_5 == 11) = true := beq_iff_eq.mpr c47
                                        have c47b1 : (x0_5 != 11) = false := bne_eq_false_iff_eq.mpr c47
                                        clear c47
                                        replace H := Option.bind_eq_some_iff.mp H
                                        obtain ⟨⟨t188, t189⟩, A480, H⟩ := H
                                        replace H : (some (t189, true)) = some (r1, r2) := H
                                        have A48 := Aside0.mk A480
                                        clear A480
                                        simp only [Option.some.injEq, Prod.mk.injEq] at H
                                        obtain ⟨rfl, rfl⟩ := H
                                        go_wp2_with (first | ((with_reducible refine gate_callee (f := 23) rfl ?_); refine goesL_ (some 99) rfl rfl Try.func23 (by kernel_rfl) rfl #[.int .u64 a1, .int .u64 a2] rfl (by (try simp only [List.map_toArray, List.map_cons, List.map_nil]); first | done | rfl | (simp only [List.length_drop, List.length_take]; rfl)) ?_; (with_reducible refine (spec_Wide.calls kj13 a1 a2 t188 t189 _ A48.out).mono ?_); rintro e w49 ⟨rfl, hb⟩; refine ⟨_, rfl, ?_⟩; have n0_ := Aside0.mk (below_step (by repeat (first | (with_reducible first | exact HB.out | apply below_alloc | apply pw_below_drewN | apply below_drew1) | exact HB.out)) hb); clear HB; have HB := n0_; clear n0_; (try clear hb); (try clear hb2); (try clear hk); (try clear hi)))
                                        go_ret2
                                        exact ⟨by first | rfl | (simp [errW_none, errW_some] <;> rfl) | (simp [*, errW_none, errW_some] <;> rfl), by repeat (first | (with_reducible first | exact HB.out | apply below_alloc | apply pw_below_drewN | apply below_drew1) | exact HB.out)⟩
                                      · rw [if_neg c47] at H
                                        have c47b0 : (x0_5 == 11) = false := beq_eq_false_iff_ne.mpr c47
                                        have c47b1 : (x0_5 != 11) = true := bne_iff_ne.mpr c47
                                        by_cases c50 : x0_5 = 12
                                        · rw [if_pos c50] at H
                                          have c50b0 : (x0_5 == 12) = true := beq_iff_eq.mpr c50
                                          have c50b1 : (x0_5 != 12) = false := bne_eq_false_iff_eq.mpr c50
                                          clear c50
                                          replace H := Option.bind_eq_some_iff.mp H
                                          obtain ⟨t190, A510, H⟩ := H
                                          replace H : (some (t190, true)) = some (r1, r2) := H
                                          have A51 := Aside0.mk A510
                                          clear A510
                                          simp only [Option.some.injEq, Prod.mk.injEq] at H
                                          obtain ⟨rfl, rfl⟩ := H
                                          go_wp2_with (first | ((with_reducible refine gate_callee (f := 24) rfl ?_); refine goesL_ (some 106) rfl rfl Try.func24 (by kernel_rfl) rfl #[.int .u64 a1, .int .u64 a2] rfl (by (try simp only [List.map_toArray, List.map_cons, List.map_nil]); first | done | rfl | (simp only [List.length_drop, List.length_take]; rfl)) ?_; (with_reducible refine (spec_l3High.calls kj13 a1 a2 t190 _ A51.out).mono ?_); rintro e w52 ⟨rfl, hb⟩; refine ⟨_, rfl, ?_⟩; have n0_ := Aside0.mk (below_step (by repeat (first | (with_reducible first | exact HB.out | apply below_alloc | apply pw_below_drewN | apply below_drew1) | exact HB.out)) hb); clear HB; have HB := n0_; clear n0_; (try clear hb); (try clear hb2); (try clear hk); (try clear hi)))
                                          go_ret2
                                          exact ⟨by first | rfl | (simp [errW_none, errW_some] <;> rfl) | (simp [*, errW_none, errW_some] <;> rfl), by repeat (first | (with_reducible first | exact HB.out | apply below_alloc | apply pw_below_drewN | apply below_drew1) | exact HB.out)⟩
                                        · rw [if_neg c50] at H
                                          have c50b0 : (x0_5 == 12) = false := beq_eq_false_iff_ne.mpr c50
                                          have c50b1 : (x0_5 != 12) = true := bne_iff_ne.mpr c50
                                          by_cases c53 : x0_5 = 13
                                          · rw [if_pos c53] at H
                                            have c53b0 : (x0_5 == 13) = true := beq_iff_eq.mpr c53
                                            have c53b1 : (x0_5 != 13) = false := bne_eq_false_iff_eq.mpr c53
                                            clear c53
                                            replace H := Option.bind_eq_some_iff.mp H
                                            obtain ⟨⟨t191, t192⟩, A540, H⟩ := H
                                            replace H : (some (t191, true)) = some (r1, r2) := H
                                            have A54 := Aside0.mk A540
                                            clear A540
                                            simp only [Option.some.injEq, Prod.mk.injEq] at H
                                            obtain ⟨rfl, rfl⟩ := H
                                            go_wp2_with (first | ((with_reducible refine gate_callee (f := 23) rfl ?_); refine goesL_ (some 112) rfl rfl Try.func23 (by kernel_rfl) rfl #[.int .u64 a1, .int .u64 a2] rfl (by (try simp only [List.map_toArray, List.map_cons, List.map_nil]); first | done | rfl | (simp only [List.length_drop, List.length_take]; rfl)) ?_; (with_reducible refine (spec_Wide.calls kj13 a1 a2 t191 t192 _ A54.out).mono ?_); rintro e w55 ⟨rfl, hb⟩; refine ⟨_, rfl, ?_⟩; have n0_ := Aside0.mk (below_step (by repeat (first | (with_reducible first | exact HB.out | apply below_alloc | apply pw_below_drewN | apply below_drew1) | exact HB.out)) hb); clear HB; have HB := n0_; clear n0_; (try clear hb); (try clear hb2); (try clear hk); (try clear hi)))
                                            go_ret2
                                            exact ⟨by first | rfl | (simp [errW_none, errW_some] <;> rfl) | (simp [*, errW_none, errW_some] <;> rfl), by repeat (first | (with_reducible first | exact HB.out | apply below_alloc | apply pw_below_drewN | apply below_drew1) | exact HB.out)⟩
                                          · rw [if_neg c53] at H
                                            have c53b0 : (x0_5 == 13) = false := beq_eq_false_iff_ne.mpr c53
                                            have c53b1 : (x0_5 != 13) = true := bne_iff_ne.mpr c53
                                            by_cases c56 : x0_5 = 14
                                            · rw [if_pos c56] at H
                                              have c56b0 : (x0_5 == 14) = true := beq_iff_eq.mpr c56
                                              have c56b1 : (x0_5 != 14) = false := bne_eq_false_iff_eq.mpr c56
                                              clear c56
                                              replace H := Option.bind_eq_some_iff.mp H
                                              obtain ⟨⟨t193, t194⟩, A570, H⟩ := H
                                              replace H : (some (t193, true)) = some (r1, r2) := H
                                              have A57 := Aside0.mk A570
                                              clear A570
                                              simp only [Option.some.injEq, Prod.mk.injEq] at H
                                              obtain ⟨rfl, rfl⟩ := H
                                              go_wp2_with (first | ((with_reducible refine gate_callee (f := 25) rfl ?_); refine goesL_ (some 120) rfl rfl Try.func25 (by kernel_rfl) rfl #[.int .u64 a1, .int .u64 a2] rfl (by (try simp only [List.map_toArray, List.map_cons, List.map_nil]); first | done | rfl | (simp only [List.length_drop, List.length_take]; rfl)) ?_; (with_reducible refine (spec_l3Signed.calls kj13 a1 a2 t193 t194 _ A57.out).mono ?_); rintro e w' ⟨rfl, ⟨nd, rfl⟩⟩; refine ⟨_, rfl, ?_⟩))
                                              go_ret2
                                              exact ⟨by first | rfl | (simp [errW_none, errW_some] <;> rfl) | (simp [*, errW_none, errW_some] <;> rfl), by repeat (first | (with_reducible first | exact HB.out | apply below_alloc | apply pw_below_drewN | apply below_drew1) | exact HB.out)⟩
                                            · rw [if_neg c56] at H
                                              have c56b0 : (x0_5 == 14) = false := beq_eq_false_iff_ne.mpr c56
                                              have c56b1 : (x0_5 != 14) = true := bne_iff_ne.mpr c56
                                              by_cases c58 : x0_5 = 15
                                              · rw [if_pos c58] at H
                                                have c58b0 : (x0_5 == 15) = true := beq_iff_eq.mpr c58
                                                have c58b1 : (x0_5 != 15) = false := bne_eq_false_iff_eq.mpr c58
                                                clear c58
                                                replace H := Option.bind_eq_some_iff.mp H
                                                obtain ⟨⟨t195, t196⟩, A590, H⟩ := H
                                                replace H : (some (t195, true)) = some (r1, r2) := H
                                                have A59 := Aside0.mk A590
                                                clear A590
                                                simp only [Option.some.injEq, Prod.mk.injEq] at H
                                                obtain ⟨rfl, rfl⟩ := H
                                                go_wp2_with (first | ((with_reducible refine gate_callee (f := 26) rfl ?_); refine goesL_ (some 128) rfl rfl Try.func26 (by kernel_rfl) rfl #[.int .u64 a1, .int .u64 a2] rfl (by (try simp only [List.map_toArray, List.map_cons, List.map_nil]); first | done | rfl | (simp only [List.length_drop, List.length_take]; rfl)) ?_; (with_reducible refine (spec_l3Unsigned.calls kj13 a1 a2 t195 t196 _ A59.out).mono ?_); rintro e w' ⟨rfl, ⟨nd, rfl⟩⟩; refine ⟨_, rfl, ?_⟩))
                                                go_ret2
                                                exact ⟨by first | rfl | (simp [errW_none, errW_some] <;> rfl) | (simp [*, errW_none, errW_some] <;> rfl), by repeat (first | (with_reducible first | exact HB.out | apply below_alloc | apply pw_below_drewN | apply below_drew1) | exact HB.out)⟩
                                              · rw [if_neg c58] at H
                                                have c58b0 : (x0_5 == 15) = false := beq_eq_false_iff_ne.mpr c58
                                                have c58b1 : (x0_5 != 15) = true := bne_iff_ne.mpr c58
                                                by_cases c60 : x0_5 = 16
                                                · rw [if_pos c60] at H
                                                  have c60b0 : (x0_5 == 16) = true := beq_iff_eq.mpr c60
                                                  have c60b1 : (x0_5 != 16) = false := bne_eq_false_iff_eq.mpr c60
                                                  clear c60
                                                  replace H := Option.bind_eq_some_iff.mp H
                                                  obtain ⟨⟨t197, t198⟩, A610, H⟩ := H
                                                  replace H : (some (t198, true)) = some (r1, r2) := H
                                                  have A61 := Aside0.mk A610
                                                  clear A610
                                                  simp only [Option.some.injEq, Prod.mk.injEq] at H
                                                  obtain ⟨rfl, rfl⟩ := H
                                                  go_wp2_with (first | ((with_reducible refine gate_callee (f := 25) rfl ?_); refine goesL_ (some 136) rfl rfl Try.func25 (by kernel_rfl) rfl #[.int .u64 a1, .int .u64 a2] rfl (by (try simp only [List.map_toArray, List.map_cons, List.map_nil]); first | done | rfl | (simp only [List.length_drop, List.length_take]; rfl)) ?_; (with_reducible refine (spec_l3Signed.calls kj13 a1 a2 t197 t198 _ A61.out).mono ?_); rintro e w' ⟨rfl, ⟨nd, rfl⟩⟩; refine ⟨_, rfl, ?_⟩))
                                                  go_ret2
                                                  exact ⟨by first | rfl | (simp [errW_none, errW_some] <;> rfl) | (simp [*, errW_none, errW_some] <;> rfl), by repeat (first | (with_reducible first | exact HB.out | apply below_alloc | apply pw_below_drewN | apply below_drew1) | exact HB.out)⟩
                                                · rw [if_neg c60] at H
                                                  have c60b0 : (x0_5 == 16) = false := beq_eq_false_iff_ne.mpr c60
                                                  have c60b1 : (x0_5 != 16) = true := bne_iff_ne.mpr c60
                                                  by_cases c62 : x0_5 = 17
                                                  · rw [if_pos c62] at H
                                                    have c62b0 : (x0_5 == 17) = true := beq_iff_eq.mpr c62
                                                    have c62b1 : (x0_5 != 17) = false := bne_eq_false_iff_eq.mpr c62
                                                    clear c62
                                                    replace H := Option.bind_eq_some_iff.mp H
                                                    obtain ⟨⟨t199, t200⟩, A630, H⟩ := H
                                                    replace H : (some (t200, true)) = some (r1, r2) := H
                                                    have A63 := Aside0.mk A630
                                                    clear A630
                                                    simp only [Option.some.injEq, Prod.mk.injEq] at H
                                                    obtain ⟨rfl, rfl⟩ := H
                                                    go_wp2_with (first | ((with_reducible refine gate_callee (f := 26) rfl ?_); refine goesL_ (some 144) rfl rfl Try.func26 (by kernel_rfl) rfl #[.int .u64 a1, .int .u64 a2] rfl (by (try simp only [List.map_toArray, List.map_cons, List.map_nil]); first | done | rfl | (simp only [List.length_drop, List.length_take]; rfl)) ?_; (with_reducible refine (spec_l3Unsigned.calls kj13 a1 a2 t199 t200 _ A63.out).mono ?_); rintro e w' ⟨rfl, ⟨nd, rfl⟩⟩; refine ⟨_, rfl, ?_⟩))
                                                    go_ret2
                                                    exact ⟨by first | rfl | (simp [errW_none, errW_some] <;> rfl) | (simp [*, errW_none, errW_some] <;> rfl), by repeat (first | (with_reducible first | exact HB.out | apply below_alloc | apply pw_below_drewN | apply below_drew1) | exact HB.out)⟩
                                                  · rw [if_neg c62] at H
                                                    have c62b0 : (x0_5 == 17) = false := beq_eq_false_iff_ne.mpr c62
                                                    have c62b1 : (x0_5 != 17) = true := bne_iff_ne.mpr c62
                                                    simp only [Option.some.injEq, Prod.mk.injEq] at H
                                                    obtain ⟨rfl, rfl⟩ := H
                                                    go_wp2
                                                    go_ret2
                                                    exact ⟨by first | rfl | (simp [errW_none, errW_some] <;> rfl) | (simp [*, errW_none, errW_some] <;> rfl), by repeat (first | (with_reducible first | exact HB.out | apply below_alloc | apply pw_below_drewN | apply below_drew1) | exact HB.out)⟩

/-! ### impl_Alu_1: function 27 -/
def impl_Alu_1.f (a0 : Int) : Option (Int × Bool) := some (IntKind.u64.wrap (wrap64 (a0)), true)
set_option maxHeartbeats 8000000 in
set_option maxRecDepth 100000 in
theorem impl_Alu_1.calls (a0 : Int) (r1 : Int) (r2 : Bool) (w : World) (h : impl_Alu_1.f a0 = some (r1, r2)) :
    Calls Try.prog 27 #[.int .i32 a0] w fun e w' => e = .returned (.tuple #[.int .u64 r1, .bool r2]) ∧ Drawn0 w w' := by
  have H : (some (IntKind.u64.wrap (wrap64 (a0)), true)) = some (r1, r2) := h
  clear h
  simp only [Option.some.injEq, Prod.mk.injEq] at H
  obtain ⟨rfl, rfl⟩ := H
  go_enter Try.func27, Try.ntmps27
  go_wp2
  go_ret2
  exact ⟨by first | rfl | exact congrArg (Value.int .i64) (i64_w _) | (simp; done) | (simp [*]; done), by repeat (first | exact Drawn0.refl _ | apply Drawn0.step)⟩

/-! ### impl_one: function 28 -/
def impl_one.f (a0 : Bool) : Option (Int) := if a0 = true then (some 1) else (some 0)
set_option maxHeartbeats 8000000 in
set_option maxRecDepth 100000 in
theorem impl_one.calls (a0 : Bool) (r : Int) (w : World) (h : impl_one.f a0 = some r) :
    Calls Try.prog 28 #[.bool a0] w fun e w' => e = .returned (.int .u64 r) ∧ Drawn0 w w' := by
  have H : (if a0 = true then (some 1) else (some 0)) = some r := h
  clear h
  by_cases c2 : a0 = true
  · subst c2
    have H1 : (some 1) = some r := by rw [if_pos rfl] at H; exact H
    clear H
    have H := H1
    clear H1
    obtain rfl := Option.some.inj H
    go_enter Try.func28, Try.ntmps28
    go_wp2
    go_ret
    exact ⟨by first | rfl | exact congrArg (Value.int .i64) (i64_w _) | (simp; done) | (simp [*]; done), by repeat (first | exact Drawn0.refl _ | apply Drawn0.step)⟩
  · replace c2 := Bool.eq_false_iff.mpr c2
    subst c2
    have H1 : (some 0) = some r := by rw [if_neg (show ¬ (false = true) by decide)] at H; exact H
    clear H
    have H := H1
    clear H1
    obtain rfl := Option.some.inj H
    go_enter Try.func28, Try.ntmps28
    go_wp2
    go_ret
    exact ⟨by first | rfl | exact congrArg (Value.int .i64) (i64_w _) | (simp; done) | (simp [*]; done), by repeat (first | exact Drawn0.refl _ | apply Drawn0.step)⟩

/-! ### bits_Mul64: function 29 -/
def bits_Mul64.f (a0 : Int) (a1 : Int) : Option (Int × Int) := some (IntKind.u64.wrap ((IntKind.u64.wrap ((IntKind.u64.wrap ((a0 / 4294967296) * (a1 / 4294967296))) + ((IntKind.u64.wrap ((IntKind.u64.wrap ((a0 / 4294967296) * (Go.bits .and .u64 a1 4294967295))) + ((IntKind.u64.wrap ((Go.bits .and .u64 a0 4294967295) * (Go.bits .and .u64 a1 4294967295))) / 4294967296))) / 4294967296))) + ((IntKind.u64.wrap ((Go.bits .and .u64 (IntKind.u64.wrap ((IntKind.u64.wrap ((a0 / 4294967296) * (Go.bits .and .u64 a1 4294967295))) + ((IntKind.u64.wrap ((Go.bits .and .u64 a0 4294967295) * (Go.bits .and .u64 a1 4294967295))) / 4294967296))) 4294967295) + (IntKind.u64.wrap ((Go.bits .and .u64 a0 4294967295) * (a1 / 4294967296))))) / 4294967296)), IntKind.u64.wrap (a0 * a1))
set_option maxHeartbeats 8000000 in
set_option maxRecDepth 100000 in
theorem bits_Mul64.calls (a0 : Int) (a1 : Int) (r1 : Int) (r2 : Int) (w : World) (h : bits_Mul64.f a0 a1 = some (r1, r2)) :
    Calls Try.prog 29 #[.int .u64 a0, .int .u64 a1] w fun e w' => e = .returned (.tuple #[.int .u64 r1, .int .u64 r2]) ∧ Drawn0 w w' := by
  have H : (some (IntKind.u64.wrap ((IntKind.u64.wrap ((IntKind.u64.wrap ((a0 / 4294967296) * (a1 / 4294967296))) + ((IntKind.u64.wrap ((IntKind.u64.wrap ((a0 / 4294967296) * (Go.bits .and .u64 a1 4294967295))) + ((IntKind.u64.wrap ((Go.bits .and .u64 a0 4294967295) * (Go.bits .and .u64 a1 4294967295))) / 4294967296))) / 4294967296))) + ((IntKind.u64.wrap ((Go.bits .and .u64 (IntKind.u64.wrap ((IntKind.u64.wrap ((a0 / 4294967296) * (Go.bits .and .u64 a1 4294967295))) + ((IntKind.u64.wrap ((Go.bits .and .u64 a0 4294967295) * (Go.bits .and .u64 a1 4294967295))) / 4294967296))) 4294967295) + (IntKind.u64.wrap ((Go.bits .and .u64 a0 4294967295) * (a1 / 4294967296))))) / 4294967296)), IntKind.u64.wrap (a0 * a1))) = some (r1, r2) := h
  clear h
  simp only [Option.some.injEq, Prod.mk.injEq] at H
  obtain ⟨rfl, rfl⟩ := H
  go_enter Try.func29, Try.ntmps29
  go_wp2
  go_ret2
  exact ⟨by first | rfl | exact congrArg (Value.int .i64) (i64_w _) | (simp; done) | (simp [*]; done), by repeat (first | exact Drawn0.refl _ | apply Drawn0.step)⟩

end Go.Proofs.Ytmbcihfdfohfcaa.PFnExactAlu
