-- Written by a program of this session out of the translation. Not trusted: Lean checks it.
import Derived.Test.YtmjdmaomakkhgaaPFnExactNewFramesx0
import Derived.Test.YtmjdmaomakkhgaaPFnExactNewFramesx1
namespace Go.Proofs.Ytmjdmaomakkhgaa.PFnExactNewFrames
open Go.RowKit Go.Proofs.YtmjdmaomakkhgaaW.PrintWords Go.Proofs.YtmjdmaomakkhgaaW.PrintLast Go.Proofs.YtmjdmaomakkhgaaW.PrintMore
attribute [local go_sem] max2_int min2_int max_two min_two max_three min_three max_four min_four   -- for this text's walks alone
set_option linter.unusedVariables false
set_option linter.unusedSimpArgs false

/-! ### spec_NewFrames: function 36 -/
mutual
def spec_NewFrames.j0 : Nat → Int → Bool → Option (Int × (List (S73)))
  | 0, _, _ => none
  | k + 1, x0, x10 => if x10 = true then (some (0, ([] : List (S73)))) else (if 0 ≤ x0 then (if (x0 : Int).toNat ≤ 281474976710656 then (spec_NewFrames.l0 k (List.replicate (x0 : Int).toNat false) 0) else (none)) else (none))
def spec_NewFrames.l0 : Nat → List Bool → Int → Option (Int × (List (S73)))
  | 0, _, _ => none
  | k + 1, x3, x4 => if x4 < (x3.length : Int) then (if 0 ≤ x4 then (spec_NewFrames.l0 k (x3.set (x4 : Int).toNat true) (wrap64 (x4 + 1))) else (none)) else ((spec_l8List.f k x3).bind fun bt136 => (some (bt136.1, bt136.2)))
end
def spec_NewFrames.f (k : Nat) (a0 : Int) : Option (Int × (List (S73))) := if a0 < 0 then (spec_NewFrames.j0 k a0 true) else (spec_NewFrames.j0 k a0 (decide (a0 > 1024)))
theorem spec_NewFrames.mono_l : ∀ k, (∀ y0 y1, LeO (spec_NewFrames.j0 k y0 y1) (spec_NewFrames.j0 (k + 1) y0 y1)) ∧ (∀ y0 y1, LeO (spec_NewFrames.l0 k y0 y1) (spec_NewFrames.l0 (k + 1) y0 y1))
  | 0 => ⟨fun _ _ r h => by simp [spec_NewFrames.j0] at h, fun _ _ r h => by simp [spec_NewFrames.l0] at h⟩
  | k + 1 => by
    obtain ⟨ih0, ih1⟩ := spec_NewFrames.mono_l k
    refine ⟨?_, ?_⟩
    · intro y0 y1
      unfold spec_NewFrames.j0
      repeat' first
      | (with_reducible exact ih0 _ _)
      | (with_reducible exact ih1 _ _)
      | (with_reducible exact spec_l8List.mono _ _)
      | (with_reducible exact LeO.refl _)
      | (with_reducible exact LeO.none _)
      | (with_reducible refine LeO.ite ?_ ?_)
      | (with_reducible refine LeO.bind ?_ (fun _ => ?_))
      | exact ih0 _ _
      | exact ih1 _ _
      | exact spec_l8List.mono _ _
      | exact LeO.none _
      | refine LeO.ite ?_ ?_
      | refine LeO.bind ?_ (fun _ => ?_)
    · intro y0 y1
      unfold spec_NewFrames.l0
      repeat' first
      | (with_reducible exact ih0 _ _)
      | (with_reducible exact ih1 _ _)
      | (with_reducible exact spec_l8List.mono _ _)
      | (with_reducible exact LeO.refl _)
      | (with_reducible exact LeO.none _)
      | (with_reducible refine LeO.ite ?_ ?_)
      | (with_reducible refine LeO.bind ?_ (fun _ => ?_))
      | exact ih0 _ _
      | exact ih1 _ _
      | exact spec_l8List.mono _ _
      | exact LeO.none _
      | refine LeO.ite ?_ ?_
      | refine LeO.bind ?_ (fun _ => ?_)
theorem spec_NewFrames.mono : ∀ a0 k, LeO (spec_NewFrames.f k a0) (spec_NewFrames.f (k + 1) a0) := by
  intro a0 k
  obtain ⟨ih0, ih1⟩ := spec_NewFrames.mono_l k
  unfold spec_NewFrames.f
  repeat' first
      | (with_reducible exact ih0 _ _)
      | (with_reducible exact ih1 _ _)
      | (with_reducible exact spec_l8List.mono _ _)
      | (with_reducible exact LeO.refl _)
      | (with_reducible exact LeO.none _)
      | (with_reducible refine LeO.ite ?_ ?_)
      | (with_reducible refine LeO.bind ?_ (fun _ => ?_))
      | exact ih0 _ _
      | exact ih1 _ _
      | exact spec_l8List.mono _ _
      | exact LeO.none _
      | refine LeO.ite ?_ ?_
      | refine LeO.bind ?_ (fun _ => ?_)
set_option maxHeartbeats 8000000 in
set_option maxRecDepth 100000 in
theorem spec_NewFrames.calls (k : Nat) (a0 : Int) (r1 : Int) (r2 : List (S73)) (w : World) (h : spec_NewFrames.f k a0 = some (r1, r2)) :
    Calls Try.prog 36 #[.int .i64 a0] w fun e w' => ∃ v1_ : Value, e = .returned (.agg #[.int .i64 r1, v1_]) ∧ Kd.R k73 73 w' w.heap.size (fun _ => True) v1_ r2 ∧ Below w.heap.size w w' := by
  have hu50 := Try.underlying50
  have HB := Aside0.mk (Below.refl w.heap.size w)
  have H : (if a0 < 0 then (spec_NewFrames.j0 k a0 true) else (spec_NewFrames.j0 k a0 (decide (a0 > 1024)))) = some (r1, r2) := h
  clear h
  have HC2 := Aside0.mk H
  clear H
  go_enter Try.func36, Try.ntmps36
  go_upto_region 1 with (first | ((with_reducible refine gate_dst (N := 2) rfl ?_); refine box_event ?hg (N := 2) ?hd (cs := #[.int .i64 0, .slice none 0 0]) (t := 50) ?hr ?_; (case hd => rfl); (case hg => rfl); (case hr => first | (go_simp; done) | (go_simp; rfl)); intro gb131 hg w3 hbox hb; have n0_ := Aside0.mk (below_step (by repeat (first | (with_reducible first | exact HB.out | apply below_alloc | apply pw_below_drewN | apply below_drew1) | exact HB.out)) hb); have n1_ := Aside0.mk (hbox); have n2_ := Aside0.mk ((by rw [hg]; exact (below_size (by repeat (first | (with_reducible first | exact HB.out | apply below_alloc | apply pw_below_drewN | apply below_drew1) | exact HB.out))) : w.heap.size ≤ gb131)); have n3_ := Aside0.mk ((by rw [hg]; exact (below_size (by repeat (first | (with_reducible first | exact HB.out | apply below_alloc | apply pw_below_drewN | apply below_drew1) | exact HB.out))) : w.heap.size ≤ gb131)); clear HB; have HB := n0_; have BK131 := n1_; have GW131 := n2_; have GE131 := n3_; clear n0_ n1_ n2_ n3_; clear hb hbox hg))
  (try simp only [Act.put, List.setIfInBounds_toArray, List.set_cons_zero, List.set_cons_succ])
  go_cut [10] (fun v10 wc => ∃ (kq : Nat) (x10_1 : Bool), v10 = .bool x10_1 ∧ Aside0 (spec_NewFrames.j0 kq a0 x10_1 = some (r1, r2)) ∧ Aside0 (kq ≤ k) ∧ Aside0 (wc.heap[gb131]? = some (.cells #[.int .i64 0, (.slice none 0 0)] 50 (0, 0))) ∧ Aside0 (Below w.heap.size w wc))
  case first =>
    have H := HC2.out
    clear HC2
    by_cases c4 : a0 < 0
    · rw [if_pos c4] at H
      have c4b0 : decide (a0 < 0) = true := decide_eq_true c4
      clear c4
      (first | rw [c4b0] | (simp only [i64_w, i32_w]; rw [c4b0]) | skip)
      have H' := Aside0.mk H
      clear H
      go_wp2
      go_meet
      case rel => exact ⟨_, (true), (by first | rfl | exact congrArg (Value.int .i64) (i64_w _) | (simp; done) | (simp [*]; done)), H', ⟨by first | omega | exact Nat.le_refl _⟩, ⟨by (with_reducible repeat (first | refine blk_drewN ?_ _ | refine blk_drew ?_ | refine blk_alloc ?_ _)); exact BK131.out⟩, ⟨by repeat (first | (with_reducible first | exact HB.out | apply below_alloc | apply pw_below_drewN | apply below_drew1 | refine below_set ?_ GE131.out) | exact HB.out)⟩⟩
    · rw [if_neg c4] at H
      have c4b0 : decide (a0 < 0) = false := decide_eq_false c4
      clear c4
      (first | rw [c4b0] | (simp only [i64_w, i32_w]; rw [c4b0]) | skip)
      have H' := Aside0.mk H
      clear H
      go_wp2
      go_meet
      case rel => exact ⟨_, (decide (a0 > 1024)), (by first | rfl | exact congrArg (Value.int .i64) (i64_w _) | (simp; done) | (simp [*]; done)), H', ⟨by first | omega | exact Nat.le_refl _⟩, ⟨by (with_reducible repeat (first | refine blk_drewN ?_ _ | refine blk_drew ?_ | refine blk_alloc ?_ _)); exact BK131.out⟩, ⟨by repeat (first | (with_reducible first | exact HB.out | apply below_alloc | apply pw_below_drewN | apply below_drew1 | refine below_set ?_ GE131.out) | exact HB.out)⟩⟩
  case rest =>
    clear HC2
    try clear p2
    try clear c3
    try clear c4
    try clear c4b0
    obtain ⟨kq, x10_1, rfl, HA, HJ1, BK131, HB⟩ := hcut
    cases kq with
    | zero => exact absurd HA.out (by simp [spec_NewFrames.j0])
    | succ kj1 =>
      have H := HA.out
      clear HA
      simp only [spec_NewFrames.j0] at H
      by_cases c5 : x10_1 = true
      · subst c5
        have H1 : (some (0, ([] : List (S73)))) = some (r1, r2) := by rw [if_pos rfl] at H; exact H
        clear H
        have H := H1
        clear H1
        simp only [Option.some.injEq, Prod.mk.injEq] at H
        obtain ⟨rfl, rfl⟩ := H
        have hcz6_0 : wc.cell? ⟨gb131, 0, none⟩ = some (.int .i64 0) := (blk_cell BK131.out 0).trans rfl
        have hcz6_1 : wc.cell? ⟨gb131, 1, none⟩ = some (.slice none 0 0) := (blk_cell BK131.out 1).trans rfl
        have hfz6_0 := blk_frozen BK131.out 0
        have hfz6_1 := blk_frozen BK131.out 1
        go_wp2
        refine bodyPost_ret (results_cell_row rfl _ _ gb131 50 #[.int .i64 0, .slice none 0 0] (0, 0) _ rfl (by (with_reducible repeat (first | refine blk_drewN ?_ _ | refine blk_drew ?_ | refine blk_alloc ?_ _)); refine blk_put (cs := #[.int .i64 0, .slice none 0 0]) ?_ 1 _ rfl; (with_reducible repeat (first | refine blk_drewN ?_ _ | refine blk_drew ?_ | refine blk_alloc ?_ _)); refine blk_put (cs := #[.int .i64 0, .slice none 0 0]) ?_ 0 _ rfl; (with_reducible repeat (first | refine blk_drewN ?_ _ | refine blk_drew ?_ | refine blk_alloc ?_ _)); exact BK131.out) Try.underlying50 rfl (by kernel_rfl)) rfl ?_
        exact ⟨_, by first | rfl | (simp [errW_none, errW_some] <;> rfl) | (simp [*, errW_none, errW_some] <;> rfl), by first | exact Kd.R_nil _ _ _ _ _ | exact Kd.N_nil _ _ _ _ _ | exact Kd.V_nil _ _ _ _ _ | exact Kd.Q_nil _ _ _ _ _ | exact Kd.S_nil _ _ _ _ _, by repeat (first | (with_reducible first | exact HB.out | apply below_alloc | apply pw_below_drewN | apply below_drew1 | refine below_set ?_ GE131.out) | exact HB.out)⟩
      · replace c5 := Bool.eq_false_iff.mpr c5
        subst c5
        have H1 : (if 0 ≤ a0 then (if (a0 : Int).toNat ≤ 281474976710656 then (spec_NewFrames.l0 kj1 (List.replicate (a0 : Int).toNat false) 0) else (none)) else (none)) = some (r1, r2) := by rw [if_neg (show ¬ (false = true) by decide)] at H; exact H
        clear H
        have H := H1
        clear H1
        by_cases c7 : 0 ≤ a0
        · rw [if_pos c7] at H
          have c7b0 := eq_true c7
          have c7b1 : decide (0 ≤ a0) = true := decide_eq_true c7
          clear c7
          by_cases c8 : (a0 : Int).toNat ≤ 281474976710656
          · rw [if_pos c8] at H
            have c8b0 := eq_true c8
            have c8b1 : decide ((a0 : Int).toNat ≤ 281474976710656) = true := decide_eq_true c8
            clear c8
            obtain ⟨y132, hy132⟩ : ∃ y_ : List Bool, y_ = (List.replicate (a0 : Int).toNat false) := ⟨_, rfl⟩
            replace H : (spec_NewFrames.l0 kj1 y132 0) = some (r1, r2) := by first | (rw [hy132]; with_reducible exact H) | (have H2_ := (Option.bind_some _ _).symm.trans H; rw [hy132]; with_reducible exact H2_) | (have H2_ := (Option.bind_some _ _).symm.trans H; with_reducible exact H2_) | with_reducible exact H | (rw [hy132]; exact H) | exact H
            have Ny132 := Aside0.mk hy132
            clear hy132
            have H' := Aside0.mk H
            clear H
            go_wp2_with (first | ((with_reducible refine gate_dst (N := 13) rfl ?_); refine Kd.R_make Kd.bool _ 4 rfl (N := 13) rfl 105 _ _ rfl a0 rfl rfl Try.underlying105 (.bool false) 1 info4 rfl (by decide) (by omega) false (ok := fun _ => True) (okp := fun _ => True) rfl (fun _ hk => hk) trivial (of_decide_eq_true (by first | (with_reducible assumption) | assumption)) (Nat.le_trans (Nat.mul_le_mul_right _ (of_decide_eq_true (by first | (with_reducible assumption) | assumption) : a0.toNat ≤ 281474976710656)) (by omega)) (Below.refl _ _) (Nat.le_refl _) ?_; intro v133 w9 ho10 hb hg_ hnew_; clear hg_ hnew_; (first | rw [← Ny132.out] at ho10 | (simp only [Int.reduceToNat] at ho10; rw [← Ny132.out] at ho10)); have n0_ := Aside0.mk (Kd.R_lower ho10 (below_size (by repeat (first | (with_reducible first | exact HB.out | apply below_alloc | apply pw_below_drewN | apply below_drew1 | refine below_set ?_ GE131.out) | exact HB.out)))); have n1_ := Aside0.mk (blk_below (g := gb131) (o := .cells #[.int .i64 0, .slice none 0 0] 50 (0, 0)) (by (with_reducible repeat (first | refine blk_drewN ?_ _ | refine blk_drew ?_ | refine blk_alloc ?_ _)); exact BK131.out) hb); have n2_ := Aside0.mk (below_step (by repeat (first | (with_reducible first | exact HB.out | apply below_alloc | apply pw_below_drewN | apply below_drew1 | refine below_set ?_ GE131.out) | exact HB.out)) hb); clear BK131; clear HB; have HO134 := n0_; have BK131 := n1_; have HB := n2_; clear n0_ n1_ n2_; clear hb ho10))
            go_loopg [4] kj1 (fun kq v4 w' => ∃ (x3_2 : List Bool) (x4_2 : Int), v4 = .int .i64 x4_2 ∧ Aside0 (spec_NewFrames.l0 kq x3_2 x4_2 = some (r1, r2)) ∧ Aside0 (kq ≤ kj1) ∧ Aside0 (Kd.R Kd.bool 4 w' w.heap.size (fun _ => True) v133 x3_2) ∧ Aside0 (w'.heap[gb131]? = some (.cells #[.int .i64 0, (.slice none 0 0)] 50 (0, 0))) ∧ Aside0 (Below w.heap.size w w'))
            case atStart => exact ⟨(y132), (0), (by first | rfl | exact congrArg (Value.int .i64) (i64_w _) | (simp; done) | (simp [*]; done)), H', ⟨Nat.le_refl _⟩, ⟨by (with_reducible repeat (first | apply Kd.R_alloc | apply Kd.R_drewN | apply Kd.R_drew)); exact HO134.out⟩, ⟨by (with_reducible repeat (first | refine blk_drewN ?_ _ | refine blk_drew ?_ | refine blk_alloc ?_ _)); exact BK131.out⟩, ⟨by repeat (first | (with_reducible first | exact HB.out | apply below_alloc | apply pw_below_drewN | apply below_drew1 | refine below_set ?_ GE131.out) | exact HB.out)⟩⟩
            case round =>
              clear H'
              try clear p2
              try clear c3
              try clear c4
              try clear c4b0
              try clear c5
              try clear c7
              try clear c7b0
              try clear c7b1
              try clear c8
              try clear c8b0
              try clear c8b1
              try clear hcz6_0
              try clear hcz6_1
              try clear hfz6_0
              try clear hfz6_1
              try clear p2
              obtain ⟨x3_2, x4_2, rfl, HA, HK2, HO_3, BK131, HB⟩ := hrel
              cases gk with
              | zero => exact absurd HA.out (by simp [spec_NewFrames.l0])
              | succ k2 =>
                have H := HA.out
                clear HA
                simp only [spec_NewFrames.l0] at H
                by_cases c11 : x4_2 < (x3_2.length : Int)
                · rw [if_pos c11] at H
                  have c11b0 : decide (x4_2 < (x3_2.length : Int)) = true := decide_eq_true c11
                  clear c11
                  by_cases c12 : 0 ≤ x4_2
                  · rw [if_pos c12] at H
                    have c12b0 : decide (0 ≤ x4_2) = true := decide_eq_true c12
                    clear c12
                    obtain ⟨y135, hy135⟩ : ∃ y_ : List Bool, y_ = (x3_2.set (x4_2 : Int).toNat true) := ⟨_, rfl⟩
                    replace H : (spec_NewFrames.l0 k2 y135 (wrap64 (x4_2 + 1))) = some (r1, r2) := by first | (rw [hy135]; with_reducible exact H) | (have H2_ := (Option.bind_some _ _).symm.trans H; rw [hy135]; with_reducible exact H2_) | (have H2_ := (Option.bind_some _ _).symm.trans H; with_reducible exact H2_) | with_reducible exact H | (rw [hy135]; exact H) | exact H
                    have Ny135 := Aside0.mk hy135
                    clear hy135
                    have H' := Aside0.mk H
                    clear H
                    obtain ⟨Ao14, co14, eo14⟩ := Kd.R_slice HO_3.out
                    subst eo14
                    have p13 : 0 ≤ (x4_2 : Int) := of_decide_eq_true (by first | (with_reducible assumption) | assumption)
                    have q13 : (x4_2 : Int) < ((x3_2.length : Int) : Int) := of_decide_eq_true (by first | (with_reducible assumption) | assumption)
                    obtain ⟨go13, co13, eo13, gb13, gl13, cl13, HG13⟩ := Kd.R_form HO_3.out (by omega)
                    (first | cases eo13 | (injection eo13 with ea_ en_ ec_; (first | subst ea_ | (injection ea_ with ea_; subst ea_)); subst ec_; clear en_))
                    have GB13 := Aside0.mk gb13
                    have GG13 := Aside0.mk HG13
                    clear gb13 gl13 HG13
                    obtain ⟨hx13_0, hf13_0⟩ := Kd.R_celln false HO_3.out (x4_2 : Int) p13 q13
                    replace p13 := eq_true p13
                    replace q13 := eq_true q13
                    have HP15 := Kd.R_putg HO_3.out (x4_2 : Int) true
                    go_wp2_with (first | ((with_reducible refine gate_store (t := 4) (p := 22) rfl ?_); refine store_event (t := 4) (p := 22) (v := ?vo_w16) (w1 := (wr.setCell ⟨go13, (x4_2 : Int).toNat, none⟩ (.bool true))) ?hg ?ho ?hn ?hr ?_; (case ho => rfl); (case hg => rfl); (case hn => rfl); (case hr => first | (go_simp; done) | (go_simp; rfl)); intro w16 hw; have hg : wr.grownBy w16 (some go13) := (by rw [hw]; exact HP15.2); have hp_ : Kd.R Kd.bool 4 w16 w.heap.size (fun _ => True) (.slice (some ⟨go13, 0, none⟩) x3_2.length co14) y135 := (by rw [hw, Ny135.out]; exact HP15.1); clear HP15; have n0_ := Aside0.mk (hp_); have n1_ := Aside0.mk (blk_grown (g := gb131) (o := .cells #[.int .i64 0, .slice none 0 0] 50 (0, 0)) (by (with_reducible repeat (first | refine blk_drewN ?_ _ | refine blk_drew ?_ | refine blk_alloc ?_ _)); exact BK131.out) hg (Kd.R_ne HO_3.out BK131.out (by decide))); have n2_ := Aside0.mk ((by rw [hw]; exact below_set (HB.out) GB13.out : Below w.heap.size w w16)); clear HO_3; clear BK131; clear HB; have HO_3 := n0_; have BK131 := n1_; have HB := n2_; clear n0_ n1_ n2_; clear hg hw hp_))
                    go_roundg k2
                    case measure => have := HJ1.out; have := HK2.out; omega
                    case rel => exact ⟨(y135), (wrap64 (x4_2 + 1)), (by first | rfl | exact congrArg (Value.int .i64) (i64_w _) | (simp; done) | (simp [*]; done)), H', ⟨by have := HJ1.out; have := HK2.out; omega⟩, ⟨by (with_reducible repeat (first | apply Kd.R_alloc | apply Kd.R_drewN | apply Kd.R_drew)); exact HO_3.out⟩, ⟨by (with_reducible repeat (first | refine blk_drewN ?_ _ | refine blk_drew ?_ | refine blk_alloc ?_ _)); exact BK131.out⟩, ⟨by repeat (first | (with_reducible first | exact HB.out | apply below_alloc | apply pw_below_drewN | apply below_drew1 | refine below_set ?_ GE131.out) | exact HB.out)⟩⟩
                  · rw [if_neg c12] at H
                    exact absurd H (by simp)
                · rw [if_neg c11] at H
                  have c11b0 : decide (x4_2 < (x3_2.length : Int)) = false := decide_eq_false c11
                  clear c11
                  replace H := Option.bind_eq_some_iff.mp H
                  obtain ⟨⟨t136, t137⟩, A170, H⟩ := H
                  replace H : (some (t136, t137)) = some (r1, r2) := H
                  have A17 := Aside0.mk A170
                  clear A170
                  simp only [Option.some.injEq, Prod.mk.injEq] at H
                  obtain ⟨rfl, rfl⟩ := H
                  obtain ⟨Ao18, co18, eo18⟩ := Kd.R_slice HO_3.out
                  subst eo18
                  go_wp2_with (first | ((with_reducible refine gate_callee (f := 76) rfl ?_); refine goesL_ (some 24) rfl rfl Try.func76 (by kernel_rfl) rfl #[.slice Ao18 x3_2.length co18] rfl (by (try simp only [List.map_toArray, List.map_cons, List.map_nil]); first | done | rfl | (simp only [List.length_drop, List.length_take]; rfl)) ?_; (with_reducible refine (spec_l8List.calls k2 _ _ x3_2 t136 t137 _ ?side1 ?side2 A17.out).mono ?_); (case side1 => repeat (first | exact (Kd.R_reads' HO_3.out).2.2 | (with_reducible refine Kd.C_alloc ?_ _) | (with_reducible refine Kd.C_drewN ?_ _) | (with_reducible refine Kd.C_drew ?_))); (case side2 => exact (Kd.R_reads' HO_3.out).2.1); rintro e w19 ⟨v138, rfl, ho0, hb⟩; refine ⟨_, rfl, ?_⟩; have n0_ := Aside0.mk (Kd.R_below (by (with_reducible repeat (first | apply Kd.R_alloc | apply Kd.R_drewN | apply Kd.R_drew)); exact HO_3.out) hb); have n1_ := Aside0.mk (Kd.R_lower ho0 (below_size (by repeat (first | (with_reducible first | exact HB.out | apply below_alloc | apply pw_below_drewN | apply below_drew1 | refine below_set ?_ GE131.out) | exact HB.out)))); have n2_ := Aside0.mk (blk_below (g := gb131) (o := .cells #[.int .i64 0, .slice none 0 0] 50 (0, 0)) (by (with_reducible repeat (first | refine blk_drewN ?_ _ | refine blk_drew ?_ | refine blk_alloc ?_ _)); exact BK131.out) hb); have n3_ := Aside0.mk (below_step (by repeat (first | (with_reducible first | exact HB.out | apply below_alloc | apply pw_below_drewN | apply below_drew1 | refine below_set ?_ GE131.out) | exact HB.out)) hb); clear HO_3; clear BK131; clear HB; have HO_3 := n0_; have HO139 := n1_; have BK131 := n2_; have HB := n3_; clear n0_ n1_ n2_ n3_; (try clear hb); (try clear hb2); (try clear hk); (try clear hi); (try clear ho0); have hcz20_0 : w19.cell? ⟨gb131, 0, none⟩ = some (.int .i64 0) := (blk_cell BK131.out 0).trans rfl; have hcz20_1 : w19.cell? ⟨gb131, 1, none⟩ = some (.slice none 0 0) := (blk_cell BK131.out 1).trans rfl; have hfz20_0 := blk_frozen BK131.out 0; have hfz20_1 := blk_frozen BK131.out 1; obtain ⟨Ao21, co21, eo21⟩ := Kd.R_slice HO139.out; subst eo21))
                  refine bodyPost_ret (results_cell_row rfl _ _ gb131 50 #[.int .i64 t136, .slice Ao21 t137.length co21] (0, 0) _ rfl (by (with_reducible repeat (first | refine blk_drewN ?_ _ | refine blk_drew ?_ | refine blk_alloc ?_ _)); refine blk_put (cs := #[.int .i64 t136, .slice none 0 0]) ?_ 1 _ rfl; (with_reducible repeat (first | refine blk_drewN ?_ _ | refine blk_drew ?_ | refine blk_alloc ?_ _)); refine blk_put (cs := #[.int .i64 0, .slice none 0 0]) ?_ 0 _ rfl; (with_reducible repeat (first | refine blk_drewN ?_ _ | refine blk_drew ?_ | refine blk_alloc ?_ _)); exact BK131.out) Try.underlying50 rfl (by kernel_rfl)) rfl ?_
                  exact ⟨_, by first | rfl | (simp [errW_none, errW_some] <;> rfl) | (simp [*, errW_none, errW_some] <;> rfl), by (with_reducible repeat (first | apply Kd.R_alloc | apply Kd.R_drewN | apply Kd.R_drew)); exact Kd.R_mono (Kd.R_far (p := ⟨gb131, 1, none⟩) (Kd.R_far (p := ⟨gb131, 0, none⟩) (Kd.R_types HO139.out BK131.out (by decide)) (fun _ hk => hk.2) (.int .i64 t136)) (fun _ hk => hk.2) (.slice Ao21 t137.length co21)) (fun _ hk => trivial), by repeat (first | (with_reducible first | exact HB.out | apply below_alloc | apply pw_below_drewN | apply below_drew1 | refine below_set ?_ GE131.out) | exact HB.out)⟩
          · rw [if_neg c8] at H
            exact absurd H (by simp)
        · rw [if_neg c7] at H
          exact absurd H (by simp)

/-! ### slices_Index_bool_bool: function 108 -/
def slices_Index_bool_bool.l0 : Nat → List Bool → Bool → Int → Int → Option (Int)
  | 0, _, _, _, _ => none
  | k + 1, x0, x1, x7, x8 => if x8 < x7 then (if 0 ≤ x8 then (if x8 < (x0.length : Int) then (if (x1 == (rdOf false x0 x8)) = true then (some x8) else (slices_Index_bool_bool.l0 k x0 x1 x7 (wrap64 (x8 + 1)))) else (none)) else (none)) else (some (-1))
def slices_Index_bool_bool.f (k : Nat) (l0 : List Bool) (a1 : Bool) : Option (Int) := slices_Index_bool_bool.l0 k l0 a1 (l0.length : Int) 0
theorem slices_Index_bool_bool.mono_l : ∀ k, (∀ y0 y1 y2 y3, LeO (slices_Index_bool_bool.l0 k y0 y1 y2 y3) (slices_Index_bool_bool.l0 (k + 1) y0 y1 y2 y3))
  | 0 => fun _ _ _ _ r h => by simp [slices_Index_bool_bool.l0] at h
  | k + 1 => by
    have ih0 := slices_Index_bool_bool.mono_l k
    · intro y0 y1 y2 y3
      unfold slices_Index_bool_bool.l0
      repeat' first
      | (with_reducible exact ih0 _ _ _ _)
      | (with_reducible exact LeO.refl _)
      | (with_reducible exact LeO.none _)
      | (with_reducible refine LeO.ite ?_ ?_)
      | (with_reducible refine LeO.bind ?_ (fun _ => ?_))
      | exact ih0 _ _ _ _
      | exact LeO.none _
      | refine LeO.ite ?_ ?_
      | refine LeO.bind ?_ (fun _ => ?_)
theorem slices_Index_bool_bool.mono : ∀ a0 a1 k, LeO (slices_Index_bool_bool.f k a0 a1) (slices_Index_bool_bool.f (k + 1) a0 a1) := by
  intro a0 a1 k
  have ih0 := slices_Index_bool_bool.mono_l k
  unfold slices_Index_bool_bool.f
  repeat' first
      | (with_reducible exact ih0 _ _ _ _)
      | (with_reducible exact LeO.refl _)
      | (with_reducible exact LeO.none _)
      | (with_reducible refine LeO.ite ?_ ?_)
      | (with_reducible refine LeO.bind ?_ (fun _ => ?_))
      | exact ih0 _ _ _ _
      | exact LeO.none _
      | refine LeO.ite ?_ ?_
      | refine LeO.bind ?_ (fun _ => ?_)
set_option maxHeartbeats 8000000 in
set_option maxRecDepth 100000 in
theorem slices_Index_bool_bool.calls (k : Nat) (A0 : Option Addr) (c0 : Nat) (l0 : List Bool) (a1 : Bool) (r : Int) (w : World) (hr0 : Kd.C Kd.bool w A0 l0.length l0) (hc0 : l0.length ≤ c0) (h : slices_Index_bool_bool.f k l0 a1 = some r) :
    Calls Try.prog 108 #[.slice A0 l0.length c0, .bool a1] w fun e w' => e = .returned (.int .i64 r) ∧ Drawn0 w w' := by
  have HR0 := Aside0.mk hr0
  have HC0 := Aside0.mk hc0
  clear hr0 hc0
  have H : (slices_Index_bool_bool.l0 k l0 a1 (l0.length : Int) 0) = some r := h
  clear h
  have H' := Aside0.mk H
  clear H
  go_enter Try.func108, Try.ntmps108
  go_wp2
  go_loopg [8] k (fun kq v8 w' => ∃ (x8_1 : Int), v8 = .int .i64 x8_1 ∧ Aside0 (slices_Index_bool_bool.l0 kq l0 a1 (l0.length : Int) x8_1 = some r) ∧ Aside0 (kq ≤ k) ∧ Drawn0 w w')
  case atStart => exact ⟨(0), (by first | rfl | exact congrArg (Value.int .i64) (i64_w _) | (simp; done) | (simp [*]; done)), H', ⟨Nat.le_refl _⟩, by repeat (first | exact Drawn0.refl _ | apply Drawn0.step)⟩
  case round =>
    clear H'
    try clear c1
    try clear p2
    obtain ⟨x8_1, rfl, HA, HK1, ⟨m1, rfl⟩⟩ := hrel
    cases gk with
    | zero => exact absurd HA.out (by simp [slices_Index_bool_bool.l0])
    | succ k1 =>
      have H := HA.out
      clear HA
      simp only [slices_Index_bool_bool.l0] at H
      by_cases c3 : x8_1 < (l0.length : Int)
      · rw [if_pos c3] at H
        have c3b0 : decide (x8_1 < (l0.length : Int)) = true := decide_eq_true c3
        clear c3
        by_cases c4 : 0 ≤ x8_1
        · rw [if_pos c4] at H
          have c4b0 : decide (0 ≤ x8_1) = true := decide_eq_true c4
          clear c4
          by_cases c5 : x8_1 < (l0.length : Int)
          · rw [if_pos c5] at H
            have c5b0 : decide (x8_1 < (l0.length : Int)) = true := decide_eq_true c5
            clear c5
            by_cases c6 : (a1 == (rdOf false l0 x8_1)) = true
            · rw [if_pos c6] at H
              have c6b0 : (a1 == (rdOf false l0 x8_1)) = true := c6
              (try (have c6b1 : decide (a1 = (rdOf false l0 x8_1)) = true := by simpa using c6))
              (try (have c6b2 : (a1 == (rdOf false l0 x8_1)) = true := by simpa using c6))
              clear c6
              obtain rfl := Option.some.inj H
              have p140 : 0 ≤ (x8_1 : Int) := of_decide_eq_true (by first | (with_reducible assumption) | assumption)
              have q140 : x8_1 < (l0.length : Int) := of_decide_eq_true (by first | (with_reducible assumption) | assumption)
              obtain ⟨ad140, e140, hx140_0⟩ := Kd.at_bool HR0.out x8_1 p140 q140
              cases e140
              replace p140 := eq_true p140
              replace q140 := eq_true q140
              go_wp2
              go_ret
              exact ⟨by first | rfl | exact congrArg (Value.int .i64) (i64_w _) | (simp; done) | (simp [*]; done), by repeat (first | exact Drawn0.refl _ | apply Drawn0.step)⟩
            · rw [if_neg c6] at H
              have c6b0 : (a1 == (rdOf false l0 x8_1)) = false := by simpa using c6
              (try (have c6b1 : decide (a1 = (rdOf false l0 x8_1)) = false := by simpa using c6))
              (try (have c6b2 : (a1 == (rdOf false l0 x8_1)) = false := by simpa using c6))
              (try (have c6b3 : ¬ (a1 = (rdOf false l0 x8_1)) := by simpa using c6))
              clear c6
              have H' := Aside0.mk H
              clear H
              have p140 : 0 ≤ (x8_1 : Int) := of_decide_eq_true (by first | (with_reducible assumption) | assumption)
              have q140 : x8_1 < (l0.length : Int) := of_decide_eq_true (by first | (with_reducible assumption) | assumption)
              obtain ⟨ad140, e140, hx140_0⟩ := Kd.at_bool HR0.out x8_1 p140 q140
              cases e140
              replace p140 := eq_true p140
              replace q140 := eq_true q140
              go_wp2
              go_roundg k1
              case measure => have := HK1.out; omega
              case rel => exact ⟨(wrap64 (x8_1 + 1)), (by first | rfl | exact congrArg (Value.int .i64) (i64_w _) | (simp; done) | (simp [*]; done)), H', ⟨by have := HK1.out; omega⟩, by repeat (first | exact Drawn0.refl _ | apply Drawn0.step)⟩
          · rw [if_neg c5] at H
            exact absurd H (by simp)
        · rw [if_neg c4] at H
          exact absurd H (by simp)
      · rw [if_neg c3] at H
        have c3b0 : decide (x8_1 < (l0.length : Int)) = false := decide_eq_false c3
        clear c3
        obtain rfl := Option.some.inj H
        go_wp2
        go_ret
        exact ⟨by first | rfl | exact congrArg (Value.int .i64) (i64_w _) | (simp; done) | (simp [*]; done), by repeat (first | exact Drawn0.refl _ | apply Drawn0.step)⟩

/-! ### slices_Contains_bool_bool: function 105 -/
def slices_Contains_bool_bool.f (k : Nat) (l0 : List Bool) (a1 : Bool) : Option (Bool) := (slices_Index_bool_bool.f k l0 a1).bind fun t141 => (some (decide (t141 ≥ 0)))
theorem slices_Contains_bool_bool.mono : ∀ a0 a1 k, LeO (slices_Contains_bool_bool.f k a0 a1) (slices_Contains_bool_bool.f (k + 1) a0 a1) := by
  intro a0 a1 k
  unfold slices_Contains_bool_bool.f
  repeat' first
      | (with_reducible exact slices_Index_bool_bool.mono _ _ _)
      | (with_reducible exact LeO.refl _)
      | (with_reducible exact LeO.none _)
      | (with_reducible refine LeO.ite ?_ ?_)
      | (with_reducible refine LeO.bind ?_ (fun _ => ?_))
      | exact slices_Index_bool_bool.mono _ _ _
      | exact LeO.none _
      | refine LeO.ite ?_ ?_
      | refine LeO.bind ?_ (fun _ => ?_)
set_option maxHeartbeats 8000000 in
set_option maxRecDepth 100000 in
theorem slices_Contains_bool_bool.calls (k : Nat) (A0 : Option Addr) (c0 : Nat) (l0 : List Bool) (a1 : Bool) (r : Bool) (w : World) (hr0 : Kd.C Kd.bool w A0 l0.length l0) (hc0 : l0.length ≤ c0) (h : slices_Contains_bool_bool.f k l0 a1 = some r) :
    Calls Try.prog 105 #[.slice A0 l0.length c0, .bool a1] w fun e w' => e = .returned (.bool r) ∧ Drawn0 w w' := by
  have HR0 := Aside0.mk hr0
  have HC0 := Aside0.mk hc0
  clear hr0 hc0
  have H : ((slices_Index_bool_bool.f k l0 a1).bind fun t141 => (some (decide (t141 ≥ 0)))) = some r := h
  clear h
  replace H := Option.bind_eq_some_iff.mp H
  obtain ⟨t141, A30, H⟩ := H
  replace H : (some (decide (t141 ≥ 0))) = some r := H
  have A3 := Aside0.mk A30
  clear A30
  obtain rfl := Option.some.inj H
  go_enter Try.func105, Try.ntmps105
  go_wp2_with (first | ((with_reducible refine gate_callee (f := 108) rfl ?_); refine goesL_ (some 7) rfl rfl Try.func108 (by kernel_rfl) rfl #[.slice A0 l0.length c0, .bool a1] rfl (by (try simp only [List.map_toArray, List.map_cons, List.map_nil]); first | done | rfl | (simp only [List.length_drop, List.length_take]; rfl)) ?_; (with_reducible refine (slices_Index_bool_bool.calls k _ _ l0 a1 t141 _ ?side1 ?side2 A3.out).mono ?_); (case side1 => repeat (first | exact HR0.out | (with_reducible refine Kd.C_alloc ?_ _) | (with_reducible refine Kd.C_drewN ?_ _) | (with_reducible refine Kd.C_drew ?_))); (case side2 => exact HC0.out); rintro e w' ⟨rfl, ⟨nd, rfl⟩⟩; refine ⟨_, rfl, ?_⟩))
  go_ret
  exact ⟨by first | rfl | exact congrArg (Value.int .i64) (i64_w _) | (simp; done) | (simp [*]; done), by repeat (first | exact Drawn0.refl _ | apply Drawn0.step)⟩

/-! ### impl_framesOf: function 77 -/
/-- What framesOf's walk over aligned halves lists. -/
def impl_framesOf.whole (m : List Bool) (a n : Nat) : Prop := a + n ≤ m.length ∧ ∀ i, i < n → m[a + i]? = some true
instance (m : List Bool) (a n : Nat) : Decidable (impl_framesOf.whole m a n) := by unfold impl_framesOf.whole; exact inferInstance
def impl_framesOf.walk (m : List Bool) : Nat → Nat → List S73
  | 0, a => if m.length ≤ a then [] else if impl_framesOf.whole m a (2 ^ 0) then [⟨(a : Int), (0 : Nat)⟩] else []
  | o + 1, a => if m.length ≤ a then [] else if impl_framesOf.whole m a (2 ^ (o + 1)) then [⟨(a : Int), (o + 1 : Nat)⟩] else impl_framesOf.walk m o a ++ impl_framesOf.walk m o (a + 2 ^ o)
def impl_framesOf.f (l0 : List Bool) : Option (Int × List S73) := if l0.length ≤ 1024 then some ((l0.length : Int), impl_framesOf.walk l0 10 0) else none
theorem impl_framesOf.walk_len (m : List Bool) : ∀ (o a : Nat), (impl_framesOf.walk m o a).length ≤ 2 ^ o := by
  intro o
  induction o with
  | zero => intro a; unfold impl_framesOf.walk; split; · simp
            split <;> simp
  | succ o ih =>
    intro a; unfold impl_framesOf.walk
    have h1 := ih a
    have h2 := ih (a + 2 ^ o)
    have h3 := Nat.two_pow_pos o
    split; · simp
    split
    · rw [List.length_singleton, Nat.pow_succ]; omega
    · rw [List.length_append, Nat.pow_succ]; omega
theorem impl_framesOf.walk_none {m : List Bool} {a : Nat} (h : m.length ≤ a) : ∀ o, impl_framesOf.walk m o a = [] := by
  intro o; cases o <;> (unfold impl_framesOf.walk; exact if_pos h)
theorem impl_framesOf.walk_one {m : List Bool} {a : Nat} : ∀ o, ¬ m.length ≤ a → impl_framesOf.whole m a (2 ^ o) → impl_framesOf.walk m o a = [⟨(a : Int), (o : Int)⟩] := by
  intro o h w; cases o <;> (unfold impl_framesOf.walk; rw [if_neg h, if_pos w])
theorem impl_framesOf.index (x : List Bool) (hx : x.length ≤ 1024) : ∀ (d i : Nat), i + d = x.length → ∃ r : Int, slices_Index_bool_bool.l0 (d + 1) x false (x.length : Int) (i : Int) = some r ∧ (r ≥ 0 ↔ ¬ ∀ j, i ≤ j → j < x.length → x[j]? = some true) := by
  intro d
  induction d with
  | zero =>
    intro i h
    refine ⟨-1, ?_, ?_⟩
    · unfold slices_Index_bool_bool.l0; exact if_neg (by omega)
    · exact ⟨fun h => absurd h (by decide), fun h => absurd (fun j h1 h2 => by omega) h⟩
  | succ d ih =>
    intro i h
    have hi : i < x.length := by omega
    have hr : rdOf false x (i : Int) = x[i] := by simp [rdOf, List.getD_eq_getElem?_getD, hi]
    unfold slices_Index_bool_bool.l0
    rw [if_pos (by omega), if_pos (by omega), if_pos (by omega), hr]
    cases hb : x[i] with
    | false =>
      refine ⟨(i : Int), if_pos rfl, ⟨fun _ hh => ?_, fun _ => by omega⟩⟩
      have := hh i (Nat.le_refl _) hi
      rw [List.getElem?_eq_getElem hi, hb] at this
      exact absurd this (by decide)
    | true =>
      obtain ⟨r, h1, h2⟩ := ih (i + 1) (by omega)
      refine ⟨r, ?_, h2.trans (not_congr ⟨fun hh j h3 h4 => ?_, fun hh j h3 h4 => hh j (by omega) h4⟩)⟩
      · rw [if_neg (by decide), show wrap64 ((i : Int) + 1) = ((i + 1 : Nat) : Int) by unfold wrap64; omega]
        exact h1
      · rcases Nat.eq_or_lt_of_le h3 with e | e
        · rw [← e, List.getElem?_eq_getElem hi, hb]
        · exact hh j (by omega) h4
theorem impl_framesOf.contains (x : List Bool) (hx : x.length ≤ 1024) : slices_Contains_bool_bool.f (x.length + 1) x false = some (!decide (∀ j, j < x.length → x[j]? = some true)) := by
  obtain ⟨r, h1, h2⟩ := impl_framesOf.index x hx x.length 0 (by omega)
  unfold slices_Contains_bool_bool.f slices_Index_bool_bool.f
  have h3 : slices_Index_bool_bool.l0 (x.length + 1) x false (x.length : Int) 0 = some r := h1
  rw [h3, Option.bind_some, Option.some.injEq]
  by_cases h : ∀ j, j < x.length → x[j]? = some true
  · rw [decide_eq_true h, decide_eq_false (fun hr => h2.1 hr (fun j _ hj => h j hj))]; rfl
  · rw [decide_eq_false h, decide_eq_true (h2.2 (fun hh => h (fun j hj => hh j (Nat.zero_le _) hj)))]; rfl
theorem impl_framesOf.part {m : List Bool} {a n : Nat} (h : a + n ≤ m.length) : (!(!decide (∀ j, j < ((m.take (a + n)).drop a).length → ((m.take (a + n)).drop a)[j]? = some true))) = decide (impl_framesOf.whole m a n) := by
  have hl : ((m.take (a + n)).drop a).length = n := by rw [List.length_drop, List.length_take]; omega
  rw [Bool.not_not, decide_eq_decide, hl]
  unfold impl_framesOf.whole
  constructor
  · intro hh
    refine ⟨h, fun i hi => ?_⟩
    have := hh i hi
    rw [List.getElem?_drop, List.getElem?_take_of_lt (by omega)] at this
    exact this
  · intro hh j hj
    rw [List.getElem?_drop, List.getElem?_take_of_lt (by omega)]
    exact hh.2 j hj
/-- A call through a slot that holds a closure's value. -/
theorem goesC_ {P : Program} {ops : Array Oper} {Q : Exit → Act → World → Prop} {rest : List Oper} {oi : Oper} {a : Act} {w : World} (N : Option Tmp) (hd : oi.dst = N) (hg : oi.guard = none) {f : FuncId} {fn : Func} {t : Tmp} {xs : Array Operand} {ts : Array TypeId} (hf : P.funcs[f]? = some fn) (hname : (fn.name == "runtime.NumGoroutine") = false) (hb : fn.body.isSome = true) (args caps all : Array Value)
    (hop : oi.op = .call { callee := .value (.tmp t), args := xs, argTypes := ts }) (hv : a.eval (.tmp t) = .func (.func f) #[] caps) (hargs : xs.map a.eval = args) (hall : args ++ caps = all)
    (h : Calls P f all w fun e w' => ∃ v, e = .returned v ∧ wpList P ops Q rest (a.put N v) w') : wpList P ops Q (oi :: rest) a w := by
  refine wpList_plain hg fun K hK => ?_
  have he := enters_ hf hname hb all w
  have hrun : (execOp a.eval oi).run P w = .ok (.enter f all) w := by
    unfold execOp
    simp only [hop, resolve, hv]
    simp [Deferred.ofValue, invoke, hargs, hall, he]
  unfold Oper.wp
  rw [hrun, Oper.upon_enter]
  refine h.mono fun e w'' hh => ?_
  obtain ⟨v, rfl, hk⟩ := hh
  subst hd
  exact hK _ _ hk
def impl_framesOf.fv (gf gm gw : Nat) : Value := .func (.func 104) #[] #[.pointer (some ⟨gf, 0, none⟩), .pointer (some ⟨gm, 0, none⟩), .pointer (some ⟨gw, 0, none⟩)]
def impl_framesOf.St (l0 : List Bool) (A0 : Option Addr) (c0 : Nat) (w0 : World) (gf gm gw gr : Nat) (W : World) (u : Value) (acc : List S73) : Prop :=
  W.heap[gf]? = some (.cells #[.int .i64 (l0.length : Int), u] 50 (0, 0)) ∧ W.heap[gm]? = some (.cells #[.slice A0 l0.length c0] 105 (0, 0)) ∧ W.heap[gw]? = some (.cells #[impl_framesOf.fv gf gm gw] 131 (0, 0)) ∧ W.heap[gr]? = some (.cells #[.int .i64 0, .slice none 0 0] 50 (0, 0)) ∧ Kd.R k73 73 W w0.heap.size (fun _ => True) u acc ∧ Below w0.heap.size w0 W
set_option maxHeartbeats 4000000 in
set_option maxRecDepth 100000 in
theorem impl_framesOf.clo (l0 : List Bool) (A0 : Option Addr) (c0 : Nat) (hl : l0.length ≤ 1024) (w0 : World) (hr0 : Kd.C Kd.bool w0 A0 l0.length l0) (hc0 : l0.length ≤ c0) (gf gm gw gr : Nat) (hrf : gr ≠ gf) (hgf : w0.heap.size ≤ gf) (hgm : w0.heap.size ≤ gm) (hgw : w0.heap.size ≤ gw) :
    ∀ (o a : Nat) (oi ai : Int) (W : World) (u : Value) (acc : List S73), oi = (o : Int) → ai = (a : Int) → o ≤ 10 → a + 2 ^ o ≤ 1024 → acc.length ≤ a → impl_framesOf.St l0 A0 c0 w0 gf gm gw gr W u acc →
    Calls Try.prog 104 #[.int .i64 ai, .int .i64 oi, .pointer (some ⟨gf, 0, none⟩), .pointer (some ⟨gm, 0, none⟩), .pointer (some ⟨gw, 0, none⟩)] W fun e W' => e = .returned (.tuple #[]) ∧ ∃ u', impl_framesOf.St l0 A0 c0 w0 gf gm gw gr W' u' (acc ++ impl_framesOf.walk l0 o a) := by
  intro o
  induction o using Nat.strongRecOn with
  | ind o ih =>
    intro a oi ai W u acc ho_ ha_ ho10 hb hal hst
    have ho := Aside0.mk ho_
    have ha := Aside0.mk ha_
    clear ho_ ha_
    obtain ⟨BF, BM, BW, BR, HO, HB⟩ := hst
    have BKf := Aside0.mk BF
    have BKm := Aside0.mk BM
    have BKw := Aside0.mk BW
    have BKr := Aside0.mk BR
    have HO_ := Aside0.mk HO
    have HB_ := Aside0.mk HB
    clear BF BM BW BR HO HB
    have hp2 := Nat.two_pow_pos o
    have q0b0 := eq_true (show 0 ≤ oi by have h1_ := ho.out; omega)
    have q0b1 : decide (0 ≤ oi) = true := decide_eq_true (by have h1_ := ho.out; have h2_ := ha.out; omega)
    obtain ⟨ji16, hji16⟩ : ∃ j_ : Int, (shl .i64 1 oi) = j_ := ⟨_, rfl⟩
    have hji16_ : (IntKind.i64.wrap (1 * 2 ^ min oi.toNat 64)) = ji16 := hji16
    have hji16z : oi ≤ 64 → (IntKind.i64.wrap (1 * 2 ^ oi.toNat)) = ji16 := shl_small hji16
    have hji16u : (IntKind.i64.wrap (2 ^ min oi.toNat 64)) = ji16 := by have h_ := hji16_; rw [Int.one_mul] at h_; exact h_
    have hji16v : oi ≤ 64 → (IntKind.i64.wrap (2 ^ oi.toNat)) = ji16 := fun hle_ => by have h_ := hji16z hle_; rw [Int.one_mul] at h_; exact h_
    have hji16y : (wrap64 (1 * 2 ^ min oi.toNat 64)) = ji16 := (i64_w _).symm.trans hji16_
    have hji16x : oi ≤ 64 → (wrap64 (1 * 2 ^ oi.toNat)) = ji16 := fun h_ => (i64_w _).symm.trans (hji16z h_)
    have hle64_ : oi ≤ 64 := by have h1_ := ho.out; omega
    have hji_a := hji16v hle64_
    have hji_b := hji16x hle64_
    have hji_c : wrap64 (2 ^ oi.toNat) = ji16 := (i64_w _).symm.trans hji_a
    have hji_d := hji16z hle64_
    have hji_e : wrap64 (2 ^ min oi.toNat 64) = ji16 := (i64_w _).symm.trans hji16u
    have hjn : Aside0 (ji16 = ((2 ^ o : Nat) : Int)) := ⟨by
      have h1 := hji16v (by have h1_ := ho.out; have h2_ := ha.out; omega)
      rw [← h1, i64_w, show oi.toNat = o by have h1_ := ho.out; omega]
      have h2 : ((2 : Int) ^ o) = ((2 ^ o : Nat) : Int) := by simp
      rw [h2]
      unfold wrap64; omega⟩
    have hczf_0 : W.cell? ⟨gf, 0, none⟩ = some (.int .i64 (l0.length : Int)) := (blk_cell BKf.out 0).trans rfl
    have hczf_1 : W.cell? ⟨gf, 1, none⟩ = some u := (blk_cell BKf.out 1).trans rfl
    have hczm_0 : W.cell? ⟨gm, 0, none⟩ = some (.slice A0 l0.length c0) := (blk_cell BKm.out 0).trans rfl
    have hczw_0 : W.cell? ⟨gw, 0, none⟩ = some (.func (.func 104) #[] #[.pointer (some ⟨gf, 0, none⟩), .pointer (some ⟨gm, 0, none⟩), .pointer (some ⟨gw, 0, none⟩)]) := (blk_cell BKw.out 0).trans rfl
    by_cases c1 : l0.length ≤ a
    · have c1b0 : decide ((l0.length : Int) ≤ ai) = true := decide_eq_true (by have h1_ := ho.out; have h2_ := ha.out; omega)
      go_enter Try.func104, Try.ntmps104
      go_wp2
      first | go_end0 | ((try simp only [Exit.inBlock, Exit.then]); refine bodyPost_ret (results_none rfl _ _ _) rfl ?_)
      exact ⟨rfl, u, by rw [impl_framesOf.walk_none c1, List.append_nil]; exact ⟨BKf.out, BKm.out, BKw.out, BKr.out, HO_.out, HB_.out⟩⟩
    · have c1b0 : decide ((l0.length : Int) ≤ ai) = false := decide_eq_false (by have h1_ := ho.out; have h2_ := ha.out; omega)
      have hwn : Aside0 (wrap64 (ai + ji16) = ((a + 2 ^ o : Nat) : Int)) := ⟨by rw [hjn.out, ha.out]; unfold wrap64; omega⟩
      by_cases c2 : a + 2 ^ o ≤ l0.length
      · have c2b0 : decide (wrap64 (ai + ji16) ≤ (l0.length : Int)) = true := decide_eq_true (by have h1_ := ho.out; have h2_ := ha.out; rw [hwn.out]; omega)
        obtain ⟨i0q, hi0q, _, hszq, _⟩ := info_parts info4
        obtain ⟨Aq, hcutq, hAq, hCq⟩ := print_mid_of (P := Try.prog) Value.bool false 105 4 .i64 .i64 Try.underlying105 hi0q hszq A0 c0 l0 ai (wrap64 (ai + ji16)) (by have h1_ := ho.out; have h2_ := ha.out; omega) (by have h1_ := ho.out; have h2_ := ha.out; rw [hwn.out]; omega) (by have h1_ := ho.out; have h2_ := ha.out; rw [hwn.out]; omega) hc0
        have HCq := Aside0.mk hCq
        have HAq := Aside0.mk (hAq _ (Kd.reads_of_C (Kd.C_below hr0 HB_.out)))
        clear hAq hCq hi0q hszq
        obtain ⟨xs, hxs⟩ : ∃ xs_, xs_ = (l0.take (wrap64 (ai + ji16)).toNat).drop ai.toNat := ⟨_, rfl⟩
        have hxl : xs.length ≤ 1024 := by rw [hxs, List.length_drop, List.length_take]; omega
        have hcon := Aside0.mk (impl_framesOf.contains xs hxl)
        have hpart : Aside0 ((!(!decide (∀ j, j < xs.length → xs[j]? = some true))) = decide (impl_framesOf.whole l0 a (2 ^ o))) := ⟨by
          rw [hxs, hwn.out, ha.out]
          exact impl_framesOf.part c2⟩
        rw [← hxs] at hcutq HCq HAq
        have HCx := Aside0.mk (Kd.C_of_reads (h1 := fun _ => rfl) HAq.out)
        clear HAq hxs
        obtain ⟨bq, hbq⟩ : ∃ b_ : Bool, b_ = !decide (∀ j, j < xs.length → xs[j]? = some true) := ⟨_, rfl⟩
        rw [← hbq] at hcon hpart
        clear hbq
        by_cases c3 : impl_framesOf.whole l0 a (2 ^ o)
        · rw [decide_eq_true c3] at hpart
          obtain rfl : bq = false := by have := hpart.out; revert this; cases bq <;> decide
          go_enter Try.func104, Try.ntmps104
          go_wp2_with (first | (go_at_call 105; ( (with_reducible refine (slices_Contains_bool_bool.calls (xs.length + 1) _ _ xs false false _ ?side1 ?side2 hcon.out).mono ?_); (case side1 => exact HCx.out); (case side2 => exact HCq.out); rintro e w' ⟨rfl, ⟨nd, rfl⟩⟩; generalize hq_ : World.drewN W nd = wr; have n0_ : Aside0 (wr.heap[gf]? = some (.cells #[.int .i64 (l0.length : Int), u] 50 (0, 0))) := ⟨hq_ ▸ blk_drewN BKf.out _⟩; have n1_ : Aside0 (wr.heap[gm]? = some (.cells #[.slice A0 l0.length c0] 105 (0, 0))) := ⟨hq_ ▸ blk_drewN BKm.out _⟩; have n2_ : Aside0 (wr.heap[gw]? = some (.cells #[impl_framesOf.fv gf gm gw] 131 (0, 0))) := ⟨hq_ ▸ blk_drewN BKw.out _⟩; have n5_ : Aside0 (wr.heap[gr]? = some (.cells #[.int .i64 0, .slice none 0 0] 50 (0, 0))) := ⟨hq_ ▸ blk_drewN BKr.out _⟩; have n3_ : Aside0 (Kd.R k73 73 wr w0.heap.size (fun _ => True) u acc) := ⟨hq_ ▸ Kd.R_drewN HO_.out _⟩; have n4_ : Aside0 (Below w0.heap.size w0 wr) := ⟨hq_ ▸ pw_below_drewN HB_.out _⟩; clear BKf BKm BKw BKr HO_ HB_ hq_ hczf_0 hczf_1 hczm_0 hczw_0 HCx; have BKf := n0_; have BKm := n1_; have BKw := n2_; have BKr := n5_; have HO_ := n3_; have HB_ := n4_; clear n0_ n1_ n2_ n3_ n4_ n5_; have hczf_0 : wr.cell? ⟨gf, 0, none⟩ = some (.int .i64 (l0.length : Int)) := (blk_cell BKf.out 0).trans rfl; have hczf_1 : wr.cell? ⟨gf, 1, none⟩ = some u := (blk_cell BKf.out 1).trans rfl; have hczw_0 : wr.cell? ⟨gw, 0, none⟩ = some (.func (.func 104) #[] #[.pointer (some ⟨gf, 0, none⟩), .pointer (some ⟨gm, 0, none⟩), .pointer (some ⟨gw, 0, none⟩)]) := (blk_cell BKw.out 0).trans rfl; have hfzf_1 := blk_frozen BKf.out 1)) | ((with_reducible refine gate_builtin (b := .append) (xs := #[.tmp 31, .tmp 35]) rfl ?_); at_builtin; (refine Kd.R_append k73 (w0 := w0) w0.heap.size rfl (.tmp 31) (.tmp 35) 48 73 (.agg #[(.int .i64 0), (.int .i64 0)]) 16 rfl Try.underlying48 info73 rfl (by decide) (by omega) u acc (⟨ai, oi⟩ : S73) [.int .i64 ai, .int .i64 oi] (fun _ => True) (fun _ => False) rfl rfl ?aP (fun _ hk => hk.elim) ?aF ?aO ?aB ?aS ?aL ?_; (case aP => exact k73_mkM _ _ _ (⟨ai, oi⟩ : S73)); (case aB => exact HB_.out); (case aF => exact (fun _ _ => trivial)); (case aO => exact HO_.out); (case aS => exact below_size HB_.out); (case aL => omega); intro v1 w1 ho1 hb1 hg1 hat1; have n0_ := Aside0.mk (blk_grown BKf.out hg1 (Kd.R_ne HO_.out BKf.out (by decide))); have n1_ := Aside0.mk (blk_grown BKm.out hg1 (Kd.R_ne HO_.out BKm.out (by decide))); have n2_ := Aside0.mk (blk_grown BKw.out hg1 (Kd.R_ne HO_.out BKw.out (by decide))); have n5_ := Aside0.mk (blk_grown BKr.out hg1 (Kd.R_ne HO_.out BKr.out (by decide))); have n3_ := Aside0.mk ho1; have n4_ := Aside0.mk hb1; clear BKf BKm BKw BKr HO_ HB_ ho1 hb1 hg1 hat1 hczf_0 hczf_1 hczw_0 hfzf_1; have BKf := n0_; have BKm := n1_; have BKw := n2_; have BKr := n5_; have HO_ := n3_; have HB_ := n4_; clear n0_ n1_ n2_ n3_ n4_ n5_; obtain ⟨Ao1, co1, eo1⟩ := Kd.R_slice HO_.out; subst eo1; have hczf_0 : w1.cell? ⟨gf, 0, none⟩ = some (.int .i64 (l0.length : Int)) := (blk_cell BKf.out 0).trans rfl; have hczf_1 : w1.cell? ⟨gf, 1, none⟩ = some u := (blk_cell BKf.out 1).trans rfl; have hfzf_0 := blk_frozen BKf.out 0; have hfzf_1 := blk_frozen BKf.out 1)))
          first | go_end0 | ((try simp only [Exit.inBlock, Exit.then]); refine bodyPost_ret (results_none rfl _ _ _) rfl ?_)
          refine ⟨rfl, .slice Ao1 (acc ++ [(⟨ai, oi⟩ : S73)]).length co1, ?_⟩
          rw [impl_framesOf.walk_one o c1 c3, ← ha.out, ← ho.out]
          exact ⟨blk_put (cs := #[.int .i64 (l0.length : Int), u]) BKf.out 1 _ (by simp), blk_far BKm.out (blk_ne BKm.out BKf.out (by decide)) _, blk_far BKw.out (blk_ne BKw.out BKf.out (by decide)) _, blk_far BKr.out hrf _, Kd.R_mono (Kd.R_far (p := ⟨gf, 1, none⟩) (Kd.R_types HO_.out BKf.out (by decide)) (fun _ hk => hk.2) _) (fun _ hk => trivial), below_set HB_.out hgf⟩
        · rw [decide_eq_false c3] at hpart
          obtain rfl : bq = true := by have := hpart.out; revert this; cases bq <;> decide
          by_cases c4 : o = 0
          · have c4b0 : (oi == 0) = true := beq_iff_eq.mpr (by rw [ho.out, c4]; rfl)
            have c4w : impl_framesOf.walk l0 o a = [] := by subst c4; unfold impl_framesOf.walk; rw [if_neg c1, if_neg c3]
            go_enter Try.func104, Try.ntmps104
            go_wp2_with (first | (go_at_call 105; (with_reducible refine (slices_Contains_bool_bool.calls (xs.length + 1) _ _ xs false true _ ?side1 ?side2 hcon.out).mono ?_); (case side1 => exact HCx.out); (case side2 => exact HCq.out); rintro e w' ⟨rfl, ⟨nd, rfl⟩⟩; (generalize hq_ : World.drewN W nd = wr; have n0_ : Aside0 (wr.heap[gf]? = some (.cells #[.int .i64 (l0.length : Int), u] 50 (0, 0))) := ⟨hq_ ▸ blk_drewN BKf.out _⟩; have n1_ : Aside0 (wr.heap[gm]? = some (.cells #[.slice A0 l0.length c0] 105 (0, 0))) := ⟨hq_ ▸ blk_drewN BKm.out _⟩; have n2_ : Aside0 (wr.heap[gw]? = some (.cells #[impl_framesOf.fv gf gm gw] 131 (0, 0))) := ⟨hq_ ▸ blk_drewN BKw.out _⟩; have n5_ : Aside0 (wr.heap[gr]? = some (.cells #[.int .i64 0, .slice none 0 0] 50 (0, 0))) := ⟨hq_ ▸ blk_drewN BKr.out _⟩; have n3_ : Aside0 (Kd.R k73 73 wr w0.heap.size (fun _ => True) u acc) := ⟨hq_ ▸ Kd.R_drewN HO_.out _⟩; have n4_ : Aside0 (Below w0.heap.size w0 wr) := ⟨hq_ ▸ pw_below_drewN HB_.out _⟩; clear BKf BKm BKw BKr HO_ HB_ hq_ hczf_0 hczf_1 hczm_0 hczw_0 HCx; have BKf := n0_; have BKm := n1_; have BKw := n2_; have BKr := n5_; have HO_ := n3_; have HB_ := n4_; clear n0_ n1_ n2_ n3_ n4_ n5_; have hczf_0 : wr.cell? ⟨gf, 0, none⟩ = some (.int .i64 (l0.length : Int)) := (blk_cell BKf.out 0).trans rfl; have hczf_1 : wr.cell? ⟨gf, 1, none⟩ = some u := (blk_cell BKf.out 1).trans rfl; have hczw_0 : wr.cell? ⟨gw, 0, none⟩ = some (.func (.func 104) #[] #[.pointer (some ⟨gf, 0, none⟩), .pointer (some ⟨gm, 0, none⟩), .pointer (some ⟨gw, 0, none⟩)]) := (blk_cell BKw.out 0).trans rfl; have hfzf_1 := blk_frozen BKf.out 1)))
            first | go_end0 | ((try simp only [Exit.inBlock, Exit.then]); refine bodyPost_ret (results_none rfl _ _ _) rfl ?_)
            exact ⟨rfl, u, by rw [c4w, List.append_nil]; exact ⟨BKf.out, BKm.out, BKw.out, BKr.out, HO_.out, HB_.out⟩⟩
          · obtain ⟨m, rfl⟩ := Nat.exists_eq_succ_of_ne_zero c4
            have c4b0 : (oi == 0) = false := beq_eq_false_iff_ne.mpr (by have h1_ := ho.out; omega)
            have c4w : impl_framesOf.walk l0 (m + 1) a = impl_framesOf.walk l0 m a ++ impl_framesOf.walk l0 m (a + 2 ^ m) := by rw [impl_framesOf.walk, if_neg c1, if_neg c3]
            have hpm : 2 ^ (m + 1) = 2 ^ m * 2 := Nat.pow_succ 2 m
            have hoi1 : Aside0 (wrap64 (oi - 1) = (m : Int)) := ⟨by rw [ho.out]; unfold wrap64; omega⟩
            have hai2 : Aside0 (wrap64 (ai + wrap64 (Int.tdiv ji16 2)) = ((a + 2 ^ m : Nat) : Int)) := ⟨by
              rw [hjn.out, ha.out, show ((2 ^ (m + 1) : Nat) : Int).tdiv 2 = ((2 ^ m : Nat) : Int) by rw [Int.tdiv_eq_ediv_of_nonneg (by omega)]; omega, show wrap64 ((2 ^ m : Nat) : Int) = ((2 ^ m : Nat) : Int) by unfold wrap64; omega]
              unfold wrap64; omega⟩
            have hal2 : (acc ++ impl_framesOf.walk l0 m a).length ≤ a + 2 ^ m := by have := impl_framesOf.walk_len l0 m a; rw [List.length_append]; omega
            go_enter Try.func104, Try.ntmps104
            go_wp2_with (first | (go_at_call 105; (with_reducible refine (slices_Contains_bool_bool.calls (xs.length + 1) _ _ xs false true _ ?side1 ?side2 hcon.out).mono ?_); (case side1 => exact HCx.out); (case side2 => exact HCq.out); rintro e w' ⟨rfl, ⟨nd, rfl⟩⟩; (generalize hq_ : World.drewN W nd = wr; have n0_ : Aside0 (wr.heap[gf]? = some (.cells #[.int .i64 (l0.length : Int), u] 50 (0, 0))) := ⟨hq_ ▸ blk_drewN BKf.out _⟩; have n1_ : Aside0 (wr.heap[gm]? = some (.cells #[.slice A0 l0.length c0] 105 (0, 0))) := ⟨hq_ ▸ blk_drewN BKm.out _⟩; have n2_ : Aside0 (wr.heap[gw]? = some (.cells #[impl_framesOf.fv gf gm gw] 131 (0, 0))) := ⟨hq_ ▸ blk_drewN BKw.out _⟩; have n5_ : Aside0 (wr.heap[gr]? = some (.cells #[.int .i64 0, .slice none 0 0] 50 (0, 0))) := ⟨hq_ ▸ blk_drewN BKr.out _⟩; have n3_ : Aside0 (Kd.R k73 73 wr w0.heap.size (fun _ => True) u acc) := ⟨hq_ ▸ Kd.R_drewN HO_.out _⟩; have n4_ : Aside0 (Below w0.heap.size w0 wr) := ⟨hq_ ▸ pw_below_drewN HB_.out _⟩; clear BKf BKm BKw BKr HO_ HB_ hq_ hczf_0 hczf_1 hczm_0 hczw_0 HCx; have BKf := n0_; have BKm := n1_; have BKw := n2_; have BKr := n5_; have HO_ := n3_; have HB_ := n4_; clear n0_ n1_ n2_ n3_ n4_ n5_; have hczf_0 : wr.cell? ⟨gf, 0, none⟩ = some (.int .i64 (l0.length : Int)) := (blk_cell BKf.out 0).trans rfl; have hczf_1 : wr.cell? ⟨gf, 1, none⟩ = some u := (blk_cell BKf.out 1).trans rfl; have hczw_0 : wr.cell? ⟨gw, 0, none⟩ = some (.func (.func 104) #[] #[.pointer (some ⟨gf, 0, none⟩), .pointer (some ⟨gm, 0, none⟩), .pointer (some ⟨gw, 0, none⟩)]) := (blk_cell BKw.out 0).trans rfl; have hfzf_1 := blk_frozen BKf.out 1)) | (go_at_call 104; (have hS_ : impl_framesOf.St l0 A0 c0 w0 gf gm gw gr wr u acc := ⟨BKf.out, BKm.out, BKw.out, BKr.out, HO_.out, HB_.out⟩; (with_reducible refine (ih m (Nat.lt_succ_self m) a (wrap64 (oi - 1)) ai _ u acc hoi1.out ha.out (by omega) (by omega) hal hS_).mono ?_); clear hS_; rintro e w1 ⟨rfl, u1, B1, B2, B3, B5, O1, S1⟩; have n5_ := Aside0.mk B5; have n0_ := Aside0.mk B1; have n1_ := Aside0.mk B2; have n2_ := Aside0.mk B3; have n3_ := Aside0.mk O1; have n4_ := Aside0.mk S1; clear B1 B2 B3 B5 O1 S1 BKf BKm BKw BKr HO_ HB_ hczf_0 hczf_1 hczw_0; have BKf := n0_; have BKm := n1_; have BKw := n2_; have BKr := n5_; have HO_ := n3_; have HB_ := n4_; clear n0_ n1_ n2_ n3_ n4_ n5_; have hczw_0 : w1.cell? ⟨gw, 0, none⟩ = some (.func (.func 104) #[] #[.pointer (some ⟨gf, 0, none⟩), .pointer (some ⟨gm, 0, none⟩), .pointer (some ⟨gw, 0, none⟩)]) := (blk_cell BKw.out 0).trans rfl)) | (go_at_call 104; (have hS_ : impl_framesOf.St l0 A0 c0 w0 gf gm gw gr w1 u1 (acc ++ impl_framesOf.walk l0 m a) := ⟨BKf.out, BKm.out, BKw.out, BKr.out, HO_.out, HB_.out⟩; (with_reducible refine (ih m (Nat.lt_succ_self m) (a + 2 ^ m) (wrap64 (oi - 1)) (wrap64 (ai + wrap64 (Int.tdiv ji16 2))) _ u1 (acc ++ impl_framesOf.walk l0 m a) hoi1.out hai2.out (by omega) (by omega) hal2 hS_).mono ?_); clear hS_; rintro e w2 ⟨rfl, u2, B1, B2, B3, B5, O1, S1⟩)))
            first | go_end0 | ((try simp only [Exit.inBlock, Exit.then]); refine bodyPost_ret (results_none rfl _ _ _) rfl ?_)
            rw [c4w, ← List.append_assoc]
            exact ⟨rfl, u2, B1, B2, B3, B5, O1, S1⟩
      · have c2b0 : decide (wrap64 (ai + ji16) ≤ (l0.length : Int)) = false := decide_eq_false (by have h1_ := ho.out; have h2_ := ha.out; rw [hwn.out]; omega)
        have c3 : ¬ impl_framesOf.whole l0 a (2 ^ o) := fun h => c2 h.1
        by_cases c4 : o = 0
        · have c4b0 : (oi == 0) = true := beq_iff_eq.mpr (by rw [ho.out, c4]; rfl)
          have c4w : impl_framesOf.walk l0 o a = [] := by subst c4; unfold impl_framesOf.walk; rw [if_neg c1, if_neg c3]
          go_enter Try.func104, Try.ntmps104
          go_wp2_with (first | fail)
          first | go_end0 | ((try simp only [Exit.inBlock, Exit.then]); refine bodyPost_ret (results_none rfl _ _ _) rfl ?_)
          exact ⟨rfl, u, by rw [c4w, List.append_nil]; exact ⟨BKf.out, BKm.out, BKw.out, BKr.out, HO_.out, HB_.out⟩⟩
        · obtain ⟨m, rfl⟩ := Nat.exists_eq_succ_of_ne_zero c4
          have c4b0 : (oi == 0) = false := beq_eq_false_iff_ne.mpr (by have h1_ := ho.out; omega)
          have c4w : impl_framesOf.walk l0 (m + 1) a = impl_framesOf.walk l0 m a ++ impl_framesOf.walk l0 m (a + 2 ^ m) := by rw [impl_framesOf.walk, if_neg c1, if_neg c3]
          have hpm : 2 ^ (m + 1) = 2 ^ m * 2 := Nat.pow_succ 2 m
          have hoi1 : Aside0 (wrap64 (oi - 1) = (m : Int)) := ⟨by rw [ho.out]; unfold wrap64; omega⟩
          have hai2 : Aside0 (wrap64 (ai + wrap64 (Int.tdiv ji16 2)) = ((a + 2 ^ m : Nat) : Int)) := ⟨by
            rw [hjn.out, ha.out, show ((2 ^ (m + 1) : Nat) : Int).tdiv 2 = ((2 ^ m : Nat) : Int) by rw [Int.tdiv_eq_ediv_of_nonneg (by omega)]; omega, show wrap64 ((2 ^ m : Nat) : Int) = ((2 ^ m : Nat) : Int) by unfold wrap64; omega]
            unfold wrap64; omega⟩
          have hal2 : (acc ++ impl_framesOf.walk l0 m a).length ≤ a + 2 ^ m := by have := impl_framesOf.walk_len l0 m a; rw [List.length_append]; omega
          go_enter Try.func104, Try.ntmps104
          go_wp2_with (first | (go_at_call 104; (have hS_ : impl_framesOf.St l0 A0 c0 w0 gf gm gw gr W u acc := ⟨BKf.out, BKm.out, BKw.out, BKr.out, HO_.out, HB_.out⟩; (with_reducible refine (ih m (Nat.lt_succ_self m) a (wrap64 (oi - 1)) ai _ u acc hoi1.out ha.out (by omega) (by omega) hal hS_).mono ?_); clear hS_; rintro e w1 ⟨rfl, u1, B1, B2, B3, B5, O1, S1⟩; have n5_ := Aside0.mk B5; have n0_ := Aside0.mk B1; have n1_ := Aside0.mk B2; have n2_ := Aside0.mk B3; have n3_ := Aside0.mk O1; have n4_ := Aside0.mk S1; clear B1 B2 B3 B5 O1 S1 BKf BKm BKw BKr HO_ HB_ hczf_0 hczf_1 hczw_0; have BKf := n0_; have BKm := n1_; have BKw := n2_; have BKr := n5_; have HO_ := n3_; have HB_ := n4_; clear n0_ n1_ n2_ n3_ n4_ n5_; have hczw_0 : w1.cell? ⟨gw, 0, none⟩ = some (.func (.func 104) #[] #[.pointer (some ⟨gf, 0, none⟩), .pointer (some ⟨gm, 0, none⟩), .pointer (some ⟨gw, 0, none⟩)]) := (blk_cell BKw.out 0).trans rfl)) | (go_at_call 104; (have hS_ : impl_framesOf.St l0 A0 c0 w0 gf gm gw gr w1 u1 (acc ++ impl_framesOf.walk l0 m a) := ⟨BKf.out, BKm.out, BKw.out, BKr.out, HO_.out, HB_.out⟩; (with_reducible refine (ih m (Nat.lt_succ_self m) (a + 2 ^ m) (wrap64 (oi - 1)) (wrap64 (ai + wrap64 (Int.tdiv ji16 2))) _ u1 (acc ++ impl_framesOf.walk l0 m a) hoi1.out hai2.out (by omega) (by omega) hal2 hS_).mono ?_); clear hS_; rintro e w2 ⟨rfl, u2, B1, B2, B3, B5, O1, S1⟩)))
          first | go_end0 | ((try simp only [Exit.inBlock, Exit.then]); refine bodyPost_ret (results_none rfl _ _ _) rfl ?_)
          rw [c4w, ← List.append_assoc]
          exact ⟨rfl, u2, B1, B2, B3, B5, O1, S1⟩
theorem impl_framesOf.run_store_func {P : Program} {w : World} {a : Addr} {m : Mode} (f : Fn) (x y : Array Value) : (store a (.func f x y) m).run P w = stored P w a (.func f x y) m := run_store P w a _ m rfl
attribute [local go_sem] impl_framesOf.run_store_func
set_option maxHeartbeats 4000000 in
set_option maxRecDepth 100000 in
theorem impl_framesOf.calls (A0 : Option Addr) (c0 : Nat) (l0 : List Bool) (r1 : Int) (r2 : List (S73)) (w : World) (hr0 : Kd.C Kd.bool w A0 l0.length l0) (hc0 : l0.length ≤ c0) (h : impl_framesOf.f l0 = some (r1, r2)) :
    Calls Try.prog 77 #[.slice A0 l0.length c0] w fun e w' => ∃ v1_ : Value, e = .returned (.agg #[.int .i64 r1, v1_]) ∧ Kd.R k73 73 w' w.heap.size (fun _ => True) v1_ r2 ∧ Below w.heap.size w w' := by
  have hu50 := Try.underlying50
  unfold impl_framesOf.f at h
  by_cases hl : l0.length ≤ 1024
  · rw [if_pos hl] at h
    simp only [Option.some.injEq, Prod.mk.injEq] at h
    obtain ⟨rfl, rfl⟩ := h
    have HB := Aside0.mk (Below.refl w.heap.size w)
    go_enter Try.func77, Try.ntmps77
    go_wp2_with (first | ((with_reducible refine gate_dst (N := 1) rfl ?_); refine box_event ?hg (N := 1) ?hd (cs := #[.slice A0 l0.length c0]) (t := 105) ?hr ?_; (case hd => rfl); (case hg => rfl); (case hr => first | (go_simp; done) | (go_simp; rfl)); intro gm hg w1 hbox hb; have n0_ := Aside0.mk (below_step HB.out hb); have BKm := Aside0.mk hbox; have GEm : Aside0 (w.heap.size ≤ gm) := ⟨by rw [hg]; exact below_size HB.out⟩; clear HB; have HB := n0_; clear n0_ hbox hb hg) | ((with_reducible refine gate_dst (N := 2) rfl ?_); refine box_event ?hg (N := 2) ?hd (cs := #[.int .i64 0, .slice none 0 0]) (t := 50) ?hr ?_; (case hd => rfl); (case hg => rfl); (case hr => first | (go_simp; done) | (go_simp; rfl)); intro gr hg w2 hbox hb; have n0_ := Aside0.mk (below_step HB.out hb); have n1_ := Aside0.mk (blk_below BKm.out hb); have BKr := Aside0.mk hbox; have GEr : Aside0 (w.heap.size ≤ gr) := ⟨by rw [hg]; exact below_size HB.out⟩; clear HB BKm; have HB := n0_; have BKm := n1_; clear n0_ n1_ hbox hb hg; have hczm_0 : w2.cell? ⟨gm, 0, none⟩ = some (.slice A0 l0.length c0) := (blk_cell BKm.out 0).trans rfl) | ((with_reducible refine gate_dst (N := 3) rfl ?_); refine box_event ?hg (N := 3) ?hd (cs := #[.int .i64 0, .slice none 0 0]) (t := 50) ?hr ?_; (case hd => rfl); (case hg => rfl); (case hr => first | (go_simp; done) | (go_simp; rfl)); intro gf hg w3 hbox hb; have n0_ := Aside0.mk (below_step HB.out hb); have n1_ := Aside0.mk (blk_below BKm.out hb); have n2_ := Aside0.mk (blk_below BKr.out hb); have BKf := Aside0.mk hbox; have NEr : Aside0 (gr ≠ gf) := ⟨by rw [hg]; exact Nat.ne_of_lt (blk_lt BKr.out)⟩; have GEf : Aside0 (w.heap.size ≤ gf) := ⟨by rw [hg]; exact below_size HB.out⟩; clear HB BKm BKr hczm_0; have HB := n0_; have BKm := n1_; have BKr := n2_; clear n0_ n1_ n2_ hbox hb hg; have hczf_0 : w3.cell? ⟨gf, 0, none⟩ = some (.int .i64 0) := (blk_cell BKf.out 0).trans rfl; have hczf_1 : w3.cell? ⟨gf, 1, none⟩ = some (.slice none 0 0) := (blk_cell BKf.out 1).trans rfl; have hfzf_0 := blk_frozen BKf.out 0; have hfzf_1 := blk_frozen BKf.out 1) | ((with_reducible refine gate_dst (N := 4) rfl ?_); refine box_event ?hg (N := 4) ?hd (cs := #[.nilFunc]) (t := 131) ?hr ?_; (case hd => rfl); (case hg => rfl); (case hr => first | (go_simp; done) | (go_simp; rfl)); intro gw hg w4 hbox hb; have n1_ := Aside0.mk (blk_below (blk_far (blk_far BKm.out (blk_ne BKm.out BKf.out (by decide)) _) (blk_ne BKm.out BKf.out (by decide)) _) hb); have n2_ := Aside0.mk (blk_below (blk_far (blk_far BKr.out NEr.out _) NEr.out _) hb); have n3_ := Aside0.mk (blk_below (blk_put (cs := #[.int .i64 (l0.length : Int), .slice none 0 0]) (blk_put (cs := #[.int .i64 0, .slice none 0 0]) BKf.out 0 _ rfl) 1 _ rfl) hb); have n4_ : Aside0 (w.heap.size ≤ gw) := ⟨by rw [hg]; exact below_size (below_set (below_set HB.out GEf.out) GEf.out)⟩; have n0_ := Aside0.mk (below_step (below_set (below_set HB.out GEf.out) GEf.out) hb); have n5_ := Aside0.mk hbox; clear HB BKm BKr BKf hczf_0 hczf_1 hfzf_0 hfzf_1; have HB := n0_; have BKm := n1_; have BKr := n2_; have BKf := n3_; have GEw := n4_; have BKw := n5_; clear n0_ n1_ n2_ n3_ n4_ n5_ hbox hb hg; have hczw_0 : w4.cell? ⟨gw, 0, none⟩ = some .nilFunc := (blk_cell BKw.out 0).trans rfl; have hfzw_0 := blk_frozen BKw.out 0) | (go_at_call 104; (have hS_ : impl_framesOf.St l0 A0 c0 w gf gm gw gr (w4.setCell ⟨gw, 0, none⟩ (impl_framesOf.fv gf gm gw)) (.slice none 0 0) [] := ⟨blk_far BKf.out (blk_ne BKf.out BKw.out (by decide)) _, blk_far BKm.out (blk_ne BKm.out BKw.out (by decide)) _, blk_put (cs := #[.nilFunc]) BKw.out 0 _ rfl, blk_far BKr.out (blk_ne BKr.out BKw.out (by decide)) _, Kd.R_nil _ _ _ _ _, below_set HB.out GEw.out⟩; refine (impl_framesOf.clo l0 A0 c0 hl w hr0 hc0 gf gm gw gr NEr.out GEf.out GEm.out GEw.out 10 0 10 0 _ _ [] rfl rfl (by decide) (by decide) (Nat.zero_le _) hS_).mono ?_; clear hS_; rintro e w5 ⟨rfl, u1, B1, B2, B3, B5, O1, S1⟩; rw [List.nil_append] at O1; have n0_ := Aside0.mk B1; have n3_ := Aside0.mk O1; have n4_ := Aside0.mk S1; have n5_ := Aside0.mk B5; clear B1 B2 B3 B5 O1 S1 BKf BKm BKw BKr HB hczw_0 hfzw_0; have BKf := n0_; have BKr := n5_; have HO := n3_; have HB := n4_; clear n0_ n3_ n4_ n5_; obtain ⟨Ao1, co1, eo1⟩ := Kd.R_slice HO.out; subst eo1; have hczf_0 : w5.cell? ⟨gf, 0, none⟩ = some (.int .i64 (l0.length : Int)) := (blk_cell BKf.out 0).trans rfl; have hczf_1 : w5.cell? ⟨gf, 1, none⟩ = some (.slice Ao1 (impl_framesOf.walk l0 10 0).length co1) := (blk_cell BKf.out 1).trans rfl; have hczr_0 : w5.cell? ⟨gr, 0, none⟩ = some (.int .i64 0) := (blk_cell BKr.out 0).trans rfl; have hczr_1 : w5.cell? ⟨gr, 1, none⟩ = some (.slice none 0 0) := (blk_cell BKr.out 1).trans rfl; have hfzr_0 := blk_frozen BKr.out 0; have hfzr_1 := blk_frozen BKr.out 1)))
    refine bodyPost_ret (results_cell_row rfl _ _ gr 50 #[.int .i64 (l0.length : Int), .slice Ao1 (impl_framesOf.walk l0 10 0).length co1] (0, 0) _ rfl (blk_put (cs := #[.int .i64 (l0.length : Int), .slice none 0 0]) (blk_put (cs := #[.int .i64 0, .slice none 0 0]) BKr.out 0 _ rfl) 1 _ rfl) Try.underlying50 rfl (by kernel_rfl)) rfl ?_
    exact ⟨_, rfl, Kd.R_mono (Kd.R_far (p := ⟨gr, 1, none⟩) (Kd.R_far (p := ⟨gr, 0, none⟩) (Kd.R_types HO.out BKr.out (by decide)) (fun _ hk => hk.2) _) (fun _ hk => hk.2) _) (fun _ hk => trivial), below_set (below_set HB.out GEr.out) GEr.out⟩
  · rw [if_neg hl] at h; exact absurd h (by simp)

/-! ### impl_NewFrames: function 37 -/
mutual
def impl_NewFrames.j0 : Nat → Int → Bool → Option (Int × (List (S73)))
  | 0, _, _ => none
  | k + 1, x0, x10 => if x10 = true then (some (0, ([] : List (S73)))) else (if 0 ≤ x0 then (if (x0 : Int).toNat ≤ 281474976710656 then ((some (List.replicate (x0 : Int).toNat false : List Bool)).bind fun y143 => (impl_NewFrames.l0 k y143 (y143.length : Int) 0)) else (none)) else (none))
def impl_NewFrames.l0 : Nat → List Bool → Int → Int → Option (Int × (List (S73)))
  | 0, _, _, _ => none
  | k + 1, x3, x15, x16 => if x16 < x15 then (if 0 ≤ x16 then (if x16 < (x3.length : Int) then (impl_NewFrames.l0 k (x3.set (x16 : Int).toNat true) x15 (wrap64 (x16 + 1))) else (none)) else (none)) else ((impl_framesOf.f x3).bind fun bt147 => (some (bt147.1, bt147.2)))
end
def impl_NewFrames.f (k : Nat) (a0 : Int) : Option (Int × (List (S73))) := if a0 < 0 then (impl_NewFrames.j0 k a0 true) else (impl_NewFrames.j0 k a0 (decide (a0 > 1024)))
theorem impl_NewFrames.mono_l : ∀ k, (∀ y0 y1, LeO (impl_NewFrames.j0 k y0 y1) (impl_NewFrames.j0 (k + 1) y0 y1)) ∧ (∀ y0 y1 y2, LeO (impl_NewFrames.l0 k y0 y1 y2) (impl_NewFrames.l0 (k + 1) y0 y1 y2))
  | 0 => ⟨fun _ _ r h => by simp [impl_NewFrames.j0] at h, fun _ _ _ r h => by simp [impl_NewFrames.l0] at h⟩
  | k + 1 => by
    obtain ⟨ih0, ih1⟩ := impl_NewFrames.mono_l k
    refine ⟨?_, ?_⟩
    · intro y0 y1
      unfold impl_NewFrames.j0
      repeat' first
      | (with_reducible exact ih0 _ _)
      | (with_reducible exact ih1 _ _ _)
      | (with_reducible exact LeO.refl _)
      | (with_reducible exact LeO.none _)
      | (with_reducible refine LeO.ite ?_ ?_)
      | (with_reducible refine LeO.bind ?_ (fun _ => ?_))
      | exact ih0 _ _
      | exact ih1 _ _ _
      | exact LeO.none _
      | refine LeO.ite ?_ ?_
      | refine LeO.bind ?_ (fun _ => ?_)
    · intro y0 y1 y2
      unfold impl_NewFrames.l0
      repeat' first
      | (with_reducible exact ih0 _ _)
      | (with_reducible exact ih1 _ _ _)
      | (with_reducible exact LeO.refl _)
      | (with_reducible exact LeO.none _)
      | (with_reducible refine LeO.ite ?_ ?_)
      | (with_reducible refine LeO.bind ?_ (fun _ => ?_))
      | exact ih0 _ _
      | exact ih1 _ _ _
      | exact LeO.none _
      | refine LeO.ite ?_ ?_
      | refine LeO.bind ?_ (fun _ => ?_)
theorem impl_NewFrames.mono : ∀ a0 k, LeO (impl_NewFrames.f k a0) (impl_NewFrames.f (k + 1) a0) := by
  intro a0 k
  obtain ⟨ih0, ih1⟩ := impl_NewFrames.mono_l k
  unfold impl_NewFrames.f
  repeat' first
      | (with_reducible exact ih0 _ _)
      | (with_reducible exact ih1 _ _ _)
      | (with_reducible exact LeO.refl _)
      | (with_reducible exact LeO.none _)
      | (with_reducible refine LeO.ite ?_ ?_)
      | (with_reducible refine LeO.bind ?_ (fun _ => ?_))
      | exact ih0 _ _
      | exact ih1 _ _ _
      | exact LeO.none _
      | refine LeO.ite ?_ ?_
      | refine LeO.bind ?_ (fun _ => ?_)
set_option maxHeartbeats 8000000 in
set_option maxRecDepth 100000 in
theorem impl_NewFrames.calls (k : Nat) (a0 : Int) (r1 : Int) (r2 : List (S73)) (w : World) (h : impl_NewFrames.f k a0 = some (r1, r2)) :
    Calls Try.prog 37 #[.int .i64 a0] w fun e w' => ∃ v1_ : Value, e = .returned (.agg #[.int .i64 r1, v1_]) ∧ Kd.R k73 73 w' w.heap.size (fun _ => True) v1_ r2 ∧ Below w.heap.size w w' := by
  have hu50 := Try.underlying50
  have HB := Aside0.mk (Below.refl w.heap.size w)
  have H : (if a0 < 0 then (impl_NewFrames.j0 k a0 true) else (impl_NewFrames.j0 k a0 (decide (a0 > 1024)))) = some (r1, r2) := h
  clear h
  have HC2 := Aside0.mk H
  clear H
  go_enter Try.func37, Try.ntmps37
  go_upto_region 1 with (first | ((with_reducible refine gate_dst (N := 2) rfl ?_); refine box_event ?hg (N := 2) ?hd (cs := #[.int .i64 0, .slice none 0 0]) (t := 50) ?hr ?_; (case hd => rfl); (case hg => rfl); (case hr => first | (go_simp; done) | (go_simp; rfl)); intro gb142 hg w3 hbox hb; have n0_ := Aside0.mk (below_step (by repeat (first | (with_reducible first | exact HB.out | apply below_alloc | apply pw_below_drewN | apply below_drew1) | exact HB.out)) hb); have n1_ := Aside0.mk (hbox); have n2_ := Aside0.mk ((by rw [hg]; exact (below_size (by repeat (first | (with_reducible first | exact HB.out | apply below_alloc | apply pw_below_drewN | apply below_drew1) | exact HB.out))) : w.heap.size ≤ gb142)); have n3_ := Aside0.mk ((by rw [hg]; exact (below_size (by repeat (first | (with_reducible first | exact HB.out | apply below_alloc | apply pw_below_drewN | apply below_drew1) | exact HB.out))) : w.heap.size ≤ gb142)); clear HB; have HB := n0_; have BK142 := n1_; have GW142 := n2_; have GE142 := n3_; clear n0_ n1_ n2_ n3_; clear hb hbox hg))
  (try simp only [Act.put, List.setIfInBounds_toArray, List.set_cons_zero, List.set_cons_succ])
  go_cut [10] (fun v10 wc => ∃ (kq : Nat) (x10_1 : Bool), v10 = .bool x10_1 ∧ Aside0 (impl_NewFrames.j0 kq a0 x10_1 = some (r1, r2)) ∧ Aside0 (kq ≤ k) ∧ Aside0 (wc.heap[gb142]? = some (.cells #[.int .i64 0, (.slice none 0 0)] 50 (0, 0))) ∧ Aside0 (Below w.heap.size w wc))
  case first =>
    have H := HC2.out
    clear HC2
    by_cases c4 : a0 < 0
    · rw [if_pos c4] at H
      have c4b0 : decide (a0 < 0) = true := decide_eq_true c4
      clear c4
      (first | rw [c4b0] | (simp only [i64_w, i32_w]; rw [c4b0]) | skip)
      have H' := Aside0.mk H
      clear H
      go_wp2
      go_meet
      case rel => exact ⟨_, (true), (by first | rfl | exact congrArg (Value.int .i64) (i64_w _) | (simp; done) | (simp [*]; done)), H', ⟨by first | omega | exact Nat.le_refl _⟩, ⟨by (with_reducible repeat (first | refine blk_drewN ?_ _ | refine blk_drew ?_ | refine blk_alloc ?_ _)); exact BK142.out⟩, ⟨by repeat (first | (with_reducible first | exact HB.out | apply below_alloc | apply pw_below_drewN | apply below_drew1 | refine below_set ?_ GE142.out) | exact HB.out)⟩⟩
    · rw [if_neg c4] at H
      have c4b0 : decide (a0 < 0) = false := decide_eq_false c4
      clear c4
      (first | rw [c4b0] | (simp only [i64_w, i32_w]; rw [c4b0]) | skip)
      have H' := Aside0.mk H
      clear H
      go_wp2
      go_meet
      case rel => exact ⟨_, (decide (a0 > 1024)), (by first | rfl | exact congrArg (Value.int .i64) (i64_w _) | (simp; done) | (simp [*]; done)), H', ⟨by first | omega | exact Nat.le_refl _⟩, ⟨by (with_reducible repeat (first | refine blk_drewN ?_ _ | refine blk_drew ?_ | refine blk_alloc ?_ _)); exact BK142.out⟩, ⟨by repeat (first | (with_reducible first | exact HB.out | apply below_alloc | apply pw_below_drewN | apply below_drew1 | refine below_set ?_ GE142.out) | exact HB.out)⟩⟩
  case rest =>
    clear HC2
    try clear p2
    try clear c3
    try clear c4
    try clear c4b0
    obtain ⟨kq, x10_1, rfl, HA, HJ1, BK142, HB⟩ := hcut
    cases kq with
    | zero => exact absurd HA.out (by simp [impl_NewFrames.j0])
    | succ kj1 =>
      have H := HA.out
      clear HA
      simp only [impl_NewFrames.j0] at H
      by_cases c5 : x10_1 = true
      · subst c5
        have H1 : (some (0, ([] : List (S73)))) = some (r1, r2) := by rw [if_pos rfl] at H; exact H
        clear H
        have H := H1
        clear H1
        simp only [Option.some.injEq, Prod.mk.injEq] at H
        obtain ⟨rfl, rfl⟩ := H
        have hcz6_0 : wc.cell? ⟨gb142, 0, none⟩ = some (.int .i64 0) := (blk_cell BK142.out 0).trans rfl
        have hcz6_1 : wc.cell? ⟨gb142, 1, none⟩ = some (.slice none 0 0) := (blk_cell BK142.out 1).trans rfl
        have hfz6_0 := blk_frozen BK142.out 0
        have hfz6_1 := blk_frozen BK142.out 1
        go_wp2
        refine bodyPost_ret (results_cell_row rfl _ _ gb142 50 #[.int .i64 0, .slice none 0 0] (0, 0) _ rfl (by (with_reducible repeat (first | refine blk_drewN ?_ _ | refine blk_drew ?_ | refine blk_alloc ?_ _)); refine blk_put (cs := #[.int .i64 0, .slice none 0 0]) ?_ 1 _ rfl; (with_reducible repeat (first | refine blk_drewN ?_ _ | refine blk_drew ?_ | refine blk_alloc ?_ _)); refine blk_put (cs := #[.int .i64 0, .slice none 0 0]) ?_ 0 _ rfl; (with_reducible repeat (first | refine blk_drewN ?_ _ | refine blk_drew ?_ | refine blk_alloc ?_ _)); exact BK142.out) Try.underlying50 rfl (by kernel_rfl)) rfl ?_
        exact ⟨_, by first | rfl | (simp [errW_none, errW_some] <;> rfl) | (simp [*, errW_none, errW_some] <;> rfl), by first | exact Kd.R_nil _ _ _ _ _ | exact Kd.N_nil _ _ _ _ _ | exact Kd.V_nil _ _ _ _ _ | exact Kd.Q_nil _ _ _ _ _ | exact Kd.S_nil _ _ _ _ _, by repeat (first | (with_reducible first | exact HB.out | apply below_alloc | apply pw_below_drewN | apply below_drew1 | refine below_set ?_ GE142.out) | exact HB.out)⟩
      · replace c5 := Bool.eq_false_iff.mpr c5
        subst c5
        have H1 : (if 0 ≤ a0 then (if (a0 : Int).toNat ≤ 281474976710656 then ((some (List.replicate (a0 : Int).toNat false : List Bool)).bind fun y143 => (impl_NewFrames.l0 kj1 y143 (y143.length : Int) 0)) else (none)) else (none)) = some (r1, r2) := by rw [if_neg (show ¬ (false = true) by decide)] at H; exact H
        clear H
        have H := H1
        clear H1
        by_cases c7 : 0 ≤ a0
        · rw [if_pos c7] at H
          have c7b0 := eq_true c7
          have c7b1 : decide (0 ≤ a0) = true := decide_eq_true c7
          clear c7
          by_cases c8 : (a0 : Int).toNat ≤ 281474976710656
          · rw [if_pos c8] at H
            have c8b0 := eq_true c8
            have c8b1 : decide ((a0 : Int).toNat ≤ 281474976710656) = true := decide_eq_true c8
            clear c8
            obtain ⟨y143, hy143⟩ : ∃ y_ : List Bool, y_ = (List.replicate (a0 : Int).toNat false) := ⟨_, rfl⟩
            replace H : (impl_NewFrames.l0 kj1 y143 (y143.length : Int) 0) = some (r1, r2) := by first | (rw [hy143]; with_reducible exact H) | (have H2_ := (Option.bind_some _ _).symm.trans H; rw [hy143]; with_reducible exact H2_) | (have H2_ := (Option.bind_some _ _).symm.trans H; with_reducible exact H2_) | with_reducible exact H | (rw [hy143]; exact H) | exact H
            have Ny143 := Aside0.mk hy143
            clear hy143
            have H' := Aside0.mk H
            clear H
            go_wp2_with (first | ((with_reducible refine gate_dst (N := 13) rfl ?_); refine Kd.R_make Kd.bool _ 4 rfl (N := 13) rfl 105 _ _ rfl a0 rfl rfl Try.underlying105 (.bool false) 1 info4 rfl (by decide) (by omega) false (ok := fun _ => True) (okp := fun _ => True) rfl (fun _ hk => hk) trivial (of_decide_eq_true (by first | (with_reducible assumption) | assumption)) (Nat.le_trans (Nat.mul_le_mul_right _ (of_decide_eq_true (by first | (with_reducible assumption) | assumption) : a0.toNat ≤ 281474976710656)) (by omega)) (Below.refl _ _) (Nat.le_refl _) ?_; intro v144 w9 ho10 hb hg_ hnew_; clear hg_ hnew_; (first | rw [← Ny143.out] at ho10 | (simp only [Int.reduceToNat] at ho10; rw [← Ny143.out] at ho10)); have n0_ := Aside0.mk (Kd.R_lower ho10 (below_size (by repeat (first | (with_reducible first | exact HB.out | apply below_alloc | apply pw_below_drewN | apply below_drew1 | refine below_set ?_ GE142.out) | exact HB.out)))); have n1_ := Aside0.mk (blk_below (g := gb142) (o := .cells #[.int .i64 0, .slice none 0 0] 50 (0, 0)) (by (with_reducible repeat (first | refine blk_drewN ?_ _ | refine blk_drew ?_ | refine blk_alloc ?_ _)); exact BK142.out) hb); have n2_ := Aside0.mk (below_step (by repeat (first | (with_reducible first | exact HB.out | apply below_alloc | apply pw_below_drewN | apply below_drew1 | refine below_set ?_ GE142.out) | exact HB.out)) hb); clear BK142; clear HB; have HO145 := n0_; have BK142 := n1_; have HB := n2_; clear n0_ n1_ n2_; clear hb ho10; obtain ⟨Ao11, co11, eo11⟩ := Kd.R_slice HO145.out; subst eo11))
            go_loopg [16] kj1 (fun kq v16 w' => ∃ (x3_2 : List Bool) (x16_2 : Int), v16 = .int .i64 x16_2 ∧ Aside0 (impl_NewFrames.l0 kq x3_2 (y143.length : Int) x16_2 = some (r1, r2)) ∧ Aside0 (kq ≤ kj1) ∧ Aside0 (Kd.R Kd.bool 4 w' w.heap.size (fun _ => True) (.slice Ao11 y143.length co11) x3_2) ∧ Aside0 (w'.heap[gb142]? = some (.cells #[.int .i64 0, (.slice none 0 0)] 50 (0, 0))) ∧ Aside0 (Below w.heap.size w w'))
            case atStart => exact ⟨(y143), (0), (by first | rfl | exact congrArg (Value.int .i64) (i64_w _) | (simp; done) | (simp [*]; done)), H', ⟨Nat.le_refl _⟩, ⟨by (with_reducible repeat (first | apply Kd.R_alloc | apply Kd.R_drewN | apply Kd.R_drew)); exact HO145.out⟩, ⟨by (with_reducible repeat (first | refine blk_drewN ?_ _ | refine blk_drew ?_ | refine blk_alloc ?_ _)); exact BK142.out⟩, ⟨by repeat (first | (with_reducible first | exact HB.out | apply below_alloc | apply pw_below_drewN | apply below_drew1 | refine below_set ?_ GE142.out) | exact HB.out)⟩⟩
            case round =>
              clear H'
              try clear p2
              try clear c3
              try clear c4
              try clear c4b0
              try clear c5
              try clear c7
              try clear c7b0
              try clear c7b1
              try clear c8
              try clear c8b0
              try clear c8b1
              try clear hcz6_0
              try clear hcz6_1
              try clear hfz6_0
              try clear hfz6_1
              try clear p2
              obtain ⟨x3_2, x16_2, rfl, HA, HK2, HO_3, BK142, HB⟩ := hrel
              have hl3_2 := (Kd.R_reads' HO_3.out).1
              rw [hl3_2] at HO_3
              (try simp only [hl3_2])
              (try simp only [hl3_2] at BK142)
              cases gk with
              | zero => exact absurd HA.out (by simp [impl_NewFrames.l0])
              | succ k2 =>
                have H := HA.out
                clear HA
                simp only [impl_NewFrames.l0] at H
                by_cases c12 : x16_2 < (y143.length : Int)
                · rw [if_pos c12] at H
                  have c12b0 : decide (x16_2 < (y143.length : Int)) = true := decide_eq_true c12
                  clear c12
                  by_cases c13 : 0 ≤ x16_2
                  · rw [if_pos c13] at H
                    have c13b0 : decide (0 ≤ x16_2) = true := decide_eq_true c13
                    clear c13
                    by_cases c14 : x16_2 < (x3_2.length : Int)
                    · rw [if_pos c14] at H
                      have c14b0 : decide (x16_2 < (x3_2.length : Int)) = true := decide_eq_true c14
                      clear c14
                      obtain ⟨y146, hy146⟩ : ∃ y_ : List Bool, y_ = (x3_2.set (x16_2 : Int).toNat true) := ⟨_, rfl⟩
                      replace H : (impl_NewFrames.l0 k2 y146 (y143.length : Int) (wrap64 (x16_2 + 1))) = some (r1, r2) := by first | (rw [hy146]; with_reducible exact H) | (have H2_ := (Option.bind_some _ _).symm.trans H; rw [hy146]; with_reducible exact H2_) | (have H2_ := (Option.bind_some _ _).symm.trans H; with_reducible exact H2_) | with_reducible exact H | (rw [hy146]; exact H) | exact H
                      have Ny146 := Aside0.mk hy146
                      clear hy146
                      have H' := Aside0.mk H
                      clear H
                      have p15 : 0 ≤ (x16_2 : Int) := of_decide_eq_true (by first | (with_reducible assumption) | assumption)
                      have q15 : (x16_2 : Int) < ((x3_2.length : Int) : Int) := of_decide_eq_true (by first | (with_reducible assumption) | assumption)
                      obtain ⟨go15, co15, eo15, gb15, gl15, cl15, HG15⟩ := Kd.R_form HO_3.out (by omega)
                      (first | cases eo15 | (injection eo15 with ea_ en_ ec_; (first | subst ea_ | (injection ea_ with ea_; subst ea_)); subst ec_; clear en_))
                      have GB15 := Aside0.mk gb15
                      have GG15 := Aside0.mk HG15
                      clear gb15 gl15 HG15
                      obtain ⟨hx15_0, hf15_0⟩ := Kd.R_celln false HO_3.out (x16_2 : Int) p15 q15
                      replace p15 := eq_true p15
                      replace q15 := eq_true q15
                      have HP16 := Kd.R_putg HO_3.out (x16_2 : Int) true
                      go_wp2_with (first | ((with_reducible refine gate_store (t := 4) (p := 21) rfl ?_); refine store_event (t := 4) (p := 21) (v := ?vo_w17) (w1 := (wr.setCell ⟨go15, (x16_2 : Int).toNat, none⟩ (.bool true))) ?hg ?ho ?hn ?hr ?_; (case ho => rfl); (case hg => rfl); (case hn => rfl); (case hr => first | (go_simp; done) | (go_simp; rfl)); intro w17 hw; have hg : wr.grownBy w17 (some go15) := (by rw [hw]; exact HP16.2); have hp_ : Kd.R Kd.bool 4 w17 w.heap.size (fun _ => True) (.slice (some ⟨go15, 0, none⟩) x3_2.length co11) y146 := (by rw [hw, Ny146.out]; exact HP16.1); clear HP16; have n0_ := Aside0.mk (hp_); have n1_ := Aside0.mk (blk_grown (g := gb142) (o := .cells #[.int .i64 0, .slice none 0 0] 50 (0, 0)) (by (with_reducible repeat (first | refine blk_drewN ?_ _ | refine blk_drew ?_ | refine blk_alloc ?_ _)); exact BK142.out) hg (Kd.R_ne HO_3.out BK142.out (by decide))); have n2_ := Aside0.mk ((by rw [hw]; exact below_set (HB.out) GB15.out : Below w.heap.size w w17)); clear HO_3; clear BK142; clear HB; have HO_3 := n0_; have BK142 := n1_; have HB := n2_; clear n0_ n1_ n2_; clear hg hw hp_))
                      (try simp only [← hl3_2])
                      go_roundg k2
                      case measure => have := HJ1.out; have := HK2.out; omega
                      case rel => exact ⟨(y146), (wrap64 (x16_2 + 1)), (by first | rfl | exact congrArg (Value.int .i64) (i64_w _) | (simp; done) | (simp [*]; done)), H', ⟨by have := HJ1.out; have := HK2.out; omega⟩, ⟨by (try simp only [hl3_2]); (with_reducible repeat (first | apply Kd.R_alloc | apply Kd.R_drewN | apply Kd.R_drew)); exact HO_3.out⟩, ⟨by (try simp only [hl3_2]); (with_reducible repeat (first | refine blk_drewN ?_ _ | refine blk_drew ?_ | refine blk_alloc ?_ _)); exact BK142.out⟩, ⟨by repeat (first | (with_reducible first | exact HB.out | apply below_alloc | apply pw_below_drewN | apply below_drew1 | refine below_set ?_ GE142.out) | exact HB.out)⟩⟩
                    · rw [if_neg c14] at H
                      exact absurd H (by simp)
                  · rw [if_neg c13] at H
                    exact absurd H (by simp)
                · rw [if_neg c12] at H
                  have c12b0 : decide (x16_2 < (y143.length : Int)) = false := decide_eq_false c12
                  have hlw_ := hl3_2
                  rw [hlw_] at c12b0
                  clear c12
                  replace H := Option.bind_eq_some_iff.mp H
                  obtain ⟨⟨t147, t148⟩, A180, H⟩ := H
                  replace H : (some (t147, t148)) = some (r1, r2) := H
                  have A18 := Aside0.mk A180
                  clear A180
                  simp only [Option.some.injEq, Prod.mk.injEq] at H
                  obtain ⟨rfl, rfl⟩ := H
                  go_wp2_with (first | ((with_reducible refine gate_callee (f := 77) rfl ?_); refine goesL_ (some 24) rfl rfl Try.func77 (by kernel_rfl) rfl #[.slice Ao11 x3_2.length co11] rfl (by (try simp only [List.map_toArray, List.map_cons, List.map_nil]); first | done | rfl | (simp only [List.length_drop, List.length_take]; rfl)) ?_; (with_reducible refine (impl_framesOf.calls _ _ x3_2 t147 t148 _ ?side1 ?side2 A18.out).mono ?_); (case side1 => repeat (first | exact (Kd.R_reads' HO_3.out).2.2 | (with_reducible refine Kd.C_alloc ?_ _) | (with_reducible refine Kd.C_drewN ?_ _) | (with_reducible refine Kd.C_drew ?_))); (case side2 => exact (Kd.R_reads' HO_3.out).2.1); rintro e w19 ⟨v149, rfl, ho0, hb⟩; refine ⟨_, rfl, ?_⟩; have n0_ := Aside0.mk (Kd.R_below (by (with_reducible repeat (first | apply Kd.R_alloc | apply Kd.R_drewN | apply Kd.R_drew)); exact HO_3.out) hb); have n1_ := Aside0.mk (Kd.R_lower ho0 (below_size (by repeat (first | (with_reducible first | exact HB.out | apply below_alloc | apply pw_below_drewN | apply below_drew1 | refine below_set ?_ GE142.out) | exact HB.out)))); have n2_ := Aside0.mk (blk_below (g := gb142) (o := .cells #[.int .i64 0, .slice none 0 0] 50 (0, 0)) (by (with_reducible repeat (first | refine blk_drewN ?_ _ | refine blk_drew ?_ | refine blk_alloc ?_ _)); exact BK142.out) hb); have n3_ := Aside0.mk (below_step (by repeat (first | (with_reducible first | exact HB.out | apply below_alloc | apply pw_below_drewN | apply below_drew1 | refine below_set ?_ GE142.out) | exact HB.out)) hb); clear HO_3; clear BK142; clear HB; have HO_3 := n0_; have HO150 := n1_; have BK142 := n2_; have HB := n3_; clear n0_ n1_ n2_ n3_; (try clear hb); (try clear hb2); (try clear hk); (try clear hi); (try clear ho0); have hcz20_0 : w19.cell? ⟨gb142, 0, none⟩ = some (.int .i64 0) := (blk_cell BK142.out 0).trans rfl; have hcz20_1 : w19.cell? ⟨gb142, 1, none⟩ = some (.slice none 0 0) := (blk_cell BK142.out 1).trans rfl; have hfz20_0 := blk_frozen BK142.out 0; have hfz20_1 := blk_frozen BK142.out 1; obtain ⟨Ao21, co21, eo21⟩ := Kd.R_slice HO150.out; subst eo21))
                  refine bodyPost_ret (results_cell_row rfl _ _ gb142 50 #[.int .i64 t147, .slice Ao21 t148.length co21] (0, 0) _ rfl (by (with_reducible repeat (first | refine blk_drewN ?_ _ | refine blk_drew ?_ | refine blk_alloc ?_ _)); refine blk_put (cs := #[.int .i64 t147, .slice none 0 0]) ?_ 1 _ rfl; (with_reducible repeat (first | refine blk_drewN ?_ _ | refine blk_drew ?_ | refine blk_alloc ?_ _)); refine blk_put (cs := #[.int .i64 0, .slice none 0 0]) ?_ 0 _ rfl; (with_reducible repeat (first | refine blk_drewN ?_ _ | refine blk_drew ?_ | refine blk_alloc ?_ _)); exact BK142.out) Try.underlying50 rfl (by kernel_rfl)) rfl ?_
                  exact ⟨_, by first | rfl | (simp [errW_none, errW_some] <;> rfl) | (simp [*, errW_none, errW_some] <;> rfl), by (with_reducible repeat (first | apply Kd.R_alloc | apply Kd.R_drewN | apply Kd.R_drew)); exact Kd.R_mono (Kd.R_far (p := ⟨gb142, 1, none⟩) (Kd.R_far (p := ⟨gb142, 0, none⟩) (Kd.R_types HO150.out BK142.out (by decide)) (fun _ hk => hk.2) (.int .i64 t147)) (fun _ hk => hk.2) (.slice Ao21 t148.length co21)) (fun _ hk => trivial), by repeat (first | (with_reducible first | exact HB.out | apply below_alloc | apply pw_below_drewN | apply below_drew1 | refine below_set ?_ GE142.out) | exact HB.out)⟩
          · rw [if_neg c8] at H
            exact absurd H (by simp)
        · rw [if_neg c7] at H
          exact absurd H (by simp)

end Go.Proofs.Ytmjdmaomakkhgaa.PFnExactNewFrames
