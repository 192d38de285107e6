/- The walk of FnExactNewVm: for every pair of whole numbers the Go code answers true and changes nothing that was there before; the new Vm's rows are all nil. No condition. -/
import Derived.Test.YtdhafphhkokniaaProg
import Derived.Below
import Derived.Deep.Draws
import Derived.Deep.AppendLies
import Derived.Maps.AppendAt
import Derived.OwnWalk
import Derived.Laws.BytesArg
import Derived.Laws.MakeOwn
import Derived.Laws.OwnMore
import Derived.Deep.OwnRows
import Derived.Tactics
import Derived.Lib.ConvBytes
import Derived.Laws.Slices
import Derived.WalkKit
import Derived.KernelRfl
import Derived.RowKit3
import Derived.Deep.LoopGhost
import Derived.Deep.QuietTactic
import Derived.BigQuiet
import Derived.WideLaws
import Derived.Deep.DeepCutAuto
import Derived.Deep.CutBlock
import Derived.Deep.RegionHeld3
import Derived.Laws.Rows
import Derived.Laws.CopyOwn
import Derived.Lib.AppendStr
import Derived.ArgAppend
import Derived.Laws.IdiomCopy
import Derived.OrdersHeld
import Derived.Laws.BitsLemmas
import Derived.RowKit
import Derived.StillTailTactics
import Derived.Laws.Externs
import Derived.Test.YtdhafphhkokniaaWWords
import Derived.Test.YtdhafphhkokniaaWLast
import Derived.Test.YtdhafphhkokniaaWMore
import Derived.Test.YtdhafphhkokniaaWKept
namespace Go.Proofs.Ytdhafphhkokniaa.NewVm
open Go.RowKit Go.Proofs.YtdhafphhkokniaaW.PrintWords Go.Proofs.YtdhafphhkokniaaW.PrintLast Go.Proofs.YtdhafphhkokniaaW.PrintMore
set_option linter.unusedVariables false
set_option linter.unusedSimpArgs false
set_option maxHeartbeats 4000000 in
theorem eqVPageS.nil (w : World) : Calls Try.prog 75 #[.slice none 0 0, .slice none 0 0] w fun e w' => e = .returned (.bool true) ∧ w' = w := by
  go_enter Try.func75, Try.ntmps75
  go_wp2
  refine wp_loop_rounds 1 ?_
  rw [rounds_succ]
  go_wp2
  go_ret
  exact ⟨rfl, rfl⟩
set_option maxHeartbeats 4000000 in
theorem eqSpaceS.nil (w : World) : Calls Try.prog 76 #[.slice none 0 0, .slice none 0 0] w fun e w' => e = .returned (.bool true) ∧ w' = w := by
  go_enter Try.func76, Try.ntmps76
  go_wp2
  refine wp_loop_rounds 1 ?_
  rw [rounds_succ]
  go_wp2
  go_ret
  exact ⟨rfl, rfl⟩
set_option maxHeartbeats 4000000 in
theorem eqObjS.nil (w : World) : Calls Try.prog 77 #[.slice none 0 0, .slice none 0 0] w fun e w' => e = .returned (.bool true) ∧ w' = w := by
  go_enter Try.func77, Try.ntmps77
  go_wp2
  refine wp_loop_rounds 1 ?_
  rw [rounds_succ]
  go_wp2
  go_ret
  exact ⟨rfl, rfl⟩
set_option maxHeartbeats 4000000 in
theorem markVPageS.nil (k : Int) (w : World) : Calls Try.prog 78 #[.slice none 0 0, .int .i64 k] w fun e w' => e = .returned (.int .i64 k) ∧ w' = w := by
  go_enter Try.func78, Try.ntmps78
  go_wp2
  refine wp_loop_rounds 1 ?_
  rw [rounds_succ]
  go_wp2
  go_ret
  exact ⟨rfl, rfl⟩
set_option maxHeartbeats 4000000 in
theorem markSpaceS.nil (k : Int) (w : World) : Calls Try.prog 79 #[.slice none 0 0, .int .i64 k] w fun e w' => e = .returned (.int .i64 k) ∧ w' = w := by
  go_enter Try.func79, Try.ntmps79
  go_wp2
  refine wp_loop_rounds 1 ?_
  rw [rounds_succ]
  go_wp2
  go_ret
  exact ⟨rfl, rfl⟩
set_option maxHeartbeats 4000000 in
theorem markObjS.nil (k : Int) (w : World) : Calls Try.prog 80 #[.slice none 0 0, .int .i64 k] w fun e w' => e = .returned (.int .i64 k) ∧ w' = w := by
  go_enter Try.func80, Try.ntmps80
  go_wp2
  refine wp_loop_rounds 1 ?_
  rw [rounds_succ]
  go_wp2
  go_ret
  exact ⟨rfl, rfl⟩
set_option maxHeartbeats 4000000 in
theorem heldVPageS.nil (k : Int) (w : World) : Calls Try.prog 81 #[.slice none 0 0, .int .i64 k] w fun e w' => e = .returned (.int .i64 k) ∧ w' = w := by
  go_enter Try.func81, Try.ntmps81
  go_wp2
  refine wp_loop_rounds 1 ?_
  rw [rounds_succ]
  go_wp2
  go_ret
  exact ⟨rfl, rfl⟩
set_option maxHeartbeats 4000000 in
theorem heldSpaceS.nil (k : Int) (w : World) : Calls Try.prog 82 #[.slice none 0 0, .int .i64 k] w fun e w' => e = .returned (.int .i64 k) ∧ w' = w := by
  go_enter Try.func82, Try.ntmps82
  go_wp2
  refine wp_loop_rounds 1 ?_
  rw [rounds_succ]
  go_wp2
  go_ret
  exact ⟨rfl, rfl⟩
set_option maxHeartbeats 4000000 in
theorem heldObjS.nil (k : Int) (w : World) : Calls Try.prog 83 #[.slice none 0 0, .int .i64 k] w fun e w' => e = .returned (.int .i64 k) ∧ w' = w := by
  go_enter Try.func83, Try.ntmps83
  go_wp2
  refine wp_loop_rounds 1 ?_
  rw [rounds_succ]
  go_wp2
  go_ret
  exact ⟨rfl, rfl⟩
theorem spec_sizes (f s : Int) (w : World) : Calls Try.prog 73 #[.int .i64 f, .int .i64 s] w fun e w' => e = .returned (.bool (decide (1 ≤ f ∧ f ≤ 64 ∧ 0 ≤ s ∧ s ≤ 64))) ∧ w' = w := by
  go_enter Try.func73, Try.ntmps73
  go_wp2
  all_goals (go_ret; refine ⟨?_, rfl⟩; refine congrArg (fun b => Ending.returned (Value.bool b)) ?_; rw [Bool.eq_iff_iff]; simp; try omega)
theorem impl_sizes (f s : Int) (w : World) : Calls Try.prog 74 #[.int .i64 f, .int .i64 s] w fun e w' => e = .returned (.bool (decide (1 ≤ f ∧ f ≤ 64 ∧ 0 ≤ s ∧ s ≤ 64))) ∧ w' = w := by
  go_enter Try.func74, Try.ntmps74
  go_wp2
  all_goals (go_ret; refine ⟨?_, rfl⟩; refine congrArg (fun b => Ending.returned (Value.bool b)) ?_; rw [Bool.eq_iff_iff]; simp; try omega)
def V (a b : Int) : Array Value := #[.int .i64 a, .int .i64 b, .int .i64 0, .int .i64 0, .int .i64 0, .int .i64 0, .int .i64 0, .slice none 0 0, .slice none 0 0, .slice none 0 0]
set_option maxHeartbeats 4000000 in
theorem eqVm (a b : Int) (w : World) : Calls Try.prog 44 #[.agg (V a b), .agg (V a b)] w fun e w' => e = .returned (.bool true) ∧ Below w.heap.size w w' := by
  unfold V
  go_enter Try.func44, Try.ntmps44
  go_wp2_with (first | (go_at_call 75; refine (eqVPageS.nil _).mono ?_; rintro e w1 ⟨rfl, rfl⟩) | (go_at_call 76; refine (eqSpaceS.nil _).mono ?_; rintro e w1 ⟨rfl, rfl⟩) | (go_at_call 77; refine (eqObjS.nil _).mono ?_; rintro e w1 ⟨rfl, rfl⟩))
  go_ret
  exact ⟨rfl, ((Below.refl _ _).alloc (Nat.le_refl _) _).alloc (by simp) _⟩
set_option maxHeartbeats 4000000 in
theorem markVm (a b k : Int) (w : World) : Calls Try.prog 45 #[.agg (V a b), .int .i64 k] w fun e w' => e = .returned (.int .i64 k) ∧ Below w.heap.size w w' := by
  unfold V
  go_enter Try.func45, Try.ntmps45
  go_wp2_with (first | (go_at_call 78; refine (markVPageS.nil _ _).mono ?_; rintro e w1 ⟨rfl, rfl⟩) | (go_at_call 79; refine (markSpaceS.nil _ _).mono ?_; rintro e w1 ⟨rfl, rfl⟩) | (go_at_call 80; refine (markObjS.nil _ _).mono ?_; rintro e w1 ⟨rfl, rfl⟩))
  go_ret
  exact ⟨rfl, (Below.refl _ _).alloc (Nat.le_refl _) _⟩
set_option maxHeartbeats 4000000 in
theorem heldVm (a b : Int) (w : World) : Calls Try.prog 46 #[.agg (V a b), .int .i64 1] w fun e w' => e = .returned (.int .i64 1) ∧ Below w.heap.size w w' := by
  unfold V
  go_enter Try.func46, Try.ntmps46
  go_wp2_with (first | (go_at_call 81; refine (heldVPageS.nil _ _).mono ?_; rintro e w1 ⟨rfl, rfl⟩) | (go_at_call 82; refine (heldSpaceS.nil _ _).mono ?_; rintro e w1 ⟨rfl, rfl⟩) | (go_at_call 83; refine (heldObjS.nil _ _).mono ?_; rintro e w1 ⟨rfl, rfl⟩))
  go_ret
  exact ⟨rfl, (Below.refl _ _).alloc (Nat.le_refl _) _⟩
set_option maxHeartbeats 4000000 in
theorem news (f s : Int) : ∃ a b, (∀ w, Calls Try.prog 42 #[.int .i64 f, .int .i64 s] w fun e w' => e = .returned (.agg (V a b)) ∧ Below w.heap.size w w') ∧ (∀ w, Calls Try.prog 43 #[.int .i64 f, .int .i64 s] w fun e w' => e = .returned (.agg (V a b)) ∧ Below w.heap.size w w') := by
  unfold V
  by_cases h : 1 ≤ f ∧ f ≤ 64 ∧ 0 ≤ s ∧ s ≤ 64
  · refine ⟨f, s, fun w => ?_, fun w => ?_⟩
    · go_enter Try.func42, Try.ntmps42
      go_wp2_with (first | (go_at_call 73; refine (spec_sizes _ _ _).mono ?_; rintro e w1 ⟨rfl, rfl⟩; rw [decide_eq_true h]))
      refine bodyPost_ret (results_cell_row rfl _ _ w.heap.size 71 (V f s) (0, 0) _ rfl (blk_new _ _) Try.underlying71 rfl (by kernel_rfl)) rfl ⟨rfl, (Below.refl _ _).alloc (Nat.le_refl _) _⟩
    · go_enter Try.func43, Try.ntmps43
      go_wp2_with (first | (go_at_call 74; refine (impl_sizes _ _ _).mono ?_; rintro e w1 ⟨rfl, rfl⟩; rw [decide_eq_true h]))
      refine bodyPost_ret (results_cell_row rfl _ _ w.heap.size 71 (V f s) (0, 0) _ rfl (blk_new _ _) Try.underlying71 rfl (by kernel_rfl)) rfl ⟨rfl, (Below.refl _ _).alloc (Nat.le_refl _) _⟩
  · refine ⟨0, 0, fun w => ?_, fun w => ?_⟩
    · go_enter Try.func42, Try.ntmps42
      go_wp2_with (first | (go_at_call 73; refine (spec_sizes _ _ _).mono ?_; rintro e w1 ⟨rfl, rfl⟩; rw [decide_eq_false h]))
      refine bodyPost_ret (results_cell_row rfl _ _ w.heap.size 71 (V 0 0) (0, 0) _ rfl (blk_new _ _) Try.underlying71 rfl (by kernel_rfl)) rfl ⟨rfl, (Below.refl _ _).alloc (Nat.le_refl _) _⟩
    · go_enter Try.func43, Try.ntmps43
      go_wp2_with (first | (go_at_call 74; refine (impl_sizes _ _ _).mono ?_; rintro e w1 ⟨rfl, rfl⟩; rw [decide_eq_false h]))
      refine bodyPost_ret (results_cell_row rfl _ _ w.heap.size 71 (V 0 0) (0, 0) _ rfl (blk_new _ _) Try.underlying71 rfl (by kernel_rfl)) rfl ⟨rfl, (Below.refl _ _).alloc (Nat.le_refl _) _⟩
set_option maxHeartbeats 4000000 in
theorem walk (f s : Int) (w : World) : Calls Try.prog 11 #[.int .i64 f, .int .i64 s] w fun e w' => e = .returned (.bool true) ∧ Below w.heap.size w w' := by
  obtain ⟨a, b, h1, h2⟩ := news f s
  have HB := Aside0.mk (Below.refl w.heap.size w)
  go_enter Try.func11, Try.ntmps11
  go_upto_region 2 with (first | (go_at_call 42; refine (h1 _).mono ?_; rintro e w42 ⟨rfl, hB_⟩; have n_ := Aside0.mk (below_step HB.out hB_); clear HB hB_; have HB := n_; clear n_) | ((with_reducible refine gate_dst (N := 5) rfl ?_); refine box_event ?hg (N := 5) ?hd (cs := V 0 0) (t := 71) ?hr ?_; (case hd => rfl); (case hg => rfl); (case hr => first | (go_simp; done) | (go_simp; rfl)); intro g5 hgq w205 hbq hB_; have hg5 := Aside0.mk (show w.heap.size ≤ g5 by rw [hgq]; exact HB.out.size); have n_ := Aside0.mk (below_step HB.out hB_); clear HB hB_; have HB := n_; clear n_; have hb5 := Aside0.mk hbq; clear hbq hgq) | ((with_reducible refine gate_store (t := 71) (p := 5) rfl ?_); refine wpList_store_row rfl 71 (.tmp 5) (.tmp 12) rfl g5 (V a b) rfl rfl 71 _ hb5.out (by kernel_rfl) rfl (by simp [V, Value.oneCell']) ?_; generalize hw : World.setRow _ _ _ = w105; have n_ : Aside0 (w105.heap[g5]? = some (.cells (V a b) 71 (0, 0))) := ⟨by rw [← hw]; exact setRow_heap _ _ _ _ _ _ hb5.out⟩; clear hb5; have hb5 := n_; clear n_; have n_ : Aside0 (Below w.heap.size w w105) := ⟨by rw [← hw]; exact below_setRow HB.out hg5.out _⟩; clear HB hw; have HB := n_; clear n_))
  go_upto_region 3 with (first | (go_at_call 43; refine (h2 _).mono ?_; rintro e w43 ⟨rfl, hB_⟩; have n_ := Aside0.mk (blk_below hb5.out hB_); clear hb5; have hb5 := n_; clear n_; have n_ := Aside0.mk (below_step HB.out hB_); clear HB hB_; have HB := n_; clear n_) | ((with_reducible refine gate_dst (N := 6) rfl ?_); refine box_event ?hg (N := 6) ?hd (cs := V 0 0) (t := 71) ?hr ?_; (case hd => rfl); (case hg => rfl); (case hr => first | (go_simp; done) | (go_simp; rfl)); intro g6 hgq w206 hbq hB_; have hg6 := Aside0.mk (show w.heap.size ≤ g6 by rw [hgq]; exact HB.out.size); have hne5_6 := Aside0.mk (show g5 ≠ g6 by rw [hgq]; exact Nat.ne_of_lt (blk_lt hb5.out)); have n_ := Aside0.mk (blk_below hb5.out hB_); clear hb5; have hb5 := n_; clear n_; have n_ := Aside0.mk (below_step HB.out hB_); clear HB hB_; have HB := n_; clear n_; have hb6 := Aside0.mk hbq; clear hbq hgq) | ((with_reducible refine gate_store (t := 71) (p := 6) rfl ?_); refine wpList_store_row rfl 71 (.tmp 6) (.tmp 15) rfl g6 (V a b) rfl rfl 71 _ hb6.out (by kernel_rfl) rfl (by simp [V, Value.oneCell']) ?_; generalize hw : World.setRow _ _ _ = w106; have n_ : Aside0 (w106.heap[g5]? = some (.cells (V a b) 71 (0, 0))) := ⟨by rw [← hw]; exact (setRow_other _ _ _ _ hne5_6.out).trans hb5.out⟩; clear hb5; have hb5 := n_; clear n_; have n_ : Aside0 (w106.heap[g6]? = some (.cells (V a b) 71 (0, 0))) := ⟨by rw [← hw]; exact setRow_heap _ _ _ _ _ _ hb6.out⟩; clear hb6; have hb6 := n_; clear n_; have n_ : Aside0 (Below w.heap.size w w106) := ⟨by rw [← hw]; exact below_setRow HB.out hg6.out _⟩; clear HB hw; have HB := n_; clear n_))
  go_upto_region 13 with (first | ((with_reducible refine gate_dst (N := 16) rfl ?_); refine wpList_load_row rfl 71 (.tmp 6) rfl g6 rfl 71 (V a b) (0, 0) _ ?hg Try.underlying71 rfl (by kernel_rfl) ?_; (case hg => exact hb6.out)) | ((with_reducible refine gate_dst (N := 17) rfl ?_); refine wpList_load_row rfl 71 (.tmp 5) rfl g5 rfl 71 (V a b) (0, 0) _ ?hg Try.underlying71 rfl (by kernel_rfl) ?_; (case hg => exact hb5.out)) | (go_at_call 44; refine (eqVm a b _).mono ?_; rintro e w44 ⟨rfl, hB_⟩; have n_ := Aside0.mk (blk_below hb5.out hB_); clear hb5; have hb5 := n_; clear n_; have n_ := Aside0.mk (blk_below hb6.out hB_); clear hb6; have hb6 := n_; clear n_; have n_ := Aside0.mk (below_step HB.out hB_); clear HB hB_; have HB := n_; clear n_) | ((with_reducible refine gate_dst (N := 20) rfl ?_); refine wpList_load_row rfl 71 (.tmp 6) rfl g6 rfl 71 (V a b) (0, 0) _ ?hg Try.underlying71 rfl (by kernel_rfl) ?_; (case hg => exact hb6.out)) | (go_at_call 45; refine (markVm a b 1 _).mono ?_; rintro e w45 ⟨rfl, hB_⟩; have n_ := Aside0.mk (blk_below hb5.out hB_); clear hb5; have hb5 := n_; clear n_; have n_ := Aside0.mk (blk_below hb6.out hB_); clear hb6; have hb6 := n_; clear n_; have n_ := Aside0.mk (below_step HB.out hB_); clear HB hB_; have HB := n_; clear n_) | ((with_reducible refine gate_dst (N := 23) rfl ?_); refine wpList_load_row rfl 71 (.tmp 6) rfl g6 rfl 71 (V a b) (0, 0) _ ?hg Try.underlying71 rfl (by kernel_rfl) ?_; (case hg => exact hb6.out)) | (go_at_call 46; refine (heldVm a b _).mono ?_; rintro e w46 ⟨rfl, hB_⟩; have n_ := Aside0.mk (blk_below hb5.out hB_); clear hb5; have hb5 := n_; clear n_; have n_ := Aside0.mk (blk_below hb6.out hB_); clear hb6; have hb6 := n_; clear n_; have n_ := Aside0.mk (below_step HB.out hB_); clear HB hB_; have HB := n_; clear n_))
  go_upto_region 14 with (first | (go_at_call 43; refine (h2 _).mono ?_; rintro e w43 ⟨rfl, hB_⟩; have n_ := Aside0.mk (blk_below hb5.out hB_); clear hb5; have hb5 := n_; clear n_; have n_ := Aside0.mk (blk_below hb6.out hB_); clear hb6; have hb6 := n_; clear n_; have n_ := Aside0.mk (below_step HB.out hB_); clear HB hB_; have HB := n_; clear n_) | ((with_reducible refine gate_dst (N := 9) rfl ?_); refine box_event ?hg (N := 9) ?hd (cs := V 0 0) (t := 71) ?hr ?_; (case hd => rfl); (case hg => rfl); (case hr => first | (go_simp; done) | (go_simp; rfl)); intro g9 hgq w209 hbq hB_; have hg9 := Aside0.mk (show w.heap.size ≤ g9 by rw [hgq]; exact HB.out.size); have hne5_9 := Aside0.mk (show g5 ≠ g9 by rw [hgq]; exact Nat.ne_of_lt (blk_lt hb5.out)); have hne6_9 := Aside0.mk (show g6 ≠ g9 by rw [hgq]; exact Nat.ne_of_lt (blk_lt hb6.out)); have n_ := Aside0.mk (blk_below hb5.out hB_); clear hb5; have hb5 := n_; clear n_; have n_ := Aside0.mk (blk_below hb6.out hB_); clear hb6; have hb6 := n_; clear n_; have n_ := Aside0.mk (below_step HB.out hB_); clear HB hB_; have HB := n_; clear n_; have hb9 := Aside0.mk hbq; clear hbq hgq) | ((with_reducible refine gate_store (t := 71) (p := 9) rfl ?_); refine wpList_store_row rfl 71 (.tmp 9) (.tmp 33) rfl g9 (V a b) rfl rfl 71 _ hb9.out (by kernel_rfl) rfl (by simp [V, Value.oneCell']) ?_; generalize hw : World.setRow _ _ _ = w109; have n_ : Aside0 (w109.heap[g5]? = some (.cells (V a b) 71 (0, 0))) := ⟨by rw [← hw]; exact (setRow_other _ _ _ _ hne5_9.out).trans hb5.out⟩; clear hb5; have hb5 := n_; clear n_; have n_ : Aside0 (w109.heap[g6]? = some (.cells (V a b) 71 (0, 0))) := ⟨by rw [← hw]; exact (setRow_other _ _ _ _ hne6_9.out).trans hb6.out⟩; clear hb6; have hb6 := n_; clear n_; have n_ : Aside0 (w109.heap[g9]? = some (.cells (V a b) 71 (0, 0))) := ⟨by rw [← hw]; exact setRow_heap _ _ _ _ _ _ hb9.out⟩; clear hb9; have hb9 := n_; clear n_; have n_ : Aside0 (Below w.heap.size w w109) := ⟨by rw [← hw]; exact below_setRow HB.out hg9.out _⟩; clear HB hw; have HB := n_; clear n_))
  go_wp2_with (first | ((with_reducible refine gate_dst (N := 34) rfl ?_); refine wpList_load_row rfl 71 (.tmp 9) rfl g9 rfl 71 (V a b) (0, 0) _ ?hg Try.underlying71 rfl (by kernel_rfl) ?_; (case hg => exact hb9.out)) | ((with_reducible refine gate_dst (N := 35) rfl ?_); refine wpList_load_row rfl 71 (.tmp 5) rfl g5 rfl 71 (V a b) (0, 0) _ ?hg Try.underlying71 rfl (by kernel_rfl) ?_; (case hg => exact hb5.out)) | (go_at_call 44; refine (eqVm a b _).mono ?_; rintro e w44 ⟨rfl, hB_⟩; have n_ := Aside0.mk (blk_below hb5.out hB_); clear hb5; have hb5 := n_; clear n_; have n_ := Aside0.mk (blk_below hb6.out hB_); clear hb6; have hb6 := n_; clear n_; have n_ := Aside0.mk (blk_below hb9.out hB_); clear hb9; have hb9 := n_; clear n_; have n_ := Aside0.mk (below_step HB.out hB_); clear HB hB_; have HB := n_; clear n_) | ((with_reducible refine gate_dst (N := 38) rfl ?_); refine wpList_load_row rfl 71 (.tmp 6) rfl g6 rfl 71 (V a b) (0, 0) _ ?hg Try.underlying71 rfl (by kernel_rfl) ?_; (case hg => exact hb6.out)) | (go_at_call 46; refine (heldVm a b _).mono ?_; rintro e w46 ⟨rfl, hB_⟩; have n_ := Aside0.mk (blk_below hb5.out hB_); clear hb5; have hb5 := n_; clear n_; have n_ := Aside0.mk (blk_below hb6.out hB_); clear hb6; have hb6 := n_; clear n_; have n_ := Aside0.mk (blk_below hb9.out hB_); clear hb9; have hb9 := n_; clear n_; have n_ := Aside0.mk (below_step HB.out hB_); clear HB hB_; have HB := n_; clear n_))
  go_ret
  exact ⟨rfl, HB.out⟩
end Go.Proofs.Ytdhafphhkokniaa.NewVm
