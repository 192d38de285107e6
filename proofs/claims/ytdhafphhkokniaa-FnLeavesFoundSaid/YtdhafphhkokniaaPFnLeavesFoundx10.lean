-- Written by a program of this session out of the translation. Not trusted: Lean checks it.
import Derived.Test.YtdhafphhkokniaaPFnLeavesFoundx0
import Derived.Test.YtdhafphhkokniaaPFnLeavesFoundx1
import Derived.Test.YtdhafphhkokniaaPFnLeavesFoundx2
import Derived.Test.YtdhafphhkokniaaPFnLeavesFoundx5
import Derived.Test.YtdhafphhkokniaaPFnLeavesFoundx6
import Derived.Test.YtdhafphhkokniaaPFnLeavesFoundx9
namespace Go.Proofs.Ytdhafphhkokniaa.PFnLeavesFound
open Go.RowKit Go.Proofs.YtdhafphhkokniaaW.PrintWords Go.Proofs.YtdhafphhkokniaaW.PrintLast Go.Proofs.YtdhafphhkokniaaW.PrintMore
attribute [local go_sem] max2_int min2_int max_two min_two max_three min_three max_four min_four   -- for this text's walks alone
set_option linter.unusedVariables false
set_option linter.unusedSimpArgs false
theorem Z10_68 {P : Prop} (h : P := by have := HK1.out; have := HK2.out; have := HJ26.out; have := HJ71.out; have := HJ95.out; first | omega | exact Nat.le_refl _) : P := h
theorem Z10_67 {P : Prop} (h : P := by rw [hg]; exact (below_size Z10_1)) : P := h
theorem Z10_66 {P : Prop} (h : P := by rw [hg]; exact (below_size Z10_15)) : P := h
theorem Z10_65 {P : Prop} (h : P := by rw [hg]; exact (below_size Z10_17)) : P := h
theorem Z10_64 {P : Prop} (h : P := by decide) : P := h
theorem Z10_63 {P : Prop} (h : P := by refine (Kd.R_reads' (e := 5) (base := w.heap.size) (ok := fun k_ => True) (n := t380.length) (c := co11) ?_).2.2; exact Z10_5) : P := h
theorem Z10_62 {P : Prop} (h : P := by refine (Kd.R_reads' (e := 5) (base := w.heap.size) (ok := fun k_ => True) (n := t380.length) (c := co11) ?_).2.2; exact Z10_11) : P := h
theorem Z10_61 {P : Prop} (h : P := by have := HK1.out; have := HK2.out; have := HJ26.out; first | omega | exact Nat.le_refl _) : P := h
theorem Z10_60 {P : Prop} (h : P := by rw [hg]; exact Nat.ne_of_gt (blk_lt (g := gb417) (o := .cells #[.int .i64 t412, .int .i64 t413, .int .i64 t414, .int .i64 t415, .int .u64 t416] 36 (0, 0)) Z10_16)) : P := h
theorem Z10_59 {P : Prop} (h : P := by rw [hg]; exact Nat.ne_of_lt (blk_lt (g := gb417) (o := .cells #[.int .i64 t412, .int .i64 t413, .int .i64 t414, .int .i64 t415, .int .u64 t416] 36 (0, 0)) Z10_16)) : P := h
theorem Z10_58 {P : Prop} (h : P := by have := HK1.out; have := HK2.out; first | omega | exact Nat.le_refl _) : P := h
theorem Z10_57 {P : Prop} (h : P := by repeat (first | exact (Kd.R_reads' HO_3.out).2.2 | (with_reducible refine Kd.C_alloc ?_ _) | (with_reducible refine Kd.C_drewN ?_ _) | (with_reducible refine Kd.C_drew ?_))) : P := h
theorem Z10_56 {P : Prop} (h : P := by repeat (first | exact (Kd.R_reads' HO389.out).2.2 | (with_reducible refine Kd.C_alloc ?_ _) | (with_reducible refine Kd.C_drewN ?_ _) | (with_reducible refine Kd.C_drew ?_))) : P := h
theorem Z10_55 {P : Prop} (h : P := by first | (go_simp; done) | (go_simp; rfl)) : P := h
theorem Z10_54 {P : Prop} (h : P := by (with_reducible repeat (first | apply Kd.R_alloc | apply Kd.R_drewN | apply Kd.R_drew)); exact HO389.out) : P := h
theorem Z10_53 {P : Prop} (h : P := by repeat (first | exact (Kd.R_reads' HO383.out).2.2 | (with_reducible refine Kd.C_alloc ?_ _) | (with_reducible refine Kd.C_drewN ?_ _) | (with_reducible refine Kd.C_drew ?_))) : P := h
theorem Z10_52 {P : Prop} (h : P := by first | (rw [add_block]; exact hn426_4) | (show (Addr.add _ _).block ≠ _; rw [add_block]; exact hn426_4) | exact hn426_4) : P := h
theorem Z10_51 {P : Prop} (h : P := by first | (rw [add_block]; exact hn426_3) | (show (Addr.add _ _).block ≠ _; rw [add_block]; exact hn426_3) | exact hn426_3) : P := h
theorem Z10_50 {P : Prop} (h : P := by first | (rw [add_block]; exact hn426_2) | (show (Addr.add _ _).block ≠ _; rw [add_block]; exact hn426_2) | exact hn426_2) : P := h
theorem Z10_49 {P : Prop} (h : P := by first | (rw [add_block]; exact hn426_1) | (show (Addr.add _ _).block ≠ _; rw [add_block]; exact hn426_1) | exact hn426_1) : P := h
theorem Z10_48 {P : Prop} (h : P := by first | (rw [add_block]; exact hn426_0) | (show (Addr.add _ _).block ≠ _; rw [add_block]; exact hn426_0) | exact hn426_0) : P := h
theorem Z10_47 {P : Prop} (h : P := by first | (rw [add_block]; exact hn418_4) | (show (Addr.add _ _).block ≠ _; rw [add_block]; exact hn418_4) | exact hn418_4) : P := h
theorem Z10_46 {P : Prop} (h : P := by first | (rw [add_block]; exact hn418_3) | (show (Addr.add _ _).block ≠ _; rw [add_block]; exact hn418_3) | exact hn418_3) : P := h
theorem Z10_45 {P : Prop} (h : P := by first | (rw [add_block]; exact hn418_2) | (show (Addr.add _ _).block ≠ _; rw [add_block]; exact hn418_2) | exact hn418_2) : P := h
theorem Z10_44 {P : Prop} (h : P := by first | (rw [add_block]; exact hn418_1) | (show (Addr.add _ _).block ≠ _; rw [add_block]; exact hn418_1) | exact hn418_1) : P := h
theorem Z10_43 {P : Prop} (h : P := by first | (rw [add_block]; exact hn418_0) | (show (Addr.add _ _).block ≠ _; rw [add_block]; exact hn418_0) | exact hn418_0) : P := h
theorem Z10_42 {P : Prop} (h : P := by first | (rw [add_block]; exact hn411_8) | (show (Addr.add _ _).block ≠ _; rw [add_block]; exact hn411_8) | exact hn411_8) : P := h
theorem Z10_41 {P : Prop} (h : P := by first | (rw [add_block]; exact hn411_7) | (show (Addr.add _ _).block ≠ _; rw [add_block]; exact hn411_7) | exact hn411_7) : P := h
theorem Z10_40 {P : Prop} (h : P := by first | (rw [add_block]; exact hn411_6) | (show (Addr.add _ _).block ≠ _; rw [add_block]; exact hn411_6) | exact hn411_6) : P := h
theorem Z10_39 {P : Prop} (h : P := by first | (rw [add_block]; exact hn411_5) | (show (Addr.add _ _).block ≠ _; rw [add_block]; exact hn411_5) | exact hn411_5) : P := h
theorem Z10_38 {P : Prop} (h : P := by first | (rw [add_block]; exact hn411_4) | (show (Addr.add _ _).block ≠ _; rw [add_block]; exact hn411_4) | exact hn411_4) : P := h
theorem Z10_37 {P : Prop} (h : P := by first | (rw [add_block]; exact hn411_3) | (show (Addr.add _ _).block ≠ _; rw [add_block]; exact hn411_3) | exact hn411_3) : P := h
theorem Z10_36 {P : Prop} (h : P := by first | (rw [add_block]; exact hn411_2) | (show (Addr.add _ _).block ≠ _; rw [add_block]; exact hn411_2) | exact hn411_2) : P := h
theorem Z10_35 {P : Prop} (h : P := by first | (rw [add_block]; exact hn411_1) | (show (Addr.add _ _).block ≠ _; rw [add_block]; exact hn411_1) | exact hn411_1) : P := h
theorem Z10_34 {P : Prop} (h : P := by first | (rw [add_block]; exact hn411_0) | (show (Addr.add _ _).block ≠ _; rw [add_block]; exact hn411_0) | exact hn411_0) : P := h
theorem Z10_33 {P : Prop} (h : P := by rw [hg]; exact Nat.ne_of_gt (blk_lt (g := gb410) (o := .cells #[.bool t400, .bool t401, .bool t402, .bool t403, .bool t404, .bool t405, .bool t406, .bool t407, .int .i64 t408] 27 (0, 0)) Z10_8)) : P := h
theorem Z10_32 {P : Prop} (h : P := by rw [hg]; exact Nat.ne_of_lt (blk_lt (g := gb410) (o := .cells #[.bool t400, .bool t401, .bool t402, .bool t403, .bool t404, .bool t405, .bool t406, .bool t407, .int .i64 t408] 27 (0, 0)) Z10_8)) : P := h
theorem Z10_31 {P : Prop} (h : P := by (with_reducible repeat (first | apply blk_drewN | apply blk_drew | apply blk_alloc)); exact BK424.out) : P := h
theorem Z10_30 {P : Prop} (h : P := by (with_reducible repeat (first | apply Kd.R_alloc | apply Kd.R_drewN | apply Kd.R_drew)); exact (Kd.R_mono (Kd.R_far (p := ⟨gb417, 4, none⟩) (Kd.R_far (p := ⟨gb417, 3, none⟩) (Kd.R_far (p := ⟨gb417, 2, none⟩) (Kd.R_far (p := ⟨gb417, 1, none⟩) (Kd.R_far (p := ⟨gb417, 0, none⟩) (Kd.R_types HO_5.out BK417.out (by decide)) (fun _ hk => hk.2) (.int .i64 t412)) (fun _ hk => hk.2) (.int .i64 t413)) (fun _ hk => hk.2) (.int .i64 t414)) (fun _ hk => hk.2) (.int .i64 t415)) (fun _ hk => hk.2) (.int .u64 t416)) (fun _ h_ => h_.1))) : P := h
theorem Z10_29 {P : Prop} (h : P := by (with_reducible repeat (first | apply Kd.R_alloc | apply Kd.R_drewN | apply Kd.R_drew)); exact HO386.out) : P := h
theorem Z10_28 {P : Prop} (h : P := by repeat (first | exact HR0.out | (with_reducible refine Kd.C_alloc ?_ _) | (with_reducible refine Kd.C_drewN ?_ _) | (with_reducible refine Kd.C_drew ?_))) : P := h
theorem Z10_27 {P : Prop} (h : P := by first | (rw [add_block]; exact hn425_4) | (show (Addr.add _ _).block ≠ _; rw [add_block]; exact hn425_4) | exact hn425_4) : P := h
theorem Z10_26 {P : Prop} (h : P := by first | (rw [add_block]; exact hn425_3) | (show (Addr.add _ _).block ≠ _; rw [add_block]; exact hn425_3) | exact hn425_3) : P := h
theorem Z10_25 {P : Prop} (h : P := by first | (rw [add_block]; exact hn425_2) | (show (Addr.add _ _).block ≠ _; rw [add_block]; exact hn425_2) | exact hn425_2) : P := h
theorem Z10_24 {P : Prop} (h : P := by first | (rw [add_block]; exact hn425_1) | (show (Addr.add _ _).block ≠ _; rw [add_block]; exact hn425_1) | exact hn425_1) : P := h
theorem Z10_23 {P : Prop} (h : P := by first | (rw [add_block]; exact hn425_0) | (show (Addr.add _ _).block ≠ _; rw [add_block]; exact hn425_0) | exact hn425_0) : P := h
theorem Z10_22 {P : Prop} (h : P := by (with_reducible repeat (first | apply blk_drewN | apply blk_drew | apply blk_alloc)); refine blk_far ?_ NB410_417.out _; (with_reducible repeat (first | apply blk_drewN | apply blk_drew | apply blk_alloc)); refine blk_far ?_ NB410_417.out _; (with_reducible repeat (first | apply blk_drewN | apply blk_drew | apply blk_alloc)); refine blk_far ?_ NB410_417.out _; (with_reducible repeat (first | apply blk_drewN | apply blk_drew | apply blk_alloc)); refine blk_far ?_ NB410_417.out _; (with_reducible repeat (first | apply blk_drewN | apply blk_drew | apply blk_alloc)); refine blk_far ?_ NB410_417.out _; (with_reducible repeat (first | apply blk_drewN | apply blk_drew | apply blk_alloc)); exact BK410.out) : P := h
theorem Z10_21 {P : Prop} (h : P := by (with_reducible repeat (first | apply Kd.R_alloc | apply Kd.R_drewN | apply Kd.R_drew)); exact HO383.out) : P := h
theorem Z10_20 {P : Prop} (h : P := by (with_reducible repeat (first | apply Kd.R_alloc | apply Kd.R_drewN | apply Kd.R_drew)); exact (Kd.R_mono (Kd.R_far (p := ⟨gb410, 8, none⟩) (Kd.R_far (p := ⟨gb410, 7, none⟩) (Kd.R_far (p := ⟨gb410, 6, none⟩) (Kd.R_far (p := ⟨gb410, 5, none⟩) (Kd.R_far (p := ⟨gb410, 4, none⟩) (Kd.R_far (p := ⟨gb410, 3, none⟩) (Kd.R_far (p := ⟨gb410, 2, none⟩) (Kd.R_far (p := ⟨gb410, 1, none⟩) (Kd.R_far (p := ⟨gb410, 0, none⟩) (Kd.R_types HO_5.out BK410.out (by decide)) (fun _ hk => hk.2) (.bool t400)) (fun _ hk => hk.2) (.bool t401)) (fun _ hk => hk.2) (.bool t402)) (fun _ hk => hk.2) (.bool t403)) (fun _ hk => hk.2) (.bool t404)) (fun _ hk => hk.2) (.bool t405)) (fun _ hk => hk.2) (.bool t406)) (fun _ hk => hk.2) (.bool t407)) (fun _ hk => hk.2) (.int .i64 t408)) (fun _ h_ => h_.1))) : P := h
theorem Z10_19 {P : Prop} (h : P := by first | (with_reducible assumption) | assumption) : P := h
theorem Z10_18 {P : Prop} (h : P := by first | rfl | exact congrArg (Value.int .i64) (i64_w _) | (simp; done) | (simp [*]; done)) : P := h
theorem Z10_17 {P : Prop} (h : P := by repeat (first | (with_reducible first | exact HB.out | apply below_alloc | apply pw_below_drewN | apply below_drew1 | refine below_set ?_ GE410.out) | exact HB.out)) : P := h
theorem Z10_16 {P : Prop} (h : P := by (with_reducible repeat (first | apply blk_drewN | apply blk_drew | apply blk_alloc)); exact BK417.out) : P := h
theorem Z10_15 {P : Prop} (h : P := by repeat (first | (with_reducible first | exact HB.out | apply below_alloc | apply pw_below_drewN | apply below_drew1 | refine below_set ?_ GE410.out | refine below_set ?_ GE417.out) | exact HB.out)) : P := h
theorem Z10_14 {P : Prop} (h : P := by (with_reducible repeat (first | apply blk_drewN | apply blk_drew | apply blk_alloc)); refine blk_put (cs := #[.int .i64 t412, .int .i64 t413, .int .i64 t414, .int .i64 t415, .int .u64 0]) ?_ 4 _ rfl; (with_reducible repeat (first | apply blk_drewN | apply blk_drew | apply blk_alloc)); refine blk_put (cs := #[.int .i64 t412, .int .i64 t413, .int .i64 t414, .int .i64 0, .int .u64 0]) ?_ 3 _ rfl; (with_reducible repeat (first | apply blk_drewN | apply blk_drew | apply blk_alloc)); refine blk_put (cs := #[.int .i64 t412, .int .i64 t413, .int .i64 0, .int .i64 0, .int .u64 0]) ?_ 2 _ rfl; (with_reducible repeat (first | apply blk_drewN | apply blk_drew | apply blk_alloc)); refine blk_put (cs := #[.int .i64 t412, .int .i64 0, .int .i64 0, .int .i64 0, .int .u64 0]) ?_ 1 _ rfl; (with_reducible repeat (first | apply blk_drewN | apply blk_drew | apply blk_alloc)); refine blk_put (cs := #[.int .i64 0, .int .i64 0, .int .i64 0, .int .i64 0, .int .u64 0]) ?_ 0 _ rfl; (with_reducible repeat (first | apply blk_drewN | apply blk_drew | apply blk_alloc)); exact BK417.out) : P := h
theorem Z10_13 {P : Prop} (h : P := by (with_reducible repeat (first | apply Kd.R_alloc | apply Kd.R_drewN | apply Kd.R_drew)); exact HO_5.out) : P := h
theorem Z10_12 {P : Prop} (h : P := by (with_reducible repeat (first | apply Kd.R_alloc | apply Kd.R_drewN | apply Kd.R_drew)); exact HO_3.out) : P := h
theorem Z10_11 {P : Prop} (h : P := by (with_reducible repeat (first | apply Kd.R_alloc | apply Kd.R_drewN | apply Kd.R_drew)); exact (Kd.R_mono (Kd.R_far (p := ⟨gb417, 4, none⟩) (Kd.R_far (p := ⟨gb417, 3, none⟩) (Kd.R_far (p := ⟨gb417, 2, none⟩) (Kd.R_far (p := ⟨gb417, 1, none⟩) (Kd.R_far (p := ⟨gb417, 0, none⟩) (Kd.R_types HO_3.out BK417.out (by decide)) (fun _ hk => hk.2) (.int .i64 t412)) (fun _ hk => hk.2) (.int .i64 t413)) (fun _ hk => hk.2) (.int .i64 t414)) (fun _ hk => hk.2) (.int .i64 t415)) (fun _ hk => hk.2) (.int .u64 t416)) (fun _ h_ => h_.1))) : P := h
theorem Z10_10 {P : Prop} (h : P := by (with_reducible repeat (first | apply Kd.R_alloc | apply Kd.R_drewN | apply Kd.R_drew)); exact Kd.R_mono (Kd.R_far (p := ⟨gb424, 4, none⟩) (Kd.R_far (p := ⟨gb424, 3, none⟩) (Kd.R_far (p := ⟨gb424, 2, none⟩) (Kd.R_far (p := ⟨gb424, 1, none⟩) (Kd.R_far (p := ⟨gb424, 0, none⟩) (Kd.R_types HO_5.out BK424.out (by decide)) (fun _ hk => hk.2) (.int .i64 t419)) (fun _ hk => hk.2) (.int .i64 t420)) (fun _ hk => hk.2) (.int .i64 t421)) (fun _ hk => hk.2) (.int .i64 t422)) (fun _ hk => hk.2) (.int .u64 t423)) (fun _ hk => trivial)) : P := h
theorem Z10_9 {P : Prop} (h : P := by (with_reducible repeat (first | apply Kd.R_alloc | apply Kd.R_drewN | apply Kd.R_drew)); exact Kd.R_mono (Kd.R_far (p := ⟨gb424, 4, none⟩) (Kd.R_far (p := ⟨gb424, 3, none⟩) (Kd.R_far (p := ⟨gb424, 2, none⟩) (Kd.R_far (p := ⟨gb424, 1, none⟩) (Kd.R_far (p := ⟨gb424, 0, none⟩) (Kd.R_types HO_3.out BK424.out (by decide)) (fun _ hk => hk.2) (.int .i64 t419)) (fun _ hk => hk.2) (.int .i64 t420)) (fun _ hk => hk.2) (.int .i64 t421)) (fun _ hk => hk.2) (.int .i64 t422)) (fun _ hk => hk.2) (.int .u64 t423)) (fun _ hk => trivial)) : P := h
theorem Z10_8 {P : Prop} (h : P := by (with_reducible repeat (first | apply blk_drewN | apply blk_drew | apply blk_alloc)); exact BK410.out) : P := h
theorem Z10_7 {P : Prop} (h : P := by (with_reducible repeat (first | apply blk_drewN | apply blk_drew | apply blk_alloc)); refine blk_far ?_ NB417_424.out _; (with_reducible repeat (first | apply blk_drewN | apply blk_drew | apply blk_alloc)); refine blk_far ?_ NB417_424.out _; (with_reducible repeat (first | apply blk_drewN | apply blk_drew | apply blk_alloc)); refine blk_far ?_ NB417_424.out _; (with_reducible repeat (first | apply blk_drewN | apply blk_drew | apply blk_alloc)); refine blk_far ?_ NB417_424.out _; (with_reducible repeat (first | apply blk_drewN | apply blk_drew | apply blk_alloc)); refine blk_far ?_ NB417_424.out _; (with_reducible repeat (first | apply blk_drewN | apply blk_drew | apply blk_alloc)); exact BK417.out) : P := h
theorem Z10_6 {P : Prop} (h : P := by (with_reducible repeat (first | apply blk_drewN | apply blk_drew | apply blk_alloc)); refine blk_far ?_ NB410_424.out _; (with_reducible repeat (first | apply blk_drewN | apply blk_drew | apply blk_alloc)); refine blk_far ?_ NB410_424.out _; (with_reducible repeat (first | apply blk_drewN | apply blk_drew | apply blk_alloc)); refine blk_far ?_ NB410_424.out _; (with_reducible repeat (first | apply blk_drewN | apply blk_drew | apply blk_alloc)); refine blk_far ?_ NB410_424.out _; (with_reducible repeat (first | apply blk_drewN | apply blk_drew | apply blk_alloc)); refine blk_far ?_ NB410_424.out _; (with_reducible repeat (first | apply blk_drewN | apply blk_drew | apply blk_alloc)); exact BK410.out) : P := h
theorem Z10_5 {P : Prop} (h : P := by (with_reducible repeat (first | apply Kd.R_alloc | apply Kd.R_drewN | apply Kd.R_drew)); exact (Kd.R_mono (Kd.R_far (p := ⟨gb410, 8, none⟩) (Kd.R_far (p := ⟨gb410, 7, none⟩) (Kd.R_far (p := ⟨gb410, 6, none⟩) (Kd.R_far (p := ⟨gb410, 5, none⟩) (Kd.R_far (p := ⟨gb410, 4, none⟩) (Kd.R_far (p := ⟨gb410, 3, none⟩) (Kd.R_far (p := ⟨gb410, 2, none⟩) (Kd.R_far (p := ⟨gb410, 1, none⟩) (Kd.R_far (p := ⟨gb410, 0, none⟩) (Kd.R_types HO_3.out BK410.out (by decide)) (fun _ hk => hk.2) (.bool t400)) (fun _ hk => hk.2) (.bool t401)) (fun _ hk => hk.2) (.bool t402)) (fun _ hk => hk.2) (.bool t403)) (fun _ hk => hk.2) (.bool t404)) (fun _ hk => hk.2) (.bool t405)) (fun _ hk => hk.2) (.bool t406)) (fun _ hk => hk.2) (.bool t407)) (fun _ hk => hk.2) (.int .i64 t408)) (fun _ h_ => h_.1))) : P := h
theorem Z10_4 {P : Prop} (h : P := by repeat (first | (with_reducible first | exact HB.out | apply below_alloc | apply pw_below_drewN | apply below_drew1 | refine below_set ?_ GE410.out | refine below_set ?_ GE417.out | refine below_set ?_ GE424.out) | exact HB.out)) : P := h
theorem Z10_3 {P : Prop} (h : P := by (with_reducible repeat (first | apply blk_drewN | apply blk_drew | apply blk_alloc)); refine blk_put (cs := #[.bool t400, .bool t401, .bool t402, .bool t403, .bool t404, .bool t405, .bool t406, .bool t407, .int .i64 0]) ?_ 8 _ rfl; (with_reducible repeat (first | apply blk_drewN | apply blk_drew | apply blk_alloc)); refine blk_put (cs := #[.bool t400, .bool t401, .bool t402, .bool t403, .bool t404, .bool t405, .bool t406, .bool false, .int .i64 0]) ?_ 7 _ rfl; (with_reducible repeat (first | apply blk_drewN | apply blk_drew | apply blk_alloc)); refine blk_put (cs := #[.bool t400, .bool t401, .bool t402, .bool t403, .bool t404, .bool t405, .bool false, .bool false, .int .i64 0]) ?_ 6 _ rfl; (with_reducible repeat (first | apply blk_drewN | apply blk_drew | apply blk_alloc)); refine blk_put (cs := #[.bool t400, .bool t401, .bool t402, .bool t403, .bool t404, .bool false, .bool false, .bool false, .int .i64 0]) ?_ 5 _ rfl; (with_reducible repeat (first | apply blk_drewN | apply blk_drew | apply blk_alloc)); refine blk_put (cs := #[.bool t400, .bool t401, .bool t402, .bool t403, .bool false, .bool false, .bool false, .bool false, .int .i64 0]) ?_ 4 _ rfl; (with_reducible repeat (first | apply blk_drewN | apply blk_drew | apply blk_alloc)); refine blk_put (cs := #[.bool t400, .bool t401, .bool t402, .bool false, .bool false, .bool false, .bool false, .bool false, .int .i64 0]) ?_ 3 _ rfl; (with_reducible repeat (first | apply blk_drewN | apply blk_drew | apply blk_alloc)); refine blk_put (cs := #[.bool t400, .bool t401, .bool false, .bool false, .bool false, .bool false, .bool false, .bool false, .int .i64 0]) ?_ 2 _ rfl; (with_reducible repeat (first | apply blk_drewN | apply blk_drew | apply blk_alloc)); refine blk_put (cs := #[.bool t400, .bool false, .bool false, .bool false, .bool false, .bool false, .bool false, .bool false, .int .i64 0]) ?_ 1 _ rfl; (with_reducible repeat (first | apply blk_drewN | apply blk_drew | apply blk_alloc)); refine blk_put (cs := #[.bool false, .bool false, .bool false, .bool false, .bool false, .bool false, .bool false, .bool false, .int .i64 0]) ?_ 0 _ rfl; (with_reducible repeat (first | apply blk_drewN | apply blk_drew | apply blk_alloc)); exact BK410.out) : P := h
theorem Z10_2 {P : Prop} (h : P := by (with_reducible repeat (first | apply blk_drewN | apply blk_drew | apply blk_alloc)); refine blk_put (cs := #[.int .i64 t419, .int .i64 t420, .int .i64 t421, .int .i64 t422, .int .u64 0]) ?_ 4 _ rfl; (with_reducible repeat (first | apply blk_drewN | apply blk_drew | apply blk_alloc)); refine blk_put (cs := #[.int .i64 t419, .int .i64 t420, .int .i64 t421, .int .i64 0, .int .u64 0]) ?_ 3 _ rfl; (with_reducible repeat (first | apply blk_drewN | apply blk_drew | apply blk_alloc)); refine blk_put (cs := #[.int .i64 t419, .int .i64 t420, .int .i64 0, .int .i64 0, .int .u64 0]) ?_ 2 _ rfl; (with_reducible repeat (first | apply blk_drewN | apply blk_drew | apply blk_alloc)); refine blk_put (cs := #[.int .i64 t419, .int .i64 0, .int .i64 0, .int .i64 0, .int .u64 0]) ?_ 1 _ rfl; (with_reducible repeat (first | apply blk_drewN | apply blk_drew | apply blk_alloc)); refine blk_put (cs := #[.int .i64 0, .int .i64 0, .int .i64 0, .int .i64 0, .int .u64 0]) ?_ 0 _ rfl; (with_reducible repeat (first | apply blk_drewN | apply blk_drew | apply blk_alloc)); exact BK424.out) : P := h
theorem Z10_1 {P : Prop} (h : P := by repeat (first | (with_reducible first | exact HB.out | apply below_alloc | apply pw_below_drewN | apply below_drew1) | exact HB.out)) : P := h

/-! ### laws_FnLeavesFound: function 7 -/
mutual
def laws_FnLeavesFound.l0 : Nat → List Int → Int → List (S52) → Int → Option (Bool)
 | 0, _, _, _, _ => none
 | k + 1, x3, x4, x5, x6 => if x6 < (x5.length : Int) then (laws_FnLeavesFound.l1 k x3 x4 x5 x6 256 0) else (some true)
def laws_FnLeavesFound.l1 : Nat → List Int → Int → List (S52) → Int → Int → Int → Option (Bool)
 | 0, _, _, _, _, _, _ => none
 | k + 1, x3, x4, x5, x6, x7, x8 => if 0 ≤ x6 then (if x6 < (x5.length : Int) then (if x8 < ((rd_T52 x5 x6).f1) then (laws_FnLeavesFound.l1 k x3 x4 x5 x6 (wrap64 (x7 * 32)) (wrap64 (x8 + 1))) else ((impl_GetEntry.f ((rd_T52 x5 x6).f2)).bind fun bt400 => ((impl_Translate.f k x3 x4 (IntKind.u64.wrap ((rd_T52 x5 x6).f0)) 0 false).bind fun bt412 => ((impl_Translate.f k x3 x4 (IntKind.u64.wrap (wrap64 ((wrap64 (((rd_T52 x5 x6).f0) + x7)) - 1))) 0 false).bind fun bt419 => (if bt400.2.2.2.2.2.2.2.2.2 = true then (if bt400.1 = true then (if bt412.2.1 = ((rd_T52 x5 x6).f1) then (if bt419.2.1 = ((rd_T52 x5 x6).f1) then (if bt412.2.2.1 = bt419.2.2.1 then (laws_FnLeavesFound.j2 k x3 x4 x5 x6 x7 (bt412.1 != bt419.1) bt400.1 bt400.2.1 bt400.2.2.1 bt400.2.2.2.1 bt400.2.2.2.2.1 bt400.2.2.2.2.2.1 bt400.2.2.2.2.2.2.1 bt400.2.2.2.2.2.2.2.1 bt400.2.2.2.2.2.2.2.2.1 bt412.1 bt412.2.1 bt412.2.2.1 bt412.2.2.2.1 bt412.2.2.2.2 bt419.1 bt419.2.1 bt419.2.2.1 bt419.2.2.2.1 bt419.2.2.2.2) else (laws_FnLeavesFound.j2 k x3 x4 x5 x6 x7 true bt400.1 bt400.2.1 bt400.2.2.1 bt400.2.2.2.1 bt400.2.2.2.2.1 bt400.2.2.2.2.2.1 bt400.2.2.2.2.2.2.1 bt400.2.2.2.2.2.2.2.1 bt400.2.2.2.2.2.2.2.2.1 bt412.1 bt412.2.1 bt412.2.2.1 bt412.2.2.2.1 bt412.2.2.2.2 bt419.1 bt419.2.1 bt419.2.2.1 bt419.2.2.2.1 bt419.2.2.2.2)) else (laws_FnLeavesFound.j2 k x3 x4 x5 x6 x7 true bt400.1 bt400.2.1 bt400.2.2.1 bt400.2.2.2.1 bt400.2.2.2.2.1 bt400.2.2.2.2.2.1 bt400.2.2.2.2.2.2.1 bt400.2.2.2.2.2.2.2.1 bt400.2.2.2.2.2.2.2.2.1 bt412.1 bt412.2.1 bt412.2.2.1 bt412.2.2.2.1 bt412.2.2.2.2 bt419.1 bt419.2.1 bt419.2.2.1 bt419.2.2.2.1 bt419.2.2.2.2)) else (laws_FnLeavesFound.j2 k x3 x4 x5 x6 x7 true bt400.1 bt400.2.1 bt400.2.2.1 bt400.2.2.2.1 bt400.2.2.2.2.1 bt400.2.2.2.2.2.1 bt400.2.2.2.2.2.2.1 bt400.2.2.2.2.2.2.2.1 bt400.2.2.2.2.2.2.2.2.1 bt412.1 bt412.2.1 bt412.2.2.1 bt412.2.2.2.1 bt412.2.2.2.2 bt419.1 bt419.2.1 bt419.2.2.1 bt419.2.2.2.1 bt419.2.2.2.2)) else (laws_FnLeavesFound.j2 k x3 x4 x5 x6 x7 true bt400.1 bt400.2.1 bt400.2.2.1 bt400.2.2.2.1 bt400.2.2.2.2.1 bt400.2.2.2.2.2.1 bt400.2.2.2.2.2.2.1 bt400.2.2.2.2.2.2.2.1 bt400.2.2.2.2.2.2.2.2.1 bt412.1 bt412.2.1 bt412.2.2.1 bt412.2.2.2.1 bt412.2.2.2.2 bt419.1 bt419.2.1 bt419.2.2.1 bt419.2.2.2.1 bt419.2.2.2.2)) else (laws_FnLeavesFound.j2 k x3 x4 x5 x6 x7 true bt400.1 bt400.2.1 bt400.2.2.1 bt400.2.2.2.1 bt400.2.2.2.2.1 bt400.2.2.2.2.2.1 bt400.2.2.2.2.2.2.1 bt400.2.2.2.2.2.2.2.1 bt400.2.2.2.2.2.2.2.2.1 bt412.1 bt412.2.1 bt412.2.2.1 bt412.2.2.2.1 bt412.2.2.2.2 bt419.1 bt419.2.1 bt419.2.2.1 bt419.2.2.2.1 bt419.2.2.2.2)))))) else (none)) else (none)
def laws_FnLeavesFound.j2 : Nat → List Int → Int → List (S52) → Int → Int → Bool → Bool → Bool → Bool → Bool → Bool → Bool → Bool → Bool → Int → Int → Int → Int → Int → Int → Int → Int → Int → Int → Int → Option (Bool)
 | 0, _, _, _, _, _, _, _, _, _, _, _, _, _, _, _, _, _, _, _, _, _, _, _, _, _ => none
 | k + 1, x3, x4, x5, x6, x7, x124, x411000, x411001, x411002, x411003, x411004, x411005, x411006, x411007, x411008, x418000, x418001, x418002, x418003, x418004, x425000, x425001, x425002, x425003, x425004 => if x124 = true then (none) else (if x411001 = true then (if x418000 = 0 then (if x418003 = (wrap64 (x411008 * 256)) then (laws_FnLeavesFound.j3 k x3 x4 x5 x6 x7 (x425003 != (wrap64 ((wrap64 (x418003 + x7)) - 1))) x411000 x411001 x411002 x411003 x411004 x411005 x411006 x411007 x411008 x418000 x418001 x418002 x418003 x418004) else (laws_FnLeavesFound.j3 k x3 x4 x5 x6 x7 true x411000 x411001 x411002 x411003 x411004 x411005 x411006 x411007 x411008 x418000 x418001 x418002 x418003 x418004)) else (laws_FnLeavesFound.j3 k x3 x4 x5 x6 x7 true x411000 x411001 x411002 x411003 x411004 x411005 x411006 x411007 x411008 x418000 x418001 x418002 x418003 x418004)) else (laws_FnLeavesFound.j3 k x3 x4 x5 x6 x7 false x411000 x411001 x411002 x411003 x411004 x411005 x411006 x411007 x411008 x418000 x418001 x418002 x418003 x418004))
def laws_FnLeavesFound.j3 : Nat → List Int → Int → List (S52) → Int → Int → Bool → Bool → Bool → Bool → Bool → Bool → Bool → Bool → Bool → Int → Int → Int → Int → Int → Int → Option (Bool)
 | 0, _, _, _, _, _, _, _, _, _, _, _, _, _, _, _, _, _, _, _, _ => none
 | k + 1, x3, x4, x5, x6, x7, x149, x411000, x411001, x411002, x411003, x411004, x411005, x411006, x411007, x411008, x418000, x418001, x418002, x418003, x418004 => if x149 = true then (none) else (if x411001 = true then (laws_FnLeavesFound.j4 k x3 x4 x5 x6 x7 false) else (laws_FnLeavesFound.j4 k x3 x4 x5 x6 x7 (x418000 != 8)))
def laws_FnLeavesFound.j4 : Nat → List Int → Int → List (S52) → Int → Int → Bool → Option (Bool)
 | 0, _, _, _, _, _, _ => none
 | k + 1, x3, x4, x5, x6, x7, x157 => if x157 = true then (none) else (if 0 ≤ x6 then (if x6 < (x5.length : Int) then (if (wrap64 (x6 + 1)) < (x5.length : Int) then (if 0 ≤ (wrap64 (x6 + 1)) then (laws_FnLeavesFound.j5 k x3 x4 x5 x6 (wrap64 (((rd_T52 x5 x6).f0) + x7)) ((rd_T52 x5 (wrap64 (x6 + 1))).f0)) else (none)) else (laws_FnLeavesFound.j5 k x3 x4 x5 x6 (wrap64 (((rd_T52 x5 x6).f0) + x7)) 8388608)) else (none)) else (none))
def laws_FnLeavesFound.j5 : Nat → List Int → Int → List (S52) → Int → Int → Int → Option (Bool)
 | 0, _, _, _, _, _, _ => none
 | k + 1, x3, x4, x5, x6, x13, x14 => if x14 < x13 then (none) else (if x14 > x13 then ((impl_Translate.f k x3 x4 (IntKind.u64.wrap (x13)) 0 false).bind fun bt429 => (if bt429.1 = 0 then (none) else (if bt429.1 = 8 then (none) else (if bt429.1 = 7 then (none) else (laws_FnLeavesFound.l0 k x3 x4 x5 (wrap64 (x6 + 1))))))) else (laws_FnLeavesFound.l0 k x3 x4 x5 (wrap64 (x6 + 1))))
end
def laws_FnLeavesFound.f (k : Nat) (l0 : List Int) : Option (Bool) := (laws_big.f l0).bind fun t379 => (if t379 = true then (some true) else ((spec_DrawLeaves.f k l0).bind fun bt380 => ((impl_Leaves.f k bt380.1 bt380.2).bind fun t384 => ((impl_Translate.f k (([1] : List Int)) 0 0 0 true).bind fun bt390 => (if bt390.1 = 1 then ((spec_Leaves.f k bt380.1 bt380.2).bind fun t395 => (if (t384.length : Int) = (t395.length : Int) then (laws_FnLeavesFound.l0 k bt380.1 bt380.2 t384 0) else (none))) else (none))))))
theorem laws_FnLeavesFound.mono_l : ∀ k, (∀ y0 y1 y2 y3, LeO (laws_FnLeavesFound.l0 k y0 y1 y2 y3) (laws_FnLeavesFound.l0 (k + 1) y0 y1 y2 y3)) ∧ (∀ y0 y1 y2 y3 y4 y5, LeO (laws_FnLeavesFound.l1 k y0 y1 y2 y3 y4 y5) (laws_FnLeavesFound.l1 (k + 1) y0 y1 y2 y3 y4 y5)) ∧ (∀ y0 y1 y2 y3 y4 y5 y6 y7 y8 y9 y10 y11 y12 y13 y14 y15 y16 y17 y18 y19 y20 y21 y22 y23 y24, LeO (laws_FnLeavesFound.j2 k y0 y1 y2 y3 y4 y5 y6 y7 y8 y9 y10 y11 y12 y13 y14 y15 y16 y17 y18 y19 y20 y21 y22 y23 y24) (laws_FnLeavesFound.j2 (k + 1) y0 y1 y2 y3 y4 y5 y6 y7 y8 y9 y10 y11 y12 y13 y14 y15 y16 y17 y18 y19 y20 y21 y22 y23 y24)) ∧ (∀ y0 y1 y2 y3 y4 y5 y6 y7 y8 y9 y10 y11 y12 y13 y14 y15 y16 y17 y18 y19, LeO (laws_FnLeavesFound.j3 k y0 y1 y2 y3 y4 y5 y6 y7 y8 y9 y10 y11 y12 y13 y14 y15 y16 y17 y18 y19) (laws_FnLeavesFound.j3 (k + 1) y0 y1 y2 y3 y4 y5 y6 y7 y8 y9 y10 y11 y12 y13 y14 y15 y16 y17 y18 y19)) ∧ (∀ y0 y1 y2 y3 y4 y5, LeO (laws_FnLeavesFound.j4 k y0 y1 y2 y3 y4 y5) (laws_FnLeavesFound.j4 (k + 1) y0 y1 y2 y3 y4 y5)) ∧ (∀ y0 y1 y2 y3 y4 y5, LeO (laws_FnLeavesFound.j5 k y0 y1 y2 y3 y4 y5) (laws_FnLeavesFound.j5 (k + 1) y0 y1 y2 y3 y4 y5))
 | 0 => ⟨fun _ _ _ _ r h => by simp [laws_FnLeavesFound.l0] at h, fun _ _ _ _ _ _ r h => by simp [laws_FnLeavesFound.l1] at h, fun _ _ _ _ _ _ _ _ _ _ _ _ _ _ _ _ _ _ _ _ _ _ _ _ _ r h => by simp [laws_FnLeavesFound.j2] at h, fun _ _ _ _ _ _ _ _ _ _ _ _ _ _ _ _ _ _ _ _ r h => by simp [laws_FnLeavesFound.j3] at h, fun _ _ _ _ _ _ r h => by simp [laws_FnLeavesFound.j4] at h, fun _ _ _ _ _ _ r h => by simp [laws_FnLeavesFound.j5] at h⟩
 | k + 1 => by
  obtain ⟨ih0, ih1, ih2, ih3, ih4, ih5⟩ := laws_FnLeavesFound.mono_l k
  refine ⟨?_, ?_, ?_, ?_, ?_, ?_⟩
  ·intro y0 y1 y2 y3
   unfold laws_FnLeavesFound.l0
   repeat' first
   | (with_reducible exact ih0 _ _ _ _)
   | (with_reducible exact ih1 _ _ _ _ _ _)
   | (with_reducible exact ih2 _ _ _ _ _ _ _ _ _ _ _ _ _ _ _ _ _ _ _ _ _ _ _ _ _)
   | (with_reducible exact ih3 _ _ _ _ _ _ _ _ _ _ _ _ _ _ _ _ _ _ _ _)
   | (with_reducible exact ih4 _ _ _ _ _ _)
   | (with_reducible exact ih5 _ _ _ _ _ _)
   | (with_reducible exact impl_Leaves.mono _ _ _)
   | (with_reducible exact impl_Translate.mono _ _ _ _ _ _)
   | (with_reducible exact spec_DrawLeaves.mono _ _)
   | (with_reducible exact spec_Leaves.mono _ _ _)
   | (with_reducible exact LeO.refl _)
   | (with_reducible exact LeO.none _)
   | (with_reducible refine LeO.ite ?_ ?_)
   | (with_reducible refine LeO.bind ?_ (fun _ => ?_))
   | exact ih0 _ _ _ _
   | exact ih1 _ _ _ _ _ _
   | exact ih2 _ _ _ _ _ _ _ _ _ _ _ _ _ _ _ _ _ _ _ _ _ _ _ _ _
   | exact ih3 _ _ _ _ _ _ _ _ _ _ _ _ _ _ _ _ _ _ _ _
   | exact ih4 _ _ _ _ _ _
   | exact ih5 _ _ _ _ _ _
   | exact impl_Leaves.mono _ _ _
   | exact impl_Translate.mono _ _ _ _ _ _
   | exact spec_DrawLeaves.mono _ _
   | exact spec_Leaves.mono _ _ _
   | exact LeO.none _
   | refine LeO.ite ?_ ?_
   | refine LeO.bind ?_ (fun _ => ?_)
  ·intro y0 y1 y2 y3 y4 y5
   unfold laws_FnLeavesFound.l1
   repeat' first
   | (with_reducible exact ih0 _ _ _ _)
   | (with_reducible exact ih1 _ _ _ _ _ _)
   | (with_reducible exact ih2 _ _ _ _ _ _ _ _ _ _ _ _ _ _ _ _ _ _ _ _ _ _ _ _ _)
   | (with_reducible exact ih3 _ _ _ _ _ _ _ _ _ _ _ _ _ _ _ _ _ _ _ _)
   | (with_reducible exact ih4 _ _ _ _ _ _)
   | (with_reducible exact ih5 _ _ _ _ _ _)
   | (with_reducible exact impl_Leaves.mono _ _ _)
   | (with_reducible exact impl_Translate.mono _ _ _ _ _ _)
   | (with_reducible exact spec_DrawLeaves.mono _ _)
   | (with_reducible exact spec_Leaves.mono _ _ _)
   | (with_reducible exact LeO.refl _)
   | (with_reducible exact LeO.none _)
   | (with_reducible refine LeO.ite ?_ ?_)
   | (with_reducible refine LeO.bind ?_ (fun _ => ?_))
   | exact ih0 _ _ _ _
   | exact ih1 _ _ _ _ _ _
   | exact ih2 _ _ _ _ _ _ _ _ _ _ _ _ _ _ _ _ _ _ _ _ _ _ _ _ _
   | exact ih3 _ _ _ _ _ _ _ _ _ _ _ _ _ _ _ _ _ _ _ _
   | exact ih4 _ _ _ _ _ _
   | exact ih5 _ _ _ _ _ _
   | exact impl_Leaves.mono _ _ _
   | exact impl_Translate.mono _ _ _ _ _ _
   | exact spec_DrawLeaves.mono _ _
   | exact spec_Leaves.mono _ _ _
   | exact LeO.none _
   | refine LeO.ite ?_ ?_
   | refine LeO.bind ?_ (fun _ => ?_)
  ·intro y0 y1 y2 y3 y4 y5 y6 y7 y8 y9 y10 y11 y12 y13 y14 y15 y16 y17 y18 y19 y20 y21 y22 y23 y24
   unfold laws_FnLeavesFound.j2
   repeat' first
   | (with_reducible exact ih0 _ _ _ _)
   | (with_reducible exact ih1 _ _ _ _ _ _)
   | (with_reducible exact ih2 _ _ _ _ _ _ _ _ _ _ _ _ _ _ _ _ _ _ _ _ _ _ _ _ _)
   | (with_reducible exact ih3 _ _ _ _ _ _ _ _ _ _ _ _ _ _ _ _ _ _ _ _)
   | (with_reducible exact ih4 _ _ _ _ _ _)
   | (with_reducible exact ih5 _ _ _ _ _ _)
   | (with_reducible exact impl_Leaves.mono _ _ _)
   | (with_reducible exact impl_Translate.mono _ _ _ _ _ _)
   | (with_reducible exact spec_DrawLeaves.mono _ _)
   | (with_reducible exact spec_Leaves.mono _ _ _)
   | (with_reducible exact LeO.refl _)
   | (with_reducible exact LeO.none _)
   | (with_reducible refine LeO.ite ?_ ?_)
   | (with_reducible refine LeO.bind ?_ (fun _ => ?_))
   | exact ih0 _ _ _ _
   | exact ih1 _ _ _ _ _ _
   | exact ih2 _ _ _ _ _ _ _ _ _ _ _ _ _ _ _ _ _ _ _ _ _ _ _ _ _
   | exact ih3 _ _ _ _ _ _ _ _ _ _ _ _ _ _ _ _ _ _ _ _
   | exact ih4 _ _ _ _ _ _
   | exact ih5 _ _ _ _ _ _
   | exact impl_Leaves.mono _ _ _
   | exact impl_Translate.mono _ _ _ _ _ _
   | exact spec_DrawLeaves.mono _ _
   | exact spec_Leaves.mono _ _ _
   | exact LeO.none _
   | refine LeO.ite ?_ ?_
   | refine LeO.bind ?_ (fun _ => ?_)
  ·intro y0 y1 y2 y3 y4 y5 y6 y7 y8 y9 y10 y11 y12 y13 y14 y15 y16 y17 y18 y19
   unfold laws_FnLeavesFound.j3
   repeat' first
   | (with_reducible exact ih0 _ _ _ _)
   | (with_reducible exact ih1 _ _ _ _ _ _)
   | (with_reducible exact ih2 _ _ _ _ _ _ _ _ _ _ _ _ _ _ _ _ _ _ _ _ _ _ _ _ _)
   | (with_reducible exact ih3 _ _ _ _ _ _ _ _ _ _ _ _ _ _ _ _ _ _ _ _)
   | (with_reducible exact ih4 _ _ _ _ _ _)
   | (with_reducible exact ih5 _ _ _ _ _ _)
   | (with_reducible exact impl_Leaves.mono _ _ _)
   | (with_reducible exact impl_Translate.mono _ _ _ _ _ _)
   | (with_reducible exact spec_DrawLeaves.mono _ _)
   | (with_reducible exact spec_Leaves.mono _ _ _)
   | (with_reducible exact LeO.refl _)
   | (with_reducible exact LeO.none _)
   | (with_reducible refine LeO.ite ?_ ?_)
   | (with_reducible refine LeO.bind ?_ (fun _ => ?_))
   | exact ih0 _ _ _ _
   | exact ih1 _ _ _ _ _ _
   | exact ih2 _ _ _ _ _ _ _ _ _ _ _ _ _ _ _ _ _ _ _ _ _ _ _ _ _
   | exact ih3 _ _ _ _ _ _ _ _ _ _ _ _ _ _ _ _ _ _ _ _
   | exact ih4 _ _ _ _ _ _
   | exact ih5 _ _ _ _ _ _
   | exact impl_Leaves.mono _ _ _
   | exact impl_Translate.mono _ _ _ _ _ _
   | exact spec_DrawLeaves.mono _ _
   | exact spec_Leaves.mono _ _ _
   | exact LeO.none _
   | refine LeO.ite ?_ ?_
   | refine LeO.bind ?_ (fun _ => ?_)
  ·intro y0 y1 y2 y3 y4 y5
   unfold laws_FnLeavesFound.j4
   repeat' first
   | (with_reducible exact ih0 _ _ _ _)
   | (with_reducible exact ih1 _ _ _ _ _ _)
   | (with_reducible exact ih2 _ _ _ _ _ _ _ _ _ _ _ _ _ _ _ _ _ _ _ _ _ _ _ _ _)
   | (with_reducible exact ih3 _ _ _ _ _ _ _ _ _ _ _ _ _ _ _ _ _ _ _ _)
   | (with_reducible exact ih4 _ _ _ _ _ _)
   | (with_reducible exact ih5 _ _ _ _ _ _)
   | (with_reducible exact impl_Leaves.mono _ _ _)
   | (with_reducible exact impl_Translate.mono _ _ _ _ _ _)
   | (with_reducible exact spec_DrawLeaves.mono _ _)
   | (with_reducible exact spec_Leaves.mono _ _ _)
   | (with_reducible exact LeO.refl _)
   | (with_reducible exact LeO.none _)
   | (with_reducible refine LeO.ite ?_ ?_)
   | (with_reducible refine LeO.bind ?_ (fun _ => ?_))
   | exact ih0 _ _ _ _
   | exact ih1 _ _ _ _ _ _
   | exact ih2 _ _ _ _ _ _ _ _ _ _ _ _ _ _ _ _ _ _ _ _ _ _ _ _ _
   | exact ih3 _ _ _ _ _ _ _ _ _ _ _ _ _ _ _ _ _ _ _ _
   | exact ih4 _ _ _ _ _ _
   | exact ih5 _ _ _ _ _ _
   | exact impl_Leaves.mono _ _ _
   | exact impl_Translate.mono _ _ _ _ _ _
   | exact spec_DrawLeaves.mono _ _
   | exact spec_Leaves.mono _ _ _
   | exact LeO.none _
   | refine LeO.ite ?_ ?_
   | refine LeO.bind ?_ (fun _ => ?_)
  ·intro y0 y1 y2 y3 y4 y5
   unfold laws_FnLeavesFound.j5
   repeat' first
   | (with_reducible exact ih0 _ _ _ _)
   | (with_reducible exact ih1 _ _ _ _ _ _)
   | (with_reducible exact ih2 _ _ _ _ _ _ _ _ _ _ _ _ _ _ _ _ _ _ _ _ _ _ _ _ _)
   | (with_reducible exact ih3 _ _ _ _ _ _ _ _ _ _ _ _ _ _ _ _ _ _ _ _)
   | (with_reducible exact ih4 _ _ _ _ _ _)
   | (with_reducible exact ih5 _ _ _ _ _ _)
   | (with_reducible exact impl_Leaves.mono _ _ _)
   | (with_reducible exact impl_Translate.mono _ _ _ _ _ _)
   | (with_reducible exact spec_DrawLeaves.mono _ _)
   | (with_reducible exact spec_Leaves.mono _ _ _)
   | (with_reducible exact LeO.refl _)
   | (with_reducible exact LeO.none _)
   | (with_reducible refine LeO.ite ?_ ?_)
   | (with_reducible refine LeO.bind ?_ (fun _ => ?_))
   | exact ih0 _ _ _ _
   | exact ih1 _ _ _ _ _ _
   | exact ih2 _ _ _ _ _ _ _ _ _ _ _ _ _ _ _ _ _ _ _ _ _ _ _ _ _
   | exact ih3 _ _ _ _ _ _ _ _ _ _ _ _ _ _ _ _ _ _ _ _
   | exact ih4 _ _ _ _ _ _
   | exact ih5 _ _ _ _ _ _
   | exact impl_Leaves.mono _ _ _
   | exact impl_Translate.mono _ _ _ _ _ _
   | exact spec_DrawLeaves.mono _ _
   | exact spec_Leaves.mono _ _ _
   | exact LeO.none _
   | refine LeO.ite ?_ ?_
   | refine LeO.bind ?_ (fun _ => ?_)
theorem laws_FnLeavesFound.mono : ∀ a0 k, LeO (laws_FnLeavesFound.f k a0) (laws_FnLeavesFound.f (k + 1) a0) := by
 intro a0 k
 obtain ⟨ih0, ih1, ih2, ih3, ih4, ih5⟩ := laws_FnLeavesFound.mono_l k
 unfold laws_FnLeavesFound.f
 repeat' first
   | (with_reducible exact ih0 _ _ _ _)
   | (with_reducible exact ih1 _ _ _ _ _ _)
   | (with_reducible exact ih2 _ _ _ _ _ _ _ _ _ _ _ _ _ _ _ _ _ _ _ _ _ _ _ _ _)
   | (with_reducible exact ih3 _ _ _ _ _ _ _ _ _ _ _ _ _ _ _ _ _ _ _ _)
   | (with_reducible exact ih4 _ _ _ _ _ _)
   | (with_reducible exact ih5 _ _ _ _ _ _)
   | (with_reducible exact impl_Leaves.mono _ _ _)
   | (with_reducible exact impl_Translate.mono _ _ _ _ _ _)
   | (with_reducible exact spec_DrawLeaves.mono _ _)
   | (with_reducible exact spec_Leaves.mono _ _ _)
   | (with_reducible exact LeO.refl _)
   | (with_reducible exact LeO.none _)
   | (with_reducible refine LeO.ite ?_ ?_)
   | (with_reducible refine LeO.bind ?_ (fun _ => ?_))
   | exact ih0 _ _ _ _
   | exact ih1 _ _ _ _ _ _
   | exact ih2 _ _ _ _ _ _ _ _ _ _ _ _ _ _ _ _ _ _ _ _ _ _ _ _ _
   | exact ih3 _ _ _ _ _ _ _ _ _ _ _ _ _ _ _ _ _ _ _ _
   | exact ih4 _ _ _ _ _ _
   | exact ih5 _ _ _ _ _ _
   | exact impl_Leaves.mono _ _ _
   | exact impl_Translate.mono _ _ _ _ _ _
   | exact spec_DrawLeaves.mono _ _
   | exact spec_Leaves.mono _ _ _
   | exact LeO.none _
   | refine LeO.ite ?_ ?_
   | refine LeO.bind ?_ (fun _ => ?_)
theorem laws_FnLeavesFound.field36_0 (a0 a1 a2 a3 a4 : Int) (w : World) : Sem.run Try.prog (Instr.field 36 (Value.agg #[.int .i64 a0, .int .i64 a1, .int .i64 a2, .int .i64 a3, .int .u64 a4]) 0) w = .ok (.int .i64 a0) w := by kernel_rfl
attribute [local go_sem] laws_FnLeavesFound.field36_0
set_option maxHeartbeats 64000000 in
set_option maxRecDepth 100000 in
theorem laws_FnLeavesFound.calls (k : Nat) (A0 : Option Addr) (c0 : Nat) (l0 : List Int) (r : Bool) (w : World) (hr0 : Kd.C (Kd.int .u8) w A0 l0.length l0) (hc0 : l0.length ≤ c0) (h : laws_FnLeavesFound.f k l0 = some r) :
  Calls Try.prog 7 #[.slice A0 l0.length c0] w fun e w' => e = .returned (.bool r) ∧ Below w.heap.size w w' := by
 have hu27 := Try.underlying27
 have hu36 := Try.underlying36
 have HR0 := Aside0.mk hr0
 have HC0 := Aside0.mk hc0
 clear hr0 hc0
 have HB := Aside0.mk (Below.refl w.heap.size w)
 have H : ((laws_big.f l0).bind fun t379 => (if t379 = true then (some true) else ((spec_DrawLeaves.f k l0).bind fun bt380 => ((impl_Leaves.f k bt380.1 bt380.2).bind fun t384 => ((impl_Translate.f k (([1] : List Int)) 0 0 0 true).bind fun bt390 => (if bt390.1 = 1 then ((spec_Leaves.f k bt380.1 bt380.2).bind fun t395 => (if (t384.length : Int) = (t395.length : Int) then (laws_FnLeavesFound.l0 k bt380.1 bt380.2 t384 0) else (none))) else (none))))))) = some r := h
 clear h
 replace H := Option.bind_eq_some_iff.mp H
 obtain ⟨t379, A20, H⟩ := H
 replace H : (if t379 = true then (some true) else ((spec_DrawLeaves.f k l0).bind fun bt380 => ((impl_Leaves.f k bt380.1 bt380.2).bind fun t384 => ((impl_Translate.f k (([1] : List Int)) 0 0 0 true).bind fun bt390 => (if bt390.1 = 1 then ((spec_Leaves.f k bt380.1 bt380.2).bind fun t395 => (if (t384.length : Int) = (t395.length : Int) then (laws_FnLeavesFound.l0 k bt380.1 bt380.2 t384 0) else (none))) else (none)))))) = some r := H
 have A2 := Aside0.mk A20
 clear A20
 by_cases c3 : t379 = true
 ·
  refine ?M1
  letI iM1 : Nonempty (type_of% ?M1) := ⟨(by
   subst c3
   have H1 : (some true) = some r := by rw [if_pos rfl] at H; exact H
   clear H
   have H := H1
   clear H1
   obtain rfl := Option.some.inj H
   go_enter Try.func7, Try.ntmps7
   go_wp2_with (first | (go_at_call 29; (with_reducible refine (laws_big.calls _ _ l0 true _ ?side1 ?side2 A2.out).mono ?_); (case side1 => exact Z10_28); (case side2 => exact HC0.out); rintro e w' ⟨rfl, ⟨nd, rfl⟩⟩; (try first | exact ⟨rfl, _, World.drewN_drewN _ _ _⟩ | exact ⟨rfl, _, Eq.trans (World.drewN_drewN _ _ _) (congrArg (World.drewN _) (Nat.add_assoc _ _ _))⟩)))
   repeat (go_quiet (first | (go_at_call 29; (with_reducible refine (laws_big.calls _ _ l0 true _ ?side1 ?side2 A2.out).mono ?_); (case side1 => exact Z10_28); (case side2 => exact HC0.out); rintro e w' ⟨rfl, ⟨nd, rfl⟩⟩; (try first | exact ⟨rfl, _, World.drewN_drewN _ _ _⟩ | exact ⟨rfl, _, Eq.trans (World.drewN_drewN _ _ _) (congrArg (World.drewN _) (Nat.add_assoc _ _ _))⟩))); try go_wp2_with (first | (go_at_call 29; (with_reducible refine (laws_big.calls _ _ l0 true _ ?side1 ?side2 A2.out).mono ?_); (case side1 => exact Z10_28); (case side2 => exact HC0.out); rintro e w' ⟨rfl, ⟨nd, rfl⟩⟩; (try first | exact ⟨rfl, _, World.drewN_drewN _ _ _⟩ | exact ⟨rfl, _, Eq.trans (World.drewN_drewN _ _ _) (congrArg (World.drewN _) (Nat.add_assoc _ _ _))⟩))))
   go_ret
   exact ⟨by first | rfl | (simp [errW_none, errW_some] <;> rfl) | (simp [*, errW_none, errW_some] <;> rfl), Z10_1⟩)⟩
  exact Nonempty.elim (inferInstanceAs (Nonempty (type_of% ?M1))) id
 replace c3 := Bool.eq_false_iff.mpr c3
 subst c3
 have H1 : ((spec_DrawLeaves.f k l0).bind fun bt380 => ((impl_Leaves.f k bt380.1 bt380.2).bind fun t384 => ((impl_Translate.f k (([1] : List Int)) 0 0 0 true).bind fun bt390 => (if bt390.1 = 1 then ((spec_Leaves.f k bt380.1 bt380.2).bind fun t395 => (if (t384.length : Int) = (t395.length : Int) then (laws_FnLeavesFound.l0 k bt380.1 bt380.2 t384 0) else (none))) else (none))))) = some r := by rw [if_neg (show ¬ (false = true) by decide)] at H; exact H
 clear H
 have H := H1
 clear H1
 replace H := Option.bind_eq_some_iff.mp H
 obtain ⟨⟨t380, t381⟩, A40, H⟩ := H
 replace H : ((impl_Leaves.f k t380 t381).bind fun t384 => ((impl_Translate.f k (([1] : List Int)) 0 0 0 true).bind fun bt390 => (if bt390.1 = 1 then ((spec_Leaves.f k t380 t381).bind fun t395 => (if (t384.length : Int) = (t395.length : Int) then (laws_FnLeavesFound.l0 k t380 t381 t384 0) else (none))) else (none)))) = some r := H
 have A4 := Aside0.mk A40
 clear A40
 replace H := Option.bind_eq_some_iff.mp H
 obtain ⟨t384, A50, H⟩ := H
 replace H : ((impl_Translate.f k (([1] : List Int)) 0 0 0 true).bind fun bt390 => (if bt390.1 = 1 then ((spec_Leaves.f k t380 t381).bind fun t395 => (if (t384.length : Int) = (t395.length : Int) then (laws_FnLeavesFound.l0 k t380 t381 t384 0) else (none))) else (none))) = some r := H
 have A5 := Aside0.mk A50
 clear A50
 obtain ⟨y387, hy387⟩ : ∃ y_ : List Int, y_ = (([1] : List Int)) := ⟨_, rfl⟩
 replace H : ((impl_Translate.f k y387 0 0 0 true).bind fun bt390 => (if bt390.1 = 1 then ((spec_Leaves.f k t380 t381).bind fun t395 => (if (t384.length : Int) = (t395.length : Int) then (laws_FnLeavesFound.l0 k t380 t381 t384 0) else (none))) else (none))) = some r := by first | (rw [hy387]; with_reducible exact H) | (have H2_ := (Option.bind_some _ _).symm.trans H; rw [hy387]; with_reducible exact H2_) | (have H2_ := (Option.bind_some _ _).symm.trans H; with_reducible exact H2_) | with_reducible exact H | (rw [hy387]; exact H) | exact H
 have Ny387 := Aside0.mk hy387
 clear hy387
 replace H := Option.bind_eq_some_iff.mp H
 obtain ⟨⟨t390, t391, t392, t393, t394⟩, A60, H⟩ := H
 replace H : (if t390 = 1 then ((spec_Leaves.f k t380 t381).bind fun t395 => (if (t384.length : Int) = (t395.length : Int) then (laws_FnLeavesFound.l0 k t380 t381 t384 0) else (none))) else (none)) = some r := H
 have A6 := Aside0.mk A60
 clear A60
 by_cases c7 : t390 = 1
 ·rw [if_pos c7] at H
  have c7b0 : (t390 == 1) = true := beq_iff_eq.mpr c7
  have c7b1 : (t390 != 1) = false := bne_eq_false_iff_eq.mpr c7
  clear c7
  replace H := Option.bind_eq_some_iff.mp H
  obtain ⟨t395, A80, H⟩ := H
  replace H : (if (t384.length : Int) = (t395.length : Int) then (laws_FnLeavesFound.l0 k t380 t381 t384 0) else (none)) = some r := H
  have A8 := Aside0.mk A80
  clear A80
  by_cases c9 : (t384.length : Int) = (t395.length : Int)
  ·rw [if_pos c9] at H
   have c9b0 : ((t384.length : Int) == (t395.length : Int)) = true := beq_iff_eq.mpr c9
   have c9b1 : ((t384.length : Int) != (t395.length : Int)) = false := bne_eq_false_iff_eq.mpr c9
   have c9b2 : (t384.length == t395.length) = true := by first | simpa using c9 | (simp at c9 ⊢; omega)
   clear c9
   have H' := Aside0.mk H
   clear H
   go_enter Try.func7, Try.ntmps7
   go_wp2_with (first | (go_at_call 29; (with_reducible refine (laws_big.calls _ _ l0 false _ ?side1 ?side2 A2.out).mono ?_); (case side1 => exact Z10_28); (case side2 => exact HC0.out); rintro e w' ⟨rfl, ⟨nd, rfl⟩⟩; (try first | exact ⟨rfl, _, World.drewN_drewN _ _ _⟩ | exact ⟨rfl, _, Eq.trans (World.drewN_drewN _ _ _) (congrArg (World.drewN _) (Nat.add_assoc _ _ _))⟩)) | (go_at_call 30; (with_reducible refine (spec_DrawLeaves.calls k _ _ l0 t380 t381 _ ?side1 ?side2 A4.out).mono ?_); (case side1 => exact Z10_28); (case side2 => exact HC0.out); rintro e w10 ⟨v382, rfl, ho0, hb⟩; have n0_ := Aside0.mk (Kd.R_lower ho0 (below_size Z10_1)); have n1_ := Aside0.mk (below_step Z10_1 hb); clear HB; have HO383 := n0_; have HB := n1_; clear n0_ n1_; (try clear hb); (try clear hb2 hk hi); (try clear ho0); obtain ⟨Ao11, co11, eo11⟩ := Kd.R_slice HO383.out; subst eo11) | (go_at_call 24; (with_reducible refine (impl_Leaves.calls k _ _ t380 t381 t384 _ ?side1 ?side2 A5.out).mono ?_); (case side1 => exact Z10_53); (case side2 => exact (Kd.R_reads' HO383.out).2.1); rintro e w12 ⟨v385, rfl, ho0, hb⟩; have n0_ := Aside0.mk (Kd.R_below Z10_21 hb); have n1_ := Aside0.mk (Kd.R_lower ho0 (below_size Z10_1)); have n2_ := Aside0.mk (below_step Z10_1 hb); clear HO383; clear HB; have HO383 := n0_; have HO386 := n1_; have HB := n2_; clear n0_ n1_ n2_; (try clear hb); (try clear hb2 hk hi); (try clear ho0)) | ((with_reducible refine gate_dst (N := 26) rfl ?_); refine Kd.R_lit (Kd.int .u8) _ 5 ?hg (N := 26) ?hd (xs := ([1] : List Int)) (inner := [.int .u8 1]) (ok := fun _ => True) (okp := fun _ => True) ?hr ?hp (fun _ hk => hk) trivial (Below.refl _ _) (Nat.le_refl _) (by simp) ?_; (case hd => rfl); (case hg => rfl); (case hr => exact Z10_55); (case hp => exact (Reps.one (show Kd.M (Kd.int .u8) _ _ _ 1 [.int .u8 1] from rfl) (Reps.none _ _))); intro v388 w13 ho14 hb hg_ hnew_; clear hg_ hnew_; (first | rw [← Ny387.out] at ho14 | (simp only [Int.reduceToNat] at ho14; rw [← Ny387.out] at ho14)); have n0_ := Aside0.mk (Kd.R_elder' Z10_21 (Kd.R_base ho14) hb); have n1_ := Aside0.mk (Kd.R_below Z10_29 hb); have n2_ := Aside0.mk (Kd.R_lower (Kd.R_new' ho14 (Kd.R_lt Z10_21)) (below_size Z10_1)); have n3_ := Aside0.mk (below_step Z10_1 hb); clear HO383; clear HO386; clear HB; have HO383 := n0_; have HO386 := n1_; have HO389 := n2_; have HB := n3_; clear n0_ n1_ n2_ n3_; clear hb ho14; obtain ⟨Ao15, co15, eo15⟩ := Kd.R_slice HO389.out; subst eo15) | (go_at_call 20; (with_reducible refine (impl_Translate.calls k _ _ y387 0 0 0 true t390 t391 t392 t393 t394 _ ?side1 ?side2 A6.out).mono ?_); (case side1 => exact Z10_56); (case side2 => exact (Kd.R_reads' HO389.out).2.1); rintro e w16 ⟨rfl, hb⟩; have n0_ := Aside0.mk (Kd.R_below Z10_21 hb); have n1_ := Aside0.mk (Kd.R_below Z10_29 hb); have n2_ := Aside0.mk (Kd.R_below Z10_54 hb); have n3_ := Aside0.mk (below_step Z10_1 hb); clear HO383; clear HO386; clear HO389; clear HB; have HO383 := n0_; have HO386 := n1_; have HO389 := n2_; have HB := n3_; clear n0_ n1_ n2_ n3_; (try clear hb); (try clear hb2); (try clear hk); (try clear hi); obtain ⟨Ao17, co17, eo17⟩ := Kd.R_slice HO386.out; subst eo17) | (go_at_call 23; (with_reducible refine (spec_Leaves.calls k _ _ t380 t381 t395 _ ?side1 ?side2 A8.out).mono ?_); (case side1 => exact Z10_53); (case side2 => exact (Kd.R_reads' HO383.out).2.1); rintro e w18 ⟨v396, rfl, ho0, hb⟩; have n0_ := Aside0.mk (Kd.R_below Z10_21 hb); have n1_ := Aside0.mk (Kd.R_elder' Z10_29 (Kd.R_base ho0) hb); have n2_ := Aside0.mk (Kd.R_below Z10_54 hb); have n3_ := Aside0.mk (Kd.R_lower (Kd.R_new' ho0 (Kd.R_lt Z10_29)) (below_size Z10_1)); have n4_ := Aside0.mk (below_step Z10_1 hb); clear HO383; clear HO386; clear HO389; clear HB; have HO383 := n0_; have HO386 := n1_; have HO389 := n2_; have HO397 := n3_; have HB := n4_; clear n0_ n1_ n2_ n3_ n4_; (try clear hb); (try clear hb2 hk hi); (try clear ho0); obtain ⟨Ao19, co19, eo19⟩ := Kd.R_slice HO397.out; subst eo19))
   repeat (go_quiet (first | (go_at_call 29; (with_reducible refine (laws_big.calls _ _ l0 false _ ?side1 ?side2 A2.out).mono ?_); (case side1 => exact Z10_28); (case side2 => exact HC0.out); rintro e w' ⟨rfl, ⟨nd, rfl⟩⟩; (try first | exact ⟨rfl, _, World.drewN_drewN _ _ _⟩ | exact ⟨rfl, _, Eq.trans (World.drewN_drewN _ _ _) (congrArg (World.drewN _) (Nat.add_assoc _ _ _))⟩)) | (go_at_call 30; (with_reducible refine (spec_DrawLeaves.calls k _ _ l0 t380 t381 _ ?side1 ?side2 A4.out).mono ?_); (case side1 => exact Z10_28); (case side2 => exact HC0.out); rintro e w10 ⟨v382, rfl, ho0, hb⟩; have n0_ := Aside0.mk (Kd.R_lower ho0 (below_size Z10_1)); have n1_ := Aside0.mk (below_step Z10_1 hb); clear HB; have HO383 := n0_; have HB := n1_; clear n0_ n1_; (try clear hb); (try clear hb2 hk hi); (try clear ho0); obtain ⟨Ao11, co11, eo11⟩ := Kd.R_slice HO383.out; subst eo11) | (go_at_call 24; (with_reducible refine (impl_Leaves.calls k _ _ t380 t381 t384 _ ?side1 ?side2 A5.out).mono ?_); (case side1 => exact Z10_53); (case side2 => exact (Kd.R_reads' HO383.out).2.1); rintro e w12 ⟨v385, rfl, ho0, hb⟩; have n0_ := Aside0.mk (Kd.R_below Z10_21 hb); have n1_ := Aside0.mk (Kd.R_lower ho0 (below_size Z10_1)); have n2_ := Aside0.mk (below_step Z10_1 hb); clear HO383; clear HB; have HO383 := n0_; have HO386 := n1_; have HB := n2_; clear n0_ n1_ n2_; (try clear hb); (try clear hb2 hk hi); (try clear ho0)) | ((with_reducible refine gate_dst (N := 26) rfl ?_); refine Kd.R_lit (Kd.int .u8) _ 5 ?hg (N := 26) ?hd (xs := ([1] : List Int)) (inner := [.int .u8 1]) (ok := fun _ => True) (okp := fun _ => True) ?hr ?hp (fun _ hk => hk) trivial (Below.refl _ _) (Nat.le_refl _) (by simp) ?_; (case hd => rfl); (case hg => rfl); (case hr => exact Z10_55); (case hp => exact (Reps.one (show Kd.M (Kd.int .u8) _ _ _ 1 [.int .u8 1] from rfl) (Reps.none _ _))); intro v388 w13 ho14 hb hg_ hnew_; clear hg_ hnew_; (first | rw [← Ny387.out] at ho14 | (simp only [Int.reduceToNat] at ho14; rw [← Ny387.out] at ho14)); have n0_ := Aside0.mk (Kd.R_elder' Z10_21 (Kd.R_base ho14) hb); have n1_ := Aside0.mk (Kd.R_below Z10_29 hb); have n2_ := Aside0.mk (Kd.R_lower (Kd.R_new' ho14 (Kd.R_lt Z10_21)) (below_size Z10_1)); have n3_ := Aside0.mk (below_step Z10_1 hb); clear HO383; clear HO386; clear HB; have HO383 := n0_; have HO386 := n1_; have HO389 := n2_; have HB := n3_; clear n0_ n1_ n2_ n3_; clear hb ho14; obtain ⟨Ao15, co15, eo15⟩ := Kd.R_slice HO389.out; subst eo15) | (go_at_call 20; (with_reducible refine (impl_Translate.calls k _ _ y387 0 0 0 true t390 t391 t392 t393 t394 _ ?side1 ?side2 A6.out).mono ?_); (case side1 => exact Z10_56); (case side2 => exact (Kd.R_reads' HO389.out).2.1); rintro e w16 ⟨rfl, hb⟩; have n0_ := Aside0.mk (Kd.R_below Z10_21 hb); have n1_ := Aside0.mk (Kd.R_below Z10_29 hb); have n2_ := Aside0.mk (Kd.R_below Z10_54 hb); have n3_ := Aside0.mk (below_step Z10_1 hb); clear HO383; clear HO386; clear HO389; clear HB; have HO383 := n0_; have HO386 := n1_; have HO389 := n2_; have HB := n3_; clear n0_ n1_ n2_ n3_; (try clear hb); (try clear hb2); (try clear hk); (try clear hi); obtain ⟨Ao17, co17, eo17⟩ := Kd.R_slice HO386.out; subst eo17) | (go_at_call 23; (with_reducible refine (spec_Leaves.calls k _ _ t380 t381 t395 _ ?side1 ?side2 A8.out).mono ?_); (case side1 => exact Z10_53); (case side2 => exact (Kd.R_reads' HO383.out).2.1); rintro e w18 ⟨v396, rfl, ho0, hb⟩; have n0_ := Aside0.mk (Kd.R_below Z10_21 hb); have n1_ := Aside0.mk (Kd.R_elder' Z10_29 (Kd.R_base ho0) hb); have n2_ := Aside0.mk (Kd.R_below Z10_54 hb); have n3_ := Aside0.mk (Kd.R_lower (Kd.R_new' ho0 (Kd.R_lt Z10_29)) (below_size Z10_1)); have n4_ := Aside0.mk (below_step Z10_1 hb); clear HO383; clear HO386; clear HO389; clear HB; have HO383 := n0_; have HO386 := n1_; have HO389 := n2_; have HO397 := n3_; have HB := n4_; clear n0_ n1_ n2_ n3_ n4_; (try clear hb); (try clear hb2 hk hi); (try clear ho0); obtain ⟨Ao19, co19, eo19⟩ := Kd.R_slice HO397.out; subst eo19)); try go_wp2_with (first | (go_at_call 29; (with_reducible refine (laws_big.calls _ _ l0 false _ ?side1 ?side2 A2.out).mono ?_); (case side1 => exact Z10_28); (case side2 => exact HC0.out); rintro e w' ⟨rfl, ⟨nd, rfl⟩⟩; (try first | exact ⟨rfl, _, World.drewN_drewN _ _ _⟩ | exact ⟨rfl, _, Eq.trans (World.drewN_drewN _ _ _) (congrArg (World.drewN _) (Nat.add_assoc _ _ _))⟩)) | (go_at_call 30; (with_reducible refine (spec_DrawLeaves.calls k _ _ l0 t380 t381 _ ?side1 ?side2 A4.out).mono ?_); (case side1 => exact Z10_28); (case side2 => exact HC0.out); rintro e w10 ⟨v382, rfl, ho0, hb⟩; have n0_ := Aside0.mk (Kd.R_lower ho0 (below_size Z10_1)); have n1_ := Aside0.mk (below_step Z10_1 hb); clear HB; have HO383 := n0_; have HB := n1_; clear n0_ n1_; (try clear hb); (try clear hb2 hk hi); (try clear ho0); obtain ⟨Ao11, co11, eo11⟩ := Kd.R_slice HO383.out; subst eo11) | (go_at_call 24; (with_reducible refine (impl_Leaves.calls k _ _ t380 t381 t384 _ ?side1 ?side2 A5.out).mono ?_); (case side1 => exact Z10_53); (case side2 => exact (Kd.R_reads' HO383.out).2.1); rintro e w12 ⟨v385, rfl, ho0, hb⟩; have n0_ := Aside0.mk (Kd.R_below Z10_21 hb); have n1_ := Aside0.mk (Kd.R_lower ho0 (below_size Z10_1)); have n2_ := Aside0.mk (below_step Z10_1 hb); clear HO383; clear HB; have HO383 := n0_; have HO386 := n1_; have HB := n2_; clear n0_ n1_ n2_; (try clear hb); (try clear hb2 hk hi); (try clear ho0)) | ((with_reducible refine gate_dst (N := 26) rfl ?_); refine Kd.R_lit (Kd.int .u8) _ 5 ?hg (N := 26) ?hd (xs := ([1] : List Int)) (inner := [.int .u8 1]) (ok := fun _ => True) (okp := fun _ => True) ?hr ?hp (fun _ hk => hk) trivial (Below.refl _ _) (Nat.le_refl _) (by simp) ?_; (case hd => rfl); (case hg => rfl); (case hr => exact Z10_55); (case hp => exact (Reps.one (show Kd.M (Kd.int .u8) _ _ _ 1 [.int .u8 1] from rfl) (Reps.none _ _))); intro v388 w13 ho14 hb hg_ hnew_; clear hg_ hnew_; (first | rw [← Ny387.out] at ho14 | (simp only [Int.reduceToNat] at ho14; rw [← Ny387.out] at ho14)); have n0_ := Aside0.mk (Kd.R_elder' Z10_21 (Kd.R_base ho14) hb); have n1_ := Aside0.mk (Kd.R_below Z10_29 hb); have n2_ := Aside0.mk (Kd.R_lower (Kd.R_new' ho14 (Kd.R_lt Z10_21)) (below_size Z10_1)); have n3_ := Aside0.mk (below_step Z10_1 hb); clear HO383; clear HO386; clear HB; have HO383 := n0_; have HO386 := n1_; have HO389 := n2_; have HB := n3_; clear n0_ n1_ n2_ n3_; clear hb ho14; obtain ⟨Ao15, co15, eo15⟩ := Kd.R_slice HO389.out; subst eo15) | (go_at_call 20; (with_reducible refine (impl_Translate.calls k _ _ y387 0 0 0 true t390 t391 t392 t393 t394 _ ?side1 ?side2 A6.out).mono ?_); (case side1 => exact Z10_56); (case side2 => exact (Kd.R_reads' HO389.out).2.1); rintro e w16 ⟨rfl, hb⟩; have n0_ := Aside0.mk (Kd.R_below Z10_21 hb); have n1_ := Aside0.mk (Kd.R_below Z10_29 hb); have n2_ := Aside0.mk (Kd.R_below Z10_54 hb); have n3_ := Aside0.mk (below_step Z10_1 hb); clear HO383; clear HO386; clear HO389; clear HB; have HO383 := n0_; have HO386 := n1_; have HO389 := n2_; have HB := n3_; clear n0_ n1_ n2_ n3_; (try clear hb); (try clear hb2); (try clear hk); (try clear hi); obtain ⟨Ao17, co17, eo17⟩ := Kd.R_slice HO386.out; subst eo17) | (go_at_call 23; (with_reducible refine (spec_Leaves.calls k _ _ t380 t381 t395 _ ?side1 ?side2 A8.out).mono ?_); (case side1 => exact Z10_53); (case side2 => exact (Kd.R_reads' HO383.out).2.1); rintro e w18 ⟨v396, rfl, ho0, hb⟩; have n0_ := Aside0.mk (Kd.R_below Z10_21 hb); have n1_ := Aside0.mk (Kd.R_elder' Z10_29 (Kd.R_base ho0) hb); have n2_ := Aside0.mk (Kd.R_below Z10_54 hb); have n3_ := Aside0.mk (Kd.R_lower (Kd.R_new' ho0 (Kd.R_lt Z10_29)) (below_size Z10_1)); have n4_ := Aside0.mk (below_step Z10_1 hb); clear HO383; clear HO386; clear HO389; clear HB; have HO383 := n0_; have HO386 := n1_; have HO389 := n2_; have HO397 := n3_; have HB := n4_; clear n0_ n1_ n2_ n3_ n4_; (try clear hb); (try clear hb2 hk hi); (try clear ho0); obtain ⟨Ao19, co19, eo19⟩ := Kd.R_slice HO397.out; subst eo19)))
   go_loopg [6] k (fun kq v6 w' => ∃ (x6_1 : Int), v6 = .int .i64 x6_1 ∧ Aside0 (laws_FnLeavesFound.l0 kq t380 t381 t384 x6_1 = some r) ∧ Aside0 (kq ≤ k) ∧ Aside0 (Kd.R (Kd.int .u8) 5 w' w.heap.size (fun _ => True) (.slice Ao11 t380.length co11) t380) ∧ Aside0 (Kd.R k52 52 w' w.heap.size (fun _ => True) (.slice Ao17 t384.length co17) t384) ∧ Aside0 (Below w.heap.size w w'))
   case atStart => exact ⟨(0), Z10_18, H', ⟨Nat.le_refl _⟩, ⟨by (with_reducible repeat (first | apply Kd.R_alloc | apply Kd.R_drewN | apply Kd.R_drew)); exact Kd.R_mono HO383.out (fun _ hk => trivial)⟩, ⟨by (with_reducible repeat (first | apply Kd.R_alloc | apply Kd.R_drewN | apply Kd.R_drew)); exact Kd.R_mono HO386.out (fun _ hk => trivial)⟩, ⟨Z10_1⟩⟩
   clear H'
   try clear p2
   try clear c3
   try clear c7
   try clear c7b0
   try clear c7b1
   try clear c9
   try clear c9b0
   try clear c9b1
   try clear c9b2
   obtain ⟨x6_1, rfl, HA, HK1, HO_3, HO_5, HB⟩ := hrel
   cases gk with
   | zero => exact absurd HA.out (by simp [laws_FnLeavesFound.l0])
   | succ k1 =>
    have H := HA.out
    clear HA
    simp only [laws_FnLeavesFound.l0] at H
    by_cases c20 : x6_1 < (t384.length : Int)
    ·rw [if_pos c20] at H
     have c20b0 : decide (x6_1 < (t384.length : Int)) = true := decide_eq_true c20
     clear c20
     have H' := Aside0.mk H
     clear H
     go_wp2
     repeat (go_quiet (fail); try go_wp2)
     go_loopg [7, 8] k1 (fun kq v7 v8 w' => ∃ (x7_2 : Int) (x8_2 : Int), v7 = .int .i64 x7_2 ∧ v8 = .int .i64 x8_2 ∧ Aside0 (laws_FnLeavesFound.l1 kq t380 t381 t384 x6_1 x7_2 x8_2 = some r) ∧ Aside0 (kq ≤ k1) ∧ Aside0 (Kd.R (Kd.int .u8) 5 w' w.heap.size (fun _ => True) (.slice Ao11 t380.length co11) t380) ∧ Aside0 (Kd.R k52 52 w' w.heap.size (fun _ => True) (.slice Ao17 t384.length co17) t384) ∧ Aside0 (Below w.heap.size w w'))
     case atStart => exact ⟨(256), (0), Z10_18, Z10_18, H', ⟨Nat.le_refl _⟩, ⟨Z10_12⟩, ⟨Z10_13⟩, ⟨Z10_1⟩⟩
     clear H'
     try clear c2
     try clear p2
     try clear c3
     try clear c7
     try clear c7b0
     try clear c7b1
     try clear c9
     try clear c9b0
     try clear c9b1
     try clear c9b2
     try clear c20
     try clear c20b0
     try clear p2
     obtain ⟨x7_2, x8_2, rfl, rfl, HA, HK2, HO_3, HO_5, HB⟩ := hrel
     cases gk with
     | zero => exact absurd HA.out (by simp [laws_FnLeavesFound.l1])
     | succ k2 =>
      have H := HA.out
      clear HA
      simp only [laws_FnLeavesFound.l1] at H
      by_cases c21 : 0 ≤ x6_1
      ·rw [if_pos c21] at H
       have c21b0 : decide (0 ≤ x6_1) = true := decide_eq_true c21
       clear c21
       by_cases c22 : x6_1 < (t384.length : Int)
       ·rw [if_pos c22] at H
        have c22b0 : decide (x6_1 < (t384.length : Int)) = true := decide_eq_true c22
        clear c22
        by_cases c23 : x8_2 < ((rd_T52 t384 x6_1).f1)
        ·
         refine ?M2
         letI iM2 : Nonempty (type_of% ?M2) := ⟨(by
          rw [if_pos c23] at H
          have c23b0 : decide (x8_2 < ((rd_T52 t384 x6_1).f1)) = true := decide_eq_true c23
          clear c23
          have H' := Aside0.mk H
          clear H
          have p398 : 0 ≤ (x6_1 : Int) := of_decide_eq_true Z10_19
          have q398 : x6_1 < (t384.length : Int) := of_decide_eq_true Z10_19
          obtain ⟨ad398, e398, hx398_0, hx398_1, hx398_2⟩ := at_T52 (Kd.R_reads' HO_5.out).2.2 x6_1 p398 q398
          cases e398
          replace p398 := eq_true p398
          replace q398 := eq_true q398
          go_wp2
          repeat (go_quiet (fail); try go_wp2)
          go_roundg k2
          case measure => have := HK1.out; have := HK2.out; omega
          case rel => exact ⟨(wrap64 (x7_2 * 32)), (wrap64 (x8_2 + 1)), Z10_18, Z10_18, H', ⟨by have := HK1.out; have := HK2.out; omega⟩, ⟨Z10_12⟩, ⟨Z10_13⟩, ⟨Z10_1⟩⟩)⟩
         exact Nonempty.elim (inferInstanceAs (Nonempty (type_of% ?M2))) id
        rw [if_neg c23] at H
        have c23b0 : decide (x8_2 < ((rd_T52 t384 x6_1).f1)) = false := decide_eq_false c23
        clear c23
        replace H := Option.bind_eq_some_iff.mp H
        obtain ⟨⟨t400, t401, t402, t403, t404, t405, t406, t407, t408, t409⟩, A240, H⟩ := H
        replace H : ((impl_Translate.f k2 t380 t381 (IntKind.u64.wrap ((rd_T52 t384 x6_1).f0)) 0 false).bind fun bt412 => ((impl_Translate.f k2 t380 t381 (IntKind.u64.wrap (wrap64 ((wrap64 (((rd_T52 t384 x6_1).f0) + x7_2)) - 1))) 0 false).bind fun bt419 => (if t409 = true then (if t400 = true then (if bt412.2.1 = ((rd_T52 t384 x6_1).f1) then (if bt419.2.1 = ((rd_T52 t384 x6_1).f1) then (if bt412.2.2.1 = bt419.2.2.1 then (laws_FnLeavesFound.j2 k2 t380 t381 t384 x6_1 x7_2 (bt412.1 != bt419.1) t400 t401 t402 t403 t404 t405 t406 t407 t408 bt412.1 bt412.2.1 bt412.2.2.1 bt412.2.2.2.1 bt412.2.2.2.2 bt419.1 bt419.2.1 bt419.2.2.1 bt419.2.2.2.1 bt419.2.2.2.2) else (laws_FnLeavesFound.j2 k2 t380 t381 t384 x6_1 x7_2 true t400 t401 t402 t403 t404 t405 t406 t407 t408 bt412.1 bt412.2.1 bt412.2.2.1 bt412.2.2.2.1 bt412.2.2.2.2 bt419.1 bt419.2.1 bt419.2.2.1 bt419.2.2.2.1 bt419.2.2.2.2)) else (laws_FnLeavesFound.j2 k2 t380 t381 t384 x6_1 x7_2 true t400 t401 t402 t403 t404 t405 t406 t407 t408 bt412.1 bt412.2.1 bt412.2.2.1 bt412.2.2.2.1 bt412.2.2.2.2 bt419.1 bt419.2.1 bt419.2.2.1 bt419.2.2.2.1 bt419.2.2.2.2)) else (laws_FnLeavesFound.j2 k2 t380 t381 t384 x6_1 x7_2 true t400 t401 t402 t403 t404 t405 t406 t407 t408 bt412.1 bt412.2.1 bt412.2.2.1 bt412.2.2.2.1 bt412.2.2.2.2 bt419.1 bt419.2.1 bt419.2.2.1 bt419.2.2.2.1 bt419.2.2.2.2)) else (laws_FnLeavesFound.j2 k2 t380 t381 t384 x6_1 x7_2 true t400 t401 t402 t403 t404 t405 t406 t407 t408 bt412.1 bt412.2.1 bt412.2.2.1 bt412.2.2.2.1 bt412.2.2.2.2 bt419.1 bt419.2.1 bt419.2.2.1 bt419.2.2.2.1 bt419.2.2.2.2)) else (laws_FnLeavesFound.j2 k2 t380 t381 t384 x6_1 x7_2 true t400 t401 t402 t403 t404 t405 t406 t407 t408 bt412.1 bt412.2.1 bt412.2.2.1 bt412.2.2.2.1 bt412.2.2.2.2 bt419.1 bt419.2.1 bt419.2.2.1 bt419.2.2.2.1 bt419.2.2.2.2)))) = some r := H
        have A24 := Aside0.mk A240
        clear A240
        replace H := Option.bind_eq_some_iff.mp H
        obtain ⟨⟨t412, t413, t414, t415, t416⟩, A250, H⟩ := H
        replace H : ((impl_Translate.f k2 t380 t381 (IntKind.u64.wrap (wrap64 ((wrap64 (((rd_T52 t384 x6_1).f0) + x7_2)) - 1))) 0 false).bind fun bt419 => (if t409 = true then (if t400 = true then (if t413 = ((rd_T52 t384 x6_1).f1) then (if bt419.2.1 = ((rd_T52 t384 x6_1).f1) then (if t414 = bt419.2.2.1 then (laws_FnLeavesFound.j2 k2 t380 t381 t384 x6_1 x7_2 (t412 != bt419.1) t400 t401 t402 t403 t404 t405 t406 t407 t408 t412 t413 t414 t415 t416 bt419.1 bt419.2.1 bt419.2.2.1 bt419.2.2.2.1 bt419.2.2.2.2) else (laws_FnLeavesFound.j2 k2 t380 t381 t384 x6_1 x7_2 true t400 t401 t402 t403 t404 t405 t406 t407 t408 t412 t413 t414 t415 t416 bt419.1 bt419.2.1 bt419.2.2.1 bt419.2.2.2.1 bt419.2.2.2.2)) else (laws_FnLeavesFound.j2 k2 t380 t381 t384 x6_1 x7_2 true t400 t401 t402 t403 t404 t405 t406 t407 t408 t412 t413 t414 t415 t416 bt419.1 bt419.2.1 bt419.2.2.1 bt419.2.2.2.1 bt419.2.2.2.2)) else (laws_FnLeavesFound.j2 k2 t380 t381 t384 x6_1 x7_2 true t400 t401 t402 t403 t404 t405 t406 t407 t408 t412 t413 t414 t415 t416 bt419.1 bt419.2.1 bt419.2.2.1 bt419.2.2.2.1 bt419.2.2.2.2)) else (laws_FnLeavesFound.j2 k2 t380 t381 t384 x6_1 x7_2 true t400 t401 t402 t403 t404 t405 t406 t407 t408 t412 t413 t414 t415 t416 bt419.1 bt419.2.1 bt419.2.2.1 bt419.2.2.2.1 bt419.2.2.2.2)) else (laws_FnLeavesFound.j2 k2 t380 t381 t384 x6_1 x7_2 true t400 t401 t402 t403 t404 t405 t406 t407 t408 t412 t413 t414 t415 t416 bt419.1 bt419.2.1 bt419.2.2.1 bt419.2.2.2.1 bt419.2.2.2.2))) = some r := H
        have A25 := Aside0.mk A250
        clear A250
        replace H := Option.bind_eq_some_iff.mp H
        obtain ⟨⟨t419, t420, t421, t422, t423⟩, A260, H⟩ := H
        replace H : (if t409 = true then (if t400 = true then (if t413 = ((rd_T52 t384 x6_1).f1) then (if t420 = ((rd_T52 t384 x6_1).f1) then (if t414 = t421 then (laws_FnLeavesFound.j2 k2 t380 t381 t384 x6_1 x7_2 (t412 != t419) t400 t401 t402 t403 t404 t405 t406 t407 t408 t412 t413 t414 t415 t416 t419 t420 t421 t422 t423) else (laws_FnLeavesFound.j2 k2 t380 t381 t384 x6_1 x7_2 true t400 t401 t402 t403 t404 t405 t406 t407 t408 t412 t413 t414 t415 t416 t419 t420 t421 t422 t423)) else (laws_FnLeavesFound.j2 k2 t380 t381 t384 x6_1 x7_2 true t400 t401 t402 t403 t404 t405 t406 t407 t408 t412 t413 t414 t415 t416 t419 t420 t421 t422 t423)) else (laws_FnLeavesFound.j2 k2 t380 t381 t384 x6_1 x7_2 true t400 t401 t402 t403 t404 t405 t406 t407 t408 t412 t413 t414 t415 t416 t419 t420 t421 t422 t423)) else (laws_FnLeavesFound.j2 k2 t380 t381 t384 x6_1 x7_2 true t400 t401 t402 t403 t404 t405 t406 t407 t408 t412 t413 t414 t415 t416 t419 t420 t421 t422 t423)) else (laws_FnLeavesFound.j2 k2 t380 t381 t384 x6_1 x7_2 true t400 t401 t402 t403 t404 t405 t406 t407 t408 t412 t413 t414 t415 t416 t419 t420 t421 t422 t423)) = some r := H
        have A26 := Aside0.mk A260
        clear A260
        have HC27 := Aside0.mk H
        clear H
        have p398 : 0 ≤ (x6_1 : Int) := of_decide_eq_true Z10_19
        have q398 : x6_1 < (t384.length : Int) := of_decide_eq_true Z10_19
        obtain ⟨ad398, e398, hx398_0, hx398_1, hx398_2⟩ := at_T52 (Kd.R_reads' HO_5.out).2.2 x6_1 p398 q398
        cases e398
        replace p398 := eq_true p398
        replace q398 := eq_true q398
        have p399 : 0 ≤ (x6_1 : Int) := of_decide_eq_true Z10_19
        have q399 : x6_1 < (t384.length : Int) := of_decide_eq_true Z10_19
        obtain ⟨ad399, e399, hx399_0, hx399_1, hx399_2⟩ := at_T52 (Kd.R_reads' HO_5.out).2.2 x6_1 p399 q399
        obtain rfl : ad398 = ad399 := (by injection e399)
        replace p399 := eq_true p399
        replace q399 := eq_true q399
        go_upto_region 20 with (first | (go_at_call 16; (with_reducible refine (impl_GetEntry.calls ((rd_T52 t384 x6_1).f2) t400 t401 t402 t403 t404 t405 t406 t407 t408 t409 _ A24.out).mono ?_); rintro e w28 ⟨rfl, hb⟩; have n0_ := Aside0.mk (Kd.R_below Z10_12 hb); have n1_ := Aside0.mk (Kd.R_below Z10_13 hb); have n2_ := Aside0.mk (below_step Z10_1 hb); clear HO_3; clear HO_5; clear HB; have HO_3 := n0_; have HO_5 := n1_; have HB := n2_; clear n0_ n1_ n2_; (try clear hb); (try clear hb2); (try clear hk); (try clear hi)) | ((with_reducible refine gate_dst (N := 9) rfl ?_); refine box_event ?hg (N := 9) ?hd (cs := #[.bool false, .bool false, .bool false, .bool false, .bool false, .bool false, .bool false, .bool false, .int .i64 0]) (t := 27) ?hr ?_; (case hd => rfl); (case hg => rfl); (case hr => exact Z10_55); intro gb410 hg w29 hbox hb; have n0_ := Aside0.mk (Kd.R_below Z10_12 hb); have n1_ := Aside0.mk (Kd.R_below Z10_13 hb); have n2_ := Aside0.mk (below_step Z10_1 hb); have n3_ := Aside0.mk (hbox); have n4_ := Aside0.mk ((Z10_67 : w.heap.size ≤ gb410)); have n5_ := Aside0.mk ((Z10_67 : w.heap.size ≤ gb410)); clear HO_3; clear HO_5; clear HB; have HO_3 := n0_; have HO_5 := n1_; have HB := n2_; have BK410 := n3_; have GW410 := n4_; have GE410 := n5_; clear n0_ n1_ n2_ n3_ n4_ n5_; clear hb hbox hg; have hcz30_0 : w29.cell? ⟨gb410, 0, none⟩ = some (.bool false) := (blk_cell BK410.out 0).trans rfl; have hcz30_1 : w29.cell? ⟨gb410, 1, none⟩ = some (.bool false) := (blk_cell BK410.out 1).trans rfl; have hcz30_2 : w29.cell? ⟨gb410, 2, none⟩ = some (.bool false) := (blk_cell BK410.out 2).trans rfl; have hcz30_3 : w29.cell? ⟨gb410, 3, none⟩ = some (.bool false) := (blk_cell BK410.out 3).trans rfl; have hcz30_4 : w29.cell? ⟨gb410, 4, none⟩ = some (.bool false) := (blk_cell BK410.out 4).trans rfl; have hcz30_5 : w29.cell? ⟨gb410, 5, none⟩ = some (.bool false) := (blk_cell BK410.out 5).trans rfl; have hcz30_6 : w29.cell? ⟨gb410, 6, none⟩ = some (.bool false) := (blk_cell BK410.out 6).trans rfl; have hcz30_7 : w29.cell? ⟨gb410, 7, none⟩ = some (.bool false) := (blk_cell BK410.out 7).trans rfl; have hcz30_8 : w29.cell? ⟨gb410, 8, none⟩ = some (.int .i64 0) := (blk_cell BK410.out 8).trans rfl; have hfz30_0 := blk_frozen BK410.out 0; have hfz30_1 := blk_frozen BK410.out 1; have hfz30_2 := blk_frozen BK410.out 2; have hfz30_3 := blk_frozen BK410.out 3; have hfz30_4 := blk_frozen BK410.out 4; have hfz30_5 := blk_frozen BK410.out 5; have hfz30_6 := blk_frozen BK410.out 6; have hfz30_7 := blk_frozen BK410.out 7; have hfz30_8 := blk_frozen BK410.out 8; have p411 : 0 ≤ (x6_1 : Int) := of_decide_eq_true Z10_19; have q411 : x6_1 < (t384.length : Int) := of_decide_eq_true Z10_19; obtain ⟨ad411, e411, hx411_0, hx411_1, hx411_2⟩ := at_T52 (Kd.R_reads' HO_5.out).2.2 x6_1 p411 q411; obtain rfl : ad398 = ad411 := (by injection e411); have hn411_0 : ad398.block ≠ gb410 := Kd.own_blk (Kd.R_ne HO_5.out BK410.out Z10_64); have hn411_1 : ad398.block ≠ gb410 := Kd.own_blk (Kd.R_ne HO_5.out BK410.out Z10_64); have hn411_2 : ad398.block ≠ gb410 := Kd.own_blk (Kd.R_ne HO_5.out BK410.out Z10_64); have hn411_3 : ad398.block ≠ gb410 := Kd.own_blk (Kd.R_ne HO_5.out BK410.out Z10_64); have hn411_4 : ad398.block ≠ gb410 := Kd.own_blk (Kd.R_ne HO_5.out BK410.out Z10_64); have hn411_5 : ad398.block ≠ gb410 := Kd.own_blk (Kd.R_ne HO_5.out BK410.out Z10_64); have hn411_6 : ad398.block ≠ gb410 := Kd.own_blk (Kd.R_ne HO_5.out BK410.out Z10_64); have hn411_7 : ad398.block ≠ gb410 := Kd.own_blk (Kd.R_ne HO_5.out BK410.out Z10_64); have hn411_8 : ad398.block ≠ gb410 := Kd.own_blk (Kd.R_ne HO_5.out BK410.out Z10_64); replace hx411_0 := (cell_far (p := ⟨gb410, 0, none⟩) Z10_34 (.bool t400)).trans hx411_0; replace hx411_1 := (cell_far (p := ⟨gb410, 0, none⟩) Z10_34 (.bool t400)).trans hx411_1; replace hx411_2 := (cell_far (p := ⟨gb410, 0, none⟩) Z10_34 (.bool t400)).trans hx411_2; replace hx411_0 := (cell_far (p := ⟨gb410, 1, none⟩) Z10_35 (.bool t401)).trans hx411_0; replace hx411_1 := (cell_far (p := ⟨gb410, 1, none⟩) Z10_35 (.bool t401)).trans hx411_1; replace hx411_2 := (cell_far (p := ⟨gb410, 1, none⟩) Z10_35 (.bool t401)).trans hx411_2; replace hx411_0 := (cell_far (p := ⟨gb410, 2, none⟩) Z10_36 (.bool t402)).trans hx411_0; replace hx411_1 := (cell_far (p := ⟨gb410, 2, none⟩) Z10_36 (.bool t402)).trans hx411_1; replace hx411_2 := (cell_far (p := ⟨gb410, 2, none⟩) Z10_36 (.bool t402)).trans hx411_2; replace hx411_0 := (cell_far (p := ⟨gb410, 3, none⟩) Z10_37 (.bool t403)).trans hx411_0; replace hx411_1 := (cell_far (p := ⟨gb410, 3, none⟩) Z10_37 (.bool t403)).trans hx411_1; replace hx411_2 := (cell_far (p := ⟨gb410, 3, none⟩) Z10_37 (.bool t403)).trans hx411_2; replace hx411_0 := (cell_far (p := ⟨gb410, 4, none⟩) Z10_38 (.bool t404)).trans hx411_0; replace hx411_1 := (cell_far (p := ⟨gb410, 4, none⟩) Z10_38 (.bool t404)).trans hx411_1; replace hx411_2 := (cell_far (p := ⟨gb410, 4, none⟩) Z10_38 (.bool t404)).trans hx411_2; replace hx411_0 := (cell_far (p := ⟨gb410, 5, none⟩) Z10_39 (.bool t405)).trans hx411_0; replace hx411_1 := (cell_far (p := ⟨gb410, 5, none⟩) Z10_39 (.bool t405)).trans hx411_1; replace hx411_2 := (cell_far (p := ⟨gb410, 5, none⟩) Z10_39 (.bool t405)).trans hx411_2; replace hx411_0 := (cell_far (p := ⟨gb410, 6, none⟩) Z10_40 (.bool t406)).trans hx411_0; replace hx411_1 := (cell_far (p := ⟨gb410, 6, none⟩) Z10_40 (.bool t406)).trans hx411_1; replace hx411_2 := (cell_far (p := ⟨gb410, 6, none⟩) Z10_40 (.bool t406)).trans hx411_2; replace hx411_0 := (cell_far (p := ⟨gb410, 7, none⟩) Z10_41 (.bool t407)).trans hx411_0; replace hx411_1 := (cell_far (p := ⟨gb410, 7, none⟩) Z10_41 (.bool t407)).trans hx411_1; replace hx411_2 := (cell_far (p := ⟨gb410, 7, none⟩) Z10_41 (.bool t407)).trans hx411_2; replace hx411_0 := (cell_far (p := ⟨gb410, 8, none⟩) Z10_42 (.int .i64 t408)).trans hx411_0; replace hx411_1 := (cell_far (p := ⟨gb410, 8, none⟩) Z10_42 (.int .i64 t408)).trans hx411_1; replace hx411_2 := (cell_far (p := ⟨gb410, 8, none⟩) Z10_42 (.int .i64 t408)).trans hx411_2; clear hn411_0; clear hn411_1; clear hn411_2; clear hn411_3; clear hn411_4; clear hn411_5; clear hn411_6; clear hn411_7; clear hn411_8; replace p411 := eq_true p411; replace q411 := eq_true q411) | (go_at_call 20; (with_reducible refine (impl_Translate.calls k2 _ _ t380 t381 (IntKind.u64.wrap ((rd_T52 t384 x6_1).f0)) 0 false t412 t413 t414 t415 t416 _ ?side1 ?side2 A25.out).mono ?_); (case side1 => exact Z10_63); (case side2 => exact (Kd.R_reads' HO_3.out).2.1); rintro e w31 ⟨rfl, hb⟩; have n0_ := Aside0.mk (Kd.R_below Z10_5 hb); have n1_ := Aside0.mk (Kd.R_below Z10_20 hb); have n2_ := Aside0.mk (blk_below (g := gb410) (o := .cells #[.bool t400, .bool t401, .bool t402, .bool t403, .bool t404, .bool t405, .bool t406, .bool t407, .int .i64 t408] 27 (0, 0)) Z10_3 hb); have n3_ := Aside0.mk (below_step Z10_17 hb); clear HO_3; clear HO_5; clear BK410; clear HB; have HO_3 := n0_; have HO_5 := n1_; have BK410 := n2_; have HB := n3_; clear n0_ n1_ n2_ n3_; (try clear hb); (try clear hb2); (try clear hk); (try clear hi)) | ((with_reducible refine gate_dst (N := 11) rfl ?_); refine box_event ?hg (N := 11) ?hd (cs := #[.int .i64 0, .int .i64 0, .int .i64 0, .int .i64 0, .int .u64 0]) (t := 36) ?hr ?_; (case hd => rfl); (case hg => rfl); (case hr => exact Z10_55); intro gb417 hg w32 hbox hb; have n0_ := Aside0.mk (Kd.R_below Z10_12 hb); have n1_ := Aside0.mk (Kd.R_below Z10_13 hb); have n2_ := Aside0.mk (blk_below (g := gb410) (o := .cells #[.bool t400, .bool t401, .bool t402, .bool t403, .bool t404, .bool t405, .bool t406, .bool t407, .int .i64 t408] 27 (0, 0)) Z10_8 hb); have n3_ := Aside0.mk (below_step Z10_17 hb); have n4_ := Aside0.mk (hbox); have n5_ := Aside0.mk ((Z10_65 : w.heap.size ≤ gb417)); have n6_ := Aside0.mk ((Z10_65 : w.heap.size ≤ gb417)); have n7_ := Aside0.mk ((Z10_32 : gb410 ≠ gb417)); have n8_ := Aside0.mk ((Z10_33 : gb417 ≠ gb410)); clear HO_3; clear HO_5; clear BK410; clear HB; have HO_3 := n0_; have HO_5 := n1_; have BK410 := n2_; have HB := n3_; have BK417 := n4_; have GW417 := n5_; have GE417 := n6_; have NB410_417 := n7_; have NB417_410 := n8_; clear n0_ n1_ n2_ n3_ n4_ n5_ n6_ n7_ n8_; clear hb hbox hg; have hnb33 := NB417_410.out; have hnc33 := NB410_417.out; have hcz34_0 : w32.cell? ⟨gb417, 0, none⟩ = some (.int .i64 0) := (blk_cell BK417.out 0).trans rfl; have hcz34_1 : w32.cell? ⟨gb417, 1, none⟩ = some (.int .i64 0) := (blk_cell BK417.out 1).trans rfl; have hcz34_2 : w32.cell? ⟨gb417, 2, none⟩ = some (.int .i64 0) := (blk_cell BK417.out 2).trans rfl; have hcz34_3 : w32.cell? ⟨gb417, 3, none⟩ = some (.int .i64 0) := (blk_cell BK417.out 3).trans rfl; have hcz34_4 : w32.cell? ⟨gb417, 4, none⟩ = some (.int .u64 0) := (blk_cell BK417.out 4).trans rfl; have hfz34_0 := blk_frozen BK417.out 0; have hfz34_1 := blk_frozen BK417.out 1; have hfz34_2 := blk_frozen BK417.out 2; have hfz34_3 := blk_frozen BK417.out 3; have hfz34_4 := blk_frozen BK417.out 4; have p418 : 0 ≤ (x6_1 : Int) := of_decide_eq_true Z10_19; have q418 : x6_1 < (t384.length : Int) := of_decide_eq_true Z10_19; obtain ⟨ad418, e418, hx418_0, hx418_1, hx418_2⟩ := at_T52 (Kd.R_reads' HO_5.out).2.2 x6_1 p418 q418; obtain rfl : ad398 = ad418 := (by injection e418); have hn418_0 : ad398.block ≠ gb417 := Kd.own_blk (Kd.R_ne HO_5.out BK417.out Z10_64); have hn418_1 : ad398.block ≠ gb417 := Kd.own_blk (Kd.R_ne HO_5.out BK417.out Z10_64); have hn418_2 : ad398.block ≠ gb417 := Kd.own_blk (Kd.R_ne HO_5.out BK417.out Z10_64); have hn418_3 : ad398.block ≠ gb417 := Kd.own_blk (Kd.R_ne HO_5.out BK417.out Z10_64); have hn418_4 : ad398.block ≠ gb417 := Kd.own_blk (Kd.R_ne HO_5.out BK417.out Z10_64); replace hx418_0 := (cell_far (p := ⟨gb417, 0, none⟩) Z10_43 (.int .i64 t412)).trans hx418_0; replace hx418_1 := (cell_far (p := ⟨gb417, 0, none⟩) Z10_43 (.int .i64 t412)).trans hx418_1; replace hx418_2 := (cell_far (p := ⟨gb417, 0, none⟩) Z10_43 (.int .i64 t412)).trans hx418_2; replace hx418_0 := (cell_far (p := ⟨gb417, 1, none⟩) Z10_44 (.int .i64 t413)).trans hx418_0; replace hx418_1 := (cell_far (p := ⟨gb417, 1, none⟩) Z10_44 (.int .i64 t413)).trans hx418_1; replace hx418_2 := (cell_far (p := ⟨gb417, 1, none⟩) Z10_44 (.int .i64 t413)).trans hx418_2; replace hx418_0 := (cell_far (p := ⟨gb417, 2, none⟩) Z10_45 (.int .i64 t414)).trans hx418_0; replace hx418_1 := (cell_far (p := ⟨gb417, 2, none⟩) Z10_45 (.int .i64 t414)).trans hx418_1; replace hx418_2 := (cell_far (p := ⟨gb417, 2, none⟩) Z10_45 (.int .i64 t414)).trans hx418_2; replace hx418_0 := (cell_far (p := ⟨gb417, 3, none⟩) Z10_46 (.int .i64 t415)).trans hx418_0; replace hx418_1 := (cell_far (p := ⟨gb417, 3, none⟩) Z10_46 (.int .i64 t415)).trans hx418_1; replace hx418_2 := (cell_far (p := ⟨gb417, 3, none⟩) Z10_46 (.int .i64 t415)).trans hx418_2; replace hx418_0 := (cell_far (p := ⟨gb417, 4, none⟩) Z10_47 (.int .u64 t416)).trans hx418_0; replace hx418_1 := (cell_far (p := ⟨gb417, 4, none⟩) Z10_47 (.int .u64 t416)).trans hx418_1; replace hx418_2 := (cell_far (p := ⟨gb417, 4, none⟩) Z10_47 (.int .u64 t416)).trans hx418_2; clear hn418_0; clear hn418_1; clear hn418_2; clear hn418_3; clear hn418_4; replace p418 := eq_true p418; replace q418 := eq_true q418) | (go_at_call 20; (with_reducible refine (impl_Translate.calls k2 _ _ t380 t381 (IntKind.u64.wrap (wrap64 ((wrap64 (((rd_T52 t384 x6_1).f0) + x7_2)) - 1))) 0 false t419 t420 t421 t422 t423 _ ?side1 ?side2 A26.out).mono ?_); (case side1 => exact Z10_62); (case side2 => exact (Kd.R_reads' HO_3.out).2.1); rintro e w35 ⟨rfl, hb⟩; have n0_ := Aside0.mk (Kd.R_below Z10_11 hb); have n1_ := Aside0.mk (Kd.R_below Z10_30 hb); have n2_ := Aside0.mk (blk_below (g := gb410) (o := .cells #[.bool t400, .bool t401, .bool t402, .bool t403, .bool t404, .bool t405, .bool t406, .bool t407, .int .i64 t408] 27 (0, 0)) Z10_22 hb); have n3_ := Aside0.mk (blk_below (g := gb417) (o := .cells #[.int .i64 t412, .int .i64 t413, .int .i64 t414, .int .i64 t415, .int .u64 t416] 36 (0, 0)) Z10_14 hb); have n4_ := Aside0.mk (below_step Z10_15 hb); clear HO_3; clear HO_5; clear BK410; clear BK417; clear HB; have HO_3 := n0_; have HO_5 := n1_; have BK410 := n2_; have BK417 := n3_; have HB := n4_; clear n0_ n1_ n2_ n3_ n4_; (try clear hb); (try clear hb2); (try clear hk); (try clear hi)) | ((with_reducible refine gate_dst (N := 12) rfl ?_); refine box_event ?hg (N := 12) ?hd (cs := #[.int .i64 0, .int .i64 0, .int .i64 0, .int .i64 0, .int .u64 0]) (t := 36) ?hr ?_; (case hd => rfl); (case hg => rfl); (case hr => exact Z10_55); intro gb424 hg w36 hbox hb; have n0_ := Aside0.mk (Kd.R_below Z10_12 hb); have n1_ := Aside0.mk (Kd.R_below Z10_13 hb); have n2_ := Aside0.mk (blk_below (g := gb410) (o := .cells #[.bool t400, .bool t401, .bool t402, .bool t403, .bool t404, .bool t405, .bool t406, .bool t407, .int .i64 t408] 27 (0, 0)) Z10_8 hb); have n3_ := Aside0.mk (blk_below (g := gb417) (o := .cells #[.int .i64 t412, .int .i64 t413, .int .i64 t414, .int .i64 t415, .int .u64 t416] 36 (0, 0)) Z10_16 hb); have n4_ := Aside0.mk (below_step Z10_15 hb); have n5_ := Aside0.mk (hbox); have n6_ := Aside0.mk ((Z10_66 : w.heap.size ≤ gb424)); have n7_ := Aside0.mk ((Z10_66 : w.heap.size ≤ gb424)); have n8_ := Aside0.mk ((Z10_32 : gb410 ≠ gb424)); have n9_ := Aside0.mk ((Z10_33 : gb424 ≠ gb410)); have n10_ := Aside0.mk ((Z10_59 : gb417 ≠ gb424)); have n11_ := Aside0.mk ((Z10_60 : gb424 ≠ gb417)); clear HO_3; clear HO_5; clear BK410; clear BK417; clear HB; have HO_3 := n0_; have HO_5 := n1_; have BK410 := n2_; have BK417 := n3_; have HB := n4_; have BK424 := n5_; have GW424 := n6_; have GE424 := n7_; have NB410_424 := n8_; have NB424_410 := n9_; have NB417_424 := n10_; have NB424_417 := n11_; clear n0_ n1_ n2_ n3_ n4_ n5_ n6_ n7_ n8_ n9_ n10_ n11_; clear hb hbox hg; have hnb37 := NB424_410.out; have hnc37 := NB410_424.out; have hnb38 := NB424_417.out; have hnc38 := NB417_424.out; have hcz39_0 : w36.cell? ⟨gb424, 0, none⟩ = some (.int .i64 0) := (blk_cell BK424.out 0).trans rfl; have hcz39_1 : w36.cell? ⟨gb424, 1, none⟩ = some (.int .i64 0) := (blk_cell BK424.out 1).trans rfl; have hcz39_2 : w36.cell? ⟨gb424, 2, none⟩ = some (.int .i64 0) := (blk_cell BK424.out 2).trans rfl; have hcz39_3 : w36.cell? ⟨gb424, 3, none⟩ = some (.int .i64 0) := (blk_cell BK424.out 3).trans rfl; have hcz39_4 : w36.cell? ⟨gb424, 4, none⟩ = some (.int .u64 0) := (blk_cell BK424.out 4).trans rfl; have hfz39_0 := blk_frozen BK424.out 0; have hfz39_1 := blk_frozen BK424.out 1; have hfz39_2 := blk_frozen BK424.out 2; have hfz39_3 := blk_frozen BK424.out 3; have hfz39_4 := blk_frozen BK424.out 4))
        repeat (go_quiet (first | (go_at_call 16; (with_reducible refine (impl_GetEntry.calls ((rd_T52 t384 x6_1).f2) t400 t401 t402 t403 t404 t405 t406 t407 t408 t409 _ A24.out).mono ?_); rintro e w28 ⟨rfl, hb⟩; have n0_ := Aside0.mk (Kd.R_below Z10_12 hb); have n1_ := Aside0.mk (Kd.R_below Z10_13 hb); have n2_ := Aside0.mk (below_step Z10_1 hb); clear HO_3; clear HO_5; clear HB; have HO_3 := n0_; have HO_5 := n1_; have HB := n2_; clear n0_ n1_ n2_; (try clear hb); (try clear hb2); (try clear hk); (try clear hi)) | ((with_reducible refine gate_dst (N := 9) rfl ?_); refine box_event ?hg (N := 9) ?hd (cs := #[.bool false, .bool false, .bool false, .bool false, .bool false, .bool false, .bool false, .bool false, .int .i64 0]) (t := 27) ?hr ?_; (case hd => rfl); (case hg => rfl); (case hr => exact Z10_55); intro gb410 hg w29 hbox hb; have n0_ := Aside0.mk (Kd.R_below Z10_12 hb); have n1_ := Aside0.mk (Kd.R_below Z10_13 hb); have n2_ := Aside0.mk (below_step Z10_1 hb); have n3_ := Aside0.mk (hbox); have n4_ := Aside0.mk ((Z10_67 : w.heap.size ≤ gb410)); have n5_ := Aside0.mk ((Z10_67 : w.heap.size ≤ gb410)); clear HO_3; clear HO_5; clear HB; have HO_3 := n0_; have HO_5 := n1_; have HB := n2_; have BK410 := n3_; have GW410 := n4_; have GE410 := n5_; clear n0_ n1_ n2_ n3_ n4_ n5_; clear hb hbox hg; have hcz30_0 : w29.cell? ⟨gb410, 0, none⟩ = some (.bool false) := (blk_cell BK410.out 0).trans rfl; have hcz30_1 : w29.cell? ⟨gb410, 1, none⟩ = some (.bool false) := (blk_cell BK410.out 1).trans rfl; have hcz30_2 : w29.cell? ⟨gb410, 2, none⟩ = some (.bool false) := (blk_cell BK410.out 2).trans rfl; have hcz30_3 : w29.cell? ⟨gb410, 3, none⟩ = some (.bool false) := (blk_cell BK410.out 3).trans rfl; have hcz30_4 : w29.cell? ⟨gb410, 4, none⟩ = some (.bool false) := (blk_cell BK410.out 4).trans rfl; have hcz30_5 : w29.cell? ⟨gb410, 5, none⟩ = some (.bool false) := (blk_cell BK410.out 5).trans rfl; have hcz30_6 : w29.cell? ⟨gb410, 6, none⟩ = some (.bool false) := (blk_cell BK410.out 6).trans rfl; have hcz30_7 : w29.cell? ⟨gb410, 7, none⟩ = some (.bool false) := (blk_cell BK410.out 7).trans rfl; have hcz30_8 : w29.cell? ⟨gb410, 8, none⟩ = some (.int .i64 0) := (blk_cell BK410.out 8).trans rfl; have hfz30_0 := blk_frozen BK410.out 0; have hfz30_1 := blk_frozen BK410.out 1; have hfz30_2 := blk_frozen BK410.out 2; have hfz30_3 := blk_frozen BK410.out 3; have hfz30_4 := blk_frozen BK410.out 4; have hfz30_5 := blk_frozen BK410.out 5; have hfz30_6 := blk_frozen BK410.out 6; have hfz30_7 := blk_frozen BK410.out 7; have hfz30_8 := blk_frozen BK410.out 8; have p411 : 0 ≤ (x6_1 : Int) := of_decide_eq_true Z10_19; have q411 : x6_1 < (t384.length : Int) := of_decide_eq_true Z10_19; obtain ⟨ad411, e411, hx411_0, hx411_1, hx411_2⟩ := at_T52 (Kd.R_reads' HO_5.out).2.2 x6_1 p411 q411; obtain rfl : ad398 = ad411 := (by injection e411); have hn411_0 : ad398.block ≠ gb410 := Kd.own_blk (Kd.R_ne HO_5.out BK410.out Z10_64); have hn411_1 : ad398.block ≠ gb410 := Kd.own_blk (Kd.R_ne HO_5.out BK410.out Z10_64); have hn411_2 : ad398.block ≠ gb410 := Kd.own_blk (Kd.R_ne HO_5.out BK410.out Z10_64); have hn411_3 : ad398.block ≠ gb410 := Kd.own_blk (Kd.R_ne HO_5.out BK410.out Z10_64); have hn411_4 : ad398.block ≠ gb410 := Kd.own_blk (Kd.R_ne HO_5.out BK410.out Z10_64); have hn411_5 : ad398.block ≠ gb410 := Kd.own_blk (Kd.R_ne HO_5.out BK410.out Z10_64); have hn411_6 : ad398.block ≠ gb410 := Kd.own_blk (Kd.R_ne HO_5.out BK410.out Z10_64); have hn411_7 : ad398.block ≠ gb410 := Kd.own_blk (Kd.R_ne HO_5.out BK410.out Z10_64); have hn411_8 : ad398.block ≠ gb410 := Kd.own_blk (Kd.R_ne HO_5.out BK410.out Z10_64); replace hx411_0 := (cell_far (p := ⟨gb410, 0, none⟩) Z10_34 (.bool t400)).trans hx411_0; replace hx411_1 := (cell_far (p := ⟨gb410, 0, none⟩) Z10_34 (.bool t400)).trans hx411_1; replace hx411_2 := (cell_far (p := ⟨gb410, 0, none⟩) Z10_34 (.bool t400)).trans hx411_2; replace hx411_0 := (cell_far (p := ⟨gb410, 1, none⟩) Z10_35 (.bool t401)).trans hx411_0; replace hx411_1 := (cell_far (p := ⟨gb410, 1, none⟩) Z10_35 (.bool t401)).trans hx411_1; replace hx411_2 := (cell_far (p := ⟨gb410, 1, none⟩) Z10_35 (.bool t401)).trans hx411_2; replace hx411_0 := (cell_far (p := ⟨gb410, 2, none⟩) Z10_36 (.bool t402)).trans hx411_0; replace hx411_1 := (cell_far (p := ⟨gb410, 2, none⟩) Z10_36 (.bool t402)).trans hx411_1; replace hx411_2 := (cell_far (p := ⟨gb410, 2, none⟩) Z10_36 (.bool t402)).trans hx411_2; replace hx411_0 := (cell_far (p := ⟨gb410, 3, none⟩) Z10_37 (.bool t403)).trans hx411_0; replace hx411_1 := (cell_far (p := ⟨gb410, 3, none⟩) Z10_37 (.bool t403)).trans hx411_1; replace hx411_2 := (cell_far (p := ⟨gb410, 3, none⟩) Z10_37 (.bool t403)).trans hx411_2; replace hx411_0 := (cell_far (p := ⟨gb410, 4, none⟩) Z10_38 (.bool t404)).trans hx411_0; replace hx411_1 := (cell_far (p := ⟨gb410, 4, none⟩) Z10_38 (.bool t404)).trans hx411_1; replace hx411_2 := (cell_far (p := ⟨gb410, 4, none⟩) Z10_38 (.bool t404)).trans hx411_2; replace hx411_0 := (cell_far (p := ⟨gb410, 5, none⟩) Z10_39 (.bool t405)).trans hx411_0; replace hx411_1 := (cell_far (p := ⟨gb410, 5, none⟩) Z10_39 (.bool t405)).trans hx411_1; replace hx411_2 := (cell_far (p := ⟨gb410, 5, none⟩) Z10_39 (.bool t405)).trans hx411_2; replace hx411_0 := (cell_far (p := ⟨gb410, 6, none⟩) Z10_40 (.bool t406)).trans hx411_0; replace hx411_1 := (cell_far (p := ⟨gb410, 6, none⟩) Z10_40 (.bool t406)).trans hx411_1; replace hx411_2 := (cell_far (p := ⟨gb410, 6, none⟩) Z10_40 (.bool t406)).trans hx411_2; replace hx411_0 := (cell_far (p := ⟨gb410, 7, none⟩) Z10_41 (.bool t407)).trans hx411_0; replace hx411_1 := (cell_far (p := ⟨gb410, 7, none⟩) Z10_41 (.bool t407)).trans hx411_1; replace hx411_2 := (cell_far (p := ⟨gb410, 7, none⟩) Z10_41 (.bool t407)).trans hx411_2; replace hx411_0 := (cell_far (p := ⟨gb410, 8, none⟩) Z10_42 (.int .i64 t408)).trans hx411_0; replace hx411_1 := (cell_far (p := ⟨gb410, 8, none⟩) Z10_42 (.int .i64 t408)).trans hx411_1; replace hx411_2 := (cell_far (p := ⟨gb410, 8, none⟩) Z10_42 (.int .i64 t408)).trans hx411_2; clear hn411_0; clear hn411_1; clear hn411_2; clear hn411_3; clear hn411_4; clear hn411_5; clear hn411_6; clear hn411_7; clear hn411_8; replace p411 := eq_true p411; replace q411 := eq_true q411) | (go_at_call 20; (with_reducible refine (impl_Translate.calls k2 _ _ t380 t381 (IntKind.u64.wrap ((rd_T52 t384 x6_1).f0)) 0 false t412 t413 t414 t415 t416 _ ?side1 ?side2 A25.out).mono ?_); (case side1 => exact Z10_63); (case side2 => exact (Kd.R_reads' HO_3.out).2.1); rintro e w31 ⟨rfl, hb⟩; have n0_ := Aside0.mk (Kd.R_below Z10_5 hb); have n1_ := Aside0.mk (Kd.R_below Z10_20 hb); have n2_ := Aside0.mk (blk_below (g := gb410) (o := .cells #[.bool t400, .bool t401, .bool t402, .bool t403, .bool t404, .bool t405, .bool t406, .bool t407, .int .i64 t408] 27 (0, 0)) Z10_3 hb); have n3_ := Aside0.mk (below_step Z10_17 hb); clear HO_3; clear HO_5; clear BK410; clear HB; have HO_3 := n0_; have HO_5 := n1_; have BK410 := n2_; have HB := n3_; clear n0_ n1_ n2_ n3_; (try clear hb); (try clear hb2); (try clear hk); (try clear hi)) | ((with_reducible refine gate_dst (N := 11) rfl ?_); refine box_event ?hg (N := 11) ?hd (cs := #[.int .i64 0, .int .i64 0, .int .i64 0, .int .i64 0, .int .u64 0]) (t := 36) ?hr ?_; (case hd => rfl); (case hg => rfl); (case hr => exact Z10_55); intro gb417 hg w32 hbox hb; have n0_ := Aside0.mk (Kd.R_below Z10_12 hb); have n1_ := Aside0.mk (Kd.R_below Z10_13 hb); have n2_ := Aside0.mk (blk_below (g := gb410) (o := .cells #[.bool t400, .bool t401, .bool t402, .bool t403, .bool t404, .bool t405, .bool t406, .bool t407, .int .i64 t408] 27 (0, 0)) Z10_8 hb); have n3_ := Aside0.mk (below_step Z10_17 hb); have n4_ := Aside0.mk (hbox); have n5_ := Aside0.mk ((Z10_65 : w.heap.size ≤ gb417)); have n6_ := Aside0.mk ((Z10_65 : w.heap.size ≤ gb417)); have n7_ := Aside0.mk ((Z10_32 : gb410 ≠ gb417)); have n8_ := Aside0.mk ((Z10_33 : gb417 ≠ gb410)); clear HO_3; clear HO_5; clear BK410; clear HB; have HO_3 := n0_; have HO_5 := n1_; have BK410 := n2_; have HB := n3_; have BK417 := n4_; have GW417 := n5_; have GE417 := n6_; have NB410_417 := n7_; have NB417_410 := n8_; clear n0_ n1_ n2_ n3_ n4_ n5_ n6_ n7_ n8_; clear hb hbox hg; have hnb33 := NB417_410.out; have hnc33 := NB410_417.out; have hcz34_0 : w32.cell? ⟨gb417, 0, none⟩ = some (.int .i64 0) := (blk_cell BK417.out 0).trans rfl; have hcz34_1 : w32.cell? ⟨gb417, 1, none⟩ = some (.int .i64 0) := (blk_cell BK417.out 1).trans rfl; have hcz34_2 : w32.cell? ⟨gb417, 2, none⟩ = some (.int .i64 0) := (blk_cell BK417.out 2).trans rfl; have hcz34_3 : w32.cell? ⟨gb417, 3, none⟩ = some (.int .i64 0) := (blk_cell BK417.out 3).trans rfl; have hcz34_4 : w32.cell? ⟨gb417, 4, none⟩ = some (.int .u64 0) := (blk_cell BK417.out 4).trans rfl; have hfz34_0 := blk_frozen BK417.out 0; have hfz34_1 := blk_frozen BK417.out 1; have hfz34_2 := blk_frozen BK417.out 2; have hfz34_3 := blk_frozen BK417.out 3; have hfz34_4 := blk_frozen BK417.out 4; have p418 : 0 ≤ (x6_1 : Int) := of_decide_eq_true Z10_19; have q418 : x6_1 < (t384.length : Int) := of_decide_eq_true Z10_19; obtain ⟨ad418, e418, hx418_0, hx418_1, hx418_2⟩ := at_T52 (Kd.R_reads' HO_5.out).2.2 x6_1 p418 q418; obtain rfl : ad398 = ad418 := (by injection e418); have hn418_0 : ad398.block ≠ gb417 := Kd.own_blk (Kd.R_ne HO_5.out BK417.out Z10_64); have hn418_1 : ad398.block ≠ gb417 := Kd.own_blk (Kd.R_ne HO_5.out BK417.out Z10_64); have hn418_2 : ad398.block ≠ gb417 := Kd.own_blk (Kd.R_ne HO_5.out BK417.out Z10_64); have hn418_3 : ad398.block ≠ gb417 := Kd.own_blk (Kd.R_ne HO_5.out BK417.out Z10_64); have hn418_4 : ad398.block ≠ gb417 := Kd.own_blk (Kd.R_ne HO_5.out BK417.out Z10_64); replace hx418_0 := (cell_far (p := ⟨gb417, 0, none⟩) Z10_43 (.int .i64 t412)).trans hx418_0; replace hx418_1 := (cell_far (p := ⟨gb417, 0, none⟩) Z10_43 (.int .i64 t412)).trans hx418_1; replace hx418_2 := (cell_far (p := ⟨gb417, 0, none⟩) Z10_43 (.int .i64 t412)).trans hx418_2; replace hx418_0 := (cell_far (p := ⟨gb417, 1, none⟩) Z10_44 (.int .i64 t413)).trans hx418_0; replace hx418_1 := (cell_far (p := ⟨gb417, 1, none⟩) Z10_44 (.int .i64 t413)).trans hx418_1; replace hx418_2 := (cell_far (p := ⟨gb417, 1, none⟩) Z10_44 (.int .i64 t413)).trans hx418_2; replace hx418_0 := (cell_far (p := ⟨gb417, 2, none⟩) Z10_45 (.int .i64 t414)).trans hx418_0; replace hx418_1 := (cell_far (p := ⟨gb417, 2, none⟩) Z10_45 (.int .i64 t414)).trans hx418_1; replace hx418_2 := (cell_far (p := ⟨gb417, 2, none⟩) Z10_45 (.int .i64 t414)).trans hx418_2; replace hx418_0 := (cell_far (p := ⟨gb417, 3, none⟩) Z10_46 (.int .i64 t415)).trans hx418_0; replace hx418_1 := (cell_far (p := ⟨gb417, 3, none⟩) Z10_46 (.int .i64 t415)).trans hx418_1; replace hx418_2 := (cell_far (p := ⟨gb417, 3, none⟩) Z10_46 (.int .i64 t415)).trans hx418_2; replace hx418_0 := (cell_far (p := ⟨gb417, 4, none⟩) Z10_47 (.int .u64 t416)).trans hx418_0; replace hx418_1 := (cell_far (p := ⟨gb417, 4, none⟩) Z10_47 (.int .u64 t416)).trans hx418_1; replace hx418_2 := (cell_far (p := ⟨gb417, 4, none⟩) Z10_47 (.int .u64 t416)).trans hx418_2; clear hn418_0; clear hn418_1; clear hn418_2; clear hn418_3; clear hn418_4; replace p418 := eq_true p418; replace q418 := eq_true q418) | (go_at_call 20; (with_reducible refine (impl_Translate.calls k2 _ _ t380 t381 (IntKind.u64.wrap (wrap64 ((wrap64 (((rd_T52 t384 x6_1).f0) + x7_2)) - 1))) 0 false t419 t420 t421 t422 t423 _ ?side1 ?side2 A26.out).mono ?_); (case side1 => exact Z10_62); (case side2 => exact (Kd.R_reads' HO_3.out).2.1); rintro e w35 ⟨rfl, hb⟩; have n0_ := Aside0.mk (Kd.R_below Z10_11 hb); have n1_ := Aside0.mk (Kd.R_below Z10_30 hb); have n2_ := Aside0.mk (blk_below (g := gb410) (o := .cells #[.bool t400, .bool t401, .bool t402, .bool t403, .bool t404, .bool t405, .bool t406, .bool t407, .int .i64 t408] 27 (0, 0)) Z10_22 hb); have n3_ := Aside0.mk (blk_below (g := gb417) (o := .cells #[.int .i64 t412, .int .i64 t413, .int .i64 t414, .int .i64 t415, .int .u64 t416] 36 (0, 0)) Z10_14 hb); have n4_ := Aside0.mk (below_step Z10_15 hb); clear HO_3; clear HO_5; clear BK410; clear BK417; clear HB; have HO_3 := n0_; have HO_5 := n1_; have BK410 := n2_; have BK417 := n3_; have HB := n4_; clear n0_ n1_ n2_ n3_ n4_; (try clear hb); (try clear hb2); (try clear hk); (try clear hi)) | ((with_reducible refine gate_dst (N := 12) rfl ?_); refine box_event ?hg (N := 12) ?hd (cs := #[.int .i64 0, .int .i64 0, .int .i64 0, .int .i64 0, .int .u64 0]) (t := 36) ?hr ?_; (case hd => rfl); (case hg => rfl); (case hr => exact Z10_55); intro gb424 hg w36 hbox hb; have n0_ := Aside0.mk (Kd.R_below Z10_12 hb); have n1_ := Aside0.mk (Kd.R_below Z10_13 hb); have n2_ := Aside0.mk (blk_below (g := gb410) (o := .cells #[.bool t400, .bool t401, .bool t402, .bool t403, .bool t404, .bool t405, .bool t406, .bool t407, .int .i64 t408] 27 (0, 0)) Z10_8 hb); have n3_ := Aside0.mk (blk_below (g := gb417) (o := .cells #[.int .i64 t412, .int .i64 t413, .int .i64 t414, .int .i64 t415, .int .u64 t416] 36 (0, 0)) Z10_16 hb); have n4_ := Aside0.mk (below_step Z10_15 hb); have n5_ := Aside0.mk (hbox); have n6_ := Aside0.mk ((Z10_66 : w.heap.size ≤ gb424)); have n7_ := Aside0.mk ((Z10_66 : w.heap.size ≤ gb424)); have n8_ := Aside0.mk ((Z10_32 : gb410 ≠ gb424)); have n9_ := Aside0.mk ((Z10_33 : gb424 ≠ gb410)); have n10_ := Aside0.mk ((Z10_59 : gb417 ≠ gb424)); have n11_ := Aside0.mk ((Z10_60 : gb424 ≠ gb417)); clear HO_3; clear HO_5; clear BK410; clear BK417; clear HB; have HO_3 := n0_; have HO_5 := n1_; have BK410 := n2_; have BK417 := n3_; have HB := n4_; have BK424 := n5_; have GW424 := n6_; have GE424 := n7_; have NB410_424 := n8_; have NB424_410 := n9_; have NB417_424 := n10_; have NB424_417 := n11_; clear n0_ n1_ n2_ n3_ n4_ n5_ n6_ n7_ n8_ n9_ n10_ n11_; clear hb hbox hg; have hnb37 := NB424_410.out; have hnc37 := NB410_424.out; have hnb38 := NB424_417.out; have hnc38 := NB417_424.out; have hcz39_0 : w36.cell? ⟨gb424, 0, none⟩ = some (.int .i64 0) := (blk_cell BK424.out 0).trans rfl; have hcz39_1 : w36.cell? ⟨gb424, 1, none⟩ = some (.int .i64 0) := (blk_cell BK424.out 1).trans rfl; have hcz39_2 : w36.cell? ⟨gb424, 2, none⟩ = some (.int .i64 0) := (blk_cell BK424.out 2).trans rfl; have hcz39_3 : w36.cell? ⟨gb424, 3, none⟩ = some (.int .i64 0) := (blk_cell BK424.out 3).trans rfl; have hcz39_4 : w36.cell? ⟨gb424, 4, none⟩ = some (.int .u64 0) := (blk_cell BK424.out 4).trans rfl; have hfz39_0 := blk_frozen BK424.out 0; have hfz39_1 := blk_frozen BK424.out 1; have hfz39_2 := blk_frozen BK424.out 2; have hfz39_3 := blk_frozen BK424.out 3; have hfz39_4 := blk_frozen BK424.out 4)); go_upto_region 20 with (first | (go_at_call 16; (with_reducible refine (impl_GetEntry.calls ((rd_T52 t384 x6_1).f2) t400 t401 t402 t403 t404 t405 t406 t407 t408 t409 _ A24.out).mono ?_); rintro e w28 ⟨rfl, hb⟩; have n0_ := Aside0.mk (Kd.R_below Z10_12 hb); have n1_ := Aside0.mk (Kd.R_below Z10_13 hb); have n2_ := Aside0.mk (below_step Z10_1 hb); clear HO_3; clear HO_5; clear HB; have HO_3 := n0_; have HO_5 := n1_; have HB := n2_; clear n0_ n1_ n2_; (try clear hb); (try clear hb2); (try clear hk); (try clear hi)) | ((with_reducible refine gate_dst (N := 9) rfl ?_); refine box_event ?hg (N := 9) ?hd (cs := #[.bool false, .bool false, .bool false, .bool false, .bool false, .bool false, .bool false, .bool false, .int .i64 0]) (t := 27) ?hr ?_; (case hd => rfl); (case hg => rfl); (case hr => exact Z10_55); intro gb410 hg w29 hbox hb; have n0_ := Aside0.mk (Kd.R_below Z10_12 hb); have n1_ := Aside0.mk (Kd.R_below Z10_13 hb); have n2_ := Aside0.mk (below_step Z10_1 hb); have n3_ := Aside0.mk (hbox); have n4_ := Aside0.mk ((Z10_67 : w.heap.size ≤ gb410)); have n5_ := Aside0.mk ((Z10_67 : w.heap.size ≤ gb410)); clear HO_3; clear HO_5; clear HB; have HO_3 := n0_; have HO_5 := n1_; have HB := n2_; have BK410 := n3_; have GW410 := n4_; have GE410 := n5_; clear n0_ n1_ n2_ n3_ n4_ n5_; clear hb hbox hg; have hcz30_0 : w29.cell? ⟨gb410, 0, none⟩ = some (.bool false) := (blk_cell BK410.out 0).trans rfl; have hcz30_1 : w29.cell? ⟨gb410, 1, none⟩ = some (.bool false) := (blk_cell BK410.out 1).trans rfl; have hcz30_2 : w29.cell? ⟨gb410, 2, none⟩ = some (.bool false) := (blk_cell BK410.out 2).trans rfl; have hcz30_3 : w29.cell? ⟨gb410, 3, none⟩ = some (.bool false) := (blk_cell BK410.out 3).trans rfl; have hcz30_4 : w29.cell? ⟨gb410, 4, none⟩ = some (.bool false) := (blk_cell BK410.out 4).trans rfl; have hcz30_5 : w29.cell? ⟨gb410, 5, none⟩ = some (.bool false) := (blk_cell BK410.out 5).trans rfl; have hcz30_6 : w29.cell? ⟨gb410, 6, none⟩ = some (.bool false) := (blk_cell BK410.out 6).trans rfl; have hcz30_7 : w29.cell? ⟨gb410, 7, none⟩ = some (.bool false) := (blk_cell BK410.out 7).trans rfl; have hcz30_8 : w29.cell? ⟨gb410, 8, none⟩ = some (.int .i64 0) := (blk_cell BK410.out 8).trans rfl; have hfz30_0 := blk_frozen BK410.out 0; have hfz30_1 := blk_frozen BK410.out 1; have hfz30_2 := blk_frozen BK410.out 2; have hfz30_3 := blk_frozen BK410.out 3; have hfz30_4 := blk_frozen BK410.out 4; have hfz30_5 := blk_frozen BK410.out 5; have hfz30_6 := blk_frozen BK410.out 6; have hfz30_7 := blk_frozen BK410.out 7; have hfz30_8 := blk_frozen BK410.out 8; have p411 : 0 ≤ (x6_1 : Int) := of_decide_eq_true Z10_19; have q411 : x6_1 < (t384.length : Int) := of_decide_eq_true Z10_19; obtain ⟨ad411, e411, hx411_0, hx411_1, hx411_2⟩ := at_T52 (Kd.R_reads' HO_5.out).2.2 x6_1 p411 q411; obtain rfl : ad398 = ad411 := (by injection e411); have hn411_0 : ad398.block ≠ gb410 := Kd.own_blk (Kd.R_ne HO_5.out BK410.out Z10_64); have hn411_1 : ad398.block ≠ gb410 := Kd.own_blk (Kd.R_ne HO_5.out BK410.out Z10_64); have hn411_2 : ad398.block ≠ gb410 := Kd.own_blk (Kd.R_ne HO_5.out BK410.out Z10_64); have hn411_3 : ad398.block ≠ gb410 := Kd.own_blk (Kd.R_ne HO_5.out BK410.out Z10_64); have hn411_4 : ad398.block ≠ gb410 := Kd.own_blk (Kd.R_ne HO_5.out BK410.out Z10_64); have hn411_5 : ad398.block ≠ gb410 := Kd.own_blk (Kd.R_ne HO_5.out BK410.out Z10_64); have hn411_6 : ad398.block ≠ gb410 := Kd.own_blk (Kd.R_ne HO_5.out BK410.out Z10_64); have hn411_7 : ad398.block ≠ gb410 := Kd.own_blk (Kd.R_ne HO_5.out BK410.out Z10_64); have hn411_8 : ad398.block ≠ gb410 := Kd.own_blk (Kd.R_ne HO_5.out BK410.out Z10_64); replace hx411_0 := (cell_far (p := ⟨gb410, 0, none⟩) Z10_34 (.bool t400)).trans hx411_0; replace hx411_1 := (cell_far (p := ⟨gb410, 0, none⟩) Z10_34 (.bool t400)).trans hx411_1; replace hx411_2 := (cell_far (p := ⟨gb410, 0, none⟩) Z10_34 (.bool t400)).trans hx411_2; replace hx411_0 := (cell_far (p := ⟨gb410, 1, none⟩) Z10_35 (.bool t401)).trans hx411_0; replace hx411_1 := (cell_far (p := ⟨gb410, 1, none⟩) Z10_35 (.bool t401)).trans hx411_1; replace hx411_2 := (cell_far (p := ⟨gb410, 1, none⟩) Z10_35 (.bool t401)).trans hx411_2; replace hx411_0 := (cell_far (p := ⟨gb410, 2, none⟩) Z10_36 (.bool t402)).trans hx411_0; replace hx411_1 := (cell_far (p := ⟨gb410, 2, none⟩) Z10_36 (.bool t402)).trans hx411_1; replace hx411_2 := (cell_far (p := ⟨gb410, 2, none⟩) Z10_36 (.bool t402)).trans hx411_2; replace hx411_0 := (cell_far (p := ⟨gb410, 3, none⟩) Z10_37 (.bool t403)).trans hx411_0; replace hx411_1 := (cell_far (p := ⟨gb410, 3, none⟩) Z10_37 (.bool t403)).trans hx411_1; replace hx411_2 := (cell_far (p := ⟨gb410, 3, none⟩) Z10_37 (.bool t403)).trans hx411_2; replace hx411_0 := (cell_far (p := ⟨gb410, 4, none⟩) Z10_38 (.bool t404)).trans hx411_0; replace hx411_1 := (cell_far (p := ⟨gb410, 4, none⟩) Z10_38 (.bool t404)).trans hx411_1; replace hx411_2 := (cell_far (p := ⟨gb410, 4, none⟩) Z10_38 (.bool t404)).trans hx411_2; replace hx411_0 := (cell_far (p := ⟨gb410, 5, none⟩) Z10_39 (.bool t405)).trans hx411_0; replace hx411_1 := (cell_far (p := ⟨gb410, 5, none⟩) Z10_39 (.bool t405)).trans hx411_1; replace hx411_2 := (cell_far (p := ⟨gb410, 5, none⟩) Z10_39 (.bool t405)).trans hx411_2; replace hx411_0 := (cell_far (p := ⟨gb410, 6, none⟩) Z10_40 (.bool t406)).trans hx411_0; replace hx411_1 := (cell_far (p := ⟨gb410, 6, none⟩) Z10_40 (.bool t406)).trans hx411_1; replace hx411_2 := (cell_far (p := ⟨gb410, 6, none⟩) Z10_40 (.bool t406)).trans hx411_2; replace hx411_0 := (cell_far (p := ⟨gb410, 7, none⟩) Z10_41 (.bool t407)).trans hx411_0; replace hx411_1 := (cell_far (p := ⟨gb410, 7, none⟩) Z10_41 (.bool t407)).trans hx411_1; replace hx411_2 := (cell_far (p := ⟨gb410, 7, none⟩) Z10_41 (.bool t407)).trans hx411_2; replace hx411_0 := (cell_far (p := ⟨gb410, 8, none⟩) Z10_42 (.int .i64 t408)).trans hx411_0; replace hx411_1 := (cell_far (p := ⟨gb410, 8, none⟩) Z10_42 (.int .i64 t408)).trans hx411_1; replace hx411_2 := (cell_far (p := ⟨gb410, 8, none⟩) Z10_42 (.int .i64 t408)).trans hx411_2; clear hn411_0; clear hn411_1; clear hn411_2; clear hn411_3; clear hn411_4; clear hn411_5; clear hn411_6; clear hn411_7; clear hn411_8; replace p411 := eq_true p411; replace q411 := eq_true q411) | (go_at_call 20; (with_reducible refine (impl_Translate.calls k2 _ _ t380 t381 (IntKind.u64.wrap ((rd_T52 t384 x6_1).f0)) 0 false t412 t413 t414 t415 t416 _ ?side1 ?side2 A25.out).mono ?_); (case side1 => exact Z10_63); (case side2 => exact (Kd.R_reads' HO_3.out).2.1); rintro e w31 ⟨rfl, hb⟩; have n0_ := Aside0.mk (Kd.R_below Z10_5 hb); have n1_ := Aside0.mk (Kd.R_below Z10_20 hb); have n2_ := Aside0.mk (blk_below (g := gb410) (o := .cells #[.bool t400, .bool t401, .bool t402, .bool t403, .bool t404, .bool t405, .bool t406, .bool t407, .int .i64 t408] 27 (0, 0)) Z10_3 hb); have n3_ := Aside0.mk (below_step Z10_17 hb); clear HO_3; clear HO_5; clear BK410; clear HB; have HO_3 := n0_; have HO_5 := n1_; have BK410 := n2_; have HB := n3_; clear n0_ n1_ n2_ n3_; (try clear hb); (try clear hb2); (try clear hk); (try clear hi)) | ((with_reducible refine gate_dst (N := 11) rfl ?_); refine box_event ?hg (N := 11) ?hd (cs := #[.int .i64 0, .int .i64 0, .int .i64 0, .int .i64 0, .int .u64 0]) (t := 36) ?hr ?_; (case hd => rfl); (case hg => rfl); (case hr => exact Z10_55); intro gb417 hg w32 hbox hb; have n0_ := Aside0.mk (Kd.R_below Z10_12 hb); have n1_ := Aside0.mk (Kd.R_below Z10_13 hb); have n2_ := Aside0.mk (blk_below (g := gb410) (o := .cells #[.bool t400, .bool t401, .bool t402, .bool t403, .bool t404, .bool t405, .bool t406, .bool t407, .int .i64 t408] 27 (0, 0)) Z10_8 hb); have n3_ := Aside0.mk (below_step Z10_17 hb); have n4_ := Aside0.mk (hbox); have n5_ := Aside0.mk ((Z10_65 : w.heap.size ≤ gb417)); have n6_ := Aside0.mk ((Z10_65 : w.heap.size ≤ gb417)); have n7_ := Aside0.mk ((Z10_32 : gb410 ≠ gb417)); have n8_ := Aside0.mk ((Z10_33 : gb417 ≠ gb410)); clear HO_3; clear HO_5; clear BK410; clear HB; have HO_3 := n0_; have HO_5 := n1_; have BK410 := n2_; have HB := n3_; have BK417 := n4_; have GW417 := n5_; have GE417 := n6_; have NB410_417 := n7_; have NB417_410 := n8_; clear n0_ n1_ n2_ n3_ n4_ n5_ n6_ n7_ n8_; clear hb hbox hg; have hnb33 := NB417_410.out; have hnc33 := NB410_417.out; have hcz34_0 : w32.cell? ⟨gb417, 0, none⟩ = some (.int .i64 0) := (blk_cell BK417.out 0).trans rfl; have hcz34_1 : w32.cell? ⟨gb417, 1, none⟩ = some (.int .i64 0) := (blk_cell BK417.out 1).trans rfl; have hcz34_2 : w32.cell? ⟨gb417, 2, none⟩ = some (.int .i64 0) := (blk_cell BK417.out 2).trans rfl; have hcz34_3 : w32.cell? ⟨gb417, 3, none⟩ = some (.int .i64 0) := (blk_cell BK417.out 3).trans rfl; have hcz34_4 : w32.cell? ⟨gb417, 4, none⟩ = some (.int .u64 0) := (blk_cell BK417.out 4).trans rfl; have hfz34_0 := blk_frozen BK417.out 0; have hfz34_1 := blk_frozen BK417.out 1; have hfz34_2 := blk_frozen BK417.out 2; have hfz34_3 := blk_frozen BK417.out 3; have hfz34_4 := blk_frozen BK417.out 4; have p418 : 0 ≤ (x6_1 : Int) := of_decide_eq_true Z10_19; have q418 : x6_1 < (t384.length : Int) := of_decide_eq_true Z10_19; obtain ⟨ad418, e418, hx418_0, hx418_1, hx418_2⟩ := at_T52 (Kd.R_reads' HO_5.out).2.2 x6_1 p418 q418; obtain rfl : ad398 = ad418 := (by injection e418); have hn418_0 : ad398.block ≠ gb417 := Kd.own_blk (Kd.R_ne HO_5.out BK417.out Z10_64); have hn418_1 : ad398.block ≠ gb417 := Kd.own_blk (Kd.R_ne HO_5.out BK417.out Z10_64); have hn418_2 : ad398.block ≠ gb417 := Kd.own_blk (Kd.R_ne HO_5.out BK417.out Z10_64); have hn418_3 : ad398.block ≠ gb417 := Kd.own_blk (Kd.R_ne HO_5.out BK417.out Z10_64); have hn418_4 : ad398.block ≠ gb417 := Kd.own_blk (Kd.R_ne HO_5.out BK417.out Z10_64); replace hx418_0 := (cell_far (p := ⟨gb417, 0, none⟩) Z10_43 (.int .i64 t412)).trans hx418_0; replace hx418_1 := (cell_far (p := ⟨gb417, 0, none⟩) Z10_43 (.int .i64 t412)).trans hx418_1; replace hx418_2 := (cell_far (p := ⟨gb417, 0, none⟩) Z10_43 (.int .i64 t412)).trans hx418_2; replace hx418_0 := (cell_far (p := ⟨gb417, 1, none⟩) Z10_44 (.int .i64 t413)).trans hx418_0; replace hx418_1 := (cell_far (p := ⟨gb417, 1, none⟩) Z10_44 (.int .i64 t413)).trans hx418_1; replace hx418_2 := (cell_far (p := ⟨gb417, 1, none⟩) Z10_44 (.int .i64 t413)).trans hx418_2; replace hx418_0 := (cell_far (p := ⟨gb417, 2, none⟩) Z10_45 (.int .i64 t414)).trans hx418_0; replace hx418_1 := (cell_far (p := ⟨gb417, 2, none⟩) Z10_45 (.int .i64 t414)).trans hx418_1; replace hx418_2 := (cell_far (p := ⟨gb417, 2, none⟩) Z10_45 (.int .i64 t414)).trans hx418_2; replace hx418_0 := (cell_far (p := ⟨gb417, 3, none⟩) Z10_46 (.int .i64 t415)).trans hx418_0; replace hx418_1 := (cell_far (p := ⟨gb417, 3, none⟩) Z10_46 (.int .i64 t415)).trans hx418_1; replace hx418_2 := (cell_far (p := ⟨gb417, 3, none⟩) Z10_46 (.int .i64 t415)).trans hx418_2; replace hx418_0 := (cell_far (p := ⟨gb417, 4, none⟩) Z10_47 (.int .u64 t416)).trans hx418_0; replace hx418_1 := (cell_far (p := ⟨gb417, 4, none⟩) Z10_47 (.int .u64 t416)).trans hx418_1; replace hx418_2 := (cell_far (p := ⟨gb417, 4, none⟩) Z10_47 (.int .u64 t416)).trans hx418_2; clear hn418_0; clear hn418_1; clear hn418_2; clear hn418_3; clear hn418_4; replace p418 := eq_true p418; replace q418 := eq_true q418) | (go_at_call 20; (with_reducible refine (impl_Translate.calls k2 _ _ t380 t381 (IntKind.u64.wrap (wrap64 ((wrap64 (((rd_T52 t384 x6_1).f0) + x7_2)) - 1))) 0 false t419 t420 t421 t422 t423 _ ?side1 ?side2 A26.out).mono ?_); (case side1 => exact Z10_62); (case side2 => exact (Kd.R_reads' HO_3.out).2.1); rintro e w35 ⟨rfl, hb⟩; have n0_ := Aside0.mk (Kd.R_below Z10_11 hb); have n1_ := Aside0.mk (Kd.R_below Z10_30 hb); have n2_ := Aside0.mk (blk_below (g := gb410) (o := .cells #[.bool t400, .bool t401, .bool t402, .bool t403, .bool t404, .bool t405, .bool t406, .bool t407, .int .i64 t408] 27 (0, 0)) Z10_22 hb); have n3_ := Aside0.mk (blk_below (g := gb417) (o := .cells #[.int .i64 t412, .int .i64 t413, .int .i64 t414, .int .i64 t415, .int .u64 t416] 36 (0, 0)) Z10_14 hb); have n4_ := Aside0.mk (below_step Z10_15 hb); clear HO_3; clear HO_5; clear BK410; clear BK417; clear HB; have HO_3 := n0_; have HO_5 := n1_; have BK410 := n2_; have BK417 := n3_; have HB := n4_; clear n0_ n1_ n2_ n3_ n4_; (try clear hb); (try clear hb2); (try clear hk); (try clear hi)) | ((with_reducible refine gate_dst (N := 12) rfl ?_); refine box_event ?hg (N := 12) ?hd (cs := #[.int .i64 0, .int .i64 0, .int .i64 0, .int .i64 0, .int .u64 0]) (t := 36) ?hr ?_; (case hd => rfl); (case hg => rfl); (case hr => exact Z10_55); intro gb424 hg w36 hbox hb; have n0_ := Aside0.mk (Kd.R_below Z10_12 hb); have n1_ := Aside0.mk (Kd.R_below Z10_13 hb); have n2_ := Aside0.mk (blk_below (g := gb410) (o := .cells #[.bool t400, .bool t401, .bool t402, .bool t403, .bool t404, .bool t405, .bool t406, .bool t407, .int .i64 t408] 27 (0, 0)) Z10_8 hb); have n3_ := Aside0.mk (blk_below (g := gb417) (o := .cells #[.int .i64 t412, .int .i64 t413, .int .i64 t414, .int .i64 t415, .int .u64 t416] 36 (0, 0)) Z10_16 hb); have n4_ := Aside0.mk (below_step Z10_15 hb); have n5_ := Aside0.mk (hbox); have n6_ := Aside0.mk ((Z10_66 : w.heap.size ≤ gb424)); have n7_ := Aside0.mk ((Z10_66 : w.heap.size ≤ gb424)); have n8_ := Aside0.mk ((Z10_32 : gb410 ≠ gb424)); have n9_ := Aside0.mk ((Z10_33 : gb424 ≠ gb410)); have n10_ := Aside0.mk ((Z10_59 : gb417 ≠ gb424)); have n11_ := Aside0.mk ((Z10_60 : gb424 ≠ gb417)); clear HO_3; clear HO_5; clear BK410; clear BK417; clear HB; have HO_3 := n0_; have HO_5 := n1_; have BK410 := n2_; have BK417 := n3_; have HB := n4_; have BK424 := n5_; have GW424 := n6_; have GE424 := n7_; have NB410_424 := n8_; have NB424_410 := n9_; have NB417_424 := n10_; have NB424_417 := n11_; clear n0_ n1_ n2_ n3_ n4_ n5_ n6_ n7_ n8_ n9_ n10_ n11_; clear hb hbox hg; have hnb37 := NB424_410.out; have hnc37 := NB410_424.out; have hnb38 := NB424_417.out; have hnc38 := NB417_424.out; have hcz39_0 : w36.cell? ⟨gb424, 0, none⟩ = some (.int .i64 0) := (blk_cell BK424.out 0).trans rfl; have hcz39_1 : w36.cell? ⟨gb424, 1, none⟩ = some (.int .i64 0) := (blk_cell BK424.out 1).trans rfl; have hcz39_2 : w36.cell? ⟨gb424, 2, none⟩ = some (.int .i64 0) := (blk_cell BK424.out 2).trans rfl; have hcz39_3 : w36.cell? ⟨gb424, 3, none⟩ = some (.int .i64 0) := (blk_cell BK424.out 3).trans rfl; have hcz39_4 : w36.cell? ⟨gb424, 4, none⟩ = some (.int .u64 0) := (blk_cell BK424.out 4).trans rfl; have hfz39_0 := blk_frozen BK424.out 0; have hfz39_1 := blk_frozen BK424.out 1; have hfz39_2 := blk_frozen BK424.out 2; have hfz39_3 := blk_frozen BK424.out 3; have hfz39_4 := blk_frozen BK424.out 4)))
        (try simp only [Act.put, List.setIfInBounds_toArray, List.set_cons_zero, List.set_cons_succ])
        go_cut [124] (fun v124 wc => ∃ (kq : Nat) (x124_26 : Bool), v124 = .bool x124_26 ∧ Aside0 (laws_FnLeavesFound.j2 kq t380 t381 t384 x6_1 x7_2 x124_26 t400 t401 t402 t403 t404 t405 t406 t407 t408 t412 t413 t414 t415 t416 t419 t420 t421 t422 t423 = some r) ∧ Aside0 (kq ≤ k2) ∧ Aside0 (Kd.R (Kd.int .u8) 5 wc w.heap.size (fun _ => True) (.slice Ao11 t380.length co11) t380) ∧ Aside0 (Kd.R k52 52 wc w.heap.size (fun _ => True) (.slice (some ad398) t384.length co17) t384) ∧ Aside0 (wc.heap[gb410]? = some (.cells #[.bool t400, .bool t401, .bool t402, .bool t403, .bool t404, .bool t405, .bool t406, .bool t407, .int .i64 t408] 27 (0, 0))) ∧ Aside0 (wc.heap[gb417]? = some (.cells #[.int .i64 t412, .int .i64 t413, .int .i64 t414, .int .i64 t415, .int .u64 t416] 36 (0, 0))) ∧ Aside0 (wc.heap[gb424]? = some (.cells #[.int .i64 t419, .int .i64 t420, .int .i64 t421, .int .i64 t422, .int .u64 t423] 36 (0, 0))) ∧ Aside0 (Below w.heap.size w wc))
        case first =>
         have H := HC27.out
         clear HC27
         by_cases c40 : t409 = true
         ·subst c40
          have H1 : (if t400 = true then (if t413 = ((rd_T52 t384 x6_1).f1) then (if t420 = ((rd_T52 t384 x6_1).f1) then (if t414 = t421 then (laws_FnLeavesFound.j2 k2 t380 t381 t384 x6_1 x7_2 (t412 != t419) t400 t401 t402 t403 t404 t405 t406 t407 t408 t412 t413 t414 t415 t416 t419 t420 t421 t422 t423) else (laws_FnLeavesFound.j2 k2 t380 t381 t384 x6_1 x7_2 true t400 t401 t402 t403 t404 t405 t406 t407 t408 t412 t413 t414 t415 t416 t419 t420 t421 t422 t423)) else (laws_FnLeavesFound.j2 k2 t380 t381 t384 x6_1 x7_2 true t400 t401 t402 t403 t404 t405 t406 t407 t408 t412 t413 t414 t415 t416 t419 t420 t421 t422 t423)) else (laws_FnLeavesFound.j2 k2 t380 t381 t384 x6_1 x7_2 true t400 t401 t402 t403 t404 t405 t406 t407 t408 t412 t413 t414 t415 t416 t419 t420 t421 t422 t423)) else (laws_FnLeavesFound.j2 k2 t380 t381 t384 x6_1 x7_2 true t400 t401 t402 t403 t404 t405 t406 t407 t408 t412 t413 t414 t415 t416 t419 t420 t421 t422 t423)) = some r := by rw [if_pos rfl] at H; exact H
          clear H
          have H := H1
          clear H1
          by_cases c41 : t400 = true
          ·subst c41
           have H1 : (if t413 = ((rd_T52 t384 x6_1).f1) then (if t420 = ((rd_T52 t384 x6_1).f1) then (if t414 = t421 then (laws_FnLeavesFound.j2 k2 t380 t381 t384 x6_1 x7_2 (t412 != t419) true t401 t402 t403 t404 t405 t406 t407 t408 t412 t413 t414 t415 t416 t419 t420 t421 t422 t423) else (laws_FnLeavesFound.j2 k2 t380 t381 t384 x6_1 x7_2 true true t401 t402 t403 t404 t405 t406 t407 t408 t412 t413 t414 t415 t416 t419 t420 t421 t422 t423)) else (laws_FnLeavesFound.j2 k2 t380 t381 t384 x6_1 x7_2 true true t401 t402 t403 t404 t405 t406 t407 t408 t412 t413 t414 t415 t416 t419 t420 t421 t422 t423)) else (laws_FnLeavesFound.j2 k2 t380 t381 t384 x6_1 x7_2 true true t401 t402 t403 t404 t405 t406 t407 t408 t412 t413 t414 t415 t416 t419 t420 t421 t422 t423)) = some r := by rw [if_pos rfl] at H; exact H
           clear H
           have H := H1
           clear H1
           by_cases c42 : t413 = ((rd_T52 t384 x6_1).f1)
           ·rw [if_pos c42] at H
            have c42b0 : (t413 == ((rd_T52 t384 x6_1).f1)) = true := beq_iff_eq.mpr c42
            have c42b1 : (t413 != ((rd_T52 t384 x6_1).f1)) = false := bne_eq_false_iff_eq.mpr c42
            clear c42
            (first | rw [c42b0] | (simp only [i64_w, i32_w]; rw [c42b0]) | skip)
            by_cases c43 : t420 = ((rd_T52 t384 x6_1).f1)
            ·rw [if_pos c43] at H
             have c43b0 : (t420 == ((rd_T52 t384 x6_1).f1)) = true := beq_iff_eq.mpr c43
             have c43b1 : (t420 != ((rd_T52 t384 x6_1).f1)) = false := bne_eq_false_iff_eq.mpr c43
             clear c43
             by_cases c44 : t414 = t421
             ·rw [if_pos c44] at H
              have c44b0 : (t414 == t421) = true := beq_iff_eq.mpr c44
              have c44b1 : (t414 != t421) = false := bne_eq_false_iff_eq.mpr c44
              clear c44
              have H' := Aside0.mk H
              clear H
              have hnb45 := NB410_417.out
              have hnc45 := NB417_410.out
              have hnb46 := NB410_424.out
              have hnc46 := NB424_410.out
              have hcz47_0 : w36.cell? ⟨gb410, 0, none⟩ = some (.bool true) := (blk_cell BK410.out 0).trans rfl
              have hcz47_1 : w36.cell? ⟨gb410, 1, none⟩ = some (.bool t401) := (blk_cell BK410.out 1).trans rfl
              have hcz47_2 : w36.cell? ⟨gb410, 2, none⟩ = some (.bool t402) := (blk_cell BK410.out 2).trans rfl
              have hcz47_3 : w36.cell? ⟨gb410, 3, none⟩ = some (.bool t403) := (blk_cell BK410.out 3).trans rfl
              have hcz47_4 : w36.cell? ⟨gb410, 4, none⟩ = some (.bool t404) := (blk_cell BK410.out 4).trans rfl
              have hcz47_5 : w36.cell? ⟨gb410, 5, none⟩ = some (.bool t405) := (blk_cell BK410.out 5).trans rfl
              have hcz47_6 : w36.cell? ⟨gb410, 6, none⟩ = some (.bool t406) := (blk_cell BK410.out 6).trans rfl
              have hcz47_7 : w36.cell? ⟨gb410, 7, none⟩ = some (.bool t407) := (blk_cell BK410.out 7).trans rfl
              have hcz47_8 : w36.cell? ⟨gb410, 8, none⟩ = some (.int .i64 t408) := (blk_cell BK410.out 8).trans rfl
              have hfz47_0 := blk_frozen BK410.out 0
              have hfz47_1 := blk_frozen BK410.out 1
              have hfz47_2 := blk_frozen BK410.out 2
              have hfz47_3 := blk_frozen BK410.out 3
              have hfz47_4 := blk_frozen BK410.out 4
              have hfz47_5 := blk_frozen BK410.out 5
              have hfz47_6 := blk_frozen BK410.out 6
              have hfz47_7 := blk_frozen BK410.out 7
              have hfz47_8 := blk_frozen BK410.out 8
              have hnb48 := NB417_424.out
              have hnc48 := NB424_417.out
              have hcz49_0 : w36.cell? ⟨gb417, 0, none⟩ = some (.int .i64 t412) := (blk_cell BK417.out 0).trans rfl
              have hcz49_1 : w36.cell? ⟨gb417, 1, none⟩ = some (.int .i64 t413) := (blk_cell BK417.out 1).trans rfl
              have hcz49_2 : w36.cell? ⟨gb417, 2, none⟩ = some (.int .i64 t414) := (blk_cell BK417.out 2).trans rfl
              have hcz49_3 : w36.cell? ⟨gb417, 3, none⟩ = some (.int .i64 t415) := (blk_cell BK417.out 3).trans rfl
              have hcz49_4 : w36.cell? ⟨gb417, 4, none⟩ = some (.int .u64 t416) := (blk_cell BK417.out 4).trans rfl
              have hfz49_0 := blk_frozen BK417.out 0
              have hfz49_1 := blk_frozen BK417.out 1
              have hfz49_2 := blk_frozen BK417.out 2
              have hfz49_3 := blk_frozen BK417.out 3
              have hfz49_4 := blk_frozen BK417.out 4
              have p425 : 0 ≤ (x6_1 : Int) := of_decide_eq_true Z10_19
              have q425 : x6_1 < (t384.length : Int) := of_decide_eq_true Z10_19
              obtain ⟨ad425, e425, hx425_0, hx425_1, hx425_2⟩ := at_T52 (Kd.R_reads' HO_5.out).2.2 x6_1 p425 q425
              obtain rfl : ad398 = ad425 := (by injection e425)
              have hn425_0 : ad398.block ≠ gb424 := Kd.own_blk (Kd.R_ne HO_5.out BK424.out Z10_64)
              have hn425_1 : ad398.block ≠ gb424 := Kd.own_blk (Kd.R_ne HO_5.out BK424.out Z10_64)
              have hn425_2 : ad398.block ≠ gb424 := Kd.own_blk (Kd.R_ne HO_5.out BK424.out Z10_64)
              have hn425_3 : ad398.block ≠ gb424 := Kd.own_blk (Kd.R_ne HO_5.out BK424.out Z10_64)
              have hn425_4 : ad398.block ≠ gb424 := Kd.own_blk (Kd.R_ne HO_5.out BK424.out Z10_64)
              replace hx425_0 := (cell_far (p := ⟨gb424, 0, none⟩) Z10_23 (.int .i64 t419)).trans hx425_0
              replace hx425_1 := (cell_far (p := ⟨gb424, 0, none⟩) Z10_23 (.int .i64 t419)).trans hx425_1
              replace hx425_2 := (cell_far (p := ⟨gb424, 0, none⟩) Z10_23 (.int .i64 t419)).trans hx425_2
              replace hx425_0 := (cell_far (p := ⟨gb424, 1, none⟩) Z10_24 (.int .i64 t420)).trans hx425_0
              replace hx425_1 := (cell_far (p := ⟨gb424, 1, none⟩) Z10_24 (.int .i64 t420)).trans hx425_1
              replace hx425_2 := (cell_far (p := ⟨gb424, 1, none⟩) Z10_24 (.int .i64 t420)).trans hx425_2
              replace hx425_0 := (cell_far (p := ⟨gb424, 2, none⟩) Z10_25 (.int .i64 t421)).trans hx425_0
              replace hx425_1 := (cell_far (p := ⟨gb424, 2, none⟩) Z10_25 (.int .i64 t421)).trans hx425_1
              replace hx425_2 := (cell_far (p := ⟨gb424, 2, none⟩) Z10_25 (.int .i64 t421)).trans hx425_2
              replace hx425_0 := (cell_far (p := ⟨gb424, 3, none⟩) Z10_26 (.int .i64 t422)).trans hx425_0
              replace hx425_1 := (cell_far (p := ⟨gb424, 3, none⟩) Z10_26 (.int .i64 t422)).trans hx425_1
              replace hx425_2 := (cell_far (p := ⟨gb424, 3, none⟩) Z10_26 (.int .i64 t422)).trans hx425_2
              replace hx425_0 := (cell_far (p := ⟨gb424, 4, none⟩) Z10_27 (.int .u64 t423)).trans hx425_0
              replace hx425_1 := (cell_far (p := ⟨gb424, 4, none⟩) Z10_27 (.int .u64 t423)).trans hx425_1
              replace hx425_2 := (cell_far (p := ⟨gb424, 4, none⟩) Z10_27 (.int .u64 t423)).trans hx425_2
              
              
              
              clear hn425_0
              clear hn425_1
              clear hn425_2
              clear hn425_3
              clear hn425_4
              replace p425 := eq_true p425
              replace q425 := eq_true q425
              have hcz50_0 : w36.cell? ⟨gb424, 0, none⟩ = some (.int .i64 0) := (blk_cell BK424.out 0).trans rfl
              have hcz50_1 : w36.cell? ⟨gb424, 1, none⟩ = some (.int .i64 0) := (blk_cell BK424.out 1).trans rfl
              have hcz50_2 : w36.cell? ⟨gb424, 2, none⟩ = some (.int .i64 0) := (blk_cell BK424.out 2).trans rfl
              have hcz50_3 : w36.cell? ⟨gb424, 3, none⟩ = some (.int .i64 0) := (blk_cell BK424.out 3).trans rfl
              have hcz50_4 : w36.cell? ⟨gb424, 4, none⟩ = some (.int .u64 0) := (blk_cell BK424.out 4).trans rfl
              have hfz50_0 := blk_frozen BK424.out 0
              have hfz50_1 := blk_frozen BK424.out 1
              have hfz50_2 := blk_frozen BK424.out 2
              have hfz50_3 := blk_frozen BK424.out 3
              have hfz50_4 := blk_frozen BK424.out 4
              have p426 : 0 ≤ (x6_1 : Int) := of_decide_eq_true Z10_19
              have q426 : x6_1 < (t384.length : Int) := of_decide_eq_true Z10_19
              obtain ⟨ad426, e426, hx426_0, hx426_1, hx426_2⟩ := at_T52 (Kd.R_reads' HO_5.out).2.2 x6_1 p426 q426
              obtain rfl : ad398 = ad426 := (by injection e426)
              have hn426_0 : ad398.block ≠ gb424 := Kd.own_blk (Kd.R_ne HO_5.out BK424.out Z10_64)
              have hn426_1 : ad398.block ≠ gb424 := Kd.own_blk (Kd.R_ne HO_5.out BK424.out Z10_64)
              have hn426_2 : ad398.block ≠ gb424 := Kd.own_blk (Kd.R_ne HO_5.out BK424.out Z10_64)
              have hn426_3 : ad398.block ≠ gb424 := Kd.own_blk (Kd.R_ne HO_5.out BK424.out Z10_64)
              have hn426_4 : ad398.block ≠ gb424 := Kd.own_blk (Kd.R_ne HO_5.out BK424.out Z10_64)
              replace hx426_0 := (cell_far (p := ⟨gb424, 0, none⟩) Z10_48 (.int .i64 t419)).trans hx426_0
              replace hx426_1 := (cell_far (p := ⟨gb424, 0, none⟩) Z10_48 (.int .i64 t419)).trans hx426_1
              replace hx426_2 := (cell_far (p := ⟨gb424, 0, none⟩) Z10_48 (.int .i64 t419)).trans hx426_2
              replace hx426_0 := (cell_far (p := ⟨gb424, 1, none⟩) Z10_49 (.int .i64 t420)).trans hx426_0
              replace hx426_1 := (cell_far (p := ⟨gb424, 1, none⟩) Z10_49 (.int .i64 t420)).trans hx426_1
              replace hx426_2 := (cell_far (p := ⟨gb424, 1, none⟩) Z10_49 (.int .i64 t420)).trans hx426_2
              replace hx426_0 := (cell_far (p := ⟨gb424, 2, none⟩) Z10_50 (.int .i64 t421)).trans hx426_0
              replace hx426_1 := (cell_far (p := ⟨gb424, 2, none⟩) Z10_50 (.int .i64 t421)).trans hx426_1
              replace hx426_2 := (cell_far (p := ⟨gb424, 2, none⟩) Z10_50 (.int .i64 t421)).trans hx426_2
              replace hx426_0 := (cell_far (p := ⟨gb424, 3, none⟩) Z10_51 (.int .i64 t422)).trans hx426_0
              replace hx426_1 := (cell_far (p := ⟨gb424, 3, none⟩) Z10_51 (.int .i64 t422)).trans hx426_1
              replace hx426_2 := (cell_far (p := ⟨gb424, 3, none⟩) Z10_51 (.int .i64 t422)).trans hx426_2
              replace hx426_0 := (cell_far (p := ⟨gb424, 4, none⟩) Z10_52 (.int .u64 t423)).trans hx426_0
              replace hx426_1 := (cell_far (p := ⟨gb424, 4, none⟩) Z10_52 (.int .u64 t423)).trans hx426_1
              replace hx426_2 := (cell_far (p := ⟨gb424, 4, none⟩) Z10_52 (.int .u64 t423)).trans hx426_2
              
              
              
              clear hn426_0
              clear hn426_1
              clear hn426_2
              clear hn426_3
              clear hn426_4
              replace p426 := eq_true p426
              replace q426 := eq_true q426
              go_wp2
              repeat (go_quiet (fail); try go_wp2)
              go_meet
              case rel => exact ⟨_, ((t412 != t419)), Z10_18, H', ⟨Z10_58⟩, ⟨Z10_9⟩, ⟨Z10_10⟩, ⟨Z10_6⟩, ⟨Z10_7⟩, ⟨Z10_2⟩, ⟨Z10_4⟩⟩
             rw [if_neg c44] at H
             have c44b0 : (t414 == t421) = false := beq_eq_false_iff_ne.mpr c44
             have c44b1 : (t414 != t421) = true := bne_iff_ne.mpr c44
             have H' := Aside0.mk H
             clear H
             have hnb51 := NB410_417.out
             have hnc51 := NB417_410.out
             have hnb52 := NB410_424.out
             have hnc52 := NB424_410.out
             have hcz53_0 : w36.cell? ⟨gb410, 0, none⟩ = some (.bool true) := (blk_cell BK410.out 0).trans rfl
             have hcz53_1 : w36.cell? ⟨gb410, 1, none⟩ = some (.bool t401) := (blk_cell BK410.out 1).trans rfl
             have hcz53_2 : w36.cell? ⟨gb410, 2, none⟩ = some (.bool t402) := (blk_cell BK410.out 2).trans rfl
             have hcz53_3 : w36.cell? ⟨gb410, 3, none⟩ = some (.bool t403) := (blk_cell BK410.out 3).trans rfl
             have hcz53_4 : w36.cell? ⟨gb410, 4, none⟩ = some (.bool t404) := (blk_cell BK410.out 4).trans rfl
             have hcz53_5 : w36.cell? ⟨gb410, 5, none⟩ = some (.bool t405) := (blk_cell BK410.out 5).trans rfl
             have hcz53_6 : w36.cell? ⟨gb410, 6, none⟩ = some (.bool t406) := (blk_cell BK410.out 6).trans rfl
             have hcz53_7 : w36.cell? ⟨gb410, 7, none⟩ = some (.bool t407) := (blk_cell BK410.out 7).trans rfl
             have hcz53_8 : w36.cell? ⟨gb410, 8, none⟩ = some (.int .i64 t408) := (blk_cell BK410.out 8).trans rfl
             have hfz53_0 := blk_frozen BK410.out 0
             have hfz53_1 := blk_frozen BK410.out 1
             have hfz53_2 := blk_frozen BK410.out 2
             have hfz53_3 := blk_frozen BK410.out 3
             have hfz53_4 := blk_frozen BK410.out 4
             have hfz53_5 := blk_frozen BK410.out 5
             have hfz53_6 := blk_frozen BK410.out 6
             have hfz53_7 := blk_frozen BK410.out 7
             have hfz53_8 := blk_frozen BK410.out 8
             have hnb54 := NB417_424.out
             have hnc54 := NB424_417.out
             have hcz55_0 : w36.cell? ⟨gb417, 0, none⟩ = some (.int .i64 t412) := (blk_cell BK417.out 0).trans rfl
             have hcz55_1 : w36.cell? ⟨gb417, 1, none⟩ = some (.int .i64 t413) := (blk_cell BK417.out 1).trans rfl
             have hcz55_2 : w36.cell? ⟨gb417, 2, none⟩ = some (.int .i64 t414) := (blk_cell BK417.out 2).trans rfl
             have hcz55_3 : w36.cell? ⟨gb417, 3, none⟩ = some (.int .i64 t415) := (blk_cell BK417.out 3).trans rfl
             have hcz55_4 : w36.cell? ⟨gb417, 4, none⟩ = some (.int .u64 t416) := (blk_cell BK417.out 4).trans rfl
             have hfz55_0 := blk_frozen BK417.out 0
             have hfz55_1 := blk_frozen BK417.out 1
             have hfz55_2 := blk_frozen BK417.out 2
             have hfz55_3 := blk_frozen BK417.out 3
             have hfz55_4 := blk_frozen BK417.out 4
             have p425 : 0 ≤ (x6_1 : Int) := of_decide_eq_true Z10_19
             have q425 : x6_1 < (t384.length : Int) := of_decide_eq_true Z10_19
             obtain ⟨ad425, e425, hx425_0, hx425_1, hx425_2⟩ := at_T52 (Kd.R_reads' HO_5.out).2.2 x6_1 p425 q425
             obtain rfl : ad398 = ad425 := (by injection e425)
             have hn425_0 : ad398.block ≠ gb424 := Kd.own_blk (Kd.R_ne HO_5.out BK424.out Z10_64)
             have hn425_1 : ad398.block ≠ gb424 := Kd.own_blk (Kd.R_ne HO_5.out BK424.out Z10_64)
             have hn425_2 : ad398.block ≠ gb424 := Kd.own_blk (Kd.R_ne HO_5.out BK424.out Z10_64)
             have hn425_3 : ad398.block ≠ gb424 := Kd.own_blk (Kd.R_ne HO_5.out BK424.out Z10_64)
             have hn425_4 : ad398.block ≠ gb424 := Kd.own_blk (Kd.R_ne HO_5.out BK424.out Z10_64)
             replace hx425_0 := (cell_far (p := ⟨gb424, 0, none⟩) Z10_23 (.int .i64 t419)).trans hx425_0
             replace hx425_1 := (cell_far (p := ⟨gb424, 0, none⟩) Z10_23 (.int .i64 t419)).trans hx425_1
             replace hx425_2 := (cell_far (p := ⟨gb424, 0, none⟩) Z10_23 (.int .i64 t419)).trans hx425_2
             replace hx425_0 := (cell_far (p := ⟨gb424, 1, none⟩) Z10_24 (.int .i64 t420)).trans hx425_0
             replace hx425_1 := (cell_far (p := ⟨gb424, 1, none⟩) Z10_24 (.int .i64 t420)).trans hx425_1
             replace hx425_2 := (cell_far (p := ⟨gb424, 1, none⟩) Z10_24 (.int .i64 t420)).trans hx425_2
             replace hx425_0 := (cell_far (p := ⟨gb424, 2, none⟩) Z10_25 (.int .i64 t421)).trans hx425_0
             replace hx425_1 := (cell_far (p := ⟨gb424, 2, none⟩) Z10_25 (.int .i64 t421)).trans hx425_1
             replace hx425_2 := (cell_far (p := ⟨gb424, 2, none⟩) Z10_25 (.int .i64 t421)).trans hx425_2
             replace hx425_0 := (cell_far (p := ⟨gb424, 3, none⟩) Z10_26 (.int .i64 t422)).trans hx425_0
             replace hx425_1 := (cell_far (p := ⟨gb424, 3, none⟩) Z10_26 (.int .i64 t422)).trans hx425_1
             replace hx425_2 := (cell_far (p := ⟨gb424, 3, none⟩) Z10_26 (.int .i64 t422)).trans hx425_2
             replace hx425_0 := (cell_far (p := ⟨gb424, 4, none⟩) Z10_27 (.int .u64 t423)).trans hx425_0
             replace hx425_1 := (cell_far (p := ⟨gb424, 4, none⟩) Z10_27 (.int .u64 t423)).trans hx425_1
             replace hx425_2 := (cell_far (p := ⟨gb424, 4, none⟩) Z10_27 (.int .u64 t423)).trans hx425_2
             
             
             
             clear hn425_0
             clear hn425_1
             clear hn425_2
             clear hn425_3
             clear hn425_4
             replace p425 := eq_true p425
             replace q425 := eq_true q425
             have hcz56_0 : w36.cell? ⟨gb424, 0, none⟩ = some (.int .i64 0) := (blk_cell BK424.out 0).trans rfl
             have hcz56_1 : w36.cell? ⟨gb424, 1, none⟩ = some (.int .i64 0) := (blk_cell BK424.out 1).trans rfl
             have hcz56_2 : w36.cell? ⟨gb424, 2, none⟩ = some (.int .i64 0) := (blk_cell BK424.out 2).trans rfl
             have hcz56_3 : w36.cell? ⟨gb424, 3, none⟩ = some (.int .i64 0) := (blk_cell BK424.out 3).trans rfl
             have hcz56_4 : w36.cell? ⟨gb424, 4, none⟩ = some (.int .u64 0) := (blk_cell BK424.out 4).trans rfl
             have hfz56_0 := blk_frozen BK424.out 0
             have hfz56_1 := blk_frozen BK424.out 1
             have hfz56_2 := blk_frozen BK424.out 2
             have hfz56_3 := blk_frozen BK424.out 3
             have hfz56_4 := blk_frozen BK424.out 4
             have p426 : 0 ≤ (x6_1 : Int) := of_decide_eq_true Z10_19
             have q426 : x6_1 < (t384.length : Int) := of_decide_eq_true Z10_19
             obtain ⟨ad426, e426, hx426_0, hx426_1, hx426_2⟩ := at_T52 (Kd.R_reads' HO_5.out).2.2 x6_1 p426 q426
             obtain rfl : ad398 = ad426 := (by injection e426)
             have hn426_0 : ad398.block ≠ gb424 := Kd.own_blk (Kd.R_ne HO_5.out BK424.out Z10_64)
             have hn426_1 : ad398.block ≠ gb424 := Kd.own_blk (Kd.R_ne HO_5.out BK424.out Z10_64)
             have hn426_2 : ad398.block ≠ gb424 := Kd.own_blk (Kd.R_ne HO_5.out BK424.out Z10_64)
             have hn426_3 : ad398.block ≠ gb424 := Kd.own_blk (Kd.R_ne HO_5.out BK424.out Z10_64)
             have hn426_4 : ad398.block ≠ gb424 := Kd.own_blk (Kd.R_ne HO_5.out BK424.out Z10_64)
             replace hx426_0 := (cell_far (p := ⟨gb424, 0, none⟩) Z10_48 (.int .i64 t419)).trans hx426_0
             replace hx426_1 := (cell_far (p := ⟨gb424, 0, none⟩) Z10_48 (.int .i64 t419)).trans hx426_1
             replace hx426_2 := (cell_far (p := ⟨gb424, 0, none⟩) Z10_48 (.int .i64 t419)).trans hx426_2
             replace hx426_0 := (cell_far (p := ⟨gb424, 1, none⟩) Z10_49 (.int .i64 t420)).trans hx426_0
             replace hx426_1 := (cell_far (p := ⟨gb424, 1, none⟩) Z10_49 (.int .i64 t420)).trans hx426_1
             replace hx426_2 := (cell_far (p := ⟨gb424, 1, none⟩) Z10_49 (.int .i64 t420)).trans hx426_2
             replace hx426_0 := (cell_far (p := ⟨gb424, 2, none⟩) Z10_50 (.int .i64 t421)).trans hx426_0
             replace hx426_1 := (cell_far (p := ⟨gb424, 2, none⟩) Z10_50 (.int .i64 t421)).trans hx426_1
             replace hx426_2 := (cell_far (p := ⟨gb424, 2, none⟩) Z10_50 (.int .i64 t421)).trans hx426_2
             replace hx426_0 := (cell_far (p := ⟨gb424, 3, none⟩) Z10_51 (.int .i64 t422)).trans hx426_0
             replace hx426_1 := (cell_far (p := ⟨gb424, 3, none⟩) Z10_51 (.int .i64 t422)).trans hx426_1
             replace hx426_2 := (cell_far (p := ⟨gb424, 3, none⟩) Z10_51 (.int .i64 t422)).trans hx426_2
             replace hx426_0 := (cell_far (p := ⟨gb424, 4, none⟩) Z10_52 (.int .u64 t423)).trans hx426_0
             replace hx426_1 := (cell_far (p := ⟨gb424, 4, none⟩) Z10_52 (.int .u64 t423)).trans hx426_1
             replace hx426_2 := (cell_far (p := ⟨gb424, 4, none⟩) Z10_52 (.int .u64 t423)).trans hx426_2
             
             
             
             clear hn426_0
             clear hn426_1
             clear hn426_2
             clear hn426_3
             clear hn426_4
             replace p426 := eq_true p426
             replace q426 := eq_true q426
             go_wp2
             repeat (go_quiet (fail); try go_wp2)
             go_meet
             case rel => exact ⟨_, (true), Z10_18, H', ⟨Z10_58⟩, ⟨Z10_9⟩, ⟨Z10_10⟩, ⟨Z10_6⟩, ⟨Z10_7⟩, ⟨Z10_2⟩, ⟨Z10_4⟩⟩
            rw [if_neg c43] at H
            have c43b0 : (t420 == ((rd_T52 t384 x6_1).f1)) = false := beq_eq_false_iff_ne.mpr c43
            have c43b1 : (t420 != ((rd_T52 t384 x6_1).f1)) = true := bne_iff_ne.mpr c43
            have H' := Aside0.mk H
            clear H
            have hnb57 := NB410_417.out
            have hnc57 := NB417_410.out
            have hnb58 := NB410_424.out
            have hnc58 := NB424_410.out
            have hcz59_0 : w36.cell? ⟨gb410, 0, none⟩ = some (.bool true) := (blk_cell BK410.out 0).trans rfl
            have hcz59_1 : w36.cell? ⟨gb410, 1, none⟩ = some (.bool t401) := (blk_cell BK410.out 1).trans rfl
            have hcz59_2 : w36.cell? ⟨gb410, 2, none⟩ = some (.bool t402) := (blk_cell BK410.out 2).trans rfl
            have hcz59_3 : w36.cell? ⟨gb410, 3, none⟩ = some (.bool t403) := (blk_cell BK410.out 3).trans rfl
            have hcz59_4 : w36.cell? ⟨gb410, 4, none⟩ = some (.bool t404) := (blk_cell BK410.out 4).trans rfl
            have hcz59_5 : w36.cell? ⟨gb410, 5, none⟩ = some (.bool t405) := (blk_cell BK410.out 5).trans rfl
            have hcz59_6 : w36.cell? ⟨gb410, 6, none⟩ = some (.bool t406) := (blk_cell BK410.out 6).trans rfl
            have hcz59_7 : w36.cell? ⟨gb410, 7, none⟩ = some (.bool t407) := (blk_cell BK410.out 7).trans rfl
            have hcz59_8 : w36.cell? ⟨gb410, 8, none⟩ = some (.int .i64 t408) := (blk_cell BK410.out 8).trans rfl
            have hfz59_0 := blk_frozen BK410.out 0
            have hfz59_1 := blk_frozen BK410.out 1
            have hfz59_2 := blk_frozen BK410.out 2
            have hfz59_3 := blk_frozen BK410.out 3
            have hfz59_4 := blk_frozen BK410.out 4
            have hfz59_5 := blk_frozen BK410.out 5
            have hfz59_6 := blk_frozen BK410.out 6
            have hfz59_7 := blk_frozen BK410.out 7
            have hfz59_8 := blk_frozen BK410.out 8
            have hnb60 := NB417_424.out
            have hnc60 := NB424_417.out
            have hcz61_0 : w36.cell? ⟨gb417, 0, none⟩ = some (.int .i64 t412) := (blk_cell BK417.out 0).trans rfl
            have hcz61_1 : w36.cell? ⟨gb417, 1, none⟩ = some (.int .i64 t413) := (blk_cell BK417.out 1).trans rfl
            have hcz61_2 : w36.cell? ⟨gb417, 2, none⟩ = some (.int .i64 t414) := (blk_cell BK417.out 2).trans rfl
            have hcz61_3 : w36.cell? ⟨gb417, 3, none⟩ = some (.int .i64 t415) := (blk_cell BK417.out 3).trans rfl
            have hcz61_4 : w36.cell? ⟨gb417, 4, none⟩ = some (.int .u64 t416) := (blk_cell BK417.out 4).trans rfl
            have hfz61_0 := blk_frozen BK417.out 0
            have hfz61_1 := blk_frozen BK417.out 1
            have hfz61_2 := blk_frozen BK417.out 2
            have hfz61_3 := blk_frozen BK417.out 3
            have hfz61_4 := blk_frozen BK417.out 4
            have p425 : 0 ≤ (x6_1 : Int) := of_decide_eq_true Z10_19
            have q425 : x6_1 < (t384.length : Int) := of_decide_eq_true Z10_19
            obtain ⟨ad425, e425, hx425_0, hx425_1, hx425_2⟩ := at_T52 (Kd.R_reads' HO_5.out).2.2 x6_1 p425 q425
            obtain rfl : ad398 = ad425 := (by injection e425)
            have hn425_0 : ad398.block ≠ gb424 := Kd.own_blk (Kd.R_ne HO_5.out BK424.out Z10_64)
            have hn425_1 : ad398.block ≠ gb424 := Kd.own_blk (Kd.R_ne HO_5.out BK424.out Z10_64)
            have hn425_2 : ad398.block ≠ gb424 := Kd.own_blk (Kd.R_ne HO_5.out BK424.out Z10_64)
            have hn425_3 : ad398.block ≠ gb424 := Kd.own_blk (Kd.R_ne HO_5.out BK424.out Z10_64)
            have hn425_4 : ad398.block ≠ gb424 := Kd.own_blk (Kd.R_ne HO_5.out BK424.out Z10_64)
            replace hx425_0 := (cell_far (p := ⟨gb424, 0, none⟩) Z10_23 (.int .i64 t419)).trans hx425_0
            replace hx425_1 := (cell_far (p := ⟨gb424, 0, none⟩) Z10_23 (.int .i64 t419)).trans hx425_1
            replace hx425_2 := (cell_far (p := ⟨gb424, 0, none⟩) Z10_23 (.int .i64 t419)).trans hx425_2
            replace hx425_0 := (cell_far (p := ⟨gb424, 1, none⟩) Z10_24 (.int .i64 t420)).trans hx425_0
            replace hx425_1 := (cell_far (p := ⟨gb424, 1, none⟩) Z10_24 (.int .i64 t420)).trans hx425_1
            replace hx425_2 := (cell_far (p := ⟨gb424, 1, none⟩) Z10_24 (.int .i64 t420)).trans hx425_2
            replace hx425_0 := (cell_far (p := ⟨gb424, 2, none⟩) Z10_25 (.int .i64 t421)).trans hx425_0
            replace hx425_1 := (cell_far (p := ⟨gb424, 2, none⟩) Z10_25 (.int .i64 t421)).trans hx425_1
            replace hx425_2 := (cell_far (p := ⟨gb424, 2, none⟩) Z10_25 (.int .i64 t421)).trans hx425_2
            replace hx425_0 := (cell_far (p := ⟨gb424, 3, none⟩) Z10_26 (.int .i64 t422)).trans hx425_0
            replace hx425_1 := (cell_far (p := ⟨gb424, 3, none⟩) Z10_26 (.int .i64 t422)).trans hx425_1
            replace hx425_2 := (cell_far (p := ⟨gb424, 3, none⟩) Z10_26 (.int .i64 t422)).trans hx425_2
            replace hx425_0 := (cell_far (p := ⟨gb424, 4, none⟩) Z10_27 (.int .u64 t423)).trans hx425_0
            replace hx425_1 := (cell_far (p := ⟨gb424, 4, none⟩) Z10_27 (.int .u64 t423)).trans hx425_1
            replace hx425_2 := (cell_far (p := ⟨gb424, 4, none⟩) Z10_27 (.int .u64 t423)).trans hx425_2
            
            
            
            clear hn425_0
            clear hn425_1
            clear hn425_2
            clear hn425_3
            clear hn425_4
            replace p425 := eq_true p425
            replace q425 := eq_true q425
            have hcz62_0 : w36.cell? ⟨gb424, 0, none⟩ = some (.int .i64 0) := (blk_cell BK424.out 0).trans rfl
            have hcz62_1 : w36.cell? ⟨gb424, 1, none⟩ = some (.int .i64 0) := (blk_cell BK424.out 1).trans rfl
            have hcz62_2 : w36.cell? ⟨gb424, 2, none⟩ = some (.int .i64 0) := (blk_cell BK424.out 2).trans rfl
            have hcz62_3 : w36.cell? ⟨gb424, 3, none⟩ = some (.int .i64 0) := (blk_cell BK424.out 3).trans rfl
            have hcz62_4 : w36.cell? ⟨gb424, 4, none⟩ = some (.int .u64 0) := (blk_cell BK424.out 4).trans rfl
            have hfz62_0 := blk_frozen BK424.out 0
            have hfz62_1 := blk_frozen BK424.out 1
            have hfz62_2 := blk_frozen BK424.out 2
            have hfz62_3 := blk_frozen BK424.out 3
            have hfz62_4 := blk_frozen BK424.out 4
            have p426 : 0 ≤ (x6_1 : Int) := of_decide_eq_true Z10_19
            have q426 : x6_1 < (t384.length : Int) := of_decide_eq_true Z10_19
            obtain ⟨ad426, e426, hx426_0, hx426_1, hx426_2⟩ := at_T52 (Kd.R_reads' HO_5.out).2.2 x6_1 p426 q426
            obtain rfl : ad398 = ad426 := (by injection e426)
            have hn426_0 : ad398.block ≠ gb424 := Kd.own_blk (Kd.R_ne HO_5.out BK424.out Z10_64)
            have hn426_1 : ad398.block ≠ gb424 := Kd.own_blk (Kd.R_ne HO_5.out BK424.out Z10_64)
            have hn426_2 : ad398.block ≠ gb424 := Kd.own_blk (Kd.R_ne HO_5.out BK424.out Z10_64)
            have hn426_3 : ad398.block ≠ gb424 := Kd.own_blk (Kd.R_ne HO_5.out BK424.out Z10_64)
            have hn426_4 : ad398.block ≠ gb424 := Kd.own_blk (Kd.R_ne HO_5.out BK424.out Z10_64)
            replace hx426_0 := (cell_far (p := ⟨gb424, 0, none⟩) Z10_48 (.int .i64 t419)).trans hx426_0
            replace hx426_1 := (cell_far (p := ⟨gb424, 0, none⟩) Z10_48 (.int .i64 t419)).trans hx426_1
            replace hx426_2 := (cell_far (p := ⟨gb424, 0, none⟩) Z10_48 (.int .i64 t419)).trans hx426_2
            replace hx426_0 := (cell_far (p := ⟨gb424, 1, none⟩) Z10_49 (.int .i64 t420)).trans hx426_0
            replace hx426_1 := (cell_far (p := ⟨gb424, 1, none⟩) Z10_49 (.int .i64 t420)).trans hx426_1
            replace hx426_2 := (cell_far (p := ⟨gb424, 1, none⟩) Z10_49 (.int .i64 t420)).trans hx426_2
            replace hx426_0 := (cell_far (p := ⟨gb424, 2, none⟩) Z10_50 (.int .i64 t421)).trans hx426_0
            replace hx426_1 := (cell_far (p := ⟨gb424, 2, none⟩) Z10_50 (.int .i64 t421)).trans hx426_1
            replace hx426_2 := (cell_far (p := ⟨gb424, 2, none⟩) Z10_50 (.int .i64 t421)).trans hx426_2
            replace hx426_0 := (cell_far (p := ⟨gb424, 3, none⟩) Z10_51 (.int .i64 t422)).trans hx426_0
            replace hx426_1 := (cell_far (p := ⟨gb424, 3, none⟩) Z10_51 (.int .i64 t422)).trans hx426_1
            replace hx426_2 := (cell_far (p := ⟨gb424, 3, none⟩) Z10_51 (.int .i64 t422)).trans hx426_2
            replace hx426_0 := (cell_far (p := ⟨gb424, 4, none⟩) Z10_52 (.int .u64 t423)).trans hx426_0
            replace hx426_1 := (cell_far (p := ⟨gb424, 4, none⟩) Z10_52 (.int .u64 t423)).trans hx426_1
            replace hx426_2 := (cell_far (p := ⟨gb424, 4, none⟩) Z10_52 (.int .u64 t423)).trans hx426_2
            
            
            
            clear hn426_0
            clear hn426_1
            clear hn426_2
            clear hn426_3
            clear hn426_4
            replace p426 := eq_true p426
            replace q426 := eq_true q426
            go_wp2
            repeat (go_quiet (fail); try go_wp2)
            go_meet
            case rel => exact ⟨_, (true), Z10_18, H', ⟨Z10_58⟩, ⟨Z10_9⟩, ⟨Z10_10⟩, ⟨Z10_6⟩, ⟨Z10_7⟩, ⟨Z10_2⟩, ⟨Z10_4⟩⟩
           rw [if_neg c42] at H
           have c42b0 : (t413 == ((rd_T52 t384 x6_1).f1)) = false := beq_eq_false_iff_ne.mpr c42
           have c42b1 : (t413 != ((rd_T52 t384 x6_1).f1)) = true := bne_iff_ne.mpr c42
           (first | rw [c42b0] | (simp only [i64_w, i32_w]; rw [c42b0]) | skip)
           have H' := Aside0.mk H
           clear H
           have hnb63 := NB410_417.out
           have hnc63 := NB417_410.out
           have hnb64 := NB410_424.out
           have hnc64 := NB424_410.out
           have hcz65_0 : w36.cell? ⟨gb410, 0, none⟩ = some (.bool true) := (blk_cell BK410.out 0).trans rfl
           have hcz65_1 : w36.cell? ⟨gb410, 1, none⟩ = some (.bool t401) := (blk_cell BK410.out 1).trans rfl
           have hcz65_2 : w36.cell? ⟨gb410, 2, none⟩ = some (.bool t402) := (blk_cell BK410.out 2).trans rfl
           have hcz65_3 : w36.cell? ⟨gb410, 3, none⟩ = some (.bool t403) := (blk_cell BK410.out 3).trans rfl
           have hcz65_4 : w36.cell? ⟨gb410, 4, none⟩ = some (.bool t404) := (blk_cell BK410.out 4).trans rfl
           have hcz65_5 : w36.cell? ⟨gb410, 5, none⟩ = some (.bool t405) := (blk_cell BK410.out 5).trans rfl
           have hcz65_6 : w36.cell? ⟨gb410, 6, none⟩ = some (.bool t406) := (blk_cell BK410.out 6).trans rfl
           have hcz65_7 : w36.cell? ⟨gb410, 7, none⟩ = some (.bool t407) := (blk_cell BK410.out 7).trans rfl
           have hcz65_8 : w36.cell? ⟨gb410, 8, none⟩ = some (.int .i64 t408) := (blk_cell BK410.out 8).trans rfl
           have hfz65_0 := blk_frozen BK410.out 0
           have hfz65_1 := blk_frozen BK410.out 1
           have hfz65_2 := blk_frozen BK410.out 2
           have hfz65_3 := blk_frozen BK410.out 3
           have hfz65_4 := blk_frozen BK410.out 4
           have hfz65_5 := blk_frozen BK410.out 5
           have hfz65_6 := blk_frozen BK410.out 6
           have hfz65_7 := blk_frozen BK410.out 7
           have hfz65_8 := blk_frozen BK410.out 8
           have hnb66 := NB417_424.out
           have hnc66 := NB424_417.out
           have hcz67_0 : w36.cell? ⟨gb417, 0, none⟩ = some (.int .i64 t412) := (blk_cell BK417.out 0).trans rfl
           have hcz67_1 : w36.cell? ⟨gb417, 1, none⟩ = some (.int .i64 t413) := (blk_cell BK417.out 1).trans rfl
           have hcz67_2 : w36.cell? ⟨gb417, 2, none⟩ = some (.int .i64 t414) := (blk_cell BK417.out 2).trans rfl
           have hcz67_3 : w36.cell? ⟨gb417, 3, none⟩ = some (.int .i64 t415) := (blk_cell BK417.out 3).trans rfl
           have hcz67_4 : w36.cell? ⟨gb417, 4, none⟩ = some (.int .u64 t416) := (blk_cell BK417.out 4).trans rfl
           have hfz67_0 := blk_frozen BK417.out 0
           have hfz67_1 := blk_frozen BK417.out 1
           have hfz67_2 := blk_frozen BK417.out 2
           have hfz67_3 := blk_frozen BK417.out 3
           have hfz67_4 := blk_frozen BK417.out 4
           have p425 : 0 ≤ (x6_1 : Int) := of_decide_eq_true Z10_19
           have q425 : x6_1 < (t384.length : Int) := of_decide_eq_true Z10_19
           obtain ⟨ad425, e425, hx425_0, hx425_1, hx425_2⟩ := at_T52 (Kd.R_reads' HO_5.out).2.2 x6_1 p425 q425
           obtain rfl : ad398 = ad425 := (by injection e425)
           have hn425_0 : ad398.block ≠ gb424 := Kd.own_blk (Kd.R_ne HO_5.out BK424.out Z10_64)
           have hn425_1 : ad398.block ≠ gb424 := Kd.own_blk (Kd.R_ne HO_5.out BK424.out Z10_64)
           have hn425_2 : ad398.block ≠ gb424 := Kd.own_blk (Kd.R_ne HO_5.out BK424.out Z10_64)
           have hn425_3 : ad398.block ≠ gb424 := Kd.own_blk (Kd.R_ne HO_5.out BK424.out Z10_64)
           have hn425_4 : ad398.block ≠ gb424 := Kd.own_blk (Kd.R_ne HO_5.out BK424.out Z10_64)
           replace hx425_0 := (cell_far (p := ⟨gb424, 0, none⟩) Z10_23 (.int .i64 t419)).trans hx425_0
           replace hx425_1 := (cell_far (p := ⟨gb424, 0, none⟩) Z10_23 (.int .i64 t419)).trans hx425_1
           replace hx425_2 := (cell_far (p := ⟨gb424, 0, none⟩) Z10_23 (.int .i64 t419)).trans hx425_2
           replace hx425_0 := (cell_far (p := ⟨gb424, 1, none⟩) Z10_24 (.int .i64 t420)).trans hx425_0
           replace hx425_1 := (cell_far (p := ⟨gb424, 1, none⟩) Z10_24 (.int .i64 t420)).trans hx425_1
           replace hx425_2 := (cell_far (p := ⟨gb424, 1, none⟩) Z10_24 (.int .i64 t420)).trans hx425_2
           replace hx425_0 := (cell_far (p := ⟨gb424, 2, none⟩) Z10_25 (.int .i64 t421)).trans hx425_0
           replace hx425_1 := (cell_far (p := ⟨gb424, 2, none⟩) Z10_25 (.int .i64 t421)).trans hx425_1
           replace hx425_2 := (cell_far (p := ⟨gb424, 2, none⟩) Z10_25 (.int .i64 t421)).trans hx425_2
           replace hx425_0 := (cell_far (p := ⟨gb424, 3, none⟩) Z10_26 (.int .i64 t422)).trans hx425_0
           replace hx425_1 := (cell_far (p := ⟨gb424, 3, none⟩) Z10_26 (.int .i64 t422)).trans hx425_1
           replace hx425_2 := (cell_far (p := ⟨gb424, 3, none⟩) Z10_26 (.int .i64 t422)).trans hx425_2
           replace hx425_0 := (cell_far (p := ⟨gb424, 4, none⟩) Z10_27 (.int .u64 t423)).trans hx425_0
           replace hx425_1 := (cell_far (p := ⟨gb424, 4, none⟩) Z10_27 (.int .u64 t423)).trans hx425_1
           replace hx425_2 := (cell_far (p := ⟨gb424, 4, none⟩) Z10_27 (.int .u64 t423)).trans hx425_2
           
           
           
           clear hn425_0
           clear hn425_1
           clear hn425_2
           clear hn425_3
           clear hn425_4
           replace p425 := eq_true p425
           replace q425 := eq_true q425
           go_wp2
           repeat (go_quiet (fail); try go_wp2)
           go_meet
           case rel => exact ⟨_, (true), Z10_18, H', ⟨Z10_58⟩, ⟨Z10_9⟩, ⟨Z10_10⟩, ⟨Z10_6⟩, ⟨Z10_7⟩, ⟨Z10_2⟩, ⟨Z10_4⟩⟩
          replace c41 := Bool.eq_false_iff.mpr c41
          subst c41
          have H1 : (laws_FnLeavesFound.j2 k2 t380 t381 t384 x6_1 x7_2 true false t401 t402 t403 t404 t405 t406 t407 t408 t412 t413 t414 t415 t416 t419 t420 t421 t422 t423) = some r := by rw [if_neg (show ¬ (false = true) by decide)] at H; exact H
          clear H
          have H := H1
          clear H1
          have H' := Aside0.mk H
          clear H
          have hnb68 := NB410_417.out
          have hnc68 := NB417_410.out
          have hnb69 := NB410_424.out
          have hnc69 := NB424_410.out
          have hcz70_0 : w36.cell? ⟨gb410, 0, none⟩ = some (.bool false) := (blk_cell BK410.out 0).trans rfl
          have hcz70_1 : w36.cell? ⟨gb410, 1, none⟩ = some (.bool t401) := (blk_cell BK410.out 1).trans rfl
          have hcz70_2 : w36.cell? ⟨gb410, 2, none⟩ = some (.bool t402) := (blk_cell BK410.out 2).trans rfl
          have hcz70_3 : w36.cell? ⟨gb410, 3, none⟩ = some (.bool t403) := (blk_cell BK410.out 3).trans rfl
          have hcz70_4 : w36.cell? ⟨gb410, 4, none⟩ = some (.bool t404) := (blk_cell BK410.out 4).trans rfl
          have hcz70_5 : w36.cell? ⟨gb410, 5, none⟩ = some (.bool t405) := (blk_cell BK410.out 5).trans rfl
          have hcz70_6 : w36.cell? ⟨gb410, 6, none⟩ = some (.bool t406) := (blk_cell BK410.out 6).trans rfl
          have hcz70_7 : w36.cell? ⟨gb410, 7, none⟩ = some (.bool t407) := (blk_cell BK410.out 7).trans rfl
          have hcz70_8 : w36.cell? ⟨gb410, 8, none⟩ = some (.int .i64 t408) := (blk_cell BK410.out 8).trans rfl
          have hfz70_0 := blk_frozen BK410.out 0
          have hfz70_1 := blk_frozen BK410.out 1
          have hfz70_2 := blk_frozen BK410.out 2
          have hfz70_3 := blk_frozen BK410.out 3
          have hfz70_4 := blk_frozen BK410.out 4
          have hfz70_5 := blk_frozen BK410.out 5
          have hfz70_6 := blk_frozen BK410.out 6
          have hfz70_7 := blk_frozen BK410.out 7
          have hfz70_8 := blk_frozen BK410.out 8
          go_wp2
          repeat (go_quiet (fail); try go_wp2)
          go_meet
          case rel => exact ⟨_, (true), Z10_18, H', ⟨Z10_58⟩, ⟨Z10_9⟩, ⟨Z10_10⟩, ⟨Z10_6⟩, ⟨Z10_7⟩, ⟨Z10_2⟩, ⟨Z10_4⟩⟩
         replace c40 := Bool.eq_false_iff.mpr c40
         subst c40
         have H1 : (laws_FnLeavesFound.j2 k2 t380 t381 t384 x6_1 x7_2 true t400 t401 t402 t403 t404 t405 t406 t407 t408 t412 t413 t414 t415 t416 t419 t420 t421 t422 t423) = some r := by rw [if_neg (show ¬ (false = true) by decide)] at H; exact H
         clear H
         have H := H1
         clear H1
         have H' := Aside0.mk H
         clear H
         go_wp2
         repeat (go_quiet (fail); try go_wp2)
         go_meet
         case rel => exact ⟨_, (true), Z10_18, H', ⟨Z10_58⟩, ⟨Z10_9⟩, ⟨Z10_10⟩, ⟨Z10_6⟩, ⟨Z10_7⟩, ⟨Z10_2⟩, ⟨Z10_4⟩⟩
        clear HC27
        try clear c2
        try clear p2
        try clear c3
        try clear p3
        try clear q3
        try clear hx3
        try clear c4
        try clear p4
        try clear q4
        try clear hx4
        try clear c5
        try clear c6
        try clear p6
        try clear c7
        try clear c7b0
        try clear c7b1
        try clear c9
        try clear c9b0
        try clear c9b1
        try clear c9b2
        try clear c20
        try clear c20b0
        try clear c21
        try clear c21b0
        try clear c22
        try clear c22b0
        try clear c23
        try clear c23b0
        try clear c33
        try clear c37
        try clear c38
        try clear p39
        try clear q39
        try clear hx39
        try clear c40
        try clear c41
        try clear p41
        try clear q41
        try clear hx41
        try clear c42
        try clear c42b0
        try clear c42b1
        try clear p42
        try clear q42
        try clear hx42
        try clear c43
        try clear c43b0
        try clear c43b1
        try clear c44
        try clear c44b0
        try clear c44b1
        try clear c45
        try clear c46
        try clear c48
        try clear c51
        try clear c52
        try clear c54
        try clear c57
        try clear c58
        try clear c60
        try clear c63
        try clear c64
        try clear p64
        try clear c66
        try clear c68
        try clear c69
        try clear hcz30_0
        try clear hcz30_1
        try clear hcz30_2
        try clear hcz30_3
        try clear hcz30_4
        try clear hcz30_5
        try clear hcz30_6
        try clear hcz30_7
        try clear hcz30_8
        try clear hcz34_0
        try clear hcz34_1
        try clear hcz34_2
        try clear hcz34_3
        try clear hcz34_4
        try clear hcz39_0
        try clear hcz39_1
        try clear hcz39_2
        try clear hcz39_3
        try clear hcz39_4
        try clear hcz47_0
        try clear hcz47_1
        try clear hcz47_2
        try clear hcz47_3
        try clear hcz47_4
        try clear hcz47_5
        try clear hcz47_6
        try clear hcz47_7
        try clear hcz47_8
        try clear hcz49_0
        try clear hcz49_1
        try clear hcz49_2
        try clear hcz49_3
        try clear hcz49_4
        try clear hcz50_0
        try clear hcz50_1
        try clear hcz50_2
        try clear hcz50_3
        try clear hcz50_4
        try clear hcz53_0
        try clear hcz53_1
        try clear hcz53_2
        try clear hcz53_3
        try clear hcz53_4
        try clear hcz53_5
        try clear hcz53_6
        try clear hcz53_7
        try clear hcz53_8
        try clear hcz55_0
        try clear hcz55_1
        try clear hcz55_2
        try clear hcz55_3
        try clear hcz55_4
        try clear hcz56_0
        try clear hcz56_1
        try clear hcz56_2
        try clear hcz56_3
        try clear hcz56_4
        try clear hcz59_0
        try clear hcz59_1
        try clear hcz59_2
        try clear hcz59_3
        try clear hcz59_4
        try clear hcz59_5
        try clear hcz59_6
        try clear hcz59_7
        try clear hcz59_8
        try clear hcz61_0
        try clear hcz61_1
        try clear hcz61_2
        try clear hcz61_3
        try clear hcz61_4
        try clear hcz62_0
        try clear hcz62_1
        try clear hcz62_2
        try clear hcz62_3
        try clear hcz62_4
        try clear hcz65_0
        try clear hcz65_1
        try clear hcz65_2
        try clear hcz65_3
        try clear hcz65_4
        try clear hcz65_5
        try clear hcz65_6
        try clear hcz65_7
        try clear hcz65_8
        try clear hcz67_0
        try clear hcz67_1
        try clear hcz67_2
        try clear hcz67_3
        try clear hcz67_4
        try clear hcz70_0
        try clear hcz70_1
        try clear hcz70_2
        try clear hcz70_3
        try clear hcz70_4
        try clear hcz70_5
        try clear hcz70_6
        try clear hcz70_7
        try clear hcz70_8
        try clear hfz30_0
        try clear hfz30_1
        try clear hfz30_2
        try clear hfz30_3
        try clear hfz30_4
        try clear hfz30_5
        try clear hfz30_6
        try clear hfz30_7
        try clear hfz30_8
        try clear hfz34_0
        try clear hfz34_1
        try clear hfz34_2
        try clear hfz34_3
        try clear hfz34_4
        try clear hfz39_0
        try clear hfz39_1
        try clear hfz39_2
        try clear hfz39_3
        try clear hfz39_4
        try clear hfz47_0
        try clear hfz47_1
        try clear hfz47_2
        try clear hfz47_3
        try clear hfz47_4
        try clear hfz47_5
        try clear hfz47_6
        try clear hfz47_7
        try clear hfz47_8
        try clear hfz49_0
        try clear hfz49_1
        try clear hfz49_2
        try clear hfz49_3
        try clear hfz49_4
        try clear hfz50_0
        try clear hfz50_1
        try clear hfz50_2
        try clear hfz50_3
        try clear hfz50_4
        try clear hfz53_0
        try clear hfz53_1
        try clear hfz53_2
        try clear hfz53_3
        try clear hfz53_4
        try clear hfz53_5
        try clear hfz53_6
        try clear hfz53_7
        try clear hfz53_8
        try clear hfz55_0
        try clear hfz55_1
        try clear hfz55_2
        try clear hfz55_3
        try clear hfz55_4
        try clear hfz56_0
        try clear hfz56_1
        try clear hfz56_2
        try clear hfz56_3
        try clear hfz56_4
        try clear hfz59_0
        try clear hfz59_1
        try clear hfz59_2
        try clear hfz59_3
        try clear hfz59_4
        try clear hfz59_5
        try clear hfz59_6
        try clear hfz59_7
        try clear hfz59_8
        try clear hfz61_0
        try clear hfz61_1
        try clear hfz61_2
        try clear hfz61_3
        try clear hfz61_4
        try clear hfz62_0
        try clear hfz62_1
        try clear hfz62_2
        try clear hfz62_3
        try clear hfz62_4
        try clear hfz65_0
        try clear hfz65_1
        try clear hfz65_2
        try clear hfz65_3
        try clear hfz65_4
        try clear hfz65_5
        try clear hfz65_6
        try clear hfz65_7
        try clear hfz65_8
        try clear hfz67_0
        try clear hfz67_1
        try clear hfz67_2
        try clear hfz67_3
        try clear hfz67_4
        try clear hfz70_0
        try clear hfz70_1
        try clear hfz70_2
        try clear hfz70_3
        try clear hfz70_4
        try clear hfz70_5
        try clear hfz70_6
        try clear hfz70_7
        try clear hfz70_8
        try clear hx398_0
        try clear hx398_1
        try clear hx398_2
        try clear hx399_0
        try clear hx399_1
        try clear hx399_2
        try clear hx411_0
        try clear hx411_1
        try clear hx411_2
        try clear hx418_0
        try clear hx418_1
        try clear hx418_2
        try clear hx425_0
        try clear hx425_1
        try clear hx425_2
        try clear hx426_0
        try clear hx426_1
        try clear hx426_2
        try clear p2
        try clear p398
        try clear p399
        try clear p411
        try clear p418
        try clear p425
        try clear p426
        try clear q398
        try clear q399
        try clear q411
        try clear q418
        try clear q425
        try clear q426
        obtain ⟨kq, x124_26, rfl, HA, HJ26, HO_3, HO_5, BK410, BK417, BK424, HB⟩ := hcut
        cases kq with
        | zero => exact absurd HA.out (by simp [laws_FnLeavesFound.j2])
        | succ kj26 =>
         have H := HA.out
         clear HA
         simp only [laws_FnLeavesFound.j2] at H
         by_cases c71 : x124_26 = true
         ·
          refine ?M3
          letI iM3 : Nonempty (type_of% ?M3) := ⟨(by
           subst c71
           have H1 : (none) = some r := by rw [if_pos rfl] at H; exact H
           clear H
           have H := H1
           clear H1
           exact absurd H (by simp))⟩
          exact Nonempty.elim (inferInstanceAs (Nonempty (type_of% ?M3))) id
         replace c71 := Bool.eq_false_iff.mpr c71
         subst c71
         have H1 : (if t401 = true then (if t412 = 0 then (if t415 = (wrap64 (t408 * 256)) then (laws_FnLeavesFound.j3 kj26 t380 t381 t384 x6_1 x7_2 (t422 != (wrap64 ((wrap64 (t415 + x7_2)) - 1))) t400 t401 t402 t403 t404 t405 t406 t407 t408 t412 t413 t414 t415 t416) else (laws_FnLeavesFound.j3 kj26 t380 t381 t384 x6_1 x7_2 true t400 t401 t402 t403 t404 t405 t406 t407 t408 t412 t413 t414 t415 t416)) else (laws_FnLeavesFound.j3 kj26 t380 t381 t384 x6_1 x7_2 true t400 t401 t402 t403 t404 t405 t406 t407 t408 t412 t413 t414 t415 t416)) else (laws_FnLeavesFound.j3 kj26 t380 t381 t384 x6_1 x7_2 false t400 t401 t402 t403 t404 t405 t406 t407 t408 t412 t413 t414 t415 t416)) = some r := by rw [if_neg (show ¬ (false = true) by decide)] at H; exact H
         clear H
         have H := H1
         clear H1
         have HC72 := Aside0.mk H
         clear H
         go_upto_region 22 with (fail)
         repeat (go_quiet (fail); go_upto_region 22 with (fail))
         go_cut [149] (fun v149 wc => ∃ (kq : Nat) (x149_71 : Bool), v149 = .bool x149_71 ∧ Aside0 (laws_FnLeavesFound.j3 kq t380 t381 t384 x6_1 x7_2 x149_71 t400 t401 t402 t403 t404 t405 t406 t407 t408 t412 t413 t414 t415 t416 = some r) ∧ Aside0 (kq ≤ kj26) ∧ Aside0 (Kd.R (Kd.int .u8) 5 wc w.heap.size (fun _ => True) (.slice Ao11 t380.length co11) t380) ∧ Aside0 (Kd.R k52 52 wc w.heap.size (fun _ => True) (.slice (some ad398) t384.length co17) t384) ∧ Aside0 (wc.heap[gb410]? = some (.cells #[.bool t400, .bool t401, .bool t402, .bool t403, .bool t404, .bool t405, .bool t406, .bool t407, .int .i64 t408] 27 (0, 0))) ∧ Aside0 (wc.heap[gb417]? = some (.cells #[.int .i64 t412, .int .i64 t413, .int .i64 t414, .int .i64 t415, .int .u64 t416] 36 (0, 0))) ∧ Aside0 (wc.heap[gb424]? = some (.cells #[.int .i64 t419, .int .i64 t420, .int .i64 t421, .int .i64 t422, .int .u64 t423] 36 (0, 0))) ∧ Aside0 (Below w.heap.size w wc))
         case first =>
          refine ?M4
          letI iM4 : Nonempty (type_of% ?M4) := ⟨(by
          have H := HC72.out
          clear HC72
          by_cases c73 : t401 = true
          ·subst c73
           have H1 : (if t412 = 0 then (if t415 = (wrap64 (t408 * 256)) then (laws_FnLeavesFound.j3 kj26 t380 t381 t384 x6_1 x7_2 (t422 != (wrap64 ((wrap64 (t415 + x7_2)) - 1))) t400 true t402 t403 t404 t405 t406 t407 t408 t412 t413 t414 t415 t416) else (laws_FnLeavesFound.j3 kj26 t380 t381 t384 x6_1 x7_2 true t400 true t402 t403 t404 t405 t406 t407 t408 t412 t413 t414 t415 t416)) else (laws_FnLeavesFound.j3 kj26 t380 t381 t384 x6_1 x7_2 true t400 true t402 t403 t404 t405 t406 t407 t408 t412 t413 t414 t415 t416)) = some r := by rw [if_pos rfl] at H; exact H
           clear H
           have H := H1
           clear H1
           by_cases c74 : t412 = 0
           ·rw [if_pos c74] at H
            have c74b0 : (t412 == 0) = true := beq_iff_eq.mpr c74
            have c74b1 : (t412 != 0) = false := bne_eq_false_iff_eq.mpr c74
            clear c74
            (first | rw [c74b0] | (simp only [i64_w, i32_w]; rw [c74b0]) | skip)
            by_cases c75 : t415 = (wrap64 (t408 * 256))
            ·rw [if_pos c75] at H
             have c75b0 : (t415 == (wrap64 (t408 * 256))) = true := beq_iff_eq.mpr c75
             have c75b1 : (t415 != (wrap64 (t408 * 256))) = false := bne_eq_false_iff_eq.mpr c75
             clear c75
             have H' := Aside0.mk H
             clear H
             have hnb76 := NB410_417.out
             have hnc76 := NB417_410.out
             have hnb77 := NB410_424.out
             have hnc77 := NB424_410.out
             have hcz78_0 : wc.cell? ⟨gb410, 0, none⟩ = some (.bool t400) := (blk_cell BK410.out 0).trans rfl
             have hcz78_1 : wc.cell? ⟨gb410, 1, none⟩ = some (.bool true) := (blk_cell BK410.out 1).trans rfl
             have hcz78_2 : wc.cell? ⟨gb410, 2, none⟩ = some (.bool t402) := (blk_cell BK410.out 2).trans rfl
             have hcz78_3 : wc.cell? ⟨gb410, 3, none⟩ = some (.bool t403) := (blk_cell BK410.out 3).trans rfl
             have hcz78_4 : wc.cell? ⟨gb410, 4, none⟩ = some (.bool t404) := (blk_cell BK410.out 4).trans rfl
             have hcz78_5 : wc.cell? ⟨gb410, 5, none⟩ = some (.bool t405) := (blk_cell BK410.out 5).trans rfl
             have hcz78_6 : wc.cell? ⟨gb410, 6, none⟩ = some (.bool t406) := (blk_cell BK410.out 6).trans rfl
             have hcz78_7 : wc.cell? ⟨gb410, 7, none⟩ = some (.bool t407) := (blk_cell BK410.out 7).trans rfl
             have hcz78_8 : wc.cell? ⟨gb410, 8, none⟩ = some (.int .i64 t408) := (blk_cell BK410.out 8).trans rfl
             have hfz78_0 := blk_frozen BK410.out 0
             have hfz78_1 := blk_frozen BK410.out 1
             have hfz78_2 := blk_frozen BK410.out 2
             have hfz78_3 := blk_frozen BK410.out 3
             have hfz78_4 := blk_frozen BK410.out 4
             have hfz78_5 := blk_frozen BK410.out 5
             have hfz78_6 := blk_frozen BK410.out 6
             have hfz78_7 := blk_frozen BK410.out 7
             have hfz78_8 := blk_frozen BK410.out 8
             have hnb79 := NB417_424.out
             have hnc79 := NB424_417.out
             have hcz80_0 : wc.cell? ⟨gb417, 0, none⟩ = some (.int .i64 t412) := (blk_cell BK417.out 0).trans rfl
             have hcz80_1 : wc.cell? ⟨gb417, 1, none⟩ = some (.int .i64 t413) := (blk_cell BK417.out 1).trans rfl
             have hcz80_2 : wc.cell? ⟨gb417, 2, none⟩ = some (.int .i64 t414) := (blk_cell BK417.out 2).trans rfl
             have hcz80_3 : wc.cell? ⟨gb417, 3, none⟩ = some (.int .i64 t415) := (blk_cell BK417.out 3).trans rfl
             have hcz80_4 : wc.cell? ⟨gb417, 4, none⟩ = some (.int .u64 t416) := (blk_cell BK417.out 4).trans rfl
             have hfz80_0 := blk_frozen BK417.out 0
             have hfz80_1 := blk_frozen BK417.out 1
             have hfz80_2 := blk_frozen BK417.out 2
             have hfz80_3 := blk_frozen BK417.out 3
             have hfz80_4 := blk_frozen BK417.out 4
             have hcz81_0 : wc.cell? ⟨gb424, 0, none⟩ = some (.int .i64 t419) := (blk_cell BK424.out 0).trans rfl
             have hcz81_1 : wc.cell? ⟨gb424, 1, none⟩ = some (.int .i64 t420) := (blk_cell BK424.out 1).trans rfl
             have hcz81_2 : wc.cell? ⟨gb424, 2, none⟩ = some (.int .i64 t421) := (blk_cell BK424.out 2).trans rfl
             have hcz81_3 : wc.cell? ⟨gb424, 3, none⟩ = some (.int .i64 t422) := (blk_cell BK424.out 3).trans rfl
             have hcz81_4 : wc.cell? ⟨gb424, 4, none⟩ = some (.int .u64 t423) := (blk_cell BK424.out 4).trans rfl
             have hfz81_0 := blk_frozen BK424.out 0
             have hfz81_1 := blk_frozen BK424.out 1
             have hfz81_2 := blk_frozen BK424.out 2
             have hfz81_3 := blk_frozen BK424.out 3
             have hfz81_4 := blk_frozen BK424.out 4
             go_wp2
             repeat (go_quiet (fail); try go_wp2)
             go_meet
             case rel => exact ⟨_, ((t422 != (wrap64 ((wrap64 (t415 + x7_2)) - 1)))), Z10_18, H', ⟨Z10_61⟩, ⟨Z10_12⟩, ⟨Z10_13⟩, ⟨Z10_8⟩, ⟨Z10_16⟩, ⟨Z10_31⟩, ⟨Z10_4⟩⟩
            rw [if_neg c75] at H
            have c75b0 : (t415 == (wrap64 (t408 * 256))) = false := beq_eq_false_iff_ne.mpr c75
            have c75b1 : (t415 != (wrap64 (t408 * 256))) = true := bne_iff_ne.mpr c75
            have H' := Aside0.mk H
            clear H
            have hnb82 := NB410_417.out
            have hnc82 := NB417_410.out
            have hnb83 := NB410_424.out
            have hnc83 := NB424_410.out
            have hcz84_0 : wc.cell? ⟨gb410, 0, none⟩ = some (.bool t400) := (blk_cell BK410.out 0).trans rfl
            have hcz84_1 : wc.cell? ⟨gb410, 1, none⟩ = some (.bool true) := (blk_cell BK410.out 1).trans rfl
            have hcz84_2 : wc.cell? ⟨gb410, 2, none⟩ = some (.bool t402) := (blk_cell BK410.out 2).trans rfl
            have hcz84_3 : wc.cell? ⟨gb410, 3, none⟩ = some (.bool t403) := (blk_cell BK410.out 3).trans rfl
            have hcz84_4 : wc.cell? ⟨gb410, 4, none⟩ = some (.bool t404) := (blk_cell BK410.out 4).trans rfl
            have hcz84_5 : wc.cell? ⟨gb410, 5, none⟩ = some (.bool t405) := (blk_cell BK410.out 5).trans rfl
            have hcz84_6 : wc.cell? ⟨gb410, 6, none⟩ = some (.bool t406) := (blk_cell BK410.out 6).trans rfl
            have hcz84_7 : wc.cell? ⟨gb410, 7, none⟩ = some (.bool t407) := (blk_cell BK410.out 7).trans rfl
            have hcz84_8 : wc.cell? ⟨gb410, 8, none⟩ = some (.int .i64 t408) := (blk_cell BK410.out 8).trans rfl
            have hfz84_0 := blk_frozen BK410.out 0
            have hfz84_1 := blk_frozen BK410.out 1
            have hfz84_2 := blk_frozen BK410.out 2
            have hfz84_3 := blk_frozen BK410.out 3
            have hfz84_4 := blk_frozen BK410.out 4
            have hfz84_5 := blk_frozen BK410.out 5
            have hfz84_6 := blk_frozen BK410.out 6
            have hfz84_7 := blk_frozen BK410.out 7
            have hfz84_8 := blk_frozen BK410.out 8
            have hnb85 := NB417_424.out
            have hnc85 := NB424_417.out
            have hcz86_0 : wc.cell? ⟨gb417, 0, none⟩ = some (.int .i64 t412) := (blk_cell BK417.out 0).trans rfl
            have hcz86_1 : wc.cell? ⟨gb417, 1, none⟩ = some (.int .i64 t413) := (blk_cell BK417.out 1).trans rfl
            have hcz86_2 : wc.cell? ⟨gb417, 2, none⟩ = some (.int .i64 t414) := (blk_cell BK417.out 2).trans rfl
            have hcz86_3 : wc.cell? ⟨gb417, 3, none⟩ = some (.int .i64 t415) := (blk_cell BK417.out 3).trans rfl
            have hcz86_4 : wc.cell? ⟨gb417, 4, none⟩ = some (.int .u64 t416) := (blk_cell BK417.out 4).trans rfl
            have hfz86_0 := blk_frozen BK417.out 0
            have hfz86_1 := blk_frozen BK417.out 1
            have hfz86_2 := blk_frozen BK417.out 2
            have hfz86_3 := blk_frozen BK417.out 3
            have hfz86_4 := blk_frozen BK417.out 4
            go_wp2
            repeat (go_quiet (fail); try go_wp2)
            go_meet
            case rel => exact ⟨_, (true), Z10_18, H', ⟨Z10_61⟩, ⟨Z10_12⟩, ⟨Z10_13⟩, ⟨Z10_8⟩, ⟨Z10_16⟩, ⟨Z10_31⟩, ⟨Z10_4⟩⟩
           rw [if_neg c74] at H
           have c74b0 : (t412 == 0) = false := beq_eq_false_iff_ne.mpr c74
           have c74b1 : (t412 != 0) = true := bne_iff_ne.mpr c74
           (first | rw [c74b0] | (simp only [i64_w, i32_w]; rw [c74b0]) | skip)
           have H' := Aside0.mk H
           clear H
           have hnb87 := NB410_417.out
           have hnc87 := NB417_410.out
           have hnb88 := NB410_424.out
           have hnc88 := NB424_410.out
           have hcz89_0 : wc.cell? ⟨gb410, 0, none⟩ = some (.bool t400) := (blk_cell BK410.out 0).trans rfl
           have hcz89_1 : wc.cell? ⟨gb410, 1, none⟩ = some (.bool true) := (blk_cell BK410.out 1).trans rfl
           have hcz89_2 : wc.cell? ⟨gb410, 2, none⟩ = some (.bool t402) := (blk_cell BK410.out 2).trans rfl
           have hcz89_3 : wc.cell? ⟨gb410, 3, none⟩ = some (.bool t403) := (blk_cell BK410.out 3).trans rfl
           have hcz89_4 : wc.cell? ⟨gb410, 4, none⟩ = some (.bool t404) := (blk_cell BK410.out 4).trans rfl
           have hcz89_5 : wc.cell? ⟨gb410, 5, none⟩ = some (.bool t405) := (blk_cell BK410.out 5).trans rfl
           have hcz89_6 : wc.cell? ⟨gb410, 6, none⟩ = some (.bool t406) := (blk_cell BK410.out 6).trans rfl
           have hcz89_7 : wc.cell? ⟨gb410, 7, none⟩ = some (.bool t407) := (blk_cell BK410.out 7).trans rfl
           have hcz89_8 : wc.cell? ⟨gb410, 8, none⟩ = some (.int .i64 t408) := (blk_cell BK410.out 8).trans rfl
           have hfz89_0 := blk_frozen BK410.out 0
           have hfz89_1 := blk_frozen BK410.out 1
           have hfz89_2 := blk_frozen BK410.out 2
           have hfz89_3 := blk_frozen BK410.out 3
           have hfz89_4 := blk_frozen BK410.out 4
           have hfz89_5 := blk_frozen BK410.out 5
           have hfz89_6 := blk_frozen BK410.out 6
           have hfz89_7 := blk_frozen BK410.out 7
           have hfz89_8 := blk_frozen BK410.out 8
           have hnb90 := NB417_424.out
           have hnc90 := NB424_417.out
           have hcz91_0 : wc.cell? ⟨gb417, 0, none⟩ = some (.int .i64 t412) := (blk_cell BK417.out 0).trans rfl
           have hcz91_1 : wc.cell? ⟨gb417, 1, none⟩ = some (.int .i64 t413) := (blk_cell BK417.out 1).trans rfl
           have hcz91_2 : wc.cell? ⟨gb417, 2, none⟩ = some (.int .i64 t414) := (blk_cell BK417.out 2).trans rfl
           have hcz91_3 : wc.cell? ⟨gb417, 3, none⟩ = some (.int .i64 t415) := (blk_cell BK417.out 3).trans rfl
           have hcz91_4 : wc.cell? ⟨gb417, 4, none⟩ = some (.int .u64 t416) := (blk_cell BK417.out 4).trans rfl
           have hfz91_0 := blk_frozen BK417.out 0
           have hfz91_1 := blk_frozen BK417.out 1
           have hfz91_2 := blk_frozen BK417.out 2
           have hfz91_3 := blk_frozen BK417.out 3
           have hfz91_4 := blk_frozen BK417.out 4
           go_wp2
           repeat (go_quiet (fail); try go_wp2)
           go_meet
           case rel => exact ⟨_, (true), Z10_18, H', ⟨Z10_61⟩, ⟨Z10_12⟩, ⟨Z10_13⟩, ⟨Z10_8⟩, ⟨Z10_16⟩, ⟨Z10_31⟩, ⟨Z10_4⟩⟩
          replace c73 := Bool.eq_false_iff.mpr c73
          subst c73
          have H1 : (laws_FnLeavesFound.j3 kj26 t380 t381 t384 x6_1 x7_2 false t400 false t402 t403 t404 t405 t406 t407 t408 t412 t413 t414 t415 t416) = some r := by rw [if_neg (show ¬ (false = true) by decide)] at H; exact H
          clear H
          have H := H1
          clear H1
          have H' := Aside0.mk H
          clear H
          have hnb92 := NB410_417.out
          have hnc92 := NB417_410.out
          have hnb93 := NB410_424.out
          have hnc93 := NB424_410.out
          have hcz94_0 : wc.cell? ⟨gb410, 0, none⟩ = some (.bool t400) := (blk_cell BK410.out 0).trans rfl
          have hcz94_1 : wc.cell? ⟨gb410, 1, none⟩ = some (.bool false) := (blk_cell BK410.out 1).trans rfl
          have hcz94_2 : wc.cell? ⟨gb410, 2, none⟩ = some (.bool t402) := (blk_cell BK410.out 2).trans rfl
          have hcz94_3 : wc.cell? ⟨gb410, 3, none⟩ = some (.bool t403) := (blk_cell BK410.out 3).trans rfl
          have hcz94_4 : wc.cell? ⟨gb410, 4, none⟩ = some (.bool t404) := (blk_cell BK410.out 4).trans rfl
          have hcz94_5 : wc.cell? ⟨gb410, 5, none⟩ = some (.bool t405) := (blk_cell BK410.out 5).trans rfl
          have hcz94_6 : wc.cell? ⟨gb410, 6, none⟩ = some (.bool t406) := (blk_cell BK410.out 6).trans rfl
          have hcz94_7 : wc.cell? ⟨gb410, 7, none⟩ = some (.bool t407) := (blk_cell BK410.out 7).trans rfl
          have hcz94_8 : wc.cell? ⟨gb410, 8, none⟩ = some (.int .i64 t408) := (blk_cell BK410.out 8).trans rfl
          have hfz94_0 := blk_frozen BK410.out 0
          have hfz94_1 := blk_frozen BK410.out 1
          have hfz94_2 := blk_frozen BK410.out 2
          have hfz94_3 := blk_frozen BK410.out 3
          have hfz94_4 := blk_frozen BK410.out 4
          have hfz94_5 := blk_frozen BK410.out 5
          have hfz94_6 := blk_frozen BK410.out 6
          have hfz94_7 := blk_frozen BK410.out 7
          have hfz94_8 := blk_frozen BK410.out 8
          go_wp2
          repeat (go_quiet (fail); try go_wp2)
          go_meet
          case rel => exact ⟨_, (false), Z10_18, H', ⟨Z10_61⟩, ⟨Z10_12⟩, ⟨Z10_13⟩, ⟨Z10_8⟩, ⟨Z10_16⟩, ⟨Z10_31⟩, ⟨Z10_4⟩⟩)⟩
          exact Nonempty.elim (inferInstanceAs (Nonempty (type_of% ?M4))) id
         clear HC72
         try clear c2
         try clear p2
         try clear c3
         try clear p3
         try clear q3
         try clear hx3
         try clear c4
         try clear p4
         try clear q4
         try clear hx4
         try clear c5
         try clear c6
         try clear p6
         try clear c7
         try clear c7b0
         try clear c7b1
         try clear c8
         try clear c9
         try clear c9b0
         try clear c9b1
         try clear c9b2
         try clear c20
         try clear c20b0
         try clear c21
         try clear c21b0
         try clear c22
         try clear c22b0
         try clear c23
         try clear c23b0
         try clear c33
         try clear c37
         try clear c38
         try clear p39
         try clear q39
         try clear hx39
         try clear c40
         try clear c41
         try clear p41
         try clear q41
         try clear hx41
         try clear c42
         try clear c42b0
         try clear c42b1
         try clear p42
         try clear q42
         try clear hx42
         try clear c43
         try clear c43b0
         try clear c43b1
         try clear c44
         try clear c44b0
         try clear c44b1
         try clear c45
         try clear c46
         try clear c48
         try clear c51
         try clear c52
         try clear c54
         try clear c57
         try clear c58
         try clear c60
         try clear c63
         try clear c64
         try clear p64
         try clear c66
         try clear c68
         try clear c69
         try clear c71
         try clear c73
         try clear c74
         try clear c74b0
         try clear c74b1
         try clear c75
         try clear c75b0
         try clear c75b1
         try clear c76
         try clear c77
         try clear c79
         try clear c82
         try clear c83
         try clear c85
         try clear c87
         try clear c88
         try clear c90
         try clear c92
         try clear c93
         try clear hcz30_0
         try clear hcz30_1
         try clear hcz30_2
         try clear hcz30_3
         try clear hcz30_4
         try clear hcz30_5
         try clear hcz30_6
         try clear hcz30_7
         try clear hcz30_8
         try clear hcz34_0
         try clear hcz34_1
         try clear hcz34_2
         try clear hcz34_3
         try clear hcz34_4
         try clear hcz39_0
         try clear hcz39_1
         try clear hcz39_2
         try clear hcz39_3
         try clear hcz39_4
         try clear hcz47_0
         try clear hcz47_1
         try clear hcz47_2
         try clear hcz47_3
         try clear hcz47_4
         try clear hcz47_5
         try clear hcz47_6
         try clear hcz47_7
         try clear hcz47_8
         try clear hcz49_0
         try clear hcz49_1
         try clear hcz49_2
         try clear hcz49_3
         try clear hcz49_4
         try clear hcz50_0
         try clear hcz50_1
         try clear hcz50_2
         try clear hcz50_3
         try clear hcz50_4
         try clear hcz53_0
         try clear hcz53_1
         try clear hcz53_2
         try clear hcz53_3
         try clear hcz53_4
         try clear hcz53_5
         try clear hcz53_6
         try clear hcz53_7
         try clear hcz53_8
         try clear hcz55_0
         try clear hcz55_1
         try clear hcz55_2
         try clear hcz55_3
         try clear hcz55_4
         try clear hcz56_0
         try clear hcz56_1
         try clear hcz56_2
         try clear hcz56_3
         try clear hcz56_4
         try clear hcz59_0
         try clear hcz59_1
         try clear hcz59_2
         try clear hcz59_3
         try clear hcz59_4
         try clear hcz59_5
         try clear hcz59_6
         try clear hcz59_7
         try clear hcz59_8
         try clear hcz61_0
         try clear hcz61_1
         try clear hcz61_2
         try clear hcz61_3
         try clear hcz61_4
         try clear hcz62_0
         try clear hcz62_1
         try clear hcz62_2
         try clear hcz62_3
         try clear hcz62_4
         try clear hcz65_0
         try clear hcz65_1
         try clear hcz65_2
         try clear hcz65_3
         try clear hcz65_4
         try clear hcz65_5
         try clear hcz65_6
         try clear hcz65_7
         try clear hcz65_8
         try clear hcz67_0
         try clear hcz67_1
         try clear hcz67_2
         try clear hcz67_3
         try clear hcz67_4
         try clear hcz70_0
         try clear hcz70_1
         try clear hcz70_2
         try clear hcz70_3
         try clear hcz70_4
         try clear hcz70_5
         try clear hcz70_6
         try clear hcz70_7
         try clear hcz70_8
         try clear hcz78_0
         try clear hcz78_1
         try clear hcz78_2
         try clear hcz78_3
         try clear hcz78_4
         try clear hcz78_5
         try clear hcz78_6
         try clear hcz78_7
         try clear hcz78_8
         try clear hcz80_0
         try clear hcz80_1
         try clear hcz80_2
         try clear hcz80_3
         try clear hcz80_4
         try clear hcz81_0
         try clear hcz81_1
         try clear hcz81_2
         try clear hcz81_3
         try clear hcz81_4
         try clear hcz84_0
         try clear hcz84_1
         try clear hcz84_2
         try clear hcz84_3
         try clear hcz84_4
         try clear hcz84_5
         try clear hcz84_6
         try clear hcz84_7
         try clear hcz84_8
         try clear hcz86_0
         try clear hcz86_1
         try clear hcz86_2
         try clear hcz86_3
         try clear hcz86_4
         try clear hcz89_0
         try clear hcz89_1
         try clear hcz89_2
         try clear hcz89_3
         try clear hcz89_4
         try clear hcz89_5
         try clear hcz89_6
         try clear hcz89_7
         try clear hcz89_8
         try clear hcz91_0
         try clear hcz91_1
         try clear hcz91_2
         try clear hcz91_3
         try clear hcz91_4
         try clear hcz94_0
         try clear hcz94_1
         try clear hcz94_2
         try clear hcz94_3
         try clear hcz94_4
         try clear hcz94_5
         try clear hcz94_6
         try clear hcz94_7
         try clear hcz94_8
         try clear hfz30_0
         try clear hfz30_1
         try clear hfz30_2
         try clear hfz30_3
         try clear hfz30_4
         try clear hfz30_5
         try clear hfz30_6
         try clear hfz30_7
         try clear hfz30_8
         try clear hfz34_0
         try clear hfz34_1
         try clear hfz34_2
         try clear hfz34_3
         try clear hfz34_4
         try clear hfz39_0
         try clear hfz39_1
         try clear hfz39_2
         try clear hfz39_3
         try clear hfz39_4
         try clear hfz47_0
         try clear hfz47_1
         try clear hfz47_2
         try clear hfz47_3
         try clear hfz47_4
         try clear hfz47_5
         try clear hfz47_6
         try clear hfz47_7
         try clear hfz47_8
         try clear hfz49_0
         try clear hfz49_1
         try clear hfz49_2
         try clear hfz49_3
         try clear hfz49_4
         try clear hfz50_0
         try clear hfz50_1
         try clear hfz50_2
         try clear hfz50_3
         try clear hfz50_4
         try clear hfz53_0
         try clear hfz53_1
         try clear hfz53_2
         try clear hfz53_3
         try clear hfz53_4
         try clear hfz53_5
         try clear hfz53_6
         try clear hfz53_7
         try clear hfz53_8
         try clear hfz55_0
         try clear hfz55_1
         try clear hfz55_2
         try clear hfz55_3
         try clear hfz55_4
         try clear hfz56_0
         try clear hfz56_1
         try clear hfz56_2
         try clear hfz56_3
         try clear hfz56_4
         try clear hfz59_0
         try clear hfz59_1
         try clear hfz59_2
         try clear hfz59_3
         try clear hfz59_4
         try clear hfz59_5
         try clear hfz59_6
         try clear hfz59_7
         try clear hfz59_8
         try clear hfz61_0
         try clear hfz61_1
         try clear hfz61_2
         try clear hfz61_3
         try clear hfz61_4
         try clear hfz62_0
         try clear hfz62_1
         try clear hfz62_2
         try clear hfz62_3
         try clear hfz62_4
         try clear hfz65_0
         try clear hfz65_1
         try clear hfz65_2
         try clear hfz65_3
         try clear hfz65_4
         try clear hfz65_5
         try clear hfz65_6
         try clear hfz65_7
         try clear hfz65_8
         try clear hfz67_0
         try clear hfz67_1
         try clear hfz67_2
         try clear hfz67_3
         try clear hfz67_4
         try clear hfz70_0
         try clear hfz70_1
         try clear hfz70_2
         try clear hfz70_3
         try clear hfz70_4
         try clear hfz70_5
         try clear hfz70_6
         try clear hfz70_7
         try clear hfz70_8
         try clear hfz78_0
         try clear hfz78_1
         try clear hfz78_2
         try clear hfz78_3
         try clear hfz78_4
         try clear hfz78_5
         try clear hfz78_6
         try clear hfz78_7
         try clear hfz78_8
         try clear hfz80_0
         try clear hfz80_1
         try clear hfz80_2
         try clear hfz80_3
         try clear hfz80_4
         try clear hfz81_0
         try clear hfz81_1
         try clear hfz81_2
         try clear hfz81_3
         try clear hfz81_4
         try clear hfz84_0
         try clear hfz84_1
         try clear hfz84_2
         try clear hfz84_3
         try clear hfz84_4
         try clear hfz84_5
         try clear hfz84_6
         try clear hfz84_7
         try clear hfz84_8
         try clear hfz86_0
         try clear hfz86_1
         try clear hfz86_2
         try clear hfz86_3
         try clear hfz86_4
         try clear hfz89_0
         try clear hfz89_1
         try clear hfz89_2
         try clear hfz89_3
         try clear hfz89_4
         try clear hfz89_5
         try clear hfz89_6
         try clear hfz89_7
         try clear hfz89_8
         try clear hfz91_0
         try clear hfz91_1
         try clear hfz91_2
         try clear hfz91_3
         try clear hfz91_4
         try clear hfz94_0
         try clear hfz94_1
         try clear hfz94_2
         try clear hfz94_3
         try clear hfz94_4
         try clear hfz94_5
         try clear hfz94_6
         try clear hfz94_7
         try clear hfz94_8
         try clear hx398_0
         try clear hx398_1
         try clear hx398_2
         try clear hx399_0
         try clear hx399_1
         try clear hx399_2
         try clear hx411_0
         try clear hx411_1
         try clear hx411_2
         try clear hx418_0
         try clear hx418_1
         try clear hx418_2
         try clear hx425_0
         try clear hx425_1
         try clear hx425_2
         try clear hx426_0
         try clear hx426_1
         try clear hx426_2
         try clear p2
         try clear p3
         try clear p39
         try clear p398
         try clear p399
         try clear p4
         try clear p41
         try clear p411
         try clear p418
         try clear p42
         try clear p425
         try clear p426
         try clear p6
         try clear p64
         try clear q3
         try clear q39
         try clear q398
         try clear q399
         try clear q4
         try clear q41
         try clear q411
         try clear q418
         try clear q42
         try clear q425
         try clear q426
         obtain ⟨kq, x149_71, rfl, HA, HJ71, HO_3, HO_5, BK410, BK417, BK424, HB⟩ := hcut
         cases kq with
         | zero => exact absurd HA.out (by simp [laws_FnLeavesFound.j3])
         | succ kj71 =>
          have H := HA.out
          clear HA
          simp only [laws_FnLeavesFound.j3] at H
          by_cases c95 : x149_71 = true
          ·
           refine ?M5
           letI iM5 : Nonempty (type_of% ?M5) := ⟨(by
            subst c95
            have H1 : (none) = some r := by rw [if_pos rfl] at H; exact H
            clear H
            have H := H1
            clear H1
            exact absurd H (by simp))⟩
           exact Nonempty.elim (inferInstanceAs (Nonempty (type_of% ?M5))) id
          replace c95 := Bool.eq_false_iff.mpr c95
          subst c95
          have H1 : (if t401 = true then (laws_FnLeavesFound.j4 kj71 t380 t381 t384 x6_1 x7_2 false) else (laws_FnLeavesFound.j4 kj71 t380 t381 t384 x6_1 x7_2 (t412 != 8))) = some r := by rw [if_neg (show ¬ (false = true) by decide)] at H; exact H
          clear H
          have H := H1
          clear H1
          have HC96 := Aside0.mk H
          clear H
          go_upto_region 24 with (fail)
          repeat (go_quiet (fail); go_upto_region 24 with (fail))
          go_cut [157] (fun v157 wc => ∃ (kq : Nat) (x157_95 : Bool), v157 = .bool x157_95 ∧ Aside0 (laws_FnLeavesFound.j4 kq t380 t381 t384 x6_1 x7_2 x157_95 = some r) ∧ Aside0 (kq ≤ kj71) ∧ Aside0 (Kd.R (Kd.int .u8) 5 wc w.heap.size (fun _ => True) (.slice Ao11 t380.length co11) t380) ∧ Aside0 (Kd.R k52 52 wc w.heap.size (fun _ => True) (.slice (some ad398) t384.length co17) t384) ∧ Aside0 (wc.heap[gb410]? = some (.cells #[.bool t400, .bool t401, .bool t402, .bool t403, .bool t404, .bool t405, .bool t406, .bool t407, .int .i64 t408] 27 (0, 0))) ∧ Aside0 (wc.heap[gb417]? = some (.cells #[.int .i64 t412, .int .i64 t413, .int .i64 t414, .int .i64 t415, .int .u64 t416] 36 (0, 0))) ∧ Aside0 (wc.heap[gb424]? = some (.cells #[.int .i64 t419, .int .i64 t420, .int .i64 t421, .int .i64 t422, .int .u64 t423] 36 (0, 0))) ∧ Aside0 (Below w.heap.size w wc))
          case first =>
           refine ?M6
           letI iM6 : Nonempty (type_of% ?M6) := ⟨(by
           have H := HC96.out
           clear HC96
           by_cases c97 : t401 = true
           ·subst c97
            have H1 : (laws_FnLeavesFound.j4 kj71 t380 t381 t384 x6_1 x7_2 false) = some r := by rw [if_pos rfl] at H; exact H
            clear H
            have H := H1
            clear H1
            have H' := Aside0.mk H
            clear H
            have hnb98 := NB410_417.out
            have hnc98 := NB417_410.out
            have hnb99 := NB410_424.out
            have hnc99 := NB424_410.out
            have hcz100_0 : wc.cell? ⟨gb410, 0, none⟩ = some (.bool t400) := (blk_cell BK410.out 0).trans rfl
            have hcz100_1 : wc.cell? ⟨gb410, 1, none⟩ = some (.bool true) := (blk_cell BK410.out 1).trans rfl
            have hcz100_2 : wc.cell? ⟨gb410, 2, none⟩ = some (.bool t402) := (blk_cell BK410.out 2).trans rfl
            have hcz100_3 : wc.cell? ⟨gb410, 3, none⟩ = some (.bool t403) := (blk_cell BK410.out 3).trans rfl
            have hcz100_4 : wc.cell? ⟨gb410, 4, none⟩ = some (.bool t404) := (blk_cell BK410.out 4).trans rfl
            have hcz100_5 : wc.cell? ⟨gb410, 5, none⟩ = some (.bool t405) := (blk_cell BK410.out 5).trans rfl
            have hcz100_6 : wc.cell? ⟨gb410, 6, none⟩ = some (.bool t406) := (blk_cell BK410.out 6).trans rfl
            have hcz100_7 : wc.cell? ⟨gb410, 7, none⟩ = some (.bool t407) := (blk_cell BK410.out 7).trans rfl
            have hcz100_8 : wc.cell? ⟨gb410, 8, none⟩ = some (.int .i64 t408) := (blk_cell BK410.out 8).trans rfl
            have hfz100_0 := blk_frozen BK410.out 0
            have hfz100_1 := blk_frozen BK410.out 1
            have hfz100_2 := blk_frozen BK410.out 2
            have hfz100_3 := blk_frozen BK410.out 3
            have hfz100_4 := blk_frozen BK410.out 4
            have hfz100_5 := blk_frozen BK410.out 5
            have hfz100_6 := blk_frozen BK410.out 6
            have hfz100_7 := blk_frozen BK410.out 7
            have hfz100_8 := blk_frozen BK410.out 8
            go_wp2
            repeat (go_quiet (fail); try go_wp2)
            go_meet
            case rel => exact ⟨_, (false), Z10_18, H', ⟨by have := HK1.out; have := HK2.out; have := HJ26.out; have := HJ71.out; first | omega | exact Nat.le_refl _⟩, ⟨Z10_12⟩, ⟨Z10_13⟩, ⟨Z10_8⟩, ⟨Z10_16⟩, ⟨Z10_31⟩, ⟨Z10_4⟩⟩
           replace c97 := Bool.eq_false_iff.mpr c97
           subst c97
           have H1 : (laws_FnLeavesFound.j4 kj71 t380 t381 t384 x6_1 x7_2 (t412 != 8)) = some r := by rw [if_neg (show ¬ (false = true) by decide)] at H; exact H
           clear H
           have H := H1
           clear H1
           have H' := Aside0.mk H
           clear H
           have hnb101 := NB410_417.out
           have hnc101 := NB417_410.out
           have hnb102 := NB410_424.out
           have hnc102 := NB424_410.out
           have hcz103_0 : wc.cell? ⟨gb410, 0, none⟩ = some (.bool t400) := (blk_cell BK410.out 0).trans rfl
           have hcz103_1 : wc.cell? ⟨gb410, 1, none⟩ = some (.bool false) := (blk_cell BK410.out 1).trans rfl
           have hcz103_2 : wc.cell? ⟨gb410, 2, none⟩ = some (.bool t402) := (blk_cell BK410.out 2).trans rfl
           have hcz103_3 : wc.cell? ⟨gb410, 3, none⟩ = some (.bool t403) := (blk_cell BK410.out 3).trans rfl
           have hcz103_4 : wc.cell? ⟨gb410, 4, none⟩ = some (.bool t404) := (blk_cell BK410.out 4).trans rfl
           have hcz103_5 : wc.cell? ⟨gb410, 5, none⟩ = some (.bool t405) := (blk_cell BK410.out 5).trans rfl
           have hcz103_6 : wc.cell? ⟨gb410, 6, none⟩ = some (.bool t406) := (blk_cell BK410.out 6).trans rfl
           have hcz103_7 : wc.cell? ⟨gb410, 7, none⟩ = some (.bool t407) := (blk_cell BK410.out 7).trans rfl
           have hcz103_8 : wc.cell? ⟨gb410, 8, none⟩ = some (.int .i64 t408) := (blk_cell BK410.out 8).trans rfl
           have hfz103_0 := blk_frozen BK410.out 0
           have hfz103_1 := blk_frozen BK410.out 1
           have hfz103_2 := blk_frozen BK410.out 2
           have hfz103_3 := blk_frozen BK410.out 3
           have hfz103_4 := blk_frozen BK410.out 4
           have hfz103_5 := blk_frozen BK410.out 5
           have hfz103_6 := blk_frozen BK410.out 6
           have hfz103_7 := blk_frozen BK410.out 7
           have hfz103_8 := blk_frozen BK410.out 8
           have hnb104 := NB417_424.out
           have hnc104 := NB424_417.out
           have hcz105_0 : wc.cell? ⟨gb417, 0, none⟩ = some (.int .i64 t412) := (blk_cell BK417.out 0).trans rfl
           have hcz105_1 : wc.cell? ⟨gb417, 1, none⟩ = some (.int .i64 t413) := (blk_cell BK417.out 1).trans rfl
           have hcz105_2 : wc.cell? ⟨gb417, 2, none⟩ = some (.int .i64 t414) := (blk_cell BK417.out 2).trans rfl
           have hcz105_3 : wc.cell? ⟨gb417, 3, none⟩ = some (.int .i64 t415) := (blk_cell BK417.out 3).trans rfl
           have hcz105_4 : wc.cell? ⟨gb417, 4, none⟩ = some (.int .u64 t416) := (blk_cell BK417.out 4).trans rfl
           have hfz105_0 := blk_frozen BK417.out 0
           have hfz105_1 := blk_frozen BK417.out 1
           have hfz105_2 := blk_frozen BK417.out 2
           have hfz105_3 := blk_frozen BK417.out 3
           have hfz105_4 := blk_frozen BK417.out 4
           go_wp2
           repeat (go_quiet (fail); try go_wp2)
           go_meet
           case rel => exact ⟨_, ((t412 != 8)), Z10_18, H', ⟨by have := HK1.out; have := HK2.out; have := HJ26.out; have := HJ71.out; first | omega | exact Nat.le_refl _⟩, ⟨Z10_12⟩, ⟨Z10_13⟩, ⟨Z10_8⟩, ⟨Z10_16⟩, ⟨Z10_31⟩, ⟨Z10_4⟩⟩)⟩
           exact Nonempty.elim (inferInstanceAs (Nonempty (type_of% ?M6))) id
          clear HC96
          try clear c1
          try clear c2
          try clear p2
          try clear c3
          try clear p3
          try clear q3
          try clear hx3
          try clear c4
          try clear p4
          try clear q4
          try clear hx4
          try clear c5
          try clear c6
          try clear p6
          try clear c7
          try clear c7b0
          try clear c7b1
          try clear c8
          try clear c9
          try clear c9b0
          try clear c9b1
          try clear c9b2
          try clear c10
          try clear c20
          try clear c20b0
          try clear c21
          try clear c21b0
          try clear c22
          try clear c22b0
          try clear c23
          try clear c23b0
          try clear c33
          try clear c37
          try clear c38
          try clear p39
          try clear q39
          try clear hx39
          try clear c40
          try clear c41
          try clear p41
          try clear q41
          try clear hx41
          try clear c42
          try clear c42b0
          try clear c42b1
          try clear p42
          try clear q42
          try clear hx42
          try clear c43
          try clear c43b0
          try clear c43b1
          try clear c44
          try clear c44b0
          try clear c44b1
          try clear c45
          try clear c46
          try clear c48
          try clear c51
          try clear c52
          try clear c54
          try clear c57
          try clear c58
          try clear c60
          try clear c63
          try clear c64
          try clear p64
          try clear c66
          try clear c68
          try clear c69
          try clear c71
          try clear c73
          try clear c74
          try clear c74b0
          try clear c74b1
          try clear c75
          try clear c75b0
          try clear c75b1
          try clear c76
          try clear c77
          try clear c79
          try clear c82
          try clear c83
          try clear c85
          try clear c87
          try clear c88
          try clear c90
          try clear c92
          try clear c93
          try clear c95
          try clear c97
          try clear c98
          try clear c99
          try clear c101
          try clear c102
          try clear c104
          try clear hcz100_0
          try clear hcz100_1
          try clear hcz100_2
          try clear hcz100_3
          try clear hcz100_4
          try clear hcz100_5
          try clear hcz100_6
          try clear hcz100_7
          try clear hcz100_8
          try clear hcz103_0
          try clear hcz103_1
          try clear hcz103_2
          try clear hcz103_3
          try clear hcz103_4
          try clear hcz103_5
          try clear hcz103_6
          try clear hcz103_7
          try clear hcz103_8
          try clear hcz105_0
          try clear hcz105_1
          try clear hcz105_2
          try clear hcz105_3
          try clear hcz105_4
          try clear hcz30_0
          try clear hcz30_1
          try clear hcz30_2
          try clear hcz30_3
          try clear hcz30_4
          try clear hcz30_5
          try clear hcz30_6
          try clear hcz30_7
          try clear hcz30_8
          try clear hcz34_0
          try clear hcz34_1
          try clear hcz34_2
          try clear hcz34_3
          try clear hcz34_4
          try clear hcz39_0
          try clear hcz39_1
          try clear hcz39_2
          try clear hcz39_3
          try clear hcz39_4
          try clear hcz47_0
          try clear hcz47_1
          try clear hcz47_2
          try clear hcz47_3
          try clear hcz47_4
          try clear hcz47_5
          try clear hcz47_6
          try clear hcz47_7
          try clear hcz47_8
          try clear hcz49_0
          try clear hcz49_1
          try clear hcz49_2
          try clear hcz49_3
          try clear hcz49_4
          try clear hcz50_0
          try clear hcz50_1
          try clear hcz50_2
          try clear hcz50_3
          try clear hcz50_4
          try clear hcz53_0
          try clear hcz53_1
          try clear hcz53_2
          try clear hcz53_3
          try clear hcz53_4
          try clear hcz53_5
          try clear hcz53_6
          try clear hcz53_7
          try clear hcz53_8
          try clear hcz55_0
          try clear hcz55_1
          try clear hcz55_2
          try clear hcz55_3
          try clear hcz55_4
          try clear hcz56_0
          try clear hcz56_1
          try clear hcz56_2
          try clear hcz56_3
          try clear hcz56_4
          try clear hcz59_0
          try clear hcz59_1
          try clear hcz59_2
          try clear hcz59_3
          try clear hcz59_4
          try clear hcz59_5
          try clear hcz59_6
          try clear hcz59_7
          try clear hcz59_8
          try clear hcz61_0
          try clear hcz61_1
          try clear hcz61_2
          try clear hcz61_3
          try clear hcz61_4
          try clear hcz62_0
          try clear hcz62_1
          try clear hcz62_2
          try clear hcz62_3
          try clear hcz62_4
          try clear hcz65_0
          try clear hcz65_1
          try clear hcz65_2
          try clear hcz65_3
          try clear hcz65_4
          try clear hcz65_5
          try clear hcz65_6
          try clear hcz65_7
          try clear hcz65_8
          try clear hcz67_0
          try clear hcz67_1
          try clear hcz67_2
          try clear hcz67_3
          try clear hcz67_4
          try clear hcz70_0
          try clear hcz70_1
          try clear hcz70_2
          try clear hcz70_3
          try clear hcz70_4
          try clear hcz70_5
          try clear hcz70_6
          try clear hcz70_7
          try clear hcz70_8
          try clear hcz78_0
          try clear hcz78_1
          try clear hcz78_2
          try clear hcz78_3
          try clear hcz78_4
          try clear hcz78_5
          try clear hcz78_6
          try clear hcz78_7
          try clear hcz78_8
          try clear hcz80_0
          try clear hcz80_1
          try clear hcz80_2
          try clear hcz80_3
          try clear hcz80_4
          try clear hcz81_0
          try clear hcz81_1
          try clear hcz81_2
          try clear hcz81_3
          try clear hcz81_4
          try clear hcz84_0
          try clear hcz84_1
          try clear hcz84_2
          try clear hcz84_3
          try clear hcz84_4
          try clear hcz84_5
          try clear hcz84_6
          try clear hcz84_7
          try clear hcz84_8
          try clear hcz86_0
          try clear hcz86_1
          try clear hcz86_2
          try clear hcz86_3
          try clear hcz86_4
          try clear hcz89_0
          try clear hcz89_1
          try clear hcz89_2
          try clear hcz89_3
          try clear hcz89_4
          try clear hcz89_5
          try clear hcz89_6
          try clear hcz89_7
          try clear hcz89_8
          try clear hcz91_0
          try clear hcz91_1
          try clear hcz91_2
          try clear hcz91_3
          try clear hcz91_4
          try clear hcz94_0
          try clear hcz94_1
          try clear hcz94_2
          try clear hcz94_3
          try clear hcz94_4
          try clear hcz94_5
          try clear hcz94_6
          try clear hcz94_7
          try clear hcz94_8
          try clear hfz100_0
          try clear hfz100_1
          try clear hfz100_2
          try clear hfz100_3
          try clear hfz100_4
          try clear hfz100_5
          try clear hfz100_6
          try clear hfz100_7
          try clear hfz100_8
          try clear hfz103_0
          try clear hfz103_1
          try clear hfz103_2
          try clear hfz103_3
          try clear hfz103_4
          try clear hfz103_5
          try clear hfz103_6
          try clear hfz103_7
          try clear hfz103_8
          try clear hfz105_0
          try clear hfz105_1
          try clear hfz105_2
          try clear hfz105_3
          try clear hfz105_4
          try clear hfz30_0
          try clear hfz30_1
          try clear hfz30_2
          try clear hfz30_3
          try clear hfz30_4
          try clear hfz30_5
          try clear hfz30_6
          try clear hfz30_7
          try clear hfz30_8
          try clear hfz34_0
          try clear hfz34_1
          try clear hfz34_2
          try clear hfz34_3
          try clear hfz34_4
          try clear hfz39_0
          try clear hfz39_1
          try clear hfz39_2
          try clear hfz39_3
          try clear hfz39_4
          try clear hfz47_0
          try clear hfz47_1
          try clear hfz47_2
          try clear hfz47_3
          try clear hfz47_4
          try clear hfz47_5
          try clear hfz47_6
          try clear hfz47_7
          try clear hfz47_8
          try clear hfz49_0
          try clear hfz49_1
          try clear hfz49_2
          try clear hfz49_3
          try clear hfz49_4
          try clear hfz50_0
          try clear hfz50_1
          try clear hfz50_2
          try clear hfz50_3
          try clear hfz50_4
          try clear hfz53_0
          try clear hfz53_1
          try clear hfz53_2
          try clear hfz53_3
          try clear hfz53_4
          try clear hfz53_5
          try clear hfz53_6
          try clear hfz53_7
          try clear hfz53_8
          try clear hfz55_0
          try clear hfz55_1
          try clear hfz55_2
          try clear hfz55_3
          try clear hfz55_4
          try clear hfz56_0
          try clear hfz56_1
          try clear hfz56_2
          try clear hfz56_3
          try clear hfz56_4
          try clear hfz59_0
          try clear hfz59_1
          try clear hfz59_2
          try clear hfz59_3
          try clear hfz59_4
          try clear hfz59_5
          try clear hfz59_6
          try clear hfz59_7
          try clear hfz59_8
          try clear hfz61_0
          try clear hfz61_1
          try clear hfz61_2
          try clear hfz61_3
          try clear hfz61_4
          try clear hfz62_0
          try clear hfz62_1
          try clear hfz62_2
          try clear hfz62_3
          try clear hfz62_4
          try clear hfz65_0
          try clear hfz65_1
          try clear hfz65_2
          try clear hfz65_3
          try clear hfz65_4
          try clear hfz65_5
          try clear hfz65_6
          try clear hfz65_7
          try clear hfz65_8
          try clear hfz67_0
          try clear hfz67_1
          try clear hfz67_2
          try clear hfz67_3
          try clear hfz67_4
          try clear hfz70_0
          try clear hfz70_1
          try clear hfz70_2
          try clear hfz70_3
          try clear hfz70_4
          try clear hfz70_5
          try clear hfz70_6
          try clear hfz70_7
          try clear hfz70_8
          try clear hfz78_0
          try clear hfz78_1
          try clear hfz78_2
          try clear hfz78_3
          try clear hfz78_4
          try clear hfz78_5
          try clear hfz78_6
          try clear hfz78_7
          try clear hfz78_8
          try clear hfz80_0
          try clear hfz80_1
          try clear hfz80_2
          try clear hfz80_3
          try clear hfz80_4
          try clear hfz81_0
          try clear hfz81_1
          try clear hfz81_2
          try clear hfz81_3
          try clear hfz81_4
          try clear hfz84_0
          try clear hfz84_1
          try clear hfz84_2
          try clear hfz84_3
          try clear hfz84_4
          try clear hfz84_5
          try clear hfz84_6
          try clear hfz84_7
          try clear hfz84_8
          try clear hfz86_0
          try clear hfz86_1
          try clear hfz86_2
          try clear hfz86_3
          try clear hfz86_4
          try clear hfz89_0
          try clear hfz89_1
          try clear hfz89_2
          try clear hfz89_3
          try clear hfz89_4
          try clear hfz89_5
          try clear hfz89_6
          try clear hfz89_7
          try clear hfz89_8
          try clear hfz91_0
          try clear hfz91_1
          try clear hfz91_2
          try clear hfz91_3
          try clear hfz91_4
          try clear hfz94_0
          try clear hfz94_1
          try clear hfz94_2
          try clear hfz94_3
          try clear hfz94_4
          try clear hfz94_5
          try clear hfz94_6
          try clear hfz94_7
          try clear hfz94_8
          try clear hx398_0
          try clear hx398_1
          try clear hx398_2
          try clear hx399_0
          try clear hx399_1
          try clear hx399_2
          try clear hx411_0
          try clear hx411_1
          try clear hx411_2
          try clear hx418_0
          try clear hx418_1
          try clear hx418_2
          try clear hx425_0
          try clear hx425_1
          try clear hx425_2
          try clear hx426_0
          try clear hx426_1
          try clear hx426_2
          try clear p2
          try clear p3
          try clear p39
          try clear p398
          try clear p399
          try clear p4
          try clear p41
          try clear p411
          try clear p418
          try clear p42
          try clear p425
          try clear p426
          try clear p6
          try clear p64
          try clear q3
          try clear q39
          try clear q398
          try clear q399
          try clear q4
          try clear q41
          try clear q411
          try clear q418
          try clear q42
          try clear q425
          try clear q426
          obtain ⟨kq, x157_95, rfl, HA, HJ95, HO_3, HO_5, BK410, BK417, BK424, HB⟩ := hcut
          cases kq with
          | zero => exact absurd HA.out (by simp [laws_FnLeavesFound.j4])
          | succ kj95 =>
           have H := HA.out
           clear HA
           simp only [laws_FnLeavesFound.j4] at H
           by_cases c106 : x157_95 = true
           ·
            refine ?M7
            letI iM7 : Nonempty (type_of% ?M7) := ⟨(by
             subst c106
             have H1 : (none) = some r := by rw [if_pos rfl] at H; exact H
             clear H
             have H := H1
             clear H1
             exact absurd H (by simp))⟩
            exact Nonempty.elim (inferInstanceAs (Nonempty (type_of% ?M7))) id
           replace c106 := Bool.eq_false_iff.mpr c106
           subst c106
           have H1 : (if 0 ≤ x6_1 then (if x6_1 < (t384.length : Int) then (if (wrap64 (x6_1 + 1)) < (t384.length : Int) then (if 0 ≤ (wrap64 (x6_1 + 1)) then (laws_FnLeavesFound.j5 kj95 t380 t381 t384 x6_1 (wrap64 (((rd_T52 t384 x6_1).f0) + x7_2)) ((rd_T52 t384 (wrap64 (x6_1 + 1))).f0)) else (none)) else (laws_FnLeavesFound.j5 kj95 t380 t381 t384 x6_1 (wrap64 (((rd_T52 t384 x6_1).f0) + x7_2)) 8388608)) else (none)) else (none)) = some r := by rw [if_neg (show ¬ (false = true) by decide)] at H; exact H
           clear H
           have H := H1
           clear H1
           by_cases c107 : 0 ≤ x6_1
           ·rw [if_pos c107] at H
            have c107b0 : decide (0 ≤ x6_1) = true := decide_eq_true c107
            clear c107
            by_cases c108 : x6_1 < (t384.length : Int)
            ·rw [if_pos c108] at H
             have c108b0 : decide (x6_1 < (t384.length : Int)) = true := decide_eq_true c108
             clear c108
             have HC109 := Aside0.mk H
             clear H
             have p427 : 0 ≤ (x6_1 : Int) := of_decide_eq_true Z10_19
             have q427 : x6_1 < (t384.length : Int) := of_decide_eq_true Z10_19
             obtain ⟨ad427, e427, hx427_0, hx427_1, hx427_2⟩ := at_T52 (Kd.R_reads' HO_5.out).2.2 x6_1 p427 q427
             obtain rfl : ad398 = ad427 := (by injection e427)
             replace p427 := eq_true p427
             replace q427 := eq_true q427
             go_upto_if 169 with (fail)
             repeat (go_quiet (fail); go_upto_if 169 with (fail))
             go_cut [14] (fun v14 wc => ∃ (kq : Nat) (x14_108 : Int), v14 = .int .i64 x14_108 ∧ Aside0 (laws_FnLeavesFound.j5 kq t380 t381 t384 x6_1 (wrap64 (((rd_T52 t384 x6_1).f0) + x7_2)) x14_108 = some r) ∧ Aside0 (kq ≤ kj95) ∧ Aside0 (Kd.R (Kd.int .u8) 5 wc w.heap.size (fun _ => True) (.slice Ao11 t380.length co11) t380) ∧ Aside0 (Kd.R k52 52 wc w.heap.size (fun _ => True) (.slice (some ad398) t384.length co17) t384) ∧ Aside0 (wc.heap[gb410]? = some (.cells #[.bool t400, .bool t401, .bool t402, .bool t403, .bool t404, .bool t405, .bool t406, .bool t407, .int .i64 t408] 27 (0, 0))) ∧ Aside0 (wc.heap[gb417]? = some (.cells #[.int .i64 t412, .int .i64 t413, .int .i64 t414, .int .i64 t415, .int .u64 t416] 36 (0, 0))) ∧ Aside0 (wc.heap[gb424]? = some (.cells #[.int .i64 t419, .int .i64 t420, .int .i64 t421, .int .i64 t422, .int .u64 t423] 36 (0, 0))) ∧ Aside0 (Below w.heap.size w wc))
             case first =>
              refine ?M8
              letI iM8 : Nonempty (type_of% ?M8) := ⟨(by
              have H := HC109.out
              clear HC109
              by_cases c110 : (wrap64 (x6_1 + 1)) < (t384.length : Int)
              ·rw [if_pos c110] at H
               have c110b0 : decide ((wrap64 (x6_1 + 1)) < (t384.length : Int)) = true := decide_eq_true c110
               clear c110
               (first | rw [c110b0] | (simp only [i64_w, i32_w]; rw [c110b0]) | skip)
               obtain ⟨ji111, hji111⟩ : ∃ j_ : Int, (wrap64 (x6_1 + 1)) = j_ := ⟨_, rfl⟩
               replace H : (if 0 ≤ (ji111) then (laws_FnLeavesFound.j5 kj95 t380 t381 t384 x6_1 (wrap64 (((rd_T52 t384 x6_1).f0) + x7_2)) ((rd_T52 t384 (ji111)).f0)) else (none)) = some r := by first | (rw [hji111] at H; exact H) | (simp only [hji111] at H ⊢; exact H)
               (try rw [hji111] at c110b0)
               have hji111w : (IntKind.i64.wrap (x6_1 + 1)) = ji111 := (i64_w _).trans hji111
               by_cases c112 : 0 ≤ (ji111)
               ·rw [if_pos c112] at H
                have c112b0 : decide (0 ≤ (ji111)) = true := decide_eq_true c112
                clear c112
                have H' := Aside0.mk H
                clear H
                have p428 : 0 ≤ ((ji111) : Int) := of_decide_eq_true Z10_19
                have q428 : (ji111) < (t384.length : Int) := of_decide_eq_true Z10_19
                obtain ⟨ad428, e428, hx428_0, hx428_1, hx428_2⟩ := at_T52 (Kd.R_reads' HO_5.out).2.2 (ji111) p428 q428
                obtain rfl : ad398 = ad428 := (by injection e428)
                replace p428 := eq_true p428
                replace q428 := eq_true q428
                go_wp2
                repeat (go_quiet (fail); try go_wp2)
                go_meet
                case rel => exact ⟨_, ((rd_T52 t384 (ji111)).f0), (by first | rfl | (simp; done) | (simp only [← hji111] <;> (first | rfl | simp)) | (simp [*]; done)), H', ⟨Z10_68⟩, ⟨Z10_12⟩, ⟨Z10_13⟩, ⟨Z10_8⟩, ⟨Z10_16⟩, ⟨Z10_31⟩, ⟨Z10_4⟩⟩
               rw [if_neg c112] at H
               exact absurd H (by simp)
              rw [if_neg c110] at H
              have c110b0 : decide ((wrap64 (x6_1 + 1)) < (t384.length : Int)) = false := decide_eq_false c110
              clear c110
              (first | rw [c110b0] | (simp only [i64_w, i32_w]; rw [c110b0]) | skip)
              have H' := Aside0.mk H
              clear H
              go_wp2
              repeat (go_quiet (fail); try go_wp2)
              go_meet
              case rel => exact ⟨_, (8388608), Z10_18, H', ⟨Z10_68⟩, ⟨Z10_12⟩, ⟨Z10_13⟩, ⟨Z10_8⟩, ⟨Z10_16⟩, ⟨Z10_31⟩, ⟨Z10_4⟩⟩)⟩
              exact Nonempty.elim (inferInstanceAs (Nonempty (type_of% ?M8))) id
             clear HC109
             try clear c1
             try clear c2
             try clear p2
             try clear c3
             try clear p3
             try clear q3
             try clear hx3
             try clear c4
             try clear p4
             try clear q4
             try clear hx4
             try clear c5
             try clear c6
             try clear p6
             try clear c7
             try clear c7b0
             try clear c7b1
             try clear c8
             try clear c9
             try clear c9b0
             try clear c9b1
             try clear c9b2
             try clear c10
             try clear c11
             try clear c20
             try clear c20b0
             try clear c21
             try clear c21b0
             try clear c22
             try clear c22b0
             try clear c23
             try clear c23b0
             try clear c33
             try clear c37
             try clear c38
             try clear p39
             try clear q39
             try clear hx39
             try clear c40
             try clear c41
             try clear p41
             try clear q41
             try clear hx41
             try clear c42
             try clear c42b0
             try clear c42b1
             try clear p42
             try clear q42
             try clear hx42
             try clear c43
             try clear c43b0
             try clear c43b1
             try clear c44
             try clear c44b0
             try clear c44b1
             try clear c45
             try clear c46
             try clear c48
             try clear c51
             try clear c52
             try clear c54
             try clear c57
             try clear c58
             try clear c60
             try clear c63
             try clear c64
             try clear p64
             try clear c66
             try clear c68
             try clear c69
             try clear c71
             try clear c73
             try clear c74
             try clear c74b0
             try clear c74b1
             try clear c75
             try clear c75b0
             try clear c75b1
             try clear c76
             try clear c77
             try clear c79
             try clear c82
             try clear c83
             try clear c85
             try clear c87
             try clear c88
             try clear c90
             try clear c92
             try clear c93
             try clear c95
             try clear c97
             try clear c98
             try clear c99
             try clear c101
             try clear c102
             try clear c104
             try clear c106
             try clear c107
             try clear c107b0
             try clear c108
             try clear c108b0
             try clear c110
             try clear c110b0
             try clear c112
             try clear c112b0
             try clear hcz100_0
             try clear hcz100_1
             try clear hcz100_2
             try clear hcz100_3
             try clear hcz100_4
             try clear hcz100_5
             try clear hcz100_6
             try clear hcz100_7
             try clear hcz100_8
             try clear hcz103_0
             try clear hcz103_1
             try clear hcz103_2
             try clear hcz103_3
             try clear hcz103_4
             try clear hcz103_5
             try clear hcz103_6
             try clear hcz103_7
             try clear hcz103_8
             try clear hcz105_0
             try clear hcz105_1
             try clear hcz105_2
             try clear hcz105_3
             try clear hcz105_4
             try clear hcz30_0
             try clear hcz30_1
             try clear hcz30_2
             try clear hcz30_3
             try clear hcz30_4
             try clear hcz30_5
             try clear hcz30_6
             try clear hcz30_7
             try clear hcz30_8
             try clear hcz34_0
             try clear hcz34_1
             try clear hcz34_2
             try clear hcz34_3
             try clear hcz34_4
             try clear hcz39_0
             try clear hcz39_1
             try clear hcz39_2
             try clear hcz39_3
             try clear hcz39_4
             try clear hcz47_0
             try clear hcz47_1
             try clear hcz47_2
             try clear hcz47_3
             try clear hcz47_4
             try clear hcz47_5
             try clear hcz47_6
             try clear hcz47_7
             try clear hcz47_8
             try clear hcz49_0
             try clear hcz49_1
             try clear hcz49_2
             try clear hcz49_3
             try clear hcz49_4
             try clear hcz50_0
             try clear hcz50_1
             try clear hcz50_2
             try clear hcz50_3
             try clear hcz50_4
             try clear hcz53_0
             try clear hcz53_1
             try clear hcz53_2
             try clear hcz53_3
             try clear hcz53_4
             try clear hcz53_5
             try clear hcz53_6
             try clear hcz53_7
             try clear hcz53_8
             try clear hcz55_0
             try clear hcz55_1
             try clear hcz55_2
             try clear hcz55_3
             try clear hcz55_4
             try clear hcz56_0
             try clear hcz56_1
             try clear hcz56_2
             try clear hcz56_3
             try clear hcz56_4
             try clear hcz59_0
             try clear hcz59_1
             try clear hcz59_2
             try clear hcz59_3
             try clear hcz59_4
             try clear hcz59_5
             try clear hcz59_6
             try clear hcz59_7
             try clear hcz59_8
             try clear hcz61_0
             try clear hcz61_1
             try clear hcz61_2
             try clear hcz61_3
             try clear hcz61_4
             try clear hcz62_0
             try clear hcz62_1
             try clear hcz62_2
             try clear hcz62_3
             try clear hcz62_4
             try clear hcz65_0
             try clear hcz65_1
             try clear hcz65_2
             try clear hcz65_3
             try clear hcz65_4
             try clear hcz65_5
             try clear hcz65_6
             try clear hcz65_7
             try clear hcz65_8
             try clear hcz67_0
             try clear hcz67_1
             try clear hcz67_2
             try clear hcz67_3
             try clear hcz67_4
             try clear hcz70_0
             try clear hcz70_1
             try clear hcz70_2
             try clear hcz70_3
             try clear hcz70_4
             try clear hcz70_5
             try clear hcz70_6
             try clear hcz70_7
             try clear hcz70_8
             try clear hcz78_0
             try clear hcz78_1
             try clear hcz78_2
             try clear hcz78_3
             try clear hcz78_4
             try clear hcz78_5
             try clear hcz78_6
             try clear hcz78_7
             try clear hcz78_8
             try clear hcz80_0
             try clear hcz80_1
             try clear hcz80_2
             try clear hcz80_3
             try clear hcz80_4
             try clear hcz81_0
             try clear hcz81_1
             try clear hcz81_2
             try clear hcz81_3
             try clear hcz81_4
             try clear hcz84_0
             try clear hcz84_1
             try clear hcz84_2
             try clear hcz84_3
             try clear hcz84_4
             try clear hcz84_5
             try clear hcz84_6
             try clear hcz84_7
             try clear hcz84_8
             try clear hcz86_0
             try clear hcz86_1
             try clear hcz86_2
             try clear hcz86_3
             try clear hcz86_4
             try clear hcz89_0
             try clear hcz89_1
             try clear hcz89_2
             try clear hcz89_3
             try clear hcz89_4
             try clear hcz89_5
             try clear hcz89_6
             try clear hcz89_7
             try clear hcz89_8
             try clear hcz91_0
             try clear hcz91_1
             try clear hcz91_2
             try clear hcz91_3
             try clear hcz91_4
             try clear hcz94_0
             try clear hcz94_1
             try clear hcz94_2
             try clear hcz94_3
             try clear hcz94_4
             try clear hcz94_5
             try clear hcz94_6
             try clear hcz94_7
             try clear hcz94_8
             try clear hfz100_0
             try clear hfz100_1
             try clear hfz100_2
             try clear hfz100_3
             try clear hfz100_4
             try clear hfz100_5
             try clear hfz100_6
             try clear hfz100_7
             try clear hfz100_8
             try clear hfz103_0
             try clear hfz103_1
             try clear hfz103_2
             try clear hfz103_3
             try clear hfz103_4
             try clear hfz103_5
             try clear hfz103_6
             try clear hfz103_7
             try clear hfz103_8
             try clear hfz105_0
             try clear hfz105_1
             try clear hfz105_2
             try clear hfz105_3
             try clear hfz105_4
             try clear hfz30_0
             try clear hfz30_1
             try clear hfz30_2
             try clear hfz30_3
             try clear hfz30_4
             try clear hfz30_5
             try clear hfz30_6
             try clear hfz30_7
             try clear hfz30_8
             try clear hfz34_0
             try clear hfz34_1
             try clear hfz34_2
             try clear hfz34_3
             try clear hfz34_4
             try clear hfz39_0
             try clear hfz39_1
             try clear hfz39_2
             try clear hfz39_3
             try clear hfz39_4
             try clear hfz47_0
             try clear hfz47_1
             try clear hfz47_2
             try clear hfz47_3
             try clear hfz47_4
             try clear hfz47_5
             try clear hfz47_6
             try clear hfz47_7
             try clear hfz47_8
             try clear hfz49_0
             try clear hfz49_1
             try clear hfz49_2
             try clear hfz49_3
             try clear hfz49_4
             try clear hfz50_0
             try clear hfz50_1
             try clear hfz50_2
             try clear hfz50_3
             try clear hfz50_4
             try clear hfz53_0
             try clear hfz53_1
             try clear hfz53_2
             try clear hfz53_3
             try clear hfz53_4
             try clear hfz53_5
             try clear hfz53_6
             try clear hfz53_7
             try clear hfz53_8
             try clear hfz55_0
             try clear hfz55_1
             try clear hfz55_2
             try clear hfz55_3
             try clear hfz55_4
             try clear hfz56_0
             try clear hfz56_1
             try clear hfz56_2
             try clear hfz56_3
             try clear hfz56_4
             try clear hfz59_0
             try clear hfz59_1
             try clear hfz59_2
             try clear hfz59_3
             try clear hfz59_4
             try clear hfz59_5
             try clear hfz59_6
             try clear hfz59_7
             try clear hfz59_8
             try clear hfz61_0
             try clear hfz61_1
             try clear hfz61_2
             try clear hfz61_3
             try clear hfz61_4
             try clear hfz62_0
             try clear hfz62_1
             try clear hfz62_2
             try clear hfz62_3
             try clear hfz62_4
             try clear hfz65_0
             try clear hfz65_1
             try clear hfz65_2
             try clear hfz65_3
             try clear hfz65_4
             try clear hfz65_5
             try clear hfz65_6
             try clear hfz65_7
             try clear hfz65_8
             try clear hfz67_0
             try clear hfz67_1
             try clear hfz67_2
             try clear hfz67_3
             try clear hfz67_4
             try clear hfz70_0
             try clear hfz70_1
             try clear hfz70_2
             try clear hfz70_3
             try clear hfz70_4
             try clear hfz70_5
             try clear hfz70_6
             try clear hfz70_7
             try clear hfz70_8
             try clear hfz78_0
             try clear hfz78_1
             try clear hfz78_2
             try clear hfz78_3
             try clear hfz78_4
             try clear hfz78_5
             try clear hfz78_6
             try clear hfz78_7
             try clear hfz78_8
             try clear hfz80_0
             try clear hfz80_1
             try clear hfz80_2
             try clear hfz80_3
             try clear hfz80_4
             try clear hfz81_0
             try clear hfz81_1
             try clear hfz81_2
             try clear hfz81_3
             try clear hfz81_4
             try clear hfz84_0
             try clear hfz84_1
             try clear hfz84_2
             try clear hfz84_3
             try clear hfz84_4
             try clear hfz84_5
             try clear hfz84_6
             try clear hfz84_7
             try clear hfz84_8
             try clear hfz86_0
             try clear hfz86_1
             try clear hfz86_2
             try clear hfz86_3
             try clear hfz86_4
             try clear hfz89_0
             try clear hfz89_1
             try clear hfz89_2
             try clear hfz89_3
             try clear hfz89_4
             try clear hfz89_5
             try clear hfz89_6
             try clear hfz89_7
             try clear hfz89_8
             try clear hfz91_0
             try clear hfz91_1
             try clear hfz91_2
             try clear hfz91_3
             try clear hfz91_4
             try clear hfz94_0
             try clear hfz94_1
             try clear hfz94_2
             try clear hfz94_3
             try clear hfz94_4
             try clear hfz94_5
             try clear hfz94_6
             try clear hfz94_7
             try clear hfz94_8
             try clear hx398_0
             try clear hx398_1
             try clear hx398_2
             try clear hx399_0
             try clear hx399_1
             try clear hx399_2
             try clear hx411_0
             try clear hx411_1
             try clear hx411_2
             try clear hx418_0
             try clear hx418_1
             try clear hx418_2
             try clear hx425_0
             try clear hx425_1
             try clear hx425_2
             try clear hx426_0
             try clear hx426_1
             try clear hx426_2
             try clear hx427_0
             try clear hx427_1
             try clear hx427_2
             try clear hx428_0
             try clear hx428_1
             try clear hx428_2
             try clear p2
             try clear p3
             try clear p39
             try clear p398
             try clear p399
             try clear p4
             try clear p41
             try clear p411
             try clear p418
             try clear p42
             try clear p425
             try clear p426
             try clear p427
             try clear p428
             try clear p6
             try clear p64
             try clear q3
             try clear q39
             try clear q398
             try clear q399
             try clear q4
             try clear q41
             try clear q411
             try clear q418
             try clear q42
             try clear q425
             try clear q426
             try clear q427
             try clear q428
             obtain ⟨kq, x14_108, rfl, HA, HJ108, HO_3, HO_5, BK410, BK417, BK424, HB⟩ := hcut
             cases kq with
             | zero => exact absurd HA.out (by simp [laws_FnLeavesFound.j5])
             | succ kj108 =>
              have H := HA.out
              clear HA
              simp only [laws_FnLeavesFound.j5] at H
              by_cases c113 : x14_108 < (wrap64 (((rd_T52 t384 x6_1).f0) + x7_2))
              ·rw [if_pos c113] at H
               exact absurd H (by simp)
              rw [if_neg c113] at H
              have c113b0 : decide (x14_108 < (wrap64 (((rd_T52 t384 x6_1).f0) + x7_2))) = false := decide_eq_false c113
              clear c113
              by_cases c114 : x14_108 > (wrap64 (((rd_T52 t384 x6_1).f0) + x7_2))
              ·
               refine ?M9
               letI iM9 : Nonempty (type_of% ?M9) := ⟨(by
                rw [if_pos c114] at H
                have c114b0 : decide ((wrap64 (((rd_T52 t384 x6_1).f0) + x7_2)) < x14_108) = true := decide_eq_true c114
                clear c114
                replace H := Option.bind_eq_some_iff.mp H
                obtain ⟨⟨t429, t430, t431, t432, t433⟩, A1150, H⟩ := H
                replace H : (if t429 = 0 then (none) else (if t429 = 8 then (none) else (if t429 = 7 then (none) else (laws_FnLeavesFound.l0 kj108 t380 t381 t384 (wrap64 (x6_1 + 1)))))) = some r := H
                have A115 := Aside0.mk A1150
                clear A1150
                by_cases c116 : t429 = 0
                ·rw [if_pos c116] at H
                 exact absurd H (by simp)
                rw [if_neg c116] at H
                have c116b0 : (t429 == 0) = false := beq_eq_false_iff_ne.mpr c116
                have c116b1 : (t429 != 0) = true := bne_iff_ne.mpr c116
                by_cases c117 : t429 = 8
                ·rw [if_pos c117] at H
                 exact absurd H (by simp)
                rw [if_neg c117] at H
                have c117b0 : (t429 == 8) = false := beq_eq_false_iff_ne.mpr c117
                have c117b1 : (t429 != 8) = true := bne_iff_ne.mpr c117
                by_cases c118 : t429 = 7
                ·rw [if_pos c118] at H
                 exact absurd H (by simp)
                rw [if_neg c118] at H
                have c118b0 : (t429 == 7) = false := beq_eq_false_iff_ne.mpr c118
                have c118b1 : (t429 != 7) = true := bne_iff_ne.mpr c118
                have H' := Aside0.mk H
                clear H
                go_wp2_with (first | (go_at_call 20; (with_reducible refine (impl_Translate.calls kj108 _ _ t380 t381 (IntKind.u64.wrap ((wrap64 (((rd_T52 t384 x6_1).f0) + x7_2)))) 0 false t429 t430 t431 t432 t433 _ ?side1 ?side2 A115.out).mono ?_); (case side1 => exact Z10_57); (case side2 => exact (Kd.R_reads' HO_3.out).2.1); rintro e w119 ⟨rfl, hb⟩; have n0_ := Aside0.mk (Kd.R_below Z10_12 hb); have n1_ := Aside0.mk (Kd.R_below Z10_13 hb); have n2_ := Aside0.mk (blk_below (g := gb410) (o := .cells #[.bool t400, .bool t401, .bool t402, .bool t403, .bool t404, .bool t405, .bool t406, .bool t407, .int .i64 t408] 27 (0, 0)) Z10_8 hb); have n3_ := Aside0.mk (blk_below (g := gb417) (o := .cells #[.int .i64 t412, .int .i64 t413, .int .i64 t414, .int .i64 t415, .int .u64 t416] 36 (0, 0)) Z10_16 hb); have n4_ := Aside0.mk (blk_below (g := gb424) (o := .cells #[.int .i64 t419, .int .i64 t420, .int .i64 t421, .int .i64 t422, .int .u64 t423] 36 (0, 0)) Z10_31 hb); have n5_ := Aside0.mk (below_step Z10_4 hb); clear HO_3; clear HO_5; clear BK410; clear BK417; clear BK424; clear HB; have HO_3 := n0_; have HO_5 := n1_; have BK410 := n2_; have BK417 := n3_; have BK424 := n4_; have HB := n5_; clear n0_ n1_ n2_ n3_ n4_ n5_; (try clear hb); (try clear hb2); (try clear hk); (try clear hi)))
                repeat (go_quiet (first | (go_at_call 20; (with_reducible refine (impl_Translate.calls kj108 _ _ t380 t381 (IntKind.u64.wrap ((wrap64 (((rd_T52 t384 x6_1).f0) + x7_2)))) 0 false t429 t430 t431 t432 t433 _ ?side1 ?side2 A115.out).mono ?_); (case side1 => exact Z10_57); (case side2 => exact (Kd.R_reads' HO_3.out).2.1); rintro e w119 ⟨rfl, hb⟩; have n0_ := Aside0.mk (Kd.R_below Z10_12 hb); have n1_ := Aside0.mk (Kd.R_below Z10_13 hb); have n2_ := Aside0.mk (blk_below (g := gb410) (o := .cells #[.bool t400, .bool t401, .bool t402, .bool t403, .bool t404, .bool t405, .bool t406, .bool t407, .int .i64 t408] 27 (0, 0)) Z10_8 hb); have n3_ := Aside0.mk (blk_below (g := gb417) (o := .cells #[.int .i64 t412, .int .i64 t413, .int .i64 t414, .int .i64 t415, .int .u64 t416] 36 (0, 0)) Z10_16 hb); have n4_ := Aside0.mk (blk_below (g := gb424) (o := .cells #[.int .i64 t419, .int .i64 t420, .int .i64 t421, .int .i64 t422, .int .u64 t423] 36 (0, 0)) Z10_31 hb); have n5_ := Aside0.mk (below_step Z10_4 hb); clear HO_3; clear HO_5; clear BK410; clear BK417; clear BK424; clear HB; have HO_3 := n0_; have HO_5 := n1_; have BK410 := n2_; have BK417 := n3_; have BK424 := n4_; have HB := n5_; clear n0_ n1_ n2_ n3_ n4_ n5_; (try clear hb); (try clear hb2); (try clear hk); (try clear hi))); try go_wp2_with (first | (go_at_call 20; (with_reducible refine (impl_Translate.calls kj108 _ _ t380 t381 (IntKind.u64.wrap ((wrap64 (((rd_T52 t384 x6_1).f0) + x7_2)))) 0 false t429 t430 t431 t432 t433 _ ?side1 ?side2 A115.out).mono ?_); (case side1 => exact Z10_57); (case side2 => exact (Kd.R_reads' HO_3.out).2.1); rintro e w119 ⟨rfl, hb⟩; have n0_ := Aside0.mk (Kd.R_below Z10_12 hb); have n1_ := Aside0.mk (Kd.R_below Z10_13 hb); have n2_ := Aside0.mk (blk_below (g := gb410) (o := .cells #[.bool t400, .bool t401, .bool t402, .bool t403, .bool t404, .bool t405, .bool t406, .bool t407, .int .i64 t408] 27 (0, 0)) Z10_8 hb); have n3_ := Aside0.mk (blk_below (g := gb417) (o := .cells #[.int .i64 t412, .int .i64 t413, .int .i64 t414, .int .i64 t415, .int .u64 t416] 36 (0, 0)) Z10_16 hb); have n4_ := Aside0.mk (blk_below (g := gb424) (o := .cells #[.int .i64 t419, .int .i64 t420, .int .i64 t421, .int .i64 t422, .int .u64 t423] 36 (0, 0)) Z10_31 hb); have n5_ := Aside0.mk (below_step Z10_4 hb); clear HO_3; clear HO_5; clear BK410; clear BK417; clear BK424; clear HB; have HO_3 := n0_; have HO_5 := n1_; have BK410 := n2_; have BK417 := n3_; have BK424 := n4_; have HB := n5_; clear n0_ n1_ n2_ n3_ n4_ n5_; (try clear hb); (try clear hb2); (try clear hk); (try clear hi))))
                go_roundg kj108
                case measure => have := HK1.out; have := HK2.out; have := HJ26.out; have := HJ71.out; have := HJ95.out; have := HJ108.out; omega
                case rel => exact ⟨(wrap64 (x6_1 + 1)), Z10_18, H', ⟨by have := HK1.out; have := HK2.out; have := HJ26.out; have := HJ71.out; have := HJ95.out; have := HJ108.out; omega⟩, ⟨Z10_12⟩, ⟨Z10_13⟩, ⟨Z10_4⟩⟩)⟩
               exact Nonempty.elim (inferInstanceAs (Nonempty (type_of% ?M9))) id
              rw [if_neg c114] at H
              have c114b0 : decide ((wrap64 (((rd_T52 t384 x6_1).f0) + x7_2)) < x14_108) = false := decide_eq_false c114
              clear c114
              have H' := Aside0.mk H
              clear H
              go_wp2
              repeat (go_quiet (fail); try go_wp2)
              go_roundg kj108
              case measure => have := HK1.out; have := HK2.out; have := HJ26.out; have := HJ71.out; have := HJ95.out; have := HJ108.out; omega
              case rel => exact ⟨(wrap64 (x6_1 + 1)), Z10_18, H', ⟨by have := HK1.out; have := HK2.out; have := HJ26.out; have := HJ71.out; have := HJ95.out; have := HJ108.out; omega⟩, ⟨Z10_12⟩, ⟨Z10_13⟩, ⟨Z10_4⟩⟩
            rw [if_neg c108] at H
            exact absurd H (by simp)
           rw [if_neg c107] at H
           exact absurd H (by simp)
       rw [if_neg c22] at H
       exact absurd H (by simp)
      rw [if_neg c21] at H
      exact absurd H (by simp)
    rw [if_neg c20] at H
    have c20b0 : decide (x6_1 < (t384.length : Int)) = false := decide_eq_false c20
    clear c20
    obtain rfl := Option.some.inj H
    go_wp2
    repeat (go_quiet (fail); try go_wp2)
    go_ret
    exact ⟨by first | rfl | (simp [errW_none, errW_some] <;> rfl) | (simp [*, errW_none, errW_some] <;> rfl), Z10_1⟩
  rw [if_neg c9] at H
  exact absurd H (by simp)
 rw [if_neg c7] at H
 exact absurd H (by simp)
/-- THE ONE PURE STATEMENT of laws_FnLeavesFound: yours. -/
def laws_FnLeavesFound.Pure : Prop := ∀ (l0 : List Int), l0.length ≤ maxLen → l0.length * 1 ≤ 140737488351232 → (∀ x ∈ l0, (Lit.int .u8 x).wf = true) → ∃ k, laws_FnLeavesFound.f k l0 = some true
theorem laws_FnLeavesFound.walk (P : laws_FnLeavesFound.Pure) (a0 : Option Addr) (len0 cap0 : Nat) (z0 : List Int) (w : World) (w0 : (a0 = none ∧ len0 = 0 ∧ cap0 = 0 ∧ z0 = []) ∨ ∃ x, a0 = some x ∧ len0 ≤ cap0 ∧ cap0 ≤ maxLen ∧ z0.length = cap0 ∧ (∀ i, i < z0.length → w.cell? (x.add i) = some (.int .u8 (z0.getD i 0))) ∧ ∀ n ∈ z0, (Lit.int .u8 n).wf = true) (y0 : len0 * 1 ≤ 140737488351232) :
  Calls Try.prog 7 #[.slice a0 len0 cap0] w fun e w' => e = .returned (.bool true) ∧ Below w.heap.size w w' := by
 obtain ⟨l0, rfl, hr0, hm0, hw0, hc0⟩ := ReadsInt.ofRowC w0
 obtain ⟨k, h⟩ := P l0 hm0 y0 hw0
 refine (laws_FnLeavesFound.calls k _ _ l0 true w (Kd.C_of_reads (d := (0 : Int)) (h1 := fun _ => rfl) hr0) hc0 h).mono ?_
 rintro e w' ⟨rfl, hd⟩
 exact ⟨rfl, hd⟩
end Go.Proofs.Ytdhafphhkokniaa.PFnLeavesFound
