-- Written by a program of this session out of the translation. Not trusted: Lean checks it.
import Derived.Test.YtmjdmaomakkhgaaPFnFramesKeptx0
import Derived.Test.YtmjdmaomakkhgaaPFnFramesKeptx1
import Derived.Test.YtmjdmaomakkhgaaPFnFramesKeptx2
import Derived.Test.YtmjdmaomakkhgaaPFnFramesKeptx3
import Derived.Test.YtmjdmaomakkhgaaPFnFramesKeptx4
import Derived.Test.YtmjdmaomakkhgaaPFnFramesKeptx5
import Derived.Test.YtmjdmaomakkhgaaPFnFramesKeptx7
import Derived.Test.YtmjdmaomakkhgaaPFnFramesKeptx8
import Derived.Test.YtmjdmaomakkhgaaPFnFramesKeptx9
import Derived.Test.YtmjdmaomakkhgaaPFnFramesKeptx10
namespace Go.Proofs.Ytmjdmaomakkhgaa.PFnFramesKept
open Go.RowKit Go.Proofs.YtmjdmaomakkhgaaW.PrintWords Go.Proofs.YtmjdmaomakkhgaaW.PrintLast Go.Proofs.YtmjdmaomakkhgaaW.PrintMore
attribute [local go_sem] max2_int min2_int max_two min_two max_three min_three max_four min_four   -- for this text's walks alone
set_option linter.unusedVariables false
set_option linter.unusedSimpArgs false
theorem Z11_74 {P : Prop} (h : P := by have := HJ5.out; have := HJ15.out; have := HK3.out; have := HJ28.out; have := HK5.out; first | omega | exact Nat.le_refl _) : P := h
theorem Z11_73 {P : Prop} (h : P := by have := HJ5.out; have := HJ15.out; have := HK3.out; have := HJ28.out; have := HJ33.out; first | omega | exact Nat.le_refl _) : P := h
theorem Z11_72 {P : Prop} (h : P := by rw [hg]; exact Nat.ne_of_gt (blk_lt (g := gb358) (o := .cells #[.int .i64 t353, .slice Ao82 t354.length co82] 50 (0, 0)) Z11_10)) : P := h
theorem Z11_71 {P : Prop} (h : P := by rw [hg]; exact Nat.ne_of_lt (blk_lt (g := gb358) (o := .cells #[.int .i64 t353, .slice Ao82 t354.length co82] 50 (0, 0)) Z11_10)) : P := h
theorem Z11_70 {P : Prop} (h : P := by rw [hg]; exact Nat.ne_of_gt (blk_lt (g := gb358) (o := .cells #[.int .i64 t353, .slice Ao56 t354.length co56] 50 (0, 0)) Z11_10)) : P := h
theorem Z11_69 {P : Prop} (h : P := by rw [hg]; exact Nat.ne_of_lt (blk_lt (g := gb358) (o := .cells #[.int .i64 t353, .slice Ao56 t354.length co56] 50 (0, 0)) Z11_10)) : P := h
theorem Z11_68 {P : Prop} (h : P := by (with_reducible repeat (first | apply Kd.R_alloc | apply Kd.R_drewN | apply Kd.R_drew)); exact Kd.R_mono HO_344001.out (fun _ hk => hk.2)) : P := h
theorem Z11_67 {P : Prop} (h : P := by rw [hg]; exact Nat.ne_of_gt (blk_lt (g := gb343) (o := .cells #[.int .i64 x344000_5, .slice Ao136 x344001_5.length co136] 50 (0, 0)) Z11_1)) : P := h
theorem Z11_66 {P : Prop} (h : P := by rw [hg]; exact Nat.ne_of_lt (blk_lt (g := gb343) (o := .cells #[.int .i64 x344000_5, .slice Ao136 x344001_5.length co136] 50 (0, 0)) Z11_1)) : P := h
theorem Z11_65 {P : Prop} (h : P := by (with_reducible repeat (first | apply Kd.R_alloc | apply Kd.R_drewN | apply Kd.R_drew)); exact Kd.R_mono HO382.out (fun _ hk => ⟨hk.2, hk.1.2⟩)) : P := h
theorem Z11_64 {P : Prop} (h : P := by decide) : P := h
theorem Z11_63 {P : Prop} (h : P := by first | rfl | (simp [errW_none, errW_some] <;> rfl) | (simp [*, errW_none, errW_some] <;> rfl)) : P := h
theorem Z11_62 {P : Prop} (h : P := by have := HJ5.out; have := HJ15.out; have := HK3.out; have := HJ28.out; first | omega | exact Nat.le_refl _) : P := h
theorem Z11_61 {P : Prop} (h : P := by rw [hg]; exact (below_size Z11_4)) : P := h
theorem Z11_60 {P : Prop} (h : P := by first | (rw [add_block]; exact hn366_3) | (show (Addr.add _ _).block ≠ _; rw [add_block]; exact hn366_3) | exact hn366_3) : P := h
theorem Z11_59 {P : Prop} (h : P := by first | (rw [add_block]; exact hn366_2) | (show (Addr.add _ _).block ≠ _; rw [add_block]; exact hn366_2) | exact hn366_2) : P := h
theorem Z11_58 {P : Prop} (h : P := by first | (rw [add_block]; exact hn366_1) | (show (Addr.add _ _).block ≠ _; rw [add_block]; exact hn366_1) | exact hn366_1) : P := h
theorem Z11_57 {P : Prop} (h : P := by first | (rw [add_block]; exact hn366_0) | (show (Addr.add _ _).block ≠ _; rw [add_block]; exact hn366_0) | exact hn366_0) : P := h
theorem Z11_56 {P : Prop} (h : P := by have := HJ5.out; have := HJ15.out; have := HK3.out; have := HJ28.out; have := HJ33.out; have := HJ73.out; have := HK7.out; omega) : P := h
theorem Z11_55 {P : Prop} (h : P := by (with_reducible repeat (first | apply blk_drewN | apply blk_drew | apply blk_alloc)); exact BK384.out) : P := h
theorem Z11_54 {P : Prop} (h : P := by repeat (first | exact HR0.out | (with_reducible refine Kd.C_alloc ?_ _) | (with_reducible refine Kd.C_drewN ?_ _) | (with_reducible refine Kd.C_drew ?_))) : P := h
theorem Z11_53 {P : Prop} (h : P := by (with_reducible repeat (first | apply Kd.R_alloc | apply Kd.R_drewN | apply Kd.R_drew)); exact Kd.R_mono (Kd.R_far (p := ⟨gb343, 1, none⟩) (Kd.R_far (p := ⟨gb343, 0, none⟩) (Kd.R_types HO342.out BK343.out (by decide)) (fun _ hk => hk.2) (.int .i64 t339)) (fun _ hk => hk.2) (.slice Ao11 t340.length co11)) (fun _ hk => trivial)) : P := h
theorem Z11_52 {P : Prop} (h : P := by (with_reducible repeat (first | apply Kd.R_alloc | apply Kd.R_drewN | apply Kd.R_drew)); exact Kd.R_mono (Kd.R_far (p := ⟨gb343, 1, none⟩) (Kd.R_far (p := ⟨gb343, 0, none⟩) (Kd.R_types HO338.out BK343.out (by decide)) (fun _ hk => hk.2) (.int .i64 t339)) (fun _ hk => hk.2) (.slice Ao11 t340.length co11)) (fun _ hk => trivial)) : P := h
theorem Z11_51 {P : Prop} (h : P := by (with_reducible repeat (first | apply Kd.R_alloc | apply Kd.R_drewN | apply Kd.R_drew)); exact Kd.R_mono (Kd.R_far (p := ⟨gb390, 1, none⟩) (Kd.R_far (p := ⟨gb390, 0, none⟩) (Kd.R_types HO389.out BK390.out (by decide)) (fun _ hk => hk.2) (.int .i64 t386)) (fun _ hk => hk.2) (.slice Ao158 t387.length co158)) (fun _ hk => hk.1.2)) : P := h
theorem Z11_50 {P : Prop} (h : P := by (with_reducible repeat (first | apply Kd.R_alloc | apply Kd.R_drewN | apply Kd.R_drew)); exact Kd.R_mono (Kd.R_far (p := ⟨gb390, 1, none⟩) (Kd.R_far (p := ⟨gb390, 0, none⟩) (Kd.R_types HO_344001.out BK390.out (by decide)) (fun _ hk => hk.2) (.int .i64 t386)) (fun _ hk => hk.2) (.slice Ao158 t387.length co158)) (fun _ hk => hk.1.2)) : P := h
theorem Z11_49 {P : Prop} (h : P := by (with_reducible repeat (first | apply blk_drewN | apply blk_drew | apply blk_alloc)); refine blk_far ?_ NB343_390.out _; (with_reducible repeat (first | apply blk_drewN | apply blk_drew | apply blk_alloc)); refine blk_far ?_ NB343_390.out _; (with_reducible repeat (first | apply blk_drewN | apply blk_drew | apply blk_alloc)); exact BK343.out) : P := h
theorem Z11_48 {P : Prop} (h : P := by (with_reducible repeat (first | apply blk_drewN | apply blk_drew | apply blk_alloc)); refine blk_far ?_ NB343_358.out _; (with_reducible repeat (first | apply blk_drewN | apply blk_drew | apply blk_alloc)); refine blk_far ?_ NB343_358.out _; (with_reducible repeat (first | apply blk_drewN | apply blk_drew | apply blk_alloc)); exact BK343.out) : P := h
theorem Z11_47 {P : Prop} (h : P := by rw [hg]; exact (below_size Z11_2)) : P := h
theorem Z11_46 {P : Prop} (h : P := by rw [hg]; exact Nat.ne_of_gt (blk_lt (g := gb343) (o := .cells #[.int .i64 x344000_3, .slice Ao75 x344001_3.length co75] 50 (0, 0)) Z11_1)) : P := h
theorem Z11_45 {P : Prop} (h : P := by rw [hg]; exact Nat.ne_of_lt (blk_lt (g := gb343) (o := .cells #[.int .i64 x344000_3, .slice Ao75 x344001_3.length co75] 50 (0, 0)) Z11_1)) : P := h
theorem Z11_44 {P : Prop} (h : P := by rw [hg]; exact Nat.ne_of_gt (blk_lt (g := gb343) (o := .cells #[.int .i64 x344000_3, .slice Ao49 x344001_3.length co49] 50 (0, 0)) Z11_1)) : P := h
theorem Z11_43 {P : Prop} (h : P := by rw [hg]; exact Nat.ne_of_lt (blk_lt (g := gb343) (o := .cells #[.int .i64 x344000_3, .slice Ao49 x344001_3.length co49] 50 (0, 0)) Z11_1)) : P := h
theorem Z11_42 {P : Prop} (h : P := by (with_reducible repeat (first | apply blk_drewN | apply blk_drew | apply blk_alloc)); refine blk_put (cs := #[.int .i64 t386, .slice none 0 0]) ?_ 1 _ rfl; (with_reducible repeat (first | apply blk_drewN | apply blk_drew | apply blk_alloc)); refine blk_put (cs := #[.int .i64 0, .slice none 0 0]) ?_ 0 _ rfl; (with_reducible repeat (first | apply blk_drewN | apply blk_drew | apply blk_alloc)); exact BK390.out) : P := h
theorem Z11_41 {P : Prop} (h : P := by (with_reducible repeat (first | apply blk_drewN | apply blk_drew | apply blk_alloc)); refine blk_put (cs := #[.int .i64 t353, .slice none 0 0]) ?_ 1 _ rfl; (with_reducible repeat (first | apply blk_drewN | apply blk_drew | apply blk_alloc)); refine blk_put (cs := #[.int .i64 0, .slice none 0 0]) ?_ 0 _ rfl; (with_reducible repeat (first | apply blk_drewN | apply blk_drew | apply blk_alloc)); exact BK358.out) : P := h
theorem Z11_40 {P : Prop} (h : P := by (with_reducible repeat (first | apply blk_drewN | apply blk_drew | apply blk_alloc)); refine blk_put (cs := #[.int .i64 t339, .slice none 0 0]) ?_ 1 _ rfl; (with_reducible repeat (first | apply blk_drewN | apply blk_drew | apply blk_alloc)); refine blk_put (cs := #[.int .i64 0, .slice none 0 0]) ?_ 0 _ rfl; (with_reducible repeat (first | apply blk_drewN | apply blk_drew | apply blk_alloc)); exact BK343.out) : P := h
theorem Z11_39 {P : Prop} (h : P := by (with_reducible repeat (first | apply Kd.R_alloc | apply Kd.R_drewN | apply Kd.R_drew)); exact Kd.R_mono HO356.out (fun _ hk => ⟨hk.2, hk.1.2⟩)) : P := h
theorem Z11_38 {P : Prop} (h : P := by (with_reducible repeat (first | apply Kd.R_alloc | apply Kd.R_drewN | apply Kd.R_drew)); exact Kd.R_mono HO_6.out (fun _ hk => ⟨hk.1.2, ⟨hk.2, hk.1.1⟩⟩)) : P := h
theorem Z11_37 {P : Prop} (h : P := by (with_reducible repeat (first | apply Kd.R_alloc | apply Kd.R_drewN | apply Kd.R_drew)); exact Kd.R_mono HO356.out (fun _ hk => ⟨hk.2, ⟨hk.1.2, hk.1.1⟩⟩)) : P := h
theorem Z11_36 {P : Prop} (h : P := by (with_reducible repeat (first | apply Kd.R_alloc | apply Kd.R_drewN | apply Kd.R_drew)); exact Kd.R_mono HO363.out (fun _ hk => ⟨hk.2, ⟨hk.1.2, hk.1.1.2⟩⟩)) : P := h
theorem Z11_35 {P : Prop} (h : P := by (with_reducible repeat (first | apply Kd.R_alloc | apply Kd.R_drewN | apply Kd.R_drew)); exact Kd.R_mono HO_344001.out (fun _ hk => ⟨hk.1.2, ⟨hk.2, hk.1.1⟩⟩)) : P := h
theorem Z11_34 {P : Prop} (h : P := by first | (go_simp; done) | (go_simp; rfl)) : P := h
theorem Z11_33 {P : Prop} (h : P := by (with_reducible repeat (first | apply Kd.R_alloc | apply Kd.R_drewN | apply Kd.R_drew)); exact Kd.R_mono (Kd.R_far (p := ⟨gb343, 1, none⟩) (Kd.R_far (p := ⟨gb343, 0, none⟩) (Kd.R_far (p := ⟨gb365, 1, none⟩) (Kd.R_far (p := ⟨gb365, 0, none⟩) (Kd.R_types (Kd.R_types HO_4.out BK365.out (by decide)) BK343.out (by decide)) (fun _ hk => hk.1.2) (.int .i64 t360)) (fun _ hk => hk.1.2) (.slice Ao90 t361.length co90)) (fun _ hk => hk.2) (.int .i64 t353)) (fun _ hk => hk.2) (.slice Ao82 t354.length co82)) (fun _ hk => trivial)) : P := h
theorem Z11_32 {P : Prop} (h : P := by (with_reducible repeat (first | apply Kd.R_alloc | apply Kd.R_drewN | apply Kd.R_drew)); exact HO_366001.out) : P := h
theorem Z11_31 {P : Prop} (h : P := by (with_reducible repeat (first | apply Kd.R_alloc | apply Kd.R_drewN | apply Kd.R_drew)); exact HO_359001.out) : P := h
theorem Z11_30 {P : Prop} (h : P := by (with_reducible repeat (first | apply Kd.R_alloc | apply Kd.R_drewN | apply Kd.R_drew)); exact Kd.R_mono (Kd.R_far (p := ⟨gb343, 1, none⟩) (Kd.R_far (p := ⟨gb343, 0, none⟩) (Kd.R_far (p := ⟨gb365, 1, none⟩) (Kd.R_far (p := ⟨gb365, 0, none⟩) (Kd.R_types (Kd.R_types HO_6.out BK365.out (by decide)) BK343.out (by decide)) (fun _ hk => hk.1.2) (.int .i64 t360)) (fun _ hk => hk.1.2) (.slice Ao90 t361.length co90)) (fun _ hk => hk.2) (.int .i64 t353)) (fun _ hk => hk.2) (.slice Ao82 t354.length co82)) (fun _ hk => ⟨hk.1.1.1, ⟨hk.1.1.1, hk.1.1.2.1⟩⟩)) : P := h
theorem Z11_29 {P : Prop} (h : P := by (with_reducible repeat (first | apply Kd.R_alloc | apply Kd.R_drewN | apply Kd.R_drew)); exact Kd.R_mono (Kd.R_far (p := ⟨gb343, 1, none⟩) (Kd.R_far (p := ⟨gb343, 0, none⟩) (Kd.R_far (p := ⟨gb365, 1, none⟩) (Kd.R_far (p := ⟨gb365, 0, none⟩) (Kd.R_types (Kd.R_types HO363.out BK365.out (by decide)) BK343.out (by decide)) (fun _ hk => hk.1.2) (.int .i64 t360)) (fun _ hk => hk.1.2) (.slice Ao90 t361.length co90)) (fun _ hk => hk.2) (.int .i64 t353)) (fun _ hk => hk.2) (.slice Ao82 t354.length co82)) (fun _ hk => ⟨hk.1.1.2.2, ⟨hk.1.1.1, hk.1.1.1⟩⟩)) : P := h
theorem Z11_28 {P : Prop} (h : P := by (with_reducible repeat (first | apply blk_drewN | apply blk_drew | apply blk_alloc)); refine blk_far ?_ NB358_343.out _; (with_reducible repeat (first | apply blk_drewN | apply blk_drew | apply blk_alloc)); refine blk_far ?_ NB358_343.out _; (with_reducible repeat (first | apply blk_drewN | apply blk_drew | apply blk_alloc)); refine blk_far ?_ NB358_365.out _; (with_reducible repeat (first | apply blk_drewN | apply blk_drew | apply blk_alloc)); refine blk_far ?_ NB358_365.out _; (with_reducible repeat (first | apply blk_drewN | apply blk_drew | apply blk_alloc)); exact BK358.out) : P := h
theorem Z11_27 {P : Prop} (h : P := by (with_reducible repeat (first | apply blk_drewN | apply blk_drew | apply blk_alloc)); refine blk_far ?_ NB365_343.out _; (with_reducible repeat (first | apply blk_drewN | apply blk_drew | apply blk_alloc)); refine blk_far ?_ NB365_343.out _; (with_reducible repeat (first | apply blk_drewN | apply blk_drew | apply blk_alloc)); refine blk_put (cs := #[.int .i64 t360, .slice none 0 0]) ?_ 1 _ rfl; (with_reducible repeat (first | apply blk_drewN | apply blk_drew | apply blk_alloc)); refine blk_put (cs := #[.int .i64 0, .slice none 0 0]) ?_ 0 _ rfl; (with_reducible repeat (first | apply blk_drewN | apply blk_drew | apply blk_alloc)); exact BK365.out) : P := h
theorem Z11_26 {P : Prop} (h : P := by (with_reducible repeat (first | apply Kd.R_alloc | apply Kd.R_drewN | apply Kd.R_drew)); exact Kd.R_mono HO_6.out (fun _ hk => ⟨hk.2, hk.1⟩)) : P := h
theorem Z11_25 {P : Prop} (h : P := by (with_reducible repeat (first | apply blk_drewN | apply blk_drew | apply blk_alloc)); refine blk_put (cs := #[.int .i64 t353, .slice Ao75 x344001_3.length co75]) ?_ 1 _ rfl; (with_reducible repeat (first | apply blk_drewN | apply blk_drew | apply blk_alloc)); refine blk_put (cs := #[.int .i64 x344000_3, .slice Ao75 x344001_3.length co75]) ?_ 0 _ rfl; (with_reducible repeat (first | apply blk_drewN | apply blk_drew | apply blk_alloc)); refine blk_far ?_ NB343_365.out _; (with_reducible repeat (first | apply blk_drewN | apply blk_drew | apply blk_alloc)); refine blk_far ?_ NB343_365.out _; (with_reducible repeat (first | apply blk_drewN | apply blk_drew | apply blk_alloc)); exact BK343.out) : P := h
theorem Z11_24 {P : Prop} (h : P := by repeat (first | (with_reducible first | exact HB.out | apply below_alloc | apply pw_below_drewN | apply below_drew1 | refine below_set ?_ GE343.out | refine below_set ?_ GE390.out) | exact HB.out)) : P := h
theorem Z11_23 {P : Prop} (h : P := by simp only [putAll, Act.put, List.setIfInBounds_toArray, List.set_cons_zero, List.set_cons_succ]) : P := h
theorem Z11_22 {P : Prop} (h : P := by repeat (first | (with_reducible first | exact HB.out | apply below_alloc | apply pw_below_drewN | apply below_drew1) | exact HB.out)) : P := h
theorem Z11_21 {P : Prop} (h : P := by (with_reducible repeat (first | apply Kd.R_alloc | apply Kd.R_drewN | apply Kd.R_drew)); exact Kd.R_mono HO_344001.out (fun _ hk => ⟨hk.2, hk.1⟩)) : P := h
theorem Z11_20 {P : Prop} (h : P := by (with_reducible repeat (first | apply blk_drewN | apply blk_drew | apply blk_alloc)); exact BK365.out) : P := h
theorem Z11_19 {P : Prop} (h : P := by kernel_rfl) : P := h
theorem Z11_18 {P : Prop} (h : P := by repeat (first | (with_reducible first | exact HB.out | apply below_alloc | apply pw_below_drewN | apply below_drew1 | refine below_set ?_ GE343.out | refine below_set ?_ GE384.out) | exact HB.out)) : P := h
theorem Z11_17 {P : Prop} (h : P := by (with_reducible repeat (first | apply Kd.R_alloc | apply Kd.R_drewN | apply Kd.R_drew)); exact HO356.out) : P := h
theorem Z11_16 {P : Prop} (h : P := by (with_reducible repeat (first | apply Kd.R_alloc | apply Kd.R_drewN | apply Kd.R_drew)); exact Kd.R_mono (Kd.R_far (p := ⟨gb343, 1, none⟩) (Kd.R_far (p := ⟨gb343, 0, none⟩) (Kd.R_far (p := ⟨gb365, 1, none⟩) (Kd.R_far (p := ⟨gb365, 0, none⟩) (Kd.R_types (Kd.R_types HO356.out BK365.out (by decide)) BK343.out (by decide)) (fun _ hk => hk.1.2) (.int .i64 t360)) (fun _ hk => hk.1.2) (.slice Ao90 t361.length co90)) (fun _ hk => hk.2) (.int .i64 t353)) (fun _ hk => hk.2) (.slice Ao82 t354.length co82)) (fun _ hk => ⟨hk.1.1.2.2, hk.1.1.1⟩)) : P := h
theorem Z11_15 {P : Prop} (h : P := by first | exact Kd.own_blk (Kd.R_ne HO_6.out BK384.out (by decide)) | (rw [add_block]; exact Kd.own_blk (Kd.R_ne HO_6.out BK384.out (by decide))) | (show (Addr.add _ _).block ≠ _; rw [add_block]; exact Kd.own_blk (Kd.R_ne HO_6.out BK384.out (by decide))) | (dsimp only; exact Kd.own_blk (Kd.R_ne HO_6.out BK384.out (by decide)))) : P := h
theorem Z11_14 {P : Prop} (h : P := by first | (with_reducible assumption) | assumption) : P := h
theorem Z11_13 {P : Prop} (h : P := by first | rfl | exact congrArg (Value.int .i64) (i64_w _) | (simp; done) | (simp [*]; done)) : P := h
theorem Z11_12 {P : Prop} (h : P := by repeat (first | exact (Kd.R_reads' HO_344001.out).2.2 | (with_reducible refine Kd.C_alloc ?_ _) | (with_reducible refine Kd.C_drewN ?_ _) | (with_reducible refine Kd.C_drew ?_))) : P := h
theorem Z11_11 {P : Prop} (h : P := by (try simp only [List.map_toArray, List.map_cons, List.map_nil]); first | done | rfl | (simp only [List.length_drop, List.length_take]; first | done | rfl)) : P := h
theorem Z11_10 {P : Prop} (h : P := by (with_reducible repeat (first | apply blk_drewN | apply blk_drew | apply blk_alloc)); exact BK358.out) : P := h
theorem Z11_9 {P : Prop} (h : P := by first | exact Kd.own_blk (Kd.R_ne HO_4.out BK365.out (by decide)) | (rw [add_block]; exact Kd.own_blk (Kd.R_ne HO_4.out BK365.out (by decide))) | (show (Addr.add _ _).block ≠ _; rw [add_block]; exact Kd.own_blk (Kd.R_ne HO_4.out BK365.out (by decide))) | (dsimp only; exact Kd.own_blk (Kd.R_ne HO_4.out BK365.out (by decide)))) : P := h
theorem Z11_8 {P : Prop} (h : P := by first | exact Kd.own_blk (Kd.R_ne HO_4.out BK358.out (by decide)) | (rw [add_block]; exact Kd.own_blk (Kd.R_ne HO_4.out BK358.out (by decide))) | (show (Addr.add _ _).block ≠ _; rw [add_block]; exact Kd.own_blk (Kd.R_ne HO_4.out BK358.out (by decide))) | (dsimp only; exact Kd.own_blk (Kd.R_ne HO_4.out BK358.out (by decide)))) : P := h
theorem Z11_7 {P : Prop} (h : P := by repeat (first | (with_reducible first | exact HB.out | apply below_alloc | apply pw_below_drewN | apply below_drew1 | refine below_set ?_ GE343.out | refine below_set ?_ GE358.out | refine below_set ?_ GE365.out) | exact HB.out)) : P := h
theorem Z11_6 {P : Prop} (h : P := by (with_reducible repeat (first | apply Kd.R_alloc | apply Kd.R_drewN | apply Kd.R_drew)); exact HO_4.out) : P := h
theorem Z11_5 {P : Prop} (h : P := by (with_reducible repeat (first | apply Kd.R_alloc | apply Kd.R_drewN | apply Kd.R_drew)); exact HO_6.out) : P := h
theorem Z11_4 {P : Prop} (h : P := by repeat (first | (with_reducible first | exact HB.out | apply below_alloc | apply pw_below_drewN | apply below_drew1 | refine below_set ?_ GE343.out | refine below_set ?_ GE358.out) | exact HB.out)) : P := h
theorem Z11_3 {P : Prop} (h : P := by (with_reducible repeat (first | apply Kd.R_alloc | apply Kd.R_drewN | apply Kd.R_drew)); exact HO_344001.out) : P := h
theorem Z11_2 {P : Prop} (h : P := by repeat (first | (with_reducible first | exact HB.out | apply below_alloc | apply pw_below_drewN | apply below_drew1 | refine below_set ?_ GE343.out) | exact HB.out)) : P := h
theorem Z11_1 {P : Prop} (h : P := by (with_reducible repeat (first | apply blk_drewN | apply blk_drew | apply blk_alloc)); exact BK343.out) : P := h

attribute [local go_sem high] eqA73
/-! ### laws_FnFramesKept: function 13 -/
mutual
def laws_FnFramesKept.j0 : Nat → List Int → Int → List (S70) → Bool → Int → List (S73) → Option (Bool)
 | 0, _, _, _, _, _, _ => none
 | k + 1, x0, x3, x4, x36, x344000, x344001 => if x36 = true then (if (x344001.length : Int) = 0 then (some (x344000 == 0)) else (none)) else ((spec_FramesOk.f k x344000 x344001).bind fun t344 => (if t344 = true then ((impl_FramesLeft.f k x344000 x344001).bind fun t345 => (laws_FnFramesKept.j1 k x0 x3 x4 (t345 != x3) x344000 x344001)) else (laws_FnFramesKept.j1 k x0 x3 x4 true x344000 x344001)))
def laws_FnFramesKept.j1 : Nat → List Int → Int → List (S70) → Bool → Int → List (S73) → Option (Bool)
 | 0, _, _, _, _, _, _ => none
 | k + 1, x0, x3, x4, x54, x344000, x344001 => if x54 = true then (none) else (laws_FnFramesKept.l0 k x0 x3 x4 (([] : List (S73))) 0 0 x344000 x344001)
def laws_FnFramesKept.l0 : Nat → List Int → Int → List (S70) → List (S73) → Int → Int → Int → List (S73) → Option (Bool)
 | 0, _, _, _, _, _, _, _, _ => none
 | k + 1, x0, x3, x4, x6, x7, x8, x344000, x344001 => if x8 < (x4.length : Int) then (laws_FnFramesKept.j3 k x0 x3 x4 x6 x7 x8 (decide (x8 < 60)) x344000 x344001) else (laws_FnFramesKept.j3 k x0 x3 x4 x6 x7 x8 false x344000 x344001)
def laws_FnFramesKept.j3 : Nat → List Int → Int → List (S70) → List (S73) → Int → Int → Bool → Int → List (S73) → Option (Bool)
 | 0, _, _, _, _, _, _, _, _, _ => none
 | k + 1, x0, x3, x4, x6, x7, x8, x63, x344000, x344001 => if x63 = true then (if 0 ≤ x8 then (if x8 < (x4.length : Int) then (if ((rd_T70 x4 x8).f0) = 1 then (if ((rd_T70 x4 x8).f2) < 0 then (laws_FnFramesKept.j4 k x0 x3 x4 x6 x7 x8 true x344000 x344001) else (laws_FnFramesKept.j4 k x0 x3 x4 x6 x7 x8 (decide (((rd_T70 x4 x8).f2) > 10)) x344000 x344001)) else (laws_FnFramesKept.j4 k x0 x3 x4 x6 x7 x8 true x344000 x344001)) else (none)) else (none)) else (laws_FnFramesKept.l2 k x0 x3 x6 0 x344000 x344001)
def laws_FnFramesKept.j4 : Nat → List Int → Int → List (S70) → List (S73) → Int → Int → Bool → Int → List (S73) → Option (Bool)
 | 0, _, _, _, _, _, _, _, _, _ => none
 | k + 1, x0, x3, x4, x6, x7, x8, x87, x344000, x344001 => if x87 = true then (laws_FnFramesKept.l0 k x0 x3 x4 x6 x7 (wrap64 (x8 + 1)) x344000 x344001) else (if 0 ≤ x8 then (if x8 < (x4.length : Int) then ((impl_FramesTake.f k x344000 x344001 ((rd_T70 x4 x8).f2)).bind fun bt353 => ((spec_FramesTake.f k x344000 x344001 ((rd_T70 x4 x8).f2)).bind fun bt360 => (if bt353.2.2 = bt360.2.2 then (if bt353.2.2 < 0 then (laws_FnFramesKept.l0 k x0 x3 x4 x6 x7 (wrap64 (x8 + 1)) bt353.1 bt353.2.1) else (if 0 ≤ (IntKind.u64.wrap ((rd_T70 x4 x8).f2)) then (if (shl .i64 1 (IntKind.u64.wrap ((rd_T70 x4 x8).f2))) = 0 then (none) else (if (Int.tmod bt353.2.2 (shl .i64 1 (IntKind.u64.wrap ((rd_T70 x4 x8).f2)))) = 0 then (laws_FnFramesKept.j5 k x0 x3 x4 x6 x7 x8 bt353.2.2 (shl .i64 1 (IntKind.u64.wrap ((rd_T70 x4 x8).f2))) (decide ((wrap64 (bt353.2.2 + (shl .i64 1 (IntKind.u64.wrap ((rd_T70 x4 x8).f2))))) > x3)) bt353.1 bt353.2.1) else (laws_FnFramesKept.j5 k x0 x3 x4 x6 x7 x8 bt353.2.2 (shl .i64 1 (IntKind.u64.wrap ((rd_T70 x4 x8).f2))) true bt353.1 bt353.2.1))) else (none))) else (none)))) else (none)) else (none))
def laws_FnFramesKept.j5 : Nat → List Int → Int → List (S70) → List (S73) → Int → Int → Int → Int → Bool → Int → List (S73) → Option (Bool)
 | 0, _, _, _, _, _, _, _, _, _, _, _ => none
 | k + 1, x0, x3, x4, x6, x7, x8, x10, x13, x131, x344000, x344001 => if x131 = true then (none) else (laws_FnFramesKept.l1 k x0 x3 x4 x6 x7 x8 x10 x13 0 x344000 x344001)
def laws_FnFramesKept.l1 : Nat → List Int → Int → List (S70) → List (S73) → Int → Int → Int → Int → Int → Int → List (S73) → Option (Bool)
 | 0, _, _, _, _, _, _, _, _, _, _, _ => none
 | k + 1, x0, x3, x4, x6, x7, x8, x10, x13, x14, x344000, x344001 => if x14 < (x6.length : Int) then (if 0 ≤ x14 then (if 0 ≤ (IntKind.u64.wrap ((rd_T73 x6 x14).f1)) then (if x10 < (wrap64 (((rd_T73 x6 x14).f0) + (shl .i64 1 (IntKind.u64.wrap ((rd_T73 x6 x14).f1))))) then (if ((rd_T73 x6 x14).f0) < (wrap64 (x10 + x13)) then (none) else (laws_FnFramesKept.l1 k x0 x3 x4 x6 x7 x8 x10 x13 (wrap64 (x14 + 1)) x344000 x344001)) else (laws_FnFramesKept.l1 k x0 x3 x4 x6 x7 x8 x10 x13 (wrap64 (x14 + 1)) x344000 x344001)) else (none)) else (none)) else (if 0 ≤ x8 then (if x8 < (x4.length : Int) then (if x6.length < 8796093022208 then ((spec_FramesOk.f k x344000 x344001).bind fun t374 => (if t374 = true then ((impl_FramesLeft.f k x344000 x344001).bind fun t375 => (if (wrap64 (t375 + (wrap64 (x7 + x13)))) = x3 then (laws_FnFramesKept.l0 k x0 x3 x4 (x6 ++ [(⟨x10, (rd_T70 x4 x8).f2⟩ : S73)]) (wrap64 (x7 + x13)) (wrap64 (x8 + 1)) x344000 x344001) else (none))) else (none))) else (none)) else (none)) else (none))
def laws_FnFramesKept.l2 : Nat → List Int → Int → List (S73) → Int → Int → List (S73) → Option (Bool)
 | 0, _, _, _, _, _, _ => none
 | k + 1, x0, x3, x6, x16, x344000, x344001 => if x16 < (x6.length : Int) then (if (x6.length : Int) = 0 then (none) else (laws_FnFramesKept.l3 k x0 x3 x6 x16 (Int.tmod (wrap64 ((wrap64 (x16 * 7)) + (x0.length : Int))) (x6.length : Int)) x344000 x344001)) else ((impl_NewFrames.f k x3).bind fun bt386 => (if (x344001.length : Int) = (bt386.2.length : Int) then (laws_FnFramesKept.j9 k (x344000 != x3) x344000 x344001 bt386.1 bt386.2) else (laws_FnFramesKept.j9 k true x344000 x344001 bt386.1 bt386.2)))
def laws_FnFramesKept.l3 : Nat → List Int → Int → List (S73) → Int → Int → Int → List (S73) → Option (Bool)
 | 0, _, _, _, _, _, _, _ => none
 | k + 1, x0, x3, x6, x16, x17, x344000, x344001 => if 0 ≤ x17 then (if x17 < (x6.length : Int) then (if ((rd_T73 x6 x17).f1) < 0 then (if (x6.length : Int) = 0 then (none) else (laws_FnFramesKept.l3 k x0 x3 x6 x16 (Int.tmod (wrap64 (x17 + 1)) (x6.length : Int)) x344000 x344001)) else ((impl_FramesGive.f k x344000 x344001 ((rd_T73 x6 x17).f0) ((rd_T73 x6 x17).f1)).bind fun bt379 => (if bt379.2.2 = true then (laws_FnFramesKept.l2 k x0 x3 (x6.set (x17 : Int).toNat (⟨(rd_T73 x6 x17).f0, (-1)⟩ : S73)) (wrap64 (x16 + 1)) bt379.1 bt379.2.1) else (none)))) else (none)) else (none)
def laws_FnFramesKept.j9 : Nat → Bool → Int → List (S73) → Int → List (S73) → Option (Bool)
 | 0, _, _, _, _, _ => none
 | k + 1, x250, x344000, x344001, x391000, x391001 => if x250 = true then (none) else (laws_FnFramesKept.l4 k 0 x344000 x344001 x391000 x391001)
def laws_FnFramesKept.l4 : Nat → Int → Int → List (S73) → Int → List (S73) → Option (Bool)
 | 0, _, _, _, _, _ => none
 | k + 1, x21, x344000, x344001, x391000, x391001 => if x21 < (x344001.length : Int) then (if 0 ≤ x21 then (if x21 < (x391001.length : Int) then (if (!(((rd_T73 x344001 x21).f0) == ((rd_T73 x391001 x21).f0)) || (!(((rd_T73 x344001 x21).f1) == ((rd_T73 x391001 x21).f1)))) = true then (none) else (laws_FnFramesKept.l4 k (wrap64 (x21 + 1)) x344000 x344001 x391000 x391001)) else (none)) else (none)) else (some true)
end
def laws_FnFramesKept.f (k : Nat) (l0 : List Int) : Option (Bool) := (laws_big.f l0).bind fun t334 => (if t334 = true then (some true) else ((spec_DrawFramesRun.f k l0).bind fun bt335 => ((impl_NewFrames.f k bt335.1).bind fun bt339 => (if bt335.1 < 0 then (laws_FnFramesKept.j0 k l0 bt335.1 bt335.2 true bt339.1 bt339.2) else (laws_FnFramesKept.j0 k l0 bt335.1 bt335.2 (decide (bt335.1 > 1024)) bt339.1 bt339.2)))))
theorem laws_FnFramesKept.mono_l : ∀ k, (∀ y0 y1 y2 y3 y4 y5, LeO (laws_FnFramesKept.j0 k y0 y1 y2 y3 y4 y5) (laws_FnFramesKept.j0 (k + 1) y0 y1 y2 y3 y4 y5)) ∧ (∀ y0 y1 y2 y3 y4 y5, LeO (laws_FnFramesKept.j1 k y0 y1 y2 y3 y4 y5) (laws_FnFramesKept.j1 (k + 1) y0 y1 y2 y3 y4 y5)) ∧ (∀ y0 y1 y2 y3 y4 y5 y6 y7, LeO (laws_FnFramesKept.l0 k y0 y1 y2 y3 y4 y5 y6 y7) (laws_FnFramesKept.l0 (k + 1) y0 y1 y2 y3 y4 y5 y6 y7)) ∧ (∀ y0 y1 y2 y3 y4 y5 y6 y7 y8, LeO (laws_FnFramesKept.j3 k y0 y1 y2 y3 y4 y5 y6 y7 y8) (laws_FnFramesKept.j3 (k + 1) y0 y1 y2 y3 y4 y5 y6 y7 y8)) ∧ (∀ y0 y1 y2 y3 y4 y5 y6 y7 y8, LeO (laws_FnFramesKept.j4 k y0 y1 y2 y3 y4 y5 y6 y7 y8) (laws_FnFramesKept.j4 (k + 1) y0 y1 y2 y3 y4 y5 y6 y7 y8)) ∧ (∀ y0 y1 y2 y3 y4 y5 y6 y7 y8 y9 y10, LeO (laws_FnFramesKept.j5 k y0 y1 y2 y3 y4 y5 y6 y7 y8 y9 y10) (laws_FnFramesKept.j5 (k + 1) y0 y1 y2 y3 y4 y5 y6 y7 y8 y9 y10)) ∧ (∀ y0 y1 y2 y3 y4 y5 y6 y7 y8 y9 y10, LeO (laws_FnFramesKept.l1 k y0 y1 y2 y3 y4 y5 y6 y7 y8 y9 y10) (laws_FnFramesKept.l1 (k + 1) y0 y1 y2 y3 y4 y5 y6 y7 y8 y9 y10)) ∧ (∀ y0 y1 y2 y3 y4 y5, LeO (laws_FnFramesKept.l2 k y0 y1 y2 y3 y4 y5) (laws_FnFramesKept.l2 (k + 1) y0 y1 y2 y3 y4 y5)) ∧ (∀ y0 y1 y2 y3 y4 y5 y6, LeO (laws_FnFramesKept.l3 k y0 y1 y2 y3 y4 y5 y6) (laws_FnFramesKept.l3 (k + 1) y0 y1 y2 y3 y4 y5 y6)) ∧ (∀ y0 y1 y2 y3 y4, LeO (laws_FnFramesKept.j9 k y0 y1 y2 y3 y4) (laws_FnFramesKept.j9 (k + 1) y0 y1 y2 y3 y4)) ∧ (∀ y0 y1 y2 y3 y4, LeO (laws_FnFramesKept.l4 k y0 y1 y2 y3 y4) (laws_FnFramesKept.l4 (k + 1) y0 y1 y2 y3 y4))
 | 0 => ⟨fun _ _ _ _ _ _ r h => by simp [laws_FnFramesKept.j0] at h, fun _ _ _ _ _ _ r h => by simp [laws_FnFramesKept.j1] at h, fun _ _ _ _ _ _ _ _ r h => by simp [laws_FnFramesKept.l0] at h, fun _ _ _ _ _ _ _ _ _ r h => by simp [laws_FnFramesKept.j3] at h, fun _ _ _ _ _ _ _ _ _ r h => by simp [laws_FnFramesKept.j4] at h, fun _ _ _ _ _ _ _ _ _ _ _ r h => by simp [laws_FnFramesKept.j5] at h, fun _ _ _ _ _ _ _ _ _ _ _ r h => by simp [laws_FnFramesKept.l1] at h, fun _ _ _ _ _ _ r h => by simp [laws_FnFramesKept.l2] at h, fun _ _ _ _ _ _ _ r h => by simp [laws_FnFramesKept.l3] at h, fun _ _ _ _ _ r h => by simp [laws_FnFramesKept.j9] at h, fun _ _ _ _ _ r h => by simp [laws_FnFramesKept.l4] at h⟩
 | k + 1 => by
  obtain ⟨ih0, ih1, ih2, ih3, ih4, ih5, ih6, ih7, ih8, ih9, ih10⟩ := laws_FnFramesKept.mono_l k
  refine ⟨?_, ?_, ?_, ?_, ?_, ?_, ?_, ?_, ?_, ?_, ?_⟩
  ·intro y0 y1 y2 y3 y4 y5
   unfold laws_FnFramesKept.j0
   repeat' first
   | (with_reducible exact ih0 _ _ _ _ _ _)
   | (with_reducible exact ih1 _ _ _ _ _ _)
   | (with_reducible exact ih2 _ _ _ _ _ _ _ _)
   | (with_reducible exact ih3 _ _ _ _ _ _ _ _ _)
   | (with_reducible exact ih4 _ _ _ _ _ _ _ _ _)
   | (with_reducible exact ih5 _ _ _ _ _ _ _ _ _ _ _)
   | (with_reducible exact ih6 _ _ _ _ _ _ _ _ _ _ _)
   | (with_reducible exact ih7 _ _ _ _ _ _)
   | (with_reducible exact ih8 _ _ _ _ _ _ _)
   | (with_reducible exact ih9 _ _ _ _ _)
   | (with_reducible exact ih10 _ _ _ _ _)
   | (with_reducible exact impl_FramesGive.mono _ _ _ _ _)
   | (with_reducible exact impl_FramesLeft.mono _ _ _)
   | (with_reducible exact impl_FramesTake.mono _ _ _ _)
   | (with_reducible exact impl_NewFrames.mono _ _)
   | (with_reducible exact spec_DrawFramesRun.mono _ _)
   | (with_reducible exact spec_FramesOk.mono _ _ _)
   | (with_reducible exact spec_FramesTake.mono _ _ _ _)
   | (with_reducible exact LeO.refl _)
   | (with_reducible exact LeO.none _)
   | (with_reducible refine LeO.ite ?_ ?_)
   | (with_reducible refine LeO.bind ?_ (fun _ => ?_))
   | exact ih0 _ _ _ _ _ _
   | exact ih1 _ _ _ _ _ _
   | exact ih2 _ _ _ _ _ _ _ _
   | exact ih3 _ _ _ _ _ _ _ _ _
   | exact ih4 _ _ _ _ _ _ _ _ _
   | exact ih5 _ _ _ _ _ _ _ _ _ _ _
   | exact ih6 _ _ _ _ _ _ _ _ _ _ _
   | exact ih7 _ _ _ _ _ _
   | exact ih8 _ _ _ _ _ _ _
   | exact ih9 _ _ _ _ _
   | exact ih10 _ _ _ _ _
   | exact impl_FramesGive.mono _ _ _ _ _
   | exact impl_FramesLeft.mono _ _ _
   | exact impl_FramesTake.mono _ _ _ _
   | exact impl_NewFrames.mono _ _
   | exact spec_DrawFramesRun.mono _ _
   | exact spec_FramesOk.mono _ _ _
   | exact spec_FramesTake.mono _ _ _ _
   | exact LeO.none _
   | refine LeO.ite ?_ ?_
   | refine LeO.bind ?_ (fun _ => ?_)
  ·intro y0 y1 y2 y3 y4 y5
   unfold laws_FnFramesKept.j1
   repeat' first
   | (with_reducible exact ih0 _ _ _ _ _ _)
   | (with_reducible exact ih1 _ _ _ _ _ _)
   | (with_reducible exact ih2 _ _ _ _ _ _ _ _)
   | (with_reducible exact ih3 _ _ _ _ _ _ _ _ _)
   | (with_reducible exact ih4 _ _ _ _ _ _ _ _ _)
   | (with_reducible exact ih5 _ _ _ _ _ _ _ _ _ _ _)
   | (with_reducible exact ih6 _ _ _ _ _ _ _ _ _ _ _)
   | (with_reducible exact ih7 _ _ _ _ _ _)
   | (with_reducible exact ih8 _ _ _ _ _ _ _)
   | (with_reducible exact ih9 _ _ _ _ _)
   | (with_reducible exact ih10 _ _ _ _ _)
   | (with_reducible exact impl_FramesGive.mono _ _ _ _ _)
   | (with_reducible exact impl_FramesLeft.mono _ _ _)
   | (with_reducible exact impl_FramesTake.mono _ _ _ _)
   | (with_reducible exact impl_NewFrames.mono _ _)
   | (with_reducible exact spec_DrawFramesRun.mono _ _)
   | (with_reducible exact spec_FramesOk.mono _ _ _)
   | (with_reducible exact spec_FramesTake.mono _ _ _ _)
   | (with_reducible exact LeO.refl _)
   | (with_reducible exact LeO.none _)
   | (with_reducible refine LeO.ite ?_ ?_)
   | (with_reducible refine LeO.bind ?_ (fun _ => ?_))
   | exact ih0 _ _ _ _ _ _
   | exact ih1 _ _ _ _ _ _
   | exact ih2 _ _ _ _ _ _ _ _
   | exact ih3 _ _ _ _ _ _ _ _ _
   | exact ih4 _ _ _ _ _ _ _ _ _
   | exact ih5 _ _ _ _ _ _ _ _ _ _ _
   | exact ih6 _ _ _ _ _ _ _ _ _ _ _
   | exact ih7 _ _ _ _ _ _
   | exact ih8 _ _ _ _ _ _ _
   | exact ih9 _ _ _ _ _
   | exact ih10 _ _ _ _ _
   | exact impl_FramesGive.mono _ _ _ _ _
   | exact impl_FramesLeft.mono _ _ _
   | exact impl_FramesTake.mono _ _ _ _
   | exact impl_NewFrames.mono _ _
   | exact spec_DrawFramesRun.mono _ _
   | exact spec_FramesOk.mono _ _ _
   | exact spec_FramesTake.mono _ _ _ _
   | exact LeO.none _
   | refine LeO.ite ?_ ?_
   | refine LeO.bind ?_ (fun _ => ?_)
  ·intro y0 y1 y2 y3 y4 y5 y6 y7
   unfold laws_FnFramesKept.l0
   repeat' first
   | (with_reducible exact ih0 _ _ _ _ _ _)
   | (with_reducible exact ih1 _ _ _ _ _ _)
   | (with_reducible exact ih2 _ _ _ _ _ _ _ _)
   | (with_reducible exact ih3 _ _ _ _ _ _ _ _ _)
   | (with_reducible exact ih4 _ _ _ _ _ _ _ _ _)
   | (with_reducible exact ih5 _ _ _ _ _ _ _ _ _ _ _)
   | (with_reducible exact ih6 _ _ _ _ _ _ _ _ _ _ _)
   | (with_reducible exact ih7 _ _ _ _ _ _)
   | (with_reducible exact ih8 _ _ _ _ _ _ _)
   | (with_reducible exact ih9 _ _ _ _ _)
   | (with_reducible exact ih10 _ _ _ _ _)
   | (with_reducible exact impl_FramesGive.mono _ _ _ _ _)
   | (with_reducible exact impl_FramesLeft.mono _ _ _)
   | (with_reducible exact impl_FramesTake.mono _ _ _ _)
   | (with_reducible exact impl_NewFrames.mono _ _)
   | (with_reducible exact spec_DrawFramesRun.mono _ _)
   | (with_reducible exact spec_FramesOk.mono _ _ _)
   | (with_reducible exact spec_FramesTake.mono _ _ _ _)
   | (with_reducible exact LeO.refl _)
   | (with_reducible exact LeO.none _)
   | (with_reducible refine LeO.ite ?_ ?_)
   | (with_reducible refine LeO.bind ?_ (fun _ => ?_))
   | exact ih0 _ _ _ _ _ _
   | exact ih1 _ _ _ _ _ _
   | exact ih2 _ _ _ _ _ _ _ _
   | exact ih3 _ _ _ _ _ _ _ _ _
   | exact ih4 _ _ _ _ _ _ _ _ _
   | exact ih5 _ _ _ _ _ _ _ _ _ _ _
   | exact ih6 _ _ _ _ _ _ _ _ _ _ _
   | exact ih7 _ _ _ _ _ _
   | exact ih8 _ _ _ _ _ _ _
   | exact ih9 _ _ _ _ _
   | exact ih10 _ _ _ _ _
   | exact impl_FramesGive.mono _ _ _ _ _
   | exact impl_FramesLeft.mono _ _ _
   | exact impl_FramesTake.mono _ _ _ _
   | exact impl_NewFrames.mono _ _
   | exact spec_DrawFramesRun.mono _ _
   | exact spec_FramesOk.mono _ _ _
   | exact spec_FramesTake.mono _ _ _ _
   | exact LeO.none _
   | refine LeO.ite ?_ ?_
   | refine LeO.bind ?_ (fun _ => ?_)
  ·intro y0 y1 y2 y3 y4 y5 y6 y7 y8
   unfold laws_FnFramesKept.j3
   repeat' first
   | (with_reducible exact ih0 _ _ _ _ _ _)
   | (with_reducible exact ih1 _ _ _ _ _ _)
   | (with_reducible exact ih2 _ _ _ _ _ _ _ _)
   | (with_reducible exact ih3 _ _ _ _ _ _ _ _ _)
   | (with_reducible exact ih4 _ _ _ _ _ _ _ _ _)
   | (with_reducible exact ih5 _ _ _ _ _ _ _ _ _ _ _)
   | (with_reducible exact ih6 _ _ _ _ _ _ _ _ _ _ _)
   | (with_reducible exact ih7 _ _ _ _ _ _)
   | (with_reducible exact ih8 _ _ _ _ _ _ _)
   | (with_reducible exact ih9 _ _ _ _ _)
   | (with_reducible exact ih10 _ _ _ _ _)
   | (with_reducible exact impl_FramesGive.mono _ _ _ _ _)
   | (with_reducible exact impl_FramesLeft.mono _ _ _)
   | (with_reducible exact impl_FramesTake.mono _ _ _ _)
   | (with_reducible exact impl_NewFrames.mono _ _)
   | (with_reducible exact spec_DrawFramesRun.mono _ _)
   | (with_reducible exact spec_FramesOk.mono _ _ _)
   | (with_reducible exact spec_FramesTake.mono _ _ _ _)
   | (with_reducible exact LeO.refl _)
   | (with_reducible exact LeO.none _)
   | (with_reducible refine LeO.ite ?_ ?_)
   | (with_reducible refine LeO.bind ?_ (fun _ => ?_))
   | exact ih0 _ _ _ _ _ _
   | exact ih1 _ _ _ _ _ _
   | exact ih2 _ _ _ _ _ _ _ _
   | exact ih3 _ _ _ _ _ _ _ _ _
   | exact ih4 _ _ _ _ _ _ _ _ _
   | exact ih5 _ _ _ _ _ _ _ _ _ _ _
   | exact ih6 _ _ _ _ _ _ _ _ _ _ _
   | exact ih7 _ _ _ _ _ _
   | exact ih8 _ _ _ _ _ _ _
   | exact ih9 _ _ _ _ _
   | exact ih10 _ _ _ _ _
   | exact impl_FramesGive.mono _ _ _ _ _
   | exact impl_FramesLeft.mono _ _ _
   | exact impl_FramesTake.mono _ _ _ _
   | exact impl_NewFrames.mono _ _
   | exact spec_DrawFramesRun.mono _ _
   | exact spec_FramesOk.mono _ _ _
   | exact spec_FramesTake.mono _ _ _ _
   | exact LeO.none _
   | refine LeO.ite ?_ ?_
   | refine LeO.bind ?_ (fun _ => ?_)
  ·intro y0 y1 y2 y3 y4 y5 y6 y7 y8
   unfold laws_FnFramesKept.j4
   repeat' first
   | (with_reducible exact ih0 _ _ _ _ _ _)
   | (with_reducible exact ih1 _ _ _ _ _ _)
   | (with_reducible exact ih2 _ _ _ _ _ _ _ _)
   | (with_reducible exact ih3 _ _ _ _ _ _ _ _ _)
   | (with_reducible exact ih4 _ _ _ _ _ _ _ _ _)
   | (with_reducible exact ih5 _ _ _ _ _ _ _ _ _ _ _)
   | (with_reducible exact ih6 _ _ _ _ _ _ _ _ _ _ _)
   | (with_reducible exact ih7 _ _ _ _ _ _)
   | (with_reducible exact ih8 _ _ _ _ _ _ _)
   | (with_reducible exact ih9 _ _ _ _ _)
   | (with_reducible exact ih10 _ _ _ _ _)
   | (with_reducible exact impl_FramesGive.mono _ _ _ _ _)
   | (with_reducible exact impl_FramesLeft.mono _ _ _)
   | (with_reducible exact impl_FramesTake.mono _ _ _ _)
   | (with_reducible exact impl_NewFrames.mono _ _)
   | (with_reducible exact spec_DrawFramesRun.mono _ _)
   | (with_reducible exact spec_FramesOk.mono _ _ _)
   | (with_reducible exact spec_FramesTake.mono _ _ _ _)
   | (with_reducible exact LeO.refl _)
   | (with_reducible exact LeO.none _)
   | (with_reducible refine LeO.ite ?_ ?_)
   | (with_reducible refine LeO.bind ?_ (fun _ => ?_))
   | exact ih0 _ _ _ _ _ _
   | exact ih1 _ _ _ _ _ _
   | exact ih2 _ _ _ _ _ _ _ _
   | exact ih3 _ _ _ _ _ _ _ _ _
   | exact ih4 _ _ _ _ _ _ _ _ _
   | exact ih5 _ _ _ _ _ _ _ _ _ _ _
   | exact ih6 _ _ _ _ _ _ _ _ _ _ _
   | exact ih7 _ _ _ _ _ _
   | exact ih8 _ _ _ _ _ _ _
   | exact ih9 _ _ _ _ _
   | exact ih10 _ _ _ _ _
   | exact impl_FramesGive.mono _ _ _ _ _
   | exact impl_FramesLeft.mono _ _ _
   | exact impl_FramesTake.mono _ _ _ _
   | exact impl_NewFrames.mono _ _
   | exact spec_DrawFramesRun.mono _ _
   | exact spec_FramesOk.mono _ _ _
   | exact spec_FramesTake.mono _ _ _ _
   | exact LeO.none _
   | refine LeO.ite ?_ ?_
   | refine LeO.bind ?_ (fun _ => ?_)
  ·intro y0 y1 y2 y3 y4 y5 y6 y7 y8 y9 y10
   unfold laws_FnFramesKept.j5
   repeat' first
   | (with_reducible exact ih0 _ _ _ _ _ _)
   | (with_reducible exact ih1 _ _ _ _ _ _)
   | (with_reducible exact ih2 _ _ _ _ _ _ _ _)
   | (with_reducible exact ih3 _ _ _ _ _ _ _ _ _)
   | (with_reducible exact ih4 _ _ _ _ _ _ _ _ _)
   | (with_reducible exact ih5 _ _ _ _ _ _ _ _ _ _ _)
   | (with_reducible exact ih6 _ _ _ _ _ _ _ _ _ _ _)
   | (with_reducible exact ih7 _ _ _ _ _ _)
   | (with_reducible exact ih8 _ _ _ _ _ _ _)
   | (with_reducible exact ih9 _ _ _ _ _)
   | (with_reducible exact ih10 _ _ _ _ _)
   | (with_reducible exact impl_FramesGive.mono _ _ _ _ _)
   | (with_reducible exact impl_FramesLeft.mono _ _ _)
   | (with_reducible exact impl_FramesTake.mono _ _ _ _)
   | (with_reducible exact impl_NewFrames.mono _ _)
   | (with_reducible exact spec_DrawFramesRun.mono _ _)
   | (with_reducible exact spec_FramesOk.mono _ _ _)
   | (with_reducible exact spec_FramesTake.mono _ _ _ _)
   | (with_reducible exact LeO.refl _)
   | (with_reducible exact LeO.none _)
   | (with_reducible refine LeO.ite ?_ ?_)
   | (with_reducible refine LeO.bind ?_ (fun _ => ?_))
   | exact ih0 _ _ _ _ _ _
   | exact ih1 _ _ _ _ _ _
   | exact ih2 _ _ _ _ _ _ _ _
   | exact ih3 _ _ _ _ _ _ _ _ _
   | exact ih4 _ _ _ _ _ _ _ _ _
   | exact ih5 _ _ _ _ _ _ _ _ _ _ _
   | exact ih6 _ _ _ _ _ _ _ _ _ _ _
   | exact ih7 _ _ _ _ _ _
   | exact ih8 _ _ _ _ _ _ _
   | exact ih9 _ _ _ _ _
   | exact ih10 _ _ _ _ _
   | exact impl_FramesGive.mono _ _ _ _ _
   | exact impl_FramesLeft.mono _ _ _
   | exact impl_FramesTake.mono _ _ _ _
   | exact impl_NewFrames.mono _ _
   | exact spec_DrawFramesRun.mono _ _
   | exact spec_FramesOk.mono _ _ _
   | exact spec_FramesTake.mono _ _ _ _
   | exact LeO.none _
   | refine LeO.ite ?_ ?_
   | refine LeO.bind ?_ (fun _ => ?_)
  ·intro y0 y1 y2 y3 y4 y5 y6 y7 y8 y9 y10
   unfold laws_FnFramesKept.l1
   repeat' first
   | (with_reducible exact ih0 _ _ _ _ _ _)
   | (with_reducible exact ih1 _ _ _ _ _ _)
   | (with_reducible exact ih2 _ _ _ _ _ _ _ _)
   | (with_reducible exact ih3 _ _ _ _ _ _ _ _ _)
   | (with_reducible exact ih4 _ _ _ _ _ _ _ _ _)
   | (with_reducible exact ih5 _ _ _ _ _ _ _ _ _ _ _)
   | (with_reducible exact ih6 _ _ _ _ _ _ _ _ _ _ _)
   | (with_reducible exact ih7 _ _ _ _ _ _)
   | (with_reducible exact ih8 _ _ _ _ _ _ _)
   | (with_reducible exact ih9 _ _ _ _ _)
   | (with_reducible exact ih10 _ _ _ _ _)
   | (with_reducible exact impl_FramesGive.mono _ _ _ _ _)
   | (with_reducible exact impl_FramesLeft.mono _ _ _)
   | (with_reducible exact impl_FramesTake.mono _ _ _ _)
   | (with_reducible exact impl_NewFrames.mono _ _)
   | (with_reducible exact spec_DrawFramesRun.mono _ _)
   | (with_reducible exact spec_FramesOk.mono _ _ _)
   | (with_reducible exact spec_FramesTake.mono _ _ _ _)
   | (with_reducible exact LeO.refl _)
   | (with_reducible exact LeO.none _)
   | (with_reducible refine LeO.ite ?_ ?_)
   | (with_reducible refine LeO.bind ?_ (fun _ => ?_))
   | exact ih0 _ _ _ _ _ _
   | exact ih1 _ _ _ _ _ _
   | exact ih2 _ _ _ _ _ _ _ _
   | exact ih3 _ _ _ _ _ _ _ _ _
   | exact ih4 _ _ _ _ _ _ _ _ _
   | exact ih5 _ _ _ _ _ _ _ _ _ _ _
   | exact ih6 _ _ _ _ _ _ _ _ _ _ _
   | exact ih7 _ _ _ _ _ _
   | exact ih8 _ _ _ _ _ _ _
   | exact ih9 _ _ _ _ _
   | exact ih10 _ _ _ _ _
   | exact impl_FramesGive.mono _ _ _ _ _
   | exact impl_FramesLeft.mono _ _ _
   | exact impl_FramesTake.mono _ _ _ _
   | exact impl_NewFrames.mono _ _
   | exact spec_DrawFramesRun.mono _ _
   | exact spec_FramesOk.mono _ _ _
   | exact spec_FramesTake.mono _ _ _ _
   | exact LeO.none _
   | refine LeO.ite ?_ ?_
   | refine LeO.bind ?_ (fun _ => ?_)
  ·intro y0 y1 y2 y3 y4 y5
   unfold laws_FnFramesKept.l2
   repeat' first
   | (with_reducible exact ih0 _ _ _ _ _ _)
   | (with_reducible exact ih1 _ _ _ _ _ _)
   | (with_reducible exact ih2 _ _ _ _ _ _ _ _)
   | (with_reducible exact ih3 _ _ _ _ _ _ _ _ _)
   | (with_reducible exact ih4 _ _ _ _ _ _ _ _ _)
   | (with_reducible exact ih5 _ _ _ _ _ _ _ _ _ _ _)
   | (with_reducible exact ih6 _ _ _ _ _ _ _ _ _ _ _)
   | (with_reducible exact ih7 _ _ _ _ _ _)
   | (with_reducible exact ih8 _ _ _ _ _ _ _)
   | (with_reducible exact ih9 _ _ _ _ _)
   | (with_reducible exact ih10 _ _ _ _ _)
   | (with_reducible exact impl_FramesGive.mono _ _ _ _ _)
   | (with_reducible exact impl_FramesLeft.mono _ _ _)
   | (with_reducible exact impl_FramesTake.mono _ _ _ _)
   | (with_reducible exact impl_NewFrames.mono _ _)
   | (with_reducible exact spec_DrawFramesRun.mono _ _)
   | (with_reducible exact spec_FramesOk.mono _ _ _)
   | (with_reducible exact spec_FramesTake.mono _ _ _ _)
   | (with_reducible exact LeO.refl _)
   | (with_reducible exact LeO.none _)
   | (with_reducible refine LeO.ite ?_ ?_)
   | (with_reducible refine LeO.bind ?_ (fun _ => ?_))
   | exact ih0 _ _ _ _ _ _
   | exact ih1 _ _ _ _ _ _
   | exact ih2 _ _ _ _ _ _ _ _
   | exact ih3 _ _ _ _ _ _ _ _ _
   | exact ih4 _ _ _ _ _ _ _ _ _
   | exact ih5 _ _ _ _ _ _ _ _ _ _ _
   | exact ih6 _ _ _ _ _ _ _ _ _ _ _
   | exact ih7 _ _ _ _ _ _
   | exact ih8 _ _ _ _ _ _ _
   | exact ih9 _ _ _ _ _
   | exact ih10 _ _ _ _ _
   | exact impl_FramesGive.mono _ _ _ _ _
   | exact impl_FramesLeft.mono _ _ _
   | exact impl_FramesTake.mono _ _ _ _
   | exact impl_NewFrames.mono _ _
   | exact spec_DrawFramesRun.mono _ _
   | exact spec_FramesOk.mono _ _ _
   | exact spec_FramesTake.mono _ _ _ _
   | exact LeO.none _
   | refine LeO.ite ?_ ?_
   | refine LeO.bind ?_ (fun _ => ?_)
  ·intro y0 y1 y2 y3 y4 y5 y6
   unfold laws_FnFramesKept.l3
   repeat' first
   | (with_reducible exact ih0 _ _ _ _ _ _)
   | (with_reducible exact ih1 _ _ _ _ _ _)
   | (with_reducible exact ih2 _ _ _ _ _ _ _ _)
   | (with_reducible exact ih3 _ _ _ _ _ _ _ _ _)
   | (with_reducible exact ih4 _ _ _ _ _ _ _ _ _)
   | (with_reducible exact ih5 _ _ _ _ _ _ _ _ _ _ _)
   | (with_reducible exact ih6 _ _ _ _ _ _ _ _ _ _ _)
   | (with_reducible exact ih7 _ _ _ _ _ _)
   | (with_reducible exact ih8 _ _ _ _ _ _ _)
   | (with_reducible exact ih9 _ _ _ _ _)
   | (with_reducible exact ih10 _ _ _ _ _)
   | (with_reducible exact impl_FramesGive.mono _ _ _ _ _)
   | (with_reducible exact impl_FramesLeft.mono _ _ _)
   | (with_reducible exact impl_FramesTake.mono _ _ _ _)
   | (with_reducible exact impl_NewFrames.mono _ _)
   | (with_reducible exact spec_DrawFramesRun.mono _ _)
   | (with_reducible exact spec_FramesOk.mono _ _ _)
   | (with_reducible exact spec_FramesTake.mono _ _ _ _)
   | (with_reducible exact LeO.refl _)
   | (with_reducible exact LeO.none _)
   | (with_reducible refine LeO.ite ?_ ?_)
   | (with_reducible refine LeO.bind ?_ (fun _ => ?_))
   | exact ih0 _ _ _ _ _ _
   | exact ih1 _ _ _ _ _ _
   | exact ih2 _ _ _ _ _ _ _ _
   | exact ih3 _ _ _ _ _ _ _ _ _
   | exact ih4 _ _ _ _ _ _ _ _ _
   | exact ih5 _ _ _ _ _ _ _ _ _ _ _
   | exact ih6 _ _ _ _ _ _ _ _ _ _ _
   | exact ih7 _ _ _ _ _ _
   | exact ih8 _ _ _ _ _ _ _
   | exact ih9 _ _ _ _ _
   | exact ih10 _ _ _ _ _
   | exact impl_FramesGive.mono _ _ _ _ _
   | exact impl_FramesLeft.mono _ _ _
   | exact impl_FramesTake.mono _ _ _ _
   | exact impl_NewFrames.mono _ _
   | exact spec_DrawFramesRun.mono _ _
   | exact spec_FramesOk.mono _ _ _
   | exact spec_FramesTake.mono _ _ _ _
   | exact LeO.none _
   | refine LeO.ite ?_ ?_
   | refine LeO.bind ?_ (fun _ => ?_)
  ·intro y0 y1 y2 y3 y4
   unfold laws_FnFramesKept.j9
   repeat' first
   | (with_reducible exact ih0 _ _ _ _ _ _)
   | (with_reducible exact ih1 _ _ _ _ _ _)
   | (with_reducible exact ih2 _ _ _ _ _ _ _ _)
   | (with_reducible exact ih3 _ _ _ _ _ _ _ _ _)
   | (with_reducible exact ih4 _ _ _ _ _ _ _ _ _)
   | (with_reducible exact ih5 _ _ _ _ _ _ _ _ _ _ _)
   | (with_reducible exact ih6 _ _ _ _ _ _ _ _ _ _ _)
   | (with_reducible exact ih7 _ _ _ _ _ _)
   | (with_reducible exact ih8 _ _ _ _ _ _ _)
   | (with_reducible exact ih9 _ _ _ _ _)
   | (with_reducible exact ih10 _ _ _ _ _)
   | (with_reducible exact impl_FramesGive.mono _ _ _ _ _)
   | (with_reducible exact impl_FramesLeft.mono _ _ _)
   | (with_reducible exact impl_FramesTake.mono _ _ _ _)
   | (with_reducible exact impl_NewFrames.mono _ _)
   | (with_reducible exact spec_DrawFramesRun.mono _ _)
   | (with_reducible exact spec_FramesOk.mono _ _ _)
   | (with_reducible exact spec_FramesTake.mono _ _ _ _)
   | (with_reducible exact LeO.refl _)
   | (with_reducible exact LeO.none _)
   | (with_reducible refine LeO.ite ?_ ?_)
   | (with_reducible refine LeO.bind ?_ (fun _ => ?_))
   | exact ih0 _ _ _ _ _ _
   | exact ih1 _ _ _ _ _ _
   | exact ih2 _ _ _ _ _ _ _ _
   | exact ih3 _ _ _ _ _ _ _ _ _
   | exact ih4 _ _ _ _ _ _ _ _ _
   | exact ih5 _ _ _ _ _ _ _ _ _ _ _
   | exact ih6 _ _ _ _ _ _ _ _ _ _ _
   | exact ih7 _ _ _ _ _ _
   | exact ih8 _ _ _ _ _ _ _
   | exact ih9 _ _ _ _ _
   | exact ih10 _ _ _ _ _
   | exact impl_FramesGive.mono _ _ _ _ _
   | exact impl_FramesLeft.mono _ _ _
   | exact impl_FramesTake.mono _ _ _ _
   | exact impl_NewFrames.mono _ _
   | exact spec_DrawFramesRun.mono _ _
   | exact spec_FramesOk.mono _ _ _
   | exact spec_FramesTake.mono _ _ _ _
   | exact LeO.none _
   | refine LeO.ite ?_ ?_
   | refine LeO.bind ?_ (fun _ => ?_)
  ·intro y0 y1 y2 y3 y4
   unfold laws_FnFramesKept.l4
   repeat' first
   | (with_reducible exact ih0 _ _ _ _ _ _)
   | (with_reducible exact ih1 _ _ _ _ _ _)
   | (with_reducible exact ih2 _ _ _ _ _ _ _ _)
   | (with_reducible exact ih3 _ _ _ _ _ _ _ _ _)
   | (with_reducible exact ih4 _ _ _ _ _ _ _ _ _)
   | (with_reducible exact ih5 _ _ _ _ _ _ _ _ _ _ _)
   | (with_reducible exact ih6 _ _ _ _ _ _ _ _ _ _ _)
   | (with_reducible exact ih7 _ _ _ _ _ _)
   | (with_reducible exact ih8 _ _ _ _ _ _ _)
   | (with_reducible exact ih9 _ _ _ _ _)
   | (with_reducible exact ih10 _ _ _ _ _)
   | (with_reducible exact impl_FramesGive.mono _ _ _ _ _)
   | (with_reducible exact impl_FramesLeft.mono _ _ _)
   | (with_reducible exact impl_FramesTake.mono _ _ _ _)
   | (with_reducible exact impl_NewFrames.mono _ _)
   | (with_reducible exact spec_DrawFramesRun.mono _ _)
   | (with_reducible exact spec_FramesOk.mono _ _ _)
   | (with_reducible exact spec_FramesTake.mono _ _ _ _)
   | (with_reducible exact LeO.refl _)
   | (with_reducible exact LeO.none _)
   | (with_reducible refine LeO.ite ?_ ?_)
   | (with_reducible refine LeO.bind ?_ (fun _ => ?_))
   | exact ih0 _ _ _ _ _ _
   | exact ih1 _ _ _ _ _ _
   | exact ih2 _ _ _ _ _ _ _ _
   | exact ih3 _ _ _ _ _ _ _ _ _
   | exact ih4 _ _ _ _ _ _ _ _ _
   | exact ih5 _ _ _ _ _ _ _ _ _ _ _
   | exact ih6 _ _ _ _ _ _ _ _ _ _ _
   | exact ih7 _ _ _ _ _ _
   | exact ih8 _ _ _ _ _ _ _
   | exact ih9 _ _ _ _ _
   | exact ih10 _ _ _ _ _
   | exact impl_FramesGive.mono _ _ _ _ _
   | exact impl_FramesLeft.mono _ _ _
   | exact impl_FramesTake.mono _ _ _ _
   | exact impl_NewFrames.mono _ _
   | exact spec_DrawFramesRun.mono _ _
   | exact spec_FramesOk.mono _ _ _
   | exact spec_FramesTake.mono _ _ _ _
   | exact LeO.none _
   | refine LeO.ite ?_ ?_
   | refine LeO.bind ?_ (fun _ => ?_)
theorem laws_FnFramesKept.mono : ∀ a0 k, LeO (laws_FnFramesKept.f k a0) (laws_FnFramesKept.f (k + 1) a0) := by
 intro a0 k
 obtain ⟨ih0, ih1, ih2, ih3, ih4, ih5, ih6, ih7, ih8, ih9, ih10⟩ := laws_FnFramesKept.mono_l k
 unfold laws_FnFramesKept.f
 repeat' first
   | (with_reducible exact ih0 _ _ _ _ _ _)
   | (with_reducible exact ih1 _ _ _ _ _ _)
   | (with_reducible exact ih2 _ _ _ _ _ _ _ _)
   | (with_reducible exact ih3 _ _ _ _ _ _ _ _ _)
   | (with_reducible exact ih4 _ _ _ _ _ _ _ _ _)
   | (with_reducible exact ih5 _ _ _ _ _ _ _ _ _ _ _)
   | (with_reducible exact ih6 _ _ _ _ _ _ _ _ _ _ _)
   | (with_reducible exact ih7 _ _ _ _ _ _)
   | (with_reducible exact ih8 _ _ _ _ _ _ _)
   | (with_reducible exact ih9 _ _ _ _ _)
   | (with_reducible exact ih10 _ _ _ _ _)
   | (with_reducible exact impl_FramesGive.mono _ _ _ _ _)
   | (with_reducible exact impl_FramesLeft.mono _ _ _)
   | (with_reducible exact impl_FramesTake.mono _ _ _ _)
   | (with_reducible exact impl_NewFrames.mono _ _)
   | (with_reducible exact spec_DrawFramesRun.mono _ _)
   | (with_reducible exact spec_FramesOk.mono _ _ _)
   | (with_reducible exact spec_FramesTake.mono _ _ _ _)
   | (with_reducible exact LeO.refl _)
   | (with_reducible exact LeO.none _)
   | (with_reducible refine LeO.ite ?_ ?_)
   | (with_reducible refine LeO.bind ?_ (fun _ => ?_))
   | exact ih0 _ _ _ _ _ _
   | exact ih1 _ _ _ _ _ _
   | exact ih2 _ _ _ _ _ _ _ _
   | exact ih3 _ _ _ _ _ _ _ _ _
   | exact ih4 _ _ _ _ _ _ _ _ _
   | exact ih5 _ _ _ _ _ _ _ _ _ _ _
   | exact ih6 _ _ _ _ _ _ _ _ _ _ _
   | exact ih7 _ _ _ _ _ _
   | exact ih8 _ _ _ _ _ _ _
   | exact ih9 _ _ _ _ _
   | exact ih10 _ _ _ _ _
   | exact impl_FramesGive.mono _ _ _ _ _
   | exact impl_FramesLeft.mono _ _ _
   | exact impl_FramesTake.mono _ _ _ _
   | exact impl_NewFrames.mono _ _
   | exact spec_DrawFramesRun.mono _ _
   | exact spec_FramesOk.mono _ _ _
   | exact spec_FramesTake.mono _ _ _ _
   | exact LeO.none _
   | refine LeO.ite ?_ ?_
   | refine LeO.bind ?_ (fun _ => ?_)
def laws_FnFramesKept.T15 : Bool × List (List Nat × List Nat) := (true, [([], []), ([], []), ([], []), ([1, 2], [1, 2]), ([3], [3]), ([4], [4]), ([0, 5], [0, 5]), ([6], [6]), ([7], [7]), ([7], [7]), ([], []), ([10, 8, 6, 0, 1, 2, 3, 4, 5, 6, 7, 8, 10], [8, 10]), ([9, 11, 0, 1, 2, 3, 4, 5, 6, 7, 8, 9, 10, 11], [9])])
def laws_FnFramesKept.B15 : List Nat := [0, 0, 0, 6, 14, 30, 63, 127, 255, 255, 0, 1535, 4095]
theorem laws_FnFramesKept.tab15 : rtab .any (opsOf Try.f13 15) = laws_FnFramesKept.T15 := by kernel_rfl
theorem laws_FnFramesKept.bits15 : waitsOk laws_FnFramesKept.T15.2 laws_FnFramesKept.B15 = true := by kernel_rfl
def laws_FnFramesKept.T16 : Bool × List (List Nat × List Nat) := (true, [([], []), ([], []), ([], []), ([1, 2], [1, 2]), ([3], [3]), ([4], [4]), ([0, 5], [0, 5]), ([6], [6]), ([7], [7]), ([7], [7]), ([], []), ([10, 8, 6, 0, 1, 2, 3, 4, 5, 6, 7, 8, 10], [8, 10]), ([9, 11, 0, 1, 2, 3, 4, 5, 6, 7, 8, 9, 10, 11], [9])])
def laws_FnFramesKept.B16 : List Nat := [0, 0, 0, 6, 14, 30, 63, 127, 255, 255, 0, 1535, 4095]
theorem laws_FnFramesKept.tab16 : rtab .any (opsOf Try.f13 16) = laws_FnFramesKept.T16 := by kernel_rfl
theorem laws_FnFramesKept.bits16 : waitsOk laws_FnFramesKept.T16.2 laws_FnFramesKept.B16 = true := by kernel_rfl
def laws_FnFramesKept.T27 : Bool × List (List Nat × List Nat) := (true, [([], []), ([], []), ([0, 1], [0, 1]), ([2], [2]), ([3], [3]), ([], []), ([], []), ([5, 6], [5, 6]), ([7], [7]), ([8], [8]), ([9], [9]), ([10], [10]), ([4, 11], [4, 11]), ([12, 0, 1, 2, 3, 4, 5, 6, 7, 8, 9, 10, 11, 12], [12])])
def laws_FnFramesKept.B27 : List Nat := [0, 0, 3, 7, 15, 0, 0, 96, 224, 480, 992, 2016, 4095, 8191]
theorem laws_FnFramesKept.tab27 : rtab .any (opsOf Try.f13 27) = laws_FnFramesKept.T27 := by kernel_rfl
theorem laws_FnFramesKept.bits27 : waitsOk laws_FnFramesKept.T27.2 laws_FnFramesKept.B27 = true := by kernel_rfl
def laws_FnFramesKept.T40 : Bool × List (List Nat × List Nat) := (true, [([], []), ([], []), ([], []), ([1, 2], [1, 2]), ([3], [3]), ([4], [4]), ([], []), ([], []), ([6, 7], [6, 7]), ([8], [8]), ([9], [9]), ([0, 5, 10], [0, 5, 10]), ([11], [11]), ([12], [12]), ([12], [12]), ([], []), ([15, 13, 11, 0, 1, 2, 3, 4, 5, 6, 7, 8, 9, 10, 11, 12, 13, 15], [13, 15]), ([14, 16, 0, 1, 2, 3, 4, 5, 6, 7, 8, 9, 10, 11, 12, 13, 14, 15, 16], [14])])
def laws_FnFramesKept.B40 : List Nat := [0, 0, 0, 6, 14, 30, 0, 0, 192, 448, 960, 2047, 4095, 8191, 8191, 0, 49151, 131071]
theorem laws_FnFramesKept.tab40 : rtab .any (opsOf Try.f13 40) = laws_FnFramesKept.T40 := by kernel_rfl
theorem laws_FnFramesKept.bits40 : waitsOk laws_FnFramesKept.T40.2 laws_FnFramesKept.B40 = true := by kernel_rfl
def laws_FnFramesKept.T51 : Bool × List (List Nat × List Nat) := (true, [([], []), ([0], [0]), ([], []), ([1, 2], [1, 2]), ([3], [3]), ([], []), ([5], [5]), ([], []), ([6, 7], [6, 7]), ([8], [8]), ([4, 9], [4, 9])])
def laws_FnFramesKept.B51 : List Nat := [0, 1, 0, 7, 15, 0, 32, 0, 224, 480, 1023]
theorem laws_FnFramesKept.tab51 : rtab .any (opsOf Try.f13 51) = laws_FnFramesKept.T51 := by kernel_rfl
theorem laws_FnFramesKept.bits51 : waitsOk laws_FnFramesKept.T51.2 laws_FnFramesKept.B51 = true := by kernel_rfl

end Go.Proofs.Ytmjdmaomakkhgaa.PFnFramesKept
