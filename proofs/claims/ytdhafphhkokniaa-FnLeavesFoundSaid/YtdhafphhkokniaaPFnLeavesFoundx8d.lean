-- Written by a program of this session out of the translation. Not trusted: Lean checks it.
import Derived.Test.YtdhafphhkokniaaPFnLeavesFoundx0
import Derived.Test.YtdhafphhkokniaaPFnLeavesFoundx3
import Derived.Test.YtdhafphhkokniaaPFnLeavesFoundx4
import Derived.Test.YtdhafphhkokniaaPFnLeavesFoundx6
import Derived.Test.YtdhafphhkokniaaPFnLeavesFoundx7
namespace Go.Proofs.Ytdhafphhkokniaa.PFnLeavesFound
open Go.RowKit Go.Proofs.YtdhafphhkokniaaW.PrintWords Go.Proofs.YtdhafphhkokniaaW.PrintLast Go.Proofs.YtdhafphhkokniaaW.PrintMore
attribute [local go_sem] max2_int min2_int max_two min_two max_three min_three max_four min_four   -- for this text's walks alone
set_option linter.unusedVariables false
set_option linter.unusedSimpArgs false
theorem Z8_43 {P : Prop} (h : P := by have := HK1.out; have := HJ14.out; have := HK3.out; have := HJ28.out; have := HJ33.out; first | omega | exact Nat.le_refl _) : P := h
theorem Z8_42 {P : Prop} (h : P := by have := HK1.out; have := HJ14.out; have := HK3.out; have := HJ28.out; have := HJ33.out; have := HJ44.out; have := HJ48.out; have := HJ53.out; have := HJ81.out; first | omega | exact Nat.le_refl _) : P := h
theorem Z8_41 {P : Prop} (h : P := by have := HK1.out; have := HJ14.out; have := HK3.out; have := HJ28.out; first | omega | exact Nat.le_refl _) : P := h
theorem Z8_40 {P : Prop} (h : P := by have := HK1.out; have := HJ14.out; have := HK3.out; have := HJ28.out; have := HJ33.out; have := HJ44.out; have := HJ48.out; have := HJ53.out; have := HJ81.out; have := HJ95.out; first | omega | exact Nat.le_refl _) : P := h
theorem Z8_39 {P : Prop} (h : P := by have := HK1.out; have := HJ14.out; have := HK3.out; have := HJ28.out; have := HJ33.out; have := HJ44.out; first | omega | exact Nat.le_refl _) : P := h
theorem Z8_38 {P : Prop} (h : P := by rw [hg]; exact (keep_size (w := w) (g := g) (row := none) Z8_1)) : P := h
theorem Z8_37 {P : Prop} (h : P := by have := HK1.out; have := HJ14.out; have := HK3.out; have := HJ28.out; have := HJ33.out; have := HJ44.out; have := HJ48.out; first | omega | exact Nat.le_refl _) : P := h
theorem Z8_36 {P : Prop} (h : P := by have := HK1.out; have := HJ14.out; have := HK3.out; have := HJ28.out; have := HJ33.out; have := HJ44.out; have := HJ48.out; have := HJ53.out; first | omega | exact Nat.le_refl _) : P := h
theorem Z8_35 {P : Prop} (h : P := by first | (go_simp; done) | (go_simp; rfl)) : P := h
theorem Z8_34 {P : Prop} (h : P := by rw [hg]; exact Nat.ne_of_gt (blk_lt (g := gb298) (o := .cells #[.bool x299000_81, .bool x299001_81, .bool x299002_81, .bool x299003_81, .bool x299004_81, .bool x299005_81, .bool x299006_81, .bool x299007_81, .int .i64 x299008_81] 27 (0, 0)) Z8_6)) : P := h
theorem Z8_33 {P : Prop} (h : P := by rw [hg]; exact Nat.ne_of_lt (blk_lt (g := gb298) (o := .cells #[.bool x299000_81, .bool x299001_81, .bool x299002_81, .bool x299003_81, .bool x299004_81, .bool x299005_81, .bool x299006_81, .bool x299007_81, .int .i64 x299008_81] 27 (0, 0)) Z8_6)) : P := h
theorem Z8_32 {P : Prop} (h : P := by decide) : P := h
theorem Z8_31 {P : Prop} (h : P := by first | (with_reducible assumption) | assumption) : P := h
theorem Z8_30 {P : Prop} (h : P := by as_aux_lemma => kernel_rfl) : P := h
theorem Z8_29 {P : Prop} (h : P := by rw [hg]; exact Nat.ne_of_gt (IsS116.lt (show IsS116 w0 _ g s0_0 x1001_105 x1002_105 from by repeat (first | (with_reducible first | exact HI0.out | apply IsS116.alloc | apply IsS116.drewN | apply IsS116.drew | apply IsS116.set_1 | apply IsS116.set_2 | refine IsS116.far ?_ NB0_298.out _) | exact HI0.out)))) : P := h
theorem Z8_28 {P : Prop} (h : P := by rw [hg]; exact Nat.ne_of_lt (IsS116.lt (show IsS116 w0 _ g s0_0 x1001_105 x1002_105 from by repeat (first | (with_reducible first | exact HI0.out | apply IsS116.alloc | apply IsS116.drewN | apply IsS116.drew | apply IsS116.set_1 | apply IsS116.set_2 | refine IsS116.far ?_ NB0_298.out _) | exact HI0.out)))) : P := h
theorem Z8_27 {P : Prop} (h : P := by (with_reducible repeat (first | apply Kd.R_alloc | apply Kd.R_drewN | apply Kd.R_drew)); exact Kd.R_mono HO_6.out (fun _ hk => hk.2)) : P := h
theorem Z8_26 {P : Prop} (h : P := by (with_reducible repeat (first | apply Kd.R_alloc | apply Kd.R_drewN | apply Kd.R_drew)); exact Kd.R_mono HO304.out (fun _ hk => hk.2)) : P := h
theorem Z8_25 {P : Prop} (h : P := by (with_reducible repeat (first | apply Kd.R_alloc | apply Kd.R_drewN | apply Kd.R_drew)); exact (Kd.R_mono (Kd.R_far (p := ⟨gb348, 8, none⟩) (Kd.R_far (p := ⟨gb348, 7, none⟩) (Kd.R_far (p := ⟨gb348, 6, none⟩) (Kd.R_far (p := ⟨gb348, 5, none⟩) (Kd.R_far (p := ⟨gb348, 4, none⟩) (Kd.R_far (p := ⟨gb348, 3, none⟩) (Kd.R_far (p := ⟨gb348, 2, none⟩) (Kd.R_far (p := ⟨gb348, 1, none⟩) (Kd.R_far (p := ⟨gb348, 0, none⟩) (Kd.R_types HO_6.out BK348.out (by decide)) (fun _ hk => hk.2) (.bool t338)) (fun _ hk => hk.2) (.bool t339)) (fun _ hk => hk.2) (.bool t340)) (fun _ hk => hk.2) (.bool t341)) (fun _ hk => hk.2) (.bool t342)) (fun _ hk => hk.2) (.bool t343)) (fun _ hk => hk.2) (.bool t344)) (fun _ hk => hk.2) (.bool t345)) (fun _ hk => hk.2) (.int .i64 t346)) (fun _ h_ => h_.1))) : P := h
theorem Z8_24 {P : Prop} (h : P := by (with_reducible repeat (first | apply Kd.R_alloc | apply Kd.R_drewN | apply Kd.R_drew)); exact (Kd.R_mono (Kd.R_far (p := ⟨gb348, 8, none⟩) (Kd.R_far (p := ⟨gb348, 7, none⟩) (Kd.R_far (p := ⟨gb348, 6, none⟩) (Kd.R_far (p := ⟨gb348, 5, none⟩) (Kd.R_far (p := ⟨gb348, 4, none⟩) (Kd.R_far (p := ⟨gb348, 3, none⟩) (Kd.R_far (p := ⟨gb348, 2, none⟩) (Kd.R_far (p := ⟨gb348, 1, none⟩) (Kd.R_far (p := ⟨gb348, 0, none⟩) (Kd.R_types HO_5.out BK348.out (by decide)) (fun _ hk => hk.2) (.bool t338)) (fun _ hk => hk.2) (.bool t339)) (fun _ hk => hk.2) (.bool t340)) (fun _ hk => hk.2) (.bool t341)) (fun _ hk => hk.2) (.bool t342)) (fun _ hk => hk.2) (.bool t343)) (fun _ hk => hk.2) (.bool t344)) (fun _ hk => hk.2) (.bool t345)) (fun _ hk => hk.2) (.int .i64 t346)) (fun _ h_ => h_.1))) : P := h
theorem Z8_23 {P : Prop} (h : P := by (with_reducible repeat (first | apply Kd.R_alloc | apply Kd.R_drewN | apply Kd.R_drew)); exact (Kd.R_mono (Kd.R_far (p := ⟨gb298, 8, none⟩) (Kd.R_far (p := ⟨gb298, 7, none⟩) (Kd.R_far (p := ⟨gb298, 6, none⟩) (Kd.R_far (p := ⟨gb298, 5, none⟩) (Kd.R_far (p := ⟨gb298, 4, none⟩) (Kd.R_far (p := ⟨gb298, 3, none⟩) (Kd.R_far (p := ⟨gb298, 2, none⟩) (Kd.R_far (p := ⟨gb298, 1, none⟩) (Kd.R_far (p := ⟨gb298, 0, none⟩) (Kd.R_types HO_6.out BK298.out (by decide)) (fun _ hk => hk.2) (.bool true)) (fun _ hk => hk.2) (.bool false)) (fun _ hk => hk.2) (.bool false)) (fun _ hk => hk.2) (.bool false)) (fun _ hk => hk.2) (.bool false)) (fun _ hk => hk.2) (.bool false)) (fun _ hk => hk.2) (.bool false)) (fun _ hk => hk.2) (.bool t294)) (fun _ hk => hk.2) (.int .i64 (wrap64 (1 + t310)))) (fun _ h_ => h_.1))) : P := h
theorem Z8_22 {P : Prop} (h : P := by (with_reducible repeat (first | apply Kd.R_alloc | apply Kd.R_drewN | apply Kd.R_drew)); exact (Kd.R_mono (Kd.R_far (p := ⟨gb298, 8, none⟩) (Kd.R_far (p := ⟨gb298, 7, none⟩) (Kd.R_far (p := ⟨gb298, 6, none⟩) (Kd.R_far (p := ⟨gb298, 5, none⟩) (Kd.R_far (p := ⟨gb298, 4, none⟩) (Kd.R_far (p := ⟨gb298, 3, none⟩) (Kd.R_far (p := ⟨gb298, 2, none⟩) (Kd.R_far (p := ⟨gb298, 1, none⟩) (Kd.R_far (p := ⟨gb298, 0, none⟩) (Kd.R_types HO_5.out BK298.out (by decide)) (fun _ hk => hk.2) (.bool true)) (fun _ hk => hk.2) (.bool false)) (fun _ hk => hk.2) (.bool false)) (fun _ hk => hk.2) (.bool false)) (fun _ hk => hk.2) (.bool false)) (fun _ hk => hk.2) (.bool false)) (fun _ hk => hk.2) (.bool false)) (fun _ hk => hk.2) (.bool t294)) (fun _ hk => hk.2) (.int .i64 (wrap64 (1 + t310)))) (fun _ h_ => h_.1))) : P := h
theorem Z8_21 {P : Prop} (h : P := by repeat (first | (with_reducible first | exact HB.out | apply below_alloc | apply pw_below_drewN | apply below_drew1 | refine below_set ?_ (IsS116.ge HI0.out) | refine below_set ?_ GE298.out | refine below_set ?_ GE348.out) | exact HB.out)) : P := h
theorem Z8_20 {P : Prop} (h : P := by repeat (first | (with_reducible first | exact HI0.out | apply IsS116.alloc | apply IsS116.drewN | apply IsS116.drew | apply IsS116.set_1 | apply IsS116.set_2 | refine IsS116.far ?_ NB0_298.out _ | refine IsS116.far ?_ NB0_348.out _) | exact HI0.out)) : P := h
theorem Z8_19 {P : Prop} (h : P := by (with_reducible repeat (first | apply Kd.R_alloc | apply Kd.R_drewN | apply Kd.R_drew)); exact HO304.out) : P := h
theorem Z8_18 {P : Prop} (h : P := by (with_reducible repeat (first | apply blk_drewN | apply blk_drew | apply blk_alloc)); refine blk_far ?_ NB298_348.out _; (with_reducible repeat (first | apply blk_drewN | apply blk_drew | apply blk_alloc)); refine blk_far ?_ NB298_348.out _; (with_reducible repeat (first | apply blk_drewN | apply blk_drew | apply blk_alloc)); refine blk_far ?_ NB298_348.out _; (with_reducible repeat (first | apply blk_drewN | apply blk_drew | apply blk_alloc)); refine blk_far ?_ NB298_348.out _; (with_reducible repeat (first | apply blk_drewN | apply blk_drew | apply blk_alloc)); refine blk_far ?_ NB298_348.out _; (with_reducible repeat (first | apply blk_drewN | apply blk_drew | apply blk_alloc)); refine blk_far ?_ NB298_348.out _; (with_reducible repeat (first | apply blk_drewN | apply blk_drew | apply blk_alloc)); refine blk_far ?_ NB298_348.out _; (with_reducible repeat (first | apply blk_drewN | apply blk_drew | apply blk_alloc)); refine blk_far ?_ NB298_348.out _; (with_reducible repeat (first | apply blk_drewN | apply blk_drew | apply blk_alloc)); refine blk_far ?_ NB298_348.out _; (with_reducible repeat (first | apply blk_drewN | apply blk_drew | apply blk_alloc)); exact BK298.out) : P := h
theorem Z8_17 {P : Prop} (h : P := by repeat (first | (with_reducible first | exact HK.out | apply KeepBut.set_ | apply keep_drewN | apply keep_drew | apply keep_alloc | refine keep_far ?_ GW298.out _ | refine keep_far ?_ GW348.out _) | exact HK.out)) : P := h
theorem Z8_16 {P : Prop} (h : P := by (with_reducible repeat (first | apply Kd.R_alloc | apply Kd.R_drewN | apply Kd.R_drew)); exact Kd.R_mono (Kd.R_far (p := ⟨gb348, 8, none⟩) (Kd.R_far (p := ⟨gb348, 7, none⟩) (Kd.R_far (p := ⟨gb348, 6, none⟩) (Kd.R_far (p := ⟨gb348, 5, none⟩) (Kd.R_far (p := ⟨gb348, 4, none⟩) (Kd.R_far (p := ⟨gb348, 3, none⟩) (Kd.R_far (p := ⟨gb348, 2, none⟩) (Kd.R_far (p := ⟨gb348, 1, none⟩) (Kd.R_far (p := ⟨gb348, 0, none⟩) (Kd.R_types HO_6.out BK348.out (by decide)) (fun _ hk => hk.2) (.bool t338)) (fun _ hk => hk.2) (.bool t339)) (fun _ hk => hk.2) (.bool t340)) (fun _ hk => hk.2) (.bool t341)) (fun _ hk => hk.2) (.bool t342)) (fun _ hk => hk.2) (.bool t343)) (fun _ hk => hk.2) (.bool t344)) (fun _ hk => hk.2) (.bool t345)) (fun _ hk => hk.2) (.int .i64 t346)) (fun _ hk => trivial)) : P := h
theorem Z8_15 {P : Prop} (h : P := by have := HK1.out; have := HJ14.out; have := HK3.out; have := HJ28.out; have := HJ33.out; have := HJ44.out; have := HJ48.out; have := HJ53.out; have := HJ81.out; have := HJ95.out; have := HJ105.out; omega) : P := h
theorem Z8_14 {P : Prop} (h : P := by (with_reducible repeat (first | apply blk_drewN | apply blk_drew | apply blk_alloc)); refine blk_put (cs := #[.bool t338, .bool t339, .bool t340, .bool t341, .bool t342, .bool t343, .bool t344, .bool t345, .int .i64 0]) ?_ 8 _ rfl; (with_reducible repeat (first | apply blk_drewN | apply blk_drew | apply blk_alloc)); refine blk_put (cs := #[.bool t338, .bool t339, .bool t340, .bool t341, .bool t342, .bool t343, .bool t344, .bool false, .int .i64 0]) ?_ 7 _ rfl; (with_reducible repeat (first | apply blk_drewN | apply blk_drew | apply blk_alloc)); refine blk_put (cs := #[.bool t338, .bool t339, .bool t340, .bool t341, .bool t342, .bool t343, .bool false, .bool false, .int .i64 0]) ?_ 6 _ rfl; (with_reducible repeat (first | apply blk_drewN | apply blk_drew | apply blk_alloc)); refine blk_put (cs := #[.bool t338, .bool t339, .bool t340, .bool t341, .bool t342, .bool false, .bool false, .bool false, .int .i64 0]) ?_ 5 _ rfl; (with_reducible repeat (first | apply blk_drewN | apply blk_drew | apply blk_alloc)); refine blk_put (cs := #[.bool t338, .bool t339, .bool t340, .bool t341, .bool false, .bool false, .bool false, .bool false, .int .i64 0]) ?_ 4 _ rfl; (with_reducible repeat (first | apply blk_drewN | apply blk_drew | apply blk_alloc)); refine blk_put (cs := #[.bool t338, .bool t339, .bool t340, .bool false, .bool false, .bool false, .bool false, .bool false, .int .i64 0]) ?_ 3 _ rfl; (with_reducible repeat (first | apply blk_drewN | apply blk_drew | apply blk_alloc)); refine blk_put (cs := #[.bool t338, .bool t339, .bool false, .bool false, .bool false, .bool false, .bool false, .bool false, .int .i64 0]) ?_ 2 _ rfl; (with_reducible repeat (first | apply blk_drewN | apply blk_drew | apply blk_alloc)); refine blk_put (cs := #[.bool t338, .bool false, .bool false, .bool false, .bool false, .bool false, .bool false, .bool false, .int .i64 0]) ?_ 1 _ rfl; (with_reducible repeat (first | apply blk_drewN | apply blk_drew | apply blk_alloc)); refine blk_put (cs := #[.bool false, .bool false, .bool false, .bool false, .bool false, .bool false, .bool false, .bool false, .int .i64 0]) ?_ 0 _ rfl; (with_reducible repeat (first | apply blk_drewN | apply blk_drew | apply blk_alloc)); exact BK348.out) : P := h
theorem Z8_13 {P : Prop} (h : P := by (with_reducible repeat (first | apply blk_drewN | apply blk_drew | apply blk_alloc)); refine blk_put (cs := #[.bool true, .bool false, .bool false, .bool false, .bool false, .bool false, .bool false, .bool t294, .int .i64 x299008_53]) ?_ 8 _ rfl; (with_reducible repeat (first | apply blk_drewN | apply blk_drew | apply blk_alloc)); refine blk_put (cs := #[.bool true, .bool false, .bool false, .bool false, .bool false, .bool false, .bool false, .bool t294, .int .i64 x299008_53]) ?_ 7 _ rfl; (with_reducible repeat (first | apply blk_drewN | apply blk_drew | apply blk_alloc)); refine blk_put (cs := #[.bool true, .bool false, .bool false, .bool false, .bool false, .bool false, .bool t293, .bool t294, .int .i64 x299008_53]) ?_ 6 _ rfl; (with_reducible repeat (first | apply blk_drewN | apply blk_drew | apply blk_alloc)); refine blk_put (cs := #[.bool true, .bool false, .bool false, .bool false, .bool false, .bool t292, .bool t293, .bool t294, .int .i64 x299008_53]) ?_ 5 _ rfl; (with_reducible repeat (first | apply blk_drewN | apply blk_drew | apply blk_alloc)); refine blk_put (cs := #[.bool true, .bool false, .bool false, .bool false, .bool t291, .bool t292, .bool t293, .bool t294, .int .i64 x299008_53]) ?_ 4 _ rfl; (with_reducible repeat (first | apply blk_drewN | apply blk_drew | apply blk_alloc)); refine blk_put (cs := #[.bool true, .bool false, .bool false, .bool t290, .bool t291, .bool t292, .bool t293, .bool t294, .int .i64 x299008_53]) ?_ 3 _ rfl; (with_reducible repeat (first | apply blk_drewN | apply blk_drew | apply blk_alloc)); refine blk_put (cs := #[.bool true, .bool false, .bool t289, .bool t290, .bool t291, .bool t292, .bool t293, .bool t294, .int .i64 x299008_53]) ?_ 2 _ rfl; (with_reducible repeat (first | apply blk_drewN | apply blk_drew | apply blk_alloc)); refine blk_put (cs := #[.bool true, .bool x299001_44, .bool t289, .bool t290, .bool t291, .bool t292, .bool t293, .bool t294, .int .i64 x299008_53]) ?_ 1 _ rfl; (with_reducible repeat (first | apply blk_drewN | apply blk_drew | apply blk_alloc)); refine blk_put (cs := #[.bool t287, .bool x299001_44, .bool t289, .bool t290, .bool t291, .bool t292, .bool t293, .bool t294, .int .i64 x299008_53]) ?_ 0 _ rfl; (with_reducible repeat (first | apply blk_drewN | apply blk_drew | apply blk_alloc)); exact BK298.out) : P := h
theorem Z8_12 {P : Prop} (h : P := by first | rfl | exact congrArg (Value.int .i64) (i64_w _) | (simp; done) | (simp [*]; done)) : P := h
theorem Z8_11 {P : Prop} (h : P := by repeat (first | (with_reducible first | exact HB.out | apply below_alloc | apply pw_below_drewN | apply below_drew1 | refine below_set ?_ (IsS116.ge HI0.out)) | exact HB.out)) : P := h
theorem Z8_10 {P : Prop} (h : P := by repeat (first | (with_reducible first | exact HI0.out | apply IsS116.alloc | apply IsS116.drewN | apply IsS116.drew | apply IsS116.set_1 | apply IsS116.set_2) | exact HI0.out)) : P := h
theorem Z8_9 {P : Prop} (h : P := by repeat (first | (with_reducible first | exact HK.out | apply KeepBut.set_ | apply keep_drewN | apply keep_drew | apply keep_alloc) | exact HK.out)) : P := h
theorem Z8_8 {P : Prop} (h : P := by first | (simp only [putAll, Act.put, List.setIfInBounds_toArray, List.set_cons_zero, List.set_cons_succ]; done) | (simp only [putAll, Act.put, List.setIfInBounds_toArray, List.set_cons_zero, List.set_cons_succ]; rfl)) : P := h
theorem Z8_7 {P : Prop} (h : P := by (try simp only [List.map_toArray, List.map_cons, List.map_nil]); first | done | rfl | (simp only [List.length_drop, List.length_take]; first | done | rfl)) : P := h
theorem Z8_6 {P : Prop} (h : P := by (with_reducible repeat (first | apply blk_drewN | apply blk_drew | apply blk_alloc)); exact BK298.out) : P := h
theorem Z8_5 {P : Prop} (h : P := by (with_reducible repeat (first | apply Kd.R_alloc | apply Kd.R_drewN | apply Kd.R_drew)); exact HO_6.out) : P := h
theorem Z8_4 {P : Prop} (h : P := by (with_reducible repeat (first | apply Kd.R_alloc | apply Kd.R_drewN | apply Kd.R_drew)); exact HO_5.out) : P := h
theorem Z8_3 {P : Prop} (h : P := by repeat (first | (with_reducible first | exact HB.out | apply below_alloc | apply pw_below_drewN | apply below_drew1 | refine below_set ?_ (IsS116.ge HI0.out) | refine below_set ?_ GE298.out) | exact HB.out)) : P := h
theorem Z8_2 {P : Prop} (h : P := by repeat (first | (with_reducible first | exact HI0.out | apply IsS116.alloc | apply IsS116.drewN | apply IsS116.drew | apply IsS116.set_1 | apply IsS116.set_2 | refine IsS116.far ?_ NB0_298.out _) | exact HI0.out)) : P := h
theorem Z8_1 {P : Prop} (h : P := by repeat (first | (with_reducible first | exact HK.out | apply KeepBut.set_ | apply keep_drewN | apply keep_drew | apply keep_alloc | refine keep_far ?_ GW298.out _) | exact HK.out)) : P := h

/-! ### spec_l6DrawTables: function 59 -/
mutual
def spec_l6DrawTables.l0 : Nat → Int → List Int → List Int → Int → List Int → Int → Int → Option (List Int × List Int × Int × Int)
 | 0, _, _, _, _, _, _, _ => none
 | k + 1, x4, x5, x6, x7, x1000, x1001, x1002 => (spec_l1Below.f x1000 x1001 x1002 8).bind fun bt262 => (if x7 < (wrap64 (2 + bt262.1)) then ((spec_l1Below.f x1000 bt262.2.1 bt262.2.2 8388608).bind fun bt265 => ((spec_l1Once.f x1000 bt265.2.1 bt265.2.2 2).bind fun bt268 => (if bt268.1 = true then ((spec_l1Below.f x1000 bt268.2.1 bt268.2.2 3).bind fun bt271 => ((spec_l1Below.f x1000 bt271.2.1 bt271.2.2 3).bind fun bt274 => ((spec_l1Below.f x1000 bt274.2.1 bt274.2.2 1024).bind fun bt277 => (spec_l6DrawTables.j1 k x4 x5 x6 x7 (wrap64 ((wrap64 ((wrap64 ((wrap64 (bt271.1 * 256)) * 1024)) + (wrap64 ((wrap64 (bt274.1 * 256)) * 32)))) + bt277.1)) x1000 bt277.2.1 bt277.2.2)))) else (spec_l6DrawTables.j1 k x4 x5 x6 x7 bt265.1 x1000 bt268.2.1 bt268.2.2)))) else (some (x5, x6, bt262.2.1, bt262.2.2)))
def spec_l6DrawTables.j1 : Nat → Int → List Int → List Int → Int → Int → List Int → Int → Int → Option (List Int × List Int × Int × Int)
 | 0, _, _, _, _, _, _, _, _ => none
 | k + 1, x4, x5, x6, x7, x8, x1000, x1001, x1002 => spec_l6DrawTables.l1 k x4 x5 x6 x7 x8 0 2 x1000 x1001 x1002
def spec_l6DrawTables.l1 : Nat → Int → List Int → List Int → Int → Int → Int → Int → List Int → Int → Int → Option (List Int × List Int × Int × Int)
 | 0, _, _, _, _, _, _, _, _, _, _ => none
 | k + 1, x4, x5, x6, x7, x8, x9, x10, x1000, x1001, x1002 => if x10 ≥ 0 then ((spec_l6Pages.f k x10).bind fun t283 => (if (wrap64 (256 * t283)) = 0 then (none) else (if x10 = 0 then (spec_l6DrawTables.j3 k x4 x5 x6 x7 x8 x10 (wrap64 ((wrap64 (x9 * 256)) + (wrap64 (8 * (Int.tmod (wrap64 (Int.tdiv x8 (wrap64 (256 * t283)))) 32))))) true x1000 x1001 x1002) else ((spec_l1Once.f x1000 x1001 x1002 6).bind fun bt284 => (spec_l6DrawTables.j3 k x4 x5 x6 x7 x8 x10 (wrap64 ((wrap64 (x9 * 256)) + (wrap64 (8 * (Int.tmod (wrap64 (Int.tdiv x8 (wrap64 (256 * t283)))) 32))))) bt284.1 x1000 bt284.2.1 bt284.2.2))))) else (if x6.length < 17592186044416 then (spec_l6DrawTables.l0 k x4 x5 (x6 ++ [x8]) (wrap64 (x7 + 1)) x1000 x1001 x1002) else (none))
def spec_l6DrawTables.j3 : Nat → Int → List Int → List Int → Int → Int → Int → Int → Bool → List Int → Int → Int → Option (List Int × List Int × Int × Int)
 | 0, _, _, _, _, _, _, _, _, _, _, _ => none
 | k + 1, x4, x5, x6, x7, x8, x10, x12, x13, x1000, x1001, x1002 => (spec_l6DrawEntry.f x1000 x1001 x1002).bind fun bt287 => (if x13 = true then (if bt287.2.1 = true then (spec_l6DrawTables.j4 k x4 x5 x6 x7 x8 x10 x12 x13 false x1000 bt287.2.2.2.2.2.2.2.2.2.1 bt287.2.2.2.2.2.2.2.2.2.2 bt287.1 bt287.2.1 bt287.2.2.1 bt287.2.2.2.1 bt287.2.2.2.2.1 bt287.2.2.2.2.2.1 bt287.2.2.2.2.2.2.1 bt287.2.2.2.2.2.2.2.1 bt287.2.2.2.2.2.2.2.2.1) else (spec_l6DrawTables.j4 k x4 x5 x6 x7 x8 x10 x12 x13 (!bt287.2.2.2.1) x1000 bt287.2.2.2.2.2.2.2.2.2.1 bt287.2.2.2.2.2.2.2.2.2.2 bt287.1 bt287.2.1 bt287.2.2.1 bt287.2.2.2.1 bt287.2.2.2.2.1 bt287.2.2.2.2.2.1 bt287.2.2.2.2.2.2.1 bt287.2.2.2.2.2.2.2.1 bt287.2.2.2.2.2.2.2.2.1)) else (spec_l6DrawTables.j4 k x4 x5 x6 x7 x8 x10 x12 x13 false x1000 bt287.2.2.2.2.2.2.2.2.2.1 bt287.2.2.2.2.2.2.2.2.2.2 bt287.1 bt287.2.1 bt287.2.2.1 bt287.2.2.2.1 bt287.2.2.2.2.1 bt287.2.2.2.2.2.1 bt287.2.2.2.2.2.2.1 bt287.2.2.2.2.2.2.2.1 bt287.2.2.2.2.2.2.2.2.1))
def spec_l6DrawTables.j4 : Nat → Int → List Int → List Int → Int → Int → Int → Int → Bool → Bool → List Int → Int → Int → Bool → Bool → Bool → Bool → Bool → Bool → Bool → Bool → Int → Option (List Int × List Int × Int × Int)
 | 0, _, _, _, _, _, _, _, _, _, _, _, _, _, _, _, _, _, _, _, _, _ => none
 | k + 1, x4, x5, x6, x7, x8, x10, x12, x13, x83, x1000, x1001, x1002, x299000, x299001, x299002, x299003, x299004, x299005, x299006, x299007, x299008 => if x83 = true then (spec_l6DrawTables.j5 k x4 x5 x6 x7 x8 x10 x12 x13 x1000 x1001 x1002 x299000 true x299002 x299003 x299004 x299005 x299006 x299007 x299008) else (spec_l6DrawTables.j5 k x4 x5 x6 x7 x8 x10 x12 x13 x1000 x1001 x1002 x299000 x299001 x299002 x299003 x299004 x299005 x299006 x299007 x299008)
def spec_l6DrawTables.j5 : Nat → Int → List Int → List Int → Int → Int → Int → Int → Bool → List Int → Int → Int → Bool → Bool → Bool → Bool → Bool → Bool → Bool → Bool → Int → Option (List Int × List Int × Int × Int)
 | 0, _, _, _, _, _, _, _, _, _, _, _, _, _, _, _, _, _, _, _, _ => none
 | k + 1, x4, x5, x6, x7, x8, x10, x12, x13, x1000, x1001, x1002, x299000, x299001, x299002, x299003, x299004, x299005, x299006, x299007, x299008 => if x13 = true then (if x10 > 0 then ((spec_l1Once.f x1000 x1001 x1002 4).bind fun bt299 => (spec_l6DrawTables.j6 k x4 x5 x6 x7 x8 x10 x12 x13 (!bt299.1) x1000 bt299.2.1 bt299.2.2 x299000 x299001 x299002 x299003 x299004 x299005 x299006 x299007 x299008)) else (spec_l6DrawTables.j6 k x4 x5 x6 x7 x8 x10 x12 x13 false x1000 x1001 x1002 x299000 x299001 x299002 x299003 x299004 x299005 x299006 x299007 x299008)) else (spec_l6DrawTables.j6 k x4 x5 x6 x7 x8 x10 x12 x13 false x1000 x1001 x1002 x299000 x299001 x299002 x299003 x299004 x299005 x299006 x299007 x299008)
def spec_l6DrawTables.j6 : Nat → Int → List Int → List Int → Int → Int → Int → Int → Bool → Bool → List Int → Int → Int → Bool → Bool → Bool → Bool → Bool → Bool → Bool → Bool → Int → Option (List Int × List Int × Int × Int)
 | 0, _, _, _, _, _, _, _, _, _, _, _, _, _, _, _, _, _, _, _, _, _ => none
 | k + 1, x4, x5, x6, x7, x8, x10, x12, x13, x94, x1000, x1001, x1002, x299000, x299001, x299002, x299003, x299004, x299005, x299006, x299007, x299008 => if x94 = true then ((some (([0, 32, 1024, 2048, 3072] : List Int) : List Int)).bind fun y302 => ((spec_l1Below.f x1000 x1001 x1002 5).bind fun bt305 => (if 0 ≤ bt305.1 then (if bt305.1 < (y302.length : Int) then ((spec_l6Pages.f k (wrap64 (x10 - 1))).bind fun t309 => (if (wrap64 ((rd y302 bt305.1) * t309)) > 4095 then (spec_l6DrawTables.j7 k x4 x5 x6 x7 x8 x10 x12 x13 x1000 bt305.2.1 bt305.2.2 x299000 x299001 x299002 x299003 x299004 x299005 x299006 x299007 1024) else (spec_l6DrawTables.j7 k x4 x5 x6 x7 x8 x10 x12 x13 x1000 bt305.2.1 bt305.2.2 x299000 x299001 x299002 x299003 x299004 x299005 x299006 x299007 (wrap64 ((rd y302 bt305.1) * t309))))) else (none)) else (none)))) else (spec_l6DrawTables.j7 k x4 x5 x6 x7 x8 x10 x12 x13 x1000 x1001 x1002 x299000 x299001 x299002 x299003 x299004 x299005 x299006 x299007 x299008)
def spec_l6DrawTables.j7 : Nat → Int → List Int → List Int → Int → Int → Int → Int → Bool → List Int → Int → Int → Bool → Bool → Bool → Bool → Bool → Bool → Bool → Bool → Int → Option (List Int × List Int × Int × Int)
 | 0, _, _, _, _, _, _, _, _, _, _, _, _, _, _, _, _, _, _, _, _ => none
 | k + 1, x4, x5, x6, x7, x8, x10, x12, x13, x1000, x1001, x1002, x299000, x299001, x299002, x299003, x299004, x299005, x299006, x299007, x299008 => (spec_l1Below.f x1000 x1001 x1002 x4).bind fun bt310 => (if x13 = true then (spec_l6DrawTables.j8 k x4 x5 x6 x7 x8 x10 x12 x13 (wrap64 (1 + bt310.1)) x1000 bt310.2.1 bt310.2.2 x299000 x299001 x299002 x299003 x299004 x299005 x299006 x299007 x299008) else ((spec_l1Once.f x1000 bt310.2.1 bt310.2.2 20).bind fun bt313 => (if bt313.1 = true then (spec_l6DrawTables.j8 k x4 x5 x6 x7 x8 x10 x12 x13 (wrap64 (1 + bt310.1)) x1000 bt313.2.1 bt313.2.2 true false false false false true false x299007 (wrap64 (1 + bt310.1))) else (spec_l6DrawTables.j8 k x4 x5 x6 x7 x8 x10 x12 x13 (wrap64 (1 + bt310.1)) x1000 bt313.2.1 bt313.2.2 true false false false false false false x299007 (wrap64 (1 + bt310.1))))))
def spec_l6DrawTables.j8 : Nat → Int → List Int → List Int → Int → Int → Int → Int → Bool → Int → List Int → Int → Int → Bool → Bool → Bool → Bool → Bool → Bool → Bool → Bool → Int → Option (List Int × List Int × Int × Int)
 | 0, _, _, _, _, _, _, _, _, _, _, _, _, _, _, _, _, _, _, _, _, _ => none
 | k + 1, x4, x5, x6, x7, x8, x10, x12, x13, x15, x1000, x1001, x1002, x299000, x299001, x299002, x299003, x299004, x299005, x299006, x299007, x299008 => (spec_PutEntry.f k x299000 x299001 x299002 x299003 x299004 x299005 x299006 x299007 x299008).bind fun bt316 => ((spec_l1Once.f x1000 x1001 x1002 20).bind fun bt318 => (if bt318.1 = true then ((spec_l1Below.f x1000 bt318.2.1 bt318.2.2 64).bind fun bt321 => ((spec_l1Pow.f k bt321.1).bind fun t324 => (spec_l6DrawTables.j9 k x4 x5 x6 x7 x8 x10 x12 x13 x15 (Go.bits .xor .u64 bt316.1 t324) x1000 bt321.2.1 bt321.2.2))) else (spec_l6DrawTables.j9 k x4 x5 x6 x7 x8 x10 x12 x13 x15 bt316.1 x1000 bt318.2.1 bt318.2.2)))
def spec_l6DrawTables.j9 : Nat → Int → List Int → List Int → Int → Int → Int → Int → Bool → Int → Int → List Int → Int → Int → Option (List Int × List Int × Int × Int)
 | 0, _, _, _, _, _, _, _, _, _, _, _, _, _ => none
 | k + 1, x4, x5, x6, x7, x8, x10, x12, x13, x15, x16, x1000, x1001, x1002 => (spec_LoadWord.f k x5 x12 8 false).bind fun bt325 => (if bt325.1 = 0 then (spec_l6DrawTables.j10 k x4 x5 x6 x7 x8 x10 x12 x13 x15 x16 bt325.1 true x1000 x1001 x1002) else ((spec_l1Once.f x1000 x1001 x1002 6).bind fun bt327 => (spec_l6DrawTables.j10 k x4 x5 x6 x7 x8 x10 x12 x13 x15 x16 bt325.1 bt327.1 x1000 bt327.2.1 bt327.2.2)))
def spec_l6DrawTables.j10 : Nat → Int → List Int → List Int → Int → Int → Int → Int → Bool → Int → Int → Int → Bool → List Int → Int → Int → Option (List Int × List Int × Int × Int)
 | 0, _, _, _, _, _, _, _, _, _, _, _, _, _, _, _ => none
 | k + 1, x4, x5, x6, x7, x8, x10, x12, x13, x15, x16, x18, x145, x1000, x1001, x1002 => if x145 = true then ((spec_l6Set.f k x5 x12 x16).bind fun t330 => (if x13 = true then (if x6.length < 17592186044416 then (spec_l6DrawTables.l0 k x4 t330 (x6 ++ [x8]) (wrap64 (x7 + 1)) x1000 x1001 x1002) else (none)) else (if x15 ≥ x4 then (if x6.length < 17592186044416 then (spec_l6DrawTables.l0 k x4 t330 (x6 ++ [x8]) (wrap64 (x7 + 1)) x1000 x1001 x1002) else (none)) else (spec_l6DrawTables.l1 k x4 t330 x6 x7 x8 x15 (wrap64 (x10 - 1)) x1000 x1001 x1002)))) else ((spec_l6Kind.f k x18 x10).bind fun t337 => (if t337 = 0 then ((spec_GetEntry.f k x18).bind fun bt338 => (if x13 = true then (if x6.length < 17592186044416 then (spec_l6DrawTables.l0 k x4 x5 (x6 ++ [x8]) (wrap64 (x7 + 1)) x1000 x1001 x1002) else (none)) else (if bt338.2.2.2.2.2.2.2.2.1 ≥ x4 then (if x6.length < 17592186044416 then (spec_l6DrawTables.l0 k x4 x5 (x6 ++ [x8]) (wrap64 (x7 + 1)) x1000 x1001 x1002) else (none)) else (spec_l6DrawTables.l1 k x4 x5 x6 x7 x8 bt338.2.2.2.2.2.2.2.2.1 (wrap64 (x10 - 1)) x1000 x1001 x1002)))) else (if x13 = true then (if x6.length < 17592186044416 then (spec_l6DrawTables.l0 k x4 x5 (x6 ++ [x8]) (wrap64 (x7 + 1)) x1000 x1001 x1002) else (none)) else (if x15 ≥ x4 then (if x6.length < 17592186044416 then (spec_l6DrawTables.l0 k x4 x5 (x6 ++ [x8]) (wrap64 (x7 + 1)) x1000 x1001 x1002) else (none)) else (spec_l6DrawTables.l1 k x4 x5 x6 x7 x8 x15 (wrap64 (x10 - 1)) x1000 x1001 x1002)))))
end
def spec_l6DrawTables.f (k : Nat) (s0_0 : List Int) (s0_1 : Int) (s0_2 : Int) : Option (List Int × List Int × Int × Int) := (spec_l1Below.f s0_0 s0_1 s0_2 10).bind fun bt253 => (if 0 ≤ (wrap64 ((wrap64 (4 + bt253.1)) * 256)) then (if (wrap64 ((wrap64 (4 + bt253.1)) * 256) : Int).toNat ≤ 281474976710656 then (spec_l6DrawTables.l0 k (wrap64 (4 + bt253.1)) (List.replicate (wrap64 ((wrap64 (4 + bt253.1)) * 256) : Int).toNat 0) (([] : List Int)) 0 s0_0 bt253.2.1 bt253.2.2) else (none)) else (none))
theorem spec_l6DrawTables.mono_l : ∀ k, (∀ y0 y1 y2 y3 y4 y5 y6, LeO (spec_l6DrawTables.l0 k y0 y1 y2 y3 y4 y5 y6) (spec_l6DrawTables.l0 (k + 1) y0 y1 y2 y3 y4 y5 y6)) ∧ (∀ y0 y1 y2 y3 y4 y5 y6 y7, LeO (spec_l6DrawTables.j1 k y0 y1 y2 y3 y4 y5 y6 y7) (spec_l6DrawTables.j1 (k + 1) y0 y1 y2 y3 y4 y5 y6 y7)) ∧ (∀ y0 y1 y2 y3 y4 y5 y6 y7 y8 y9, LeO (spec_l6DrawTables.l1 k y0 y1 y2 y3 y4 y5 y6 y7 y8 y9) (spec_l6DrawTables.l1 (k + 1) y0 y1 y2 y3 y4 y5 y6 y7 y8 y9)) ∧ (∀ y0 y1 y2 y3 y4 y5 y6 y7 y8 y9 y10, LeO (spec_l6DrawTables.j3 k y0 y1 y2 y3 y4 y5 y6 y7 y8 y9 y10) (spec_l6DrawTables.j3 (k + 1) y0 y1 y2 y3 y4 y5 y6 y7 y8 y9 y10)) ∧ (∀ y0 y1 y2 y3 y4 y5 y6 y7 y8 y9 y10 y11 y12 y13 y14 y15 y16 y17 y18 y19 y20, LeO (spec_l6DrawTables.j4 k y0 y1 y2 y3 y4 y5 y6 y7 y8 y9 y10 y11 y12 y13 y14 y15 y16 y17 y18 y19 y20) (spec_l6DrawTables.j4 (k + 1) y0 y1 y2 y3 y4 y5 y6 y7 y8 y9 y10 y11 y12 y13 y14 y15 y16 y17 y18 y19 y20)) ∧ (∀ y0 y1 y2 y3 y4 y5 y6 y7 y8 y9 y10 y11 y12 y13 y14 y15 y16 y17 y18 y19, LeO (spec_l6DrawTables.j5 k y0 y1 y2 y3 y4 y5 y6 y7 y8 y9 y10 y11 y12 y13 y14 y15 y16 y17 y18 y19) (spec_l6DrawTables.j5 (k + 1) y0 y1 y2 y3 y4 y5 y6 y7 y8 y9 y10 y11 y12 y13 y14 y15 y16 y17 y18 y19)) ∧ (∀ y0 y1 y2 y3 y4 y5 y6 y7 y8 y9 y10 y11 y12 y13 y14 y15 y16 y17 y18 y19 y20, LeO (spec_l6DrawTables.j6 k y0 y1 y2 y3 y4 y5 y6 y7 y8 y9 y10 y11 y12 y13 y14 y15 y16 y17 y18 y19 y20) (spec_l6DrawTables.j6 (k + 1) y0 y1 y2 y3 y4 y5 y6 y7 y8 y9 y10 y11 y12 y13 y14 y15 y16 y17 y18 y19 y20)) ∧ (∀ y0 y1 y2 y3 y4 y5 y6 y7 y8 y9 y10 y11 y12 y13 y14 y15 y16 y17 y18 y19, LeO (spec_l6DrawTables.j7 k y0 y1 y2 y3 y4 y5 y6 y7 y8 y9 y10 y11 y12 y13 y14 y15 y16 y17 y18 y19) (spec_l6DrawTables.j7 (k + 1) y0 y1 y2 y3 y4 y5 y6 y7 y8 y9 y10 y11 y12 y13 y14 y15 y16 y17 y18 y19)) ∧ (∀ y0 y1 y2 y3 y4 y5 y6 y7 y8 y9 y10 y11 y12 y13 y14 y15 y16 y17 y18 y19 y20, LeO (spec_l6DrawTables.j8 k y0 y1 y2 y3 y4 y5 y6 y7 y8 y9 y10 y11 y12 y13 y14 y15 y16 y17 y18 y19 y20) (spec_l6DrawTables.j8 (k + 1) y0 y1 y2 y3 y4 y5 y6 y7 y8 y9 y10 y11 y12 y13 y14 y15 y16 y17 y18 y19 y20)) ∧ (∀ y0 y1 y2 y3 y4 y5 y6 y7 y8 y9 y10 y11 y12, LeO (spec_l6DrawTables.j9 k y0 y1 y2 y3 y4 y5 y6 y7 y8 y9 y10 y11 y12) (spec_l6DrawTables.j9 (k + 1) y0 y1 y2 y3 y4 y5 y6 y7 y8 y9 y10 y11 y12)) ∧ (∀ y0 y1 y2 y3 y4 y5 y6 y7 y8 y9 y10 y11 y12 y13 y14, LeO (spec_l6DrawTables.j10 k y0 y1 y2 y3 y4 y5 y6 y7 y8 y9 y10 y11 y12 y13 y14) (spec_l6DrawTables.j10 (k + 1) y0 y1 y2 y3 y4 y5 y6 y7 y8 y9 y10 y11 y12 y13 y14))
 | 0 => ⟨fun _ _ _ _ _ _ _ r h => by simp [spec_l6DrawTables.l0] at h, fun _ _ _ _ _ _ _ _ r h => by simp [spec_l6DrawTables.j1] at h, fun _ _ _ _ _ _ _ _ _ _ r h => by simp [spec_l6DrawTables.l1] at h, fun _ _ _ _ _ _ _ _ _ _ _ r h => by simp [spec_l6DrawTables.j3] at h, fun _ _ _ _ _ _ _ _ _ _ _ _ _ _ _ _ _ _ _ _ _ r h => by simp [spec_l6DrawTables.j4] at h, fun _ _ _ _ _ _ _ _ _ _ _ _ _ _ _ _ _ _ _ _ r h => by simp [spec_l6DrawTables.j5] at h, fun _ _ _ _ _ _ _ _ _ _ _ _ _ _ _ _ _ _ _ _ _ r h => by simp [spec_l6DrawTables.j6] at h, fun _ _ _ _ _ _ _ _ _ _ _ _ _ _ _ _ _ _ _ _ r h => by simp [spec_l6DrawTables.j7] at h, fun _ _ _ _ _ _ _ _ _ _ _ _ _ _ _ _ _ _ _ _ _ r h => by simp [spec_l6DrawTables.j8] at h, fun _ _ _ _ _ _ _ _ _ _ _ _ _ r h => by simp [spec_l6DrawTables.j9] at h, fun _ _ _ _ _ _ _ _ _ _ _ _ _ _ _ r h => by simp [spec_l6DrawTables.j10] at h⟩
 | k + 1 => by
  obtain ⟨ih0, ih1, ih2, ih3, ih4, ih5, ih6, ih7, ih8, ih9, ih10⟩ := spec_l6DrawTables.mono_l k
  refine ⟨?_, ?_, ?_, ?_, ?_, ?_, ?_, ?_, ?_, ?_, ?_⟩
  ·intro y0 y1 y2 y3 y4 y5 y6
   unfold spec_l6DrawTables.l0
   repeat' first
   | (with_reducible exact ih0 _ _ _ _ _ _ _)
   | (with_reducible exact ih1 _ _ _ _ _ _ _ _)
   | (with_reducible exact ih2 _ _ _ _ _ _ _ _ _ _)
   | (with_reducible exact ih3 _ _ _ _ _ _ _ _ _ _ _)
   | (with_reducible exact ih4 _ _ _ _ _ _ _ _ _ _ _ _ _ _ _ _ _ _ _ _ _)
   | (with_reducible exact ih5 _ _ _ _ _ _ _ _ _ _ _ _ _ _ _ _ _ _ _ _)
   | (with_reducible exact ih6 _ _ _ _ _ _ _ _ _ _ _ _ _ _ _ _ _ _ _ _ _)
   | (with_reducible exact ih7 _ _ _ _ _ _ _ _ _ _ _ _ _ _ _ _ _ _ _ _)
   | (with_reducible exact ih8 _ _ _ _ _ _ _ _ _ _ _ _ _ _ _ _ _ _ _ _ _)
   | (with_reducible exact ih9 _ _ _ _ _ _ _ _ _ _ _ _ _)
   | (with_reducible exact ih10 _ _ _ _ _ _ _ _ _ _ _ _ _ _ _)
   | (with_reducible exact spec_GetEntry.mono _ _)
   | (with_reducible exact spec_LoadWord.mono _ _ _ _ _)
   | (with_reducible exact spec_PutEntry.mono _ _ _ _ _ _ _ _ _ _)
   | (with_reducible exact spec_l1Pow.mono _ _)
   | (with_reducible exact spec_l6Kind.mono _ _ _)
   | (with_reducible exact spec_l6Pages.mono _ _)
   | (with_reducible exact spec_l6Set.mono _ _ _ _)
   | (with_reducible exact LeO.refl _)
   | (with_reducible exact LeO.none _)
   | (with_reducible refine LeO.ite ?_ ?_)
   | (with_reducible refine LeO.bind ?_ (fun _ => ?_))
   | exact ih0 _ _ _ _ _ _ _
   | exact ih1 _ _ _ _ _ _ _ _
   | exact ih2 _ _ _ _ _ _ _ _ _ _
   | exact ih3 _ _ _ _ _ _ _ _ _ _ _
   | exact ih4 _ _ _ _ _ _ _ _ _ _ _ _ _ _ _ _ _ _ _ _ _
   | exact ih5 _ _ _ _ _ _ _ _ _ _ _ _ _ _ _ _ _ _ _ _
   | exact ih6 _ _ _ _ _ _ _ _ _ _ _ _ _ _ _ _ _ _ _ _ _
   | exact ih7 _ _ _ _ _ _ _ _ _ _ _ _ _ _ _ _ _ _ _ _
   | exact ih8 _ _ _ _ _ _ _ _ _ _ _ _ _ _ _ _ _ _ _ _ _
   | exact ih9 _ _ _ _ _ _ _ _ _ _ _ _ _
   | exact ih10 _ _ _ _ _ _ _ _ _ _ _ _ _ _ _
   | exact spec_GetEntry.mono _ _
   | exact spec_LoadWord.mono _ _ _ _ _
   | exact spec_PutEntry.mono _ _ _ _ _ _ _ _ _ _
   | exact spec_l1Pow.mono _ _
   | exact spec_l6Kind.mono _ _ _
   | exact spec_l6Pages.mono _ _
   | exact spec_l6Set.mono _ _ _ _
   | exact LeO.none _
   | refine LeO.ite ?_ ?_
   | refine LeO.bind ?_ (fun _ => ?_)
  ·intro y0 y1 y2 y3 y4 y5 y6 y7
   unfold spec_l6DrawTables.j1
   repeat' first
   | (with_reducible exact ih0 _ _ _ _ _ _ _)
   | (with_reducible exact ih1 _ _ _ _ _ _ _ _)
   | (with_reducible exact ih2 _ _ _ _ _ _ _ _ _ _)
   | (with_reducible exact ih3 _ _ _ _ _ _ _ _ _ _ _)
   | (with_reducible exact ih4 _ _ _ _ _ _ _ _ _ _ _ _ _ _ _ _ _ _ _ _ _)
   | (with_reducible exact ih5 _ _ _ _ _ _ _ _ _ _ _ _ _ _ _ _ _ _ _ _)
   | (with_reducible exact ih6 _ _ _ _ _ _ _ _ _ _ _ _ _ _ _ _ _ _ _ _ _)
   | (with_reducible exact ih7 _ _ _ _ _ _ _ _ _ _ _ _ _ _ _ _ _ _ _ _)
   | (with_reducible exact ih8 _ _ _ _ _ _ _ _ _ _ _ _ _ _ _ _ _ _ _ _ _)
   | (with_reducible exact ih9 _ _ _ _ _ _ _ _ _ _ _ _ _)
   | (with_reducible exact ih10 _ _ _ _ _ _ _ _ _ _ _ _ _ _ _)
   | (with_reducible exact spec_GetEntry.mono _ _)
   | (with_reducible exact spec_LoadWord.mono _ _ _ _ _)
   | (with_reducible exact spec_PutEntry.mono _ _ _ _ _ _ _ _ _ _)
   | (with_reducible exact spec_l1Pow.mono _ _)
   | (with_reducible exact spec_l6Kind.mono _ _ _)
   | (with_reducible exact spec_l6Pages.mono _ _)
   | (with_reducible exact spec_l6Set.mono _ _ _ _)
   | (with_reducible exact LeO.refl _)
   | (with_reducible exact LeO.none _)
   | (with_reducible refine LeO.ite ?_ ?_)
   | (with_reducible refine LeO.bind ?_ (fun _ => ?_))
   | exact ih0 _ _ _ _ _ _ _
   | exact ih1 _ _ _ _ _ _ _ _
   | exact ih2 _ _ _ _ _ _ _ _ _ _
   | exact ih3 _ _ _ _ _ _ _ _ _ _ _
   | exact ih4 _ _ _ _ _ _ _ _ _ _ _ _ _ _ _ _ _ _ _ _ _
   | exact ih5 _ _ _ _ _ _ _ _ _ _ _ _ _ _ _ _ _ _ _ _
   | exact ih6 _ _ _ _ _ _ _ _ _ _ _ _ _ _ _ _ _ _ _ _ _
   | exact ih7 _ _ _ _ _ _ _ _ _ _ _ _ _ _ _ _ _ _ _ _
   | exact ih8 _ _ _ _ _ _ _ _ _ _ _ _ _ _ _ _ _ _ _ _ _
   | exact ih9 _ _ _ _ _ _ _ _ _ _ _ _ _
   | exact ih10 _ _ _ _ _ _ _ _ _ _ _ _ _ _ _
   | exact spec_GetEntry.mono _ _
   | exact spec_LoadWord.mono _ _ _ _ _
   | exact spec_PutEntry.mono _ _ _ _ _ _ _ _ _ _
   | exact spec_l1Pow.mono _ _
   | exact spec_l6Kind.mono _ _ _
   | exact spec_l6Pages.mono _ _
   | exact spec_l6Set.mono _ _ _ _
   | exact LeO.none _
   | refine LeO.ite ?_ ?_
   | refine LeO.bind ?_ (fun _ => ?_)
  ·intro y0 y1 y2 y3 y4 y5 y6 y7 y8 y9
   unfold spec_l6DrawTables.l1
   repeat' first
   | (with_reducible exact ih0 _ _ _ _ _ _ _)
   | (with_reducible exact ih1 _ _ _ _ _ _ _ _)
   | (with_reducible exact ih2 _ _ _ _ _ _ _ _ _ _)
   | (with_reducible exact ih3 _ _ _ _ _ _ _ _ _ _ _)
   | (with_reducible exact ih4 _ _ _ _ _ _ _ _ _ _ _ _ _ _ _ _ _ _ _ _ _)
   | (with_reducible exact ih5 _ _ _ _ _ _ _ _ _ _ _ _ _ _ _ _ _ _ _ _)
   | (with_reducible exact ih6 _ _ _ _ _ _ _ _ _ _ _ _ _ _ _ _ _ _ _ _ _)
   | (with_reducible exact ih7 _ _ _ _ _ _ _ _ _ _ _ _ _ _ _ _ _ _ _ _)
   | (with_reducible exact ih8 _ _ _ _ _ _ _ _ _ _ _ _ _ _ _ _ _ _ _ _ _)
   | (with_reducible exact ih9 _ _ _ _ _ _ _ _ _ _ _ _ _)
   | (with_reducible exact ih10 _ _ _ _ _ _ _ _ _ _ _ _ _ _ _)
   | (with_reducible exact spec_GetEntry.mono _ _)
   | (with_reducible exact spec_LoadWord.mono _ _ _ _ _)
   | (with_reducible exact spec_PutEntry.mono _ _ _ _ _ _ _ _ _ _)
   | (with_reducible exact spec_l1Pow.mono _ _)
   | (with_reducible exact spec_l6Kind.mono _ _ _)
   | (with_reducible exact spec_l6Pages.mono _ _)
   | (with_reducible exact spec_l6Set.mono _ _ _ _)
   | (with_reducible exact LeO.refl _)
   | (with_reducible exact LeO.none _)
   | (with_reducible refine LeO.ite ?_ ?_)
   | (with_reducible refine LeO.bind ?_ (fun _ => ?_))
   | exact ih0 _ _ _ _ _ _ _
   | exact ih1 _ _ _ _ _ _ _ _
   | exact ih2 _ _ _ _ _ _ _ _ _ _
   | exact ih3 _ _ _ _ _ _ _ _ _ _ _
   | exact ih4 _ _ _ _ _ _ _ _ _ _ _ _ _ _ _ _ _ _ _ _ _
   | exact ih5 _ _ _ _ _ _ _ _ _ _ _ _ _ _ _ _ _ _ _ _
   | exact ih6 _ _ _ _ _ _ _ _ _ _ _ _ _ _ _ _ _ _ _ _ _
   | exact ih7 _ _ _ _ _ _ _ _ _ _ _ _ _ _ _ _ _ _ _ _
   | exact ih8 _ _ _ _ _ _ _ _ _ _ _ _ _ _ _ _ _ _ _ _ _
   | exact ih9 _ _ _ _ _ _ _ _ _ _ _ _ _
   | exact ih10 _ _ _ _ _ _ _ _ _ _ _ _ _ _ _
   | exact spec_GetEntry.mono _ _
   | exact spec_LoadWord.mono _ _ _ _ _
   | exact spec_PutEntry.mono _ _ _ _ _ _ _ _ _ _
   | exact spec_l1Pow.mono _ _
   | exact spec_l6Kind.mono _ _ _
   | exact spec_l6Pages.mono _ _
   | exact spec_l6Set.mono _ _ _ _
   | exact LeO.none _
   | refine LeO.ite ?_ ?_
   | refine LeO.bind ?_ (fun _ => ?_)
  ·intro y0 y1 y2 y3 y4 y5 y6 y7 y8 y9 y10
   unfold spec_l6DrawTables.j3
   repeat' first
   | (with_reducible exact ih0 _ _ _ _ _ _ _)
   | (with_reducible exact ih1 _ _ _ _ _ _ _ _)
   | (with_reducible exact ih2 _ _ _ _ _ _ _ _ _ _)
   | (with_reducible exact ih3 _ _ _ _ _ _ _ _ _ _ _)
   | (with_reducible exact ih4 _ _ _ _ _ _ _ _ _ _ _ _ _ _ _ _ _ _ _ _ _)
   | (with_reducible exact ih5 _ _ _ _ _ _ _ _ _ _ _ _ _ _ _ _ _ _ _ _)
   | (with_reducible exact ih6 _ _ _ _ _ _ _ _ _ _ _ _ _ _ _ _ _ _ _ _ _)
   | (with_reducible exact ih7 _ _ _ _ _ _ _ _ _ _ _ _ _ _ _ _ _ _ _ _)
   | (with_reducible exact ih8 _ _ _ _ _ _ _ _ _ _ _ _ _ _ _ _ _ _ _ _ _)
   | (with_reducible exact ih9 _ _ _ _ _ _ _ _ _ _ _ _ _)
   | (with_reducible exact ih10 _ _ _ _ _ _ _ _ _ _ _ _ _ _ _)
   | (with_reducible exact spec_GetEntry.mono _ _)
   | (with_reducible exact spec_LoadWord.mono _ _ _ _ _)
   | (with_reducible exact spec_PutEntry.mono _ _ _ _ _ _ _ _ _ _)
   | (with_reducible exact spec_l1Pow.mono _ _)
   | (with_reducible exact spec_l6Kind.mono _ _ _)
   | (with_reducible exact spec_l6Pages.mono _ _)
   | (with_reducible exact spec_l6Set.mono _ _ _ _)
   | (with_reducible exact LeO.refl _)
   | (with_reducible exact LeO.none _)
   | (with_reducible refine LeO.ite ?_ ?_)
   | (with_reducible refine LeO.bind ?_ (fun _ => ?_))
   | exact ih0 _ _ _ _ _ _ _
   | exact ih1 _ _ _ _ _ _ _ _
   | exact ih2 _ _ _ _ _ _ _ _ _ _
   | exact ih3 _ _ _ _ _ _ _ _ _ _ _
   | exact ih4 _ _ _ _ _ _ _ _ _ _ _ _ _ _ _ _ _ _ _ _ _
   | exact ih5 _ _ _ _ _ _ _ _ _ _ _ _ _ _ _ _ _ _ _ _
   | exact ih6 _ _ _ _ _ _ _ _ _ _ _ _ _ _ _ _ _ _ _ _ _
   | exact ih7 _ _ _ _ _ _ _ _ _ _ _ _ _ _ _ _ _ _ _ _
   | exact ih8 _ _ _ _ _ _ _ _ _ _ _ _ _ _ _ _ _ _ _ _ _
   | exact ih9 _ _ _ _ _ _ _ _ _ _ _ _ _
   | exact ih10 _ _ _ _ _ _ _ _ _ _ _ _ _ _ _
   | exact spec_GetEntry.mono _ _
   | exact spec_LoadWord.mono _ _ _ _ _
   | exact spec_PutEntry.mono _ _ _ _ _ _ _ _ _ _
   | exact spec_l1Pow.mono _ _
   | exact spec_l6Kind.mono _ _ _
   | exact spec_l6Pages.mono _ _
   | exact spec_l6Set.mono _ _ _ _
   | exact LeO.none _
   | refine LeO.ite ?_ ?_
   | refine LeO.bind ?_ (fun _ => ?_)
  ·intro y0 y1 y2 y3 y4 y5 y6 y7 y8 y9 y10 y11 y12 y13 y14 y15 y16 y17 y18 y19 y20
   unfold spec_l6DrawTables.j4
   repeat' first
   | (with_reducible exact ih0 _ _ _ _ _ _ _)
   | (with_reducible exact ih1 _ _ _ _ _ _ _ _)
   | (with_reducible exact ih2 _ _ _ _ _ _ _ _ _ _)
   | (with_reducible exact ih3 _ _ _ _ _ _ _ _ _ _ _)
   | (with_reducible exact ih4 _ _ _ _ _ _ _ _ _ _ _ _ _ _ _ _ _ _ _ _ _)
   | (with_reducible exact ih5 _ _ _ _ _ _ _ _ _ _ _ _ _ _ _ _ _ _ _ _)
   | (with_reducible exact ih6 _ _ _ _ _ _ _ _ _ _ _ _ _ _ _ _ _ _ _ _ _)
   | (with_reducible exact ih7 _ _ _ _ _ _ _ _ _ _ _ _ _ _ _ _ _ _ _ _)
   | (with_reducible exact ih8 _ _ _ _ _ _ _ _ _ _ _ _ _ _ _ _ _ _ _ _ _)
   | (with_reducible exact ih9 _ _ _ _ _ _ _ _ _ _ _ _ _)
   | (with_reducible exact ih10 _ _ _ _ _ _ _ _ _ _ _ _ _ _ _)
   | (with_reducible exact spec_GetEntry.mono _ _)
   | (with_reducible exact spec_LoadWord.mono _ _ _ _ _)
   | (with_reducible exact spec_PutEntry.mono _ _ _ _ _ _ _ _ _ _)
   | (with_reducible exact spec_l1Pow.mono _ _)
   | (with_reducible exact spec_l6Kind.mono _ _ _)
   | (with_reducible exact spec_l6Pages.mono _ _)
   | (with_reducible exact spec_l6Set.mono _ _ _ _)
   | (with_reducible exact LeO.refl _)
   | (with_reducible exact LeO.none _)
   | (with_reducible refine LeO.ite ?_ ?_)
   | (with_reducible refine LeO.bind ?_ (fun _ => ?_))
   | exact ih0 _ _ _ _ _ _ _
   | exact ih1 _ _ _ _ _ _ _ _
   | exact ih2 _ _ _ _ _ _ _ _ _ _
   | exact ih3 _ _ _ _ _ _ _ _ _ _ _
   | exact ih4 _ _ _ _ _ _ _ _ _ _ _ _ _ _ _ _ _ _ _ _ _
   | exact ih5 _ _ _ _ _ _ _ _ _ _ _ _ _ _ _ _ _ _ _ _
   | exact ih6 _ _ _ _ _ _ _ _ _ _ _ _ _ _ _ _ _ _ _ _ _
   | exact ih7 _ _ _ _ _ _ _ _ _ _ _ _ _ _ _ _ _ _ _ _
   | exact ih8 _ _ _ _ _ _ _ _ _ _ _ _ _ _ _ _ _ _ _ _ _
   | exact ih9 _ _ _ _ _ _ _ _ _ _ _ _ _
   | exact ih10 _ _ _ _ _ _ _ _ _ _ _ _ _ _ _
   | exact spec_GetEntry.mono _ _
   | exact spec_LoadWord.mono _ _ _ _ _
   | exact spec_PutEntry.mono _ _ _ _ _ _ _ _ _ _
   | exact spec_l1Pow.mono _ _
   | exact spec_l6Kind.mono _ _ _
   | exact spec_l6Pages.mono _ _
   | exact spec_l6Set.mono _ _ _ _
   | exact LeO.none _
   | refine LeO.ite ?_ ?_
   | refine LeO.bind ?_ (fun _ => ?_)
  ·intro y0 y1 y2 y3 y4 y5 y6 y7 y8 y9 y10 y11 y12 y13 y14 y15 y16 y17 y18 y19
   unfold spec_l6DrawTables.j5
   repeat' first
   | (with_reducible exact ih0 _ _ _ _ _ _ _)
   | (with_reducible exact ih1 _ _ _ _ _ _ _ _)
   | (with_reducible exact ih2 _ _ _ _ _ _ _ _ _ _)
   | (with_reducible exact ih3 _ _ _ _ _ _ _ _ _ _ _)
   | (with_reducible exact ih4 _ _ _ _ _ _ _ _ _ _ _ _ _ _ _ _ _ _ _ _ _)
   | (with_reducible exact ih5 _ _ _ _ _ _ _ _ _ _ _ _ _ _ _ _ _ _ _ _)
   | (with_reducible exact ih6 _ _ _ _ _ _ _ _ _ _ _ _ _ _ _ _ _ _ _ _ _)
   | (with_reducible exact ih7 _ _ _ _ _ _ _ _ _ _ _ _ _ _ _ _ _ _ _ _)
   | (with_reducible exact ih8 _ _ _ _ _ _ _ _ _ _ _ _ _ _ _ _ _ _ _ _ _)
   | (with_reducible exact ih9 _ _ _ _ _ _ _ _ _ _ _ _ _)
   | (with_reducible exact ih10 _ _ _ _ _ _ _ _ _ _ _ _ _ _ _)
   | (with_reducible exact spec_GetEntry.mono _ _)
   | (with_reducible exact spec_LoadWord.mono _ _ _ _ _)
   | (with_reducible exact spec_PutEntry.mono _ _ _ _ _ _ _ _ _ _)
   | (with_reducible exact spec_l1Pow.mono _ _)
   | (with_reducible exact spec_l6Kind.mono _ _ _)
   | (with_reducible exact spec_l6Pages.mono _ _)
   | (with_reducible exact spec_l6Set.mono _ _ _ _)
   | (with_reducible exact LeO.refl _)
   | (with_reducible exact LeO.none _)
   | (with_reducible refine LeO.ite ?_ ?_)
   | (with_reducible refine LeO.bind ?_ (fun _ => ?_))
   | exact ih0 _ _ _ _ _ _ _
   | exact ih1 _ _ _ _ _ _ _ _
   | exact ih2 _ _ _ _ _ _ _ _ _ _
   | exact ih3 _ _ _ _ _ _ _ _ _ _ _
   | exact ih4 _ _ _ _ _ _ _ _ _ _ _ _ _ _ _ _ _ _ _ _ _
   | exact ih5 _ _ _ _ _ _ _ _ _ _ _ _ _ _ _ _ _ _ _ _
   | exact ih6 _ _ _ _ _ _ _ _ _ _ _ _ _ _ _ _ _ _ _ _ _
   | exact ih7 _ _ _ _ _ _ _ _ _ _ _ _ _ _ _ _ _ _ _ _
   | exact ih8 _ _ _ _ _ _ _ _ _ _ _ _ _ _ _ _ _ _ _ _ _
   | exact ih9 _ _ _ _ _ _ _ _ _ _ _ _ _
   | exact ih10 _ _ _ _ _ _ _ _ _ _ _ _ _ _ _
   | exact spec_GetEntry.mono _ _
   | exact spec_LoadWord.mono _ _ _ _ _
   | exact spec_PutEntry.mono _ _ _ _ _ _ _ _ _ _
   | exact spec_l1Pow.mono _ _
   | exact spec_l6Kind.mono _ _ _
   | exact spec_l6Pages.mono _ _
   | exact spec_l6Set.mono _ _ _ _
   | exact LeO.none _
   | refine LeO.ite ?_ ?_
   | refine LeO.bind ?_ (fun _ => ?_)
  ·intro y0 y1 y2 y3 y4 y5 y6 y7 y8 y9 y10 y11 y12 y13 y14 y15 y16 y17 y18 y19 y20
   unfold spec_l6DrawTables.j6
   repeat' first
   | (with_reducible exact ih0 _ _ _ _ _ _ _)
   | (with_reducible exact ih1 _ _ _ _ _ _ _ _)
   | (with_reducible exact ih2 _ _ _ _ _ _ _ _ _ _)
   | (with_reducible exact ih3 _ _ _ _ _ _ _ _ _ _ _)
   | (with_reducible exact ih4 _ _ _ _ _ _ _ _ _ _ _ _ _ _ _ _ _ _ _ _ _)
   | (with_reducible exact ih5 _ _ _ _ _ _ _ _ _ _ _ _ _ _ _ _ _ _ _ _)
   | (with_reducible exact ih6 _ _ _ _ _ _ _ _ _ _ _ _ _ _ _ _ _ _ _ _ _)
   | (with_reducible exact ih7 _ _ _ _ _ _ _ _ _ _ _ _ _ _ _ _ _ _ _ _)
   | (with_reducible exact ih8 _ _ _ _ _ _ _ _ _ _ _ _ _ _ _ _ _ _ _ _ _)
   | (with_reducible exact ih9 _ _ _ _ _ _ _ _ _ _ _ _ _)
   | (with_reducible exact ih10 _ _ _ _ _ _ _ _ _ _ _ _ _ _ _)
   | (with_reducible exact spec_GetEntry.mono _ _)
   | (with_reducible exact spec_LoadWord.mono _ _ _ _ _)
   | (with_reducible exact spec_PutEntry.mono _ _ _ _ _ _ _ _ _ _)
   | (with_reducible exact spec_l1Pow.mono _ _)
   | (with_reducible exact spec_l6Kind.mono _ _ _)
   | (with_reducible exact spec_l6Pages.mono _ _)
   | (with_reducible exact spec_l6Set.mono _ _ _ _)
   | (with_reducible exact LeO.refl _)
   | (with_reducible exact LeO.none _)
   | (with_reducible refine LeO.ite ?_ ?_)
   | (with_reducible refine LeO.bind ?_ (fun _ => ?_))
   | exact ih0 _ _ _ _ _ _ _
   | exact ih1 _ _ _ _ _ _ _ _
   | exact ih2 _ _ _ _ _ _ _ _ _ _
   | exact ih3 _ _ _ _ _ _ _ _ _ _ _
   | exact ih4 _ _ _ _ _ _ _ _ _ _ _ _ _ _ _ _ _ _ _ _ _
   | exact ih5 _ _ _ _ _ _ _ _ _ _ _ _ _ _ _ _ _ _ _ _
   | exact ih6 _ _ _ _ _ _ _ _ _ _ _ _ _ _ _ _ _ _ _ _ _
   | exact ih7 _ _ _ _ _ _ _ _ _ _ _ _ _ _ _ _ _ _ _ _
   | exact ih8 _ _ _ _ _ _ _ _ _ _ _ _ _ _ _ _ _ _ _ _ _
   | exact ih9 _ _ _ _ _ _ _ _ _ _ _ _ _
   | exact ih10 _ _ _ _ _ _ _ _ _ _ _ _ _ _ _
   | exact spec_GetEntry.mono _ _
   | exact spec_LoadWord.mono _ _ _ _ _
   | exact spec_PutEntry.mono _ _ _ _ _ _ _ _ _ _
   | exact spec_l1Pow.mono _ _
   | exact spec_l6Kind.mono _ _ _
   | exact spec_l6Pages.mono _ _
   | exact spec_l6Set.mono _ _ _ _
   | exact LeO.none _
   | refine LeO.ite ?_ ?_
   | refine LeO.bind ?_ (fun _ => ?_)
  ·intro y0 y1 y2 y3 y4 y5 y6 y7 y8 y9 y10 y11 y12 y13 y14 y15 y16 y17 y18 y19
   unfold spec_l6DrawTables.j7
   repeat' first
   | (with_reducible exact ih0 _ _ _ _ _ _ _)
   | (with_reducible exact ih1 _ _ _ _ _ _ _ _)
   | (with_reducible exact ih2 _ _ _ _ _ _ _ _ _ _)
   | (with_reducible exact ih3 _ _ _ _ _ _ _ _ _ _ _)
   | (with_reducible exact ih4 _ _ _ _ _ _ _ _ _ _ _ _ _ _ _ _ _ _ _ _ _)
   | (with_reducible exact ih5 _ _ _ _ _ _ _ _ _ _ _ _ _ _ _ _ _ _ _ _)
   | (with_reducible exact ih6 _ _ _ _ _ _ _ _ _ _ _ _ _ _ _ _ _ _ _ _ _)
   | (with_reducible exact ih7 _ _ _ _ _ _ _ _ _ _ _ _ _ _ _ _ _ _ _ _)
   | (with_reducible exact ih8 _ _ _ _ _ _ _ _ _ _ _ _ _ _ _ _ _ _ _ _ _)
   | (with_reducible exact ih9 _ _ _ _ _ _ _ _ _ _ _ _ _)
   | (with_reducible exact ih10 _ _ _ _ _ _ _ _ _ _ _ _ _ _ _)
   | (with_reducible exact spec_GetEntry.mono _ _)
   | (with_reducible exact spec_LoadWord.mono _ _ _ _ _)
   | (with_reducible exact spec_PutEntry.mono _ _ _ _ _ _ _ _ _ _)
   | (with_reducible exact spec_l1Pow.mono _ _)
   | (with_reducible exact spec_l6Kind.mono _ _ _)
   | (with_reducible exact spec_l6Pages.mono _ _)
   | (with_reducible exact spec_l6Set.mono _ _ _ _)
   | (with_reducible exact LeO.refl _)
   | (with_reducible exact LeO.none _)
   | (with_reducible refine LeO.ite ?_ ?_)
   | (with_reducible refine LeO.bind ?_ (fun _ => ?_))
   | exact ih0 _ _ _ _ _ _ _
   | exact ih1 _ _ _ _ _ _ _ _
   | exact ih2 _ _ _ _ _ _ _ _ _ _
   | exact ih3 _ _ _ _ _ _ _ _ _ _ _
   | exact ih4 _ _ _ _ _ _ _ _ _ _ _ _ _ _ _ _ _ _ _ _ _
   | exact ih5 _ _ _ _ _ _ _ _ _ _ _ _ _ _ _ _ _ _ _ _
   | exact ih6 _ _ _ _ _ _ _ _ _ _ _ _ _ _ _ _ _ _ _ _ _
   | exact ih7 _ _ _ _ _ _ _ _ _ _ _ _ _ _ _ _ _ _ _ _
   | exact ih8 _ _ _ _ _ _ _ _ _ _ _ _ _ _ _ _ _ _ _ _ _
   | exact ih9 _ _ _ _ _ _ _ _ _ _ _ _ _
   | exact ih10 _ _ _ _ _ _ _ _ _ _ _ _ _ _ _
   | exact spec_GetEntry.mono _ _
   | exact spec_LoadWord.mono _ _ _ _ _
   | exact spec_PutEntry.mono _ _ _ _ _ _ _ _ _ _
   | exact spec_l1Pow.mono _ _
   | exact spec_l6Kind.mono _ _ _
   | exact spec_l6Pages.mono _ _
   | exact spec_l6Set.mono _ _ _ _
   | exact LeO.none _
   | refine LeO.ite ?_ ?_
   | refine LeO.bind ?_ (fun _ => ?_)
  ·intro y0 y1 y2 y3 y4 y5 y6 y7 y8 y9 y10 y11 y12 y13 y14 y15 y16 y17 y18 y19 y20
   unfold spec_l6DrawTables.j8
   repeat' first
   | (with_reducible exact ih0 _ _ _ _ _ _ _)
   | (with_reducible exact ih1 _ _ _ _ _ _ _ _)
   | (with_reducible exact ih2 _ _ _ _ _ _ _ _ _ _)
   | (with_reducible exact ih3 _ _ _ _ _ _ _ _ _ _ _)
   | (with_reducible exact ih4 _ _ _ _ _ _ _ _ _ _ _ _ _ _ _ _ _ _ _ _ _)
   | (with_reducible exact ih5 _ _ _ _ _ _ _ _ _ _ _ _ _ _ _ _ _ _ _ _)
   | (with_reducible exact ih6 _ _ _ _ _ _ _ _ _ _ _ _ _ _ _ _ _ _ _ _ _)
   | (with_reducible exact ih7 _ _ _ _ _ _ _ _ _ _ _ _ _ _ _ _ _ _ _ _)
   | (with_reducible exact ih8 _ _ _ _ _ _ _ _ _ _ _ _ _ _ _ _ _ _ _ _ _)
   | (with_reducible exact ih9 _ _ _ _ _ _ _ _ _ _ _ _ _)
   | (with_reducible exact ih10 _ _ _ _ _ _ _ _ _ _ _ _ _ _ _)
   | (with_reducible exact spec_GetEntry.mono _ _)
   | (with_reducible exact spec_LoadWord.mono _ _ _ _ _)
   | (with_reducible exact spec_PutEntry.mono _ _ _ _ _ _ _ _ _ _)
   | (with_reducible exact spec_l1Pow.mono _ _)
   | (with_reducible exact spec_l6Kind.mono _ _ _)
   | (with_reducible exact spec_l6Pages.mono _ _)
   | (with_reducible exact spec_l6Set.mono _ _ _ _)
   | (with_reducible exact LeO.refl _)
   | (with_reducible exact LeO.none _)
   | (with_reducible refine LeO.ite ?_ ?_)
   | (with_reducible refine LeO.bind ?_ (fun _ => ?_))
   | exact ih0 _ _ _ _ _ _ _
   | exact ih1 _ _ _ _ _ _ _ _
   | exact ih2 _ _ _ _ _ _ _ _ _ _
   | exact ih3 _ _ _ _ _ _ _ _ _ _ _
   | exact ih4 _ _ _ _ _ _ _ _ _ _ _ _ _ _ _ _ _ _ _ _ _
   | exact ih5 _ _ _ _ _ _ _ _ _ _ _ _ _ _ _ _ _ _ _ _
   | exact ih6 _ _ _ _ _ _ _ _ _ _ _ _ _ _ _ _ _ _ _ _ _
   | exact ih7 _ _ _ _ _ _ _ _ _ _ _ _ _ _ _ _ _ _ _ _
   | exact ih8 _ _ _ _ _ _ _ _ _ _ _ _ _ _ _ _ _ _ _ _ _
   | exact ih9 _ _ _ _ _ _ _ _ _ _ _ _ _
   | exact ih10 _ _ _ _ _ _ _ _ _ _ _ _ _ _ _
   | exact spec_GetEntry.mono _ _
   | exact spec_LoadWord.mono _ _ _ _ _
   | exact spec_PutEntry.mono _ _ _ _ _ _ _ _ _ _
   | exact spec_l1Pow.mono _ _
   | exact spec_l6Kind.mono _ _ _
   | exact spec_l6Pages.mono _ _
   | exact spec_l6Set.mono _ _ _ _
   | exact LeO.none _
   | refine LeO.ite ?_ ?_
   | refine LeO.bind ?_ (fun _ => ?_)
  ·intro y0 y1 y2 y3 y4 y5 y6 y7 y8 y9 y10 y11 y12
   unfold spec_l6DrawTables.j9
   repeat' first
   | (with_reducible exact ih0 _ _ _ _ _ _ _)
   | (with_reducible exact ih1 _ _ _ _ _ _ _ _)
   | (with_reducible exact ih2 _ _ _ _ _ _ _ _ _ _)
   | (with_reducible exact ih3 _ _ _ _ _ _ _ _ _ _ _)
   | (with_reducible exact ih4 _ _ _ _ _ _ _ _ _ _ _ _ _ _ _ _ _ _ _ _ _)
   | (with_reducible exact ih5 _ _ _ _ _ _ _ _ _ _ _ _ _ _ _ _ _ _ _ _)
   | (with_reducible exact ih6 _ _ _ _ _ _ _ _ _ _ _ _ _ _ _ _ _ _ _ _ _)
   | (with_reducible exact ih7 _ _ _ _ _ _ _ _ _ _ _ _ _ _ _ _ _ _ _ _)
   | (with_reducible exact ih8 _ _ _ _ _ _ _ _ _ _ _ _ _ _ _ _ _ _ _ _ _)
   | (with_reducible exact ih9 _ _ _ _ _ _ _ _ _ _ _ _ _)
   | (with_reducible exact ih10 _ _ _ _ _ _ _ _ _ _ _ _ _ _ _)
   | (with_reducible exact spec_GetEntry.mono _ _)
   | (with_reducible exact spec_LoadWord.mono _ _ _ _ _)
   | (with_reducible exact spec_PutEntry.mono _ _ _ _ _ _ _ _ _ _)
   | (with_reducible exact spec_l1Pow.mono _ _)
   | (with_reducible exact spec_l6Kind.mono _ _ _)
   | (with_reducible exact spec_l6Pages.mono _ _)
   | (with_reducible exact spec_l6Set.mono _ _ _ _)
   | (with_reducible exact LeO.refl _)
   | (with_reducible exact LeO.none _)
   | (with_reducible refine LeO.ite ?_ ?_)
   | (with_reducible refine LeO.bind ?_ (fun _ => ?_))
   | exact ih0 _ _ _ _ _ _ _
   | exact ih1 _ _ _ _ _ _ _ _
   | exact ih2 _ _ _ _ _ _ _ _ _ _
   | exact ih3 _ _ _ _ _ _ _ _ _ _ _
   | exact ih4 _ _ _ _ _ _ _ _ _ _ _ _ _ _ _ _ _ _ _ _ _
   | exact ih5 _ _ _ _ _ _ _ _ _ _ _ _ _ _ _ _ _ _ _ _
   | exact ih6 _ _ _ _ _ _ _ _ _ _ _ _ _ _ _ _ _ _ _ _ _
   | exact ih7 _ _ _ _ _ _ _ _ _ _ _ _ _ _ _ _ _ _ _ _
   | exact ih8 _ _ _ _ _ _ _ _ _ _ _ _ _ _ _ _ _ _ _ _ _
   | exact ih9 _ _ _ _ _ _ _ _ _ _ _ _ _
   | exact ih10 _ _ _ _ _ _ _ _ _ _ _ _ _ _ _
   | exact spec_GetEntry.mono _ _
   | exact spec_LoadWord.mono _ _ _ _ _
   | exact spec_PutEntry.mono _ _ _ _ _ _ _ _ _ _
   | exact spec_l1Pow.mono _ _
   | exact spec_l6Kind.mono _ _ _
   | exact spec_l6Pages.mono _ _
   | exact spec_l6Set.mono _ _ _ _
   | exact LeO.none _
   | refine LeO.ite ?_ ?_
   | refine LeO.bind ?_ (fun _ => ?_)
  ·intro y0 y1 y2 y3 y4 y5 y6 y7 y8 y9 y10 y11 y12 y13 y14
   unfold spec_l6DrawTables.j10
   repeat' first
   | (with_reducible exact ih0 _ _ _ _ _ _ _)
   | (with_reducible exact ih1 _ _ _ _ _ _ _ _)
   | (with_reducible exact ih2 _ _ _ _ _ _ _ _ _ _)
   | (with_reducible exact ih3 _ _ _ _ _ _ _ _ _ _ _)
   | (with_reducible exact ih4 _ _ _ _ _ _ _ _ _ _ _ _ _ _ _ _ _ _ _ _ _)
   | (with_reducible exact ih5 _ _ _ _ _ _ _ _ _ _ _ _ _ _ _ _ _ _ _ _)
   | (with_reducible exact ih6 _ _ _ _ _ _ _ _ _ _ _ _ _ _ _ _ _ _ _ _ _)
   | (with_reducible exact ih7 _ _ _ _ _ _ _ _ _ _ _ _ _ _ _ _ _ _ _ _)
   | (with_reducible exact ih8 _ _ _ _ _ _ _ _ _ _ _ _ _ _ _ _ _ _ _ _ _)
   | (with_reducible exact ih9 _ _ _ _ _ _ _ _ _ _ _ _ _)
   | (with_reducible exact ih10 _ _ _ _ _ _ _ _ _ _ _ _ _ _ _)
   | (with_reducible exact spec_GetEntry.mono _ _)
   | (with_reducible exact spec_LoadWord.mono _ _ _ _ _)
   | (with_reducible exact spec_PutEntry.mono _ _ _ _ _ _ _ _ _ _)
   | (with_reducible exact spec_l1Pow.mono _ _)
   | (with_reducible exact spec_l6Kind.mono _ _ _)
   | (with_reducible exact spec_l6Pages.mono _ _)
   | (with_reducible exact spec_l6Set.mono _ _ _ _)
   | (with_reducible exact LeO.refl _)
   | (with_reducible exact LeO.none _)
   | (with_reducible refine LeO.ite ?_ ?_)
   | (with_reducible refine LeO.bind ?_ (fun _ => ?_))
   | exact ih0 _ _ _ _ _ _ _
   | exact ih1 _ _ _ _ _ _ _ _
   | exact ih2 _ _ _ _ _ _ _ _ _ _
   | exact ih3 _ _ _ _ _ _ _ _ _ _ _
   | exact ih4 _ _ _ _ _ _ _ _ _ _ _ _ _ _ _ _ _ _ _ _ _
   | exact ih5 _ _ _ _ _ _ _ _ _ _ _ _ _ _ _ _ _ _ _ _
   | exact ih6 _ _ _ _ _ _ _ _ _ _ _ _ _ _ _ _ _ _ _ _ _
   | exact ih7 _ _ _ _ _ _ _ _ _ _ _ _ _ _ _ _ _ _ _ _
   | exact ih8 _ _ _ _ _ _ _ _ _ _ _ _ _ _ _ _ _ _ _ _ _
   | exact ih9 _ _ _ _ _ _ _ _ _ _ _ _ _
   | exact ih10 _ _ _ _ _ _ _ _ _ _ _ _ _ _ _
   | exact spec_GetEntry.mono _ _
   | exact spec_LoadWord.mono _ _ _ _ _
   | exact spec_PutEntry.mono _ _ _ _ _ _ _ _ _ _
   | exact spec_l1Pow.mono _ _
   | exact spec_l6Kind.mono _ _ _
   | exact spec_l6Pages.mono _ _
   | exact spec_l6Set.mono _ _ _ _
   | exact LeO.none _
   | refine LeO.ite ?_ ?_
   | refine LeO.bind ?_ (fun _ => ?_)
theorem spec_l6DrawTables.mono : ∀ a0 a1 a2 k, LeO (spec_l6DrawTables.f k a0 a1 a2) (spec_l6DrawTables.f (k + 1) a0 a1 a2) := by
 intro a0 a1 a2 k
 obtain ⟨ih0, ih1, ih2, ih3, ih4, ih5, ih6, ih7, ih8, ih9, ih10⟩ := spec_l6DrawTables.mono_l k
 unfold spec_l6DrawTables.f
 repeat' first
   | (with_reducible exact ih0 _ _ _ _ _ _ _)
   | (with_reducible exact ih1 _ _ _ _ _ _ _ _)
   | (with_reducible exact ih2 _ _ _ _ _ _ _ _ _ _)
   | (with_reducible exact ih3 _ _ _ _ _ _ _ _ _ _ _)
   | (with_reducible exact ih4 _ _ _ _ _ _ _ _ _ _ _ _ _ _ _ _ _ _ _ _ _)
   | (with_reducible exact ih5 _ _ _ _ _ _ _ _ _ _ _ _ _ _ _ _ _ _ _ _)
   | (with_reducible exact ih6 _ _ _ _ _ _ _ _ _ _ _ _ _ _ _ _ _ _ _ _ _)
   | (with_reducible exact ih7 _ _ _ _ _ _ _ _ _ _ _ _ _ _ _ _ _ _ _ _)
   | (with_reducible exact ih8 _ _ _ _ _ _ _ _ _ _ _ _ _ _ _ _ _ _ _ _ _)
   | (with_reducible exact ih9 _ _ _ _ _ _ _ _ _ _ _ _ _)
   | (with_reducible exact ih10 _ _ _ _ _ _ _ _ _ _ _ _ _ _ _)
   | (with_reducible exact spec_GetEntry.mono _ _)
   | (with_reducible exact spec_LoadWord.mono _ _ _ _ _)
   | (with_reducible exact spec_PutEntry.mono _ _ _ _ _ _ _ _ _ _)
   | (with_reducible exact spec_l1Pow.mono _ _)
   | (with_reducible exact spec_l6Kind.mono _ _ _)
   | (with_reducible exact spec_l6Pages.mono _ _)
   | (with_reducible exact spec_l6Set.mono _ _ _ _)
   | (with_reducible exact LeO.refl _)
   | (with_reducible exact LeO.none _)
   | (with_reducible refine LeO.ite ?_ ?_)
   | (with_reducible refine LeO.bind ?_ (fun _ => ?_))
   | exact ih0 _ _ _ _ _ _ _
   | exact ih1 _ _ _ _ _ _ _ _
   | exact ih2 _ _ _ _ _ _ _ _ _ _
   | exact ih3 _ _ _ _ _ _ _ _ _ _ _
   | exact ih4 _ _ _ _ _ _ _ _ _ _ _ _ _ _ _ _ _ _ _ _ _
   | exact ih5 _ _ _ _ _ _ _ _ _ _ _ _ _ _ _ _ _ _ _ _
   | exact ih6 _ _ _ _ _ _ _ _ _ _ _ _ _ _ _ _ _ _ _ _ _
   | exact ih7 _ _ _ _ _ _ _ _ _ _ _ _ _ _ _ _ _ _ _ _
   | exact ih8 _ _ _ _ _ _ _ _ _ _ _ _ _ _ _ _ _ _ _ _ _
   | exact ih9 _ _ _ _ _ _ _ _ _ _ _ _ _
   | exact ih10 _ _ _ _ _ _ _ _ _ _ _ _ _ _ _
   | exact spec_GetEntry.mono _ _
   | exact spec_LoadWord.mono _ _ _ _ _
   | exact spec_PutEntry.mono _ _ _ _ _ _ _ _ _ _
   | exact spec_l1Pow.mono _ _
   | exact spec_l6Kind.mono _ _ _
   | exact spec_l6Pages.mono _ _
   | exact spec_l6Set.mono _ _ _ _
   | exact LeO.none _
   | refine LeO.ite ?_ ?_
   | refine LeO.bind ?_ (fun _ => ?_)
def spec_l6DrawTables.T20 : Bool × List (List Nat × List Nat) := (true, [([], []), ([], []), ([1], [1]), ([0, 2], [0, 2]), ([3], [3]), ([], []), ([5], [5]), ([6, 2], [6]), ([4, 7], [4, 7]), ([0, 1, 2, 3, 4, 5, 6, 7, 8], []), ([9, 8, 7, 0, 1, 2, 3, 4, 5, 6, 7, 8], [8, 9])])
def spec_l6DrawTables.B20 : List Nat := [0, 0, 2, 7, 15, 0, 32, 102, 255, 511, 1023]
theorem spec_l6DrawTables.tab20 : rtab .any (opsOf Try.f59 20) = spec_l6DrawTables.T20 := by kernel_rfl
theorem spec_l6DrawTables.bits20 : waitsOk spec_l6DrawTables.T20.2 spec_l6DrawTables.B20 = true := by kernel_rfl

end Go.Proofs.Ytdhafphhkokniaa.PFnLeavesFound
