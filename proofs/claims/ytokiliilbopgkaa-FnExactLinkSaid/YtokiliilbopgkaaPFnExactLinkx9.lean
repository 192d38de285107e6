-- Written by a program of this session out of the translation. Not trusted: Lean checks it.
import Derived.Test.YtokiliilbopgkaaPFnExactLinkx0
import Derived.Test.YtokiliilbopgkaaPFnExactLinkx1
import Derived.Test.YtokiliilbopgkaaPFnExactLinkx2
import Derived.Test.YtokiliilbopgkaaPFnExactLinkx4
import Derived.Test.YtokiliilbopgkaaPFnExactLinkx5
import Derived.Test.YtokiliilbopgkaaPFnExactLinkx7
import Derived.Test.YtokiliilbopgkaaPFnExactLinkx8
namespace Go.Proofs.Ytokiliilbopgkaa.PFnExactLink
open Go.RowKit Go.Proofs.YtokiliilbopgkaaW.PrintWords Go.Proofs.YtokiliilbopgkaaW.PrintLast Go.Proofs.YtokiliilbopgkaaW.PrintMore
attribute [local go_sem] max2_int min2_int max_two min_two max_three min_three max_four min_four   -- for this text's walks alone
set_option linter.unusedVariables false
set_option linter.unusedSimpArgs false
/-- Two rows of rows of one type, the one elder: a number parts their blocks. -/
theorem S_ages_ {α : Type} {d : Kd α} {e b : Nat} {W w1 : World} {ok okv : Nat → Prop} {u v : Value} {xs ys : List α} (hu : Kd.S d e W b ok u xs) (hv : Kd.S d e w1 W.heap.size okv v ys) (hb : Below W.heap.size W w1) : ∃ N, Kd.S d e w1 b (fun k => ok k ∧ (some k ≠ v.ownBlock ∧ k < N)) u xs ∧ Kd.S d e w1 W.heap.size (fun k => okv k ∧ (some k ≠ u.ownBlock ∧ N ≤ k)) v ys :=
  ⟨W.heap.size, Kd.S_mono (Kd.S_elder' (Kd.S_bound hu) (Kd.S_base hv) hb) (fun k hk => ⟨hk.1.1, hk.2, hk.1.2.2.1⟩), Kd.S_mono (Kd.S_bound hv) (fun k hk => ⟨hk.1, fun he => absurd (Kd.S_lt hu k he.symm) (Nat.not_lt.2 hk.2.1), hk.2.1⟩)⟩
theorem Z9_95 {P : Prop} (h : P := by decide) : P := h
theorem Z9_94 {P : Prop} (h : P := by (with_reducible repeat (first | apply Kd.R_alloc | apply Kd.R_drewN | apply Kd.R_drew)); exact Kd.R_mono HO261.out (fun _ hk => hk.2.2)) : P := h
theorem Z9_93 {P : Prop} (h : P := by (with_reducible repeat (first | apply Kd.R_alloc | apply Kd.R_drewN | apply Kd.R_drew)); exact Kd.R_mono HO258.out (fun _ hk => hk.2.2)) : P := h
theorem Z9_92 {P : Prop} (h : P := by (with_reducible repeat (first | apply Kd.R_alloc | apply Kd.R_drewN | apply Kd.R_drew)); exact Kd.R_mono HO265.out (fun _ hk => trivial)) : P := h
theorem Z9_91 {P : Prop} (h : P := by (with_reducible repeat (first | apply Kd.S_alloc | apply Kd.S_drewN | apply Kd.S_drew)); exact Kd.S_mono HO251.out (fun _ hk => ⟨hk.1.2.2.1, ⟨hk.1.2.2.2, ⟨hk.2.1, hk.2.2⟩⟩⟩)) : P := h
theorem Z9_90 {P : Prop} (h : P := by repeat (first | exact (Kd.S_reads' HO_254001.out).2.2 | (with_reducible refine Kd.C_alloc ?_ _) | (with_reducible refine Kd.C_drewN ?_ _) | (with_reducible refine Kd.C_drew ?_))) : P := h
theorem Z9_89 {P : Prop} (h : P := by (with_reducible repeat (first | apply Kd.S_alloc | apply Kd.S_drewN | apply Kd.S_drew)); exact Kd.S_mono HO270.out (fun _ hk => ⟨hk.1.1.1.1.2.1, ⟨hk.1.2, ⟨hk.2, hk.1.1.1.1.2.2⟩⟩⟩)) : P := h
theorem Z9_88 {P : Prop} (h : P := by (try simp only [hl267002_66]); (try simp only [hl267003_66]); (try simp only [hl267005_66]); (with_reducible repeat (first | apply blk_drewN | apply blk_drew | apply blk_alloc)); exact BK312.out) : P := h
theorem Z9_87 {P : Prop} (h : P := by (try simp only [hl267002_66]); (try simp only [hl267003_66]); (try simp only [hl267005_66]); (with_reducible repeat (first | apply blk_drewN | apply blk_drew | apply blk_alloc)); exact BK272.out) : P := h
theorem Z9_86 {P : Prop} (h : P := by (try simp only [hl267002_66]); (try simp only [hl267003_66]); (try simp only [hl267005_66]); (with_reducible repeat (first | apply blk_drewN | apply blk_drew | apply blk_alloc)); exact BK266.out) : P := h
theorem Z9_85 {P : Prop} (h : P := by (try simp only [hl267002_66]); (try simp only [hl267003_66]); (try simp only [hl267005_66]); (with_reducible repeat (first | apply blk_drewN | apply blk_drew | apply blk_alloc)); exact BK253.out) : P := h
theorem Z9_84 {P : Prop} (h : P := by (try simp only [hl267002_66]); (try simp only [hl267003_66]); (try simp only [hl267005_66]); (with_reducible repeat (first | apply blk_drewN | apply blk_drew | apply blk_alloc)); exact BK234.out) : P := h
theorem Z9_83 {P : Prop} (h : P := by kernel_rfl) : P := h
theorem Z9_82 {P : Prop} (h : P := by (with_reducible repeat (first | apply Kd.R_alloc | apply Kd.R_drewN | apply Kd.R_drew)); exact HO302.out) : P := h
theorem Z9_81 {P : Prop} (h : P := by (with_reducible repeat (first | apply Kd.R_alloc | apply Kd.R_drewN | apply Kd.R_drew)); exact HO299.out) : P := h
theorem Z9_80 {P : Prop} (h : P := by (with_reducible repeat (first | apply Kd.R_alloc | apply Kd.R_drewN | apply Kd.R_drew)); exact HO285.out) : P := h
theorem Z9_79 {P : Prop} (h : P := by (with_reducible repeat (first | apply Kd.R_alloc | apply Kd.R_drewN | apply Kd.R_drew)); exact HO281.out) : P := h
theorem Z9_78 {P : Prop} (h : P := by (with_reducible repeat (first | apply Kd.R_alloc | apply Kd.R_drewN | apply Kd.R_drew)); exact HO278.out) : P := h
theorem Z9_77 {P : Prop} (h : P := by (with_reducible repeat (first | apply Kd.R_alloc | apply Kd.R_drewN | apply Kd.R_drew)); exact HO265.out) : P := h
theorem Z9_76 {P : Prop} (h : P := by first | (go_simp; done) | (go_simp; rfl)) : P := h
theorem Z9_75 {P : Prop} (h : P := by (try simp only [hl267002_66]); (try simp only [hl267003_66]); (try simp only [hl267005_66]); (with_reducible repeat (first | apply Kd.R_alloc | apply Kd.R_drewN | apply Kd.R_drew)); exact Kd.R_mono HO_267003.out (fun _ hk => hk.1.1)) : P := h
theorem Z9_74 {P : Prop} (h : P := by (try simp only [hl267002_66]); (try simp only [hl267003_66]); (try simp only [hl267005_66]); (with_reducible repeat (first | apply Kd.R_alloc | apply Kd.R_drewN | apply Kd.R_drew)); exact Kd.R_mono HO_267002.out (fun _ hk => hk.1.1)) : P := h
theorem Z9_73 {P : Prop} (h : P := by (try simp only [hl267002_66]); (try simp only [hl267003_66]); (try simp only [hl267005_66]); (with_reducible repeat (first | apply Kd.R_alloc | apply Kd.R_drewN | apply Kd.R_drew)); exact Kd.R_mono HO_267005.out (fun _ hk => trivial)) : P := h
theorem Z9_72 {P : Prop} (h : P := by rw [hg]; exact Nat.ne_of_gt (blk_lt (g := gb253) (o := .cells #[.int .i64 t248, .slice Ao24 t249.length co24] 29 (0, 0)) Z9_4)) : P := h
theorem Z9_71 {P : Prop} (h : P := by rw [hg]; exact Nat.ne_of_lt (blk_lt (g := gb253) (o := .cells #[.int .i64 t248, .slice Ao24 t249.length co24] 29 (0, 0)) Z9_4)) : P := h
theorem Z9_70 {P : Prop} (h : P := by (with_reducible repeat (first | apply Kd.R_alloc | apply Kd.R_drewN | apply Kd.R_drew)); exact Kd.R_mono HO_267003.out (fun _ hk => hk.1.1)) : P := h
theorem Z9_69 {P : Prop} (h : P := by (with_reducible repeat (first | apply Kd.R_alloc | apply Kd.R_drewN | apply Kd.R_drew)); exact Kd.R_mono HO_267002.out (fun _ hk => hk.1.1)) : P := h
theorem Z9_68 {P : Prop} (h : P := by (with_reducible repeat (first | apply Kd.R_alloc | apply Kd.R_drewN | apply Kd.R_drew)); exact Kd.R_mono HO_267005.out (fun _ hk => trivial)) : P := h
theorem Z9_67 {P : Prop} (h : P := by (try simp only [hl267002_66]); (try simp only [hl267003_66]); (try simp only [hl267005_66]); (with_reducible repeat (first | apply Kd.S_alloc | apply Kd.S_drewN | apply Kd.S_drew)); exact Kd.S_mono HO_273001.out (fun _ hk => ⟨hk.1.1.1.1, ⟨hk.1.1.1.2.1, ⟨hk.1.1.1.2.2, ⟨hk.2.1, hk.2.2⟩⟩⟩⟩)) : P := h
theorem Z9_66 {P : Prop} (h : P := by (try simp only [hl267002_66]); (try simp only [hl267003_66]); (try simp only [hl267005_66]); (with_reducible repeat (first | apply Kd.S_alloc | apply Kd.S_drewN | apply Kd.S_drew)); exact Kd.S_mono HO_254001.out (fun _ hk => ⟨hk.1.1.1.1, ⟨hk.1.1.1.2.1, ⟨hk.1.1.1.2.2.1, ⟨hk.2.1, ⟨hk.1.1.1.2.2.2, hk.2.2⟩⟩⟩⟩⟩)) : P := h
theorem Z9_65 {P : Prop} (h : P := by (with_reducible repeat (first | apply Kd.R_alloc | apply Kd.R_drewN | apply Kd.R_drew)); exact HO261.out) : P := h
theorem Z9_64 {P : Prop} (h : P := by (with_reducible repeat (first | apply Kd.R_alloc | apply Kd.R_drewN | apply Kd.R_drew)); exact HO258.out) : P := h
theorem Z9_63 {P : Prop} (h : P := by (with_reducible repeat (first | apply Kd.S_alloc | apply Kd.S_drewN | apply Kd.S_drew)); exact HO251.out) : P := h
theorem Z9_62 {P : Prop} (h : P := by (try simp only [hl267002_66]); (try simp only [hl267003_66]); (try simp only [hl267005_66]); (with_reducible repeat (first | apply Kd.S_alloc | apply Kd.S_drewN | apply Kd.S_drew)); exact Kd.S_mono HO310.out (fun _ hk => ⟨hk.1.1.1.1.1.2.1, ⟨hk.1.1.1.2, ⟨hk.1.1.2, ⟨hk.1.1.1.1.2.1, ⟨hk.1.1.1.1.1.2.2, hk.1.1.1.1.2.2⟩⟩⟩⟩⟩)) : P := h
theorem Z9_61 {P : Prop} (h : P := by (with_reducible repeat (first | apply Kd.R_alloc | apply Kd.R_drewN | apply Kd.R_drew)); exact (Kd.R_mono (Kd.R_far (p := ⟨gb272, 1, none⟩) (Kd.R_far (p := ⟨gb272, 0, none⟩) (Kd.R_types HO265.out BK272.out (by decide)) (fun _ hk => hk.2) (.int .i64 t267)) (fun _ hk => hk.2) (.slice Ao43 t268.length co43)) (fun _ h_ => h_.1))) : P := h
theorem Z9_60 {P : Prop} (h : P := by (with_reducible repeat (first | apply Kd.R_alloc | apply Kd.R_drewN | apply Kd.R_drew)); exact (Kd.R_mono (Kd.R_far (p := ⟨gb272, 1, none⟩) (Kd.R_far (p := ⟨gb272, 0, none⟩) (Kd.R_types HO261.out BK272.out (by decide)) (fun _ hk => hk.2) (.int .i64 t267)) (fun _ hk => hk.2) (.slice Ao43 t268.length co43)) (fun _ h_ => h_.1))) : P := h
theorem Z9_59 {P : Prop} (h : P := by (with_reducible repeat (first | apply Kd.R_alloc | apply Kd.R_drewN | apply Kd.R_drew)); exact (Kd.R_mono (Kd.R_far (p := ⟨gb272, 1, none⟩) (Kd.R_far (p := ⟨gb272, 0, none⟩) (Kd.R_types HO258.out BK272.out (by decide)) (fun _ hk => hk.2) (.int .i64 t267)) (fun _ hk => hk.2) (.slice Ao43 t268.length co43)) (fun _ h_ => h_.1))) : P := h
theorem Z9_58 {P : Prop} (h : P := by (with_reducible repeat (first | apply Kd.R_alloc | apply Kd.R_drewN | apply Kd.R_drew)); exact (Kd.R_mono (Kd.R_far (p := ⟨gb272, 1, none⟩) (Kd.R_far (p := ⟨gb272, 0, none⟩) (Kd.R_types HO247.out BK272.out (by decide)) (fun _ hk => hk.2) (.int .i64 t267)) (fun _ hk => hk.2) (.slice Ao43 t268.length co43)) (fun _ h_ => h_.1))) : P := h
theorem Z9_57 {P : Prop} (h : P := by (with_reducible repeat (first | apply Kd.R_alloc | apply Kd.R_drewN | apply Kd.R_drew)); exact (Kd.R_mono (Kd.R_far (p := ⟨gb272, 1, none⟩) (Kd.R_far (p := ⟨gb272, 0, none⟩) (Kd.R_types HO243.out BK272.out (by decide)) (fun _ hk => hk.2) (.int .i64 t267)) (fun _ hk => hk.2) (.slice Ao43 t268.length co43)) (fun _ h_ => h_.1))) : P := h
theorem Z9_56 {P : Prop} (h : P := by (with_reducible repeat (first | apply Kd.R_alloc | apply Kd.R_drewN | apply Kd.R_drew)); exact (Kd.R_mono (Kd.R_far (p := ⟨gb272, 1, none⟩) (Kd.R_far (p := ⟨gb272, 0, none⟩) (Kd.R_types HO240.out BK272.out (by decide)) (fun _ hk => hk.2) (.int .i64 t267)) (fun _ hk => hk.2) (.slice Ao43 t268.length co43)) (fun _ h_ => h_.1))) : P := h
theorem Z9_55 {P : Prop} (h : P := by (with_reducible repeat (first | apply Kd.R_alloc | apply Kd.R_drewN | apply Kd.R_drew)); exact (Kd.R_mono (Kd.R_far (p := ⟨gb253, 1, none⟩) (Kd.R_far (p := ⟨gb253, 0, none⟩) (Kd.R_types HO247.out BK253.out (by decide)) (fun _ hk => hk.2) (.int .i64 t248)) (fun _ hk => hk.2) (.slice Ao24 t249.length co24)) (fun _ h_ => h_.1))) : P := h
theorem Z9_54 {P : Prop} (h : P := by (with_reducible repeat (first | apply Kd.R_alloc | apply Kd.R_drewN | apply Kd.R_drew)); exact (Kd.R_mono (Kd.R_far (p := ⟨gb312, 1, none⟩) (Kd.R_far (p := ⟨gb312, 0, none⟩) (Kd.R_types HO306.out BK312.out (by decide)) (fun _ hk => hk.2) (.int .i64 t307)) (fun _ hk => hk.2) (.slice Ao129 t308.length co129)) (fun _ h_ => h_.1))) : P := h
theorem Z9_53 {P : Prop} (h : P := by (with_reducible repeat (first | apply Kd.R_alloc | apply Kd.R_drewN | apply Kd.R_drew)); exact (Kd.R_mono (Kd.R_far (p := ⟨gb312, 1, none⟩) (Kd.R_far (p := ⟨gb312, 0, none⟩) (Kd.R_types HO302.out BK312.out (by decide)) (fun _ hk => hk.2) (.int .i64 t307)) (fun _ hk => hk.2) (.slice Ao129 t308.length co129)) (fun _ h_ => h_.1))) : P := h
theorem Z9_52 {P : Prop} (h : P := by (with_reducible repeat (first | apply Kd.R_alloc | apply Kd.R_drewN | apply Kd.R_drew)); exact (Kd.R_mono (Kd.R_far (p := ⟨gb312, 1, none⟩) (Kd.R_far (p := ⟨gb312, 0, none⟩) (Kd.R_types HO299.out BK312.out (by decide)) (fun _ hk => hk.2) (.int .i64 t307)) (fun _ hk => hk.2) (.slice Ao129 t308.length co129)) (fun _ h_ => h_.1))) : P := h
theorem Z9_51 {P : Prop} (h : P := by (with_reducible repeat (first | apply Kd.S_alloc | apply Kd.S_drewN | apply Kd.S_drew)); exact (Kd.S_mono (Kd.S_far (p := ⟨gb312, 1, none⟩) (Kd.S_far (p := ⟨gb312, 0, none⟩) (Kd.S_types HO_273001.out BK312.out (by decide)) (fun _ hk => hk.2) (.int .i64 t307)) (fun _ hk => hk.2) (.slice Ao129 t308.length co129)) (fun _ h_ => h_.1))) : P := h
theorem Z9_50 {P : Prop} (h : P := by (with_reducible repeat (first | apply Kd.R_alloc | apply Kd.R_drewN | apply Kd.R_drew)); exact (Kd.R_mono (Kd.R_far (p := ⟨gb312, 1, none⟩) (Kd.R_far (p := ⟨gb312, 0, none⟩) (Kd.R_types HO_267005.out BK312.out (by decide)) (fun _ hk => hk.2) (.int .i64 t307)) (fun _ hk => hk.2) (.slice Ao129 t308.length co129)) (fun _ h_ => h_.1))) : P := h
theorem Z9_49 {P : Prop} (h : P := by (with_reducible repeat (first | apply Kd.R_alloc | apply Kd.R_drewN | apply Kd.R_drew)); exact (Kd.R_mono (Kd.R_far (p := ⟨gb312, 1, none⟩) (Kd.R_far (p := ⟨gb312, 0, none⟩) (Kd.R_types HO_267003.out BK312.out (by decide)) (fun _ hk => hk.2) (.int .i64 t307)) (fun _ hk => hk.2) (.slice Ao129 t308.length co129)) (fun _ h_ => h_.1))) : P := h
theorem Z9_48 {P : Prop} (h : P := by (with_reducible repeat (first | apply Kd.R_alloc | apply Kd.R_drewN | apply Kd.R_drew)); exact (Kd.R_mono (Kd.R_far (p := ⟨gb312, 1, none⟩) (Kd.R_far (p := ⟨gb312, 0, none⟩) (Kd.R_types HO_267002.out BK312.out (by decide)) (fun _ hk => hk.2) (.int .i64 t307)) (fun _ hk => hk.2) (.slice Ao129 t308.length co129)) (fun _ h_ => h_.1))) : P := h
theorem Z9_47 {P : Prop} (h : P := by (with_reducible repeat (first | apply blk_drewN | apply blk_drew | apply blk_alloc)); refine blk_far ?_ NB272_312.out _; (with_reducible repeat (first | apply blk_drewN | apply blk_drew | apply blk_alloc)); refine blk_far ?_ NB272_312.out _; (with_reducible repeat (first | apply blk_drewN | apply blk_drew | apply blk_alloc)); exact BK272.out) : P := h
theorem Z9_46 {P : Prop} (h : P := by (with_reducible repeat (first | apply blk_drewN | apply blk_drew | apply blk_alloc)); refine blk_far ?_ NB266_312.out _; (with_reducible repeat (first | apply blk_drewN | apply blk_drew | apply blk_alloc)); refine blk_far ?_ NB266_312.out _; (with_reducible repeat (first | apply blk_drewN | apply blk_drew | apply blk_alloc)); exact BK266.out) : P := h
theorem Z9_45 {P : Prop} (h : P := by (with_reducible repeat (first | apply blk_drewN | apply blk_drew | apply blk_alloc)); refine blk_far ?_ NB253_312.out _; (with_reducible repeat (first | apply blk_drewN | apply blk_drew | apply blk_alloc)); refine blk_far ?_ NB253_312.out _; (with_reducible repeat (first | apply blk_drewN | apply blk_drew | apply blk_alloc)); exact BK253.out) : P := h
theorem Z9_44 {P : Prop} (h : P := by (with_reducible repeat (first | apply blk_drewN | apply blk_drew | apply blk_alloc)); refine blk_far ?_ NB234_312.out _; (with_reducible repeat (first | apply blk_drewN | apply blk_drew | apply blk_alloc)); refine blk_far ?_ NB234_312.out _; (with_reducible repeat (first | apply blk_drewN | apply blk_drew | apply blk_alloc)); exact BK234.out) : P := h
theorem Z9_43 {P : Prop} (h : P := by (with_reducible repeat (first | apply blk_drewN | apply blk_drew | apply blk_alloc)); refine blk_far ?_ NB266_272.out _; (with_reducible repeat (first | apply blk_drewN | apply blk_drew | apply blk_alloc)); refine blk_far ?_ NB266_272.out _; (with_reducible repeat (first | apply blk_drewN | apply blk_drew | apply blk_alloc)); exact BK266.out) : P := h
theorem Z9_42 {P : Prop} (h : P := by (with_reducible repeat (first | apply blk_drewN | apply blk_drew | apply blk_alloc)); refine blk_far ?_ NB253_272.out _; (with_reducible repeat (first | apply blk_drewN | apply blk_drew | apply blk_alloc)); refine blk_far ?_ NB253_272.out _; (with_reducible repeat (first | apply blk_drewN | apply blk_drew | apply blk_alloc)); exact BK253.out) : P := h
theorem Z9_41 {P : Prop} (h : P := by (with_reducible repeat (first | apply blk_drewN | apply blk_drew | apply blk_alloc)); refine blk_far ?_ NB234_272.out _; (with_reducible repeat (first | apply blk_drewN | apply blk_drew | apply blk_alloc)); refine blk_far ?_ NB234_272.out _; (with_reducible repeat (first | apply blk_drewN | apply blk_drew | apply blk_alloc)); exact BK234.out) : P := h
theorem Z9_40 {P : Prop} (h : P := by (with_reducible repeat (first | apply Kd.S_alloc | apply Kd.S_drewN | apply Kd.S_drew)); exact Kd.S_mono HO_273001.out (fun _ hk => ⟨hk.1, ⟨hk.2.1, ⟨hk.2.2.1, hk.2.2.2.2.2⟩⟩⟩)) : P := h
theorem Z9_39 {P : Prop} (h : P := by (with_reducible repeat (first | apply Kd.S_alloc | apply Kd.S_drewN | apply Kd.S_drew)); exact Kd.S_mono HO_254001.out (fun _ hk => ⟨hk.1, ⟨hk.2.1, ⟨hk.2.2.1, hk.2.2.2.2.2⟩⟩⟩)) : P := h
theorem Z9_38 {P : Prop} (h : P := by (with_reducible repeat (first | apply blk_drewN | apply blk_drew | apply blk_alloc)); refine blk_put (cs := #[.int .i64 t307, .slice none 0 0]) ?_ 1 _ rfl; (with_reducible repeat (first | apply blk_drewN | apply blk_drew | apply blk_alloc)); refine blk_put (cs := #[.int .i64 0, .slice none 0 0]) ?_ 0 _ rfl; (with_reducible repeat (first | apply blk_drewN | apply blk_drew | apply blk_alloc)); exact BK312.out) : P := h
theorem Z9_37 {P : Prop} (h : P := by (with_reducible repeat (first | apply blk_drewN | apply blk_drew | apply blk_alloc)); refine blk_put (cs := #[.int .i64 t267, .slice none 0 0]) ?_ 1 _ rfl; (with_reducible repeat (first | apply blk_drewN | apply blk_drew | apply blk_alloc)); refine blk_put (cs := #[.int .i64 0, .slice none 0 0]) ?_ 0 _ rfl; (with_reducible repeat (first | apply blk_drewN | apply blk_drew | apply blk_alloc)); exact BK272.out) : P := h
theorem Z9_36 {P : Prop} (h : P := by (with_reducible repeat (first | apply Kd.R_alloc | apply Kd.R_drewN | apply Kd.R_drew)); exact HO247.out) : P := h
theorem Z9_35 {P : Prop} (h : P := by refine (Kd.S_reads' (e := 58) (base := w.heap.size) (ok := fun k_ => ((some k_ ≠ (.slice Ao17 t238.length co17 : Value).ownBlock ∧ (some k_ ≠ (.slice Ao18 t241.length co18 : Value).ownBlock ∧ (some k_ ≠ (.slice Ao31 t256.length co31 : Value).ownBlock ∧ some k_ ≠ (.slice Ao32 t259.length co32 : Value).ownBlock))) ∧ (some k_ ≠ (.slice Ao43 t268.length co43 : Value).ownBlock ∧ k_ < N37_))) (n := t249.length) (c := co24) ?_).2.2; exact Z9_17) : P := h
theorem Z9_34 {P : Prop} (h : P := by refine (Kd.S_reads' (e := 58) (base := w.heap.size) (ok := fun k_ => (((((True ∧ (some k_ ≠ (.slice Ao24 t249.length co24 : Value).ownBlock ∧ N37_ ≤ k_)) ∧ some k_ ≠ (.slice Ao17 t238.length co17 : Value).ownBlock) ∧ some k_ ≠ (.slice Ao18 t241.length co18 : Value).ownBlock) ∧ some k_ ≠ (.slice Ao31 t256.length co31 : Value).ownBlock) ∧ some k_ ≠ (.slice Ao32 t259.length co32 : Value).ownBlock)) (n := t268.length) (c := co43) ?_).2.2; exact Z9_16) : P := h
theorem Z9_33 {P : Prop} (h : P := by refine (Kd.S_reads' (e := 58) (base := w.heap.size) (ok := fun k_ => ((((some k_ ≠ (.slice Ao31 t288.length co31 : Value).ownBlock ∧ (some k_ ≠ (.slice Ao32 t289.length co32 : Value).ownBlock ∧ (some k_ ≠ (.slice Ao43 t268.length co43 : Value).ownBlock ∧ k_ < N37_))) ∧ some k_ ≠ (.slice Ao117 t297.length co117 : Value).ownBlock) ∧ some k_ ≠ (.slice Ao118 t300.length co118 : Value).ownBlock) ∧ (some k_ ≠ (.slice Ao129 t308.length co129 : Value).ownBlock ∧ k_ < N121_))) (n := t249.length) (c := co24) ?_).2.2; exact Z9_14) : P := h
theorem Z9_32 {P : Prop} (h : P := by first | rfl | exact congrArg (Value.int .i64) (i64_w _) | (simp; done) | (simp [*]; done)) : P := h
theorem Z9_31 {P : Prop} (h : P := by repeat (first | exact (Kd.S_reads' HO_273001.out).2.2 | (with_reducible refine Kd.C_alloc ?_ _) | (with_reducible refine Kd.C_drewN ?_ _) | (with_reducible refine Kd.C_drew ?_))) : P := h
theorem Z9_30 {P : Prop} (h : P := by refine (Kd.S_reads' (e := 58) (base := w.heap.size) (ok := fun k_ => ((((((True ∧ (some k_ ≠ (.slice Ao24 t249.length co24 : Value).ownBlock ∧ N121_ ≤ k_)) ∧ (some k_ ≠ (.slice Ao43 t268.length co43 : Value).ownBlock ∧ N122_ ≤ k_)) ∧ some k_ ≠ (.slice Ao31 t288.length co31 : Value).ownBlock) ∧ some k_ ≠ (.slice Ao32 t289.length co32 : Value).ownBlock) ∧ some k_ ≠ (.slice Ao117 t297.length co117 : Value).ownBlock) ∧ some k_ ≠ (.slice Ao118 t300.length co118 : Value).ownBlock)) (n := t308.length) (c := co129) ?_).2.2; exact Z9_15) : P := h
theorem Z9_29 {P : Prop} (h : P := by (with_reducible repeat (first | apply Kd.R_alloc | apply Kd.R_drewN | apply Kd.R_drew)); exact HO243.out) : P := h
theorem Z9_28 {P : Prop} (h : P := by (with_reducible repeat (first | apply Kd.R_alloc | apply Kd.R_drewN | apply Kd.R_drew)); exact HO240.out) : P := h
theorem Z9_27 {P : Prop} (h : P := by (with_reducible repeat (first | apply Kd.R_alloc | apply Kd.R_drewN | apply Kd.R_drew)); exact (Kd.R_mono (Kd.R_far (p := ⟨gb253, 1, none⟩) (Kd.R_far (p := ⟨gb253, 0, none⟩) (Kd.R_types HO243.out BK253.out (by decide)) (fun _ hk => hk.2) (.int .i64 t248)) (fun _ hk => hk.2) (.slice Ao24 t249.length co24)) (fun _ h_ => h_.1))) : P := h
theorem Z9_26 {P : Prop} (h : P := by (with_reducible repeat (first | apply Kd.R_alloc | apply Kd.R_drewN | apply Kd.R_drew)); exact (Kd.R_mono (Kd.R_far (p := ⟨gb253, 1, none⟩) (Kd.R_far (p := ⟨gb253, 0, none⟩) (Kd.R_types HO240.out BK253.out (by decide)) (fun _ hk => hk.2) (.int .i64 t248)) (fun _ hk => hk.2) (.slice Ao24 t249.length co24)) (fun _ h_ => h_.1))) : P := h
theorem Z9_25 {P : Prop} (h : P := by rw [hg]; exact Nat.ne_of_gt (blk_lt (g := gb234) (o := .cells #[.int .i64 a0_0, .int .i64 a0_1, .slice A0_2 l0_2.length c0_2, .slice A0_3 l0_3.length c0_3, .int .i64 a0_4, .slice A0_5 l0_5.length c0_5] 45 (0, 0)) Z9_2)) : P := h
theorem Z9_24 {P : Prop} (h : P := by rw [hg]; exact Nat.ne_of_lt (blk_lt (g := gb234) (o := .cells #[.int .i64 a0_0, .int .i64 a0_1, .slice A0_2 l0_2.length c0_2, .slice A0_3 l0_3.length c0_3, .int .i64 a0_4, .slice A0_5 l0_5.length c0_5] 45 (0, 0)) Z9_2)) : P := h
theorem Z9_23 {P : Prop} (h : P := by repeat (first | (with_reducible first | exact HB.out | apply below_alloc | apply pw_below_drewN | apply below_drew1) | exact HB.out)) : P := h
theorem Z9_22 {P : Prop} (h : P := by repeat (first | exact (Kd.C_below HR0_5.out HB.out) | (with_reducible refine Kd.C_alloc ?_ _) | (with_reducible refine Kd.C_drewN ?_ _) | (with_reducible refine Kd.C_drew ?_))) : P := h
theorem Z9_21 {P : Prop} (h : P := by repeat (first | exact (Kd.C_below HR0_3.out HB.out) | (with_reducible refine Kd.C_alloc ?_ _) | (with_reducible refine Kd.C_drewN ?_ _) | (with_reducible refine Kd.C_drew ?_))) : P := h
theorem Z9_20 {P : Prop} (h : P := by repeat (first | exact (Kd.C_below HR0_2.out HB.out) | (with_reducible refine Kd.C_alloc ?_ _) | (with_reducible refine Kd.C_drewN ?_ _) | (with_reducible refine Kd.C_drew ?_))) : P := h
theorem Z9_19 {P : Prop} (h : P := by (with_reducible repeat (first | apply Kd.S_alloc | apply Kd.S_drewN | apply Kd.S_drew)); exact HO_273001.out) : P := h
theorem Z9_18 {P : Prop} (h : P := by (with_reducible repeat (first | apply Kd.S_alloc | apply Kd.S_drewN | apply Kd.S_drew)); exact HO_254001.out) : P := h
theorem Z9_17 {P : Prop} (h : P := by (with_reducible repeat (first | apply Kd.S_alloc | apply Kd.S_drewN | apply Kd.S_drew)); exact (Kd.S_mono (Kd.S_far (p := ⟨gb272, 1, none⟩) (Kd.S_far (p := ⟨gb272, 0, none⟩) (Kd.S_types HO251.out BK272.out (by decide)) (fun _ hk => hk.2) (.int .i64 t267)) (fun _ hk => hk.2) (.slice Ao43 t268.length co43)) (fun _ h_ => h_.1))) : P := h
theorem Z9_16 {P : Prop} (h : P := by (with_reducible repeat (first | apply Kd.S_alloc | apply Kd.S_drewN | apply Kd.S_drew)); exact (Kd.S_mono (Kd.S_far (p := ⟨gb272, 1, none⟩) (Kd.S_far (p := ⟨gb272, 0, none⟩) (Kd.S_types HO270.out BK272.out (by decide)) (fun _ hk => hk.2) (.int .i64 t267)) (fun _ hk => hk.2) (.slice Ao43 t268.length co43)) (fun _ h_ => h_.1))) : P := h
theorem Z9_15 {P : Prop} (h : P := by (with_reducible repeat (first | apply Kd.S_alloc | apply Kd.S_drewN | apply Kd.S_drew)); exact (Kd.S_mono (Kd.S_far (p := ⟨gb312, 1, none⟩) (Kd.S_far (p := ⟨gb312, 0, none⟩) (Kd.S_types HO310.out BK312.out (by decide)) (fun _ hk => hk.2) (.int .i64 t307)) (fun _ hk => hk.2) (.slice Ao129 t308.length co129)) (fun _ h_ => h_.1))) : P := h
theorem Z9_14 {P : Prop} (h : P := by (with_reducible repeat (first | apply Kd.S_alloc | apply Kd.S_drewN | apply Kd.S_drew)); exact (Kd.S_mono (Kd.S_far (p := ⟨gb312, 1, none⟩) (Kd.S_far (p := ⟨gb312, 0, none⟩) (Kd.S_types HO_254001.out BK312.out (by decide)) (fun _ hk => hk.2) (.int .i64 t307)) (fun _ hk => hk.2) (.slice Ao129 t308.length co129)) (fun _ h_ => h_.1))) : P := h
theorem Z9_13 {P : Prop} (h : P := by (with_reducible repeat (first | apply Kd.R_alloc | apply Kd.R_drewN | apply Kd.R_drew)); exact HO_267005.out) : P := h
theorem Z9_12 {P : Prop} (h : P := by repeat (first | (with_reducible first | exact HB.out | apply below_alloc | apply pw_below_drewN | apply below_drew1 | refine below_set ?_ GE234.out | refine below_set ?_ GE253.out | refine below_set ?_ GE266.out) | exact HB.out)) : P := h
theorem Z9_11 {P : Prop} (h : P := by (with_reducible repeat (first | apply Kd.R_alloc | apply Kd.R_drewN | apply Kd.R_drew)); exact HO_267003.out) : P := h
theorem Z9_10 {P : Prop} (h : P := by (with_reducible repeat (first | apply Kd.R_alloc | apply Kd.R_drewN | apply Kd.R_drew)); exact HO_267002.out) : P := h
theorem Z9_9 {P : Prop} (h : P := by repeat (first | (with_reducible first | exact HB.out | apply below_alloc | apply pw_below_drewN | apply below_drew1 | refine below_set ?_ GE234.out | refine below_set ?_ GE253.out | refine below_set ?_ GE266.out | refine below_set ?_ GE272.out | refine below_set ?_ GE312.out) | exact HB.out)) : P := h
theorem Z9_8 {P : Prop} (h : P := by (with_reducible repeat (first | apply blk_drewN | apply blk_drew | apply blk_alloc)); exact BK272.out) : P := h
theorem Z9_7 {P : Prop} (h : P := by repeat (first | (with_reducible first | exact HB.out | apply below_alloc | apply pw_below_drewN | apply below_drew1 | refine below_set ?_ GE234.out | refine below_set ?_ GE253.out) | exact HB.out)) : P := h
theorem Z9_6 {P : Prop} (h : P := by repeat (first | (with_reducible first | exact HB.out | apply below_alloc | apply pw_below_drewN | apply below_drew1 | refine below_set ?_ GE234.out) | exact HB.out)) : P := h
theorem Z9_5 {P : Prop} (h : P := by (with_reducible repeat (first | apply blk_drewN | apply blk_drew | apply blk_alloc)); exact BK266.out) : P := h
theorem Z9_4 {P : Prop} (h : P := by (with_reducible repeat (first | apply blk_drewN | apply blk_drew | apply blk_alloc)); exact BK253.out) : P := h
theorem Z9_3 {P : Prop} (h : P := by (try simp only [List.map_toArray, List.map_cons, List.map_nil]); first | done | rfl | (simp only [List.length_drop, List.length_take]; first | done | rfl)) : P := h
theorem Z9_2 {P : Prop} (h : P := by (with_reducible repeat (first | apply blk_drewN | apply blk_drew | apply blk_alloc)); exact BK234.out) : P := h
theorem Z9_1 {P : Prop} (h : P := by repeat (first | (with_reducible first | exact HB.out | apply below_alloc | apply pw_below_drewN | apply below_drew1 | refine below_set ?_ GE234.out | refine below_set ?_ GE253.out | refine below_set ?_ GE266.out | refine below_set ?_ GE272.out) | exact HB.out)) : P := h

/-! ### laws_FnExactLink: function 6 -/
mutual
def laws_FnExactLink.j0 : Nat → Bool → Bool → Bool → Int → Int → List Int → List Int → Int → List (S86) → Int → List (S58) → Int → Int → List Int → List Int → Int → List (S87) → Int → List (S58) → Option (Bool)
 | 0, _, _, _, _, _, _, _, _, _, _, _, _, _, _, _, _, _, _, _ => none
 | k + 1, x5, x8, x40, x235000, x235001, x235002, x235003, x235004, x235005, x254000, x254001, x267000, x267001, x267002, x267003, x267004, x267005, x273000, x273001 => if x40 = true then (none) else ((laws_toAsm.f k x235000 x235001 x235002 x235003 x235004 x235005).bind fun bt274 => ((laws_eqAsm.f k x267000 x267001 x267002 x267003 x267004 x267005 bt274.1 bt274.2.1 bt274.2.2.1 bt274.2.2.2.1 bt274.2.2.2.2.1 bt274.2.2.2.2.2).bind fun t286 => (if t286 = true then ((laws_markAsm.f k x267000 x267001 x267002 x267003 x267004 x267005 1).bind fun bt287 => (if bt287.1 < 0 then (laws_FnExactLink.j1 k x5 true x235000 x235001 x235002 x235003 x235004 x235005 x254000 x254001 x273000 x273001) else ((laws_eqImage.f k x273000 x273001 x254000 x254001).bind fun t291 => (if t291 = true then (laws_FnExactLink.j1 k x5 (x8 != x5) x235000 x235001 x235002 x235003 x235004 x235005 x254000 x254001 x273000 x273001) else (laws_FnExactLink.j1 k x5 true x235000 x235001 x235002 x235003 x235004 x235005 x254000 x254001 x273000 x273001))))) else (none))))
def laws_FnExactLink.j1 : Nat → Bool → Bool → Int → Int → List Int → List Int → Int → List (S86) → Int → List (S58) → Int → List (S58) → Option (Bool)
 | 0, _, _, _, _, _, _, _, _, _, _, _, _ => none
 | k + 1, x5, x61, x235000, x235001, x235002, x235003, x235004, x235005, x254000, x254001, x273000, x273001 => if x61 = true then (none) else ((laws_markImage.f k x273000 x273001 1).bind fun bt292 => ((laws_heldImage.f k x273000 bt292.2 1).bind fun t294 => (if t294 < 0 then (none) else (if t294 = bt292.1 then ((laws_toAsm.f k x235000 x235001 x235002 x235003 x235004 x235005).bind fun bt295 => ((impl_Link.f k bt295.1 bt295.2.1 bt295.2.2.1 bt295.2.2.2.1 bt295.2.2.2.2.1 bt295.2.2.2.2.2).bind fun bt307 => ((laws_eqImage.f k bt307.1 bt307.2.1 x254000 x254001).bind fun t313 => (if t313 = true then (laws_FnExactLink.j2 k bt292.1 (bt307.2.2 != x5) x273000 bt292.2) else (laws_FnExactLink.j2 k bt292.1 true x273000 bt292.2))))) else (none)))))
def laws_FnExactLink.j2 : Nat → Int → Bool → Int → List (S58) → Option (Bool)
 | 0, _, _, _, _ => none
 | k + 1, x10, x87, x273000, x273001 => if x87 = true then (none) else ((laws_heldImage.f k x273000 x273001 1).bind fun t314 => (if t314 < 0 then (none) else (if t314 = x10 then (some true) else (none))))
end
def laws_FnExactLink.f (k : Nat) (a0_0 : Int) (a0_1 : Int) (l0_2 : List Int) (l0_3 : List Int) (a0_4 : Int) (l0_5 : List (S86)) : Option (Bool) := (laws_szAsm.f k a0_0 a0_1 l0_2 l0_3 a0_4 l0_5 1048576).bind fun t235 => (if t235 < 0 then (some true) else ((laws_toAsm.f k a0_0 a0_1 l0_2 l0_3 a0_4 l0_5).bind fun bt236 => ((spec_Link.f k bt236.1 bt236.2.1 bt236.2.2.1 bt236.2.2.2.1 bt236.2.2.2.2.1 bt236.2.2.2.2.2).bind fun bt248 => ((laws_toAsm.f k a0_0 a0_1 l0_2 l0_3 a0_4 l0_5).bind fun bt254 => ((impl_Link.f k bt254.1 bt254.2.1 bt254.2.2.1 bt254.2.2.2.1 bt254.2.2.2.2.1 bt254.2.2.2.2.2).bind fun bt267 => ((laws_eqImage.f k bt267.1 bt267.2.1 bt248.1 bt248.2.1).bind fun t273 => (if t273 = true then (laws_FnExactLink.j0 k bt248.2.2 bt267.2.2 (bt267.2.2 != bt248.2.2) a0_0 a0_1 l0_2 l0_3 a0_4 l0_5 bt248.1 bt248.2.1 bt254.1 bt254.2.1 bt254.2.2.1 bt254.2.2.2.1 bt254.2.2.2.2.1 bt254.2.2.2.2.2 bt267.1 bt267.2.1) else (laws_FnExactLink.j0 k bt248.2.2 bt267.2.2 true a0_0 a0_1 l0_2 l0_3 a0_4 l0_5 bt248.1 bt248.2.1 bt254.1 bt254.2.1 bt254.2.2.1 bt254.2.2.2.1 bt254.2.2.2.2.1 bt254.2.2.2.2.2 bt267.1 bt267.2.1))))))))
theorem laws_FnExactLink.mono_l : ∀ k, (∀ y0 y1 y2 y3 y4 y5 y6 y7 y8 y9 y10 y11 y12 y13 y14 y15 y16 y17 y18, LeO (laws_FnExactLink.j0 k y0 y1 y2 y3 y4 y5 y6 y7 y8 y9 y10 y11 y12 y13 y14 y15 y16 y17 y18) (laws_FnExactLink.j0 (k + 1) y0 y1 y2 y3 y4 y5 y6 y7 y8 y9 y10 y11 y12 y13 y14 y15 y16 y17 y18)) ∧ (∀ y0 y1 y2 y3 y4 y5 y6 y7 y8 y9 y10 y11, LeO (laws_FnExactLink.j1 k y0 y1 y2 y3 y4 y5 y6 y7 y8 y9 y10 y11) (laws_FnExactLink.j1 (k + 1) y0 y1 y2 y3 y4 y5 y6 y7 y8 y9 y10 y11)) ∧ (∀ y0 y1 y2 y3, LeO (laws_FnExactLink.j2 k y0 y1 y2 y3) (laws_FnExactLink.j2 (k + 1) y0 y1 y2 y3))
 | 0 => ⟨fun _ _ _ _ _ _ _ _ _ _ _ _ _ _ _ _ _ _ _ r h => by simp [laws_FnExactLink.j0] at h, fun _ _ _ _ _ _ _ _ _ _ _ _ r h => by simp [laws_FnExactLink.j1] at h, fun _ _ _ _ r h => by simp [laws_FnExactLink.j2] at h⟩
 | k + 1 => by
  obtain ⟨ih0, ih1, ih2⟩ := laws_FnExactLink.mono_l k
  refine ⟨?_, ?_, ?_⟩
  ·intro y0 y1 y2 y3 y4 y5 y6 y7 y8 y9 y10 y11 y12 y13 y14 y15 y16 y17 y18
   unfold laws_FnExactLink.j0
   repeat' first
   | (with_reducible exact ih0 _ _ _ _ _ _ _ _ _ _ _ _ _ _ _ _ _ _ _)
   | (with_reducible exact ih1 _ _ _ _ _ _ _ _ _ _ _ _)
   | (with_reducible exact ih2 _ _ _ _)
   | (with_reducible exact impl_Link.mono _ _ _ _ _ _ _)
   | (with_reducible exact laws_eqAsm.mono _ _ _ _ _ _ _ _ _ _ _ _ _)
   | (with_reducible exact laws_eqImage.mono _ _ _ _ _)
   | (with_reducible exact laws_heldImage.mono _ _ _ _)
   | (with_reducible exact laws_markAsm.mono _ _ _ _ _ _ _ _)
   | (with_reducible exact laws_markImage.mono _ _ _ _)
   | (with_reducible exact laws_szAsm.mono _ _ _ _ _ _ _ _)
   | (with_reducible exact laws_toAsm.mono _ _ _ _ _ _ _)
   | (with_reducible exact spec_Link.mono _ _ _ _ _ _ _)
   | (with_reducible exact LeO.refl _)
   | (with_reducible exact LeO.none _)
   | (with_reducible refine LeO.ite ?_ ?_)
   | (with_reducible refine LeO.bind ?_ (fun _ => ?_))
   | exact ih0 _ _ _ _ _ _ _ _ _ _ _ _ _ _ _ _ _ _ _
   | exact ih1 _ _ _ _ _ _ _ _ _ _ _ _
   | exact ih2 _ _ _ _
   | exact impl_Link.mono _ _ _ _ _ _ _
   | exact laws_eqAsm.mono _ _ _ _ _ _ _ _ _ _ _ _ _
   | exact laws_eqImage.mono _ _ _ _ _
   | exact laws_heldImage.mono _ _ _ _
   | exact laws_markAsm.mono _ _ _ _ _ _ _ _
   | exact laws_markImage.mono _ _ _ _
   | exact laws_szAsm.mono _ _ _ _ _ _ _ _
   | exact laws_toAsm.mono _ _ _ _ _ _ _
   | exact spec_Link.mono _ _ _ _ _ _ _
   | exact LeO.none _
   | refine LeO.ite ?_ ?_
   | refine LeO.bind ?_ (fun _ => ?_)
  ·intro y0 y1 y2 y3 y4 y5 y6 y7 y8 y9 y10 y11
   unfold laws_FnExactLink.j1
   repeat' first
   | (with_reducible exact ih0 _ _ _ _ _ _ _ _ _ _ _ _ _ _ _ _ _ _ _)
   | (with_reducible exact ih1 _ _ _ _ _ _ _ _ _ _ _ _)
   | (with_reducible exact ih2 _ _ _ _)
   | (with_reducible exact impl_Link.mono _ _ _ _ _ _ _)
   | (with_reducible exact laws_eqAsm.mono _ _ _ _ _ _ _ _ _ _ _ _ _)
   | (with_reducible exact laws_eqImage.mono _ _ _ _ _)
   | (with_reducible exact laws_heldImage.mono _ _ _ _)
   | (with_reducible exact laws_markAsm.mono _ _ _ _ _ _ _ _)
   | (with_reducible exact laws_markImage.mono _ _ _ _)
   | (with_reducible exact laws_szAsm.mono _ _ _ _ _ _ _ _)
   | (with_reducible exact laws_toAsm.mono _ _ _ _ _ _ _)
   | (with_reducible exact spec_Link.mono _ _ _ _ _ _ _)
   | (with_reducible exact LeO.refl _)
   | (with_reducible exact LeO.none _)
   | (with_reducible refine LeO.ite ?_ ?_)
   | (with_reducible refine LeO.bind ?_ (fun _ => ?_))
   | exact ih0 _ _ _ _ _ _ _ _ _ _ _ _ _ _ _ _ _ _ _
   | exact ih1 _ _ _ _ _ _ _ _ _ _ _ _
   | exact ih2 _ _ _ _
   | exact impl_Link.mono _ _ _ _ _ _ _
   | exact laws_eqAsm.mono _ _ _ _ _ _ _ _ _ _ _ _ _
   | exact laws_eqImage.mono _ _ _ _ _
   | exact laws_heldImage.mono _ _ _ _
   | exact laws_markAsm.mono _ _ _ _ _ _ _ _
   | exact laws_markImage.mono _ _ _ _
   | exact laws_szAsm.mono _ _ _ _ _ _ _ _
   | exact laws_toAsm.mono _ _ _ _ _ _ _
   | exact spec_Link.mono _ _ _ _ _ _ _
   | exact LeO.none _
   | refine LeO.ite ?_ ?_
   | refine LeO.bind ?_ (fun _ => ?_)
  ·intro y0 y1 y2 y3
   unfold laws_FnExactLink.j2
   repeat' first
   | (with_reducible exact ih0 _ _ _ _ _ _ _ _ _ _ _ _ _ _ _ _ _ _ _)
   | (with_reducible exact ih1 _ _ _ _ _ _ _ _ _ _ _ _)
   | (with_reducible exact ih2 _ _ _ _)
   | (with_reducible exact impl_Link.mono _ _ _ _ _ _ _)
   | (with_reducible exact laws_eqAsm.mono _ _ _ _ _ _ _ _ _ _ _ _ _)
   | (with_reducible exact laws_eqImage.mono _ _ _ _ _)
   | (with_reducible exact laws_heldImage.mono _ _ _ _)
   | (with_reducible exact laws_markAsm.mono _ _ _ _ _ _ _ _)
   | (with_reducible exact laws_markImage.mono _ _ _ _)
   | (with_reducible exact laws_szAsm.mono _ _ _ _ _ _ _ _)
   | (with_reducible exact laws_toAsm.mono _ _ _ _ _ _ _)
   | (with_reducible exact spec_Link.mono _ _ _ _ _ _ _)
   | (with_reducible exact LeO.refl _)
   | (with_reducible exact LeO.none _)
   | (with_reducible refine LeO.ite ?_ ?_)
   | (with_reducible refine LeO.bind ?_ (fun _ => ?_))
   | exact ih0 _ _ _ _ _ _ _ _ _ _ _ _ _ _ _ _ _ _ _
   | exact ih1 _ _ _ _ _ _ _ _ _ _ _ _
   | exact ih2 _ _ _ _
   | exact impl_Link.mono _ _ _ _ _ _ _
   | exact laws_eqAsm.mono _ _ _ _ _ _ _ _ _ _ _ _ _
   | exact laws_eqImage.mono _ _ _ _ _
   | exact laws_heldImage.mono _ _ _ _
   | exact laws_markAsm.mono _ _ _ _ _ _ _ _
   | exact laws_markImage.mono _ _ _ _
   | exact laws_szAsm.mono _ _ _ _ _ _ _ _
   | exact laws_toAsm.mono _ _ _ _ _ _ _
   | exact spec_Link.mono _ _ _ _ _ _ _
   | exact LeO.none _
   | refine LeO.ite ?_ ?_
   | refine LeO.bind ?_ (fun _ => ?_)
theorem laws_FnExactLink.mono : ∀ a0 a1 a2 a3 a4 a5 k, LeO (laws_FnExactLink.f k a0 a1 a2 a3 a4 a5) (laws_FnExactLink.f (k + 1) a0 a1 a2 a3 a4 a5) := by
 intro a0 a1 a2 a3 a4 a5 k
 obtain ⟨ih0, ih1, ih2⟩ := laws_FnExactLink.mono_l k
 unfold laws_FnExactLink.f
 repeat' first
   | (with_reducible exact ih0 _ _ _ _ _ _ _ _ _ _ _ _ _ _ _ _ _ _ _)
   | (with_reducible exact ih1 _ _ _ _ _ _ _ _ _ _ _ _)
   | (with_reducible exact ih2 _ _ _ _)
   | (with_reducible exact impl_Link.mono _ _ _ _ _ _ _)
   | (with_reducible exact laws_eqAsm.mono _ _ _ _ _ _ _ _ _ _ _ _ _)
   | (with_reducible exact laws_eqImage.mono _ _ _ _ _)
   | (with_reducible exact laws_heldImage.mono _ _ _ _)
   | (with_reducible exact laws_markAsm.mono _ _ _ _ _ _ _ _)
   | (with_reducible exact laws_markImage.mono _ _ _ _)
   | (with_reducible exact laws_szAsm.mono _ _ _ _ _ _ _ _)
   | (with_reducible exact laws_toAsm.mono _ _ _ _ _ _ _)
   | (with_reducible exact spec_Link.mono _ _ _ _ _ _ _)
   | (with_reducible exact LeO.refl _)
   | (with_reducible exact LeO.none _)
   | (with_reducible refine LeO.ite ?_ ?_)
   | (with_reducible refine LeO.bind ?_ (fun _ => ?_))
   | exact ih0 _ _ _ _ _ _ _ _ _ _ _ _ _ _ _ _ _ _ _
   | exact ih1 _ _ _ _ _ _ _ _ _ _ _ _
   | exact ih2 _ _ _ _
   | exact impl_Link.mono _ _ _ _ _ _ _
   | exact laws_eqAsm.mono _ _ _ _ _ _ _ _ _ _ _ _ _
   | exact laws_eqImage.mono _ _ _ _ _
   | exact laws_heldImage.mono _ _ _ _
   | exact laws_markAsm.mono _ _ _ _ _ _ _ _
   | exact laws_markImage.mono _ _ _ _
   | exact laws_szAsm.mono _ _ _ _ _ _ _ _
   | exact laws_toAsm.mono _ _ _ _ _ _ _
   | exact spec_Link.mono _ _ _ _ _ _ _
   | exact LeO.none _
   | refine LeO.ite ?_ ?_
   | refine LeO.bind ?_ (fun _ => ?_)
set_option maxHeartbeats 8000000 in
set_option maxRecDepth 100000 in
theorem laws_FnExactLink.calls (k : Nat) (a0_0 : Int) (a0_1 : Int) (A0_2 : Option Addr) (c0_2 : Nat) (l0_2 : List Int) (A0_3 : Option Addr) (c0_3 : Nat) (l0_3 : List Int) (a0_4 : Int) (A0_5 : Option Addr) (c0_5 : Nat) (l0_5 : List (S86)) (r : Bool) (w : World) (hr0_2 : Kd.C (Kd.int .u8) w A0_2 l0_2.length l0_2) (hc0_2 : l0_2.length ≤ c0_2) (hr0_3 : Kd.C (Kd.int .u8) w A0_3 l0_3.length l0_3) (hc0_3 : l0_3.length ≤ c0_3) (hr0_5 : Kd.C k86 w A0_5 l0_5.length l0_5) (hc0_5 : l0_5.length ≤ c0_5) (h : laws_FnExactLink.f k a0_0 a0_1 l0_2 l0_3 a0_4 l0_5 = some r) :
  Calls Try.prog 6 #[.agg #[.int .i64 a0_0, .int .i64 a0_1, .slice A0_2 l0_2.length c0_2, .slice A0_3 l0_3.length c0_3, .int .i64 a0_4, .slice A0_5 l0_5.length c0_5]] w fun e w' => e = .returned (.bool r) ∧ Below w.heap.size w w' := by
 have hu45 := Try.underlying45
 have hu29 := Try.underlying29
 have hu51 := Try.underlying51
 have HR0_2 := Aside0.mk hr0_2
 have HC0_2 := Aside0.mk hc0_2
 clear hr0_2 hc0_2
 have HR0_3 := Aside0.mk hr0_3
 have HC0_3 := Aside0.mk hc0_3
 clear hr0_3 hc0_3
 have HR0_5 := Aside0.mk hr0_5
 have HC0_5 := Aside0.mk hc0_5
 clear hr0_5 hc0_5
 have HB := Aside0.mk (Below.refl w.heap.size w)
 have H : ((laws_szAsm.f k a0_0 a0_1 l0_2 l0_3 a0_4 l0_5 1048576).bind fun t235 => (if t235 < 0 then (some true) else ((laws_toAsm.f k a0_0 a0_1 l0_2 l0_3 a0_4 l0_5).bind fun bt236 => ((spec_Link.f k bt236.1 bt236.2.1 bt236.2.2.1 bt236.2.2.2.1 bt236.2.2.2.2.1 bt236.2.2.2.2.2).bind fun bt248 => ((laws_toAsm.f k a0_0 a0_1 l0_2 l0_3 a0_4 l0_5).bind fun bt254 => ((impl_Link.f k bt254.1 bt254.2.1 bt254.2.2.1 bt254.2.2.2.1 bt254.2.2.2.2.1 bt254.2.2.2.2.2).bind fun bt267 => ((laws_eqImage.f k bt267.1 bt267.2.1 bt248.1 bt248.2.1).bind fun t273 => (if t273 = true then (laws_FnExactLink.j0 k bt248.2.2 bt267.2.2 (bt267.2.2 != bt248.2.2) a0_0 a0_1 l0_2 l0_3 a0_4 l0_5 bt248.1 bt248.2.1 bt254.1 bt254.2.1 bt254.2.2.1 bt254.2.2.2.1 bt254.2.2.2.2.1 bt254.2.2.2.2.2 bt267.1 bt267.2.1) else (laws_FnExactLink.j0 k bt248.2.2 bt267.2.2 true a0_0 a0_1 l0_2 l0_3 a0_4 l0_5 bt248.1 bt248.2.1 bt254.1 bt254.2.1 bt254.2.2.1 bt254.2.2.2.1 bt254.2.2.2.2.1 bt254.2.2.2.2.2 bt267.1 bt267.2.1))))))))) = some r := h
 clear h
 replace H := Option.bind_eq_some_iff.mp H
 obtain ⟨t235, A20, H⟩ := H
 replace H : (if t235 < 0 then (some true) else ((laws_toAsm.f k a0_0 a0_1 l0_2 l0_3 a0_4 l0_5).bind fun bt236 => ((spec_Link.f k bt236.1 bt236.2.1 bt236.2.2.1 bt236.2.2.2.1 bt236.2.2.2.2.1 bt236.2.2.2.2.2).bind fun bt248 => ((laws_toAsm.f k a0_0 a0_1 l0_2 l0_3 a0_4 l0_5).bind fun bt254 => ((impl_Link.f k bt254.1 bt254.2.1 bt254.2.2.1 bt254.2.2.2.1 bt254.2.2.2.2.1 bt254.2.2.2.2.2).bind fun bt267 => ((laws_eqImage.f k bt267.1 bt267.2.1 bt248.1 bt248.2.1).bind fun t273 => (if t273 = true then (laws_FnExactLink.j0 k bt248.2.2 bt267.2.2 (bt267.2.2 != bt248.2.2) a0_0 a0_1 l0_2 l0_3 a0_4 l0_5 bt248.1 bt248.2.1 bt254.1 bt254.2.1 bt254.2.2.1 bt254.2.2.2.1 bt254.2.2.2.2.1 bt254.2.2.2.2.2 bt267.1 bt267.2.1) else (laws_FnExactLink.j0 k bt248.2.2 bt267.2.2 true a0_0 a0_1 l0_2 l0_3 a0_4 l0_5 bt248.1 bt248.2.1 bt254.1 bt254.2.1 bt254.2.2.1 bt254.2.2.2.1 bt254.2.2.2.2.1 bt254.2.2.2.2.2 bt267.1 bt267.2.1)))))))) = some r := H
 have A2 := Aside0.mk A20
 clear A20
 by_cases c3 : t235 < 0
 ·rw [if_pos c3] at H
  have c3b0 : decide (t235 < 0) = true := decide_eq_true c3
  clear c3
  obtain rfl := Option.some.inj H
  go_enter Try.func6, Try.ntmps6
  go_wp2_with (first | ((with_reducible refine gate_dst (N := 1) rfl ?_); refine box_event ?hg (N := 1) ?hd (cs := #[.int .i64 a0_0, .int .i64 a0_1, .slice A0_2 l0_2.length c0_2, .slice A0_3 l0_3.length c0_3, .int .i64 a0_4, .slice A0_5 l0_5.length c0_5]) (t := 45) ?hr ?_; (case hd => rfl); (case hg => rfl); (case hr => exact Z9_76); intro gb234 hg w4 hbox hb; have n0_ := Aside0.mk (below_step Z9_23 hb); have n1_ := Aside0.mk (hbox); have n2_ := Aside0.mk ((by rw [hg]; exact (below_size Z9_23) : w.heap.size ≤ gb234)); have n3_ := Aside0.mk ((by rw [hg]; exact (below_size Z9_23) : w.heap.size ≤ gb234)); clear HB; have HB := n0_; have BK234 := n1_; have GW234 := n2_; have GE234 := n3_; clear n0_ n1_ n2_ n3_; clear hb hbox hg; have hcz5_0 : w4.cell? ⟨gb234, 0, none⟩ = some (.int .i64 a0_0) := (blk_cell BK234.out 0).trans rfl; have hcz5_1 : w4.cell? ⟨gb234, 1, none⟩ = some (.int .i64 a0_1) := (blk_cell BK234.out 1).trans rfl; have hcz5_2 : w4.cell? ⟨gb234, 2, none⟩ = some (.slice A0_2 l0_2.length c0_2) := (blk_cell BK234.out 2).trans rfl; have hcz5_3 : w4.cell? ⟨gb234, 3, none⟩ = some (.slice A0_3 l0_3.length c0_3) := (blk_cell BK234.out 3).trans rfl; have hcz5_4 : w4.cell? ⟨gb234, 4, none⟩ = some (.int .i64 a0_4) := (blk_cell BK234.out 4).trans rfl; have hcz5_5 : w4.cell? ⟨gb234, 5, none⟩ = some (.slice A0_5 l0_5.length c0_5) := (blk_cell BK234.out 5).trans rfl; have hfz5_0 := blk_frozen BK234.out 0; have hfz5_1 := blk_frozen BK234.out 1; have hfz5_2 := blk_frozen BK234.out 2; have hfz5_3 := blk_frozen BK234.out 3; have hfz5_4 := blk_frozen BK234.out 4; have hfz5_5 := blk_frozen BK234.out 5) | ((with_reducible refine gate_callee (f := 22) rfl ?_); refine goesL_ (some 16) rfl rfl Try.func22 Z9_83 rfl #[.agg #[.int .i64 a0_0, .int .i64 a0_1, .slice A0_2 l0_2.length c0_2, .slice A0_3 l0_3.length c0_3, .int .i64 a0_4, .slice A0_5 l0_5.length c0_5], .int .i64 1048576] rfl Z9_3 ?_; (with_reducible refine (laws_szAsm.calls k a0_0 a0_1 _ _ l0_2 _ _ l0_3 a0_4 _ _ l0_5 1048576 t235 _ ?side1 ?side2 ?side3 ?side4 ?side5 ?side6 A2.out).mono ?_); (case side1 => exact Z9_20); (case side2 => exact HC0_2.out); (case side3 => exact Z9_21); (case side4 => exact HC0_3.out); (case side5 => exact Z9_22); (case side6 => exact HC0_5.out); rintro e w6 ⟨rfl, hb⟩; refine ⟨_, rfl, ?_⟩; have n0_ := Aside0.mk (blk_below (g := gb234) (o := .cells #[.int .i64 a0_0, .int .i64 a0_1, .slice A0_2 l0_2.length c0_2, .slice A0_3 l0_3.length c0_3, .int .i64 a0_4, .slice A0_5 l0_5.length c0_5] 45 (0, 0)) Z9_2 hb); have n1_ := Aside0.mk (below_step Z9_6 hb); clear BK234; clear HB; have BK234 := n0_; have HB := n1_; clear n0_ n1_; (try clear hb); (try clear hb2); (try clear hk); (try clear hi)))
  go_ret
  exact ⟨by first | rfl | (simp [errW_none, errW_some] <;> rfl) | (simp [*, errW_none, errW_some] <;> rfl), Z9_6⟩
 rw [if_neg c3] at H
 have c3b0 : decide (t235 < 0) = false := decide_eq_false c3
 clear c3
 replace H := Option.bind_eq_some_iff.mp H
 obtain ⟨⟨t236, t237, t238, t241, t244, t245⟩, A70, H⟩ := H
 replace H : ((spec_Link.f k t236 t237 t238 t241 t244 t245).bind fun bt248 => ((laws_toAsm.f k a0_0 a0_1 l0_2 l0_3 a0_4 l0_5).bind fun bt254 => ((impl_Link.f k bt254.1 bt254.2.1 bt254.2.2.1 bt254.2.2.2.1 bt254.2.2.2.2.1 bt254.2.2.2.2.2).bind fun bt267 => ((laws_eqImage.f k bt267.1 bt267.2.1 bt248.1 bt248.2.1).bind fun t273 => (if t273 = true then (laws_FnExactLink.j0 k bt248.2.2 bt267.2.2 (bt267.2.2 != bt248.2.2) a0_0 a0_1 l0_2 l0_3 a0_4 l0_5 bt248.1 bt248.2.1 bt254.1 bt254.2.1 bt254.2.2.1 bt254.2.2.2.1 bt254.2.2.2.2.1 bt254.2.2.2.2.2 bt267.1 bt267.2.1) else (laws_FnExactLink.j0 k bt248.2.2 bt267.2.2 true a0_0 a0_1 l0_2 l0_3 a0_4 l0_5 bt248.1 bt248.2.1 bt254.1 bt254.2.1 bt254.2.2.1 bt254.2.2.2.1 bt254.2.2.2.2.1 bt254.2.2.2.2.2 bt267.1 bt267.2.1)))))) = some r := H
 have A7 := Aside0.mk A70
 clear A70
 replace H := Option.bind_eq_some_iff.mp H
 obtain ⟨⟨t248, t249, t252⟩, A80, H⟩ := H
 replace H : ((laws_toAsm.f k a0_0 a0_1 l0_2 l0_3 a0_4 l0_5).bind fun bt254 => ((impl_Link.f k bt254.1 bt254.2.1 bt254.2.2.1 bt254.2.2.2.1 bt254.2.2.2.2.1 bt254.2.2.2.2.2).bind fun bt267 => ((laws_eqImage.f k bt267.1 bt267.2.1 t248 t249).bind fun t273 => (if t273 = true then (laws_FnExactLink.j0 k t252 bt267.2.2 (bt267.2.2 != t252) a0_0 a0_1 l0_2 l0_3 a0_4 l0_5 t248 t249 bt254.1 bt254.2.1 bt254.2.2.1 bt254.2.2.2.1 bt254.2.2.2.2.1 bt254.2.2.2.2.2 bt267.1 bt267.2.1) else (laws_FnExactLink.j0 k t252 bt267.2.2 true a0_0 a0_1 l0_2 l0_3 a0_4 l0_5 t248 t249 bt254.1 bt254.2.1 bt254.2.2.1 bt254.2.2.2.1 bt254.2.2.2.2.1 bt254.2.2.2.2.2 bt267.1 bt267.2.1))))) = some r := H
 have A8 := Aside0.mk A80
 clear A80
 replace H := Option.bind_eq_some_iff.mp H
 obtain ⟨⟨t254, t255, t256, t259, t262, t263⟩, A90, H⟩ := H
 replace H : ((impl_Link.f k t254 t255 t256 t259 t262 t263).bind fun bt267 => ((laws_eqImage.f k bt267.1 bt267.2.1 t248 t249).bind fun t273 => (if t273 = true then (laws_FnExactLink.j0 k t252 bt267.2.2 (bt267.2.2 != t252) a0_0 a0_1 l0_2 l0_3 a0_4 l0_5 t248 t249 t254 t255 t256 t259 t262 t263 bt267.1 bt267.2.1) else (laws_FnExactLink.j0 k t252 bt267.2.2 true a0_0 a0_1 l0_2 l0_3 a0_4 l0_5 t248 t249 t254 t255 t256 t259 t262 t263 bt267.1 bt267.2.1)))) = some r := H
 have A9 := Aside0.mk A90
 clear A90
 replace H := Option.bind_eq_some_iff.mp H
 obtain ⟨⟨t267, t268, t271⟩, A100, H⟩ := H
 replace H : ((laws_eqImage.f k t267 t268 t248 t249).bind fun t273 => (if t273 = true then (laws_FnExactLink.j0 k t252 t271 (t271 != t252) a0_0 a0_1 l0_2 l0_3 a0_4 l0_5 t248 t249 t254 t255 t256 t259 t262 t263 t267 t268) else (laws_FnExactLink.j0 k t252 t271 true a0_0 a0_1 l0_2 l0_3 a0_4 l0_5 t248 t249 t254 t255 t256 t259 t262 t263 t267 t268))) = some r := H
 have A10 := Aside0.mk A100
 clear A100
 have HC11 := Aside0.mk H
 clear H
 go_enter Try.func6, Try.ntmps6
 go_upto_region 8 with (first | ((with_reducible refine gate_dst (N := 1) rfl ?_); refine box_event ?hg (N := 1) ?hd (cs := #[.int .i64 a0_0, .int .i64 a0_1, .slice A0_2 l0_2.length c0_2, .slice A0_3 l0_3.length c0_3, .int .i64 a0_4, .slice A0_5 l0_5.length c0_5]) (t := 45) ?hr ?_; (case hd => rfl); (case hg => rfl); (case hr => exact Z9_76); intro gb234 hg w12 hbox hb; have n0_ := Aside0.mk (below_step Z9_23 hb); have n1_ := Aside0.mk (hbox); have n2_ := Aside0.mk ((by rw [hg]; exact (below_size Z9_23) : w.heap.size ≤ gb234)); have n3_ := Aside0.mk ((by rw [hg]; exact (below_size Z9_23) : w.heap.size ≤ gb234)); clear HB; have HB := n0_; have BK234 := n1_; have GW234 := n2_; have GE234 := n3_; clear n0_ n1_ n2_ n3_; clear hb hbox hg; have hcz13_0 : w12.cell? ⟨gb234, 0, none⟩ = some (.int .i64 a0_0) := (blk_cell BK234.out 0).trans rfl; have hcz13_1 : w12.cell? ⟨gb234, 1, none⟩ = some (.int .i64 a0_1) := (blk_cell BK234.out 1).trans rfl; have hcz13_2 : w12.cell? ⟨gb234, 2, none⟩ = some (.slice A0_2 l0_2.length c0_2) := (blk_cell BK234.out 2).trans rfl; have hcz13_3 : w12.cell? ⟨gb234, 3, none⟩ = some (.slice A0_3 l0_3.length c0_3) := (blk_cell BK234.out 3).trans rfl; have hcz13_4 : w12.cell? ⟨gb234, 4, none⟩ = some (.int .i64 a0_4) := (blk_cell BK234.out 4).trans rfl; have hcz13_5 : w12.cell? ⟨gb234, 5, none⟩ = some (.slice A0_5 l0_5.length c0_5) := (blk_cell BK234.out 5).trans rfl; have hfz13_0 := blk_frozen BK234.out 0; have hfz13_1 := blk_frozen BK234.out 1; have hfz13_2 := blk_frozen BK234.out 2; have hfz13_3 := blk_frozen BK234.out 3; have hfz13_4 := blk_frozen BK234.out 4; have hfz13_5 := blk_frozen BK234.out 5) | ((with_reducible refine gate_callee (f := 22) rfl ?_); refine goesL_ (some 16) rfl rfl Try.func22 Z9_83 rfl #[.agg #[.int .i64 a0_0, .int .i64 a0_1, .slice A0_2 l0_2.length c0_2, .slice A0_3 l0_3.length c0_3, .int .i64 a0_4, .slice A0_5 l0_5.length c0_5], .int .i64 1048576] rfl Z9_3 ?_; (with_reducible refine (laws_szAsm.calls k a0_0 a0_1 _ _ l0_2 _ _ l0_3 a0_4 _ _ l0_5 1048576 t235 _ ?side1 ?side2 ?side3 ?side4 ?side5 ?side6 A2.out).mono ?_); (case side1 => exact Z9_20); (case side2 => exact HC0_2.out); (case side3 => exact Z9_21); (case side4 => exact HC0_3.out); (case side5 => exact Z9_22); (case side6 => exact HC0_5.out); rintro e w14 ⟨rfl, hb⟩; refine ⟨_, rfl, ?_⟩; have n0_ := Aside0.mk (blk_below (g := gb234) (o := .cells #[.int .i64 a0_0, .int .i64 a0_1, .slice A0_2 l0_2.length c0_2, .slice A0_3 l0_3.length c0_3, .int .i64 a0_4, .slice A0_5 l0_5.length c0_5] 45 (0, 0)) Z9_2 hb); have n1_ := Aside0.mk (below_step Z9_6 hb); clear BK234; clear HB; have BK234 := n0_; have HB := n1_; clear n0_ n1_; (try clear hb); (try clear hb2); (try clear hk); (try clear hi); have hcz15_0 : w14.cell? ⟨gb234, 0, none⟩ = some (.int .i64 a0_0) := (blk_cell BK234.out 0).trans rfl; have hcz15_1 : w14.cell? ⟨gb234, 1, none⟩ = some (.int .i64 a0_1) := (blk_cell BK234.out 1).trans rfl; have hcz15_2 : w14.cell? ⟨gb234, 2, none⟩ = some (.slice A0_2 l0_2.length c0_2) := (blk_cell BK234.out 2).trans rfl; have hcz15_3 : w14.cell? ⟨gb234, 3, none⟩ = some (.slice A0_3 l0_3.length c0_3) := (blk_cell BK234.out 3).trans rfl; have hcz15_4 : w14.cell? ⟨gb234, 4, none⟩ = some (.int .i64 a0_4) := (blk_cell BK234.out 4).trans rfl; have hcz15_5 : w14.cell? ⟨gb234, 5, none⟩ = some (.slice A0_5 l0_5.length c0_5) := (blk_cell BK234.out 5).trans rfl; have hfz15_0 := blk_frozen BK234.out 0; have hfz15_1 := blk_frozen BK234.out 1; have hfz15_2 := blk_frozen BK234.out 2; have hfz15_3 := blk_frozen BK234.out 3; have hfz15_4 := blk_frozen BK234.out 4; have hfz15_5 := blk_frozen BK234.out 5) | ((with_reducible refine gate_callee (f := 24) rfl ?_); refine goesL_ (some 21) rfl rfl Try.func24 Z9_83 rfl #[.agg #[.int .i64 a0_0, .int .i64 a0_1, .slice A0_2 l0_2.length c0_2, .slice A0_3 l0_3.length c0_3, .int .i64 a0_4, .slice A0_5 l0_5.length c0_5]] rfl Z9_3 ?_; (with_reducible refine (laws_toAsm.calls k a0_0 a0_1 _ _ l0_2 _ _ l0_3 a0_4 _ _ l0_5 t236 t237 t238 t241 t244 t245 _ ?side1 ?side2 ?side3 ?side4 ?side5 ?side6 A7.out).mono ?_); (case side1 => exact Z9_20); (case side2 => exact HC0_2.out); (case side3 => exact Z9_21); (case side4 => exact HC0_3.out); (case side5 => exact Z9_22); (case side6 => exact HC0_5.out); rintro e w16 ⟨v239, v242, v246, rfl, ho0, ho1, ho2, hb⟩; refine ⟨_, rfl, ?_⟩; have n0_ := Aside0.mk (Kd.R_lower ho0 (below_size Z9_6)); have n1_ := Aside0.mk (Kd.R_lower ho1 (below_size Z9_6)); have n2_ := Aside0.mk (Kd.R_lower ho2 (below_size Z9_6)); have n3_ := Aside0.mk (blk_below (g := gb234) (o := .cells #[.int .i64 a0_0, .int .i64 a0_1, .slice A0_2 l0_2.length c0_2, .slice A0_3 l0_3.length c0_3, .int .i64 a0_4, .slice A0_5 l0_5.length c0_5] 45 (0, 0)) Z9_2 hb); have n4_ := Aside0.mk (below_step Z9_6 hb); clear BK234; clear HB; have HO240 := n0_; have HO243 := n1_; have HO247 := n2_; have BK234 := n3_; have HB := n4_; clear n0_ n1_ n2_ n3_ n4_; (try clear hb); (try clear hb2 hk hi); (try clear ho0); (try clear ho1); (try clear ho2); obtain ⟨Ao17, co17, eo17⟩ := Kd.R_slice HO240.out; subst eo17; obtain ⟨Ao18, co18, eo18⟩ := Kd.R_slice HO243.out; subst eo18; obtain ⟨Ao19, co19, eo19⟩ := Kd.R_slice HO247.out; subst eo19) | ((with_reducible refine gate_callee (f := 23) rfl ?_); refine goesL_ (some 22) rfl rfl Try.func23 Z9_83 rfl #[.agg #[.int .i64 t236, .int .i64 t237, .slice Ao17 t238.length co17, .slice Ao18 t241.length co18, .int .i64 t244, .slice Ao19 t245.length co19]] rfl Z9_3 ?_; (with_reducible refine (spec_Link.calls k t236 t237 _ _ t238 _ _ t241 t244 _ _ t245 t248 t249 t252 _ ?side1 ?side2 ?side3 ?side4 ?side5 ?side6 A8.out).mono ?_); (case side1 => repeat (first | exact (Kd.R_reads' HO240.out).2.2 | (with_reducible refine Kd.C_alloc ?_ _) | (with_reducible refine Kd.C_drewN ?_ _) | (with_reducible refine Kd.C_drew ?_))); (case side2 => exact (Kd.R_reads' HO240.out).2.1); (case side3 => repeat (first | exact (Kd.R_reads' HO243.out).2.2 | (with_reducible refine Kd.C_alloc ?_ _) | (with_reducible refine Kd.C_drewN ?_ _) | (with_reducible refine Kd.C_drew ?_))); (case side4 => exact (Kd.R_reads' HO243.out).2.1); (case side5 => repeat (first | exact (Kd.R_reads' HO247.out).2.2 | (with_reducible refine Kd.C_alloc ?_ _) | (with_reducible refine Kd.C_drewN ?_ _) | (with_reducible refine Kd.C_drew ?_))); (case side6 => exact (Kd.R_reads' HO247.out).2.1); rintro e w20 ⟨v250, rfl, ho0, hb⟩; refine ⟨_, rfl, ?_⟩; have n0_ := Aside0.mk (Kd.R_below Z9_28 hb); have n1_ := Aside0.mk (Kd.R_below Z9_29 hb); have n2_ := Aside0.mk (Kd.R_below Z9_36 hb); have n3_ := Aside0.mk (Kd.S_lower (Kd.S_new' (Kd.S_new' ho0 (Kd.R_lt Z9_28)) (Kd.R_lt Z9_29)) (below_size Z9_6)); have n4_ := Aside0.mk (blk_below (g := gb234) (o := .cells #[.int .i64 a0_0, .int .i64 a0_1, .slice A0_2 l0_2.length c0_2, .slice A0_3 l0_3.length c0_3, .int .i64 a0_4, .slice A0_5 l0_5.length c0_5] 45 (0, 0)) Z9_2 hb); have n5_ := Aside0.mk (below_step Z9_6 hb); clear HO240; clear HO243; clear HO247; clear BK234; clear HB; have HO240 := n0_; have HO243 := n1_; have HO247 := n2_; have HO251 := n3_; have BK234 := n4_; have HB := n5_; clear n0_ n1_ n2_ n3_ n4_ n5_; (try clear hb); (try clear hb2 hk hi); (try clear ho0)) | ((with_reducible refine gate_dst (N := 4) rfl ?_); refine box_event ?hg (N := 4) ?hd (cs := #[.int .i64 0, .slice none 0 0]) (t := 29) ?hr ?_; (case hd => rfl); (case hg => rfl); (case hr => exact Z9_76); intro gb253 hg w21 hbox hb; have n0_ := Aside0.mk (Kd.R_below Z9_28 hb); have n1_ := Aside0.mk (Kd.R_below Z9_29 hb); have n2_ := Aside0.mk (Kd.R_below Z9_36 hb); have n3_ := Aside0.mk (Kd.S_below Z9_63 hb); have n4_ := Aside0.mk (blk_below (g := gb234) (o := .cells #[.int .i64 a0_0, .int .i64 a0_1, .slice A0_2 l0_2.length c0_2, .slice A0_3 l0_3.length c0_3, .int .i64 a0_4, .slice A0_5 l0_5.length c0_5] 45 (0, 0)) Z9_2 hb); have n5_ := Aside0.mk (below_step Z9_6 hb); have n6_ := Aside0.mk (hbox); have n7_ := Aside0.mk ((by rw [hg]; exact (below_size Z9_6) : w.heap.size ≤ gb253)); have n8_ := Aside0.mk ((by rw [hg]; exact (below_size Z9_6) : w.heap.size ≤ gb253)); have n9_ := Aside0.mk ((Z9_24 : gb234 ≠ gb253)); have n10_ := Aside0.mk ((Z9_25 : gb253 ≠ gb234)); clear HO240; clear HO243; clear HO247; clear HO251; clear BK234; clear HB; have HO240 := n0_; have HO243 := n1_; have HO247 := n2_; have HO251 := n3_; have BK234 := n4_; have HB := n5_; have BK253 := n6_; have GW253 := n7_; have GE253 := n8_; have NB234_253 := n9_; have NB253_234 := n10_; clear n0_ n1_ n2_ n3_ n4_ n5_ n6_ n7_ n8_ n9_ n10_; clear hb hbox hg; have hnb22 := NB253_234.out; have hnc22 := NB234_253.out; have hcz23_0 : w21.cell? ⟨gb253, 0, none⟩ = some (.int .i64 0) := (blk_cell BK253.out 0).trans rfl; have hcz23_1 : w21.cell? ⟨gb253, 1, none⟩ = some (.slice none 0 0) := (blk_cell BK253.out 1).trans rfl; have hfz23_0 := blk_frozen BK253.out 0; have hfz23_1 := blk_frozen BK253.out 1; obtain ⟨Ao24, co24, eo24⟩ := Kd.S_slice HO251.out; subst eo24; have hcz25_0 : w21.cell? ⟨gb234, 0, none⟩ = some (.int .i64 a0_0) := (blk_cell BK234.out 0).trans rfl; have hcz25_1 : w21.cell? ⟨gb234, 1, none⟩ = some (.int .i64 a0_1) := (blk_cell BK234.out 1).trans rfl; have hcz25_2 : w21.cell? ⟨gb234, 2, none⟩ = some (.slice A0_2 l0_2.length c0_2) := (blk_cell BK234.out 2).trans rfl; have hcz25_3 : w21.cell? ⟨gb234, 3, none⟩ = some (.slice A0_3 l0_3.length c0_3) := (blk_cell BK234.out 3).trans rfl; have hcz25_4 : w21.cell? ⟨gb234, 4, none⟩ = some (.int .i64 a0_4) := (blk_cell BK234.out 4).trans rfl; have hcz25_5 : w21.cell? ⟨gb234, 5, none⟩ = some (.slice A0_5 l0_5.length c0_5) := (blk_cell BK234.out 5).trans rfl; have hfz25_0 := blk_frozen BK234.out 0; have hfz25_1 := blk_frozen BK234.out 1; have hfz25_2 := blk_frozen BK234.out 2; have hfz25_3 := blk_frozen BK234.out 3; have hfz25_4 := blk_frozen BK234.out 4; have hfz25_5 := blk_frozen BK234.out 5) | ((with_reducible refine gate_callee (f := 24) rfl ?_); refine goesL_ (some 26) rfl rfl Try.func24 Z9_83 rfl #[.agg #[.int .i64 a0_0, .int .i64 a0_1, .slice A0_2 l0_2.length c0_2, .slice A0_3 l0_3.length c0_3, .int .i64 a0_4, .slice A0_5 l0_5.length c0_5]] rfl Z9_3 ?_; (with_reducible refine (laws_toAsm.calls k a0_0 a0_1 _ _ l0_2 _ _ l0_3 a0_4 _ _ l0_5 t254 t255 t256 t259 t262 t263 _ ?side1 ?side2 ?side3 ?side4 ?side5 ?side6 A9.out).mono ?_); (case side1 => exact Kd.C_below HR0_2.out Z9_7); (case side2 => exact HC0_2.out); (case side3 => exact Kd.C_below HR0_3.out Z9_7); (case side4 => exact HC0_3.out); (case side5 => exact Kd.C_below HR0_5.out Z9_7); (case side6 => exact HC0_5.out); rintro e w26 ⟨v257, v260, v264, rfl, ho0, ho1, ho2, hb⟩; refine ⟨_, rfl, ?_⟩; have n0_ := Aside0.mk (Kd.R_mono (Kd.R_told (Kd.R_told (Kd.R_old Z9_26 hb) (Kd.R_base ho0)) (Kd.R_base ho1)) (fun _ h_ => h_.1)); have n1_ := Aside0.mk (Kd.R_mono (Kd.R_told (Kd.R_told (Kd.R_old Z9_27 hb) (Kd.R_base ho0)) (Kd.R_base ho1)) (fun _ h_ => h_.1)); have n2_ := Aside0.mk (Kd.R_elder' Z9_55 (Kd.R_base ho2) hb); have n3_ := Aside0.mk (Kd.S_mono (Kd.S_told (Kd.S_told (Kd.S_old (by (with_reducible repeat (first | apply Kd.S_alloc | apply Kd.S_drewN | apply Kd.S_drew)); exact (Kd.S_mono (Kd.S_far (p := ⟨gb253, 1, none⟩) (Kd.S_far (p := ⟨gb253, 0, none⟩) (Kd.S_types HO251.out BK253.out Z9_95) (fun _ hk => hk.2) (.int .i64 t248)) (fun _ hk => hk.2) (.slice Ao24 t249.length co24)) (fun _ h_ => h_.1))) hb) (Kd.R_base ho0)) (Kd.R_base ho1)) (fun _ h_ => h_.1)); have n4_ := Aside0.mk (Kd.R_lower (Kd.R_new' (Kd.R_new' ho0 (Kd.R_lt Z9_26)) (Kd.R_lt Z9_27)) (below_size Z9_7)); have n5_ := Aside0.mk (Kd.R_lower (Kd.R_new' (Kd.R_new' ho1 (Kd.R_lt Z9_26)) (Kd.R_lt Z9_27)) (below_size Z9_7)); have n6_ := Aside0.mk (Kd.R_lower (Kd.R_new' ho2 (Kd.R_lt Z9_55)) (below_size Z9_7)); have n7_ := Aside0.mk (blk_below (g := gb234) (o := .cells #[.int .i64 a0_0, .int .i64 a0_1, .slice A0_2 l0_2.length c0_2, .slice A0_3 l0_3.length c0_3, .int .i64 a0_4, .slice A0_5 l0_5.length c0_5] 45 (0, 0)) (by (with_reducible repeat (first | apply blk_drewN | apply blk_drew | apply blk_alloc)); refine blk_far ?_ NB234_253.out _; (with_reducible repeat (first | apply blk_drewN | apply blk_drew | apply blk_alloc)); refine blk_far ?_ NB234_253.out _; (with_reducible repeat (first | apply blk_drewN | apply blk_drew | apply blk_alloc)); exact BK234.out) hb); have n8_ := Aside0.mk (blk_below (g := gb253) (o := .cells #[.int .i64 t248, .slice Ao24 t249.length co24] 29 (0, 0)) (by (with_reducible repeat (first | apply blk_drewN | apply blk_drew | apply blk_alloc)); refine blk_put (cs := #[.int .i64 t248, .slice none 0 0]) ?_ 1 _ rfl; (with_reducible repeat (first | apply blk_drewN | apply blk_drew | apply blk_alloc)); refine blk_put (cs := #[.int .i64 0, .slice none 0 0]) ?_ 0 _ rfl; (with_reducible repeat (first | apply blk_drewN | apply blk_drew | apply blk_alloc)); exact BK253.out) hb); have n9_ := Aside0.mk (below_step Z9_7 hb); clear HO240; clear HO243; clear HO247; clear HO251; clear BK234; clear BK253; clear HB; have HO240 := n0_; have HO243 := n1_; have HO247 := n2_; have HO251 := n3_; have HO258 := n4_; have HO261 := n5_; have HO265 := n6_; have BK234 := n7_; have BK253 := n8_; have HB := n9_; clear n0_ n1_ n2_ n3_ n4_ n5_ n6_ n7_ n8_ n9_; (try clear hb); (try clear hb2 hk hi); (try clear ho0); (try clear ho1); (try clear ho2)) | ((with_reducible refine gate_dst (N := 6) rfl ?_); refine box_event ?hg (N := 6) ?hd (cs := #[.int .i64 0, .int .i64 0, .slice none 0 0, .slice none 0 0, .int .i64 0, .slice none 0 0]) (t := 51) ?hr ?_; (case hd => rfl); (case hg => rfl); (case hr => exact Z9_76); intro gb266 hg w27 hbox hb; have n0_ := Aside0.mk (Kd.R_below Z9_28 hb); have n1_ := Aside0.mk (Kd.R_below Z9_29 hb); have n2_ := Aside0.mk (Kd.R_below Z9_36 hb); have n3_ := Aside0.mk (Kd.S_below Z9_63 hb); have n4_ := Aside0.mk (Kd.R_below Z9_64 hb); have n5_ := Aside0.mk (Kd.R_below Z9_65 hb); have n6_ := Aside0.mk (Kd.R_below Z9_77 hb); have n7_ := Aside0.mk (blk_below (g := gb234) (o := .cells #[.int .i64 a0_0, .int .i64 a0_1, .slice A0_2 l0_2.length c0_2, .slice A0_3 l0_3.length c0_3, .int .i64 a0_4, .slice A0_5 l0_5.length c0_5] 45 (0, 0)) Z9_2 hb); have n8_ := Aside0.mk (blk_below (g := gb253) (o := .cells #[.int .i64 t248, .slice Ao24 t249.length co24] 29 (0, 0)) Z9_4 hb); have n9_ := Aside0.mk (below_step Z9_7 hb); have n10_ := Aside0.mk (hbox); have n11_ := Aside0.mk ((by rw [hg]; exact (below_size Z9_7) : w.heap.size ≤ gb266)); have n12_ := Aside0.mk ((by rw [hg]; exact (below_size Z9_7) : w.heap.size ≤ gb266)); have n13_ := Aside0.mk ((Z9_24 : gb234 ≠ gb266)); have n14_ := Aside0.mk ((Z9_25 : gb266 ≠ gb234)); have n15_ := Aside0.mk ((Z9_71 : gb253 ≠ gb266)); have n16_ := Aside0.mk ((Z9_72 : gb266 ≠ gb253)); clear HO240; clear HO243; clear HO247; clear HO251; clear HO258; clear HO261; clear HO265; clear BK234; clear BK253; clear HB; have HO240 := n0_; have HO243 := n1_; have HO247 := n2_; have HO251 := n3_; have HO258 := n4_; have HO261 := n5_; have HO265 := n6_; have BK234 := n7_; have BK253 := n8_; have HB := n9_; have BK266 := n10_; have GW266 := n11_; have GE266 := n12_; have NB234_266 := n13_; have NB266_234 := n14_; have NB253_266 := n15_; have NB266_253 := n16_; clear n0_ n1_ n2_ n3_ n4_ n5_ n6_ n7_ n8_ n9_ n10_ n11_ n12_ n13_ n14_ n15_ n16_; clear hb hbox hg; have hnb28 := NB266_234.out; have hnc28 := NB234_266.out; have hnb29 := NB266_253.out; have hnc29 := NB253_266.out; have hcz30_0 : w27.cell? ⟨gb266, 0, none⟩ = some (.int .i64 0) := (blk_cell BK266.out 0).trans rfl; have hcz30_1 : w27.cell? ⟨gb266, 1, none⟩ = some (.int .i64 0) := (blk_cell BK266.out 1).trans rfl; have hcz30_2 : w27.cell? ⟨gb266, 2, none⟩ = some (.slice none 0 0) := (blk_cell BK266.out 2).trans rfl; have hcz30_3 : w27.cell? ⟨gb266, 3, none⟩ = some (.slice none 0 0) := (blk_cell BK266.out 3).trans rfl; have hcz30_4 : w27.cell? ⟨gb266, 4, none⟩ = some (.int .i64 0) := (blk_cell BK266.out 4).trans rfl; have hcz30_5 : w27.cell? ⟨gb266, 5, none⟩ = some (.slice none 0 0) := (blk_cell BK266.out 5).trans rfl; have hfz30_0 := blk_frozen BK266.out 0; have hfz30_1 := blk_frozen BK266.out 1; have hfz30_2 := blk_frozen BK266.out 2; have hfz30_3 := blk_frozen BK266.out 3; have hfz30_4 := blk_frozen BK266.out 4; have hfz30_5 := blk_frozen BK266.out 5; obtain ⟨Ao31, co31, eo31⟩ := Kd.R_slice HO258.out; subst eo31; obtain ⟨Ao32, co32, eo32⟩ := Kd.R_slice HO261.out; subst eo32; obtain ⟨Ao33, co33, eo33⟩ := Kd.R_slice HO265.out; subst eo33) | ((with_reducible refine gate_store (t := 51) (p := 6) rfl ?_); refine store_event (t := 51) (p := 6) (v := ?vo_w34) (w1 := ((((((w27.setCell ⟨gb266, 0, none⟩ (.int .i64 t254)).setCell ⟨gb266, 1, none⟩ (.int .i64 t255)).setCell ⟨gb266, 2, none⟩ (.slice Ao31 t256.length co31)).setCell ⟨gb266, 3, none⟩ (.slice Ao32 t259.length co32)).setCell ⟨gb266, 4, none⟩ (.int .i64 t262)).setCell ⟨gb266, 5, none⟩ (.slice Ao33 t263.length co33))) ?hg ?ho ?hn ?hr ?_; (case ho => rfl); (case hg => rfl); (case hn => rfl); (case hr => exact Z9_76); intro w34 hw; have n0_ : Aside0 (Kd.R (Kd.int .u8) 5 w34 w.heap.size (fun k_ => some k_ ≠ (.slice Ao18 t241.length co18 : Value).ownBlock ∧ some k_ ≠ (.slice Ao31 t256.length co31 : Value).ownBlock ∧ some k_ ≠ (.slice Ao32 t259.length co32 : Value).ownBlock) (.slice Ao17 t238.length co17) t238) := ⟨(by rw [hw]; exact (by (with_reducible repeat (first | apply Kd.R_alloc | apply Kd.R_drewN | apply Kd.R_drew)); exact Kd.R_mono (Kd.R_far (p := ⟨gb266, 5, none⟩) (Kd.R_far (p := ⟨gb266, 4, none⟩) (Kd.R_far (p := ⟨gb266, 3, none⟩) (Kd.R_far (p := ⟨gb266, 2, none⟩) (Kd.R_far (p := ⟨gb266, 1, none⟩) (Kd.R_far (p := ⟨gb266, 0, none⟩) (Kd.R_types HO240.out BK266.out Z9_95) (fun _ hk => hk.2) (.int .i64 t254)) (fun _ hk => hk.2) (.int .i64 t255)) (fun _ hk => hk.2) (.slice Ao31 t256.length co31)) (fun _ hk => hk.2) (.slice Ao32 t259.length co32)) (fun _ hk => hk.2) (.int .i64 t262)) (fun _ hk => hk.2) (.slice Ao33 t263.length co33)) (fun _ hk => ⟨hk.1.1.1, ⟨hk.1.1.2, hk.1.2⟩⟩)))⟩; have n1_ : Aside0 (Kd.R (Kd.int .u8) 5 w34 w.heap.size (fun k_ => some k_ ≠ (.slice Ao17 t238.length co17 : Value).ownBlock ∧ some k_ ≠ (.slice Ao31 t256.length co31 : Value).ownBlock ∧ some k_ ≠ (.slice Ao32 t259.length co32 : Value).ownBlock) (.slice Ao18 t241.length co18) t241) := ⟨(by rw [hw]; exact (by (with_reducible repeat (first | apply Kd.R_alloc | apply Kd.R_drewN | apply Kd.R_drew)); exact Kd.R_mono (Kd.R_far (p := ⟨gb266, 5, none⟩) (Kd.R_far (p := ⟨gb266, 4, none⟩) (Kd.R_far (p := ⟨gb266, 3, none⟩) (Kd.R_far (p := ⟨gb266, 2, none⟩) (Kd.R_far (p := ⟨gb266, 1, none⟩) (Kd.R_far (p := ⟨gb266, 0, none⟩) (Kd.R_types HO243.out BK266.out Z9_95) (fun _ hk => hk.2) (.int .i64 t254)) (fun _ hk => hk.2) (.int .i64 t255)) (fun _ hk => hk.2) (.slice Ao31 t256.length co31)) (fun _ hk => hk.2) (.slice Ao32 t259.length co32)) (fun _ hk => hk.2) (.int .i64 t262)) (fun _ hk => hk.2) (.slice Ao33 t263.length co33)) (fun _ hk => ⟨hk.1.1.1, ⟨hk.1.1.2, hk.1.2⟩⟩)))⟩; have n2_ : Aside0 (Kd.R k87 87 w34 w.heap.size (fun k_ => some k_ ≠ (.slice Ao33 t263.length co33 : Value).ownBlock) (.slice Ao19 t245.length co19) t245) := ⟨(by rw [hw]; exact (by (with_reducible repeat (first | apply Kd.R_alloc | apply Kd.R_drewN | apply Kd.R_drew)); exact Kd.R_mono (Kd.R_far (p := ⟨gb266, 5, none⟩) (Kd.R_far (p := ⟨gb266, 4, none⟩) (Kd.R_far (p := ⟨gb266, 3, none⟩) (Kd.R_far (p := ⟨gb266, 2, none⟩) (Kd.R_far (p := ⟨gb266, 1, none⟩) (Kd.R_far (p := ⟨gb266, 0, none⟩) (Kd.R_types HO247.out BK266.out Z9_95) (fun _ hk => hk.2) (.int .i64 t254)) (fun _ hk => hk.2) (.int .i64 t255)) (fun _ hk => hk.2) (.slice Ao31 t256.length co31)) (fun _ hk => hk.2) (.slice Ao32 t259.length co32)) (fun _ hk => hk.2) (.int .i64 t262)) (fun _ hk => hk.2) (.slice Ao33 t263.length co33)) (fun _ hk => hk.1.2)))⟩; have n3_ : Aside0 (Kd.S k58 58 w34 w.heap.size (fun k_ => some k_ ≠ (.slice Ao17 t238.length co17 : Value).ownBlock ∧ some k_ ≠ (.slice Ao18 t241.length co18 : Value).ownBlock ∧ some k_ ≠ (.slice Ao31 t256.length co31 : Value).ownBlock ∧ some k_ ≠ (.slice Ao32 t259.length co32 : Value).ownBlock) (.slice Ao24 t249.length co24) t249) := ⟨(by rw [hw]; exact (by (with_reducible repeat (first | apply Kd.S_alloc | apply Kd.S_drewN | apply Kd.S_drew)); exact Kd.S_mono (Kd.S_far (p := ⟨gb266, 5, none⟩) (Kd.S_far (p := ⟨gb266, 4, none⟩) (Kd.S_far (p := ⟨gb266, 3, none⟩) (Kd.S_far (p := ⟨gb266, 2, none⟩) (Kd.S_far (p := ⟨gb266, 1, none⟩) (Kd.S_far (p := ⟨gb266, 0, none⟩) (Kd.S_types HO251.out BK266.out Z9_95) (fun _ hk => hk.2) (.int .i64 t254)) (fun _ hk => hk.2) (.int .i64 t255)) (fun _ hk => hk.2) (.slice Ao31 t256.length co31)) (fun _ hk => hk.2) (.slice Ao32 t259.length co32)) (fun _ hk => hk.2) (.int .i64 t262)) (fun _ hk => hk.2) (.slice Ao33 t263.length co33)) (fun _ hk => ⟨hk.1.1.1.1.2, ⟨hk.1.1.1.2, ⟨hk.1.1.2, hk.1.2⟩⟩⟩)))⟩; have n4_ : Aside0 (Kd.R (Kd.int .u8) 5 w34 w.heap.size (fun k_ => some k_ ≠ (.slice Ao17 t238.length co17 : Value).ownBlock ∧ some k_ ≠ (.slice Ao18 t241.length co18 : Value).ownBlock ∧ some k_ ≠ (.slice Ao32 t259.length co32 : Value).ownBlock) (.slice Ao31 t256.length co31) t256) := ⟨(by rw [hw]; exact (by (with_reducible repeat (first | apply Kd.R_alloc | apply Kd.R_drewN | apply Kd.R_drew)); exact Kd.R_mono (Kd.R_far (p := ⟨gb266, 5, none⟩) (Kd.R_far (p := ⟨gb266, 4, none⟩) (Kd.R_far (p := ⟨gb266, 3, none⟩) (Kd.R_far (p := ⟨gb266, 2, none⟩) (Kd.R_far (p := ⟨gb266, 1, none⟩) (Kd.R_far (p := ⟨gb266, 0, none⟩) (Kd.R_types HO258.out BK266.out Z9_95) (fun _ hk => hk.2) (.int .i64 t254)) (fun _ hk => hk.2) (.int .i64 t255)) (fun _ hk => hk.2) (.slice Ao31 t256.length co31)) (fun _ hk => hk.2) (.slice Ao32 t259.length co32)) (fun _ hk => hk.2) (.int .i64 t262)) (fun _ hk => hk.2) (.slice Ao33 t263.length co33)) (fun _ hk => ⟨hk.1.1.2, ⟨hk.1.2, hk.1.1.1⟩⟩)))⟩; have n5_ : Aside0 (Kd.R (Kd.int .u8) 5 w34 w.heap.size (fun k_ => some k_ ≠ (.slice Ao17 t238.length co17 : Value).ownBlock ∧ some k_ ≠ (.slice Ao18 t241.length co18 : Value).ownBlock ∧ some k_ ≠ (.slice Ao31 t256.length co31 : Value).ownBlock) (.slice Ao32 t259.length co32) t259) := ⟨(by rw [hw]; exact (by (with_reducible repeat (first | apply Kd.R_alloc | apply Kd.R_drewN | apply Kd.R_drew)); exact Kd.R_mono (Kd.R_far (p := ⟨gb266, 5, none⟩) (Kd.R_far (p := ⟨gb266, 4, none⟩) (Kd.R_far (p := ⟨gb266, 3, none⟩) (Kd.R_far (p := ⟨gb266, 2, none⟩) (Kd.R_far (p := ⟨gb266, 1, none⟩) (Kd.R_far (p := ⟨gb266, 0, none⟩) (Kd.R_types HO261.out BK266.out Z9_95) (fun _ hk => hk.2) (.int .i64 t254)) (fun _ hk => hk.2) (.int .i64 t255)) (fun _ hk => hk.2) (.slice Ao31 t256.length co31)) (fun _ hk => hk.2) (.slice Ao32 t259.length co32)) (fun _ hk => hk.2) (.int .i64 t262)) (fun _ hk => hk.2) (.slice Ao33 t263.length co33)) (fun _ hk => ⟨hk.1.1.2, ⟨hk.1.2, hk.1.1.1⟩⟩)))⟩; have n6_ : Aside0 (Kd.R k87 87 w34 w.heap.size (fun k_ => some k_ ≠ (.slice Ao19 t245.length co19 : Value).ownBlock) (.slice Ao33 t263.length co33) t263) := ⟨(by rw [hw]; exact (by (with_reducible repeat (first | apply Kd.R_alloc | apply Kd.R_drewN | apply Kd.R_drew)); exact Kd.R_mono (Kd.R_far (p := ⟨gb266, 5, none⟩) (Kd.R_far (p := ⟨gb266, 4, none⟩) (Kd.R_far (p := ⟨gb266, 3, none⟩) (Kd.R_far (p := ⟨gb266, 2, none⟩) (Kd.R_far (p := ⟨gb266, 1, none⟩) (Kd.R_far (p := ⟨gb266, 0, none⟩) (Kd.R_types HO265.out BK266.out Z9_95) (fun _ hk => hk.2) (.int .i64 t254)) (fun _ hk => hk.2) (.int .i64 t255)) (fun _ hk => hk.2) (.slice Ao31 t256.length co31)) (fun _ hk => hk.2) (.slice Ao32 t259.length co32)) (fun _ hk => hk.2) (.int .i64 t262)) (fun _ hk => hk.2) (.slice Ao33 t263.length co33)) (fun _ hk => hk.1.2)))⟩; have n7_ : Aside0 (w34.heap[gb234]? = some (.cells #[.int .i64 a0_0, .int .i64 a0_1, .slice A0_2 l0_2.length c0_2, .slice A0_3 l0_3.length c0_3, .int .i64 a0_4, .slice A0_5 l0_5.length c0_5] 45 (0, 0))) := ⟨(by rw [hw]; exact (by (with_reducible repeat (first | apply blk_drewN | apply blk_drew | apply blk_alloc)); refine blk_far ?_ NB234_266.out _; (with_reducible repeat (first | apply blk_drewN | apply blk_drew | apply blk_alloc)); refine blk_far ?_ NB234_266.out _; (with_reducible repeat (first | apply blk_drewN | apply blk_drew | apply blk_alloc)); refine blk_far ?_ NB234_266.out _; (with_reducible repeat (first | apply blk_drewN | apply blk_drew | apply blk_alloc)); refine blk_far ?_ NB234_266.out _; (with_reducible repeat (first | apply blk_drewN | apply blk_drew | apply blk_alloc)); refine blk_far ?_ NB234_266.out _; (with_reducible repeat (first | apply blk_drewN | apply blk_drew | apply blk_alloc)); refine blk_far ?_ NB234_266.out _; (with_reducible repeat (first | apply blk_drewN | apply blk_drew | apply blk_alloc)); exact BK234.out))⟩; have n8_ : Aside0 (w34.heap[gb253]? = some (.cells #[.int .i64 t248, .slice Ao24 t249.length co24] 29 (0, 0))) := ⟨(by rw [hw]; exact (by (with_reducible repeat (first | apply blk_drewN | apply blk_drew | apply blk_alloc)); refine blk_far ?_ NB253_266.out _; (with_reducible repeat (first | apply blk_drewN | apply blk_drew | apply blk_alloc)); refine blk_far ?_ NB253_266.out _; (with_reducible repeat (first | apply blk_drewN | apply blk_drew | apply blk_alloc)); refine blk_far ?_ NB253_266.out _; (with_reducible repeat (first | apply blk_drewN | apply blk_drew | apply blk_alloc)); refine blk_far ?_ NB253_266.out _; (with_reducible repeat (first | apply blk_drewN | apply blk_drew | apply blk_alloc)); refine blk_far ?_ NB253_266.out _; (with_reducible repeat (first | apply blk_drewN | apply blk_drew | apply blk_alloc)); refine blk_far ?_ NB253_266.out _; (with_reducible repeat (first | apply blk_drewN | apply blk_drew | apply blk_alloc)); exact BK253.out))⟩; have n9_ : Aside0 (w34.heap[gb266]? = some (.cells #[.int .i64 t254, .int .i64 t255, .slice Ao31 t256.length co31, .slice Ao32 t259.length co32, .int .i64 t262, .slice Ao33 t263.length co33] 51 (0, 0))) := ⟨(by rw [hw]; exact (by (with_reducible repeat (first | apply blk_drewN | apply blk_drew | apply blk_alloc)); refine blk_put (cs := #[.int .i64 t254, .int .i64 t255, .slice Ao31 t256.length co31, .slice Ao32 t259.length co32, .int .i64 t262, .slice none 0 0]) ?_ 5 _ rfl; (with_reducible repeat (first | apply blk_drewN | apply blk_drew | apply blk_alloc)); refine blk_put (cs := #[.int .i64 t254, .int .i64 t255, .slice Ao31 t256.length co31, .slice Ao32 t259.length co32, .int .i64 0, .slice none 0 0]) ?_ 4 _ rfl; (with_reducible repeat (first | apply blk_drewN | apply blk_drew | apply blk_alloc)); refine blk_put (cs := #[.int .i64 t254, .int .i64 t255, .slice Ao31 t256.length co31, .slice none 0 0, .int .i64 0, .slice none 0 0]) ?_ 3 _ rfl; (with_reducible repeat (first | apply blk_drewN | apply blk_drew | apply blk_alloc)); refine blk_put (cs := #[.int .i64 t254, .int .i64 t255, .slice none 0 0, .slice none 0 0, .int .i64 0, .slice none 0 0]) ?_ 2 _ rfl; (with_reducible repeat (first | apply blk_drewN | apply blk_drew | apply blk_alloc)); refine blk_put (cs := #[.int .i64 t254, .int .i64 0, .slice none 0 0, .slice none 0 0, .int .i64 0, .slice none 0 0]) ?_ 1 _ rfl; (with_reducible repeat (first | apply blk_drewN | apply blk_drew | apply blk_alloc)); refine blk_put (cs := #[.int .i64 0, .int .i64 0, .slice none 0 0, .slice none 0 0, .int .i64 0, .slice none 0 0]) ?_ 0 _ rfl; (with_reducible repeat (first | apply blk_drewN | apply blk_drew | apply blk_alloc)); exact BK266.out))⟩; have n10_ : Aside0 (Below w.heap.size w w34) := ⟨(by rw [hw]; exact Z9_12)⟩; clear hw; clear HO240; clear HO243; clear HO247; clear HO251; clear HO258; clear HO261; clear HO265; clear BK234; clear BK253; clear BK266; clear HB; have HO240 := n0_; have HO243 := n1_; have HO247 := n2_; have HO251 := n3_; have HO258 := n4_; have HO261 := n5_; have HO265 := n6_; have BK234 := n7_; have BK253 := n8_; have BK266 := n9_; have HB := n10_; clear n0_ n1_ n2_ n3_ n4_ n5_ n6_ n7_ n8_ n9_ n10_; have hcz35_0 : w34.cell? ⟨gb266, 0, none⟩ = some (.int .i64 t254) := (blk_cell BK266.out 0).trans rfl; have hcz35_1 : w34.cell? ⟨gb266, 1, none⟩ = some (.int .i64 t255) := (blk_cell BK266.out 1).trans rfl; have hcz35_2 : w34.cell? ⟨gb266, 2, none⟩ = some (.slice Ao31 t256.length co31) := (blk_cell BK266.out 2).trans rfl; have hcz35_3 : w34.cell? ⟨gb266, 3, none⟩ = some (.slice Ao32 t259.length co32) := (blk_cell BK266.out 3).trans rfl; have hcz35_4 : w34.cell? ⟨gb266, 4, none⟩ = some (.int .i64 t262) := (blk_cell BK266.out 4).trans rfl; have hcz35_5 : w34.cell? ⟨gb266, 5, none⟩ = some (.slice Ao33 t263.length co33) := (blk_cell BK266.out 5).trans rfl; have hfz35_0 := blk_frozen BK266.out 0; have hfz35_1 := blk_frozen BK266.out 1; have hfz35_2 := blk_frozen BK266.out 2; have hfz35_3 := blk_frozen BK266.out 3; have hfz35_4 := blk_frozen BK266.out 4; have hfz35_5 := blk_frozen BK266.out 5) | ((with_reducible refine gate_callee (f := 25) rfl ?_); refine goesL_ (some 29) rfl rfl Try.func25 Z9_83 rfl #[.agg #[.int .i64 t254, .int .i64 t255, .slice Ao31 t256.length co31, .slice Ao32 t259.length co32, .int .i64 t262, .slice Ao33 t263.length co33]] rfl Z9_3 ?_; (with_reducible refine (impl_Link.calls k t254 t255 _ _ t256 _ _ t259 t262 _ _ t263 t267 t268 t271 _ ?side1 ?side2 ?side3 ?side4 ?side5 ?side6 A10.out).mono ?_); (case side1 => repeat (first | exact (Kd.R_reads' HO258.out).2.2 | (with_reducible refine Kd.C_alloc ?_ _) | (with_reducible refine Kd.C_drewN ?_ _) | (with_reducible refine Kd.C_drew ?_))); (case side2 => exact (Kd.R_reads' HO258.out).2.1); (case side3 => repeat (first | exact (Kd.R_reads' HO261.out).2.2 | (with_reducible refine Kd.C_alloc ?_ _) | (with_reducible refine Kd.C_drewN ?_ _) | (with_reducible refine Kd.C_drew ?_))); (case side4 => exact (Kd.R_reads' HO261.out).2.1); (case side5 => repeat (first | exact (Kd.R_reads' HO265.out).2.2 | (with_reducible refine Kd.C_alloc ?_ _) | (with_reducible refine Kd.C_drewN ?_ _) | (with_reducible refine Kd.C_drew ?_))); (case side6 => exact (Kd.R_reads' HO265.out).2.1); rintro e w36 ⟨v269, rfl, ho0, hb⟩; refine ⟨_, rfl, ?_⟩; obtain ⟨N37_, naN37_, nbN37_⟩ := S_ages_ Z9_63 ho0 hb; have n0_ := Aside0.mk (Kd.R_below Z9_28 hb); have n1_ := Aside0.mk (Kd.R_below Z9_29 hb); have n2_ := Aside0.mk (Kd.R_below Z9_36 hb); have n3_ := Aside0.mk (naN37_); have n4_ := Aside0.mk (Kd.R_below Z9_64 hb); have n5_ := Aside0.mk (Kd.R_below Z9_65 hb); have n6_ := Aside0.mk (Kd.R_below Z9_77 hb); have n7_ := Aside0.mk (Kd.S_lower (Kd.S_new' (Kd.S_new' (Kd.S_new' (Kd.S_new' nbN37_ (Kd.R_lt Z9_28)) (Kd.R_lt Z9_29)) (Kd.R_lt Z9_64)) (Kd.R_lt Z9_65)) (below_size Z9_12)); have n8_ := Aside0.mk (blk_below (g := gb234) (o := .cells #[.int .i64 a0_0, .int .i64 a0_1, .slice A0_2 l0_2.length c0_2, .slice A0_3 l0_3.length c0_3, .int .i64 a0_4, .slice A0_5 l0_5.length c0_5] 45 (0, 0)) Z9_2 hb); have n9_ := Aside0.mk (blk_below (g := gb253) (o := .cells #[.int .i64 t248, .slice Ao24 t249.length co24] 29 (0, 0)) Z9_4 hb); have n10_ := Aside0.mk (blk_below (g := gb266) (o := .cells #[.int .i64 t254, .int .i64 t255, .slice Ao31 t256.length co31, .slice Ao32 t259.length co32, .int .i64 t262, .slice Ao33 t263.length co33] 51 (0, 0)) Z9_5 hb); have n11_ := Aside0.mk (below_step Z9_12 hb); clear HO240; clear HO243; clear HO247; clear HO251; clear HO258; clear HO261; clear HO265; clear BK234; clear BK253; clear BK266; clear HB; have HO240 := n0_; have HO243 := n1_; have HO247 := n2_; have HO251 := n3_; have HO258 := n4_; have HO261 := n5_; have HO265 := n6_; have HO270 := n7_; have BK234 := n8_; have BK253 := n9_; have BK266 := n10_; have HB := n11_; clear n0_ n1_ n2_ n3_ n4_ n5_ n6_ n7_ n8_ n9_ n10_ n11_; (try clear hb); (try clear hb2 hk hi); (try clear ho0)) | ((with_reducible refine gate_dst (N := 7) rfl ?_); refine box_event ?hg (N := 7) ?hd (cs := #[.int .i64 0, .slice none 0 0]) (t := 29) ?hr ?_; (case hd => rfl); (case hg => rfl); (case hr => exact Z9_76); intro gb272 hg w38 hbox hb; have n0_ := Aside0.mk (Kd.R_below Z9_28 hb); have n1_ := Aside0.mk (Kd.R_below Z9_29 hb); have n2_ := Aside0.mk (Kd.R_below Z9_36 hb); have n3_ := Aside0.mk (Kd.S_below Z9_63 hb); have n4_ := Aside0.mk (Kd.R_below Z9_64 hb); have n5_ := Aside0.mk (Kd.R_below Z9_65 hb); have n6_ := Aside0.mk (Kd.R_below Z9_77 hb); have n7_ := Aside0.mk (Kd.S_below (by (with_reducible repeat (first | apply Kd.S_alloc | apply Kd.S_drewN | apply Kd.S_drew)); exact HO270.out) hb); have n8_ := Aside0.mk (blk_below (g := gb234) (o := .cells #[.int .i64 a0_0, .int .i64 a0_1, .slice A0_2 l0_2.length c0_2, .slice A0_3 l0_3.length c0_3, .int .i64 a0_4, .slice A0_5 l0_5.length c0_5] 45 (0, 0)) Z9_2 hb); have n9_ := Aside0.mk (blk_below (g := gb253) (o := .cells #[.int .i64 t248, .slice Ao24 t249.length co24] 29 (0, 0)) Z9_4 hb); have n10_ := Aside0.mk (blk_below (g := gb266) (o := .cells #[.int .i64 t254, .int .i64 t255, .slice Ao31 t256.length co31, .slice Ao32 t259.length co32, .int .i64 t262, .slice Ao33 t263.length co33] 51 (0, 0)) Z9_5 hb); have n11_ := Aside0.mk (below_step Z9_12 hb); have n12_ := Aside0.mk (hbox); have n13_ := Aside0.mk ((by rw [hg]; exact (below_size Z9_12) : w.heap.size ≤ gb272)); have n14_ := Aside0.mk ((by rw [hg]; exact (below_size Z9_12) : w.heap.size ≤ gb272)); have n15_ := Aside0.mk ((Z9_24 : gb234 ≠ gb272)); have n16_ := Aside0.mk ((Z9_25 : gb272 ≠ gb234)); have n17_ := Aside0.mk ((Z9_71 : gb253 ≠ gb272)); have n18_ := Aside0.mk ((Z9_72 : gb272 ≠ gb253)); have n19_ := Aside0.mk ((by rw [hg]; exact Nat.ne_of_lt (blk_lt (g := gb266) (o := .cells #[.int .i64 t254, .int .i64 t255, .slice Ao31 t256.length co31, .slice Ao32 t259.length co32, .int .i64 t262, .slice Ao33 t263.length co33] 51 (0, 0)) Z9_5) : gb266 ≠ gb272)); have n20_ := Aside0.mk ((by rw [hg]; exact Nat.ne_of_gt (blk_lt (g := gb266) (o := .cells #[.int .i64 t254, .int .i64 t255, .slice Ao31 t256.length co31, .slice Ao32 t259.length co32, .int .i64 t262, .slice Ao33 t263.length co33] 51 (0, 0)) Z9_5) : gb272 ≠ gb266)); clear HO240; clear HO243; clear HO247; clear HO251; clear HO258; clear HO261; clear HO265; clear HO270; clear BK234; clear BK253; clear BK266; clear HB; have HO240 := n0_; have HO243 := n1_; have HO247 := n2_; have HO251 := n3_; have HO258 := n4_; have HO261 := n5_; have HO265 := n6_; have HO270 := n7_; have BK234 := n8_; have BK253 := n9_; have BK266 := n10_; have HB := n11_; have BK272 := n12_; have GW272 := n13_; have GE272 := n14_; have NB234_272 := n15_; have NB272_234 := n16_; have NB253_272 := n17_; have NB272_253 := n18_; have NB266_272 := n19_; have NB272_266 := n20_; clear n0_ n1_ n2_ n3_ n4_ n5_ n6_ n7_ n8_ n9_ n10_ n11_ n12_ n13_ n14_ n15_ n16_ n17_ n18_ n19_ n20_; clear hb hbox hg; have hnb39 := NB272_234.out; have hnc39 := NB234_272.out; have hnb40 := NB272_253.out; have hnc40 := NB253_272.out; have hnb41 := NB272_266.out; have hnc41 := NB266_272.out; have hcz42_0 : w38.cell? ⟨gb272, 0, none⟩ = some (.int .i64 0) := (blk_cell BK272.out 0).trans rfl; have hcz42_1 : w38.cell? ⟨gb272, 1, none⟩ = some (.slice none 0 0) := (blk_cell BK272.out 1).trans rfl; have hfz42_0 := blk_frozen BK272.out 0; have hfz42_1 := blk_frozen BK272.out 1; obtain ⟨Ao43, co43, eo43⟩ := Kd.S_slice HO270.out; subst eo43))
 (try simp only [Act.put, List.setIfInBounds_toArray, List.set_cons_zero, List.set_cons_succ])
 go_cut [40] (fun v40 wc => ∃ (kq : Nat) (x40_10 : Bool), v40 = .bool x40_10 ∧ Aside0 (laws_FnExactLink.j0 kq t252 t271 x40_10 a0_0 a0_1 l0_2 l0_3 a0_4 l0_5 t248 t249 t254 t255 t256 t259 t262 t263 t267 t268 = some r) ∧ Aside0 (kq ≤ k) ∧ Aside0 (Kd.S k58 58 wc w.heap.size (fun k_ => some k_ ≠ ((.slice Ao31 t256.length co31) : Value).ownBlock ∧ some k_ ≠ ((.slice Ao32 t259.length co32) : Value).ownBlock ∧ some k_ ≠ ((.slice Ao43 t268.length co43) : Value).ownBlock ∧ k_ < N37_) (.slice Ao24 t249.length co24) t249) ∧ Aside0 (Kd.R (Kd.int .u8) 5 wc w.heap.size (fun k_ => some k_ ≠ ((.slice Ao32 t259.length co32) : Value).ownBlock) (.slice Ao31 t256.length co31) t256) ∧ Aside0 (Kd.R (Kd.int .u8) 5 wc w.heap.size (fun k_ => some k_ ≠ ((.slice Ao31 t256.length co31) : Value).ownBlock) (.slice Ao32 t259.length co32) t259) ∧ Aside0 (Kd.R k87 87 wc w.heap.size (fun _ => True) (.slice Ao33 t263.length co33) t263) ∧ Aside0 (Kd.S k58 58 wc w.heap.size (fun k_ => some k_ ≠ ((.slice Ao24 t249.length co24) : Value).ownBlock ∧ some k_ ≠ ((.slice Ao31 t256.length co31) : Value).ownBlock ∧ some k_ ≠ ((.slice Ao32 t259.length co32) : Value).ownBlock ∧ N37_ ≤ k_) (.slice Ao43 t268.length co43) t268) ∧ Aside0 (wc.heap[gb234]? = some (.cells #[.int .i64 a0_0, .int .i64 a0_1, (.slice A0_2 l0_2.length c0_2), (.slice A0_3 l0_3.length c0_3), .int .i64 a0_4, (.slice A0_5 l0_5.length c0_5)] 45 (0, 0))) ∧ Aside0 (wc.heap[gb253]? = some (.cells #[.int .i64 t248, (.slice Ao24 t249.length co24)] 29 (0, 0))) ∧ Aside0 (wc.heap[gb266]? = some (.cells #[.int .i64 t254, .int .i64 t255, (.slice Ao31 t256.length co31), (.slice Ao32 t259.length co32), .int .i64 t262, (.slice Ao33 t263.length co33)] 51 (0, 0))) ∧ Aside0 (wc.heap[gb272]? = some (.cells #[.int .i64 t267, (.slice Ao43 t268.length co43)] 29 (0, 0))) ∧ Aside0 (Below w.heap.size w wc))
 case first =>
  have H := HC11.out
  clear HC11
  replace H := Option.bind_eq_some_iff.mp H
  obtain ⟨t273, A440, H⟩ := H
  replace H : (if t273 = true then (laws_FnExactLink.j0 k t252 t271 (t271 != t252) a0_0 a0_1 l0_2 l0_3 a0_4 l0_5 t248 t249 t254 t255 t256 t259 t262 t263 t267 t268) else (laws_FnExactLink.j0 k t252 t271 true a0_0 a0_1 l0_2 l0_3 a0_4 l0_5 t248 t249 t254 t255 t256 t259 t262 t263 t267 t268)) = some r := H
  have A44 := Aside0.mk A440
  clear A440
  by_cases c45 : t273 = true
  ·subst c45
   have H1 : (laws_FnExactLink.j0 k t252 t271 (t271 != t252) a0_0 a0_1 l0_2 l0_3 a0_4 l0_5 t248 t249 t254 t255 t256 t259 t262 t263 t267 t268) = some r := by rw [if_pos rfl] at H; exact H
   clear H
   have H := H1
   clear H1
   have H' := Aside0.mk H
   clear H
   have hnb46 := NB272_234.out
   have hnc46 := NB234_272.out
   have hnb47 := NB272_253.out
   have hnc47 := NB253_272.out
   have hnb48 := NB272_266.out
   have hnc48 := NB266_272.out
   have hcz49_0 : w38.cell? ⟨gb272, 0, none⟩ = some (.int .i64 0) := (blk_cell BK272.out 0).trans rfl
   have hcz49_1 : w38.cell? ⟨gb272, 1, none⟩ = some (.slice none 0 0) := (blk_cell BK272.out 1).trans rfl
   have hfz49_0 := blk_frozen BK272.out 0
   have hfz49_1 := blk_frozen BK272.out 1
   have hnb50 := NB253_234.out
   have hnc50 := NB234_253.out
   have hnb51 := NB253_266.out
   have hnc51 := NB266_253.out
   have hcz52_0 : w38.cell? ⟨gb253, 0, none⟩ = some (.int .i64 t248) := (blk_cell BK253.out 0).trans rfl
   have hcz52_1 : w38.cell? ⟨gb253, 1, none⟩ = some (.slice Ao24 t249.length co24) := (blk_cell BK253.out 1).trans rfl
   have hfz52_0 := blk_frozen BK253.out 0
   have hfz52_1 := blk_frozen BK253.out 1
   go_wp2_with (first | ((with_reducible refine gate_callee (f := 11) rfl ?_); refine goesL_ (some 34) rfl rfl Try.func11 Z9_83 rfl #[.agg #[.int .i64 t267, .slice Ao43 t268.length co43], .agg #[.int .i64 t248, .slice Ao24 t249.length co24]] rfl Z9_3 ?_; (with_reducible refine (laws_eqImage.calls k t267 _ _ t268 t248 _ _ t249 true _ ?side1 ?side2 ?side3 ?side4 A44.out).mono ?_); (case side1 => exact Z9_34); (case side2 => exact (Kd.S_reads' HO270.out).2.1); (case side3 => exact Z9_35); (case side4 => exact (Kd.S_reads' HO251.out).2.1); rintro e w53 ⟨rfl, hb⟩; refine ⟨_, rfl, ?_⟩; have n0_ := Aside0.mk (Kd.R_below Z9_56 hb); have n1_ := Aside0.mk (Kd.R_below Z9_57 hb); have n2_ := Aside0.mk (Kd.R_below Z9_58 hb); have n3_ := Aside0.mk (Kd.S_below Z9_17 hb); have n4_ := Aside0.mk (Kd.R_below Z9_59 hb); have n5_ := Aside0.mk (Kd.R_below Z9_60 hb); have n6_ := Aside0.mk (Kd.R_below Z9_61 hb); have n7_ := Aside0.mk (Kd.S_below Z9_16 hb); have n8_ := Aside0.mk (blk_below (g := gb234) (o := .cells #[.int .i64 a0_0, .int .i64 a0_1, .slice A0_2 l0_2.length c0_2, .slice A0_3 l0_3.length c0_3, .int .i64 a0_4, .slice A0_5 l0_5.length c0_5] 45 (0, 0)) Z9_41 hb); have n9_ := Aside0.mk (blk_below (g := gb253) (o := .cells #[.int .i64 t248, .slice Ao24 t249.length co24] 29 (0, 0)) Z9_42 hb); have n10_ := Aside0.mk (blk_below (g := gb266) (o := .cells #[.int .i64 t254, .int .i64 t255, .slice Ao31 t256.length co31, .slice Ao32 t259.length co32, .int .i64 t262, .slice Ao33 t263.length co33] 51 (0, 0)) Z9_43 hb); have n11_ := Aside0.mk (blk_below (g := gb272) (o := .cells #[.int .i64 t267, .slice Ao43 t268.length co43] 29 (0, 0)) Z9_37 hb); have n12_ := Aside0.mk (below_step Z9_1 hb); clear HO240; clear HO243; clear HO247; clear HO251; clear HO258; clear HO261; clear HO265; clear HO270; clear BK234; clear BK253; clear BK266; clear BK272; clear HB; have HO240 := n0_; have HO243 := n1_; have HO247 := n2_; have HO251 := n3_; have HO258 := n4_; have HO261 := n5_; have HO265 := n6_; have HO270 := n7_; have BK234 := n8_; have BK253 := n9_; have BK266 := n10_; have BK272 := n11_; have HB := n12_; clear n0_ n1_ n2_ n3_ n4_ n5_ n6_ n7_ n8_ n9_ n10_ n11_ n12_; (try clear hb); (try clear hb2); (try clear hk); (try clear hi)))
   go_meet
   case rel => exact ⟨_, ((t271 != t252)), Z9_32, H', ⟨by first | omega | exact Nat.le_refl _⟩, ⟨Z9_91⟩, ⟨Z9_93⟩, ⟨Z9_94⟩, ⟨Z9_92⟩, ⟨Z9_89⟩, ⟨Z9_2⟩, ⟨Z9_4⟩, ⟨Z9_5⟩, ⟨Z9_8⟩, ⟨Z9_1⟩⟩
  replace c45 := Bool.eq_false_iff.mpr c45
  subst c45
  have H1 : (laws_FnExactLink.j0 k t252 t271 true a0_0 a0_1 l0_2 l0_3 a0_4 l0_5 t248 t249 t254 t255 t256 t259 t262 t263 t267 t268) = some r := by rw [if_neg (show ¬ (false = true) by decide)] at H; exact H
  clear H
  have H := H1
  clear H1
  have H' := Aside0.mk H
  clear H
  have hnb54 := NB272_234.out
  have hnc54 := NB234_272.out
  have hnb55 := NB272_253.out
  have hnc55 := NB253_272.out
  have hnb56 := NB272_266.out
  have hnc56 := NB266_272.out
  have hcz57_0 : w38.cell? ⟨gb272, 0, none⟩ = some (.int .i64 0) := (blk_cell BK272.out 0).trans rfl
  have hcz57_1 : w38.cell? ⟨gb272, 1, none⟩ = some (.slice none 0 0) := (blk_cell BK272.out 1).trans rfl
  have hfz57_0 := blk_frozen BK272.out 0
  have hfz57_1 := blk_frozen BK272.out 1
  have hnb58 := NB253_234.out
  have hnc58 := NB234_253.out
  have hnb59 := NB253_266.out
  have hnc59 := NB266_253.out
  have hcz60_0 : w38.cell? ⟨gb253, 0, none⟩ = some (.int .i64 t248) := (blk_cell BK253.out 0).trans rfl
  have hcz60_1 : w38.cell? ⟨gb253, 1, none⟩ = some (.slice Ao24 t249.length co24) := (blk_cell BK253.out 1).trans rfl
  have hfz60_0 := blk_frozen BK253.out 0
  have hfz60_1 := blk_frozen BK253.out 1
  go_wp2_with (first | ((with_reducible refine gate_callee (f := 11) rfl ?_); refine goesL_ (some 34) rfl rfl Try.func11 Z9_83 rfl #[.agg #[.int .i64 t267, .slice Ao43 t268.length co43], .agg #[.int .i64 t248, .slice Ao24 t249.length co24]] rfl Z9_3 ?_; (with_reducible refine (laws_eqImage.calls k t267 _ _ t268 t248 _ _ t249 false _ ?side1 ?side2 ?side3 ?side4 A44.out).mono ?_); (case side1 => exact Z9_34); (case side2 => exact (Kd.S_reads' HO270.out).2.1); (case side3 => exact Z9_35); (case side4 => exact (Kd.S_reads' HO251.out).2.1); rintro e w61 ⟨rfl, hb⟩; refine ⟨_, rfl, ?_⟩; have n0_ := Aside0.mk (Kd.R_below Z9_56 hb); have n1_ := Aside0.mk (Kd.R_below Z9_57 hb); have n2_ := Aside0.mk (Kd.R_below Z9_58 hb); have n3_ := Aside0.mk (Kd.S_below Z9_17 hb); have n4_ := Aside0.mk (Kd.R_below Z9_59 hb); have n5_ := Aside0.mk (Kd.R_below Z9_60 hb); have n6_ := Aside0.mk (Kd.R_below Z9_61 hb); have n7_ := Aside0.mk (Kd.S_below Z9_16 hb); have n8_ := Aside0.mk (blk_below (g := gb234) (o := .cells #[.int .i64 a0_0, .int .i64 a0_1, .slice A0_2 l0_2.length c0_2, .slice A0_3 l0_3.length c0_3, .int .i64 a0_4, .slice A0_5 l0_5.length c0_5] 45 (0, 0)) Z9_41 hb); have n9_ := Aside0.mk (blk_below (g := gb253) (o := .cells #[.int .i64 t248, .slice Ao24 t249.length co24] 29 (0, 0)) Z9_42 hb); have n10_ := Aside0.mk (blk_below (g := gb266) (o := .cells #[.int .i64 t254, .int .i64 t255, .slice Ao31 t256.length co31, .slice Ao32 t259.length co32, .int .i64 t262, .slice Ao33 t263.length co33] 51 (0, 0)) Z9_43 hb); have n11_ := Aside0.mk (blk_below (g := gb272) (o := .cells #[.int .i64 t267, .slice Ao43 t268.length co43] 29 (0, 0)) Z9_37 hb); have n12_ := Aside0.mk (below_step Z9_1 hb); clear HO240; clear HO243; clear HO247; clear HO251; clear HO258; clear HO261; clear HO265; clear HO270; clear BK234; clear BK253; clear BK266; clear BK272; clear HB; have HO240 := n0_; have HO243 := n1_; have HO247 := n2_; have HO251 := n3_; have HO258 := n4_; have HO261 := n5_; have HO265 := n6_; have HO270 := n7_; have BK234 := n8_; have BK253 := n9_; have BK266 := n10_; have BK272 := n11_; have HB := n12_; clear n0_ n1_ n2_ n3_ n4_ n5_ n6_ n7_ n8_ n9_ n10_ n11_ n12_; (try clear hb); (try clear hb2); (try clear hk); (try clear hi)))
  go_meet
  case rel => exact ⟨_, (true), Z9_32, H', ⟨by first | omega | exact Nat.le_refl _⟩, ⟨Z9_91⟩, ⟨Z9_93⟩, ⟨Z9_94⟩, ⟨Z9_92⟩, ⟨Z9_89⟩, ⟨Z9_2⟩, ⟨Z9_4⟩, ⟨Z9_5⟩, ⟨Z9_8⟩, ⟨Z9_1⟩⟩
 clear HC11
 try clear c1
 try clear c2
 try clear p2
 try clear c3
 try clear c3b0
 try clear c4
 try clear c5
 try clear c6
 try clear c11
 try clear c22
 try clear c23
 try clear c24
 try clear c25
 try clear c28
 try clear c29
 try clear c39
 try clear c40
 try clear c41
 try clear c45
 try clear c46
 try clear c47
 try clear c48
 try clear c50
 try clear c51
 try clear c54
 try clear c55
 try clear c56
 try clear c58
 try clear c59
 try clear hcz13_0
 try clear hcz13_1
 try clear hcz13_2
 try clear hcz13_3
 try clear hcz13_4
 try clear hcz13_5
 try clear hcz15_0
 try clear hcz15_1
 try clear hcz15_2
 try clear hcz15_3
 try clear hcz15_4
 try clear hcz15_5
 try clear hcz23_0
 try clear hcz23_1
 try clear hcz25_0
 try clear hcz25_1
 try clear hcz25_2
 try clear hcz25_3
 try clear hcz25_4
 try clear hcz25_5
 try clear hcz30_0
 try clear hcz30_1
 try clear hcz30_2
 try clear hcz30_3
 try clear hcz30_4
 try clear hcz30_5
 try clear hcz35_0
 try clear hcz35_1
 try clear hcz35_2
 try clear hcz35_3
 try clear hcz35_4
 try clear hcz35_5
 try clear hcz42_0
 try clear hcz42_1
 try clear hcz49_0
 try clear hcz49_1
 try clear hcz52_0
 try clear hcz52_1
 try clear hcz57_0
 try clear hcz57_1
 try clear hcz5_0
 try clear hcz5_1
 try clear hcz5_2
 try clear hcz5_3
 try clear hcz5_4
 try clear hcz5_5
 try clear hcz60_0
 try clear hcz60_1
 try clear hfz13_0
 try clear hfz13_1
 try clear hfz13_2
 try clear hfz13_3
 try clear hfz13_4
 try clear hfz13_5
 try clear hfz15_0
 try clear hfz15_1
 try clear hfz15_2
 try clear hfz15_3
 try clear hfz15_4
 try clear hfz15_5
 try clear hfz23_0
 try clear hfz23_1
 try clear hfz25_0
 try clear hfz25_1
 try clear hfz25_2
 try clear hfz25_3
 try clear hfz25_4
 try clear hfz25_5
 try clear hfz30_0
 try clear hfz30_1
 try clear hfz30_2
 try clear hfz30_3
 try clear hfz30_4
 try clear hfz30_5
 try clear hfz35_0
 try clear hfz35_1
 try clear hfz35_2
 try clear hfz35_3
 try clear hfz35_4
 try clear hfz35_5
 try clear hfz42_0
 try clear hfz42_1
 try clear hfz49_0
 try clear hfz49_1
 try clear hfz52_0
 try clear hfz52_1
 try clear hfz57_0
 try clear hfz57_1
 try clear hfz5_0
 try clear hfz5_1
 try clear hfz5_2
 try clear hfz5_3
 try clear hfz5_4
 try clear hfz5_5
 try clear hfz60_0
 try clear hfz60_1
 obtain ⟨kq, x40_10, rfl, HA, HJ10, HO_254001, HO_267002, HO_267003, HO_267005, HO_273001, BK234, BK253, BK266, BK272, HB⟩ := hcut
 cases kq with
 | zero => exact absurd HA.out (by simp [laws_FnExactLink.j0])
 | succ kj10 =>
  have H := HA.out
  clear HA
  simp only [laws_FnExactLink.j0] at H
  by_cases c62 : x40_10 = true
  ·subst c62
   have H1 : (none) = some r := by rw [if_pos rfl] at H; exact H
   clear H
   have H := H1
   clear H1
   exact absurd H (by simp)
  replace c62 := Bool.eq_false_iff.mpr c62
  subst c62
  have H1 : ((laws_toAsm.f kj10 a0_0 a0_1 l0_2 l0_3 a0_4 l0_5).bind fun bt274 => ((laws_eqAsm.f kj10 t254 t255 t256 t259 t262 t263 bt274.1 bt274.2.1 bt274.2.2.1 bt274.2.2.2.1 bt274.2.2.2.2.1 bt274.2.2.2.2.2).bind fun t286 => (if t286 = true then ((laws_markAsm.f kj10 t254 t255 t256 t259 t262 t263 1).bind fun bt287 => (if bt287.1 < 0 then (laws_FnExactLink.j1 kj10 t252 true a0_0 a0_1 l0_2 l0_3 a0_4 l0_5 t248 t249 t267 t268) else ((laws_eqImage.f kj10 t267 t268 t248 t249).bind fun t291 => (if t291 = true then (laws_FnExactLink.j1 kj10 t252 (t271 != t252) a0_0 a0_1 l0_2 l0_3 a0_4 l0_5 t248 t249 t267 t268) else (laws_FnExactLink.j1 kj10 t252 true a0_0 a0_1 l0_2 l0_3 a0_4 l0_5 t248 t249 t267 t268))))) else (none)))) = some r := by rw [if_neg (show ¬ (false = true) by decide)] at H; exact H
  clear H
  have H := H1
  clear H1
  replace H := Option.bind_eq_some_iff.mp H
  obtain ⟨⟨t274, t275, t276, t279, t282, t283⟩, A630, H⟩ := H
  replace H : ((laws_eqAsm.f kj10 t254 t255 t256 t259 t262 t263 t274 t275 t276 t279 t282 t283).bind fun t286 => (if t286 = true then ((laws_markAsm.f kj10 t254 t255 t256 t259 t262 t263 1).bind fun bt287 => (if bt287.1 < 0 then (laws_FnExactLink.j1 kj10 t252 true a0_0 a0_1 l0_2 l0_3 a0_4 l0_5 t248 t249 t267 t268) else ((laws_eqImage.f kj10 t267 t268 t248 t249).bind fun t291 => (if t291 = true then (laws_FnExactLink.j1 kj10 t252 (t271 != t252) a0_0 a0_1 l0_2 l0_3 a0_4 l0_5 t248 t249 t267 t268) else (laws_FnExactLink.j1 kj10 t252 true a0_0 a0_1 l0_2 l0_3 a0_4 l0_5 t248 t249 t267 t268))))) else (none))) = some r := H
  have A63 := Aside0.mk A630
  clear A630
  replace H := Option.bind_eq_some_iff.mp H
  obtain ⟨t286, A640, H⟩ := H
  replace H : (if t286 = true then ((laws_markAsm.f kj10 t254 t255 t256 t259 t262 t263 1).bind fun bt287 => (if bt287.1 < 0 then (laws_FnExactLink.j1 kj10 t252 true a0_0 a0_1 l0_2 l0_3 a0_4 l0_5 t248 t249 t267 t268) else ((laws_eqImage.f kj10 t267 t268 t248 t249).bind fun t291 => (if t291 = true then (laws_FnExactLink.j1 kj10 t252 (t271 != t252) a0_0 a0_1 l0_2 l0_3 a0_4 l0_5 t248 t249 t267 t268) else (laws_FnExactLink.j1 kj10 t252 true a0_0 a0_1 l0_2 l0_3 a0_4 l0_5 t248 t249 t267 t268))))) else (none)) = some r := H
  have A64 := Aside0.mk A640
  clear A640
  by_cases c65 : t286 = true
  ·subst c65
   have H1 : ((laws_markAsm.f kj10 t254 t255 t256 t259 t262 t263 1).bind fun bt287 => (if bt287.1 < 0 then (laws_FnExactLink.j1 kj10 t252 true a0_0 a0_1 l0_2 l0_3 a0_4 l0_5 t248 t249 t267 t268) else ((laws_eqImage.f kj10 t267 t268 t248 t249).bind fun t291 => (if t291 = true then (laws_FnExactLink.j1 kj10 t252 (t271 != t252) a0_0 a0_1 l0_2 l0_3 a0_4 l0_5 t248 t249 t267 t268) else (laws_FnExactLink.j1 kj10 t252 true a0_0 a0_1 l0_2 l0_3 a0_4 l0_5 t248 t249 t267 t268))))) = some r := by rw [if_pos rfl] at H; exact H
   clear H
   have H := H1
   clear H1
   replace H := Option.bind_eq_some_iff.mp H
   obtain ⟨⟨t287, t288, t289, t290⟩, A660, H⟩ := H
   replace H : (if t287 < 0 then (laws_FnExactLink.j1 kj10 t252 true a0_0 a0_1 l0_2 l0_3 a0_4 l0_5 t248 t249 t267 t268) else ((laws_eqImage.f kj10 t267 t268 t248 t249).bind fun t291 => (if t291 = true then (laws_FnExactLink.j1 kj10 t252 (t271 != t252) a0_0 a0_1 l0_2 l0_3 a0_4 l0_5 t248 t249 t267 t268) else (laws_FnExactLink.j1 kj10 t252 true a0_0 a0_1 l0_2 l0_3 a0_4 l0_5 t248 t249 t267 t268)))) = some r := H
   have A66 := Aside0.mk A660
   clear A660
   have HC67 := Aside0.mk H
   clear H
   try go_wp2
   have n0_ := Aside0.mk (Kd.S_drew HO_254001.out)
   have n1_ := Aside0.mk (Kd.R_drew HO_267002.out)
   have n2_ := Aside0.mk (Kd.R_drew HO_267003.out)
   have n3_ := Aside0.mk (Kd.R_drew HO_267005.out)
   have n4_ := Aside0.mk (Kd.S_drew HO_273001.out)
   have n5_ := Aside0.mk (blk_drew BK234.out)
   have n6_ := Aside0.mk (blk_drew BK253.out)
   have n7_ := Aside0.mk (blk_drew BK266.out)
   have n8_ := Aside0.mk (blk_drew BK272.out)
   have n9_ := Aside0.mk (below_drew1 HB.out)
   clear HO_254001
   clear HO_267002
   clear HO_267003
   clear HO_267005
   clear HO_273001
   clear BK234
   clear BK253
   clear BK266
   clear BK272
   clear HB
   have HO_254001 := n0_
   have HO_267002 := n1_
   have HO_267003 := n2_
   have HO_267005 := n3_
   have HO_273001 := n4_
   have BK234 := n5_
   have BK253 := n6_
   have BK266 := n7_
   have BK272 := n8_
   have HB := n9_
   clear n0_ n1_ n2_ n3_ n4_ n5_ n6_ n7_ n8_ n9_
   refine start_ (n := 5) (S := fun w' => w'.cell? ⟨gb266, 0, none⟩ = some (.int .i64 t254) ∧ w'.cell? ⟨gb266, 1, none⟩ = some (.int .i64 t255) ∧ w'.cell? ⟨gb266, 2, none⟩ = some (.slice Ao31 t256.length co31) ∧ w'.cell? ⟨gb266, 3, none⟩ = some (.slice Ao32 t259.length co32) ∧ w'.cell? ⟨gb266, 4, none⟩ = some (.int .i64 t262) ∧ w'.cell? ⟨gb266, 5, none⟩ = some (.slice Ao33 t263.length co33) ∧ w'.cell? ⟨gb234, 0, none⟩ = some (.int .i64 a0_0) ∧ w'.cell? ⟨gb234, 1, none⟩ = some (.int .i64 a0_1) ∧ w'.cell? ⟨gb234, 2, none⟩ = some (.slice A0_2 l0_2.length c0_2) ∧ w'.cell? ⟨gb234, 3, none⟩ = some (.slice A0_3 l0_3.length c0_3) ∧ w'.cell? ⟨gb234, 4, none⟩ = some (.int .i64 a0_4) ∧ w'.cell? ⟨gb234, 5, none⟩ = some (.slice A0_5 l0_5.length c0_5)) (ds := []) #[false, false, false, false, false] Z9_83 rfl rfl ⟨(blk_cell BK266.out 0).trans rfl, (blk_cell BK266.out 1).trans rfl, (blk_cell BK266.out 2).trans rfl, (blk_cell BK266.out 3).trans rfl, (blk_cell BK266.out 4).trans rfl, (blk_cell BK266.out 5).trans rfl, (blk_cell BK234.out 0).trans rfl, (blk_cell BK234.out 1).trans rfl, (blk_cell BK234.out 2).trans rfl, (blk_cell BK234.out 3).trans rfl, (blk_cell BK234.out 4).trans rfl, (blk_cell BK234.out 5).trans rfl⟩ (fun hHeld => ?_)
   generalize wc.drew = w68 at HO_254001 HO_267002 HO_267003 HO_267005 HO_273001 BK234 BK253 BK266 BK272 HB hHeld ⊢
   refine take_ (i := 0) (N := some 41) (v := ?_) (a' := ?_) #[true, false, false, false, false] rfl rfl Z9_83 (fun _ _ _ h => h) (Or.inl ⟨by rfl, ?_⟩) hHeld ?_ ?_
   rotate_left
   ·rintro w' ⟨s0, s1, s2, s3, s4, s5, s6, s7, s8, s9, s10, s11⟩
    go_simp
    with_reducible rfl
   rotate_left
   ·simp only [Act.put, List.setIfInBounds_toArray, List.set_cons_zero, List.set_cons_succ, i64_w, i32_w]
    rfl
   refine take_ (i := 1) (N := some 42) (v := ?_) (a' := ?_) #[true, true, false, false, false] rfl rfl Z9_83 (fun _ _ _ h => h) (Or.inl ⟨by rfl, ?_⟩) hHeld ?_ ?_
   rotate_left
   ·rintro w' ⟨s0, s1, s2, s3, s4, s5, s6, s7, s8, s9, s10, s11⟩
    go_simp
    with_reducible rfl
   rotate_left
   ·simp only [Act.put, List.setIfInBounds_toArray, List.set_cons_zero, List.set_cons_succ, i64_w, i32_w]
    rfl
   refine one_ (i := 2) (N := some 43) #[true, true, true, false, false] rfl rfl Z9_83 Z9_95 (fun K hK => ?_)
   refine goes_ Try.func24 Z9_83 rfl #[.agg #[.int .i64 a0_0, .int .i64 a0_1, .slice A0_2 l0_2.length c0_2, .slice A0_3 l0_3.length c0_3, .int .i64 a0_4, .slice A0_5 l0_5.length c0_5]] (by rfl) rfl rfl Z9_3 ?_
   with_reducible refine (laws_toAsm.calls kj10 a0_0 a0_1 _ _ l0_2 _ _ l0_3 a0_4 _ _ l0_5 t274 t275 t276 t279 t282 t283 _ ?side1 ?side2 ?side3 ?side4 ?side5 ?side6 A63.out).mono ?_
   (case side1 => exact Z9_20)
   (case side2 => exact HC0_2.out)
   (case side3 => exact Z9_21)
   (case side4 => exact HC0_3.out)
   (case side5 => exact Z9_22)
   (case side6 => exact HC0_5.out)
   rintro e w69 ⟨v277, v280, v284, rfl, ho0, ho1, ho2, hb⟩
   refine ⟨_, rfl, ?_⟩
   have n0_ := Aside0.mk (Kd.S_mono (Kd.S_told (Kd.S_told (Kd.S_old Z9_18 hb) (Kd.R_base ho0)) (Kd.R_base ho1)) (fun _ h_ => h_.1))
   have n1_ := Aside0.mk (Kd.R_mono (Kd.R_told (Kd.R_told (Kd.R_old Z9_10 hb) (Kd.R_base ho0)) (Kd.R_base ho1)) (fun _ h_ => h_.1))
   have n2_ := Aside0.mk (Kd.R_mono (Kd.R_told (Kd.R_told (Kd.R_old Z9_11 hb) (Kd.R_base ho0)) (Kd.R_base ho1)) (fun _ h_ => h_.1))
   have n3_ := Aside0.mk (Kd.R_elder' Z9_13 (Kd.R_base ho2) hb)
   have n4_ := Aside0.mk (Kd.S_mono (Kd.S_told (Kd.S_told (Kd.S_old Z9_19 hb) (Kd.R_base ho0)) (Kd.R_base ho1)) (fun _ h_ => h_.1))
   have n5_ := Aside0.mk (Kd.R_lower (Kd.R_new' (Kd.R_new' ho0 (Kd.R_lt Z9_10)) (Kd.R_lt Z9_11)) (below_size Z9_1))
   have n6_ := Aside0.mk (Kd.R_lower (Kd.R_new' (Kd.R_new' ho1 (Kd.R_lt Z9_10)) (Kd.R_lt Z9_11)) (below_size Z9_1))
   have n7_ := Aside0.mk (Kd.R_lower (Kd.R_new' ho2 (Kd.R_lt Z9_13)) (below_size Z9_1))
   have n8_ := Aside0.mk (blk_below (g := gb234) (o := .cells #[.int .i64 a0_0, .int .i64 a0_1, .slice A0_2 l0_2.length c0_2, .slice A0_3 l0_3.length c0_3, .int .i64 a0_4, .slice A0_5 l0_5.length c0_5] 45 (0, 0)) Z9_2 hb)
   have n9_ := Aside0.mk (blk_below (g := gb253) (o := .cells #[.int .i64 t248, .slice Ao24 t249.length co24] 29 (0, 0)) Z9_4 hb)
   have n10_ := Aside0.mk (blk_below (g := gb266) (o := .cells #[.int .i64 t254, .int .i64 t255, .slice Ao31 t256.length co31, .slice Ao32 t259.length co32, .int .i64 t262, .slice Ao33 t263.length co33] 51 (0, 0)) Z9_5 hb)
   have n11_ := Aside0.mk (blk_below (g := gb272) (o := .cells #[.int .i64 t267, .slice Ao43 t268.length co43] 29 (0, 0)) Z9_8 hb)
   have n12_ := Aside0.mk (below_step Z9_1 hb)
   clear HO_254001
   clear HO_267002
   clear HO_267003
   clear HO_267005
   clear HO_273001
   clear BK234
   clear BK253
   clear BK266
   clear BK272
   clear HB
   have HO_254001 := n0_
   have HO_267002 := n1_
   have HO_267003 := n2_
   have HO_267005 := n3_
   have HO_273001 := n4_
   have HO278 := n5_
   have HO281 := n6_
   have HO285 := n7_
   have BK234 := n8_
   have BK253 := n9_
   have BK266 := n10_
   have BK272 := n11_
   have HB := n12_
   clear n0_ n1_ n2_ n3_ n4_ n5_ n6_ n7_ n8_ n9_ n10_ n11_ n12_
   (try clear hb)
   (try clear hb2)
   (try clear hk)
   (try clear hi)
   (try clear ho0)
   (try clear ho1)
   (try clear ho2)
   obtain ⟨Ao70, co70, eo70⟩ := Kd.R_slice HO278.out
   (first | subst eo70 | (injection eo70 with f1_ f2_ f3_; have f4_ := f1_.symm; have f5_ := f3_.symm; clear f1_ f2_ f3_; subst f4_; subst f5_))
   obtain ⟨Ao71, co71, eo71⟩ := Kd.R_slice HO281.out
   (first | subst eo71 | (injection eo71 with f1_ f2_ f3_; have f4_ := f1_.symm; have f5_ := f3_.symm; clear f1_ f2_ f3_; subst f4_; subst f5_))
   obtain ⟨Ao72, co72, eo72⟩ := Kd.R_slice HO285.out
   (first | subst eo72 | (injection eo72 with f1_ f2_ f3_; have f4_ := f1_.symm; have f5_ := f3_.symm; clear f1_ f2_ f3_; subst f4_; subst f5_))
   refine hK.out _ _ ⟨(blk_cell BK266.out 0).trans rfl, (blk_cell BK266.out 1).trans rfl, (blk_cell BK266.out 2).trans rfl, (blk_cell BK266.out 3).trans rfl, (blk_cell BK266.out 4).trans rfl, (blk_cell BK266.out 5).trans rfl, (blk_cell BK234.out 0).trans rfl, (blk_cell BK234.out 1).trans rfl, (blk_cell BK234.out 2).trans rfl, (blk_cell BK234.out 3).trans rfl, (blk_cell BK234.out 4).trans rfl, (blk_cell BK234.out 5).trans rfl⟩ (fun hHeld => ?_)
   clear hK K
   refine norm_ (a' := ?_) ?_ ?_
   rotate_left
   ·show Act.put _ (some 43) _ = _
    simp only [Act.put, List.setIfInBounds_toArray, List.set_cons_zero, List.set_cons_succ, i64_w, i32_w]
    rfl
   refine one_ (i := 3) (N := some 44) #[true, true, true, true, false] rfl rfl Z9_83 Z9_95 (fun K hK => ?_)
   refine goes_ Try.func26 Z9_83 rfl #[.agg #[.int .i64 t254, .int .i64 t255, .slice Ao31 t256.length co31, .slice Ao32 t259.length co32, .int .i64 t262, .slice Ao33 t263.length co33], .agg #[.int .i64 t274, .int .i64 t275, .slice Ao70 t276.length co70, .slice Ao71 t279.length co71, .int .i64 t282, .slice Ao72 t283.length co72]] (by rfl) rfl rfl Z9_3 ?_
   with_reducible refine (laws_eqAsm.calls kj10 t254 t255 _ _ t256 _ _ t259 t262 _ _ t263 t274 t275 _ _ t276 _ _ t279 t282 _ _ t283 true _ ?side1 ?side2 ?side3 ?side4 ?side5 ?side6 ?side7 ?side8 ?side9 ?side10 ?side11 ?side12 A64.out).mono ?_
   (case side1 => repeat (first | exact (Kd.R_reads' HO_267002.out).2.2 | (with_reducible refine Kd.C_alloc ?_ _) | (with_reducible refine Kd.C_drewN ?_ _) | (with_reducible refine Kd.C_drew ?_)))
   (case side2 => exact (Kd.R_reads' HO_267002.out).2.1)
   (case side3 => repeat (first | exact (Kd.R_reads' HO_267003.out).2.2 | (with_reducible refine Kd.C_alloc ?_ _) | (with_reducible refine Kd.C_drewN ?_ _) | (with_reducible refine Kd.C_drew ?_)))
   (case side4 => exact (Kd.R_reads' HO_267003.out).2.1)
   (case side5 => repeat (first | exact (Kd.R_reads' HO_267005.out).2.2 | (with_reducible refine Kd.C_alloc ?_ _) | (with_reducible refine Kd.C_drewN ?_ _) | (with_reducible refine Kd.C_drew ?_)))
   (case side6 => exact (Kd.R_reads' HO_267005.out).2.1)
   (case side7 => repeat (first | exact (Kd.R_reads' HO278.out).2.2 | (with_reducible refine Kd.C_alloc ?_ _) | (with_reducible refine Kd.C_drewN ?_ _) | (with_reducible refine Kd.C_drew ?_)))
   (case side8 => exact (Kd.R_reads' HO278.out).2.1)
   (case side9 => repeat (first | exact (Kd.R_reads' HO281.out).2.2 | (with_reducible refine Kd.C_alloc ?_ _) | (with_reducible refine Kd.C_drewN ?_ _) | (with_reducible refine Kd.C_drew ?_)))
   (case side10 => exact (Kd.R_reads' HO281.out).2.1)
   (case side11 => repeat (first | exact (Kd.R_reads' HO285.out).2.2 | (with_reducible refine Kd.C_alloc ?_ _) | (with_reducible refine Kd.C_drewN ?_ _) | (with_reducible refine Kd.C_drew ?_)))
   (case side12 => exact (Kd.R_reads' HO285.out).2.1)
   rintro e w73 ⟨rfl, hb⟩
   refine ⟨_, rfl, ?_⟩
   have n0_ := Aside0.mk (Kd.S_below Z9_18 hb)
   have n1_ := Aside0.mk (Kd.R_below Z9_10 hb)
   have n2_ := Aside0.mk (Kd.R_below Z9_11 hb)
   have n3_ := Aside0.mk (Kd.R_below Z9_13 hb)
   have n4_ := Aside0.mk (Kd.S_below Z9_19 hb)
   have n5_ := Aside0.mk (Kd.R_below Z9_78 hb)
   have n6_ := Aside0.mk (Kd.R_below Z9_79 hb)
   have n7_ := Aside0.mk (Kd.R_below Z9_80 hb)
   have n8_ := Aside0.mk (blk_below (g := gb234) (o := .cells #[.int .i64 a0_0, .int .i64 a0_1, .slice A0_2 l0_2.length c0_2, .slice A0_3 l0_3.length c0_3, .int .i64 a0_4, .slice A0_5 l0_5.length c0_5] 45 (0, 0)) Z9_2 hb)
   have n9_ := Aside0.mk (blk_below (g := gb253) (o := .cells #[.int .i64 t248, .slice Ao24 t249.length co24] 29 (0, 0)) Z9_4 hb)
   have n10_ := Aside0.mk (blk_below (g := gb266) (o := .cells #[.int .i64 t254, .int .i64 t255, .slice Ao31 t256.length co31, .slice Ao32 t259.length co32, .int .i64 t262, .slice Ao33 t263.length co33] 51 (0, 0)) Z9_5 hb)
   have n11_ := Aside0.mk (blk_below (g := gb272) (o := .cells #[.int .i64 t267, .slice Ao43 t268.length co43] 29 (0, 0)) Z9_8 hb)
   have n12_ := Aside0.mk (below_step Z9_1 hb)
   clear HO_254001
   clear HO_267002
   clear HO_267003
   clear HO_267005
   clear HO_273001
   clear HO278
   clear HO281
   clear HO285
   clear BK234
   clear BK253
   clear BK266
   clear BK272
   clear HB
   have HO_254001 := n0_
   have HO_267002 := n1_
   have HO_267003 := n2_
   have HO_267005 := n3_
   have HO_273001 := n4_
   have HO278 := n5_
   have HO281 := n6_
   have HO285 := n7_
   have BK234 := n8_
   have BK253 := n9_
   have BK266 := n10_
   have BK272 := n11_
   have HB := n12_
   clear n0_ n1_ n2_ n3_ n4_ n5_ n6_ n7_ n8_ n9_ n10_ n11_ n12_
   (try clear hb)
   (try clear hb2)
   (try clear hk)
   (try clear hi)
   refine hK.out _ _ ⟨(blk_cell BK266.out 0).trans rfl, (blk_cell BK266.out 1).trans rfl, (blk_cell BK266.out 2).trans rfl, (blk_cell BK266.out 3).trans rfl, (blk_cell BK266.out 4).trans rfl, (blk_cell BK266.out 5).trans rfl, (blk_cell BK234.out 0).trans rfl, (blk_cell BK234.out 1).trans rfl, (blk_cell BK234.out 2).trans rfl, (blk_cell BK234.out 3).trans rfl, (blk_cell BK234.out 4).trans rfl, (blk_cell BK234.out 5).trans rfl⟩ (fun hHeld => ?_)
   clear hK K
   refine norm_ (a' := ?_) ?_ ?_
   rotate_left
   ·show Act.put _ (some 44) _ = _
    simp only [Act.put, List.setIfInBounds_toArray, List.set_cons_zero, List.set_cons_succ, i64_w, i32_w]
    rfl
   refine pure_ (i := 4) (N := some 45) (v := ?_) (a' := ?_) #[true, true, true, true, true] rfl rfl Z9_83 (fun _ _ _ h => h) (Or.inl ⟨by rfl, ?_⟩) ?_ ?_
   rotate_left
   ·intro w'
    go_simp
    with_reducible rfl
   rotate_left
   ·simp only [Act.put, List.setIfInBounds_toArray, List.set_cons_zero, List.set_cons_succ, i64_w, i32_w]
    rfl
   refine done_ Z9_83 ?_
   have hnb74 := NB266_234.out
   have hnc74 := NB234_266.out
   have hnb75 := NB266_253.out
   have hnc75 := NB253_266.out
   have hnb76 := NB266_272.out
   have hnc76 := NB272_266.out
   have hcz77_0 : w73.cell? ⟨gb266, 0, none⟩ = some (.int .i64 t254) := (blk_cell BK266.out 0).trans rfl
   have hcz77_1 : w73.cell? ⟨gb266, 1, none⟩ = some (.int .i64 t255) := (blk_cell BK266.out 1).trans rfl
   have hcz77_2 : w73.cell? ⟨gb266, 2, none⟩ = some (.slice Ao31 t256.length co31) := (blk_cell BK266.out 2).trans rfl
   have hcz77_3 : w73.cell? ⟨gb266, 3, none⟩ = some (.slice Ao32 t259.length co32) := (blk_cell BK266.out 3).trans rfl
   have hcz77_4 : w73.cell? ⟨gb266, 4, none⟩ = some (.int .i64 t262) := (blk_cell BK266.out 4).trans rfl
   have hcz77_5 : w73.cell? ⟨gb266, 5, none⟩ = some (.slice Ao33 t263.length co33) := (blk_cell BK266.out 5).trans rfl
   have hfz77_0 := blk_frozen BK266.out 0
   have hfz77_1 := blk_frozen BK266.out 1
   have hfz77_2 := blk_frozen BK266.out 2
   have hfz77_3 := blk_frozen BK266.out 3
   have hfz77_4 := blk_frozen BK266.out 4
   have hfz77_5 := blk_frozen BK266.out 5
   go_upto_region 14 with (first | ((with_reducible refine gate_callee (f := 27) rfl ?_); refine goesL_ (some 48) rfl rfl Try.func27 Z9_83 rfl #[.agg #[.int .i64 t254, .int .i64 t255, .slice Ao31 t256.length co31, .slice Ao32 t259.length co32, .int .i64 t262, .slice Ao33 t263.length co33], .int .i64 1] rfl Z9_3 ?_; (with_reducible refine (laws_markAsm.calls kj10 t254 t255 (fun k_ => some k_ = (.slice Ao31 t256.length co31 : Value).ownBlock) (.slice Ao31 t256.length co31) t256 (fun k_ => some k_ = (.slice Ao32 t259.length co32 : Value).ownBlock) (.slice Ao32 t259.length co32) t259 t262 (fun k_ => some k_ = (.slice Ao33 t263.length co33 : Value).ownBlock) (.slice Ao33 t263.length co33) t263 1 t287 t288 t289 t290 w _ ?side1 ?side2 ?side3 ?side4 ?side5 ?side6 A66.out).mono ?_); (case side1 => exact Z9_1); (case side2 => exact Kd.R_tight rfl HO_267002.out); (case side3 => exact fun k_ e_ => (HO_267002.out.1 k_ e_.symm).1.1); (case side4 => exact Kd.R_tight rfl HO_267003.out); (case side5 => exact fun k_ e_ => (HO_267003.out.1 k_ e_.symm).1.1); (case side6 => exact Kd.R_tight rfl HO_267005.out); rintro e w78 ⟨rfl, hy0, hy1, hy2, hb, hkp⟩; refine ⟨_, rfl, ?_⟩; have n0_ := Aside0.mk (Kd.S_mono (ok' := fun k_ => some k_ ≠ (.slice Ao31 t256.length co31 : Value).ownBlock ∧ some k_ ≠ (.slice Ao32 t259.length co32 : Value).ownBlock ∧ some k_ ≠ (.slice Ao43 t268.length co43 : Value).ownBlock ∧ some k_ ≠ (.slice Ao70 t276.length co70 : Value).ownBlock ∧ some k_ ≠ (.slice Ao71 t279.length co71 : Value).ownBlock ∧ k_ < N37_) (Kd.S_keptB ((Kd.S_apart' HO_254001.out (Kd.R_typed HO_267005.out) Z9_95)) hkp (fun k_ hk_ hs_ => Or.elim hs_ (fun e_ => (hk_.1.1.1.1) e_) (fun e_ => Or.elim e_ (fun e_ => (hk_.1.1.1.2.1) e_) (fun e_ => (hk_.2) e_)))) (fun k_ hk_ => ⟨hk_.1.1.1.1.1, hk_.1.1.1.1.2.1, hk_.1.1.1.1.2.2.1, hk_.1.1.1.2, hk_.1.1.2, hk_.1.1.1.1.2.2.2⟩)); have n1_ := Aside0.mk (Kd.R_reok rfl hy0 (fun k_ e_ => HO_267002.out.1 k_ e_)); have n2_ := Aside0.mk (Kd.R_reok rfl hy1 (fun k_ e_ => HO_267003.out.1 k_ e_)); have n3_ := Aside0.mk (Kd.R_reok rfl hy2 (fun k_ e_ => HO_267005.out.1 k_ e_)); have n4_ := Aside0.mk (Kd.S_mono (ok' := fun k_ => some k_ ≠ (.slice Ao24 t249.length co24 : Value).ownBlock ∧ some k_ ≠ (.slice Ao31 t256.length co31 : Value).ownBlock ∧ some k_ ≠ (.slice Ao32 t259.length co32 : Value).ownBlock ∧ some k_ ≠ (.slice Ao70 t276.length co70 : Value).ownBlock ∧ some k_ ≠ (.slice Ao71 t279.length co71 : Value).ownBlock ∧ N37_ ≤ k_) (Kd.S_keptB ((Kd.S_apart' HO_273001.out (Kd.R_typed HO_267005.out) Z9_95)) hkp (fun k_ hk_ hs_ => Or.elim hs_ (fun e_ => (hk_.1.1.1.2.1) e_) (fun e_ => Or.elim e_ (fun e_ => (hk_.1.1.1.2.2.1) e_) (fun e_ => (hk_.2) e_)))) (fun k_ hk_ => ⟨hk_.1.1.1.1.1, hk_.1.1.1.1.2.1, hk_.1.1.1.1.2.2.1, hk_.1.1.1.2, hk_.1.1.2, hk_.1.1.1.1.2.2.2⟩)); have n5_ := Aside0.mk (blk_kept Z9_2 hkp (fun hs_ => Or.elim hs_ (fun e_ => (fun e_ => (Kd.R_ne HO_267002.out BK234.out Z9_95) e_) e_) (fun e_ => Or.elim e_ (fun e_ => (fun e_ => (Kd.R_ne HO_267003.out BK234.out Z9_95) e_) e_) (fun e_ => (fun e_ => (Kd.R_ne HO_267005.out BK234.out Z9_95) e_) e_)))); have n6_ := Aside0.mk (blk_kept Z9_4 hkp (fun hs_ => Or.elim hs_ (fun e_ => (fun e_ => (Kd.R_ne HO_267002.out BK253.out Z9_95) e_) e_) (fun e_ => Or.elim e_ (fun e_ => (fun e_ => (Kd.R_ne HO_267003.out BK253.out Z9_95) e_) e_) (fun e_ => (fun e_ => (Kd.R_ne HO_267005.out BK253.out Z9_95) e_) e_)))); have n7_ := Aside0.mk (blk_kept Z9_5 hkp (fun hs_ => Or.elim hs_ (fun e_ => (fun e_ => (Kd.R_ne HO_267002.out BK266.out Z9_95) e_) e_) (fun e_ => Or.elim e_ (fun e_ => (fun e_ => (Kd.R_ne HO_267003.out BK266.out Z9_95) e_) e_) (fun e_ => (fun e_ => (Kd.R_ne HO_267005.out BK266.out Z9_95) e_) e_)))); have n8_ := Aside0.mk (blk_kept Z9_8 hkp (fun hs_ => Or.elim hs_ (fun e_ => (fun e_ => (Kd.R_ne HO_267002.out BK272.out Z9_95) e_) e_) (fun e_ => Or.elim e_ (fun e_ => (fun e_ => (Kd.R_ne HO_267003.out BK272.out Z9_95) e_) e_) (fun e_ => (fun e_ => (Kd.R_ne HO_267005.out BK272.out Z9_95) e_) e_)))); have n9_ := Aside0.mk (Kd.R_mono (ok' := fun k_ => some k_ ≠ (.slice Ao31 t256.length co31 : Value).ownBlock ∧ some k_ ≠ (.slice Ao32 t259.length co32 : Value).ownBlock ∧ some k_ ≠ (.slice Ao71 t279.length co71 : Value).ownBlock) (Kd.R_keptB ((Kd.R_apart' HO278.out (Kd.R_typed HO_267005.out) Z9_95)) hkp (fun k_ hk_ hs_ => Or.elim hs_ (fun e_ => (hk_.1.1.2) e_) (fun e_ => Or.elim e_ (fun e_ => (hk_.1.2) e_) (fun e_ => (hk_.2) e_)))) (fun k_ hk_ => ⟨hk_.1.1.1.2, hk_.1.1.2, hk_.1.1.1.1⟩)); have n10_ := Aside0.mk (Kd.R_mono (ok' := fun k_ => some k_ ≠ (.slice Ao31 t256.length co31 : Value).ownBlock ∧ some k_ ≠ (.slice Ao32 t259.length co32 : Value).ownBlock ∧ some k_ ≠ (.slice Ao70 t276.length co70 : Value).ownBlock) (Kd.R_keptB ((Kd.R_apart' HO281.out (Kd.R_typed HO_267005.out) Z9_95)) hkp (fun k_ hk_ hs_ => Or.elim hs_ (fun e_ => (hk_.1.1.2) e_) (fun e_ => Or.elim e_ (fun e_ => (hk_.1.2) e_) (fun e_ => (hk_.2) e_)))) (fun k_ hk_ => ⟨hk_.1.1.1.2, hk_.1.1.2, hk_.1.1.1.1⟩)); have n11_ := Aside0.mk (Kd.R_mono (ok' := fun k_ => some k_ ≠ (.slice Ao33 t263.length co33 : Value).ownBlock) (Kd.R_keptB ((Kd.R_apart' (Kd.R_apart' HO285.out (Kd.R_typed HO_267002.out) Z9_95) (Kd.R_typed HO_267003.out) Z9_95)) hkp (fun k_ hk_ hs_ => Or.elim hs_ (fun e_ => (hk_.1.2) e_) (fun e_ => Or.elim e_ (fun e_ => (hk_.2) e_) (fun e_ => (hk_.1.1.2) e_)))) (fun k_ hk_ => hk_.1.1.1.2)); have n12_ := Aside0.mk (hb); clear HO_254001; clear HO_267002; clear HO_267003; clear HO_267005; clear HO_273001; clear BK234; clear BK253; clear BK266; clear BK272; clear HO278; clear HO281; clear HO285; clear HB; have HO_254001 := n0_; have HO_267002 := n1_; have HO_267003 := n2_; have HO_267005 := n3_; have HO_273001 := n4_; have BK234 := n5_; have BK253 := n6_; have BK266 := n7_; have BK272 := n8_; have HO278 := n9_; have HO281 := n10_; have HO285 := n11_; have HB := n12_; clear n0_ n1_ n2_ n3_ n4_ n5_ n6_ n7_ n8_ n9_ n10_ n11_ n12_; (try clear hb); (try clear hkp); (try clear hy0); (try clear hy1); (try clear hy2)))
   (try simp only [Act.put, List.setIfInBounds_toArray, List.set_cons_zero, List.set_cons_succ])
   go_cut [61] (fun v61 wc => ∃ (kq : Nat) (x61_66 : Bool), v61 = .bool x61_66 ∧ Aside0 (laws_FnExactLink.j1 kq t252 x61_66 a0_0 a0_1 l0_2 l0_3 a0_4 l0_5 t248 t249 t267 t268 = some r) ∧ Aside0 (kq ≤ kj10) ∧ Aside0 (Kd.S k58 58 wc w.heap.size (fun k_ => some k_ ≠ ((.slice Ao31 t256.length co31) : Value).ownBlock ∧ some k_ ≠ ((.slice Ao32 t259.length co32) : Value).ownBlock ∧ some k_ ≠ ((.slice Ao43 t268.length co43) : Value).ownBlock ∧ k_ < N37_) (.slice Ao24 t249.length co24) t249) ∧ Aside0 (Kd.R (Kd.int .u8) 5 wc w.heap.size (fun k_ => some k_ ≠ ((.slice Ao32 t259.length co32) : Value).ownBlock) (.slice Ao31 t256.length co31) t288) ∧ Aside0 (Kd.R (Kd.int .u8) 5 wc w.heap.size (fun k_ => some k_ ≠ ((.slice Ao31 t256.length co31) : Value).ownBlock) (.slice Ao32 t259.length co32) t289) ∧ Aside0 (Kd.R k87 87 wc w.heap.size (fun _ => True) (.slice Ao33 t263.length co33) t290) ∧ Aside0 (Kd.S k58 58 wc w.heap.size (fun k_ => some k_ ≠ ((.slice Ao24 t249.length co24) : Value).ownBlock ∧ some k_ ≠ ((.slice Ao31 t256.length co31) : Value).ownBlock ∧ some k_ ≠ ((.slice Ao32 t259.length co32) : Value).ownBlock ∧ N37_ ≤ k_) (.slice Ao43 t268.length co43) t268) ∧ Aside0 (wc.heap[gb234]? = some (.cells #[.int .i64 a0_0, .int .i64 a0_1, (.slice A0_2 l0_2.length c0_2), (.slice A0_3 l0_3.length c0_3), .int .i64 a0_4, (.slice A0_5 l0_5.length c0_5)] 45 (0, 0))) ∧ Aside0 (wc.heap[gb253]? = some (.cells #[.int .i64 t248, (.slice Ao24 t249.length co24)] 29 (0, 0))) ∧ Aside0 (wc.heap[gb266]? = some (.cells #[.int .i64 t254, .int .i64 t255, (.slice Ao31 t256.length co31), (.slice Ao32 t259.length co32), .int .i64 t262, (.slice Ao33 t263.length co33)] 51 (0, 0))) ∧ Aside0 (wc.heap[gb272]? = some (.cells #[.int .i64 t267, (.slice Ao43 t268.length co43)] 29 (0, 0))) ∧ Aside0 (Below w.heap.size w wc))
   case first =>
    have H := HC67.out
    clear HC67
    by_cases c79 : t287 < 0
    ·rw [if_pos c79] at H
     have c79b0 : decide (t287 < 0) = true := decide_eq_true c79
     clear c79
     (first | rw [c79b0] | (simp only [i64_w, i32_w]; rw [c79b0]) | skip)
     have H' := Aside0.mk H
     clear H
     go_wp2
     go_meet
     case rel => exact ⟨_, (true), Z9_32, H', ⟨by have := HJ10.out; first | omega | exact Nat.le_refl _⟩, ⟨Z9_39⟩, ⟨Z9_69⟩, ⟨Z9_70⟩, ⟨Z9_68⟩, ⟨Z9_40⟩, ⟨Z9_2⟩, ⟨Z9_4⟩, ⟨Z9_5⟩, ⟨Z9_8⟩, ⟨Z9_1⟩⟩
    rw [if_neg c79] at H
    have c79b0 : decide (t287 < 0) = false := decide_eq_false c79
    clear c79
    (first | rw [c79b0] | (simp only [i64_w, i32_w]; rw [c79b0]) | skip)
    replace H := Option.bind_eq_some_iff.mp H
    obtain ⟨t291, A800, H⟩ := H
    replace H : (if t291 = true then (laws_FnExactLink.j1 kj10 t252 (t271 != t252) a0_0 a0_1 l0_2 l0_3 a0_4 l0_5 t248 t249 t267 t268) else (laws_FnExactLink.j1 kj10 t252 true a0_0 a0_1 l0_2 l0_3 a0_4 l0_5 t248 t249 t267 t268)) = some r := H
    have A80 := Aside0.mk A800
    clear A800
    by_cases c81 : t291 = true
    ·subst c81
     have H1 : (laws_FnExactLink.j1 kj10 t252 (t271 != t252) a0_0 a0_1 l0_2 l0_3 a0_4 l0_5 t248 t249 t267 t268) = some r := by rw [if_pos rfl] at H; exact H
     clear H
     have H := H1
     clear H1
     have H' := Aside0.mk H
     clear H
     have hnb82 := NB272_234.out
     have hnc82 := NB234_272.out
     have hnb83 := NB272_253.out
     have hnc83 := NB253_272.out
     have hnb84 := NB272_266.out
     have hnc84 := NB266_272.out
     have hcz85_0 : w78.cell? ⟨gb272, 0, none⟩ = some (.int .i64 t267) := (blk_cell BK272.out 0).trans rfl
     have hcz85_1 : w78.cell? ⟨gb272, 1, none⟩ = some (.slice Ao43 t268.length co43) := (blk_cell BK272.out 1).trans rfl
     have hfz85_0 := blk_frozen BK272.out 0
     have hfz85_1 := blk_frozen BK272.out 1
     have hnb86 := NB253_234.out
     have hnc86 := NB234_253.out
     have hnb87 := NB253_266.out
     have hnc87 := NB266_253.out
     have hcz88_0 : w78.cell? ⟨gb253, 0, none⟩ = some (.int .i64 t248) := (blk_cell BK253.out 0).trans rfl
     have hcz88_1 : w78.cell? ⟨gb253, 1, none⟩ = some (.slice Ao24 t249.length co24) := (blk_cell BK253.out 1).trans rfl
     have hfz88_0 := blk_frozen BK253.out 0
     have hfz88_1 := blk_frozen BK253.out 1
     go_wp2_with (first | (go_at_call 11; (with_reducible refine (laws_eqImage.calls kj10 t267 _ _ t268 t248 _ _ t249 true _ ?side1 ?side2 ?side3 ?side4 A80.out).mono ?_); (case side1 => exact Z9_31); (case side2 => exact (Kd.S_reads' HO_273001.out).2.1); (case side3 => exact Z9_90); (case side4 => exact (Kd.S_reads' HO_254001.out).2.1); rintro e w89 ⟨rfl, hb⟩; have n0_ := Aside0.mk (Kd.S_below Z9_18 hb); have n1_ := Aside0.mk (Kd.R_below Z9_10 hb); have n2_ := Aside0.mk (Kd.R_below Z9_11 hb); have n3_ := Aside0.mk (Kd.R_below Z9_13 hb); have n4_ := Aside0.mk (Kd.S_below Z9_19 hb); have n5_ := Aside0.mk (Kd.R_below Z9_78 hb); have n6_ := Aside0.mk (Kd.R_below Z9_79 hb); have n7_ := Aside0.mk (Kd.R_below Z9_80 hb); have n8_ := Aside0.mk (blk_below (g := gb234) (o := .cells #[.int .i64 a0_0, .int .i64 a0_1, .slice A0_2 l0_2.length c0_2, .slice A0_3 l0_3.length c0_3, .int .i64 a0_4, .slice A0_5 l0_5.length c0_5] 45 (0, 0)) Z9_2 hb); have n9_ := Aside0.mk (blk_below (g := gb253) (o := .cells #[.int .i64 t248, .slice Ao24 t249.length co24] 29 (0, 0)) Z9_4 hb); have n10_ := Aside0.mk (blk_below (g := gb266) (o := .cells #[.int .i64 t254, .int .i64 t255, .slice Ao31 t256.length co31, .slice Ao32 t259.length co32, .int .i64 t262, .slice Ao33 t263.length co33] 51 (0, 0)) Z9_5 hb); have n11_ := Aside0.mk (blk_below (g := gb272) (o := .cells #[.int .i64 t267, .slice Ao43 t268.length co43] 29 (0, 0)) Z9_8 hb); have n12_ := Aside0.mk (below_step Z9_1 hb); clear HO_254001; clear HO_267002; clear HO_267003; clear HO_267005; clear HO_273001; clear HO278; clear HO281; clear HO285; clear BK234; clear BK253; clear BK266; clear BK272; clear HB; have HO_254001 := n0_; have HO_267002 := n1_; have HO_267003 := n2_; have HO_267005 := n3_; have HO_273001 := n4_; have HO278 := n5_; have HO281 := n6_; have HO285 := n7_; have BK234 := n8_; have BK253 := n9_; have BK266 := n10_; have BK272 := n11_; have HB := n12_; clear n0_ n1_ n2_ n3_ n4_ n5_ n6_ n7_ n8_ n9_ n10_ n11_ n12_; (try clear hb); (try clear hb2); (try clear hk); (try clear hi)))
     go_meet
     case rel => exact ⟨_, ((t271 != t252)), Z9_32, H', ⟨by have := HJ10.out; first | omega | exact Nat.le_refl _⟩, ⟨Z9_39⟩, ⟨Z9_69⟩, ⟨Z9_70⟩, ⟨Z9_68⟩, ⟨Z9_40⟩, ⟨Z9_2⟩, ⟨Z9_4⟩, ⟨Z9_5⟩, ⟨Z9_8⟩, ⟨Z9_1⟩⟩
    replace c81 := Bool.eq_false_iff.mpr c81
    subst c81
    have H1 : (laws_FnExactLink.j1 kj10 t252 true a0_0 a0_1 l0_2 l0_3 a0_4 l0_5 t248 t249 t267 t268) = some r := by rw [if_neg (show ¬ (false = true) by decide)] at H; exact H
    clear H
    have H := H1
    clear H1
    have H' := Aside0.mk H
    clear H
    have hnb90 := NB272_234.out
    have hnc90 := NB234_272.out
    have hnb91 := NB272_253.out
    have hnc91 := NB253_272.out
    have hnb92 := NB272_266.out
    have hnc92 := NB266_272.out
    have hcz93_0 : w78.cell? ⟨gb272, 0, none⟩ = some (.int .i64 t267) := (blk_cell BK272.out 0).trans rfl
    have hcz93_1 : w78.cell? ⟨gb272, 1, none⟩ = some (.slice Ao43 t268.length co43) := (blk_cell BK272.out 1).trans rfl
    have hfz93_0 := blk_frozen BK272.out 0
    have hfz93_1 := blk_frozen BK272.out 1
    have hnb94 := NB253_234.out
    have hnc94 := NB234_253.out
    have hnb95 := NB253_266.out
    have hnc95 := NB266_253.out
    have hcz96_0 : w78.cell? ⟨gb253, 0, none⟩ = some (.int .i64 t248) := (blk_cell BK253.out 0).trans rfl
    have hcz96_1 : w78.cell? ⟨gb253, 1, none⟩ = some (.slice Ao24 t249.length co24) := (blk_cell BK253.out 1).trans rfl
    have hfz96_0 := blk_frozen BK253.out 0
    have hfz96_1 := blk_frozen BK253.out 1
    go_wp2_with (first | (go_at_call 11; (with_reducible refine (laws_eqImage.calls kj10 t267 _ _ t268 t248 _ _ t249 false _ ?side1 ?side2 ?side3 ?side4 A80.out).mono ?_); (case side1 => exact Z9_31); (case side2 => exact (Kd.S_reads' HO_273001.out).2.1); (case side3 => exact Z9_90); (case side4 => exact (Kd.S_reads' HO_254001.out).2.1); rintro e w97 ⟨rfl, hb⟩; have n0_ := Aside0.mk (Kd.S_below Z9_18 hb); have n1_ := Aside0.mk (Kd.R_below Z9_10 hb); have n2_ := Aside0.mk (Kd.R_below Z9_11 hb); have n3_ := Aside0.mk (Kd.R_below Z9_13 hb); have n4_ := Aside0.mk (Kd.S_below Z9_19 hb); have n5_ := Aside0.mk (Kd.R_below Z9_78 hb); have n6_ := Aside0.mk (Kd.R_below Z9_79 hb); have n7_ := Aside0.mk (Kd.R_below Z9_80 hb); have n8_ := Aside0.mk (blk_below (g := gb234) (o := .cells #[.int .i64 a0_0, .int .i64 a0_1, .slice A0_2 l0_2.length c0_2, .slice A0_3 l0_3.length c0_3, .int .i64 a0_4, .slice A0_5 l0_5.length c0_5] 45 (0, 0)) Z9_2 hb); have n9_ := Aside0.mk (blk_below (g := gb253) (o := .cells #[.int .i64 t248, .slice Ao24 t249.length co24] 29 (0, 0)) Z9_4 hb); have n10_ := Aside0.mk (blk_below (g := gb266) (o := .cells #[.int .i64 t254, .int .i64 t255, .slice Ao31 t256.length co31, .slice Ao32 t259.length co32, .int .i64 t262, .slice Ao33 t263.length co33] 51 (0, 0)) Z9_5 hb); have n11_ := Aside0.mk (blk_below (g := gb272) (o := .cells #[.int .i64 t267, .slice Ao43 t268.length co43] 29 (0, 0)) Z9_8 hb); have n12_ := Aside0.mk (below_step Z9_1 hb); clear HO_254001; clear HO_267002; clear HO_267003; clear HO_267005; clear HO_273001; clear HO278; clear HO281; clear HO285; clear BK234; clear BK253; clear BK266; clear BK272; clear HB; have HO_254001 := n0_; have HO_267002 := n1_; have HO_267003 := n2_; have HO_267005 := n3_; have HO_273001 := n4_; have HO278 := n5_; have HO281 := n6_; have HO285 := n7_; have BK234 := n8_; have BK253 := n9_; have BK266 := n10_; have BK272 := n11_; have HB := n12_; clear n0_ n1_ n2_ n3_ n4_ n5_ n6_ n7_ n8_ n9_ n10_ n11_ n12_; (try clear hb); (try clear hb2); (try clear hk); (try clear hi)))
    go_meet
    case rel => exact ⟨_, (true), Z9_32, H', ⟨by have := HJ10.out; first | omega | exact Nat.le_refl _⟩, ⟨Z9_39⟩, ⟨Z9_69⟩, ⟨Z9_70⟩, ⟨Z9_68⟩, ⟨Z9_40⟩, ⟨Z9_2⟩, ⟨Z9_4⟩, ⟨Z9_5⟩, ⟨Z9_8⟩, ⟨Z9_1⟩⟩
   clear HC67
   try clear c1
   try clear c2
   try clear p2
   try clear c3
   try clear c3b0
   try clear c4
   try clear c5
   try clear c6
   try clear c7
   try clear c8
   try clear c9
   try clear c11
   try clear c22
   try clear c23
   try clear c24
   try clear c25
   try clear c26
   try clear c27
   try clear c28
   try clear c29
   try clear c39
   try clear c40
   try clear c41
   try clear c45
   try clear c46
   try clear c47
   try clear c48
   try clear c50
   try clear c51
   try clear c54
   try clear c55
   try clear c56
   try clear c58
   try clear c59
   try clear c62
   try clear c65
   try clear c74
   try clear c75
   try clear c76
   try clear c79
   try clear c79b0
   try clear c81
   try clear c82
   try clear c83
   try clear c84
   try clear c86
   try clear c87
   try clear c90
   try clear c91
   try clear c92
   try clear c94
   try clear c95
   try clear hcz13_0
   try clear hcz13_1
   try clear hcz13_2
   try clear hcz13_3
   try clear hcz13_4
   try clear hcz13_5
   try clear hcz15_0
   try clear hcz15_1
   try clear hcz15_2
   try clear hcz15_3
   try clear hcz15_4
   try clear hcz15_5
   try clear hcz23_0
   try clear hcz23_1
   try clear hcz25_0
   try clear hcz25_1
   try clear hcz25_2
   try clear hcz25_3
   try clear hcz25_4
   try clear hcz25_5
   try clear hcz30_0
   try clear hcz30_1
   try clear hcz30_2
   try clear hcz30_3
   try clear hcz30_4
   try clear hcz30_5
   try clear hcz35_0
   try clear hcz35_1
   try clear hcz35_2
   try clear hcz35_3
   try clear hcz35_4
   try clear hcz35_5
   try clear hcz42_0
   try clear hcz42_1
   try clear hcz49_0
   try clear hcz49_1
   try clear hcz52_0
   try clear hcz52_1
   try clear hcz57_0
   try clear hcz57_1
   try clear hcz5_0
   try clear hcz5_1
   try clear hcz5_2
   try clear hcz5_3
   try clear hcz5_4
   try clear hcz5_5
   try clear hcz60_0
   try clear hcz60_1
   try clear hcz77_0
   try clear hcz77_1
   try clear hcz77_2
   try clear hcz77_3
   try clear hcz77_4
   try clear hcz77_5
   try clear hcz85_0
   try clear hcz85_1
   try clear hcz88_0
   try clear hcz88_1
   try clear hcz93_0
   try clear hcz93_1
   try clear hcz96_0
   try clear hcz96_1
   try clear hfz13_0
   try clear hfz13_1
   try clear hfz13_2
   try clear hfz13_3
   try clear hfz13_4
   try clear hfz13_5
   try clear hfz15_0
   try clear hfz15_1
   try clear hfz15_2
   try clear hfz15_3
   try clear hfz15_4
   try clear hfz15_5
   try clear hfz23_0
   try clear hfz23_1
   try clear hfz25_0
   try clear hfz25_1
   try clear hfz25_2
   try clear hfz25_3
   try clear hfz25_4
   try clear hfz25_5
   try clear hfz30_0
   try clear hfz30_1
   try clear hfz30_2
   try clear hfz30_3
   try clear hfz30_4
   try clear hfz30_5
   try clear hfz35_0
   try clear hfz35_1
   try clear hfz35_2
   try clear hfz35_3
   try clear hfz35_4
   try clear hfz35_5
   try clear hfz42_0
   try clear hfz42_1
   try clear hfz49_0
   try clear hfz49_1
   try clear hfz52_0
   try clear hfz52_1
   try clear hfz57_0
   try clear hfz57_1
   try clear hfz5_0
   try clear hfz5_1
   try clear hfz5_2
   try clear hfz5_3
   try clear hfz5_4
   try clear hfz5_5
   try clear hfz60_0
   try clear hfz60_1
   try clear hfz77_0
   try clear hfz77_1
   try clear hfz77_2
   try clear hfz77_3
   try clear hfz77_4
   try clear hfz77_5
   try clear hfz85_0
   try clear hfz85_1
   try clear hfz88_0
   try clear hfz88_1
   try clear hfz93_0
   try clear hfz93_1
   try clear hfz96_0
   try clear hfz96_1
   try clear p2
   obtain ⟨kq, x61_66, rfl, HA, HJ66, HO_254001, HO_267002, HO_267003, HO_267005, HO_273001, BK234, BK253, BK266, BK272, HB⟩ := hcut
   have hl267002_66 := (Kd.R_reads' HO_267002.out).1
   rw [hl267002_66] at HO_267002
   (try simp only [hl267002_66])
   (try simp only [hl267002_66] at BK234)
   (try simp only [hl267002_66] at BK253)
   (try simp only [hl267002_66] at BK266)
   (try simp only [hl267002_66] at BK272)
   (try simp only [hl267002_66] at HO_254001)
   (try simp only [hl267002_66] at HO_267003)
   (try simp only [hl267002_66] at HO_267005)
   (try simp only [hl267002_66] at HO_273001)
   have hl267003_66 := (Kd.R_reads' HO_267003.out).1
   rw [hl267003_66] at HO_267003
   (try simp only [hl267003_66])
   (try simp only [hl267003_66] at BK234)
   (try simp only [hl267003_66] at BK253)
   (try simp only [hl267003_66] at BK266)
   (try simp only [hl267003_66] at BK272)
   (try simp only [hl267003_66] at HO_254001)
   (try simp only [hl267003_66] at HO_267002)
   (try simp only [hl267003_66] at HO_267005)
   (try simp only [hl267003_66] at HO_273001)
   have hl267005_66 := (Kd.R_reads' HO_267005.out).1
   rw [hl267005_66] at HO_267005
   (try simp only [hl267005_66])
   (try simp only [hl267005_66] at BK234)
   (try simp only [hl267005_66] at BK253)
   (try simp only [hl267005_66] at BK266)
   (try simp only [hl267005_66] at BK272)
   (try simp only [hl267005_66] at HO_254001)
   (try simp only [hl267005_66] at HO_267002)
   (try simp only [hl267005_66] at HO_267003)
   (try simp only [hl267005_66] at HO_273001)
   cases kq with
   | zero => exact absurd HA.out (by simp [laws_FnExactLink.j1])
   | succ kj66 =>
    have H := HA.out
    clear HA
    simp only [laws_FnExactLink.j1] at H
    by_cases c98 : x61_66 = true
    ·subst c98
     have H1 : (none) = some r := by rw [if_pos rfl] at H; exact H
     clear H
     have H := H1
     clear H1
     exact absurd H (by simp)
    replace c98 := Bool.eq_false_iff.mpr c98
    subst c98
    have H1 : ((laws_markImage.f kj66 t267 t268 1).bind fun bt292 => ((laws_heldImage.f kj66 t267 bt292.2 1).bind fun t294 => (if t294 < 0 then (none) else (if t294 = bt292.1 then ((laws_toAsm.f kj66 a0_0 a0_1 l0_2 l0_3 a0_4 l0_5).bind fun bt295 => ((impl_Link.f kj66 bt295.1 bt295.2.1 bt295.2.2.1 bt295.2.2.2.1 bt295.2.2.2.2.1 bt295.2.2.2.2.2).bind fun bt307 => ((laws_eqImage.f kj66 bt307.1 bt307.2.1 t248 t249).bind fun t313 => (if t313 = true then (laws_FnExactLink.j2 kj66 bt292.1 (bt307.2.2 != t252) t267 bt292.2) else (laws_FnExactLink.j2 kj66 bt292.1 true t267 bt292.2))))) else (none))))) = some r := by rw [if_neg (show ¬ (false = true) by decide)] at H; exact H
    clear H
    have H := H1
    clear H1
    replace H := Option.bind_eq_some_iff.mp H
    obtain ⟨⟨t292, t293⟩, A990, H⟩ := H
    replace H : ((laws_heldImage.f kj66 t267 t293 1).bind fun t294 => (if t294 < 0 then (none) else (if t294 = t292 then ((laws_toAsm.f kj66 a0_0 a0_1 l0_2 l0_3 a0_4 l0_5).bind fun bt295 => ((impl_Link.f kj66 bt295.1 bt295.2.1 bt295.2.2.1 bt295.2.2.2.1 bt295.2.2.2.2.1 bt295.2.2.2.2.2).bind fun bt307 => ((laws_eqImage.f kj66 bt307.1 bt307.2.1 t248 t249).bind fun t313 => (if t313 = true then (laws_FnExactLink.j2 kj66 t292 (bt307.2.2 != t252) t267 t293) else (laws_FnExactLink.j2 kj66 t292 true t267 t293))))) else (none)))) = some r := H
    have A99 := Aside0.mk A990
    clear A990
    replace H := Option.bind_eq_some_iff.mp H
    obtain ⟨t294, A1000, H⟩ := H
    replace H : (if t294 < 0 then (none) else (if t294 = t292 then ((laws_toAsm.f kj66 a0_0 a0_1 l0_2 l0_3 a0_4 l0_5).bind fun bt295 => ((impl_Link.f kj66 bt295.1 bt295.2.1 bt295.2.2.1 bt295.2.2.2.1 bt295.2.2.2.2.1 bt295.2.2.2.2.2).bind fun bt307 => ((laws_eqImage.f kj66 bt307.1 bt307.2.1 t248 t249).bind fun t313 => (if t313 = true then (laws_FnExactLink.j2 kj66 t292 (bt307.2.2 != t252) t267 t293) else (laws_FnExactLink.j2 kj66 t292 true t267 t293))))) else (none))) = some r := H
    have A100 := Aside0.mk A1000
    clear A1000
    by_cases c101 : t294 < 0
    ·rw [if_pos c101] at H
     exact absurd H (by simp)
    rw [if_neg c101] at H
    have c101b0 : decide (t294 < 0) = false := decide_eq_false c101
    clear c101
    by_cases c102 : t294 = t292
    ·rw [if_pos c102] at H
     have c102b0 : (t294 == t292) = true := beq_iff_eq.mpr c102
     have c102b1 : (t294 != t292) = false := bne_eq_false_iff_eq.mpr c102
     clear c102
     replace H := Option.bind_eq_some_iff.mp H
     obtain ⟨⟨t295, t296, t297, t300, t303, t304⟩, A1030, H⟩ := H
     replace H : ((impl_Link.f kj66 t295 t296 t297 t300 t303 t304).bind fun bt307 => ((laws_eqImage.f kj66 bt307.1 bt307.2.1 t248 t249).bind fun t313 => (if t313 = true then (laws_FnExactLink.j2 kj66 t292 (bt307.2.2 != t252) t267 t293) else (laws_FnExactLink.j2 kj66 t292 true t267 t293)))) = some r := H
     have A103 := Aside0.mk A1030
     clear A1030
     replace H := Option.bind_eq_some_iff.mp H
     obtain ⟨⟨t307, t308, t311⟩, A1040, H⟩ := H
     replace H : ((laws_eqImage.f kj66 t307 t308 t248 t249).bind fun t313 => (if t313 = true then (laws_FnExactLink.j2 kj66 t292 (t311 != t252) t267 t293) else (laws_FnExactLink.j2 kj66 t292 true t267 t293))) = some r := H
     have A104 := Aside0.mk A1040
     clear A1040
     have HC105 := Aside0.mk H
     clear H
     have hnb106 := NB272_234.out
     have hnc106 := NB234_272.out
     have hnb107 := NB272_253.out
     have hnc107 := NB253_272.out
     have hnb108 := NB272_266.out
     have hnc108 := NB266_272.out
     have hcz109_0 : wc.cell? ⟨gb272, 0, none⟩ = some (.int .i64 t267) := (blk_cell BK272.out 0).trans rfl
     have hcz109_1 : wc.cell? ⟨gb272, 1, none⟩ = some (.slice Ao43 t268.length co43) := (blk_cell BK272.out 1).trans rfl
     have hfz109_0 := blk_frozen BK272.out 0
     have hfz109_1 := blk_frozen BK272.out 1
     go_upto_region 25 with (first | ((with_reducible refine gate_callee (f := 15) rfl ?_); refine goesL_ (some 64) rfl rfl Try.func15 Z9_83 rfl #[.agg #[.int .i64 t267, .slice Ao43 t268.length co43], .int .i64 1] rfl Z9_3 ?_; (with_reducible refine (laws_markImage.calls kj66 t267 (fun k_ => ((some k_ ≠ (.slice Ao24 t249.length co24 : Value).ownBlock ∧ (some k_ ≠ (.slice Ao31 t288.length co31 : Value).ownBlock ∧ (some k_ ≠ (.slice Ao32 t289.length co32 : Value).ownBlock ∧ N37_ ≤ k_))) ∧ some k_ ≠ (.slice Ao33 t290.length co33 : Value).ownBlock) ∧ (w.heap.size ≤ k_ ∧ k_ ≠ gb234 ∧ k_ ≠ gb253 ∧ k_ ≠ gb266 ∧ k_ ≠ gb272)) (.slice Ao43 t268.length co43) t268 1 t292 t293 w _ ?side1 ?side2 A99.out).mono ?_); (case side1 => exact Z9_1); (case side2 => exact Kd.S_mono (Kd.S_bound (Kd.S_types (Kd.S_types (Kd.S_types (Kd.S_types ((Kd.S_apart' HO_273001.out (Kd.R_typed HO_267005.out) Z9_95)) BK234.out Z9_95) BK253.out Z9_95) BK266.out Z9_95) BK272.out Z9_95)) (fun _ h_ => ⟨h_.1.1.1.1.1, h_.2.1, h_.1.1.1.1.2, h_.1.1.1.2, h_.1.1.2, h_.1.2⟩)); rintro e w110 ⟨rfl, hy0, hb, hkp⟩; refine ⟨_, rfl, ?_⟩; have n0_ := Aside0.mk (Kd.S_mono (ok' := fun k_ => some k_ ≠ (.slice Ao31 t288.length co31 : Value).ownBlock ∧ some k_ ≠ (.slice Ao32 t289.length co32 : Value).ownBlock ∧ some k_ ≠ (.slice Ao43 t268.length co43 : Value).ownBlock ∧ k_ < N37_) (Kd.S_keptB (HO_254001.out) hkp (fun k_ hk_ hs_ => (fun hs2_ => Nat.lt_irrefl _ (Nat.lt_of_lt_of_le hk_.2.2.2 hs2_.1.1.2.2.2)) hs_)) (fun k_ hk_ => ⟨hk_.1.1, hk_.1.2.1, hk_.1.2.2.1, hk_.1.2.2.2⟩)); have n1_ := Aside0.mk (Kd.R_mono (ok' := fun k_ => some k_ ≠ (.slice Ao32 t289.length co32 : Value).ownBlock) (Kd.R_keptB ((Kd.R_tight2 rfl HO_267002.out)) hkp (fun k_ hk_ hs_ => (fun hs2_ => (hs2_.1.1.2.1) hk_.1) hs_)) (fun k_ hk_ => hk_.1.2)); have n2_ := Aside0.mk (Kd.R_mono (ok' := fun k_ => some k_ ≠ (.slice Ao31 t288.length co31 : Value).ownBlock) (Kd.R_keptB ((Kd.R_tight2 rfl HO_267003.out)) hkp (fun k_ hk_ hs_ => (fun hs2_ => (hs2_.1.1.2.2.1) hk_.1) hs_)) (fun k_ hk_ => hk_.1.2)); have n3_ := Aside0.mk (Kd.R_mono (ok' := fun k_ => True) (Kd.R_keptB ((Kd.R_tight2 rfl HO_267005.out)) hkp (fun k_ hk_ hs_ => (fun hs2_ => (hs2_.1.2) hk_.1) hs_)) (fun k_ hk_ => trivial)); have n4_ := Aside0.mk (Kd.S_mono (ok' := fun k_ => some k_ ≠ (.slice Ao24 t249.length co24 : Value).ownBlock ∧ some k_ ≠ (.slice Ao31 t288.length co31 : Value).ownBlock ∧ some k_ ≠ (.slice Ao32 t289.length co32 : Value).ownBlock) hy0 (fun k_ hk_ => Or.elim hk_ (fun hs_ => ⟨hs_.1.1.1, hs_.1.1.2.1, hs_.1.1.2.2.1⟩) (fun hn_ => ⟨fun e_ => Nat.not_le.2 ((Kd.R_bound (Kd.S_R HO_254001.out)).1 k_ e_.symm).2.2.1 hn_, fun e_ => Nat.not_le.2 ((Kd.R_bound HO_267002.out).1 k_ e_.symm).2.2.1 hn_, fun e_ => Nat.not_le.2 ((Kd.R_bound HO_267003.out).1 k_ e_.symm).2.2.1 hn_⟩))); have n5_ := Aside0.mk (blk_kept Z9_2 hkp (fun hs_ => hs_.2.2.1 rfl)); have n6_ := Aside0.mk (blk_kept Z9_4 hkp (fun hs_ => hs_.2.2.2.1 rfl)); have n7_ := Aside0.mk (blk_kept Z9_5 hkp (fun hs_ => hs_.2.2.2.2.1 rfl)); have n8_ := Aside0.mk (blk_kept Z9_8 hkp (fun hs_ => hs_.2.2.2.2.2 rfl)); have n9_ := Aside0.mk (hb); clear HO_254001; clear HO_267002; clear HO_267003; clear HO_267005; clear HO_273001; clear BK234; clear BK253; clear BK266; clear BK272; clear HB; have HO_254001 := n0_; have HO_267002 := n1_; have HO_267003 := n2_; have HO_267005 := n3_; have HO_273001 := n4_; have BK234 := n5_; have BK253 := n6_; have BK266 := n7_; have BK272 := n8_; have HB := n9_; clear n0_ n1_ n2_ n3_ n4_ n5_ n6_ n7_ n8_ n9_; (try clear hb); (try clear hkp); (try clear hy0); have hcz111_0 : w110.cell? ⟨gb272, 0, none⟩ = some (.int .i64 t267) := (blk_cell BK272.out 0).trans rfl; have hcz111_1 : w110.cell? ⟨gb272, 1, none⟩ = some (.slice Ao43 t268.length co43) := (blk_cell BK272.out 1).trans rfl; have hfz111_0 := blk_frozen BK272.out 0; have hfz111_1 := blk_frozen BK272.out 1) | ((with_reducible refine gate_callee (f := 21) rfl ?_); refine goesL_ (some 67) rfl rfl Try.func21 Z9_83 rfl #[.agg #[.int .i64 t267, .slice Ao43 t293.length co43], .int .i64 1] rfl (by (try simp only [List.map_toArray, List.map_cons, List.map_nil]); first | done | (rw [show t293.length = t268.length from (Kd.S_reads' HO_273001.out).1.symm] <;> rfl) | rfl | (simp only [List.length_drop, List.length_take]; first | done | rfl)) ?_; (with_reducible refine (laws_heldImage.calls kj66 t267 _ _ t293 1 t294 _ ?side1 ?side2 A100.out).mono ?_); (case side1 => exact Z9_31); (case side2 => rw [show t293.length = t268.length from (Kd.S_reads' HO_273001.out).1.symm]; exact (Kd.S_reads' HO_273001.out).2.1); rintro e w112 ⟨rfl, hb⟩; refine ⟨_, rfl, ?_⟩; have n0_ := Aside0.mk (Kd.S_below Z9_18 hb); have n1_ := Aside0.mk (Kd.R_below Z9_10 hb); have n2_ := Aside0.mk (Kd.R_below Z9_11 hb); have n3_ := Aside0.mk (Kd.R_below Z9_13 hb); have n4_ := Aside0.mk (Kd.S_below Z9_19 hb); have n5_ := Aside0.mk (blk_below (g := gb234) (o := .cells #[.int .i64 a0_0, .int .i64 a0_1, .slice A0_2 l0_2.length c0_2, .slice A0_3 l0_3.length c0_3, .int .i64 a0_4, .slice A0_5 l0_5.length c0_5] 45 (0, 0)) Z9_2 hb); have n6_ := Aside0.mk (blk_below (g := gb253) (o := .cells #[.int .i64 t248, .slice Ao24 t249.length co24] 29 (0, 0)) Z9_4 hb); have n7_ := Aside0.mk (blk_below (g := gb266) (o := .cells #[.int .i64 t254, .int .i64 t255, .slice Ao31 t288.length co31, .slice Ao32 t289.length co32, .int .i64 t262, .slice Ao33 t290.length co33] 51 (0, 0)) Z9_5 hb); have n8_ := Aside0.mk (blk_below (g := gb272) (o := .cells #[.int .i64 t267, .slice Ao43 t268.length co43] 29 (0, 0)) Z9_8 hb); have n9_ := Aside0.mk (below_step Z9_1 hb); clear HO_254001; clear HO_267002; clear HO_267003; clear HO_267005; clear HO_273001; clear BK234; clear BK253; clear BK266; clear BK272; clear HB; have HO_254001 := n0_; have HO_267002 := n1_; have HO_267003 := n2_; have HO_267005 := n3_; have HO_273001 := n4_; have BK234 := n5_; have BK253 := n6_; have BK266 := n7_; have BK272 := n8_; have HB := n9_; clear n0_ n1_ n2_ n3_ n4_ n5_ n6_ n7_ n8_ n9_; (try clear hb); (try clear hb2); (try clear hk); (try clear hi); have hnb113 := NB234_253.out; have hnc113 := NB253_234.out; have hnb114 := NB234_266.out; have hnc114 := NB266_234.out; have hcz115_0 : w112.cell? ⟨gb234, 0, none⟩ = some (.int .i64 a0_0) := (blk_cell BK234.out 0).trans rfl; have hcz115_1 : w112.cell? ⟨gb234, 1, none⟩ = some (.int .i64 a0_1) := (blk_cell BK234.out 1).trans rfl; have hcz115_2 : w112.cell? ⟨gb234, 2, none⟩ = some (.slice A0_2 l0_2.length c0_2) := (blk_cell BK234.out 2).trans rfl; have hcz115_3 : w112.cell? ⟨gb234, 3, none⟩ = some (.slice A0_3 l0_3.length c0_3) := (blk_cell BK234.out 3).trans rfl; have hcz115_4 : w112.cell? ⟨gb234, 4, none⟩ = some (.int .i64 a0_4) := (blk_cell BK234.out 4).trans rfl; have hcz115_5 : w112.cell? ⟨gb234, 5, none⟩ = some (.slice A0_5 l0_5.length c0_5) := (blk_cell BK234.out 5).trans rfl; have hfz115_0 := blk_frozen BK234.out 0; have hfz115_1 := blk_frozen BK234.out 1; have hfz115_2 := blk_frozen BK234.out 2; have hfz115_3 := blk_frozen BK234.out 3; have hfz115_4 := blk_frozen BK234.out 4; have hfz115_5 := blk_frozen BK234.out 5) | ((with_reducible refine gate_callee (f := 24) rfl ?_); refine goesL_ (some 75) rfl rfl Try.func24 Z9_83 rfl #[.agg #[.int .i64 a0_0, .int .i64 a0_1, .slice A0_2 l0_2.length c0_2, .slice A0_3 l0_3.length c0_3, .int .i64 a0_4, .slice A0_5 l0_5.length c0_5]] rfl Z9_3 ?_; (with_reducible refine (laws_toAsm.calls kj66 a0_0 a0_1 _ _ l0_2 _ _ l0_3 a0_4 _ _ l0_5 t295 t296 t297 t300 t303 t304 _ ?side1 ?side2 ?side3 ?side4 ?side5 ?side6 A103.out).mono ?_); (case side1 => exact Z9_20); (case side2 => exact HC0_2.out); (case side3 => exact Z9_21); (case side4 => exact HC0_3.out); (case side5 => exact Z9_22); (case side6 => exact HC0_5.out); rintro e w116 ⟨v298, v301, v305, rfl, ho0, ho1, ho2, hb⟩; refine ⟨_, rfl, ?_⟩; have n0_ := Aside0.mk (Kd.S_mono (Kd.S_told (Kd.S_told (Kd.S_old Z9_18 hb) (Kd.R_base ho0)) (Kd.R_base ho1)) (fun _ h_ => h_.1)); have n1_ := Aside0.mk (Kd.R_mono (Kd.R_told (Kd.R_told (Kd.R_old Z9_10 hb) (Kd.R_base ho0)) (Kd.R_base ho1)) (fun _ h_ => h_.1)); have n2_ := Aside0.mk (Kd.R_mono (Kd.R_told (Kd.R_told (Kd.R_old Z9_11 hb) (Kd.R_base ho0)) (Kd.R_base ho1)) (fun _ h_ => h_.1)); have n3_ := Aside0.mk (Kd.R_elder' Z9_13 (Kd.R_base ho2) hb); have n4_ := Aside0.mk (Kd.S_mono (Kd.S_told (Kd.S_told (Kd.S_old Z9_19 hb) (Kd.R_base ho0)) (Kd.R_base ho1)) (fun _ h_ => h_.1)); have n5_ := Aside0.mk (Kd.R_lower (Kd.R_new' (Kd.R_new' ho0 (Kd.R_lt Z9_10)) (Kd.R_lt Z9_11)) (below_size Z9_1)); have n6_ := Aside0.mk (Kd.R_lower (Kd.R_new' (Kd.R_new' ho1 (Kd.R_lt Z9_10)) (Kd.R_lt Z9_11)) (below_size Z9_1)); have n7_ := Aside0.mk (Kd.R_lower (Kd.R_new' ho2 (Kd.R_lt Z9_13)) (below_size Z9_1)); have n8_ := Aside0.mk (blk_below (g := gb234) (o := .cells #[.int .i64 a0_0, .int .i64 a0_1, .slice A0_2 l0_2.length c0_2, .slice A0_3 l0_3.length c0_3, .int .i64 a0_4, .slice A0_5 l0_5.length c0_5] 45 (0, 0)) Z9_2 hb); have n9_ := Aside0.mk (blk_below (g := gb253) (o := .cells #[.int .i64 t248, .slice Ao24 t249.length co24] 29 (0, 0)) Z9_4 hb); have n10_ := Aside0.mk (blk_below (g := gb266) (o := .cells #[.int .i64 t254, .int .i64 t255, .slice Ao31 t288.length co31, .slice Ao32 t289.length co32, .int .i64 t262, .slice Ao33 t290.length co33] 51 (0, 0)) Z9_5 hb); have n11_ := Aside0.mk (blk_below (g := gb272) (o := .cells #[.int .i64 t267, .slice Ao43 t268.length co43] 29 (0, 0)) Z9_8 hb); have n12_ := Aside0.mk (below_step Z9_1 hb); clear HO_254001; clear HO_267002; clear HO_267003; clear HO_267005; clear HO_273001; clear BK234; clear BK253; clear BK266; clear BK272; clear HB; have HO_254001 := n0_; have HO_267002 := n1_; have HO_267003 := n2_; have HO_267005 := n3_; have HO_273001 := n4_; have HO299 := n5_; have HO302 := n6_; have HO306 := n7_; have BK234 := n8_; have BK253 := n9_; have BK266 := n10_; have BK272 := n11_; have HB := n12_; clear n0_ n1_ n2_ n3_ n4_ n5_ n6_ n7_ n8_ n9_ n10_ n11_ n12_; (try clear hb); (try clear hb2 hk hi); (try clear ho0); (try clear ho1); (try clear ho2); obtain ⟨Ao117, co117, eo117⟩ := Kd.R_slice HO299.out; subst eo117; obtain ⟨Ao118, co118, eo118⟩ := Kd.R_slice HO302.out; subst eo118; obtain ⟨Ao119, co119, eo119⟩ := Kd.R_slice HO306.out; subst eo119) | ((with_reducible refine gate_callee (f := 25) rfl ?_); refine goesL_ (some 76) rfl rfl Try.func25 Z9_83 rfl #[.agg #[.int .i64 t295, .int .i64 t296, .slice Ao117 t297.length co117, .slice Ao118 t300.length co118, .int .i64 t303, .slice Ao119 t304.length co119]] rfl Z9_3 ?_; (with_reducible refine (impl_Link.calls kj66 t295 t296 _ _ t297 _ _ t300 t303 _ _ t304 t307 t308 t311 _ ?side1 ?side2 ?side3 ?side4 ?side5 ?side6 A104.out).mono ?_); (case side1 => repeat (first | exact (Kd.R_reads' HO299.out).2.2 | (with_reducible refine Kd.C_alloc ?_ _) | (with_reducible refine Kd.C_drewN ?_ _) | (with_reducible refine Kd.C_drew ?_))); (case side2 => exact (Kd.R_reads' HO299.out).2.1); (case side3 => repeat (first | exact (Kd.R_reads' HO302.out).2.2 | (with_reducible refine Kd.C_alloc ?_ _) | (with_reducible refine Kd.C_drewN ?_ _) | (with_reducible refine Kd.C_drew ?_))); (case side4 => exact (Kd.R_reads' HO302.out).2.1); (case side5 => repeat (first | exact (Kd.R_reads' HO306.out).2.2 | (with_reducible refine Kd.C_alloc ?_ _) | (with_reducible refine Kd.C_drewN ?_ _) | (with_reducible refine Kd.C_drew ?_))); (case side6 => exact (Kd.R_reads' HO306.out).2.1); rintro e w120 ⟨v309, rfl, ho0, hb⟩; refine ⟨_, rfl, ?_⟩; obtain ⟨N121_, naN121_, nbN121_⟩ := S_ages_ Z9_18 ho0 hb; obtain ⟨N122_, naN122_, nbN122_⟩ := S_ages_ Z9_19 nbN121_ hb; have n0_ := Aside0.mk (naN121_); have n1_ := Aside0.mk (Kd.R_below Z9_10 hb); have n2_ := Aside0.mk (Kd.R_below Z9_11 hb); have n3_ := Aside0.mk (Kd.R_below Z9_13 hb); have n4_ := Aside0.mk (naN122_); have n5_ := Aside0.mk (Kd.R_below Z9_81 hb); have n6_ := Aside0.mk (Kd.R_below Z9_82 hb); have n7_ := Aside0.mk (Kd.R_below (by (with_reducible repeat (first | apply Kd.R_alloc | apply Kd.R_drewN | apply Kd.R_drew)); exact HO306.out) hb); have n8_ := Aside0.mk (Kd.S_lower (Kd.S_new' (Kd.S_new' (Kd.S_new' (Kd.S_new' nbN122_ (Kd.R_lt Z9_10)) (Kd.R_lt Z9_11)) (Kd.R_lt Z9_81)) (Kd.R_lt Z9_82)) (below_size Z9_1)); have n9_ := Aside0.mk (blk_below (g := gb234) (o := .cells #[.int .i64 a0_0, .int .i64 a0_1, .slice A0_2 l0_2.length c0_2, .slice A0_3 l0_3.length c0_3, .int .i64 a0_4, .slice A0_5 l0_5.length c0_5] 45 (0, 0)) Z9_2 hb); have n10_ := Aside0.mk (blk_below (g := gb253) (o := .cells #[.int .i64 t248, .slice Ao24 t249.length co24] 29 (0, 0)) Z9_4 hb); have n11_ := Aside0.mk (blk_below (g := gb266) (o := .cells #[.int .i64 t254, .int .i64 t255, .slice Ao31 t288.length co31, .slice Ao32 t289.length co32, .int .i64 t262, .slice Ao33 t290.length co33] 51 (0, 0)) Z9_5 hb); have n12_ := Aside0.mk (blk_below (g := gb272) (o := .cells #[.int .i64 t267, .slice Ao43 t268.length co43] 29 (0, 0)) Z9_8 hb); have n13_ := Aside0.mk (below_step Z9_1 hb); clear HO_254001; clear HO_267002; clear HO_267003; clear HO_267005; clear HO_273001; clear HO299; clear HO302; clear HO306; clear BK234; clear BK253; clear BK266; clear BK272; clear HB; have HO_254001 := n0_; have HO_267002 := n1_; have HO_267003 := n2_; have HO_267005 := n3_; have HO_273001 := n4_; have HO299 := n5_; have HO302 := n6_; have HO306 := n7_; have HO310 := n8_; have BK234 := n9_; have BK253 := n10_; have BK266 := n11_; have BK272 := n12_; have HB := n13_; clear n0_ n1_ n2_ n3_ n4_ n5_ n6_ n7_ n8_ n9_ n10_ n11_ n12_ n13_; (try clear hb); (try clear hb2 hk hi); (try clear ho0)) | ((with_reducible refine gate_dst (N := 12) rfl ?_); refine box_event ?hg (N := 12) ?hd (cs := #[.int .i64 0, .slice none 0 0]) (t := 29) ?hr ?_; (case hd => rfl); (case hg => rfl); (case hr => exact Z9_76); intro gb312 hg w123 hbox hb; have n0_ := Aside0.mk (Kd.S_below Z9_18 hb); have n1_ := Aside0.mk (Kd.R_below Z9_10 hb); have n2_ := Aside0.mk (Kd.R_below Z9_11 hb); have n3_ := Aside0.mk (Kd.R_below Z9_13 hb); have n4_ := Aside0.mk (Kd.S_below Z9_19 hb); have n5_ := Aside0.mk (Kd.R_below Z9_81 hb); have n6_ := Aside0.mk (Kd.R_below Z9_82 hb); have n7_ := Aside0.mk (Kd.R_below (by (with_reducible repeat (first | apply Kd.R_alloc | apply Kd.R_drewN | apply Kd.R_drew)); exact HO306.out) hb); have n8_ := Aside0.mk (Kd.S_below (by (with_reducible repeat (first | apply Kd.S_alloc | apply Kd.S_drewN | apply Kd.S_drew)); exact HO310.out) hb); have n9_ := Aside0.mk (blk_below (g := gb234) (o := .cells #[.int .i64 a0_0, .int .i64 a0_1, .slice A0_2 l0_2.length c0_2, .slice A0_3 l0_3.length c0_3, .int .i64 a0_4, .slice A0_5 l0_5.length c0_5] 45 (0, 0)) Z9_2 hb); have n10_ := Aside0.mk (blk_below (g := gb253) (o := .cells #[.int .i64 t248, .slice Ao24 t249.length co24] 29 (0, 0)) Z9_4 hb); have n11_ := Aside0.mk (blk_below (g := gb266) (o := .cells #[.int .i64 t254, .int .i64 t255, .slice Ao31 t288.length co31, .slice Ao32 t289.length co32, .int .i64 t262, .slice Ao33 t290.length co33] 51 (0, 0)) Z9_5 hb); have n12_ := Aside0.mk (blk_below (g := gb272) (o := .cells #[.int .i64 t267, .slice Ao43 t268.length co43] 29 (0, 0)) Z9_8 hb); have n13_ := Aside0.mk (below_step Z9_1 hb); have n14_ := Aside0.mk (hbox); have n15_ := Aside0.mk ((by rw [hg]; exact (below_size Z9_1) : w.heap.size ≤ gb312)); have n16_ := Aside0.mk ((by rw [hg]; exact (below_size Z9_1) : w.heap.size ≤ gb312)); have n17_ := Aside0.mk ((Z9_24 : gb234 ≠ gb312)); have n18_ := Aside0.mk ((Z9_25 : gb312 ≠ gb234)); have n19_ := Aside0.mk ((Z9_71 : gb253 ≠ gb312)); have n20_ := Aside0.mk ((Z9_72 : gb312 ≠ gb253)); have n21_ := Aside0.mk ((by rw [hg]; exact Nat.ne_of_lt (blk_lt (g := gb266) (o := .cells #[.int .i64 t254, .int .i64 t255, .slice Ao31 t288.length co31, .slice Ao32 t289.length co32, .int .i64 t262, .slice Ao33 t290.length co33] 51 (0, 0)) Z9_5) : gb266 ≠ gb312)); have n22_ := Aside0.mk ((by rw [hg]; exact Nat.ne_of_gt (blk_lt (g := gb266) (o := .cells #[.int .i64 t254, .int .i64 t255, .slice Ao31 t288.length co31, .slice Ao32 t289.length co32, .int .i64 t262, .slice Ao33 t290.length co33] 51 (0, 0)) Z9_5) : gb312 ≠ gb266)); have n23_ := Aside0.mk ((by rw [hg]; exact Nat.ne_of_lt (blk_lt (g := gb272) (o := .cells #[.int .i64 t267, .slice Ao43 t268.length co43] 29 (0, 0)) Z9_8) : gb272 ≠ gb312)); have n24_ := Aside0.mk ((by rw [hg]; exact Nat.ne_of_gt (blk_lt (g := gb272) (o := .cells #[.int .i64 t267, .slice Ao43 t268.length co43] 29 (0, 0)) Z9_8) : gb312 ≠ gb272)); clear HO_254001; clear HO_267002; clear HO_267003; clear HO_267005; clear HO_273001; clear HO299; clear HO302; clear HO306; clear HO310; clear BK234; clear BK253; clear BK266; clear BK272; clear HB; have HO_254001 := n0_; have HO_267002 := n1_; have HO_267003 := n2_; have HO_267005 := n3_; have HO_273001 := n4_; have HO299 := n5_; have HO302 := n6_; have HO306 := n7_; have HO310 := n8_; have BK234 := n9_; have BK253 := n10_; have BK266 := n11_; have BK272 := n12_; have HB := n13_; have BK312 := n14_; have GW312 := n15_; have GE312 := n16_; have NB234_312 := n17_; have NB312_234 := n18_; have NB253_312 := n19_; have NB312_253 := n20_; have NB266_312 := n21_; have NB312_266 := n22_; have NB272_312 := n23_; have NB312_272 := n24_; clear n0_ n1_ n2_ n3_ n4_ n5_ n6_ n7_ n8_ n9_ n10_ n11_ n12_ n13_ n14_ n15_ n16_ n17_ n18_ n19_ n20_ n21_ n22_ n23_ n24_; clear hb hbox hg; have hnb124 := NB312_234.out; have hnc124 := NB234_312.out; have hnb125 := NB312_253.out; have hnc125 := NB253_312.out; have hnb126 := NB312_266.out; have hnc126 := NB266_312.out; have hnb127 := NB312_272.out; have hnc127 := NB272_312.out; have hcz128_0 : w123.cell? ⟨gb312, 0, none⟩ = some (.int .i64 0) := (blk_cell BK312.out 0).trans rfl; have hcz128_1 : w123.cell? ⟨gb312, 1, none⟩ = some (.slice none 0 0) := (blk_cell BK312.out 1).trans rfl; have hfz128_0 := blk_frozen BK312.out 0; have hfz128_1 := blk_frozen BK312.out 1; obtain ⟨Ao129, co129, eo129⟩ := Kd.S_slice HO310.out; subst eo129))
     (try simp only [Act.put, List.setIfInBounds_toArray, List.set_cons_zero, List.set_cons_succ])
     go_cut [87] (fun v87 wc => ∃ (kq : Nat) (x87_104 : Bool), v87 = .bool x87_104 ∧ Aside0 (laws_FnExactLink.j2 kq t292 x87_104 t267 t293 = some r) ∧ Aside0 (kq ≤ kj66) ∧ Aside0 (Kd.S k58 58 wc w.heap.size (fun k_ => some k_ ≠ ((.slice Ao31 t288.length co31) : Value).ownBlock ∧ some k_ ≠ ((.slice Ao32 t289.length co32) : Value).ownBlock ∧ some k_ ≠ ((.slice Ao43 t268.length co43) : Value).ownBlock ∧ some k_ ≠ ((.slice Ao129 t308.length co129) : Value).ownBlock ∧ k_ < N37_ ∧ k_ < N121_) (.slice Ao24 t249.length co24) t249) ∧ Aside0 (Kd.R (Kd.int .u8) 5 wc w.heap.size (fun k_ => some k_ ≠ ((.slice Ao32 t289.length co32) : Value).ownBlock) (.slice Ao31 t288.length co31) t288) ∧ Aside0 (Kd.R (Kd.int .u8) 5 wc w.heap.size (fun k_ => some k_ ≠ ((.slice Ao31 t288.length co31) : Value).ownBlock) (.slice Ao32 t289.length co32) t289) ∧ Aside0 (Kd.R k87 87 wc w.heap.size (fun _ => True) (.slice Ao33 t290.length co33) t290) ∧ Aside0 (Kd.S k58 58 wc w.heap.size (fun k_ => some k_ ≠ ((.slice Ao24 t249.length co24) : Value).ownBlock ∧ some k_ ≠ ((.slice Ao31 t288.length co31) : Value).ownBlock ∧ some k_ ≠ ((.slice Ao32 t289.length co32) : Value).ownBlock ∧ some k_ ≠ ((.slice Ao129 t308.length co129) : Value).ownBlock ∧ k_ < N122_) (.slice Ao43 t268.length co43) t293) ∧ Aside0 (Kd.S k58 58 wc w.heap.size (fun k_ => some k_ ≠ ((.slice Ao24 t249.length co24) : Value).ownBlock ∧ some k_ ≠ ((.slice Ao31 t288.length co31) : Value).ownBlock ∧ some k_ ≠ ((.slice Ao32 t289.length co32) : Value).ownBlock ∧ some k_ ≠ ((.slice Ao43 t268.length co43) : Value).ownBlock ∧ N121_ ≤ k_ ∧ N122_ ≤ k_) (.slice Ao129 t308.length co129) t308) ∧ Aside0 (wc.heap[gb234]? = some (.cells #[.int .i64 a0_0, .int .i64 a0_1, (.slice A0_2 l0_2.length c0_2), (.slice A0_3 l0_3.length c0_3), .int .i64 a0_4, (.slice A0_5 l0_5.length c0_5)] 45 (0, 0))) ∧ Aside0 (wc.heap[gb253]? = some (.cells #[.int .i64 t248, (.slice Ao24 t249.length co24)] 29 (0, 0))) ∧ Aside0 (wc.heap[gb266]? = some (.cells #[.int .i64 t254, .int .i64 t255, (.slice Ao31 t288.length co31), (.slice Ao32 t289.length co32), .int .i64 t262, (.slice Ao33 t290.length co33)] 51 (0, 0))) ∧ Aside0 (wc.heap[gb272]? = some (.cells #[.int .i64 t267, (.slice Ao43 t268.length co43)] 29 (0, 0))) ∧ Aside0 (wc.heap[gb312]? = some (.cells #[.int .i64 t307, (.slice Ao129 t308.length co129)] 29 (0, 0))) ∧ Aside0 (Below w.heap.size w wc))
     case first =>
      have H := HC105.out
      clear HC105
      replace H := Option.bind_eq_some_iff.mp H
      obtain ⟨t313, A1300, H⟩ := H
      replace H : (if t313 = true then (laws_FnExactLink.j2 kj66 t292 (t311 != t252) t267 t293) else (laws_FnExactLink.j2 kj66 t292 true t267 t293)) = some r := H
      have A130 := Aside0.mk A1300
      clear A1300
      by_cases c131 : t313 = true
      ·subst c131
       have H1 : (laws_FnExactLink.j2 kj66 t292 (t311 != t252) t267 t293) = some r := by rw [if_pos rfl] at H; exact H
       clear H
       have H := H1
       clear H1
       have H' := Aside0.mk H
       clear H
       have hnb132 := NB312_234.out
       have hnc132 := NB234_312.out
       have hnb133 := NB312_253.out
       have hnc133 := NB253_312.out
       have hnb134 := NB312_266.out
       have hnc134 := NB266_312.out
       have hnb135 := NB312_272.out
       have hnc135 := NB272_312.out
       have hcz136_0 : w123.cell? ⟨gb312, 0, none⟩ = some (.int .i64 0) := (blk_cell BK312.out 0).trans rfl
       have hcz136_1 : w123.cell? ⟨gb312, 1, none⟩ = some (.slice none 0 0) := (blk_cell BK312.out 1).trans rfl
       have hfz136_0 := blk_frozen BK312.out 0
       have hfz136_1 := blk_frozen BK312.out 1
       have hnb137 := NB253_234.out
       have hnc137 := NB234_253.out
       have hnb138 := NB253_266.out
       have hnc138 := NB266_253.out
       have hnb139 := NB253_272.out
       have hnc139 := NB272_253.out
       have hcz140_0 : w123.cell? ⟨gb253, 0, none⟩ = some (.int .i64 t248) := (blk_cell BK253.out 0).trans rfl
       have hcz140_1 : w123.cell? ⟨gb253, 1, none⟩ = some (.slice Ao24 t249.length co24) := (blk_cell BK253.out 1).trans rfl
       have hfz140_0 := blk_frozen BK253.out 0
       have hfz140_1 := blk_frozen BK253.out 1
       go_wp2_with (first | ((with_reducible refine gate_callee (f := 11) rfl ?_); refine goesL_ (some 81) rfl rfl Try.func11 Z9_83 rfl #[.agg #[.int .i64 t307, .slice Ao129 t308.length co129], .agg #[.int .i64 t248, .slice Ao24 t249.length co24]] rfl Z9_3 ?_; (with_reducible refine (laws_eqImage.calls kj66 t307 _ _ t308 t248 _ _ t249 true _ ?side1 ?side2 ?side3 ?side4 A130.out).mono ?_); (case side1 => exact Z9_30); (case side2 => exact (Kd.S_reads' HO310.out).2.1); (case side3 => exact Z9_33); (case side4 => exact (Kd.S_reads' HO_254001.out).2.1); rintro e w141 ⟨rfl, hb⟩; refine ⟨_, rfl, ?_⟩; have n0_ := Aside0.mk (Kd.S_below Z9_14 hb); have n1_ := Aside0.mk (Kd.R_below Z9_48 hb); have n2_ := Aside0.mk (Kd.R_below Z9_49 hb); have n3_ := Aside0.mk (Kd.R_below Z9_50 hb); have n4_ := Aside0.mk (Kd.S_below Z9_51 hb); have n5_ := Aside0.mk (Kd.R_below Z9_52 hb); have n6_ := Aside0.mk (Kd.R_below Z9_53 hb); have n7_ := Aside0.mk (Kd.R_below Z9_54 hb); have n8_ := Aside0.mk (Kd.S_below Z9_15 hb); have n9_ := Aside0.mk (blk_below (g := gb234) (o := .cells #[.int .i64 a0_0, .int .i64 a0_1, .slice A0_2 l0_2.length c0_2, .slice A0_3 l0_3.length c0_3, .int .i64 a0_4, .slice A0_5 l0_5.length c0_5] 45 (0, 0)) Z9_44 hb); have n10_ := Aside0.mk (blk_below (g := gb253) (o := .cells #[.int .i64 t248, .slice Ao24 t249.length co24] 29 (0, 0)) Z9_45 hb); have n11_ := Aside0.mk (blk_below (g := gb266) (o := .cells #[.int .i64 t254, .int .i64 t255, .slice Ao31 t288.length co31, .slice Ao32 t289.length co32, .int .i64 t262, .slice Ao33 t290.length co33] 51 (0, 0)) Z9_46 hb); have n12_ := Aside0.mk (blk_below (g := gb272) (o := .cells #[.int .i64 t267, .slice Ao43 t268.length co43] 29 (0, 0)) Z9_47 hb); have n13_ := Aside0.mk (blk_below (g := gb312) (o := .cells #[.int .i64 t307, .slice Ao129 t308.length co129] 29 (0, 0)) Z9_38 hb); have n14_ := Aside0.mk (below_step Z9_9 hb); clear HO_254001; clear HO_267002; clear HO_267003; clear HO_267005; clear HO_273001; clear HO299; clear HO302; clear HO306; clear HO310; clear BK234; clear BK253; clear BK266; clear BK272; clear BK312; clear HB; have HO_254001 := n0_; have HO_267002 := n1_; have HO_267003 := n2_; have HO_267005 := n3_; have HO_273001 := n4_; have HO299 := n5_; have HO302 := n6_; have HO306 := n7_; have HO310 := n8_; have BK234 := n9_; have BK253 := n10_; have BK266 := n11_; have BK272 := n12_; have BK312 := n13_; have HB := n14_; clear n0_ n1_ n2_ n3_ n4_ n5_ n6_ n7_ n8_ n9_ n10_ n11_ n12_ n13_ n14_; (try clear hb); (try clear hb2); (try clear hk); (try clear hi)))
       go_meet
       case rel => exact ⟨_, ((t311 != t252)), Z9_32, H', ⟨by have := HJ10.out; have := HJ66.out; first | omega | exact Nat.le_refl _⟩, ⟨Z9_66⟩, ⟨Z9_74⟩, ⟨Z9_75⟩, ⟨Z9_73⟩, ⟨Z9_67⟩, ⟨Z9_62⟩, ⟨Z9_84⟩, ⟨Z9_85⟩, ⟨Z9_86⟩, ⟨Z9_87⟩, ⟨Z9_88⟩, ⟨Z9_9⟩⟩
      replace c131 := Bool.eq_false_iff.mpr c131
      subst c131
      have H1 : (laws_FnExactLink.j2 kj66 t292 true t267 t293) = some r := by rw [if_neg (show ¬ (false = true) by decide)] at H; exact H
      clear H
      have H := H1
      clear H1
      have H' := Aside0.mk H
      clear H
      have hnb142 := NB312_234.out
      have hnc142 := NB234_312.out
      have hnb143 := NB312_253.out
      have hnc143 := NB253_312.out
      have hnb144 := NB312_266.out
      have hnc144 := NB266_312.out
      have hnb145 := NB312_272.out
      have hnc145 := NB272_312.out
      have hcz146_0 : w123.cell? ⟨gb312, 0, none⟩ = some (.int .i64 0) := (blk_cell BK312.out 0).trans rfl
      have hcz146_1 : w123.cell? ⟨gb312, 1, none⟩ = some (.slice none 0 0) := (blk_cell BK312.out 1).trans rfl
      have hfz146_0 := blk_frozen BK312.out 0
      have hfz146_1 := blk_frozen BK312.out 1
      have hnb147 := NB253_234.out
      have hnc147 := NB234_253.out
      have hnb148 := NB253_266.out
      have hnc148 := NB266_253.out
      have hnb149 := NB253_272.out
      have hnc149 := NB272_253.out
      have hcz150_0 : w123.cell? ⟨gb253, 0, none⟩ = some (.int .i64 t248) := (blk_cell BK253.out 0).trans rfl
      have hcz150_1 : w123.cell? ⟨gb253, 1, none⟩ = some (.slice Ao24 t249.length co24) := (blk_cell BK253.out 1).trans rfl
      have hfz150_0 := blk_frozen BK253.out 0
      have hfz150_1 := blk_frozen BK253.out 1
      go_wp2_with (first | ((with_reducible refine gate_callee (f := 11) rfl ?_); refine goesL_ (some 81) rfl rfl Try.func11 Z9_83 rfl #[.agg #[.int .i64 t307, .slice Ao129 t308.length co129], .agg #[.int .i64 t248, .slice Ao24 t249.length co24]] rfl Z9_3 ?_; (with_reducible refine (laws_eqImage.calls kj66 t307 _ _ t308 t248 _ _ t249 false _ ?side1 ?side2 ?side3 ?side4 A130.out).mono ?_); (case side1 => exact Z9_30); (case side2 => exact (Kd.S_reads' HO310.out).2.1); (case side3 => exact Z9_33); (case side4 => exact (Kd.S_reads' HO_254001.out).2.1); rintro e w151 ⟨rfl, hb⟩; refine ⟨_, rfl, ?_⟩; have n0_ := Aside0.mk (Kd.S_below Z9_14 hb); have n1_ := Aside0.mk (Kd.R_below Z9_48 hb); have n2_ := Aside0.mk (Kd.R_below Z9_49 hb); have n3_ := Aside0.mk (Kd.R_below Z9_50 hb); have n4_ := Aside0.mk (Kd.S_below Z9_51 hb); have n5_ := Aside0.mk (Kd.R_below Z9_52 hb); have n6_ := Aside0.mk (Kd.R_below Z9_53 hb); have n7_ := Aside0.mk (Kd.R_below Z9_54 hb); have n8_ := Aside0.mk (Kd.S_below Z9_15 hb); have n9_ := Aside0.mk (blk_below (g := gb234) (o := .cells #[.int .i64 a0_0, .int .i64 a0_1, .slice A0_2 l0_2.length c0_2, .slice A0_3 l0_3.length c0_3, .int .i64 a0_4, .slice A0_5 l0_5.length c0_5] 45 (0, 0)) Z9_44 hb); have n10_ := Aside0.mk (blk_below (g := gb253) (o := .cells #[.int .i64 t248, .slice Ao24 t249.length co24] 29 (0, 0)) Z9_45 hb); have n11_ := Aside0.mk (blk_below (g := gb266) (o := .cells #[.int .i64 t254, .int .i64 t255, .slice Ao31 t288.length co31, .slice Ao32 t289.length co32, .int .i64 t262, .slice Ao33 t290.length co33] 51 (0, 0)) Z9_46 hb); have n12_ := Aside0.mk (blk_below (g := gb272) (o := .cells #[.int .i64 t267, .slice Ao43 t268.length co43] 29 (0, 0)) Z9_47 hb); have n13_ := Aside0.mk (blk_below (g := gb312) (o := .cells #[.int .i64 t307, .slice Ao129 t308.length co129] 29 (0, 0)) Z9_38 hb); have n14_ := Aside0.mk (below_step Z9_9 hb); clear HO_254001; clear HO_267002; clear HO_267003; clear HO_267005; clear HO_273001; clear HO299; clear HO302; clear HO306; clear HO310; clear BK234; clear BK253; clear BK266; clear BK272; clear BK312; clear HB; have HO_254001 := n0_; have HO_267002 := n1_; have HO_267003 := n2_; have HO_267005 := n3_; have HO_273001 := n4_; have HO299 := n5_; have HO302 := n6_; have HO306 := n7_; have HO310 := n8_; have BK234 := n9_; have BK253 := n10_; have BK266 := n11_; have BK272 := n12_; have BK312 := n13_; have HB := n14_; clear n0_ n1_ n2_ n3_ n4_ n5_ n6_ n7_ n8_ n9_ n10_ n11_ n12_ n13_ n14_; (try clear hb); (try clear hb2); (try clear hk); (try clear hi)))
      go_meet
      case rel => exact ⟨_, (true), Z9_32, H', ⟨by have := HJ10.out; have := HJ66.out; first | omega | exact Nat.le_refl _⟩, ⟨Z9_66⟩, ⟨Z9_74⟩, ⟨Z9_75⟩, ⟨Z9_73⟩, ⟨Z9_67⟩, ⟨Z9_62⟩, ⟨Z9_84⟩, ⟨Z9_85⟩, ⟨Z9_86⟩, ⟨Z9_87⟩, ⟨Z9_88⟩, ⟨Z9_9⟩⟩
     clear HC105
     try clear c1
     try clear c2
     try clear p2
     try clear c3
     try clear c3b0
     try clear c4
     try clear c5
     try clear c6
     try clear c7
     try clear c8
     try clear c9
     try clear c10
     try clear c11
     try clear c12
     try clear c13
     try clear c14
     try clear c15
     try clear c21
     try clear c22
     try clear c23
     try clear c24
     try clear c25
     try clear c26
     try clear c27
     try clear c28
     try clear c29
     try clear c39
     try clear c40
     try clear c41
     try clear c45
     try clear c46
     try clear c47
     try clear c48
     try clear c50
     try clear c51
     try clear c54
     try clear c55
     try clear c56
     try clear c58
     try clear c59
     try clear c62
     try clear c65
     try clear c74
     try clear c75
     try clear c76
     try clear c79
     try clear c79b0
     try clear c81
     try clear c82
     try clear c83
     try clear c84
     try clear c86
     try clear c87
     try clear c90
     try clear c91
     try clear c92
     try clear c94
     try clear c95
     try clear c98
     try clear c101
     try clear c101b0
     try clear c102
     try clear c102b0
     try clear c102b1
     try clear c106
     try clear c107
     try clear c108
     try clear c113
     try clear c114
     try clear c124
     try clear c125
     try clear c126
     try clear c127
     try clear c131
     try clear c132
     try clear c133
     try clear c134
     try clear c135
     try clear c137
     try clear c138
     try clear c139
     try clear c142
     try clear c143
     try clear c144
     try clear c145
     try clear c147
     try clear c148
     try clear c149
     try clear hcz109_0
     try clear hcz109_1
     try clear hcz111_0
     try clear hcz111_1
     try clear hcz115_0
     try clear hcz115_1
     try clear hcz115_2
     try clear hcz115_3
     try clear hcz115_4
     try clear hcz115_5
     try clear hcz128_0
     try clear hcz128_1
     try clear hcz136_0
     try clear hcz136_1
     try clear hcz13_0
     try clear hcz13_1
     try clear hcz13_2
     try clear hcz13_3
     try clear hcz13_4
     try clear hcz13_5
     try clear hcz140_0
     try clear hcz140_1
     try clear hcz146_0
     try clear hcz146_1
     try clear hcz150_0
     try clear hcz150_1
     try clear hcz15_0
     try clear hcz15_1
     try clear hcz15_2
     try clear hcz15_3
     try clear hcz15_4
     try clear hcz15_5
     try clear hcz23_0
     try clear hcz23_1
     try clear hcz25_0
     try clear hcz25_1
     try clear hcz25_2
     try clear hcz25_3
     try clear hcz25_4
     try clear hcz25_5
     try clear hcz30_0
     try clear hcz30_1
     try clear hcz30_2
     try clear hcz30_3
     try clear hcz30_4
     try clear hcz30_5
     try clear hcz35_0
     try clear hcz35_1
     try clear hcz35_2
     try clear hcz35_3
     try clear hcz35_4
     try clear hcz35_5
     try clear hcz42_0
     try clear hcz42_1
     try clear hcz49_0
     try clear hcz49_1
     try clear hcz52_0
     try clear hcz52_1
     try clear hcz57_0
     try clear hcz57_1
     try clear hcz5_0
     try clear hcz5_1
     try clear hcz5_2
     try clear hcz5_3
     try clear hcz5_4
     try clear hcz5_5
     try clear hcz60_0
     try clear hcz60_1
     try clear hcz77_0
     try clear hcz77_1
     try clear hcz77_2
     try clear hcz77_3
     try clear hcz77_4
     try clear hcz77_5
     try clear hcz85_0
     try clear hcz85_1
     try clear hcz88_0
     try clear hcz88_1
     try clear hcz93_0
     try clear hcz93_1
     try clear hcz96_0
     try clear hcz96_1
     try clear hfz109_0
     try clear hfz109_1
     try clear hfz111_0
     try clear hfz111_1
     try clear hfz115_0
     try clear hfz115_1
     try clear hfz115_2
     try clear hfz115_3
     try clear hfz115_4
     try clear hfz115_5
     try clear hfz128_0
     try clear hfz128_1
     try clear hfz136_0
     try clear hfz136_1
     try clear hfz13_0
     try clear hfz13_1
     try clear hfz13_2
     try clear hfz13_3
     try clear hfz13_4
     try clear hfz13_5
     try clear hfz140_0
     try clear hfz140_1
     try clear hfz146_0
     try clear hfz146_1
     try clear hfz150_0
     try clear hfz150_1
     try clear hfz15_0
     try clear hfz15_1
     try clear hfz15_2
     try clear hfz15_3
     try clear hfz15_4
     try clear hfz15_5
     try clear hfz23_0
     try clear hfz23_1
     try clear hfz25_0
     try clear hfz25_1
     try clear hfz25_2
     try clear hfz25_3
     try clear hfz25_4
     try clear hfz25_5
     try clear hfz30_0
     try clear hfz30_1
     try clear hfz30_2
     try clear hfz30_3
     try clear hfz30_4
     try clear hfz30_5
     try clear hfz35_0
     try clear hfz35_1
     try clear hfz35_2
     try clear hfz35_3
     try clear hfz35_4
     try clear hfz35_5
     try clear hfz42_0
     try clear hfz42_1
     try clear hfz49_0
     try clear hfz49_1
     try clear hfz52_0
     try clear hfz52_1
     try clear hfz57_0
     try clear hfz57_1
     try clear hfz5_0
     try clear hfz5_1
     try clear hfz5_2
     try clear hfz5_3
     try clear hfz5_4
     try clear hfz5_5
     try clear hfz60_0
     try clear hfz60_1
     try clear hfz77_0
     try clear hfz77_1
     try clear hfz77_2
     try clear hfz77_3
     try clear hfz77_4
     try clear hfz77_5
     try clear hfz85_0
     try clear hfz85_1
     try clear hfz88_0
     try clear hfz88_1
     try clear hfz93_0
     try clear hfz93_1
     try clear hfz96_0
     try clear hfz96_1
     try clear p2
     obtain ⟨kq, x87_104, rfl, HA, HJ104, HO_254001, HO_267002, HO_267003, HO_267005, HO_273001, HO_313001, BK234, BK253, BK266, BK272, BK312, HB⟩ := hcut
     have hl273001_104 := (Kd.S_reads' HO_273001.out).1
     rw [hl273001_104] at HO_273001
     (try simp only [hl273001_104])
     (try simp only [hl273001_104] at BK234)
     (try simp only [hl273001_104] at BK253)
     (try simp only [hl273001_104] at BK266)
     (try simp only [hl273001_104] at BK272)
     (try simp only [hl273001_104] at BK312)
     (try simp only [hl273001_104] at HO_254001)
     (try simp only [hl273001_104] at HO_267002)
     (try simp only [hl273001_104] at HO_267003)
     (try simp only [hl273001_104] at HO_267005)
     (try simp only [hl273001_104] at HO_313001)
     cases kq with
     | zero => exact absurd HA.out (by simp [laws_FnExactLink.j2])
     | succ kj104 =>
      have H := HA.out
      clear HA
      simp only [laws_FnExactLink.j2] at H
      by_cases c152 : x87_104 = true
      ·subst c152
       have H1 : (none) = some r := by rw [if_pos rfl] at H; exact H
       clear H
       have H := H1
       clear H1
       exact absurd H (by simp)
      replace c152 := Bool.eq_false_iff.mpr c152
      subst c152
      have H1 : ((laws_heldImage.f kj104 t267 t293 1).bind fun t314 => (if t314 < 0 then (none) else (if t314 = t292 then (some true) else (none)))) = some r := by rw [if_neg (show ¬ (false = true) by decide)] at H; exact H
      clear H
      have H := H1
      clear H1
      replace H := Option.bind_eq_some_iff.mp H
      obtain ⟨t314, A1530, H⟩ := H
      replace H : (if t314 < 0 then (none) else (if t314 = t292 then (some true) else (none))) = some r := H
      have A153 := Aside0.mk A1530
      clear A1530
      by_cases c154 : t314 < 0
      ·rw [if_pos c154] at H
       exact absurd H (by simp)
      rw [if_neg c154] at H
      have c154b0 : decide (t314 < 0) = false := decide_eq_false c154
      clear c154
      by_cases c155 : t314 = t292
      ·rw [if_pos c155] at H
       have c155b0 : (t314 == t292) = true := beq_iff_eq.mpr c155
       have c155b1 : (t314 != t292) = false := bne_eq_false_iff_eq.mpr c155
       clear c155
       obtain rfl := Option.some.inj H
       have hnb156 := NB272_234.out
       have hnc156 := NB234_272.out
       have hnb157 := NB272_253.out
       have hnc157 := NB253_272.out
       have hnb158 := NB272_266.out
       have hnc158 := NB266_272.out
       have hnb159 := NB272_312.out
       have hnc159 := NB312_272.out
       have hcz160_0 : wc.cell? ⟨gb272, 0, none⟩ = some (.int .i64 t267) := (blk_cell BK272.out 0).trans rfl
       have hcz160_1 : wc.cell? ⟨gb272, 1, none⟩ = some (.slice Ao43 t293.length co43) := (blk_cell BK272.out 1).trans rfl
       have hfz160_0 := blk_frozen BK272.out 0
       have hfz160_1 := blk_frozen BK272.out 1
       go_wp2_with (first | ((with_reducible refine gate_callee (f := 21) rfl ?_); refine goesL_ (some 90) rfl rfl Try.func21 Z9_83 rfl #[.agg #[.int .i64 t267, .slice Ao43 t293.length co43], .int .i64 1] rfl Z9_3 ?_; (with_reducible refine (laws_heldImage.calls kj104 t267 _ _ t293 1 t314 _ ?side1 ?side2 A153.out).mono ?_); (case side1 => exact Z9_31); (case side2 => exact (Kd.S_reads' HO_273001.out).2.1); rintro e w161 ⟨rfl, hb⟩; refine ⟨_, rfl, ?_⟩; have n0_ := Aside0.mk (Kd.S_below Z9_18 hb); have n1_ := Aside0.mk (Kd.R_below Z9_10 hb); have n2_ := Aside0.mk (Kd.R_below Z9_11 hb); have n3_ := Aside0.mk (Kd.R_below Z9_13 hb); have n4_ := Aside0.mk (Kd.S_below Z9_19 hb); have n5_ := Aside0.mk (Kd.S_below (by (with_reducible repeat (first | apply Kd.S_alloc | apply Kd.S_drewN | apply Kd.S_drew)); exact HO_313001.out) hb); have n6_ := Aside0.mk (blk_below (g := gb234) (o := .cells #[.int .i64 a0_0, .int .i64 a0_1, .slice A0_2 l0_2.length c0_2, .slice A0_3 l0_3.length c0_3, .int .i64 a0_4, .slice A0_5 l0_5.length c0_5] 45 (0, 0)) Z9_2 hb); have n7_ := Aside0.mk (blk_below (g := gb253) (o := .cells #[.int .i64 t248, .slice Ao24 t249.length co24] 29 (0, 0)) Z9_4 hb); have n8_ := Aside0.mk (blk_below (g := gb266) (o := .cells #[.int .i64 t254, .int .i64 t255, .slice Ao31 t288.length co31, .slice Ao32 t289.length co32, .int .i64 t262, .slice Ao33 t290.length co33] 51 (0, 0)) Z9_5 hb); have n9_ := Aside0.mk (blk_below (g := gb272) (o := .cells #[.int .i64 t267, .slice Ao43 t293.length co43] 29 (0, 0)) Z9_8 hb); have n10_ := Aside0.mk (blk_below (g := gb312) (o := .cells #[.int .i64 t307, .slice Ao129 t308.length co129] 29 (0, 0)) (by (with_reducible repeat (first | apply blk_drewN | apply blk_drew | apply blk_alloc)); exact BK312.out) hb); have n11_ := Aside0.mk (below_step Z9_9 hb); clear HO_254001; clear HO_267002; clear HO_267003; clear HO_267005; clear HO_273001; clear HO_313001; clear BK234; clear BK253; clear BK266; clear BK272; clear BK312; clear HB; have HO_254001 := n0_; have HO_267002 := n1_; have HO_267003 := n2_; have HO_267005 := n3_; have HO_273001 := n4_; have HO_313001 := n5_; have BK234 := n6_; have BK253 := n7_; have BK266 := n8_; have BK272 := n9_; have BK312 := n10_; have HB := n11_; clear n0_ n1_ n2_ n3_ n4_ n5_ n6_ n7_ n8_ n9_ n10_ n11_; (try clear hb); (try clear hb2); (try clear hk); (try clear hi)))
       go_ret
       exact ⟨by first | rfl | (simp [errW_none, errW_some] <;> rfl) | (simp [*, errW_none, errW_some] <;> rfl), Z9_9⟩
      rw [if_neg c155] at H
      exact absurd H (by simp)
    rw [if_neg c102] at H
    exact absurd H (by simp)
  replace c65 := Bool.eq_false_iff.mpr c65
  subst c65
  have H1 : (none) = some r := by rw [if_neg (show ¬ (false = true) by decide)] at H; exact H
  clear H
  have H := H1
  clear H1
  exact absurd H (by simp)
def laws_FnExactLink.wf86 (x : S86) : Prop := (x.f0.size ≤ maxLen) ∧ ((Lit.int .i64 x.f1).wf = true)
def laws_FnExactLink.wf45 (x : S45) : Prop := ((Lit.int .i64 x.f0).wf = true) ∧ ((Lit.int .i64 x.f1).wf = true) ∧ (x.f2.length ≤ maxLen ∧ ∀ y_ ∈ x.f2, (Lit.int .u8 y_).wf = true) ∧ (x.f3.length ≤ maxLen ∧ ∀ y_ ∈ x.f3, (Lit.int .u8 y_).wf = true) ∧ ((Lit.int .i64 x.f4).wf = true) ∧ (x.f5.length ≤ maxLen ∧ ∀ y_ ∈ x.f5, laws_FnExactLink.wf86 y_)
/-- THE ONE PURE STATEMENT of laws_FnExactLink: yours. -/
def laws_FnExactLink.Pure : Prop := ∀ (a0_0 : Int) (a0_1 : Int) (l0_2 : List Int) (l0_3 : List Int) (a0_4 : Int) (l0_5 : List (S86)), laws_FnExactLink.wf45 (⟨a0_0, a0_1, l0_2, l0_3, a0_4, l0_5⟩ : S45) → ∃ k, laws_FnExactLink.f k a0_0 a0_1 l0_2 l0_3 a0_4 l0_5 = some true
theorem laws_FnExactLink.walk (P : laws_FnExactLink.Pure) (a0_0 : Int) (a0_1 : Int) (A0_2 : Option Addr) (c0_2 : Nat) (l0_2 : List Int) (A0_3 : Option Addr) (c0_3 : Nat) (l0_3 : List Int) (a0_4 : Int) (A0_5 : Option Addr) (c0_5 : Nat) (l0_5 : List (S86)) (w : World) (hr0_2 : Kd.C (Kd.int .u8) w A0_2 l0_2.length l0_2) (hc0_2 : l0_2.length ≤ c0_2) (hr0_3 : Kd.C (Kd.int .u8) w A0_3 l0_3.length l0_3) (hc0_3 : l0_3.length ≤ c0_3) (hr0_5 : Kd.C k86 w A0_5 l0_5.length l0_5) (hc0_5 : l0_5.length ≤ c0_5) (hq0 : laws_FnExactLink.wf45 (⟨a0_0, a0_1, l0_2, l0_3, a0_4, l0_5⟩ : S45)) :
  Calls Try.prog 6 #[.agg #[.int .i64 a0_0, .int .i64 a0_1, .slice A0_2 l0_2.length c0_2, .slice A0_3 l0_3.length c0_3, .int .i64 a0_4, .slice A0_5 l0_5.length c0_5]] w fun e w' => e = .returned (.bool true) ∧ Below w.heap.size w w' := by
 obtain ⟨k, h⟩ := P a0_0 a0_1 l0_2 l0_3 a0_4 l0_5 hq0
 refine (laws_FnExactLink.calls k a0_0 a0_1 _ _ l0_2 _ _ l0_3 a0_4 _ _ l0_5 true w hr0_2 hc0_2 hr0_3 hc0_3 hr0_5 hc0_5 h).mono ?_
 rintro e w' ⟨rfl, hd⟩
 exact ⟨rfl, hd⟩
end Go.Proofs.Ytokiliilbopgkaa.PFnExactLink
