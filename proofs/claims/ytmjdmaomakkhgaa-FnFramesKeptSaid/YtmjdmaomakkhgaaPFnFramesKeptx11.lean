-- Written by a program of this session out of the translation. Not trusted: Lean checks it.
import Derived.Test.YtmjdmaomakkhgaaPFnFramesKeptx0
import Derived.Test.YtmjdmaomakkhgaaPFnFramesKeptx1
import Derived.Test.YtmjdmaomakkhgaaPFnFramesKeptx2
import Derived.Test.YtmjdmaomakkhgaaPFnFramesKeptx3
import Derived.Test.YtmjdmaomakkhgaaPFnFramesKeptx4
import Derived.Test.YtmjdmaomakkhgaaPFnFramesKeptx5
import Derived.Test.YtmjdmaomakkhgaaPFnFramesKeptx7
import Derived.Test.YtmjdmaomakkhgaaPFnFramesKeptx8
import Derived.Test.YtmjdmaomakkhgaaPFnFramesKeptx9
import Derived.Test.YtmjdmaomakkhgaaPFnFramesKeptx10
import Derived.Test.YtmjdmaomakkhgaaPFnFramesKeptx11d
namespace Go.Proofs.Ytmjdmaomakkhgaa.PFnFramesKept
open Go.RowKit Go.Proofs.YtmjdmaomakkhgaaW.PrintWords Go.Proofs.YtmjdmaomakkhgaaW.PrintLast Go.Proofs.YtmjdmaomakkhgaaW.PrintMore
attribute [local go_sem] max2_int min2_int max_two min_two max_three min_three max_four min_four   -- for this text's walks alone
set_option linter.unusedVariables false
set_option linter.unusedSimpArgs false
abbrev nb_ (k : Nat) (A : Option Addr) (n c : Nat) : Prop := some k ≠ (Value.slice A n c).ownBlock
theorem NE_ {p : Prop} (h : Nonempty p) : p := h.elim id
set_option maxHeartbeats 64000000 in
set_option maxRecDepth 100000 in
theorem laws_FnFramesKept.calls (k : Nat) (A0 : Option Addr) (c0 : Nat) (l0 : List Int) (r : Bool) (w : World) (hr0 : Kd.C (Kd.int .u8) w A0 l0.length l0) (hc0 : l0.length ≤ c0) (h : laws_FnFramesKept.f k l0 = some r) :
  Calls Try.prog 13 #[.slice A0 l0.length c0] w fun e w' => e = .returned (.bool r) ∧ Below w.heap.size w w' := by
 have hu50 := Try.underlying50
 have hu73 := Try.underlying73
 have HR0 := Aside0.mk hr0
 have HC0 := Aside0.mk hc0
 clear hr0 hc0
 have HB := Aside0.mk (Below.refl w.heap.size w)
 have H := h
 unfold laws_FnFramesKept.f at H
 clear h
 replace H := Option.bind_eq_some_iff.mp H
 obtain ⟨t334, A20, H⟩ := H
 (try dsimp only at H)
 have A2 := Aside0.mk A20
 clear A20
 by_cases c3 : t334 = true
 ·
  refine ?L1
  letI iL1 : Nonempty (type_of% ?L1) := ⟨(by
   subst c3
   have H1 : (some true) = some r := by rw [if_pos rfl] at H; exact H
   clear H
   have H := H1
   clear H1
   obtain rfl := Option.some.inj H
   go_enter Try.func13, Try.ntmps13
   go_wp2_with (first | ((with_reducible refine gate_callee (f := 46) rfl ?_); refine goesL_ (some 23) rfl rfl Try.func46 Z11_19 rfl #[.slice A0 l0.length c0] rfl Z11_11 ?_; (with_reducible refine (laws_big.calls _ _ l0 true _ ?side1 ?side2 A2.out).mono ?_); (case side1 => exact Z11_54); (case side2 => exact HC0.out); rintro e w' ⟨rfl, ⟨nd, rfl⟩⟩; refine ⟨_, rfl, ?_⟩))
   go_ret
   exact ⟨Z11_63, Z11_22⟩)⟩
  exact NE_ (inferInstanceAs (Nonempty (type_of% ?L1)))
 replace c3 := Bool.eq_false_iff.mpr c3
 subst c3
 have H1 : ((spec_DrawFramesRun.f k l0).bind fun bt335 => ((impl_NewFrames.f k bt335.1).bind fun bt339 => (if bt335.1 < 0 then (laws_FnFramesKept.j0 k l0 bt335.1 bt335.2 true bt339.1 bt339.2) else (laws_FnFramesKept.j0 k l0 bt335.1 bt335.2 (decide (bt335.1 > 1024)) bt339.1 bt339.2)))) = some r := by rw [if_neg (show ¬ (false = true) by decide)] at H; exact H
 clear H
 have H := H1
 clear H1
 replace H := Option.bind_eq_some_iff.mp H
 obtain ⟨⟨t335, t336⟩, A40, H⟩ := H
 (try dsimp only at H)
 have A4 := Aside0.mk A40
 clear A40
 replace H := Option.bind_eq_some_iff.mp H
 obtain ⟨⟨t339, t340⟩, A50, H⟩ := H
 (try dsimp only at H)
 have A5 := Aside0.mk A50
 clear A50
 have HC6 := Aside0.mk H
 clear H
 go_enter Try.func13, Try.ntmps13
 go_upto_region 5 with (first | ((with_reducible refine gate_callee (f := 46) rfl ?_); refine goesL_ (some 23) rfl rfl Try.func46 Z11_19 rfl #[.slice A0 l0.length c0] rfl Z11_11 ?_; (with_reducible refine (laws_big.calls _ _ l0 false _ ?side1 ?side2 A2.out).mono ?_); (case side1 => exact Z11_54); (case side2 => exact HC0.out); rintro e w' ⟨rfl, ⟨nd, rfl⟩⟩; refine ⟨_, rfl, ?_⟩) | ((with_reducible refine gate_callee (f := 47) rfl ?_); refine goesL_ (some 26) rfl rfl Try.func47 Z11_19 rfl #[.slice A0 l0.length c0] rfl Z11_11 ?_; (with_reducible refine (spec_DrawFramesRun.calls k _ _ l0 t335 t336 _ ?side1 ?side2 A4.out).mono ?_); (case side1 => exact Z11_54); (case side2 => exact HC0.out); rintro e w7 ⟨v337, rfl, ho0, hb⟩; refine ⟨_, rfl, ?_⟩; have n0_ := Aside0.mk (Kd.R_lower ho0 (below_size Z11_22)); have n1_ := Aside0.mk (below_step Z11_22 hb); clear HB; have HO338 := n0_; have HB := n1_; clear n0_ n1_; (try clear hb); (try clear hb2 hk hi); (try clear ho0)) | ((with_reducible refine gate_callee (f := 37) rfl ?_); refine goesL_ (some 30) rfl rfl Try.func37 Z11_19 rfl #[.int .i64 t335] rfl Z11_11 ?_; (with_reducible refine (impl_NewFrames.calls k t335 t339 t340 _ A5.out).mono ?_); rintro e w8 ⟨v341, rfl, ho0, hb⟩; refine ⟨_, rfl, ?_⟩; have n0_ := Aside0.mk (Kd.R_below (by (with_reducible repeat (first | apply Kd.R_alloc | apply Kd.R_drewN | apply Kd.R_drew)); exact HO338.out) hb); have n1_ := Aside0.mk (Kd.R_lower ho0 (below_size Z11_22)); have n2_ := Aside0.mk (below_step Z11_22 hb); clear HO338; clear HB; have HO338 := n0_; have HO342 := n1_; have HB := n2_; clear n0_ n1_ n2_; (try clear hb); (try clear hb2 hk hi); (try clear ho0)) | ((with_reducible refine gate_dst (N := 5) rfl ?_); refine box_event ?hg (N := 5) ?hd (cs := #[.int .i64 0, .slice none 0 0]) (t := 50) ?hr ?_; (case hd => rfl); (case hg => rfl); (case hr => exact Z11_34); intro gb343 hg w9 hbox hb; have n0_ := Aside0.mk (Kd.R_below (by (with_reducible repeat (first | apply Kd.R_alloc | apply Kd.R_drewN | apply Kd.R_drew)); exact HO338.out) hb); have n1_ := Aside0.mk (Kd.R_below (by (with_reducible repeat (first | apply Kd.R_alloc | apply Kd.R_drewN | apply Kd.R_drew)); exact HO342.out) hb); have n2_ := Aside0.mk (below_step Z11_22 hb); have n3_ := Aside0.mk (hbox); have n4_ := Aside0.mk ((by rw [hg]; exact (below_size Z11_22) : w.heap.size ≤ gb343)); have n5_ := Aside0.mk ((by rw [hg]; exact (below_size Z11_22) : w.heap.size ≤ gb343)); clear HO338; clear HO342; clear HB; have HO338 := n0_; have HO342 := n1_; have HB := n2_; have BK343 := n3_; have GW343 := n4_; have GE343 := n5_; clear n0_ n1_ n2_ n3_ n4_ n5_; clear hb hbox hg; have hcz10_0 : w9.cell? ⟨gb343, 0, none⟩ = some (.int .i64 0) := (blk_cell BK343.out 0).trans rfl; have hcz10_1 : w9.cell? ⟨gb343, 1, none⟩ = some (.slice none 0 0) := (blk_cell BK343.out 1).trans rfl; have hfz10_0 := blk_frozen BK343.out 0; have hfz10_1 := blk_frozen BK343.out 1; obtain ⟨Ao11, co11, eo11⟩ := Kd.R_slice HO342.out; subst eo11))
 (try simp only [Act.put, List.setIfInBounds_toArray, List.set_cons_zero, List.set_cons_succ])
 go_cut [36] (fun v36 wc => ∃ (kq : Nat) (x36_5 : Bool), v36 = .bool x36_5 ∧ Aside0 (laws_FnFramesKept.j0 kq l0 t335 t336 x36_5 t339 t340 = some r) ∧ Aside0 (kq ≤ k) ∧ Aside0 (Kd.R k70 70 wc w.heap.size (fun _ => True) v337 t336) ∧ Aside0 (Kd.R k73 73 wc w.heap.size (fun _ => True) (.slice Ao11 t340.length co11) t340) ∧ Aside0 (wc.heap[gb343]? = some (.cells #[.int .i64 t339, (.slice Ao11 t340.length co11)] 50 (0, 0))) ∧ Aside0 (Below w.heap.size w wc))
 case first =>
  refine ?L2
  letI iL2 : Nonempty (type_of% ?L2) := ⟨(by
  have H := HC6.out
  clear HC6
  by_cases c12 : t335 < 0
  ·rw [if_pos c12] at H
   have c12b0 : decide (t335 < 0) = true := decide_eq_true c12
   clear c12
   (first | rw [c12b0] | (simp only [i64_w, i32_w]; rw [c12b0]) | skip)
   have H' := Aside0.mk H
   clear H
   go_wp2
   go_meet
   case rel => exact ⟨_, (true), Z11_13, H', ⟨by first | omega | exact Nat.le_refl _⟩, ⟨Z11_52⟩, ⟨Z11_53⟩, ⟨Z11_40⟩, ⟨Z11_2⟩⟩
  rw [if_neg c12] at H
  have c12b0 : decide (t335 < 0) = false := decide_eq_false c12
  clear c12
  (first | rw [c12b0] | (simp only [i64_w, i32_w]; rw [c12b0]) | skip)
  have H' := Aside0.mk H
  clear H
  go_wp2
  go_meet
  case rel => exact ⟨_, (decide (t335 > 1024)), Z11_13, H', ⟨by first | omega | exact Nat.le_refl _⟩, ⟨Z11_52⟩, ⟨Z11_53⟩, ⟨Z11_40⟩, ⟨Z11_2⟩⟩)⟩
  exact NE_ (inferInstanceAs (Nonempty (type_of% ?L2)))
 clear HC6
 try clear c1
 try clear p2
 try clear c3
 try clear c4
 try clear c12
 try clear c12b0
 try clear hcz10_0
 try clear hcz10_1
 try clear hfz10_0
 try clear hfz10_1
 obtain ⟨kq, x36_5, rfl, HA, HJ5, HO_4, HO_344001, BK343, HB⟩ := hcut
 cases kq with
 | zero => exact absurd HA.out (by simp [laws_FnFramesKept.j0])
 | succ kj5 =>
  refine ?R11
  letI iR11 : Nonempty (type_of% ?R11) := ⟨(by
  have H := HA.out
  clear HA
  simp only [laws_FnFramesKept.j0] at H
  by_cases c13 : x36_5 = true
  ·
   refine ?L3
   letI iL3 : Nonempty (type_of% ?L3) := ⟨(by
    subst c13
    have H1 : (if (t340.length : Int) = 0 then (some (t339 == 0)) else (none)) = some r := by rw [if_pos rfl] at H; exact H
    clear H
    have H := H1
    clear H1
    by_cases c14 : (t340.length : Int) = 0
    ·rw [if_pos c14] at H
     have c14b0 : ((t340.length : Int) == 0) = true := beq_iff_eq.mpr c14
     have c14b1 : ((t340.length : Int) != 0) = false := bne_eq_false_iff_eq.mpr c14
     clear c14
     obtain rfl := Option.some.inj H
     have hcz15_0 : wc.cell? ⟨gb343, 0, none⟩ = some (.int .i64 t339) := (blk_cell BK343.out 0).trans rfl
     have hcz15_1 : wc.cell? ⟨gb343, 1, none⟩ = some (.slice Ao11 t340.length co11) := (blk_cell BK343.out 1).trans rfl
     have hfz15_0 := blk_frozen BK343.out 0
     have hfz15_1 := blk_frozen BK343.out 1
     go_wp2
     go_ret
     exact ⟨Z11_63, Z11_2⟩
    rw [if_neg c14] at H
    exact absurd H (by simp))⟩
   exact NE_ (inferInstanceAs (Nonempty (type_of% ?L3)))
  replace c13 := Bool.eq_false_iff.mpr c13
  subst c13
  have H1 : ((spec_FramesOk.f kj5 t339 t340).bind fun t344 => (if t344 = true then ((impl_FramesLeft.f kj5 t339 t340).bind fun t345 => (laws_FnFramesKept.j1 kj5 l0 t335 t336 (t345 != t335) t339 t340)) else (laws_FnFramesKept.j1 kj5 l0 t335 t336 true t339 t340))) = some r := by rw [if_neg (show ¬ (false = true) by decide)] at H; exact H
  clear H
  have H := H1
  clear H1
  have HC16 := Aside0.mk H
  clear H
  go_upto_region 7 with (fail)
  go_cut [54] (fun v54 wc => ∃ (kq : Nat) (x54_15 : Bool), v54 = .bool x54_15 ∧ Aside0 (laws_FnFramesKept.j1 kq l0 t335 t336 x54_15 t339 t340 = some r) ∧ Aside0 (kq ≤ kj5) ∧ Aside0 (Kd.R k70 70 wc w.heap.size (fun _ => True) v337 t336) ∧ Aside0 (Kd.R k73 73 wc w.heap.size (fun _ => True) (.slice Ao11 t340.length co11) t340) ∧ Aside0 (wc.heap[gb343]? = some (.cells #[.int .i64 t339, (.slice Ao11 t340.length co11)] 50 (0, 0))) ∧ Aside0 (Below w.heap.size w wc))
  case first =>
   refine ?L4
   letI iL4 : Nonempty (type_of% ?L4) := ⟨(by
   have H := HC16.out
   clear HC16
   replace H := Option.bind_eq_some_iff.mp H
   obtain ⟨t344, A170, H⟩ := H
   (try dsimp only at H)
   have A17 := Aside0.mk A170
   clear A170
   by_cases c18 : t344 = true
   ·subst c18
    have H1 : ((impl_FramesLeft.f kj5 t339 t340).bind fun t345 => (laws_FnFramesKept.j1 kj5 l0 t335 t336 (t345 != t335) t339 t340)) = some r := by rw [if_pos rfl] at H; exact H
    clear H
    have H := H1
    clear H1
    replace H := Option.bind_eq_some_iff.mp H
    obtain ⟨t345, A190, H⟩ := H
    (try dsimp only at H)
    have A19 := Aside0.mk A190
    clear A190
    have H' := Aside0.mk H
    clear H
    have hcz20_0 : wc.cell? ⟨gb343, 0, none⟩ = some (.int .i64 t339) := (blk_cell BK343.out 0).trans rfl
    have hcz20_1 : wc.cell? ⟨gb343, 1, none⟩ = some (.slice Ao11 t340.length co11) := (blk_cell BK343.out 1).trans rfl
    have hfz20_0 := blk_frozen BK343.out 0
    have hfz20_1 := blk_frozen BK343.out 1
    go_wp2_with (first | ((with_reducible refine gate_callee (f := 30) rfl ?_); refine goesL_ (some 47) rfl rfl Try.func30 Z11_19 rfl #[.agg #[.int .i64 t339, .slice Ao11 t340.length co11]] rfl Z11_11 ?_; (with_reducible refine (spec_FramesOk.calls kj5 t339 _ _ t340 true _ ?side1 ?side2 A17.out).mono ?_); (case side1 => exact Z11_12); (case side2 => exact (Kd.R_reads' HO_344001.out).2.1); rintro e w21 ⟨rfl, hb⟩; refine ⟨_, rfl, ?_⟩; have n0_ := Aside0.mk (Kd.R_below Z11_6 hb); have n1_ := Aside0.mk (Kd.R_below Z11_3 hb); have n2_ := Aside0.mk (blk_below (g := gb343) (o := .cells #[.int .i64 t339, .slice Ao11 t340.length co11] 50 (0, 0)) Z11_1 hb); have n3_ := Aside0.mk (below_step Z11_2 hb); clear HO_4; clear HO_344001; clear BK343; clear HB; have HO_4 := n0_; have HO_344001 := n1_; have BK343 := n2_; have HB := n3_; clear n0_ n1_ n2_ n3_; (try clear hb); (try clear hb2); (try clear hk); (try clear hi); have hcz22_0 : w21.cell? ⟨gb343, 0, none⟩ = some (.int .i64 t339) := (blk_cell BK343.out 0).trans rfl; have hcz22_1 : w21.cell? ⟨gb343, 1, none⟩ = some (.slice Ao11 t340.length co11) := (blk_cell BK343.out 1).trans rfl; have hfz22_0 := blk_frozen BK343.out 0; have hfz22_1 := blk_frozen BK343.out 1) | (go_at_call 35; (with_reducible refine (impl_FramesLeft.calls kj5 t339 _ _ t340 t345 _ ?side1 ?side2 A19.out).mono ?_); (case side1 => exact Z11_12); (case side2 => exact (Kd.R_reads' HO_344001.out).2.1); rintro e w23 ⟨rfl, hb⟩; have n0_ := Aside0.mk (Kd.R_below Z11_6 hb); have n1_ := Aside0.mk (Kd.R_below Z11_3 hb); have n2_ := Aside0.mk (blk_below (g := gb343) (o := .cells #[.int .i64 t339, .slice Ao11 t340.length co11] 50 (0, 0)) Z11_1 hb); have n3_ := Aside0.mk (below_step Z11_2 hb); clear HO_4; clear HO_344001; clear BK343; clear HB; have HO_4 := n0_; have HO_344001 := n1_; have BK343 := n2_; have HB := n3_; clear n0_ n1_ n2_ n3_; (try clear hb); (try clear hb2); (try clear hk); (try clear hi)))
    go_meet
    case rel => exact ⟨_, ((t345 != t335)), Z11_13, H', ⟨by have := HJ5.out; first | omega | exact Nat.le_refl _⟩, ⟨Z11_6⟩, ⟨Z11_3⟩, ⟨Z11_1⟩, ⟨Z11_2⟩⟩
   replace c18 := Bool.eq_false_iff.mpr c18
   subst c18
   have H1 : (laws_FnFramesKept.j1 kj5 l0 t335 t336 true t339 t340) = some r := by rw [if_neg (show ¬ (false = true) by decide)] at H; exact H
   clear H
   have H := H1
   clear H1
   have H' := Aside0.mk H
   clear H
   have hcz24_0 : wc.cell? ⟨gb343, 0, none⟩ = some (.int .i64 t339) := (blk_cell BK343.out 0).trans rfl
   have hcz24_1 : wc.cell? ⟨gb343, 1, none⟩ = some (.slice Ao11 t340.length co11) := (blk_cell BK343.out 1).trans rfl
   have hfz24_0 := blk_frozen BK343.out 0
   have hfz24_1 := blk_frozen BK343.out 1
   go_wp2_with (first | ((with_reducible refine gate_callee (f := 30) rfl ?_); refine goesL_ (some 47) rfl rfl Try.func30 Z11_19 rfl #[.agg #[.int .i64 t339, .slice Ao11 t340.length co11]] rfl Z11_11 ?_; (with_reducible refine (spec_FramesOk.calls kj5 t339 _ _ t340 false _ ?side1 ?side2 A17.out).mono ?_); (case side1 => exact Z11_12); (case side2 => exact (Kd.R_reads' HO_344001.out).2.1); rintro e w25 ⟨rfl, hb⟩; refine ⟨_, rfl, ?_⟩; have n0_ := Aside0.mk (Kd.R_below Z11_6 hb); have n1_ := Aside0.mk (Kd.R_below Z11_3 hb); have n2_ := Aside0.mk (blk_below (g := gb343) (o := .cells #[.int .i64 t339, .slice Ao11 t340.length co11] 50 (0, 0)) Z11_1 hb); have n3_ := Aside0.mk (below_step Z11_2 hb); clear HO_4; clear HO_344001; clear BK343; clear HB; have HO_4 := n0_; have HO_344001 := n1_; have BK343 := n2_; have HB := n3_; clear n0_ n1_ n2_ n3_; (try clear hb); (try clear hb2); (try clear hk); (try clear hi)))
   go_meet
   case rel => exact ⟨_, (true), Z11_13, H', ⟨by have := HJ5.out; first | omega | exact Nat.le_refl _⟩, ⟨Z11_6⟩, ⟨Z11_3⟩, ⟨Z11_1⟩, ⟨Z11_2⟩⟩)⟩
   exact NE_ (inferInstanceAs (Nonempty (type_of% ?L4)))
  clear HC16
  try clear c1
  try clear p2
  try clear c3
  try clear c4
  try clear c12
  try clear c12b0
  try clear c13
  try clear c14
  try clear c14b0
  try clear c14b1
  try clear c18
  try clear hcz10_0
  try clear hcz10_1
  try clear hcz15_0
  try clear hcz15_1
  try clear hcz20_0
  try clear hcz20_1
  try clear hcz22_0
  try clear hcz22_1
  try clear hcz24_0
  try clear hcz24_1
  try clear hfz10_0
  try clear hfz10_1
  try clear hfz15_0
  try clear hfz15_1
  try clear hfz20_0
  try clear hfz20_1
  try clear hfz22_0
  try clear hfz22_1
  try clear hfz24_0
  try clear hfz24_1
  try clear p2
  obtain ⟨kq, x54_15, rfl, HA, HJ15, HO_4, HO_344001, BK343, HB⟩ := hcut
  cases kq with
  | zero => exact absurd HA.out (by simp [laws_FnFramesKept.j1])
  | succ kj15 =>
   refine ?R10
   letI iR10 : Nonempty (type_of% ?R10) := ⟨(by
   have H := HA.out
   clear HA
   simp only [laws_FnFramesKept.j1] at H
   by_cases c26 : x54_15 = true
   ·subst c26
    have H1 : (none) = some r := by rw [if_pos rfl] at H; exact H
    clear H
    have H := H1
    clear H1
    exact absurd H (by simp)
   replace c26 := Bool.eq_false_iff.mpr c26
   subst c26
   have H1 : (laws_FnFramesKept.l0 kj15 l0 t335 t336 (([] : List (S73))) 0 0 t339 t340) = some r := by rw [if_neg (show ¬ (false = true) by decide)] at H; exact H
   clear H
   have H := H1
   clear H1
   obtain ⟨y346, hy346⟩ : ∃ y_ : List (S73), y_ = (([] : List (S73))) := ⟨_, rfl⟩
   replace H : (laws_FnFramesKept.l0 kj15 l0 t335 t336 y346 0 0 t339 t340) = some r := by first | (rw [hy346]; with_reducible exact H) | (have H2_ := (Option.bind_some _ _).symm.trans H; rw [hy346]; with_reducible exact H2_) | (have H2_ := (Option.bind_some _ _).symm.trans H; with_reducible exact H2_) | with_reducible exact H | (rw [hy346]; exact H) | exact H
   have Ny346 := Aside0.mk hy346
   clear hy346
   have H' := Aside0.mk H
   clear H
   go_wp2_with (first | ((with_reducible refine gate_dst (N := 55) rfl ?_); refine Kd.R_lit k73 _ 73 ?hg (N := 55) ?hd (xs := ([] : List (S73))) (inner := []) (ok := fun _ => True) (okp := fun _ => True) ?hr ?hp (fun _ hk => hk) trivial (Below.refl _ _) (Nat.le_refl _) (by simp) ?_; (case hd => rfl); (case hg => rfl); (case hr => exact Z11_34); (case hp => exact (Reps.none _ _)); intro v347 w27 ho28 hb hg_ hnew_; clear hg_ hnew_; (first | rw [← Ny346.out] at ho28 | (simp only [Int.reduceToNat] at ho28; rw [← Ny346.out] at ho28)); have n0_ := Aside0.mk (Kd.R_below Z11_6 hb); have n1_ := Aside0.mk (Kd.R_elder' Z11_3 (Kd.R_base ho28) hb); have n2_ := Aside0.mk (Kd.R_lower (Kd.R_new' ho28 (Kd.R_lt Z11_3)) (below_size Z11_2)); have n3_ := Aside0.mk (blk_below (g := gb343) (o := .cells #[.int .i64 t339, .slice Ao11 t340.length co11] 50 (0, 0)) Z11_1 hb); have n4_ := Aside0.mk (below_step Z11_2 hb); clear HO_4; clear HO_344001; clear BK343; clear HB; have HO_4 := n0_; have HO_344001 := n1_; have HO348 := n2_; have BK343 := n3_; have HB := n4_; clear n0_ n1_ n2_ n3_ n4_; clear hb ho28))
   go_loopg [6, 7, 8] kj15 (fun kq v6 v7 v8 w' => ∃ (x6_3 : List (S73)) (x7_3 : Int) (x8_3 : Int) (x344000_3 : Int) (x344001_3 : List (S73)) (u344001 : Value), v7 = .int .i64 x7_3 ∧ v8 = .int .i64 x8_3 ∧ Aside0 (laws_FnFramesKept.l0 kq l0 t335 t336 x6_3 x7_3 x8_3 x344000_3 x344001_3 = some r) ∧ Aside0 (kq ≤ kj15) ∧ Aside0 (Kd.R k70 70 w' w.heap.size (fun _ => True) v337 t336) ∧ Aside0 (Kd.R k73 73 w' w.heap.size (fun k_ => some k_ ≠ (u344001 : Value).ownBlock) v6 x6_3) ∧ Aside0 (Kd.R k73 73 w' w.heap.size (fun k_ => some k_ ≠ (v6 : Value).ownBlock) u344001 x344001_3) ∧ Aside0 (w'.heap[gb343]? = some (.cells #[.int .i64 x344000_3, u344001] 50 (0, 0))) ∧ Aside0 (Below w.heap.size w w'))
   case atStart => exact ⟨(y346), (0), (0), (t339), (t340), (.slice Ao11 t340.length co11), Z11_13, Z11_13, H', ⟨Nat.le_refl _⟩, ⟨Z11_6⟩, ⟨by (with_reducible repeat (first | apply Kd.R_alloc | apply Kd.R_drewN | apply Kd.R_drew)); exact Kd.R_mono HO348.out (fun _ hk => hk.2)⟩, ⟨Z11_68⟩, ⟨Z11_1⟩, ⟨Z11_2⟩⟩
   clear H'
   try clear c1
   try clear c2
   try clear p2
   try clear c3
   try clear c4
   try clear c12
   try clear c12b0
   try clear c13
   try clear c14
   try clear c14b0
   try clear c14b1
   try clear c18
   try clear c26
   try clear hcz10_0
   try clear hcz10_1
   try clear hcz15_0
   try clear hcz15_1
   try clear hcz20_0
   try clear hcz20_1
   try clear hcz22_0
   try clear hcz22_1
   try clear hcz24_0
   try clear hcz24_1
   try clear hfz10_0
   try clear hfz10_1
   try clear hfz15_0
   try clear hfz15_1
   try clear hfz20_0
   try clear hfz20_1
   try clear hfz22_0
   try clear hfz22_1
   try clear hfz24_0
   try clear hfz24_1
   try clear p2
   obtain ⟨x6_3, x7_3, x8_3, x344000_3, x344001_3, u344001, rfl, rfl, HA, HK3, HO_4, HO_6, HO_344001, BK343, HB⟩ := hrel
   cases gk with
   | zero => exact absurd HA.out (by simp [laws_FnFramesKept.l0])
   | succ k3 =>
    refine ?R9
    letI iR9 : Nonempty (type_of% ?R9) := ⟨(by
    have H := HA.out
    clear HA
    simp only [laws_FnFramesKept.l0] at H
    have HC29 := Aside0.mk H
    clear H
    go_upto_region 12 with (fail)
    go_cut [63] (fun v63 wc => ∃ (kq : Nat) (x63_28 : Bool), v63 = .bool x63_28 ∧ Aside0 (laws_FnFramesKept.j3 kq l0 t335 t336 x6_3 x7_3 x8_3 x63_28 x344000_3 x344001_3 = some r) ∧ Aside0 (kq ≤ k3) ∧ Aside0 (Kd.R k70 70 wc w.heap.size (fun _ => True) v337 t336) ∧ Aside0 (Kd.R k73 73 wc w.heap.size (fun k_ => some k_ ≠ (u344001 : Value).ownBlock) u6 x6_3) ∧ Aside0 (Kd.R k73 73 wc w.heap.size (fun k_ => some k_ ≠ (u6 : Value).ownBlock) u344001 x344001_3) ∧ Aside0 (wc.heap[gb343]? = some (.cells #[.int .i64 x344000_3, u344001] 50 (0, 0))) ∧ Aside0 (Below w.heap.size w wc))
    case first =>
     refine ?L5
     letI iL5 : Nonempty (type_of% ?L5) := ⟨(by
     have H := HC29.out
     clear HC29
     by_cases c30 : x8_3 < (t336.length : Int)
     ·rw [if_pos c30] at H
      have c30b0 : decide (x8_3 < (t336.length : Int)) = true := decide_eq_true c30
      clear c30
      (first | rw [c30b0] | (simp only [i64_w, i32_w]; rw [c30b0]) | skip)
      have H' := Aside0.mk H
      clear H
      obtain ⟨Ao31, co31, eo31⟩ := Kd.R_slice HO_4.out
      subst eo31
      go_wp2
      go_meet
      case rel => exact ⟨_, (decide (x8_3 < 60)), Z11_13, H', ⟨by have := HJ5.out; have := HJ15.out; have := HK3.out; first | omega | exact Nat.le_refl _⟩, ⟨Z11_6⟩, ⟨Z11_5⟩, ⟨Z11_3⟩, ⟨Z11_1⟩, ⟨Z11_2⟩⟩
     rw [if_neg c30] at H
     have c30b0 : decide (x8_3 < (t336.length : Int)) = false := decide_eq_false c30
     clear c30
     (first | rw [c30b0] | (simp only [i64_w, i32_w]; rw [c30b0]) | skip)
     have H' := Aside0.mk H
     clear H
     obtain ⟨Ao32, co32, eo32⟩ := Kd.R_slice HO_4.out
     subst eo32
     go_wp2
     go_meet
     case rel => exact ⟨_, (false), Z11_13, H', ⟨by have := HJ5.out; have := HJ15.out; have := HK3.out; first | omega | exact Nat.le_refl _⟩, ⟨Z11_6⟩, ⟨Z11_5⟩, ⟨Z11_3⟩, ⟨Z11_1⟩, ⟨Z11_2⟩⟩)⟩
     exact NE_ (inferInstanceAs (Nonempty (type_of% ?L5)))
    clear HC29
    try clear c1
    try clear c2
    try clear p2
    try clear c3
    try clear c4
    try clear c12
    try clear c12b0
    try clear c13
    try clear c14
    try clear c14b0
    try clear c14b1
    try clear c18
    try clear c26
    try clear c30
    try clear c30b0
    try clear hcz10_0
    try clear hcz10_1
    try clear hcz15_0
    try clear hcz15_1
    try clear hcz20_0
    try clear hcz20_1
    try clear hcz22_0
    try clear hcz22_1
    try clear hcz24_0
    try clear hcz24_1
    try clear hfz10_0
    try clear hfz10_1
    try clear hfz15_0
    try clear hfz15_1
    try clear hfz20_0
    try clear hfz20_1
    try clear hfz22_0
    try clear hfz22_1
    try clear hfz24_0
    try clear hfz24_1
    try clear p2
    obtain ⟨kq, x63_28, rfl, HA, HJ28, HO_4, HO_6, HO_344001, BK343, HB⟩ := hcut
    cases kq with
    | zero => exact absurd HA.out (by simp [laws_FnFramesKept.j3])
    | succ kj28 =>
     refine ?R8
     letI iR8 : Nonempty (type_of% ?R8) := ⟨(by
     have H := HA.out
     clear HA
     simp only [laws_FnFramesKept.j3] at H
     by_cases c33 : x63_28 = true
     ·subst c33
      have H1 : (if 0 ≤ x8_3 then (if x8_3 < (t336.length : Int) then (if ((rd_T70 t336 x8_3).f0) = 1 then (if ((rd_T70 t336 x8_3).f2) < 0 then (laws_FnFramesKept.j4 kj28 l0 t335 t336 x6_3 x7_3 x8_3 true x344000_3 x344001_3) else (laws_FnFramesKept.j4 kj28 l0 t335 t336 x6_3 x7_3 x8_3 (decide (((rd_T70 t336 x8_3).f2) > 10)) x344000_3 x344001_3)) else (laws_FnFramesKept.j4 kj28 l0 t335 t336 x6_3 x7_3 x8_3 true x344000_3 x344001_3)) else (none)) else (none)) = some r := by rw [if_pos rfl] at H; exact H
      clear H
      have H := H1
      clear H1
      have HC34 := Aside0.mk H
      clear H
      go_upto_region 14 with (fail)
      go_cut [87] (fun v87 wc => ∃ (kq : Nat) (x87_33 : Bool), v87 = .bool x87_33 ∧ Aside0 (laws_FnFramesKept.j4 kq l0 t335 t336 x6_3 x7_3 x8_3 x87_33 x344000_3 x344001_3 = some r) ∧ Aside0 (kq ≤ kj28) ∧ Aside0 (Kd.R k70 70 wc w.heap.size (fun _ => True) v337 t336) ∧ Aside0 (Kd.R k73 73 wc w.heap.size (fun k_ => some k_ ≠ (u344001 : Value).ownBlock) u6 x6_3) ∧ Aside0 (Kd.R k73 73 wc w.heap.size (fun k_ => some k_ ≠ (u6 : Value).ownBlock) u344001 x344001_3) ∧ Aside0 (wc.heap[gb343]? = some (.cells #[.int .i64 x344000_3, u344001] 50 (0, 0))) ∧ Aside0 (Below w.heap.size w wc))
      case first =>
       refine ?L6
       letI iL6 : Nonempty (type_of% ?L6) := ⟨(by
       have H := HC34.out
       clear HC34
       by_cases c35 : 0 ≤ x8_3
       ·rw [if_pos c35] at H
        have c35b0 : decide (0 ≤ x8_3) = true := decide_eq_true c35
        clear c35
        (first | rw [c35b0] | (simp only [i64_w, i32_w]; rw [c35b0]) | skip)
        by_cases c36 : x8_3 < (t336.length : Int)
        ·rw [if_pos c36] at H
         have c36b0 : decide (x8_3 < (t336.length : Int)) = true := decide_eq_true c36
         clear c36
         by_cases c37 : ((rd_T70 t336 x8_3).f0) = 1
         ·rw [if_pos c37] at H
          have c37b0 : (((rd_T70 t336 x8_3).f0) == 1) = true := beq_iff_eq.mpr c37
          have c37b1 : (((rd_T70 t336 x8_3).f0) != 1) = false := bne_eq_false_iff_eq.mpr c37
          clear c37
          by_cases c38 : ((rd_T70 t336 x8_3).f2) < 0
          ·rw [if_pos c38] at H
           have c38b0 : decide (((rd_T70 t336 x8_3).f2) < 0) = true := decide_eq_true c38
           clear c38
           have H' := Aside0.mk H
           clear H
           obtain ⟨Ao39, co39, eo39⟩ := Kd.R_slice HO_4.out
           subst eo39
           have p349 : 0 ≤ (x8_3 : Int) := of_decide_eq_true Z11_14
           have q349 : x8_3 < (t336.length : Int) := of_decide_eq_true Z11_14
           obtain ⟨ad349, e349, hx349_0, hx349_1, hx349_2⟩ := at_T70 (Kd.R_reads' HO_4.out).2.2 x8_3 p349 q349
           cases e349
           replace p349 := eq_true p349
           replace q349 := eq_true q349
           have p350 : 0 ≤ (x8_3 : Int) := of_decide_eq_true Z11_14
           have q350 : x8_3 < (t336.length : Int) := of_decide_eq_true Z11_14
           obtain ⟨ad350, e350, hx350_0, hx350_1, hx350_2⟩ := at_T70 (Kd.R_reads' HO_4.out).2.2 x8_3 p350 q350
           obtain rfl : ad349 = ad350 := (by injection e350)
           replace p350 := eq_true p350
           replace q350 := eq_true q350
           go_wp2
           go_meet
           case rel => exact ⟨_, (true), Z11_13, H', ⟨Z11_62⟩, ⟨Z11_6⟩, ⟨Z11_5⟩, ⟨Z11_3⟩, ⟨Z11_1⟩, ⟨Z11_2⟩⟩
          rw [if_neg c38] at H
          have c38b0 : decide (((rd_T70 t336 x8_3).f2) < 0) = false := decide_eq_false c38
          clear c38
          have H' := Aside0.mk H
          clear H
          obtain ⟨Ao40, co40, eo40⟩ := Kd.R_slice HO_4.out
          subst eo40
          have p349 : 0 ≤ (x8_3 : Int) := of_decide_eq_true Z11_14
          have q349 : x8_3 < (t336.length : Int) := of_decide_eq_true Z11_14
          obtain ⟨ad349, e349, hx349_0, hx349_1, hx349_2⟩ := at_T70 (Kd.R_reads' HO_4.out).2.2 x8_3 p349 q349
          cases e349
          replace p349 := eq_true p349
          replace q349 := eq_true q349
          have p350 : 0 ≤ (x8_3 : Int) := of_decide_eq_true Z11_14
          have q350 : x8_3 < (t336.length : Int) := of_decide_eq_true Z11_14
          obtain ⟨ad350, e350, hx350_0, hx350_1, hx350_2⟩ := at_T70 (Kd.R_reads' HO_4.out).2.2 x8_3 p350 q350
          obtain rfl : ad349 = ad350 := (by injection e350)
          replace p350 := eq_true p350
          replace q350 := eq_true q350
          have p351 : 0 ≤ (x8_3 : Int) := of_decide_eq_true Z11_14
          have q351 : x8_3 < (t336.length : Int) := of_decide_eq_true Z11_14
          obtain ⟨ad351, e351, hx351_0, hx351_1, hx351_2⟩ := at_T70 (Kd.R_reads' HO_4.out).2.2 x8_3 p351 q351
          obtain rfl : ad349 = ad351 := (by injection e351)
          replace p351 := eq_true p351
          replace q351 := eq_true q351
          go_wp2
          go_meet
          case rel => exact ⟨_, (decide (((rd_T70 t336 x8_3).f2) > 10)), Z11_13, H', ⟨Z11_62⟩, ⟨Z11_6⟩, ⟨Z11_5⟩, ⟨Z11_3⟩, ⟨Z11_1⟩, ⟨Z11_2⟩⟩
         rw [if_neg c37] at H
         have c37b0 : (((rd_T70 t336 x8_3).f0) == 1) = false := beq_eq_false_iff_ne.mpr c37
         have c37b1 : (((rd_T70 t336 x8_3).f0) != 1) = true := bne_iff_ne.mpr c37
         have H' := Aside0.mk H
         clear H
         obtain ⟨Ao41, co41, eo41⟩ := Kd.R_slice HO_4.out
         subst eo41
         have p349 : 0 ≤ (x8_3 : Int) := of_decide_eq_true Z11_14
         have q349 : x8_3 < (t336.length : Int) := of_decide_eq_true Z11_14
         obtain ⟨ad349, e349, hx349_0, hx349_1, hx349_2⟩ := at_T70 (Kd.R_reads' HO_4.out).2.2 x8_3 p349 q349
         cases e349
         replace p349 := eq_true p349
         replace q349 := eq_true q349
         go_wp2
         go_meet
         case rel => exact ⟨_, (true), Z11_13, H', ⟨Z11_62⟩, ⟨Z11_6⟩, ⟨Z11_5⟩, ⟨Z11_3⟩, ⟨Z11_1⟩, ⟨Z11_2⟩⟩
        rw [if_neg c36] at H
        exact absurd H (by simp)
       rw [if_neg c35] at H
       exact absurd H (by simp))⟩
       exact NE_ (inferInstanceAs (Nonempty (type_of% ?L6)))
      clear HC34
      try clear c1
      try clear c2
      try clear p2
      try clear c3
      try clear p3
      try clear q3
      try clear hx3
      try clear c4
      try clear c12
      try clear c12b0
      try clear c13
      try clear c14
      try clear c14b0
      try clear c14b1
      try clear c18
      try clear c26
      try clear c30
      try clear c30b0
      try clear c33
      try clear p34
      try clear q34
      try clear hx34
      try clear c35
      try clear c35b0
      try clear p35
      try clear q35
      try clear hx35
      try clear c36
      try clear c36b0
      try clear c37
      try clear c37b0
      try clear c37b1
      try clear c38
      try clear c38b0
      try clear hcz10_0
      try clear hcz10_1
      try clear hcz15_0
      try clear hcz15_1
      try clear hcz20_0
      try clear hcz20_1
      try clear hcz22_0
      try clear hcz22_1
      try clear hcz24_0
      try clear hcz24_1
      try clear hfz10_0
      try clear hfz10_1
      try clear hfz15_0
      try clear hfz15_1
      try clear hfz20_0
      try clear hfz20_1
      try clear hfz22_0
      try clear hfz22_1
      try clear hfz24_0
      try clear hfz24_1
      try clear hx349_0
      try clear hx349_1
      try clear hx349_2
      try clear hx350_0
      try clear hx350_1
      try clear hx350_2
      try clear hx351_0
      try clear hx351_1
      try clear hx351_2
      try clear p2
      try clear p349
      try clear p350
      try clear p351
      try clear q349
      try clear q350
      try clear q351
      obtain ⟨kq, x87_33, rfl, HA, HJ33, HO_4, HO_6, HO_344001, BK343, HB⟩ := hcut
      cases kq with
      | zero => exact absurd HA.out (by simp [laws_FnFramesKept.j4])
      | succ kj33 =>
       refine ?R3
       letI iR3 : Nonempty (type_of% ?R3) := ⟨(by
       have H := HA.out
       clear HA
       simp only [laws_FnFramesKept.j4] at H
       by_cases c42 : x87_33 = true
       ·
        refine ?L7
        letI iL7 : Nonempty (type_of% ?L7) := ⟨(by
         subst c42
         have H1 : (laws_FnFramesKept.l0 kj33 l0 t335 t336 x6_3 x7_3 (wrap64 (x8_3 + 1)) x344000_3 x344001_3) = some r := by rw [if_pos rfl] at H; exact H
         clear H
         have H := H1
         clear H1
         have H' := Aside0.mk H
         clear H
         go_wp2
         go_roundg kj33
         case measure => have := HJ5.out; have := HJ15.out; have := HK3.out; have := HJ28.out; have := HJ33.out; omega
         case rel => exact ⟨(x6_3), (x7_3), (wrap64 (x8_3 + 1)), (x344000_3), (x344001_3), (u344001), Z11_13, Z11_13, H', ⟨by have := HJ5.out; have := HJ15.out; have := HK3.out; have := HJ28.out; have := HJ33.out; omega⟩, ⟨Z11_6⟩, ⟨Z11_5⟩, ⟨Z11_3⟩, ⟨Z11_1⟩, ⟨Z11_2⟩⟩)⟩
        exact NE_ (inferInstanceAs (Nonempty (type_of% ?L7)))
       replace c42 := Bool.eq_false_iff.mpr c42
       subst c42
       have H1 : (if 0 ≤ x8_3 then (if x8_3 < (t336.length : Int) then ((impl_FramesTake.f kj33 x344000_3 x344001_3 ((rd_T70 t336 x8_3).f2)).bind fun bt353 => ((spec_FramesTake.f kj33 x344000_3 x344001_3 ((rd_T70 t336 x8_3).f2)).bind fun bt360 => (if bt353.2.2 = bt360.2.2 then (if bt353.2.2 < 0 then (laws_FnFramesKept.l0 kj33 l0 t335 t336 x6_3 x7_3 (wrap64 (x8_3 + 1)) bt353.1 bt353.2.1) else (if 0 ≤ (IntKind.u64.wrap ((rd_T70 t336 x8_3).f2)) then (if (shl .i64 1 (IntKind.u64.wrap ((rd_T70 t336 x8_3).f2))) = 0 then (none) else (if (Int.tmod bt353.2.2 (shl .i64 1 (IntKind.u64.wrap ((rd_T70 t336 x8_3).f2)))) = 0 then (laws_FnFramesKept.j5 kj33 l0 t335 t336 x6_3 x7_3 x8_3 bt353.2.2 (shl .i64 1 (IntKind.u64.wrap ((rd_T70 t336 x8_3).f2))) (decide ((wrap64 (bt353.2.2 + (shl .i64 1 (IntKind.u64.wrap ((rd_T70 t336 x8_3).f2))))) > t335)) bt353.1 bt353.2.1) else (laws_FnFramesKept.j5 kj33 l0 t335 t336 x6_3 x7_3 x8_3 bt353.2.2 (shl .i64 1 (IntKind.u64.wrap ((rd_T70 t336 x8_3).f2))) true bt353.1 bt353.2.1))) else (none))) else (none)))) else (none)) else (none)) = some r := by rw [if_neg (show ¬ (false = true) by decide)] at H; exact H
       clear H
       have H := H1
       clear H1
       by_cases c43 : 0 ≤ x8_3
       ·rw [if_pos c43] at H
        have c43b0 : decide (0 ≤ x8_3) = true := decide_eq_true c43
        clear c43
        by_cases c44 : x8_3 < (t336.length : Int)
        ·rw [if_pos c44] at H
         have c44b0 : decide (x8_3 < (t336.length : Int)) = true := decide_eq_true c44
         clear c44
         replace H := Option.bind_eq_some_iff.mp H
         obtain ⟨⟨t353, t354, t357⟩, A450, H⟩ := H
         (try dsimp only at H)
         have A45 := Aside0.mk A450
         clear A450
         replace H := Option.bind_eq_some_iff.mp H
         obtain ⟨⟨t360, t361, t364⟩, A460, H⟩ := H
         (try dsimp only at H)
         have A46 := Aside0.mk A460
         clear A460
         by_cases c47 : t357 = t364
         ·rw [if_pos c47] at H
          have c47b0 : (t357 == t364) = true := beq_iff_eq.mpr c47
          have c47b1 : (t357 != t364) = false := bne_eq_false_iff_eq.mpr c47
          clear c47
          by_cases c48 : t357 < 0
          ·
           refine ?L8
           letI iL8 : Nonempty (type_of% ?L8) := ⟨(by
            rw [if_pos c48] at H
            have c48b0 : decide (t357 < 0) = true := decide_eq_true c48
            clear c48
            have H' := Aside0.mk H
            clear H
            obtain ⟨Ao49, co49, eo49⟩ := Kd.R_slice HO_344001.out
            subst eo49
            try go_wp2
            have n0_ := Aside0.mk (Kd.R_drew HO_4.out)
            have n1_ := Aside0.mk (Kd.R_drew HO_6.out)
            have n2_ := Aside0.mk (Kd.R_drew HO_344001.out)
            have n3_ := Aside0.mk (blk_drew BK343.out)
            have n4_ := Aside0.mk (below_drew1 HB.out)
            clear HO_4
            clear HO_6
            clear HO_344001
            clear BK343
            clear HB
            have HO_4 := n0_
            have HO_6 := n1_
            have HO_344001 := n2_
            have BK343 := n3_
            have HB := n4_
            clear n0_ n1_ n2_ n3_ n4_
            obtain ⟨Ao51, co51, eo51⟩ := Kd.R_slice HO_4.out
            (first | subst eo51 | (injection eo51 with f1_ f2_ f3_; have f4_ := f1_.symm; have f5_ := f3_.symm; clear f1_ f2_ f3_; subst f4_; subst f5_))
            have p352 : 0 ≤ (x8_3 : Int) := of_decide_eq_true Z11_14
            have q352 : x8_3 < (t336.length : Int) := of_decide_eq_true Z11_14
            obtain ⟨ad352, e352, hx352_0, hx352_1, hx352_2⟩ := at_T70 (Kd.R_reads' HO_4.out).2.2 x8_3 p352 q352
            cases e352
            replace p352 := eq_true p352
            replace q352 := eq_true q352
            refine start_ (n := 13) (S := fun w' => w'.cell? ⟨gb343, 0, none⟩ = some (.int .i64 x344000_3) ∧ w'.cell? ⟨gb343, 1, none⟩ = some (.slice Ao49 x344001_3.length co49) ∧ w'.cell? (ad352.add ((x8_3).toNat * 3)) = some (.int .i64 ((rd_T70 t336 x8_3).f0)) ∧ w'.cell? ⟨(ad352.add ((x8_3).toNat * 3)).block, (ad352.add ((x8_3).toNat * 3)).off + 1, none⟩ = some (.int .i64 ((rd_T70 t336 x8_3).f1)) ∧ w'.cell? ⟨(ad352.add ((x8_3).toNat * 3)).block, (ad352.add ((x8_3).toNat * 3)).off + 2, none⟩ = some (.int .i64 ((rd_T70 t336 x8_3).f2))) (ds := []) #[false, false, false, false, false, false, false, false, false, false, false, false, false] Z11_19 rfl rfl ⟨(blk_cell BK343.out 0).trans rfl, (blk_cell BK343.out 1).trans rfl, hx352_0, hx352_1, hx352_2⟩ (fun hHeld => ?_); refine with_tabW laws_FnFramesKept.tab15 laws_FnFramesKept.bits15 (fun HT_ HW_ => ?_)
            generalize wc.drew = w50 at HO_4 HO_6 HO_344001 BK343 HB hx352_0 hx352_1 hx352_2 hHeld ⊢
            refine pure_ (i := 1) (N := some 90) (v := ?_) (a' := ?_) #[false, true, false, false, false, false, false, false, false, false, false, false, false] rfl rfl (any_of HT_.out Z11_19) (fun _ _ _ h => h) (Or.inl ⟨by rfl, ?_⟩) ?_ ?_
            rotate_left
            ·intro w'
             go_simp
             with_reducible rfl
            rotate_left
            ·simp only [Act.put, List.setIfInBounds_toArray, List.set_cons_zero, List.set_cons_succ, i64_w, i32_w]
             rfl
            refine pure_ (i := 2) (N := some 91) (v := ?_) (a' := ?_) #[false, true, true, false, false, false, false, false, false, false, false, false, false] rfl rfl (any_of HT_.out Z11_19) (fun _ _ _ h => h) (Or.inl ⟨by rfl, ?_⟩) ?_ ?_
            rotate_left
            ·intro w'
             go_simp
             with_reducible rfl
            rotate_left
            ·simp only [Act.put, List.setIfInBounds_toArray, List.set_cons_zero, List.set_cons_succ, i64_w, i32_w]
             rfl
            refine pure_ (i := 3) (N := some 92) (v := ?_) (a' := ?_) #[false, true, true, true, false, false, false, false, false, false, false, false, false] rfl rfl (any_of HT_.out Z11_19) (fun _ _ _ h => h) (Or.inl ⟨by rfl, ?_⟩) ?_ ?_
            rotate_left
            ·intro w'
             go_simp
             with_reducible rfl
            rotate_left
            ·simp only [Act.put, List.setIfInBounds_toArray, List.set_cons_zero, List.set_cons_succ, i64_w, i32_w]
             rfl
            refine pure_ (i := 4) (N := some 93) (v := ?_) (a' := ?_) #[false, true, true, true, true, false, false, false, false, false, false, false, false] rfl rfl (any_of HT_.out Z11_19) (fun _ _ _ h => h) (Or.inl ⟨by rfl, ?_⟩) ?_ ?_
            rotate_left
            ·intro w'
             go_simp
             with_reducible rfl
            rotate_left
            ·simp only [Act.put, List.setIfInBounds_toArray, List.set_cons_zero, List.set_cons_succ, i64_w, i32_w]
             rfl
            refine take_ (i := 0) (N := some 89) (v := ?_) (a' := ?_) #[true, true, true, true, true, false, false, false, false, false, false, false, false] rfl rfl (take_ofW HT_.out HW_.out Z11_19) (fun _ _ _ h => h) (Or.inl ⟨by rfl, ?_⟩) hHeld ?_ ?_
            rotate_left
            ·rintro w' ⟨s0, s1, s2, s3, s4⟩
             go_simp
             with_reducible rfl
            rotate_left
            ·simp only [Act.put, List.setIfInBounds_toArray, List.set_cons_zero, List.set_cons_succ, i64_w, i32_w]
             rfl
            refine take_ (i := 5) (N := some 94) (v := ?_) (a' := ?_) #[true, true, true, true, true, true, false, false, false, false, false, false, false] rfl rfl (take_ofW HT_.out HW_.out Z11_19) (fun _ _ _ h => h) (Or.inl ⟨by rfl, ?_⟩) hHeld ?_ ?_
            rotate_left
            ·rintro w' ⟨s0, s1, s2, s3, s4⟩
             go_simp
             with_reducible rfl
            rotate_left
            ·simp only [Act.put, List.setIfInBounds_toArray, List.set_cons_zero, List.set_cons_succ, i64_w, i32_w]
             rfl
            refine join_ (σ := Value × Nat) 2 #[true, true, true, true, true, true, true, true, true, true, true, false, false] (fun s_ => [(95, .tuple #[.agg #[.int .i64 t353, s_.1], .int .i64 t357]), (9, .pointer (some ⟨s_.2, 0, none⟩)), (88, .tuple #[.agg #[.int .i64 t353, s_.1], .int .i64 t357]), (96, .agg #[.int .i64 t353, s_.1]), (97, .int .i64 t357)]) (fun s_ w' => (w'.cell? ⟨gb343, 0, none⟩ = some (.int .i64 x344000_3) ∧ w'.cell? ⟨gb343, 1, none⟩ = some (.slice Ao49 x344001_3.length co49) ∧ w'.cell? (ad352.add ((x8_3).toNat * 3)) = some (.int .i64 ((rd_T70 t336 x8_3).f0)) ∧ w'.cell? ⟨(ad352.add ((x8_3).toNat * 3)).block, (ad352.add ((x8_3).toNat * 3)).off + 1, none⟩ = some (.int .i64 ((rd_T70 t336 x8_3).f1)) ∧ w'.cell? ⟨(ad352.add ((x8_3).toNat * 3)).block, (ad352.add ((x8_3).toNat * 3)).off + 2, none⟩ = some (.int .i64 ((rd_T70 t336 x8_3).f2))) ∧ (Kd.R k73 73 w' w.heap.size (fun k_ => nb_ k_ Ao49 x344001_3.length co49 ∧ some k_ ≠ (u6 : Value).ownBlock) s_.1 t354) ∧ (Kd.R k73 73 w' w.heap.size (fun k_ => some k_ ≠ (s_.1 : Value).ownBlock ∧ some k_ ≠ (u6 : Value).ownBlock) (.slice Ao49 x344001_3.length co49) x344001_3) ∧ (Kd.R k70 70 w' w.heap.size (fun _ => True) (.slice (some ad352) t336.length co51) t336) ∧ (Kd.R k73 73 w' w.heap.size (fun k_ => some k_ ≠ (s_.1 : Value).ownBlock ∧ nb_ k_ Ao49 x344001_3.length co49) u6 x6_3) ∧ (w'.heap[gb343]? = some (.cells #[.int .i64 x344000_3, .slice Ao49 x344001_3.length co49] 50 (0, 0))) ∧ (w'.heap[s_.2]? = some (.cells #[.int .i64 0, .slice none 0 0] 50 (0, 0))) ∧ (w.heap.size ≤ s_.2) ∧ (w.heap.size ≤ s_.2) ∧ (gb343 ≠ s_.2) ∧ (s_.2 ≠ gb343) ∧ (Below w.heap.size w w')) ?_ ?_
            rotate_left
            ·intro hCont
             refine two_ (i := 6) (j := 10) (Ni := some 95) (Nj := some 9) #[true, true, true, true, true, true, true, false, false, false, false, false, false] #[true, true, true, true, true, true, false, false, false, false, true, false, false] rfl rfl rfl rfl (two_of HT_.out Z11_19) Z11_64 Z11_64 (fun K hK => ?_) (fun K hK => ?_)
             ·skip
              refine goes_ Try.func45 Z11_19 rfl #[.agg #[.int .i64 x344000_3, .slice Ao49 x344001_3.length co49], .int .i64 ((rd_T70 t336 x8_3).f2)] (by rfl) rfl rfl Z11_11 ?_
              with_reducible refine (impl_FramesTake.calls kj33 x344000_3 _ _ x344001_3 ((rd_T70 t336 x8_3).f2) t353 t354 t357 _ ?side1 ?side2 A45.out).mono ?_
              (case side1 => exact Z11_12)
              (case side2 => exact (Kd.R_reads' HO_344001.out).2.1)
              rintro e w52 ⟨v355, rfl, ho0, hb⟩
              have HS2_ := (hb.cell (World.block_lt_of_cell? _ _ (hHeld.2.2.1))).trans (hHeld.2.2.1)
              have HS3_ := (hb.cell (World.block_lt_of_cell? _ _ (hHeld.2.2.2.1))).trans (hHeld.2.2.2.1)
              have HS4_ := (hb.cell (World.block_lt_of_cell? _ _ (hHeld.2.2.2.2))).trans (hHeld.2.2.2.2)
              refine ⟨_, rfl, ?_⟩
              have n0_ := Aside0.mk (Kd.R_below Z11_6 hb)
              have n1_ := Aside0.mk (Kd.R_elder' Z11_5 (Kd.R_base ho0) hb)
              have n2_ := Aside0.mk (Kd.R_elder' Z11_3 (Kd.R_base ho0) hb)
              have n3_ := Aside0.mk (Kd.R_lower (Kd.R_new' (Kd.R_new' ho0 (Kd.R_lt Z11_5)) (Kd.R_lt Z11_3)) (below_size Z11_2))
              have n4_ := Aside0.mk (blk_below (g := gb343) (o := .cells #[.int .i64 x344000_3, .slice Ao49 x344001_3.length co49] 50 (0, 0)) Z11_1 hb)
              have n5_ := Aside0.mk (below_step Z11_2 hb)
              clear HO_4
              clear HO_6
              clear HO_344001
              clear BK343
              clear HB
              have HO_4 := n0_
              have HO_6 := n1_
              have HO_344001 := n2_
              have HO356 := n3_
              have BK343 := n4_
              have HB := n5_
              clear n0_ n1_ n2_ n3_ n4_ n5_
              (try clear hb)
              (try clear hb2)
              (try clear hk)
              (try clear hi)
              (try clear ho0)
              refine hK.out _ _ ⟨(blk_cell BK343.out 0).trans rfl, (blk_cell BK343.out 1).trans rfl, HS2_, HS3_, HS4_⟩ (fun hHeld => ?_)
              clear hK K
              refine norm_ (a' := ?_) ?_ ?_
              rotate_left
              ·show Act.put _ (some 95) _ = _
               simp only [Act.put, List.setIfInBounds_toArray, List.set_cons_zero, List.set_cons_succ, i64_w, i32_w]
               rfl
              refine pure_ (i := 7) (N := some 88) (v := ?_) (a' := ?_) #[true, true, true, true, true, true, true, true, false, false, false, false, false] rfl rfl (any_of HT_.out Z11_19) (fun _ _ _ h => h) (Or.inl ⟨by rfl, ?_⟩) ?_ ?_
              rotate_left
              ·intro w'
               go_simp
               with_reducible rfl
              rotate_left
              ·simp only [Act.put, List.setIfInBounds_toArray, List.set_cons_zero, List.set_cons_succ, i64_w, i32_w]
               rfl
              refine pure_ (i := 8) (N := some 96) (v := ?_) (a' := ?_) #[true, true, true, true, true, true, true, true, true, false, false, false, false] rfl rfl (any_of HT_.out Z11_19) (fun _ _ _ h => h) (Or.inl ⟨by rfl, ?_⟩) ?_ ?_
              rotate_left
              ·intro w'
               go_simp
               with_reducible rfl
              rotate_left
              ·simp only [Act.put, List.setIfInBounds_toArray, List.set_cons_zero, List.set_cons_succ, i64_w, i32_w]
               rfl
              refine pure_ (i := 9) (N := some 97) (v := ?_) (a' := ?_) #[true, true, true, true, true, true, true, true, true, true, false, false, false] rfl rfl (any_of HT_.out Z11_19) (fun _ _ _ h => h) (Or.inl ⟨by rfl, ?_⟩) ?_ ?_
              rotate_left
              ·intro w'
               go_simp
               with_reducible rfl
              rotate_left
              ·simp only [Act.put, List.setIfInBounds_toArray, List.set_cons_zero, List.set_cons_succ, i64_w, i32_w]
               rfl
              refine one_ (i := 10) (N := some 9) #[true, true, true, true, true, true, true, true, true, true, true, false, false] rfl rfl (one_of HT_.out Z11_19) Z11_64 (fun K hK => ?_)
              refine box_step ?hg (N := 9) ?hd (cs := #[.int .i64 0, .slice none 0 0]) (t := 50) ?hr ?_; (case hd => rfl); (case hg => rfl); (case hr => exact Z11_34)
              intro gb358 hg w53 hbox hb
              have HS2_ := (hb.cell (World.block_lt_of_cell? _ _ (hHeld.2.2.1))).trans (hHeld.2.2.1)
              have HS3_ := (hb.cell (World.block_lt_of_cell? _ _ (hHeld.2.2.2.1))).trans (hHeld.2.2.2.1)
              have HS4_ := (hb.cell (World.block_lt_of_cell? _ _ (hHeld.2.2.2.2))).trans (hHeld.2.2.2.2)
              have n0_ := Aside0.mk (Kd.R_below Z11_6 hb)
              have n1_ := Aside0.mk (Kd.R_below Z11_5 hb)
              have n2_ := Aside0.mk (Kd.R_below Z11_3 hb)
              have n3_ := Aside0.mk (Kd.R_below Z11_17 hb)
              have n4_ := Aside0.mk (blk_below (g := gb343) (o := .cells #[.int .i64 x344000_3, .slice Ao49 x344001_3.length co49] 50 (0, 0)) Z11_1 hb)
              have n5_ := Aside0.mk (below_step Z11_2 hb)
              have n6_ := Aside0.mk (hbox)
              have n7_ := Aside0.mk ((Z11_47 : w.heap.size ≤ gb358))
              have n8_ := Aside0.mk ((Z11_47 : w.heap.size ≤ gb358))
              have n9_ := Aside0.mk ((Z11_43 : gb343 ≠ gb358))
              have n10_ := Aside0.mk ((Z11_44 : gb358 ≠ gb343))
              clear HO_4
              clear HO_6
              clear HO_344001
              clear HO356
              clear BK343
              clear HB
              have HO_4 := n0_
              have HO_6 := n1_
              have HO_344001 := n2_
              have HO356 := n3_
              have BK343 := n4_
              have HB := n5_
              have BK358 := n6_
              have GW358 := n7_
              have GE358 := n8_
              have NB343_358 := n9_
              have NB358_343 := n10_
              clear n0_ n1_ n2_ n3_ n4_ n5_ n6_ n7_ n8_ n9_ n10_
              clear hb hbox hg
              refine hK.out _ _ ⟨(blk_cell BK343.out 0).trans rfl, (blk_cell BK343.out 1).trans rfl, HS2_, HS3_, HS4_⟩ (fun hHeld => ?_)
              clear hK K
              refine norm_ (a' := ?_) ?_ ?_
              rotate_left
              ·show Act.put _ (some 9) _ = _
               simp only [Act.put, List.setIfInBounds_toArray, List.set_cons_zero, List.set_cons_succ, i64_w, i32_w]
               rfl
              exact norm_ Z11_23 (hCont (v355, gb358) _ ⟨hHeld, Z11_39, Z11_21, Z11_6, Z11_26, Z11_1, Z11_10, GW358.out, GE358.out, NB343_358.out, NB358_343.out, Z11_4⟩)
             skip
             refine box_step ?hg (N := 9) ?hd (cs := #[.int .i64 0, .slice none 0 0]) (t := 50) ?hr ?_; (case hd => rfl); (case hg => rfl); (case hr => exact Z11_34)
             intro gb358 hg w52 hbox hb
             have HS2_ := (hb.cell (World.block_lt_of_cell? _ _ (hHeld.2.2.1))).trans (hHeld.2.2.1)
             have HS3_ := (hb.cell (World.block_lt_of_cell? _ _ (hHeld.2.2.2.1))).trans (hHeld.2.2.2.1)
             have HS4_ := (hb.cell (World.block_lt_of_cell? _ _ (hHeld.2.2.2.2))).trans (hHeld.2.2.2.2)
             have n0_ := Aside0.mk (Kd.R_below Z11_6 hb)
             have n1_ := Aside0.mk (Kd.R_below Z11_5 hb)
             have n2_ := Aside0.mk (Kd.R_below Z11_3 hb)
             have n3_ := Aside0.mk (blk_below (g := gb343) (o := .cells #[.int .i64 x344000_3, .slice Ao49 x344001_3.length co49] 50 (0, 0)) Z11_1 hb)
             have n4_ := Aside0.mk (below_step Z11_2 hb)
             have n5_ := Aside0.mk (hbox)
             have n6_ := Aside0.mk ((Z11_47 : w.heap.size ≤ gb358))
             have n7_ := Aside0.mk ((Z11_47 : w.heap.size ≤ gb358))
             have n8_ := Aside0.mk ((Z11_43 : gb343 ≠ gb358))
             have n9_ := Aside0.mk ((Z11_44 : gb358 ≠ gb343))
             clear HO_4
             clear HO_6
             clear HO_344001
             clear BK343
             clear HB
             have HO_4 := n0_
             have HO_6 := n1_
             have HO_344001 := n2_
             have BK343 := n3_
             have HB := n4_
             have BK358 := n5_
             have GW358 := n6_
             have GE358 := n7_
             have NB343_358 := n8_
             have NB358_343 := n9_
             clear n0_ n1_ n2_ n3_ n4_ n5_ n6_ n7_ n8_ n9_
             clear hb hbox hg
             refine hK.out _ _ ⟨(blk_cell BK343.out 0).trans rfl, (blk_cell BK343.out 1).trans rfl, HS2_, HS3_, HS4_⟩ (fun hHeld => ?_)
             clear hK K
             refine norm_ (a' := ?_) ?_ ?_
             rotate_left
             ·show Act.put _ (some 9) _ = _
              simp only [Act.put, List.setIfInBounds_toArray, List.set_cons_zero, List.set_cons_succ, i64_w, i32_w]
              rfl
             refine one_ (i := 6) (N := some 95) #[true, true, true, true, true, true, true, false, false, false, true, false, false] rfl rfl (one_of HT_.out Z11_19) Z11_64 (fun K hK => ?_)
             refine goes_ Try.func45 Z11_19 rfl #[.agg #[.int .i64 x344000_3, .slice Ao49 x344001_3.length co49], .int .i64 ((rd_T70 t336 x8_3).f2)] (by rfl) rfl rfl Z11_11 ?_
             with_reducible refine (impl_FramesTake.calls kj33 x344000_3 _ _ x344001_3 ((rd_T70 t336 x8_3).f2) t353 t354 t357 _ ?side1 ?side2 A45.out).mono ?_
             (case side1 => exact Z11_12)
             (case side2 => exact (Kd.R_reads' HO_344001.out).2.1)
             rintro e w53 ⟨v355, rfl, ho0, hb⟩
             have HS2_ := (hb.cell (World.block_lt_of_cell? _ _ (hHeld.2.2.1))).trans (hHeld.2.2.1)
             have HS3_ := (hb.cell (World.block_lt_of_cell? _ _ (hHeld.2.2.2.1))).trans (hHeld.2.2.2.1)
             have HS4_ := (hb.cell (World.block_lt_of_cell? _ _ (hHeld.2.2.2.2))).trans (hHeld.2.2.2.2)
             refine ⟨_, rfl, ?_⟩
             have n0_ := Aside0.mk (Kd.R_below Z11_6 hb)
             have n1_ := Aside0.mk (Kd.R_elder' Z11_5 (Kd.R_base ho0) hb)
             have n2_ := Aside0.mk (Kd.R_elder' Z11_3 (Kd.R_base ho0) hb)
             have n3_ := Aside0.mk (Kd.R_lower (Kd.R_new' (Kd.R_new' ho0 (Kd.R_lt Z11_5)) (Kd.R_lt Z11_3)) (below_size Z11_4))
             have n4_ := Aside0.mk (blk_below (g := gb343) (o := .cells #[.int .i64 x344000_3, .slice Ao49 x344001_3.length co49] 50 (0, 0)) Z11_1 hb)
             have n5_ := Aside0.mk (blk_below (g := gb358) (o := .cells #[.int .i64 0, .slice none 0 0] 50 (0, 0)) Z11_10 hb)
             have n6_ := Aside0.mk (below_step Z11_4 hb)
             clear HO_4
             clear HO_6
             clear HO_344001
             clear BK343
             clear BK358
             clear HB
             have HO_4 := n0_
             have HO_6 := n1_
             have HO_344001 := n2_
             have HO356 := n3_
             have BK343 := n4_
             have BK358 := n5_
             have HB := n6_
             clear n0_ n1_ n2_ n3_ n4_ n5_ n6_
             (try clear hb)
             (try clear hb2)
             (try clear hk)
             (try clear hi)
             (try clear ho0)
             refine hK.out _ _ ⟨(blk_cell BK343.out 0).trans rfl, (blk_cell BK343.out 1).trans rfl, HS2_, HS3_, HS4_⟩ (fun hHeld => ?_)
             clear hK K
             refine norm_ (a' := ?_) ?_ ?_
             rotate_left
             ·show Act.put _ (some 95) _ = _
              simp only [Act.put, List.setIfInBounds_toArray, List.set_cons_zero, List.set_cons_succ, i64_w, i32_w]
              rfl
             refine pure_ (i := 7) (N := some 88) (v := ?_) (a' := ?_) #[true, true, true, true, true, true, true, true, false, false, true, false, false] rfl rfl (any_of HT_.out Z11_19) (fun _ _ _ h => h) (Or.inl ⟨by rfl, ?_⟩) ?_ ?_
             rotate_left
             ·intro w'
              go_simp
              with_reducible rfl
             rotate_left
             ·simp only [Act.put, List.setIfInBounds_toArray, List.set_cons_zero, List.set_cons_succ, i64_w, i32_w]
              rfl
             refine pure_ (i := 8) (N := some 96) (v := ?_) (a' := ?_) #[true, true, true, true, true, true, true, true, true, false, true, false, false] rfl rfl (any_of HT_.out Z11_19) (fun _ _ _ h => h) (Or.inl ⟨by rfl, ?_⟩) ?_ ?_
             rotate_left
             ·intro w'
              go_simp
              with_reducible rfl
             rotate_left
             ·simp only [Act.put, List.setIfInBounds_toArray, List.set_cons_zero, List.set_cons_succ, i64_w, i32_w]
              rfl
             refine pure_ (i := 9) (N := some 97) (v := ?_) (a' := ?_) #[true, true, true, true, true, true, true, true, true, true, true, false, false] rfl rfl (any_of HT_.out Z11_19) (fun _ _ _ h => h) (Or.inl ⟨by rfl, ?_⟩) ?_ ?_
             rotate_left
             ·intro w'
              go_simp
              with_reducible rfl
             rotate_left
             ·simp only [Act.put, List.setIfInBounds_toArray, List.set_cons_zero, List.set_cons_succ, i64_w, i32_w]
              rfl
             exact norm_ Z11_23 (hCont (v355, gb358) _ ⟨hHeld, Z11_39, Z11_21, Z11_6, Z11_26, Z11_1, Z11_10, GW358.out, GE358.out, NB343_358.out, NB358_343.out, Z11_4⟩)
            rintro ⟨v355, gb358⟩ w54 ⟨hS_, h0_, h1_, h2_, h3_, h4_, h5_, h6_, h7_, h8_, h9_, h10_⟩
            have n0_ : Aside0 (Kd.R k73 73 w54 w.heap.size (fun k_ => nb_ k_ Ao49 x344001_3.length co49 ∧ some k_ ≠ (u6 : Value).ownBlock) v355 t354) := ⟨h0_⟩
            have n1_ : Aside0 (Kd.R k73 73 w54 w.heap.size (fun k_ => some k_ ≠ (v355 : Value).ownBlock ∧ some k_ ≠ (u6 : Value).ownBlock) (.slice Ao49 x344001_3.length co49) x344001_3) := ⟨h1_⟩
            have n2_ : Aside0 (Kd.R k70 70 w54 w.heap.size (fun _ => True) (.slice (some ad352) t336.length co51) t336) := ⟨h2_⟩
            have n3_ : Aside0 (Kd.R k73 73 w54 w.heap.size (fun k_ => some k_ ≠ (v355 : Value).ownBlock ∧ nb_ k_ Ao49 x344001_3.length co49) u6 x6_3) := ⟨h3_⟩
            have n4_ : Aside0 (w54.heap[gb343]? = some (.cells #[.int .i64 x344000_3, .slice Ao49 x344001_3.length co49] 50 (0, 0))) := ⟨h4_⟩
            have n5_ : Aside0 (w54.heap[gb358]? = some (.cells #[.int .i64 0, .slice none 0 0] 50 (0, 0))) := ⟨h5_⟩
            have n6_ : Aside0 (w.heap.size ≤ gb358) := ⟨h6_⟩
            have n7_ : Aside0 (w.heap.size ≤ gb358) := ⟨h7_⟩
            have n8_ : Aside0 (gb343 ≠ gb358) := ⟨h8_⟩
            have n9_ : Aside0 (gb358 ≠ gb343) := ⟨h9_⟩
            have n10_ : Aside0 (Below w.heap.size w w54) := ⟨h10_⟩
            clear HO_4
            clear HO_6
            clear HO_344001
            clear BK343
            clear HB
            clear h0_ h1_ h2_ h3_ h4_ h5_ h6_ h7_ h8_ h9_ h10_
            have HO356 := n0_
            have HO_344001 := n1_
            have HO_4 := n2_
            have HO_6 := n3_
            have BK343 := n4_
            have BK358 := n5_
            have GW358 := n6_
            have GE358 := n7_
            have NB343_358 := n8_
            have NB358_343 := n9_
            have HB := n10_
            clear n0_ n1_ n2_ n3_ n4_ n5_ n6_ n7_ n8_ n9_ n10_
            have hHeld : w54.cell? ⟨gb343, 0, none⟩ = some (.int .i64 x344000_3) ∧ w54.cell? ⟨gb343, 1, none⟩ = some (.slice Ao49 x344001_3.length co49) ∧ w54.cell? (ad352.add ((x8_3).toNat * 3)) = some (.int .i64 ((rd_T70 t336 x8_3).f0)) ∧ w54.cell? ⟨(ad352.add ((x8_3).toNat * 3)).block, (ad352.add ((x8_3).toNat * 3)).off + 1, none⟩ = some (.int .i64 ((rd_T70 t336 x8_3).f1)) ∧ w54.cell? ⟨(ad352.add ((x8_3).toNat * 3)).block, (ad352.add ((x8_3).toNat * 3)).off + 2, none⟩ = some (.int .i64 ((rd_T70 t336 x8_3).f2)) := hS_
            obtain ⟨Ao56, co56, eo56⟩ := Kd.R_slice HO356.out
            (first | subst eo56 | (injection eo56 with f1_ f2_ f3_; have f4_ := f1_.symm; have f5_ := f3_.symm; clear f1_ f2_ f3_; subst f4_; subst f5_))
            refine norm_ (a' := ?_) ?_ ?_
            rotate_left
            ·simp only [putAll, Act.put, List.setIfInBounds_toArray, List.set_cons_zero, List.set_cons_succ]
             rfl
            refine one_ (i := 11) (N := none) #[true, true, true, true, true, true, true, true, true, true, true, true, false] rfl rfl (one_of HT_.out Z11_19) Z11_64 (fun K hK => ?_)
            have hs55 : w54.cell? ⟨gb358, 0, none⟩ = some (.int .i64 0) := (blk_cell BK358.out 0).trans rfl
            have hfs55 := blk_frozen BK358.out 0
            have hns55_0 := NB343_358.out
            have hms55_0 := NB358_343.out
            have hs57 : w54.cell? ⟨gb358, 1, none⟩ = some (.slice none 0 0) := (blk_cell BK358.out 1).trans rfl
            have hfs57 := blk_frozen BK358.out 1
            have hns57_0 := NB343_358.out
            have hms57_0 := NB358_343.out
            refine skip_ (w1 := ?_) (by rfl) rfl ?_ ?_
            rotate_left
            ·go_simp
             rfl
            refine hK.out _ _ ⟨((cell_far (p := ⟨gb358, _, none⟩) NB343_358.out _).trans (((cell_far (p := ⟨gb358, _, none⟩) NB343_358.out _).trans (hHeld.1)))), ((cell_far (p := ⟨gb358, _, none⟩) NB343_358.out _).trans (((cell_far (p := ⟨gb358, _, none⟩) NB343_358.out _).trans (hHeld.2.1)))), ((cell_far (p := ⟨gb358, _, none⟩) Z11_8 _).trans (((cell_far (p := ⟨gb358, _, none⟩) Z11_8 _).trans (hHeld.2.2.1)))), ((cell_far (p := ⟨gb358, _, none⟩) Z11_8 _).trans (((cell_far (p := ⟨gb358, _, none⟩) Z11_8 _).trans (hHeld.2.2.2.1)))), ((cell_far (p := ⟨gb358, _, none⟩) Z11_8 _).trans (((cell_far (p := ⟨gb358, _, none⟩) Z11_8 _).trans (hHeld.2.2.2.2))))⟩ (fun hHeld => ?_)
            clear hK K
            refine pure_ (i := 12) (N := some 10) (v := ?_) (a' := ?_) #[true, true, true, true, true, true, true, true, true, true, true, true, true] rfl rfl (any_of HT_.out Z11_19) (fun _ _ _ h => h) (Or.inl ⟨by rfl, ?_⟩) ?_ ?_
            rotate_left
            ·intro w'
             go_simp
             with_reducible rfl
            rotate_left
            ·simp only [Act.put, List.setIfInBounds_toArray, List.set_cons_zero, List.set_cons_succ, i64_w, i32_w]
             rfl
            refine done_ (done_of HT_.out Z11_19) ?_
            try go_wp2
            have n0_ : Aside0 (Kd.R k70 70 ((w54.setCell ⟨gb358, 0, none⟩ (.int .i64 t353)).setCell ⟨gb358, 1, none⟩ (.slice Ao56 t354.length co56)) w.heap.size (fun _ => True) (.slice (some ad352) t336.length co51) t336) := ⟨by (with_reducible repeat (first | apply Kd.R_alloc | apply Kd.R_drewN | apply Kd.R_drew)); exact Kd.R_mono (Kd.R_far (p := ⟨gb358, 1, none⟩) (Kd.R_far (p := ⟨gb358, 0, none⟩) (Kd.R_types HO_4.out BK358.out Z11_64) (fun _ hk => hk.2) (.int .i64 t353)) (fun _ hk => hk.2) (.slice Ao56 t354.length co56)) (fun _ hk => trivial)⟩
            have n1_ : Aside0 (Kd.R k73 73 ((w54.setCell ⟨gb358, 0, none⟩ (.int .i64 t353)).setCell ⟨gb358, 1, none⟩ (.slice Ao56 t354.length co56)) w.heap.size (fun k_ => nb_ k_ Ao49 x344001_3.length co49 ∧ nb_ k_ Ao56 t354.length co56) u6 x6_3) := ⟨by (with_reducible repeat (first | apply Kd.R_alloc | apply Kd.R_drewN | apply Kd.R_drew)); exact Kd.R_mono (Kd.R_far (p := ⟨gb358, 1, none⟩) (Kd.R_far (p := ⟨gb358, 0, none⟩) (Kd.R_types HO_6.out BK358.out Z11_64) (fun _ hk => hk.2) (.int .i64 t353)) (fun _ hk => hk.2) (.slice Ao56 t354.length co56)) (fun _ hk => ⟨hk.1.2, hk.1.1⟩)⟩
            have n2_ : Aside0 (Kd.R k73 73 ((w54.setCell ⟨gb358, 0, none⟩ (.int .i64 t353)).setCell ⟨gb358, 1, none⟩ (.slice Ao56 t354.length co56)) w.heap.size (fun k_ => some k_ ≠ (u6 : Value).ownBlock ∧ nb_ k_ Ao56 t354.length co56) (.slice Ao49 x344001_3.length co49) x344001_3) := ⟨by (with_reducible repeat (first | apply Kd.R_alloc | apply Kd.R_drewN | apply Kd.R_drew)); exact Kd.R_mono (Kd.R_far (p := ⟨gb358, 1, none⟩) (Kd.R_far (p := ⟨gb358, 0, none⟩) (Kd.R_types HO_344001.out BK358.out Z11_64) (fun _ hk => hk.2) (.int .i64 t353)) (fun _ hk => hk.2) (.slice Ao56 t354.length co56)) (fun _ hk => ⟨hk.1.2, hk.1.1⟩)⟩
            have n3_ : Aside0 (Kd.R k73 73 ((w54.setCell ⟨gb358, 0, none⟩ (.int .i64 t353)).setCell ⟨gb358, 1, none⟩ (.slice Ao56 t354.length co56)) w.heap.size (fun k_ => some k_ ≠ (u6 : Value).ownBlock ∧ nb_ k_ Ao49 x344001_3.length co49) (.slice Ao56 t354.length co56) t354) := ⟨by (with_reducible repeat (first | apply Kd.R_alloc | apply Kd.R_drewN | apply Kd.R_drew)); exact Kd.R_mono (Kd.R_far (p := ⟨gb358, 1, none⟩) (Kd.R_far (p := ⟨gb358, 0, none⟩) (Kd.R_types HO356.out BK358.out Z11_64) (fun _ hk => hk.2) (.int .i64 t353)) (fun _ hk => hk.2) (.slice Ao56 t354.length co56)) (fun _ hk => ⟨hk.1.2, hk.1.1⟩)⟩
            have n4_ : Aside0 (((w54.setCell ⟨gb358, 0, none⟩ (.int .i64 t353)).setCell ⟨gb358, 1, none⟩ (.slice Ao56 t354.length co56)).heap[gb343]? = some (.cells #[.int .i64 x344000_3, .slice Ao49 x344001_3.length co49] 50 (0, 0))) := ⟨Z11_48⟩
            have n5_ : Aside0 (((w54.setCell ⟨gb358, 0, none⟩ (.int .i64 t353)).setCell ⟨gb358, 1, none⟩ (.slice Ao56 t354.length co56)).heap[gb358]? = some (.cells #[.int .i64 t353, .slice Ao56 t354.length co56] 50 (0, 0))) := ⟨Z11_41⟩
            have n6_ : Aside0 (Below w.heap.size w ((w54.setCell ⟨gb358, 0, none⟩ (.int .i64 t353)).setCell ⟨gb358, 1, none⟩ (.slice Ao56 t354.length co56))) := ⟨Z11_4⟩
            (try clear HO_4)
            (try clear HO_6)
            (try clear HO_344001)
            (try clear HO356)
            (try clear BK343)
            (try clear BK358)
            (try clear HB)
            generalize ((w54.setCell ⟨gb358, 0, none⟩ (.int .i64 t353)).setCell ⟨gb358, 1, none⟩ (.slice Ao56 t354.length co56)) = w58 at n0_ n1_ n2_ n3_ n4_ n5_ n6_ ⊢
            have HO_4 := n0_
            have HO_6 := n1_
            have HO_344001 := n2_
            have HO356 := n3_
            have BK343 := n4_
            have BK358 := n5_
            have HB := n6_
            clear n0_ n1_ n2_ n3_ n4_ n5_ n6_
            have n0_ := Aside0.mk (Kd.R_drew HO_4.out)
            have n1_ := Aside0.mk (Kd.R_drew HO_6.out)
            have n2_ := Aside0.mk (Kd.R_drew HO_344001.out)
            have n3_ := Aside0.mk (Kd.R_drew HO356.out)
            have n4_ := Aside0.mk (blk_drew BK343.out)
            have n5_ := Aside0.mk (blk_drew BK358.out)
            have n6_ := Aside0.mk (below_drew1 HB.out)
            clear HO_4
            clear HO_6
            clear HO_344001
            clear HO356
            clear BK343
            clear BK358
            clear HB
            have HO_4 := n0_
            have HO_6 := n1_
            have HO_344001 := n2_
            have HO356 := n3_
            have BK343 := n4_
            have BK358 := n5_
            have HB := n6_
            clear n0_ n1_ n2_ n3_ n4_ n5_ n6_
            have p359 : 0 ≤ (x8_3 : Int) := of_decide_eq_true Z11_14
            have q359 : x8_3 < (t336.length : Int) := of_decide_eq_true Z11_14
            obtain ⟨ad359, e359, hx359_0, hx359_1, hx359_2⟩ := at_T70 (Kd.R_reads' HO_4.out).2.2 x8_3 p359 q359
            obtain rfl : ad352 = ad359 := (by injection e359)
            replace p359 := eq_true p359
            replace q359 := eq_true q359
            refine start_ (n := 13) (S := fun w' => w'.cell? ⟨gb343, 0, none⟩ = some (.int .i64 x344000_3) ∧ w'.cell? ⟨gb343, 1, none⟩ = some (.slice Ao49 x344001_3.length co49) ∧ w'.cell? (ad352.add ((x8_3).toNat * 3)) = some (.int .i64 ((rd_T70 t336 x8_3).f0)) ∧ w'.cell? ⟨(ad352.add ((x8_3).toNat * 3)).block, (ad352.add ((x8_3).toNat * 3)).off + 1, none⟩ = some (.int .i64 ((rd_T70 t336 x8_3).f1)) ∧ w'.cell? ⟨(ad352.add ((x8_3).toNat * 3)).block, (ad352.add ((x8_3).toNat * 3)).off + 2, none⟩ = some (.int .i64 ((rd_T70 t336 x8_3).f2))) (ds := []) #[false, false, false, false, false, false, false, false, false, false, false, false, false] Z11_19 rfl rfl ⟨(blk_cell BK343.out 0).trans rfl, (blk_cell BK343.out 1).trans rfl, hx359_0, hx359_1, hx359_2⟩ (fun hHeld => ?_); refine with_tabW laws_FnFramesKept.tab16 laws_FnFramesKept.bits16 (fun HT_ HW_ => ?_)
            generalize w58.drew = w59 at HO_4 HO_6 HO_344001 HO356 BK343 BK358 HB hx359_0 hx359_1 hx359_2 hHeld ⊢
            refine pure_ (i := 1) (N := some 100) (v := ?_) (a' := ?_) #[false, true, false, false, false, false, false, false, false, false, false, false, false] rfl rfl (any_of HT_.out Z11_19) (fun _ _ _ h => h) (Or.inl ⟨by rfl, ?_⟩) ?_ ?_
            rotate_left
            ·intro w'
             go_simp
             with_reducible rfl
            rotate_left
            ·simp only [Act.put, List.setIfInBounds_toArray, List.set_cons_zero, List.set_cons_succ, i64_w, i32_w]
             rfl
            refine pure_ (i := 2) (N := some 101) (v := ?_) (a' := ?_) #[false, true, true, false, false, false, false, false, false, false, false, false, false] rfl rfl (any_of HT_.out Z11_19) (fun _ _ _ h => h) (Or.inl ⟨by rfl, ?_⟩) ?_ ?_
            rotate_left
            ·intro w'
             go_simp
             with_reducible rfl
            rotate_left
            ·simp only [Act.put, List.setIfInBounds_toArray, List.set_cons_zero, List.set_cons_succ, i64_w, i32_w]
             rfl
            refine pure_ (i := 3) (N := some 102) (v := ?_) (a' := ?_) #[false, true, true, true, false, false, false, false, false, false, false, false, false] rfl rfl (any_of HT_.out Z11_19) (fun _ _ _ h => h) (Or.inl ⟨by rfl, ?_⟩) ?_ ?_
            rotate_left
            ·intro w'
             go_simp
             with_reducible rfl
            rotate_left
            ·simp only [Act.put, List.setIfInBounds_toArray, List.set_cons_zero, List.set_cons_succ, i64_w, i32_w]
             rfl
            refine pure_ (i := 4) (N := some 103) (v := ?_) (a' := ?_) #[false, true, true, true, true, false, false, false, false, false, false, false, false] rfl rfl (any_of HT_.out Z11_19) (fun _ _ _ h => h) (Or.inl ⟨by rfl, ?_⟩) ?_ ?_
            rotate_left
            ·intro w'
             go_simp
             with_reducible rfl
            rotate_left
            ·simp only [Act.put, List.setIfInBounds_toArray, List.set_cons_zero, List.set_cons_succ, i64_w, i32_w]
             rfl
            refine take_ (i := 0) (N := some 99) (v := ?_) (a' := ?_) #[true, true, true, true, true, false, false, false, false, false, false, false, false] rfl rfl (take_ofW HT_.out HW_.out Z11_19) (fun _ _ _ h => h) (Or.inl ⟨by rfl, ?_⟩) hHeld ?_ ?_
            rotate_left
            ·rintro w' ⟨s0, s1, s2, s3, s4⟩
             go_simp
             with_reducible rfl
            rotate_left
            ·simp only [Act.put, List.setIfInBounds_toArray, List.set_cons_zero, List.set_cons_succ, i64_w, i32_w]
             rfl
            refine take_ (i := 5) (N := some 104) (v := ?_) (a' := ?_) #[true, true, true, true, true, true, false, false, false, false, false, false, false] rfl rfl (take_ofW HT_.out HW_.out Z11_19) (fun _ _ _ h => h) (Or.inl ⟨by rfl, ?_⟩) hHeld ?_ ?_
            rotate_left
            ·rintro w' ⟨s0, s1, s2, s3, s4⟩
             go_simp
             with_reducible rfl
            rotate_left
            ·simp only [Act.put, List.setIfInBounds_toArray, List.set_cons_zero, List.set_cons_succ, i64_w, i32_w]
             rfl
            refine join_ (σ := Value × Nat) 2 #[true, true, true, true, true, true, true, true, true, true, true, false, false] (fun s_ => [(105, .tuple #[.agg #[.int .i64 t360, s_.1], .int .i64 t364]), (11, .pointer (some ⟨s_.2, 0, none⟩)), (98, .tuple #[.agg #[.int .i64 t360, s_.1], .int .i64 t364]), (106, .agg #[.int .i64 t360, s_.1]), (107, .int .i64 t364)]) (fun s_ w' => (w'.cell? ⟨gb343, 0, none⟩ = some (.int .i64 x344000_3) ∧ w'.cell? ⟨gb343, 1, none⟩ = some (.slice Ao49 x344001_3.length co49) ∧ w'.cell? (ad352.add ((x8_3).toNat * 3)) = some (.int .i64 ((rd_T70 t336 x8_3).f0)) ∧ w'.cell? ⟨(ad352.add ((x8_3).toNat * 3)).block, (ad352.add ((x8_3).toNat * 3)).off + 1, none⟩ = some (.int .i64 ((rd_T70 t336 x8_3).f1)) ∧ w'.cell? ⟨(ad352.add ((x8_3).toNat * 3)).block, (ad352.add ((x8_3).toNat * 3)).off + 2, none⟩ = some (.int .i64 ((rd_T70 t336 x8_3).f2))) ∧ (Kd.R k73 73 w' w.heap.size (fun k_ => some k_ ≠ (s_.1 : Value).ownBlock ∧ nb_ k_ Ao49 x344001_3.length co49 ∧ some k_ ≠ (u6 : Value).ownBlock) (.slice Ao56 t354.length co56) t354) ∧ (Kd.R k73 73 w' w.heap.size (fun k_ => nb_ k_ Ao56 t354.length co56 ∧ nb_ k_ Ao49 x344001_3.length co49 ∧ some k_ ≠ (u6 : Value).ownBlock) s_.1 t361) ∧ (Kd.R k73 73 w' w.heap.size (fun k_ => nb_ k_ Ao56 t354.length co56 ∧ some k_ ≠ (s_.1 : Value).ownBlock ∧ some k_ ≠ (u6 : Value).ownBlock) (.slice Ao49 x344001_3.length co49) x344001_3) ∧ (Kd.R k70 70 w' w.heap.size (fun _ => True) (.slice (some ad352) t336.length co51) t336) ∧ (Kd.R k73 73 w' w.heap.size (fun k_ => nb_ k_ Ao56 t354.length co56 ∧ some k_ ≠ (s_.1 : Value).ownBlock ∧ nb_ k_ Ao49 x344001_3.length co49) u6 x6_3) ∧ (w'.heap[gb343]? = some (.cells #[.int .i64 x344000_3, .slice Ao49 x344001_3.length co49] 50 (0, 0))) ∧ (w'.heap[gb358]? = some (.cells #[.int .i64 t353, .slice Ao56 t354.length co56] 50 (0, 0))) ∧ (w'.heap[s_.2]? = some (.cells #[.int .i64 0, .slice none 0 0] 50 (0, 0))) ∧ (w.heap.size ≤ s_.2) ∧ (w.heap.size ≤ s_.2) ∧ (gb343 ≠ s_.2) ∧ (s_.2 ≠ gb343) ∧ (gb358 ≠ s_.2) ∧ (s_.2 ≠ gb358) ∧ (Below w.heap.size w w')) ?_ ?_
            rotate_left
            ·intro hCont
             refine two_ (i := 6) (j := 10) (Ni := some 105) (Nj := some 11) #[true, true, true, true, true, true, true, false, false, false, false, false, false] #[true, true, true, true, true, true, false, false, false, false, true, false, false] rfl rfl rfl rfl (two_of HT_.out Z11_19) Z11_64 Z11_64 (fun K hK => ?_) (fun K hK => ?_)
             ·skip
              refine goes_ Try.func44 Z11_19 rfl #[.agg #[.int .i64 x344000_3, .slice Ao49 x344001_3.length co49], .int .i64 ((rd_T70 t336 x8_3).f2)] (by rfl) rfl rfl Z11_11 ?_
              with_reducible refine (spec_FramesTake.calls kj33 x344000_3 _ _ x344001_3 ((rd_T70 t336 x8_3).f2) t360 t361 t364 _ ?side1 ?side2 A46.out).mono ?_
              (case side1 => exact Z11_12)
              (case side2 => exact (Kd.R_reads' HO_344001.out).2.1)
              rintro e w60 ⟨v362, rfl, ho0, hb⟩
              have HS2_ := (hb.cell (World.block_lt_of_cell? _ _ (hHeld.2.2.1))).trans (hHeld.2.2.1)
              have HS3_ := (hb.cell (World.block_lt_of_cell? _ _ (hHeld.2.2.2.1))).trans (hHeld.2.2.2.1)
              have HS4_ := (hb.cell (World.block_lt_of_cell? _ _ (hHeld.2.2.2.2))).trans (hHeld.2.2.2.2)
              refine ⟨_, rfl, ?_⟩
              have n0_ := Aside0.mk (Kd.R_below Z11_6 hb)
              have n1_ := Aside0.mk (Kd.R_elder' Z11_5 (Kd.R_base ho0) hb)
              have n2_ := Aside0.mk (Kd.R_elder' Z11_3 (Kd.R_base ho0) hb)
              have n3_ := Aside0.mk (Kd.R_elder' Z11_17 (Kd.R_base ho0) hb)
              have n4_ := Aside0.mk (Kd.R_lower (Kd.R_new' (Kd.R_new' (Kd.R_new' ho0 (Kd.R_lt Z11_5)) (Kd.R_lt Z11_3)) (Kd.R_lt Z11_17)) (below_size Z11_4))
              have n5_ := Aside0.mk (blk_below (g := gb343) (o := .cells #[.int .i64 x344000_3, .slice Ao49 x344001_3.length co49] 50 (0, 0)) Z11_1 hb)
              have n6_ := Aside0.mk (blk_below (g := gb358) (o := .cells #[.int .i64 t353, .slice Ao56 t354.length co56] 50 (0, 0)) Z11_10 hb)
              have n7_ := Aside0.mk (below_step Z11_4 hb)
              clear HO_4
              clear HO_6
              clear HO_344001
              clear HO356
              clear BK343
              clear BK358
              clear HB
              have HO_4 := n0_
              have HO_6 := n1_
              have HO_344001 := n2_
              have HO356 := n3_
              have HO363 := n4_
              have BK343 := n5_
              have BK358 := n6_
              have HB := n7_
              clear n0_ n1_ n2_ n3_ n4_ n5_ n6_ n7_
              (try clear hb)
              (try clear hb2)
              (try clear hk)
              (try clear hi)
              (try clear ho0)
              refine hK.out _ _ ⟨(blk_cell BK343.out 0).trans rfl, (blk_cell BK343.out 1).trans rfl, HS2_, HS3_, HS4_⟩ (fun hHeld => ?_)
              clear hK K
              refine norm_ (a' := ?_) ?_ ?_
              rotate_left
              ·show Act.put _ (some 105) _ = _
               simp only [Act.put, List.setIfInBounds_toArray, List.set_cons_zero, List.set_cons_succ, i64_w, i32_w]
               rfl
              refine pure_ (i := 7) (N := some 98) (v := ?_) (a' := ?_) #[true, true, true, true, true, true, true, true, false, false, false, false, false] rfl rfl (any_of HT_.out Z11_19) (fun _ _ _ h => h) (Or.inl ⟨by rfl, ?_⟩) ?_ ?_
              rotate_left
              ·intro w'
               go_simp
               with_reducible rfl
              rotate_left
              ·simp only [Act.put, List.setIfInBounds_toArray, List.set_cons_zero, List.set_cons_succ, i64_w, i32_w]
               rfl
              refine pure_ (i := 8) (N := some 106) (v := ?_) (a' := ?_) #[true, true, true, true, true, true, true, true, true, false, false, false, false] rfl rfl (any_of HT_.out Z11_19) (fun _ _ _ h => h) (Or.inl ⟨by rfl, ?_⟩) ?_ ?_
              rotate_left
              ·intro w'
               go_simp
               with_reducible rfl
              rotate_left
              ·simp only [Act.put, List.setIfInBounds_toArray, List.set_cons_zero, List.set_cons_succ, i64_w, i32_w]
               rfl
              refine pure_ (i := 9) (N := some 107) (v := ?_) (a' := ?_) #[true, true, true, true, true, true, true, true, true, true, false, false, false] rfl rfl (any_of HT_.out Z11_19) (fun _ _ _ h => h) (Or.inl ⟨by rfl, ?_⟩) ?_ ?_
              rotate_left
              ·intro w'
               go_simp
               with_reducible rfl
              rotate_left
              ·simp only [Act.put, List.setIfInBounds_toArray, List.set_cons_zero, List.set_cons_succ, i64_w, i32_w]
               rfl
              refine one_ (i := 10) (N := some 11) #[true, true, true, true, true, true, true, true, true, true, true, false, false] rfl rfl (one_of HT_.out Z11_19) Z11_64 (fun K hK => ?_)
              refine box_step ?hg (N := 11) ?hd (cs := #[.int .i64 0, .slice none 0 0]) (t := 50) ?hr ?_; (case hd => rfl); (case hg => rfl); (case hr => exact Z11_34)
              intro gb365 hg w61 hbox hb
              have HS2_ := (hb.cell (World.block_lt_of_cell? _ _ (hHeld.2.2.1))).trans (hHeld.2.2.1)
              have HS3_ := (hb.cell (World.block_lt_of_cell? _ _ (hHeld.2.2.2.1))).trans (hHeld.2.2.2.1)
              have HS4_ := (hb.cell (World.block_lt_of_cell? _ _ (hHeld.2.2.2.2))).trans (hHeld.2.2.2.2)
              have n0_ := Aside0.mk (Kd.R_below Z11_6 hb)
              have n1_ := Aside0.mk (Kd.R_below Z11_5 hb)
              have n2_ := Aside0.mk (Kd.R_below Z11_3 hb)
              have n3_ := Aside0.mk (Kd.R_below Z11_17 hb)
              have n4_ := Aside0.mk (Kd.R_below (by (with_reducible repeat (first | apply Kd.R_alloc | apply Kd.R_drewN | apply Kd.R_drew)); exact HO363.out) hb)
              have n5_ := Aside0.mk (blk_below (g := gb343) (o := .cells #[.int .i64 x344000_3, .slice Ao49 x344001_3.length co49] 50 (0, 0)) Z11_1 hb)
              have n6_ := Aside0.mk (blk_below (g := gb358) (o := .cells #[.int .i64 t353, .slice Ao56 t354.length co56] 50 (0, 0)) Z11_10 hb)
              have n7_ := Aside0.mk (below_step Z11_4 hb)
              have n8_ := Aside0.mk (hbox)
              have n9_ := Aside0.mk ((Z11_61 : w.heap.size ≤ gb365))
              have n10_ := Aside0.mk ((Z11_61 : w.heap.size ≤ gb365))
              have n11_ := Aside0.mk ((Z11_43 : gb343 ≠ gb365))
              have n12_ := Aside0.mk ((Z11_44 : gb365 ≠ gb343))
              have n13_ := Aside0.mk ((Z11_69 : gb358 ≠ gb365))
              have n14_ := Aside0.mk ((Z11_70 : gb365 ≠ gb358))
              clear HO_4
              clear HO_6
              clear HO_344001
              clear HO356
              clear HO363
              clear BK343
              clear BK358
              clear HB
              have HO_4 := n0_
              have HO_6 := n1_
              have HO_344001 := n2_
              have HO356 := n3_
              have HO363 := n4_
              have BK343 := n5_
              have BK358 := n6_
              have HB := n7_
              have BK365 := n8_
              have GW365 := n9_
              have GE365 := n10_
              have NB343_365 := n11_
              have NB365_343 := n12_
              have NB358_365 := n13_
              have NB365_358 := n14_
              clear n0_ n1_ n2_ n3_ n4_ n5_ n6_ n7_ n8_ n9_ n10_ n11_ n12_ n13_ n14_
              clear hb hbox hg
              refine hK.out _ _ ⟨(blk_cell BK343.out 0).trans rfl, (blk_cell BK343.out 1).trans rfl, HS2_, HS3_, HS4_⟩ (fun hHeld => ?_)
              clear hK K
              refine norm_ (a' := ?_) ?_ ?_
              rotate_left
              ·show Act.put _ (some 11) _ = _
               simp only [Act.put, List.setIfInBounds_toArray, List.set_cons_zero, List.set_cons_succ, i64_w, i32_w]
               rfl
              exact norm_ Z11_23 (hCont (v362, gb365) _ ⟨hHeld, Z11_37, Z11_36, Z11_35, Z11_6, Z11_38, Z11_1, Z11_10, Z11_20, GW365.out, GE365.out, NB343_365.out, NB365_343.out, NB358_365.out, NB365_358.out, Z11_7⟩)
             skip
             refine box_step ?hg (N := 11) ?hd (cs := #[.int .i64 0, .slice none 0 0]) (t := 50) ?hr ?_; (case hd => rfl); (case hg => rfl); (case hr => exact Z11_34)
             intro gb365 hg w60 hbox hb
             have HS2_ := (hb.cell (World.block_lt_of_cell? _ _ (hHeld.2.2.1))).trans (hHeld.2.2.1)
             have HS3_ := (hb.cell (World.block_lt_of_cell? _ _ (hHeld.2.2.2.1))).trans (hHeld.2.2.2.1)
             have HS4_ := (hb.cell (World.block_lt_of_cell? _ _ (hHeld.2.2.2.2))).trans (hHeld.2.2.2.2)
             have n0_ := Aside0.mk (Kd.R_below Z11_6 hb)
             have n1_ := Aside0.mk (Kd.R_below Z11_5 hb)
             have n2_ := Aside0.mk (Kd.R_below Z11_3 hb)
             have n3_ := Aside0.mk (Kd.R_below Z11_17 hb)
             have n4_ := Aside0.mk (blk_below (g := gb343) (o := .cells #[.int .i64 x344000_3, .slice Ao49 x344001_3.length co49] 50 (0, 0)) Z11_1 hb)
             have n5_ := Aside0.mk (blk_below (g := gb358) (o := .cells #[.int .i64 t353, .slice Ao56 t354.length co56] 50 (0, 0)) Z11_10 hb)
             have n6_ := Aside0.mk (below_step Z11_4 hb)
             have n7_ := Aside0.mk (hbox)
             have n8_ := Aside0.mk ((Z11_61 : w.heap.size ≤ gb365))
             have n9_ := Aside0.mk ((Z11_61 : w.heap.size ≤ gb365))
             have n10_ := Aside0.mk ((Z11_43 : gb343 ≠ gb365))
             have n11_ := Aside0.mk ((Z11_44 : gb365 ≠ gb343))
             have n12_ := Aside0.mk ((Z11_69 : gb358 ≠ gb365))
             have n13_ := Aside0.mk ((Z11_70 : gb365 ≠ gb358))
             clear HO_4
             clear HO_6
             clear HO_344001
             clear HO356
             clear BK343
             clear BK358
             clear HB
             have HO_4 := n0_
             have HO_6 := n1_
             have HO_344001 := n2_
             have HO356 := n3_
             have BK343 := n4_
             have BK358 := n5_
             have HB := n6_
             have BK365 := n7_
             have GW365 := n8_
             have GE365 := n9_
             have NB343_365 := n10_
             have NB365_343 := n11_
             have NB358_365 := n12_
             have NB365_358 := n13_
             clear n0_ n1_ n2_ n3_ n4_ n5_ n6_ n7_ n8_ n9_ n10_ n11_ n12_ n13_
             clear hb hbox hg
             refine hK.out _ _ ⟨(blk_cell BK343.out 0).trans rfl, (blk_cell BK343.out 1).trans rfl, HS2_, HS3_, HS4_⟩ (fun hHeld => ?_)
             clear hK K
             refine norm_ (a' := ?_) ?_ ?_
             rotate_left
             ·show Act.put _ (some 11) _ = _
              simp only [Act.put, List.setIfInBounds_toArray, List.set_cons_zero, List.set_cons_succ, i64_w, i32_w]
              rfl
             refine one_ (i := 6) (N := some 105) #[true, true, true, true, true, true, true, false, false, false, true, false, false] rfl rfl (one_of HT_.out Z11_19) Z11_64 (fun K hK => ?_)
             refine goes_ Try.func44 Z11_19 rfl #[.agg #[.int .i64 x344000_3, .slice Ao49 x344001_3.length co49], .int .i64 ((rd_T70 t336 x8_3).f2)] (by rfl) rfl rfl Z11_11 ?_
             with_reducible refine (spec_FramesTake.calls kj33 x344000_3 _ _ x344001_3 ((rd_T70 t336 x8_3).f2) t360 t361 t364 _ ?side1 ?side2 A46.out).mono ?_
             (case side1 => exact Z11_12)
             (case side2 => exact (Kd.R_reads' HO_344001.out).2.1)
             rintro e w61 ⟨v362, rfl, ho0, hb⟩
             have HS2_ := (hb.cell (World.block_lt_of_cell? _ _ (hHeld.2.2.1))).trans (hHeld.2.2.1)
             have HS3_ := (hb.cell (World.block_lt_of_cell? _ _ (hHeld.2.2.2.1))).trans (hHeld.2.2.2.1)
             have HS4_ := (hb.cell (World.block_lt_of_cell? _ _ (hHeld.2.2.2.2))).trans (hHeld.2.2.2.2)
             refine ⟨_, rfl, ?_⟩
             have n0_ := Aside0.mk (Kd.R_below Z11_6 hb)
             have n1_ := Aside0.mk (Kd.R_elder' Z11_5 (Kd.R_base ho0) hb)
             have n2_ := Aside0.mk (Kd.R_elder' Z11_3 (Kd.R_base ho0) hb)
             have n3_ := Aside0.mk (Kd.R_elder' Z11_17 (Kd.R_base ho0) hb)
             have n4_ := Aside0.mk (Kd.R_lower (Kd.R_new' (Kd.R_new' (Kd.R_new' ho0 (Kd.R_lt Z11_5)) (Kd.R_lt Z11_3)) (Kd.R_lt Z11_17)) (below_size Z11_7))
             have n5_ := Aside0.mk (blk_below (g := gb343) (o := .cells #[.int .i64 x344000_3, .slice Ao49 x344001_3.length co49] 50 (0, 0)) Z11_1 hb)
             have n6_ := Aside0.mk (blk_below (g := gb358) (o := .cells #[.int .i64 t353, .slice Ao56 t354.length co56] 50 (0, 0)) Z11_10 hb)
             have n7_ := Aside0.mk (blk_below (g := gb365) (o := .cells #[.int .i64 0, .slice none 0 0] 50 (0, 0)) Z11_20 hb)
             have n8_ := Aside0.mk (below_step Z11_7 hb)
             clear HO_4
             clear HO_6
             clear HO_344001
             clear HO356
             clear BK343
             clear BK358
             clear BK365
             clear HB
             have HO_4 := n0_
             have HO_6 := n1_
             have HO_344001 := n2_
             have HO356 := n3_
             have HO363 := n4_
             have BK343 := n5_
             have BK358 := n6_
             have BK365 := n7_
             have HB := n8_
             clear n0_ n1_ n2_ n3_ n4_ n5_ n6_ n7_ n8_
             (try clear hb)
             (try clear hb2)
             (try clear hk)
             (try clear hi)
             (try clear ho0)
             refine hK.out _ _ ⟨(blk_cell BK343.out 0).trans rfl, (blk_cell BK343.out 1).trans rfl, HS2_, HS3_, HS4_⟩ (fun hHeld => ?_)
             clear hK K
             refine norm_ (a' := ?_) ?_ ?_
             rotate_left
             ·show Act.put _ (some 105) _ = _
              simp only [Act.put, List.setIfInBounds_toArray, List.set_cons_zero, List.set_cons_succ, i64_w, i32_w]
              rfl
             refine pure_ (i := 7) (N := some 98) (v := ?_) (a' := ?_) #[true, true, true, true, true, true, true, true, false, false, true, false, false] rfl rfl (any_of HT_.out Z11_19) (fun _ _ _ h => h) (Or.inl ⟨by rfl, ?_⟩) ?_ ?_
             rotate_left
             ·intro w'
              go_simp
              with_reducible rfl
             rotate_left
             ·simp only [Act.put, List.setIfInBounds_toArray, List.set_cons_zero, List.set_cons_succ, i64_w, i32_w]
              rfl
             refine pure_ (i := 8) (N := some 106) (v := ?_) (a' := ?_) #[true, true, true, true, true, true, true, true, true, false, true, false, false] rfl rfl (any_of HT_.out Z11_19) (fun _ _ _ h => h) (Or.inl ⟨by rfl, ?_⟩) ?_ ?_
             rotate_left
             ·intro w'
              go_simp
              with_reducible rfl
             rotate_left
             ·simp only [Act.put, List.setIfInBounds_toArray, List.set_cons_zero, List.set_cons_succ, i64_w, i32_w]
              rfl
             refine pure_ (i := 9) (N := some 107) (v := ?_) (a' := ?_) #[true, true, true, true, true, true, true, true, true, true, true, false, false] rfl rfl (any_of HT_.out Z11_19) (fun _ _ _ h => h) (Or.inl ⟨by rfl, ?_⟩) ?_ ?_
             rotate_left
             ·intro w'
              go_simp
              with_reducible rfl
             rotate_left
             ·simp only [Act.put, List.setIfInBounds_toArray, List.set_cons_zero, List.set_cons_succ, i64_w, i32_w]
              rfl
             exact norm_ Z11_23 (hCont (v362, gb365) _ ⟨hHeld, Z11_37, Z11_36, Z11_35, Z11_6, Z11_38, Z11_1, Z11_10, Z11_20, GW365.out, GE365.out, NB343_365.out, NB365_343.out, NB358_365.out, NB365_358.out, Z11_7⟩)
            rintro ⟨v362, gb365⟩ w62 ⟨hS_, h0_, h1_, h2_, h3_, h4_, h5_, h6_, h7_, h8_, h9_, h10_, h11_, h12_, h13_, h14_⟩
            have n0_ : Aside0 (Kd.R k73 73 w62 w.heap.size (fun k_ => some k_ ≠ (v362 : Value).ownBlock ∧ nb_ k_ Ao49 x344001_3.length co49 ∧ some k_ ≠ (u6 : Value).ownBlock) (.slice Ao56 t354.length co56) t354) := ⟨h0_⟩
            have n1_ : Aside0 (Kd.R k73 73 w62 w.heap.size (fun k_ => nb_ k_ Ao56 t354.length co56 ∧ nb_ k_ Ao49 x344001_3.length co49 ∧ some k_ ≠ (u6 : Value).ownBlock) v362 t361) := ⟨h1_⟩
            have n2_ : Aside0 (Kd.R k73 73 w62 w.heap.size (fun k_ => nb_ k_ Ao56 t354.length co56 ∧ some k_ ≠ (v362 : Value).ownBlock ∧ some k_ ≠ (u6 : Value).ownBlock) (.slice Ao49 x344001_3.length co49) x344001_3) := ⟨h2_⟩
            have n3_ : Aside0 (Kd.R k70 70 w62 w.heap.size (fun _ => True) (.slice (some ad352) t336.length co51) t336) := ⟨h3_⟩
            have n4_ : Aside0 (Kd.R k73 73 w62 w.heap.size (fun k_ => nb_ k_ Ao56 t354.length co56 ∧ some k_ ≠ (v362 : Value).ownBlock ∧ nb_ k_ Ao49 x344001_3.length co49) u6 x6_3) := ⟨h4_⟩
            have n5_ : Aside0 (w62.heap[gb343]? = some (.cells #[.int .i64 x344000_3, .slice Ao49 x344001_3.length co49] 50 (0, 0))) := ⟨h5_⟩
            have n6_ : Aside0 (w62.heap[gb358]? = some (.cells #[.int .i64 t353, .slice Ao56 t354.length co56] 50 (0, 0))) := ⟨h6_⟩
            have n7_ : Aside0 (w62.heap[gb365]? = some (.cells #[.int .i64 0, .slice none 0 0] 50 (0, 0))) := ⟨h7_⟩
            have n8_ : Aside0 (w.heap.size ≤ gb365) := ⟨h8_⟩
            have n9_ : Aside0 (w.heap.size ≤ gb365) := ⟨h9_⟩
            have n10_ : Aside0 (gb343 ≠ gb365) := ⟨h10_⟩
            have n11_ : Aside0 (gb365 ≠ gb343) := ⟨h11_⟩
            have n12_ : Aside0 (gb358 ≠ gb365) := ⟨h12_⟩
            have n13_ : Aside0 (gb365 ≠ gb358) := ⟨h13_⟩
            have n14_ : Aside0 (Below w.heap.size w w62) := ⟨h14_⟩
            clear HO_4
            clear HO_6
            clear HO_344001
            clear HO356
            clear BK343
            clear BK358
            clear HB
            clear h0_ h1_ h2_ h3_ h4_ h5_ h6_ h7_ h8_ h9_ h10_ h11_ h12_ h13_ h14_
            have HO356 := n0_
            have HO363 := n1_
            have HO_344001 := n2_
            have HO_4 := n3_
            have HO_6 := n4_
            have BK343 := n5_
            have BK358 := n6_
            have BK365 := n7_
            have GW365 := n8_
            have GE365 := n9_
            have NB343_365 := n10_
            have NB365_343 := n11_
            have NB358_365 := n12_
            have NB365_358 := n13_
            have HB := n14_
            clear n0_ n1_ n2_ n3_ n4_ n5_ n6_ n7_ n8_ n9_ n10_ n11_ n12_ n13_ n14_
            have hHeld : w62.cell? ⟨gb343, 0, none⟩ = some (.int .i64 x344000_3) ∧ w62.cell? ⟨gb343, 1, none⟩ = some (.slice Ao49 x344001_3.length co49) ∧ w62.cell? (ad352.add ((x8_3).toNat * 3)) = some (.int .i64 ((rd_T70 t336 x8_3).f0)) ∧ w62.cell? ⟨(ad352.add ((x8_3).toNat * 3)).block, (ad352.add ((x8_3).toNat * 3)).off + 1, none⟩ = some (.int .i64 ((rd_T70 t336 x8_3).f1)) ∧ w62.cell? ⟨(ad352.add ((x8_3).toNat * 3)).block, (ad352.add ((x8_3).toNat * 3)).off + 2, none⟩ = some (.int .i64 ((rd_T70 t336 x8_3).f2)) := hS_
            obtain ⟨Ao64, co64, eo64⟩ := Kd.R_slice HO363.out
            (first | subst eo64 | (injection eo64 with f1_ f2_ f3_; have f4_ := f1_.symm; have f5_ := f3_.symm; clear f1_ f2_ f3_; subst f4_; subst f5_))
            refine norm_ (a' := ?_) ?_ ?_
            rotate_left
            ·simp only [putAll, Act.put, List.setIfInBounds_toArray, List.set_cons_zero, List.set_cons_succ]
             rfl
            refine one_ (i := 11) (N := none) #[true, true, true, true, true, true, true, true, true, true, true, true, false] rfl rfl (one_of HT_.out Z11_19) Z11_64 (fun K hK => ?_)
            have hs63 : w62.cell? ⟨gb365, 0, none⟩ = some (.int .i64 0) := (blk_cell BK365.out 0).trans rfl
            have hfs63 := blk_frozen BK365.out 0
            have hns63_0 := NB343_365.out
            have hns63_1 := NB358_365.out
            have hms63_0 := NB365_343.out
            have hms63_1 := NB365_358.out
            have hs65 : w62.cell? ⟨gb365, 1, none⟩ = some (.slice none 0 0) := (blk_cell BK365.out 1).trans rfl
            have hfs65 := blk_frozen BK365.out 1
            have hns65_0 := NB343_365.out
            have hns65_1 := NB358_365.out
            have hms65_0 := NB365_343.out
            have hms65_1 := NB365_358.out
            refine skip_ (w1 := ?_) (by rfl) rfl ?_ ?_
            rotate_left
            ·go_simp
             rfl
            refine hK.out _ _ ⟨((cell_far (p := ⟨gb365, _, none⟩) NB343_365.out _).trans (((cell_far (p := ⟨gb365, _, none⟩) NB343_365.out _).trans (hHeld.1)))), ((cell_far (p := ⟨gb365, _, none⟩) NB343_365.out _).trans (((cell_far (p := ⟨gb365, _, none⟩) NB343_365.out _).trans (hHeld.2.1)))), ((cell_far (p := ⟨gb365, _, none⟩) Z11_9 _).trans (((cell_far (p := ⟨gb365, _, none⟩) Z11_9 _).trans (hHeld.2.2.1)))), ((cell_far (p := ⟨gb365, _, none⟩) Z11_9 _).trans (((cell_far (p := ⟨gb365, _, none⟩) Z11_9 _).trans (hHeld.2.2.2.1)))), ((cell_far (p := ⟨gb365, _, none⟩) Z11_9 _).trans (((cell_far (p := ⟨gb365, _, none⟩) Z11_9 _).trans (hHeld.2.2.2.2))))⟩ (fun hHeld => ?_)
            clear hK K
            refine pure_ (i := 12) (N := some 12) (v := ?_) (a' := ?_) #[true, true, true, true, true, true, true, true, true, true, true, true, true] rfl rfl (any_of HT_.out Z11_19) (fun _ _ _ h => h) (Or.inl ⟨by rfl, ?_⟩) ?_ ?_
            rotate_left
            ·intro w'
             go_simp
             with_reducible rfl
            rotate_left
            ·simp only [Act.put, List.setIfInBounds_toArray, List.set_cons_zero, List.set_cons_succ, i64_w, i32_w]
             rfl
            refine done_ (done_of HT_.out Z11_19) ?_
            have hnb66 := NB358_343.out
            have hnc66 := NB343_358.out
            have hnb67 := NB358_365.out
            have hnc67 := NB365_358.out
            have hcz68_0 : w62.cell? ⟨gb358, 0, none⟩ = some (.int .i64 t353) := (blk_cell BK358.out 0).trans rfl
            have hcz68_1 : w62.cell? ⟨gb358, 1, none⟩ = some (.slice Ao56 t354.length co56) := (blk_cell BK358.out 1).trans rfl
            have hfz68_0 := blk_frozen BK358.out 0
            have hfz68_1 := blk_frozen BK358.out 1
            have hnb69 := NB343_365.out
            have hnc69 := NB365_343.out
            have hcz70_0 : w62.cell? ⟨gb343, 0, none⟩ = some (.int .i64 x344000_3) := (blk_cell BK343.out 0).trans rfl
            have hcz70_1 : w62.cell? ⟨gb343, 1, none⟩ = some (.slice Ao49 x344001_3.length co49) := (blk_cell BK343.out 1).trans rfl
            have hfz70_0 := blk_frozen BK343.out 0
            have hfz70_1 := blk_frozen BK343.out 1
            try go_wp2
            go_roundg kj33
            case measure => have := HJ5.out; have := HJ15.out; have := HK3.out; have := HJ28.out; have := HJ33.out; omega
            case rel => exact ⟨(x6_3), (x7_3), (wrap64 (x8_3 + 1)), (t353), (t354), (.slice Ao56 t354.length co56), Z11_13, Z11_13, H', ⟨by have := HJ5.out; have := HJ15.out; have := HK3.out; have := HJ28.out; have := HJ33.out; omega⟩, ⟨by (with_reducible repeat (first | apply Kd.R_alloc | apply Kd.R_drewN | apply Kd.R_drew)); exact Kd.R_mono (Kd.R_far (p := ⟨gb343, 1, none⟩) (Kd.R_far (p := ⟨gb343, 0, none⟩) (Kd.R_far (p := ⟨gb365, 1, none⟩) (Kd.R_far (p := ⟨gb365, 0, none⟩) (Kd.R_types (Kd.R_types HO_4.out BK365.out Z11_64) BK343.out Z11_64) (fun _ hk => hk.1.2) (.int .i64 t360)) (fun _ hk => hk.1.2) (.slice Ao64 t361.length co64)) (fun _ hk => hk.2) (.int .i64 t353)) (fun _ hk => hk.2) (.slice Ao56 t354.length co56)) (fun _ hk => trivial)⟩, ⟨by (with_reducible repeat (first | apply Kd.R_alloc | apply Kd.R_drewN | apply Kd.R_drew)); exact Kd.R_mono (Kd.R_far (p := ⟨gb343, 1, none⟩) (Kd.R_far (p := ⟨gb343, 0, none⟩) (Kd.R_far (p := ⟨gb365, 1, none⟩) (Kd.R_far (p := ⟨gb365, 0, none⟩) (Kd.R_types (Kd.R_types HO_6.out BK365.out Z11_64) BK343.out Z11_64) (fun _ hk => hk.1.2) (.int .i64 t360)) (fun _ hk => hk.1.2) (.slice Ao64 t361.length co64)) (fun _ hk => hk.2) (.int .i64 t353)) (fun _ hk => hk.2) (.slice Ao56 t354.length co56)) (fun _ hk => hk.1.1.1)⟩, ⟨by (with_reducible repeat (first | apply Kd.R_alloc | apply Kd.R_drewN | apply Kd.R_drew)); exact Kd.R_mono (Kd.R_far (p := ⟨gb343, 1, none⟩) (Kd.R_far (p := ⟨gb343, 0, none⟩) (Kd.R_far (p := ⟨gb365, 1, none⟩) (Kd.R_far (p := ⟨gb365, 0, none⟩) (Kd.R_types (Kd.R_types HO356.out BK365.out Z11_64) BK343.out Z11_64) (fun _ hk => hk.1.2) (.int .i64 t360)) (fun _ hk => hk.1.2) (.slice Ao64 t361.length co64)) (fun _ hk => hk.2) (.int .i64 t353)) (fun _ hk => hk.2) (.slice Ao56 t354.length co56)) (fun _ hk => hk.1.1.2.2)⟩, ⟨by (with_reducible repeat (first | apply blk_drewN | apply blk_drew | apply blk_alloc)); refine blk_put (cs := #[.int .i64 t353, .slice Ao49 x344001_3.length co49]) ?_ 1 _ rfl; (with_reducible repeat (first | apply blk_drewN | apply blk_drew | apply blk_alloc)); refine blk_put (cs := #[.int .i64 x344000_3, .slice Ao49 x344001_3.length co49]) ?_ 0 _ rfl; (with_reducible repeat (first | apply blk_drewN | apply blk_drew | apply blk_alloc)); refine blk_far ?_ NB343_365.out _; (with_reducible repeat (first | apply blk_drewN | apply blk_drew | apply blk_alloc)); refine blk_far ?_ NB343_365.out _; (with_reducible repeat (first | apply blk_drewN | apply blk_drew | apply blk_alloc)); exact BK343.out⟩, ⟨Z11_7⟩⟩)⟩
           exact NE_ (inferInstanceAs (Nonempty (type_of% ?L8)))
          rw [if_neg c48] at H
          have c48b0 : decide (t357 < 0) = false := decide_eq_false c48
          clear c48
          obtain ⟨ji71, hji71⟩ : ∃ j_ : Int, (IntKind.u64.wrap ((rd_T70 t336 x8_3).f2)) = j_ := ⟨_, rfl⟩
          replace H : (if 0 ≤ (ji71) then (if (shl .i64 1 (ji71)) = 0 then (none) else (if (Int.tmod t357 (shl .i64 1 (ji71))) = 0 then (laws_FnFramesKept.j5 kj33 l0 t335 t336 x6_3 x7_3 x8_3 t357 (shl .i64 1 (ji71)) (decide ((wrap64 (t357 + (shl .i64 1 (ji71)))) > t335)) t353 t354) else (laws_FnFramesKept.j5 kj33 l0 t335 t336 x6_3 x7_3 x8_3 t357 (shl .i64 1 (ji71)) true t353 t354))) else (none)) = some r := by first | (rw [hji71] at H; exact H) | (simp only [hji71] at H ⊢; exact H)
          (try rw [hji71] at A45)
          (try rw [hji71] at A46)
          by_cases c72 : 0 ≤ (ji71)
          ·rw [if_pos c72] at H
           have c72b0 := eq_true c72
           have c72b1 : decide (0 ≤ (ji71)) = true := decide_eq_true c72
           clear c72
           obtain ⟨ji73, hji73⟩ : ∃ j_ : Int, (shl .i64 1 (ji71)) = j_ := ⟨_, rfl⟩
           replace H : (if (ji73) = 0 then (none) else (if (Int.tmod t357 (ji73)) = 0 then (laws_FnFramesKept.j5 kj33 l0 t335 t336 x6_3 x7_3 x8_3 t357 ji73 (decide ((wrap64 (t357 + (ji73))) > t335)) t353 t354) else (laws_FnFramesKept.j5 kj33 l0 t335 t336 x6_3 x7_3 x8_3 t357 ji73 true t353 t354))) = some r := by first | (rw [hji73] at H; exact H) | (simp only [hji73] at H ⊢; exact H)
           (try rw [hji73] at A45)
           (try rw [hji73] at A46)
           have hji73_ : (IntKind.i64.wrap (1 * 2 ^ min (ji71).toNat 64)) = ji73 := hji73
           have hji73z : (ji71) ≤ 64 → (IntKind.i64.wrap (1 * 2 ^ (ji71).toNat)) = ji73 := shl_small hji73
           have hji73u : (IntKind.i64.wrap (2 ^ min (ji71).toNat 64)) = ji73 := by have h_ := hji73_; rw [Int.one_mul] at h_; exact h_
           have hji73v : (ji71) ≤ 64 → (IntKind.i64.wrap (2 ^ (ji71).toNat)) = ji73 := fun hle_ => by have h_ := hji73z hle_; rw [Int.one_mul] at h_; exact h_
           have hji73y : (wrap64 (1 * 2 ^ min (ji71).toNat 64)) = ji73 := (i64_w _).symm.trans hji73_
           have hji73x : (ji71) ≤ 64 → (wrap64 (1 * 2 ^ (ji71).toNat)) = ji73 := fun h_ => (i64_w _).symm.trans (hji73z h_)
           have HC74 := Aside0.mk H
           clear H
           obtain ⟨Ao75, co75, eo75⟩ := Kd.R_slice HO_344001.out
           subst eo75
           try go_wp2
           have n0_ := Aside0.mk (Kd.R_drew HO_4.out)
           have n1_ := Aside0.mk (Kd.R_drew HO_6.out)
           have n2_ := Aside0.mk (Kd.R_drew HO_344001.out)
           have n3_ := Aside0.mk (blk_drew BK343.out)
           have n4_ := Aside0.mk (below_drew1 HB.out)
           clear HO_4
           clear HO_6
           clear HO_344001
           clear BK343
           clear HB
           have HO_4 := n0_
           have HO_6 := n1_
           have HO_344001 := n2_
           have BK343 := n3_
           have HB := n4_
           clear n0_ n1_ n2_ n3_ n4_
           obtain ⟨Ao77, co77, eo77⟩ := Kd.R_slice HO_4.out
           (first | subst eo77 | (injection eo77 with f1_ f2_ f3_; have f4_ := f1_.symm; have f5_ := f3_.symm; clear f1_ f2_ f3_; subst f4_; subst f5_))
           have p352 : 0 ≤ (x8_3 : Int) := of_decide_eq_true Z11_14
           have q352 : x8_3 < (t336.length : Int) := of_decide_eq_true Z11_14
           obtain ⟨ad352, e352, hx352_0, hx352_1, hx352_2⟩ := at_T70 (Kd.R_reads' HO_4.out).2.2 x8_3 p352 q352
           cases e352
           replace p352 := eq_true p352
           replace q352 := eq_true q352
           refine start_ (n := 13) (S := fun w' => w'.cell? ⟨gb343, 0, none⟩ = some (.int .i64 x344000_3) ∧ w'.cell? ⟨gb343, 1, none⟩ = some (.slice Ao75 x344001_3.length co75) ∧ w'.cell? (ad352.add ((x8_3).toNat * 3)) = some (.int .i64 ((rd_T70 t336 x8_3).f0)) ∧ w'.cell? ⟨(ad352.add ((x8_3).toNat * 3)).block, (ad352.add ((x8_3).toNat * 3)).off + 1, none⟩ = some (.int .i64 ((rd_T70 t336 x8_3).f1)) ∧ w'.cell? ⟨(ad352.add ((x8_3).toNat * 3)).block, (ad352.add ((x8_3).toNat * 3)).off + 2, none⟩ = some (.int .i64 ((rd_T70 t336 x8_3).f2))) (ds := []) #[false, false, false, false, false, false, false, false, false, false, false, false, false] Z11_19 rfl rfl ⟨(blk_cell BK343.out 0).trans rfl, (blk_cell BK343.out 1).trans rfl, hx352_0, hx352_1, hx352_2⟩ (fun hHeld => ?_); refine with_tabW laws_FnFramesKept.tab15 laws_FnFramesKept.bits15 (fun HT_ HW_ => ?_)
           generalize wc.drew = w76 at HO_4 HO_6 HO_344001 BK343 HB hx352_0 hx352_1 hx352_2 hHeld ⊢
           refine pure_ (i := 1) (N := some 90) (v := ?_) (a' := ?_) #[false, true, false, false, false, false, false, false, false, false, false, false, false] rfl rfl (any_of HT_.out Z11_19) (fun _ _ _ h => h) (Or.inl ⟨by rfl, ?_⟩) ?_ ?_
           rotate_left
           ·intro w'
            go_simp
            with_reducible rfl
           rotate_left
           ·simp only [Act.put, List.setIfInBounds_toArray, List.set_cons_zero, List.set_cons_succ, i64_w, i32_w]
            rfl
           refine pure_ (i := 2) (N := some 91) (v := ?_) (a' := ?_) #[false, true, true, false, false, false, false, false, false, false, false, false, false] rfl rfl (any_of HT_.out Z11_19) (fun _ _ _ h => h) (Or.inl ⟨by rfl, ?_⟩) ?_ ?_
           rotate_left
           ·intro w'
            go_simp
            with_reducible rfl
           rotate_left
           ·simp only [Act.put, List.setIfInBounds_toArray, List.set_cons_zero, List.set_cons_succ, i64_w, i32_w]
            rfl
           refine pure_ (i := 3) (N := some 92) (v := ?_) (a' := ?_) #[false, true, true, true, false, false, false, false, false, false, false, false, false] rfl rfl (any_of HT_.out Z11_19) (fun _ _ _ h => h) (Or.inl ⟨by rfl, ?_⟩) ?_ ?_
           rotate_left
           ·intro w'
            go_simp
            with_reducible rfl
           rotate_left
           ·simp only [Act.put, List.setIfInBounds_toArray, List.set_cons_zero, List.set_cons_succ, i64_w, i32_w]
            rfl
           refine pure_ (i := 4) (N := some 93) (v := ?_) (a' := ?_) #[false, true, true, true, true, false, false, false, false, false, false, false, false] rfl rfl (any_of HT_.out Z11_19) (fun _ _ _ h => h) (Or.inl ⟨by rfl, ?_⟩) ?_ ?_
           rotate_left
           ·intro w'
            go_simp
            with_reducible rfl
           rotate_left
           ·simp only [Act.put, List.setIfInBounds_toArray, List.set_cons_zero, List.set_cons_succ, i64_w, i32_w]
            rfl
           refine take_ (i := 0) (N := some 89) (v := ?_) (a' := ?_) #[true, true, true, true, true, false, false, false, false, false, false, false, false] rfl rfl (take_ofW HT_.out HW_.out Z11_19) (fun _ _ _ h => h) (Or.inl ⟨by rfl, ?_⟩) hHeld ?_ ?_
           rotate_left
           ·rintro w' ⟨s0, s1, s2, s3, s4⟩
            go_simp
            with_reducible rfl
           rotate_left
           ·simp only [Act.put, List.setIfInBounds_toArray, List.set_cons_zero, List.set_cons_succ, i64_w, i32_w]
            rfl
           refine take_ (i := 5) (N := some 94) (v := ?_) (a' := ?_) #[true, true, true, true, true, true, false, false, false, false, false, false, false] rfl rfl (take_ofW HT_.out HW_.out Z11_19) (fun _ _ _ h => h) (Or.inl ⟨by rfl, ?_⟩) hHeld ?_ ?_
           rotate_left
           ·rintro w' ⟨s0, s1, s2, s3, s4⟩
            go_simp
            with_reducible rfl
           rotate_left
           ·simp only [Act.put, List.setIfInBounds_toArray, List.set_cons_zero, List.set_cons_succ, i64_w, i32_w]
            rfl
           refine join_ (σ := Value × Nat) 2 #[true, true, true, true, true, true, true, true, true, true, true, false, false] (fun s_ => [(95, .tuple #[.agg #[.int .i64 t353, s_.1], .int .i64 t357]), (9, .pointer (some ⟨s_.2, 0, none⟩)), (88, .tuple #[.agg #[.int .i64 t353, s_.1], .int .i64 t357]), (96, .agg #[.int .i64 t353, s_.1]), (97, .int .i64 t357)]) (fun s_ w' => (w'.cell? ⟨gb343, 0, none⟩ = some (.int .i64 x344000_3) ∧ w'.cell? ⟨gb343, 1, none⟩ = some (.slice Ao75 x344001_3.length co75) ∧ w'.cell? (ad352.add ((x8_3).toNat * 3)) = some (.int .i64 ((rd_T70 t336 x8_3).f0)) ∧ w'.cell? ⟨(ad352.add ((x8_3).toNat * 3)).block, (ad352.add ((x8_3).toNat * 3)).off + 1, none⟩ = some (.int .i64 ((rd_T70 t336 x8_3).f1)) ∧ w'.cell? ⟨(ad352.add ((x8_3).toNat * 3)).block, (ad352.add ((x8_3).toNat * 3)).off + 2, none⟩ = some (.int .i64 ((rd_T70 t336 x8_3).f2))) ∧ (Kd.R k73 73 w' w.heap.size (fun k_ => nb_ k_ Ao75 x344001_3.length co75 ∧ some k_ ≠ (u6 : Value).ownBlock) s_.1 t354) ∧ (Kd.R k73 73 w' w.heap.size (fun k_ => some k_ ≠ (s_.1 : Value).ownBlock ∧ some k_ ≠ (u6 : Value).ownBlock) (.slice Ao75 x344001_3.length co75) x344001_3) ∧ (Kd.R k70 70 w' w.heap.size (fun _ => True) (.slice (some ad352) t336.length co77) t336) ∧ (Kd.R k73 73 w' w.heap.size (fun k_ => some k_ ≠ (s_.1 : Value).ownBlock ∧ nb_ k_ Ao75 x344001_3.length co75) u6 x6_3) ∧ (w'.heap[gb343]? = some (.cells #[.int .i64 x344000_3, .slice Ao75 x344001_3.length co75] 50 (0, 0))) ∧ (w'.heap[s_.2]? = some (.cells #[.int .i64 0, .slice none 0 0] 50 (0, 0))) ∧ (w.heap.size ≤ s_.2) ∧ (w.heap.size ≤ s_.2) ∧ (gb343 ≠ s_.2) ∧ (s_.2 ≠ gb343) ∧ (Below w.heap.size w w')) ?_ ?_
           rotate_left
           ·
            refine ?L9
            letI iL9 : Nonempty (type_of% ?L9) := ⟨(by
             intro hCont
             refine two_ (i := 6) (j := 10) (Ni := some 95) (Nj := some 9) #[true, true, true, true, true, true, true, false, false, false, false, false, false] #[true, true, true, true, true, true, false, false, false, false, true, false, false] rfl rfl rfl rfl (two_of HT_.out Z11_19) Z11_64 Z11_64 (fun K hK => ?_) (fun K hK => ?_)
             ·skip
              refine goes_ Try.func45 Z11_19 rfl #[.agg #[.int .i64 x344000_3, .slice Ao75 x344001_3.length co75], .int .i64 ((rd_T70 t336 x8_3).f2)] (by rfl) rfl rfl Z11_11 ?_
              with_reducible refine (impl_FramesTake.calls kj33 x344000_3 _ _ x344001_3 ((rd_T70 t336 x8_3).f2) t353 t354 t357 _ ?side1 ?side2 A45.out).mono ?_
              (case side1 => exact Z11_12)
              (case side2 => exact (Kd.R_reads' HO_344001.out).2.1)
              rintro e w78 ⟨v355, rfl, ho0, hb⟩
              have HS2_ := (hb.cell (World.block_lt_of_cell? _ _ (hHeld.2.2.1))).trans (hHeld.2.2.1)
              have HS3_ := (hb.cell (World.block_lt_of_cell? _ _ (hHeld.2.2.2.1))).trans (hHeld.2.2.2.1)
              have HS4_ := (hb.cell (World.block_lt_of_cell? _ _ (hHeld.2.2.2.2))).trans (hHeld.2.2.2.2)
              refine ⟨_, rfl, ?_⟩
              have n0_ := Aside0.mk (Kd.R_below Z11_6 hb)
              have n1_ := Aside0.mk (Kd.R_elder' Z11_5 (Kd.R_base ho0) hb)
              have n2_ := Aside0.mk (Kd.R_elder' Z11_3 (Kd.R_base ho0) hb)
              have n3_ := Aside0.mk (Kd.R_lower (Kd.R_new' (Kd.R_new' ho0 (Kd.R_lt Z11_5)) (Kd.R_lt Z11_3)) (below_size Z11_2))
              have n4_ := Aside0.mk (blk_below (g := gb343) (o := .cells #[.int .i64 x344000_3, .slice Ao75 x344001_3.length co75] 50 (0, 0)) Z11_1 hb)
              have n5_ := Aside0.mk (below_step Z11_2 hb)
              clear HO_4
              clear HO_6
              clear HO_344001
              clear BK343
              clear HB
              have HO_4 := n0_
              have HO_6 := n1_
              have HO_344001 := n2_
              have HO356 := n3_
              have BK343 := n4_
              have HB := n5_
              clear n0_ n1_ n2_ n3_ n4_ n5_
              (try clear hb)
              (try clear hb2)
              (try clear hk)
              (try clear hi)
              (try clear ho0)
              refine hK.out _ _ ⟨(blk_cell BK343.out 0).trans rfl, (blk_cell BK343.out 1).trans rfl, HS2_, HS3_, HS4_⟩ (fun hHeld => ?_)
              clear hK K
              refine norm_ (a' := ?_) ?_ ?_
              rotate_left
              ·show Act.put _ (some 95) _ = _
               simp only [Act.put, List.setIfInBounds_toArray, List.set_cons_zero, List.set_cons_succ, i64_w, i32_w]
               rfl
              refine pure_ (i := 7) (N := some 88) (v := ?_) (a' := ?_) #[true, true, true, true, true, true, true, true, false, false, false, false, false] rfl rfl (any_of HT_.out Z11_19) (fun _ _ _ h => h) (Or.inl ⟨by rfl, ?_⟩) ?_ ?_
              rotate_left
              ·intro w'
               go_simp
               with_reducible rfl
              rotate_left
              ·simp only [Act.put, List.setIfInBounds_toArray, List.set_cons_zero, List.set_cons_succ, i64_w, i32_w]
               rfl
              refine pure_ (i := 8) (N := some 96) (v := ?_) (a' := ?_) #[true, true, true, true, true, true, true, true, true, false, false, false, false] rfl rfl (any_of HT_.out Z11_19) (fun _ _ _ h => h) (Or.inl ⟨by rfl, ?_⟩) ?_ ?_
              rotate_left
              ·intro w'
               go_simp
               with_reducible rfl
              rotate_left
              ·simp only [Act.put, List.setIfInBounds_toArray, List.set_cons_zero, List.set_cons_succ, i64_w, i32_w]
               rfl
              refine pure_ (i := 9) (N := some 97) (v := ?_) (a' := ?_) #[true, true, true, true, true, true, true, true, true, true, false, false, false] rfl rfl (any_of HT_.out Z11_19) (fun _ _ _ h => h) (Or.inl ⟨by rfl, ?_⟩) ?_ ?_
              rotate_left
              ·intro w'
               go_simp
               with_reducible rfl
              rotate_left
              ·simp only [Act.put, List.setIfInBounds_toArray, List.set_cons_zero, List.set_cons_succ, i64_w, i32_w]
               rfl
              refine one_ (i := 10) (N := some 9) #[true, true, true, true, true, true, true, true, true, true, true, false, false] rfl rfl (one_of HT_.out Z11_19) Z11_64 (fun K hK => ?_)
              refine box_step ?hg (N := 9) ?hd (cs := #[.int .i64 0, .slice none 0 0]) (t := 50) ?hr ?_; (case hd => rfl); (case hg => rfl); (case hr => exact Z11_34)
              intro gb358 hg w79 hbox hb
              have HS2_ := (hb.cell (World.block_lt_of_cell? _ _ (hHeld.2.2.1))).trans (hHeld.2.2.1)
              have HS3_ := (hb.cell (World.block_lt_of_cell? _ _ (hHeld.2.2.2.1))).trans (hHeld.2.2.2.1)
              have HS4_ := (hb.cell (World.block_lt_of_cell? _ _ (hHeld.2.2.2.2))).trans (hHeld.2.2.2.2)
              have n0_ := Aside0.mk (Kd.R_below Z11_6 hb)
              have n1_ := Aside0.mk (Kd.R_below Z11_5 hb)
              have n2_ := Aside0.mk (Kd.R_below Z11_3 hb)
              have n3_ := Aside0.mk (Kd.R_below Z11_17 hb)
              have n4_ := Aside0.mk (blk_below (g := gb343) (o := .cells #[.int .i64 x344000_3, .slice Ao75 x344001_3.length co75] 50 (0, 0)) Z11_1 hb)
              have n5_ := Aside0.mk (below_step Z11_2 hb)
              have n6_ := Aside0.mk (hbox)
              have n7_ := Aside0.mk ((Z11_47 : w.heap.size ≤ gb358))
              have n8_ := Aside0.mk ((Z11_47 : w.heap.size ≤ gb358))
              have n9_ := Aside0.mk ((Z11_45 : gb343 ≠ gb358))
              have n10_ := Aside0.mk ((Z11_46 : gb358 ≠ gb343))
              clear HO_4
              clear HO_6
              clear HO_344001
              clear HO356
              clear BK343
              clear HB
              have HO_4 := n0_
              have HO_6 := n1_
              have HO_344001 := n2_
              have HO356 := n3_
              have BK343 := n4_
              have HB := n5_
              have BK358 := n6_
              have GW358 := n7_
              have GE358 := n8_
              have NB343_358 := n9_
              have NB358_343 := n10_
              clear n0_ n1_ n2_ n3_ n4_ n5_ n6_ n7_ n8_ n9_ n10_
              clear hb hbox hg
              refine hK.out _ _ ⟨(blk_cell BK343.out 0).trans rfl, (blk_cell BK343.out 1).trans rfl, HS2_, HS3_, HS4_⟩ (fun hHeld => ?_)
              clear hK K
              refine norm_ (a' := ?_) ?_ ?_
              rotate_left
              ·show Act.put _ (some 9) _ = _
               simp only [Act.put, List.setIfInBounds_toArray, List.set_cons_zero, List.set_cons_succ, i64_w, i32_w]
               rfl
              exact norm_ Z11_23 (hCont (v355, gb358) _ ⟨hHeld, Z11_39, Z11_21, Z11_6, Z11_26, Z11_1, Z11_10, GW358.out, GE358.out, NB343_358.out, NB358_343.out, Z11_4⟩)
             skip
             refine box_step ?hg (N := 9) ?hd (cs := #[.int .i64 0, .slice none 0 0]) (t := 50) ?hr ?_; (case hd => rfl); (case hg => rfl); (case hr => exact Z11_34)
             intro gb358 hg w78 hbox hb
             have HS2_ := (hb.cell (World.block_lt_of_cell? _ _ (hHeld.2.2.1))).trans (hHeld.2.2.1)
             have HS3_ := (hb.cell (World.block_lt_of_cell? _ _ (hHeld.2.2.2.1))).trans (hHeld.2.2.2.1)
             have HS4_ := (hb.cell (World.block_lt_of_cell? _ _ (hHeld.2.2.2.2))).trans (hHeld.2.2.2.2)
             have n0_ := Aside0.mk (Kd.R_below Z11_6 hb)
             have n1_ := Aside0.mk (Kd.R_below Z11_5 hb)
             have n2_ := Aside0.mk (Kd.R_below Z11_3 hb)
             have n3_ := Aside0.mk (blk_below (g := gb343) (o := .cells #[.int .i64 x344000_3, .slice Ao75 x344001_3.length co75] 50 (0, 0)) Z11_1 hb)
             have n4_ := Aside0.mk (below_step Z11_2 hb)
             have n5_ := Aside0.mk (hbox)
             have n6_ := Aside0.mk ((Z11_47 : w.heap.size ≤ gb358))
             have n7_ := Aside0.mk ((Z11_47 : w.heap.size ≤ gb358))
             have n8_ := Aside0.mk ((Z11_45 : gb343 ≠ gb358))
             have n9_ := Aside0.mk ((Z11_46 : gb358 ≠ gb343))
             clear HO_4
             clear HO_6
             clear HO_344001
             clear BK343
             clear HB
             have HO_4 := n0_
             have HO_6 := n1_
             have HO_344001 := n2_
             have BK343 := n3_
             have HB := n4_
             have BK358 := n5_
             have GW358 := n6_
             have GE358 := n7_
             have NB343_358 := n8_
             have NB358_343 := n9_
             clear n0_ n1_ n2_ n3_ n4_ n5_ n6_ n7_ n8_ n9_
             clear hb hbox hg
             refine hK.out _ _ ⟨(blk_cell BK343.out 0).trans rfl, (blk_cell BK343.out 1).trans rfl, HS2_, HS3_, HS4_⟩ (fun hHeld => ?_)
             clear hK K
             refine norm_ (a' := ?_) ?_ ?_
             rotate_left
             ·show Act.put _ (some 9) _ = _
              simp only [Act.put, List.setIfInBounds_toArray, List.set_cons_zero, List.set_cons_succ, i64_w, i32_w]
              rfl
             refine one_ (i := 6) (N := some 95) #[true, true, true, true, true, true, true, false, false, false, true, false, false] rfl rfl (one_of HT_.out Z11_19) Z11_64 (fun K hK => ?_)
             refine goes_ Try.func45 Z11_19 rfl #[.agg #[.int .i64 x344000_3, .slice Ao75 x344001_3.length co75], .int .i64 ((rd_T70 t336 x8_3).f2)] (by rfl) rfl rfl Z11_11 ?_
             with_reducible refine (impl_FramesTake.calls kj33 x344000_3 _ _ x344001_3 ((rd_T70 t336 x8_3).f2) t353 t354 t357 _ ?side1 ?side2 A45.out).mono ?_
             (case side1 => exact Z11_12)
             (case side2 => exact (Kd.R_reads' HO_344001.out).2.1)
             rintro e w79 ⟨v355, rfl, ho0, hb⟩
             have HS2_ := (hb.cell (World.block_lt_of_cell? _ _ (hHeld.2.2.1))).trans (hHeld.2.2.1)
             have HS3_ := (hb.cell (World.block_lt_of_cell? _ _ (hHeld.2.2.2.1))).trans (hHeld.2.2.2.1)
             have HS4_ := (hb.cell (World.block_lt_of_cell? _ _ (hHeld.2.2.2.2))).trans (hHeld.2.2.2.2)
             refine ⟨_, rfl, ?_⟩
             have n0_ := Aside0.mk (Kd.R_below Z11_6 hb)
             have n1_ := Aside0.mk (Kd.R_elder' Z11_5 (Kd.R_base ho0) hb)
             have n2_ := Aside0.mk (Kd.R_elder' Z11_3 (Kd.R_base ho0) hb)
             have n3_ := Aside0.mk (Kd.R_lower (Kd.R_new' (Kd.R_new' ho0 (Kd.R_lt Z11_5)) (Kd.R_lt Z11_3)) (below_size Z11_4))
             have n4_ := Aside0.mk (blk_below (g := gb343) (o := .cells #[.int .i64 x344000_3, .slice Ao75 x344001_3.length co75] 50 (0, 0)) Z11_1 hb)
             have n5_ := Aside0.mk (blk_below (g := gb358) (o := .cells #[.int .i64 0, .slice none 0 0] 50 (0, 0)) Z11_10 hb)
             have n6_ := Aside0.mk (below_step Z11_4 hb)
             clear HO_4
             clear HO_6
             clear HO_344001
             clear BK343
             clear BK358
             clear HB
             have HO_4 := n0_
             have HO_6 := n1_
             have HO_344001 := n2_
             have HO356 := n3_
             have BK343 := n4_
             have BK358 := n5_
             have HB := n6_
             clear n0_ n1_ n2_ n3_ n4_ n5_ n6_
             (try clear hb)
             (try clear hb2)
             (try clear hk)
             (try clear hi)
             (try clear ho0)
             refine hK.out _ _ ⟨(blk_cell BK343.out 0).trans rfl, (blk_cell BK343.out 1).trans rfl, HS2_, HS3_, HS4_⟩ (fun hHeld => ?_)
             clear hK K
             refine norm_ (a' := ?_) ?_ ?_
             rotate_left
             ·show Act.put _ (some 95) _ = _
              simp only [Act.put, List.setIfInBounds_toArray, List.set_cons_zero, List.set_cons_succ, i64_w, i32_w]
              rfl
             refine pure_ (i := 7) (N := some 88) (v := ?_) (a' := ?_) #[true, true, true, true, true, true, true, true, false, false, true, false, false] rfl rfl (any_of HT_.out Z11_19) (fun _ _ _ h => h) (Or.inl ⟨by rfl, ?_⟩) ?_ ?_
             rotate_left
             ·intro w'
              go_simp
              with_reducible rfl
             rotate_left
             ·simp only [Act.put, List.setIfInBounds_toArray, List.set_cons_zero, List.set_cons_succ, i64_w, i32_w]
              rfl
             refine pure_ (i := 8) (N := some 96) (v := ?_) (a' := ?_) #[true, true, true, true, true, true, true, true, true, false, true, false, false] rfl rfl (any_of HT_.out Z11_19) (fun _ _ _ h => h) (Or.inl ⟨by rfl, ?_⟩) ?_ ?_
             rotate_left
             ·intro w'
              go_simp
              with_reducible rfl
             rotate_left
             ·simp only [Act.put, List.setIfInBounds_toArray, List.set_cons_zero, List.set_cons_succ, i64_w, i32_w]
              rfl
             refine pure_ (i := 9) (N := some 97) (v := ?_) (a' := ?_) #[true, true, true, true, true, true, true, true, true, true, true, false, false] rfl rfl (any_of HT_.out Z11_19) (fun _ _ _ h => h) (Or.inl ⟨by rfl, ?_⟩) ?_ ?_
             rotate_left
             ·intro w'
              go_simp
              with_reducible rfl
             rotate_left
             ·simp only [Act.put, List.setIfInBounds_toArray, List.set_cons_zero, List.set_cons_succ, i64_w, i32_w]
              rfl
             exact norm_ Z11_23 (hCont (v355, gb358) _ ⟨hHeld, Z11_39, Z11_21, Z11_6, Z11_26, Z11_1, Z11_10, GW358.out, GE358.out, NB343_358.out, NB358_343.out, Z11_4⟩))⟩
            exact NE_ (inferInstanceAs (Nonempty (type_of% ?L9)))
           rintro ⟨v355, gb358⟩ w80 ⟨hS_, h0_, h1_, h2_, h3_, h4_, h5_, h6_, h7_, h8_, h9_, h10_⟩
           have n0_ : Aside0 (Kd.R k73 73 w80 w.heap.size (fun k_ => nb_ k_ Ao75 x344001_3.length co75 ∧ some k_ ≠ (u6 : Value).ownBlock) v355 t354) := ⟨h0_⟩
           have n1_ : Aside0 (Kd.R k73 73 w80 w.heap.size (fun k_ => some k_ ≠ (v355 : Value).ownBlock ∧ some k_ ≠ (u6 : Value).ownBlock) (.slice Ao75 x344001_3.length co75) x344001_3) := ⟨h1_⟩
           have n2_ : Aside0 (Kd.R k70 70 w80 w.heap.size (fun _ => True) (.slice (some ad352) t336.length co77) t336) := ⟨h2_⟩
           have n3_ : Aside0 (Kd.R k73 73 w80 w.heap.size (fun k_ => some k_ ≠ (v355 : Value).ownBlock ∧ nb_ k_ Ao75 x344001_3.length co75) u6 x6_3) := ⟨h3_⟩
           have n4_ : Aside0 (w80.heap[gb343]? = some (.cells #[.int .i64 x344000_3, .slice Ao75 x344001_3.length co75] 50 (0, 0))) := ⟨h4_⟩
           have n5_ : Aside0 (w80.heap[gb358]? = some (.cells #[.int .i64 0, .slice none 0 0] 50 (0, 0))) := ⟨h5_⟩
           have n6_ : Aside0 (w.heap.size ≤ gb358) := ⟨h6_⟩
           have n7_ : Aside0 (w.heap.size ≤ gb358) := ⟨h7_⟩
           have n8_ : Aside0 (gb343 ≠ gb358) := ⟨h8_⟩
           have n9_ : Aside0 (gb358 ≠ gb343) := ⟨h9_⟩
           have n10_ : Aside0 (Below w.heap.size w w80) := ⟨h10_⟩
           clear HO_4
           clear HO_6
           clear HO_344001
           clear BK343
           clear HB
           clear h0_ h1_ h2_ h3_ h4_ h5_ h6_ h7_ h8_ h9_ h10_
           have HO356 := n0_
           have HO_344001 := n1_
           have HO_4 := n2_
           have HO_6 := n3_
           have BK343 := n4_
           have BK358 := n5_
           have GW358 := n6_
           have GE358 := n7_
           have NB343_358 := n8_
           have NB358_343 := n9_
           have HB := n10_
           clear n0_ n1_ n2_ n3_ n4_ n5_ n6_ n7_ n8_ n9_ n10_
           have hHeld : w80.cell? ⟨gb343, 0, none⟩ = some (.int .i64 x344000_3) ∧ w80.cell? ⟨gb343, 1, none⟩ = some (.slice Ao75 x344001_3.length co75) ∧ w80.cell? (ad352.add ((x8_3).toNat * 3)) = some (.int .i64 ((rd_T70 t336 x8_3).f0)) ∧ w80.cell? ⟨(ad352.add ((x8_3).toNat * 3)).block, (ad352.add ((x8_3).toNat * 3)).off + 1, none⟩ = some (.int .i64 ((rd_T70 t336 x8_3).f1)) ∧ w80.cell? ⟨(ad352.add ((x8_3).toNat * 3)).block, (ad352.add ((x8_3).toNat * 3)).off + 2, none⟩ = some (.int .i64 ((rd_T70 t336 x8_3).f2)) := hS_
           obtain ⟨Ao82, co82, eo82⟩ := Kd.R_slice HO356.out
           (first | subst eo82 | (injection eo82 with f1_ f2_ f3_; have f4_ := f1_.symm; have f5_ := f3_.symm; clear f1_ f2_ f3_; subst f4_; subst f5_))
           refine norm_ (a' := ?_) ?_ ?_
           rotate_left
           ·simp only [putAll, Act.put, List.setIfInBounds_toArray, List.set_cons_zero, List.set_cons_succ]
            rfl
           refine one_ (i := 11) (N := none) #[true, true, true, true, true, true, true, true, true, true, true, true, false] rfl rfl (one_of HT_.out Z11_19) Z11_64 (fun K hK => ?_)
           have hs81 : w80.cell? ⟨gb358, 0, none⟩ = some (.int .i64 0) := (blk_cell BK358.out 0).trans rfl
           have hfs81 := blk_frozen BK358.out 0
           have hns81_0 := NB343_358.out
           have hms81_0 := NB358_343.out
           have hs83 : w80.cell? ⟨gb358, 1, none⟩ = some (.slice none 0 0) := (blk_cell BK358.out 1).trans rfl
           have hfs83 := blk_frozen BK358.out 1
           have hns83_0 := NB343_358.out
           have hms83_0 := NB358_343.out
           refine skip_ (w1 := ?_) (by rfl) rfl ?_ ?_
           rotate_left
           ·go_simp
            rfl
           refine hK.out _ _ ⟨((cell_far (p := ⟨gb358, _, none⟩) NB343_358.out _).trans (((cell_far (p := ⟨gb358, _, none⟩) NB343_358.out _).trans (hHeld.1)))), ((cell_far (p := ⟨gb358, _, none⟩) NB343_358.out _).trans (((cell_far (p := ⟨gb358, _, none⟩) NB343_358.out _).trans (hHeld.2.1)))), ((cell_far (p := ⟨gb358, _, none⟩) Z11_8 _).trans (((cell_far (p := ⟨gb358, _, none⟩) Z11_8 _).trans (hHeld.2.2.1)))), ((cell_far (p := ⟨gb358, _, none⟩) Z11_8 _).trans (((cell_far (p := ⟨gb358, _, none⟩) Z11_8 _).trans (hHeld.2.2.2.1)))), ((cell_far (p := ⟨gb358, _, none⟩) Z11_8 _).trans (((cell_far (p := ⟨gb358, _, none⟩) Z11_8 _).trans (hHeld.2.2.2.2))))⟩ (fun hHeld => ?_)
           clear hK K
           refine pure_ (i := 12) (N := some 10) (v := ?_) (a' := ?_) #[true, true, true, true, true, true, true, true, true, true, true, true, true] rfl rfl (any_of HT_.out Z11_19) (fun _ _ _ h => h) (Or.inl ⟨by rfl, ?_⟩) ?_ ?_
           rotate_left
           ·intro w'
            go_simp
            with_reducible rfl
           rotate_left
           ·simp only [Act.put, List.setIfInBounds_toArray, List.set_cons_zero, List.set_cons_succ, i64_w, i32_w]
            rfl
           refine done_ (done_of HT_.out Z11_19) ?_
           try go_wp2
           have n0_ : Aside0 (Kd.R k70 70 ((w80.setCell ⟨gb358, 0, none⟩ (.int .i64 t353)).setCell ⟨gb358, 1, none⟩ (.slice Ao82 t354.length co82)) w.heap.size (fun _ => True) (.slice (some ad352) t336.length co77) t336) := ⟨by (with_reducible repeat (first | apply Kd.R_alloc | apply Kd.R_drewN | apply Kd.R_drew)); exact Kd.R_mono (Kd.R_far (p := ⟨gb358, 1, none⟩) (Kd.R_far (p := ⟨gb358, 0, none⟩) (Kd.R_types HO_4.out BK358.out Z11_64) (fun _ hk => hk.2) (.int .i64 t353)) (fun _ hk => hk.2) (.slice Ao82 t354.length co82)) (fun _ hk => trivial)⟩
           have n1_ : Aside0 (Kd.R k73 73 ((w80.setCell ⟨gb358, 0, none⟩ (.int .i64 t353)).setCell ⟨gb358, 1, none⟩ (.slice Ao82 t354.length co82)) w.heap.size (fun k_ => nb_ k_ Ao75 x344001_3.length co75 ∧ nb_ k_ Ao82 t354.length co82) u6 x6_3) := ⟨by (with_reducible repeat (first | apply Kd.R_alloc | apply Kd.R_drewN | apply Kd.R_drew)); exact Kd.R_mono (Kd.R_far (p := ⟨gb358, 1, none⟩) (Kd.R_far (p := ⟨gb358, 0, none⟩) (Kd.R_types HO_6.out BK358.out Z11_64) (fun _ hk => hk.2) (.int .i64 t353)) (fun _ hk => hk.2) (.slice Ao82 t354.length co82)) (fun _ hk => ⟨hk.1.2, hk.1.1⟩)⟩
           have n2_ : Aside0 (Kd.R k73 73 ((w80.setCell ⟨gb358, 0, none⟩ (.int .i64 t353)).setCell ⟨gb358, 1, none⟩ (.slice Ao82 t354.length co82)) w.heap.size (fun k_ => some k_ ≠ (u6 : Value).ownBlock ∧ nb_ k_ Ao82 t354.length co82) (.slice Ao75 x344001_3.length co75) x344001_3) := ⟨by (with_reducible repeat (first | apply Kd.R_alloc | apply Kd.R_drewN | apply Kd.R_drew)); exact Kd.R_mono (Kd.R_far (p := ⟨gb358, 1, none⟩) (Kd.R_far (p := ⟨gb358, 0, none⟩) (Kd.R_types HO_344001.out BK358.out Z11_64) (fun _ hk => hk.2) (.int .i64 t353)) (fun _ hk => hk.2) (.slice Ao82 t354.length co82)) (fun _ hk => ⟨hk.1.2, hk.1.1⟩)⟩
           have n3_ : Aside0 (Kd.R k73 73 ((w80.setCell ⟨gb358, 0, none⟩ (.int .i64 t353)).setCell ⟨gb358, 1, none⟩ (.slice Ao82 t354.length co82)) w.heap.size (fun k_ => some k_ ≠ (u6 : Value).ownBlock ∧ nb_ k_ Ao75 x344001_3.length co75) (.slice Ao82 t354.length co82) t354) := ⟨by (with_reducible repeat (first | apply Kd.R_alloc | apply Kd.R_drewN | apply Kd.R_drew)); exact Kd.R_mono (Kd.R_far (p := ⟨gb358, 1, none⟩) (Kd.R_far (p := ⟨gb358, 0, none⟩) (Kd.R_types HO356.out BK358.out Z11_64) (fun _ hk => hk.2) (.int .i64 t353)) (fun _ hk => hk.2) (.slice Ao82 t354.length co82)) (fun _ hk => ⟨hk.1.2, hk.1.1⟩)⟩
           have n4_ : Aside0 (((w80.setCell ⟨gb358, 0, none⟩ (.int .i64 t353)).setCell ⟨gb358, 1, none⟩ (.slice Ao82 t354.length co82)).heap[gb343]? = some (.cells #[.int .i64 x344000_3, .slice Ao75 x344001_3.length co75] 50 (0, 0))) := ⟨Z11_48⟩
           have n5_ : Aside0 (((w80.setCell ⟨gb358, 0, none⟩ (.int .i64 t353)).setCell ⟨gb358, 1, none⟩ (.slice Ao82 t354.length co82)).heap[gb358]? = some (.cells #[.int .i64 t353, .slice Ao82 t354.length co82] 50 (0, 0))) := ⟨Z11_41⟩
           have n6_ : Aside0 (Below w.heap.size w ((w80.setCell ⟨gb358, 0, none⟩ (.int .i64 t353)).setCell ⟨gb358, 1, none⟩ (.slice Ao82 t354.length co82))) := ⟨Z11_4⟩
           (try clear HO_4)
           (try clear HO_6)
           (try clear HO_344001)
           (try clear HO356)
           (try clear BK343)
           (try clear BK358)
           (try clear HB)
           generalize ((w80.setCell ⟨gb358, 0, none⟩ (.int .i64 t353)).setCell ⟨gb358, 1, none⟩ (.slice Ao82 t354.length co82)) = w84 at n0_ n1_ n2_ n3_ n4_ n5_ n6_ ⊢
           have HO_4 := n0_
           have HO_6 := n1_
           have HO_344001 := n2_
           have HO356 := n3_
           have BK343 := n4_
           have BK358 := n5_
           have HB := n6_
           clear n0_ n1_ n2_ n3_ n4_ n5_ n6_
           have n0_ := Aside0.mk (Kd.R_drew HO_4.out)
           have n1_ := Aside0.mk (Kd.R_drew HO_6.out)
           have n2_ := Aside0.mk (Kd.R_drew HO_344001.out)
           have n3_ := Aside0.mk (Kd.R_drew HO356.out)
           have n4_ := Aside0.mk (blk_drew BK343.out)
           have n5_ := Aside0.mk (blk_drew BK358.out)
           have n6_ := Aside0.mk (below_drew1 HB.out)
           clear HO_4
           clear HO_6
           clear HO_344001
           clear HO356
           clear BK343
           clear BK358
           clear HB
           have HO_4 := n0_
           have HO_6 := n1_
           have HO_344001 := n2_
           have HO356 := n3_
           have BK343 := n4_
           have BK358 := n5_
           have HB := n6_
           clear n0_ n1_ n2_ n3_ n4_ n5_ n6_
           have p359 : 0 ≤ (x8_3 : Int) := of_decide_eq_true Z11_14
           have q359 : x8_3 < (t336.length : Int) := of_decide_eq_true Z11_14
           obtain ⟨ad359, e359, hx359_0, hx359_1, hx359_2⟩ := at_T70 (Kd.R_reads' HO_4.out).2.2 x8_3 p359 q359
           obtain rfl : ad352 = ad359 := (by injection e359)
           replace p359 := eq_true p359
           replace q359 := eq_true q359
           refine start_ (n := 13) (S := fun w' => w'.cell? ⟨gb343, 0, none⟩ = some (.int .i64 x344000_3) ∧ w'.cell? ⟨gb343, 1, none⟩ = some (.slice Ao75 x344001_3.length co75) ∧ w'.cell? (ad352.add ((x8_3).toNat * 3)) = some (.int .i64 ((rd_T70 t336 x8_3).f0)) ∧ w'.cell? ⟨(ad352.add ((x8_3).toNat * 3)).block, (ad352.add ((x8_3).toNat * 3)).off + 1, none⟩ = some (.int .i64 ((rd_T70 t336 x8_3).f1)) ∧ w'.cell? ⟨(ad352.add ((x8_3).toNat * 3)).block, (ad352.add ((x8_3).toNat * 3)).off + 2, none⟩ = some (.int .i64 ((rd_T70 t336 x8_3).f2))) (ds := []) #[false, false, false, false, false, false, false, false, false, false, false, false, false] Z11_19 rfl rfl ⟨(blk_cell BK343.out 0).trans rfl, (blk_cell BK343.out 1).trans rfl, hx359_0, hx359_1, hx359_2⟩ (fun hHeld => ?_); refine with_tabW laws_FnFramesKept.tab16 laws_FnFramesKept.bits16 (fun HT_ HW_ => ?_)
           generalize w84.drew = w85 at HO_4 HO_6 HO_344001 HO356 BK343 BK358 HB hx359_0 hx359_1 hx359_2 hHeld ⊢
           refine pure_ (i := 1) (N := some 100) (v := ?_) (a' := ?_) #[false, true, false, false, false, false, false, false, false, false, false, false, false] rfl rfl (any_of HT_.out Z11_19) (fun _ _ _ h => h) (Or.inl ⟨by rfl, ?_⟩) ?_ ?_
           rotate_left
           ·intro w'
            go_simp
            with_reducible rfl
           rotate_left
           ·simp only [Act.put, List.setIfInBounds_toArray, List.set_cons_zero, List.set_cons_succ, i64_w, i32_w]
            rfl
           refine pure_ (i := 2) (N := some 101) (v := ?_) (a' := ?_) #[false, true, true, false, false, false, false, false, false, false, false, false, false] rfl rfl (any_of HT_.out Z11_19) (fun _ _ _ h => h) (Or.inl ⟨by rfl, ?_⟩) ?_ ?_
           rotate_left
           ·intro w'
            go_simp
            with_reducible rfl
           rotate_left
           ·simp only [Act.put, List.setIfInBounds_toArray, List.set_cons_zero, List.set_cons_succ, i64_w, i32_w]
            rfl
           refine pure_ (i := 3) (N := some 102) (v := ?_) (a' := ?_) #[false, true, true, true, false, false, false, false, false, false, false, false, false] rfl rfl (any_of HT_.out Z11_19) (fun _ _ _ h => h) (Or.inl ⟨by rfl, ?_⟩) ?_ ?_
           rotate_left
           ·intro w'
            go_simp
            with_reducible rfl
           rotate_left
           ·simp only [Act.put, List.setIfInBounds_toArray, List.set_cons_zero, List.set_cons_succ, i64_w, i32_w]
            rfl
           refine pure_ (i := 4) (N := some 103) (v := ?_) (a' := ?_) #[false, true, true, true, true, false, false, false, false, false, false, false, false] rfl rfl (any_of HT_.out Z11_19) (fun _ _ _ h => h) (Or.inl ⟨by rfl, ?_⟩) ?_ ?_
           rotate_left
           ·intro w'
            go_simp
            with_reducible rfl
           rotate_left
           ·simp only [Act.put, List.setIfInBounds_toArray, List.set_cons_zero, List.set_cons_succ, i64_w, i32_w]
            rfl
           refine take_ (i := 0) (N := some 99) (v := ?_) (a' := ?_) #[true, true, true, true, true, false, false, false, false, false, false, false, false] rfl rfl (take_ofW HT_.out HW_.out Z11_19) (fun _ _ _ h => h) (Or.inl ⟨by rfl, ?_⟩) hHeld ?_ ?_
           rotate_left
           ·rintro w' ⟨s0, s1, s2, s3, s4⟩
            go_simp
            with_reducible rfl
           rotate_left
           ·simp only [Act.put, List.setIfInBounds_toArray, List.set_cons_zero, List.set_cons_succ, i64_w, i32_w]
            rfl
           refine take_ (i := 5) (N := some 104) (v := ?_) (a' := ?_) #[true, true, true, true, true, true, false, false, false, false, false, false, false] rfl rfl (take_ofW HT_.out HW_.out Z11_19) (fun _ _ _ h => h) (Or.inl ⟨by rfl, ?_⟩) hHeld ?_ ?_
           rotate_left
           ·rintro w' ⟨s0, s1, s2, s3, s4⟩
            go_simp
            with_reducible rfl
           rotate_left
           ·simp only [Act.put, List.setIfInBounds_toArray, List.set_cons_zero, List.set_cons_succ, i64_w, i32_w]
            rfl
           refine join_ (σ := Value × Nat) 2 #[true, true, true, true, true, true, true, true, true, true, true, false, false] (fun s_ => [(105, .tuple #[.agg #[.int .i64 t360, s_.1], .int .i64 t364]), (11, .pointer (some ⟨s_.2, 0, none⟩)), (98, .tuple #[.agg #[.int .i64 t360, s_.1], .int .i64 t364]), (106, .agg #[.int .i64 t360, s_.1]), (107, .int .i64 t364)]) (fun s_ w' => (w'.cell? ⟨gb343, 0, none⟩ = some (.int .i64 x344000_3) ∧ w'.cell? ⟨gb343, 1, none⟩ = some (.slice Ao75 x344001_3.length co75) ∧ w'.cell? (ad352.add ((x8_3).toNat * 3)) = some (.int .i64 ((rd_T70 t336 x8_3).f0)) ∧ w'.cell? ⟨(ad352.add ((x8_3).toNat * 3)).block, (ad352.add ((x8_3).toNat * 3)).off + 1, none⟩ = some (.int .i64 ((rd_T70 t336 x8_3).f1)) ∧ w'.cell? ⟨(ad352.add ((x8_3).toNat * 3)).block, (ad352.add ((x8_3).toNat * 3)).off + 2, none⟩ = some (.int .i64 ((rd_T70 t336 x8_3).f2))) ∧ (Kd.R k73 73 w' w.heap.size (fun k_ => some k_ ≠ (s_.1 : Value).ownBlock ∧ nb_ k_ Ao75 x344001_3.length co75 ∧ some k_ ≠ (u6 : Value).ownBlock) (.slice Ao82 t354.length co82) t354) ∧ (Kd.R k73 73 w' w.heap.size (fun k_ => nb_ k_ Ao82 t354.length co82 ∧ nb_ k_ Ao75 x344001_3.length co75 ∧ some k_ ≠ (u6 : Value).ownBlock) s_.1 t361) ∧ (Kd.R k73 73 w' w.heap.size (fun k_ => nb_ k_ Ao82 t354.length co82 ∧ some k_ ≠ (s_.1 : Value).ownBlock ∧ some k_ ≠ (u6 : Value).ownBlock) (.slice Ao75 x344001_3.length co75) x344001_3) ∧ (Kd.R k70 70 w' w.heap.size (fun _ => True) (.slice (some ad352) t336.length co77) t336) ∧ (Kd.R k73 73 w' w.heap.size (fun k_ => nb_ k_ Ao82 t354.length co82 ∧ some k_ ≠ (s_.1 : Value).ownBlock ∧ nb_ k_ Ao75 x344001_3.length co75) u6 x6_3) ∧ (w'.heap[gb343]? = some (.cells #[.int .i64 x344000_3, .slice Ao75 x344001_3.length co75] 50 (0, 0))) ∧ (w'.heap[gb358]? = some (.cells #[.int .i64 t353, .slice Ao82 t354.length co82] 50 (0, 0))) ∧ (w'.heap[s_.2]? = some (.cells #[.int .i64 0, .slice none 0 0] 50 (0, 0))) ∧ (w.heap.size ≤ s_.2) ∧ (w.heap.size ≤ s_.2) ∧ (gb343 ≠ s_.2) ∧ (s_.2 ≠ gb343) ∧ (gb358 ≠ s_.2) ∧ (s_.2 ≠ gb358) ∧ (Below w.heap.size w w')) ?_ ?_
           rotate_left
           ·
            refine ?L10
            letI iL10 : Nonempty (type_of% ?L10) := ⟨(by
             intro hCont
             refine two_ (i := 6) (j := 10) (Ni := some 105) (Nj := some 11) #[true, true, true, true, true, true, true, false, false, false, false, false, false] #[true, true, true, true, true, true, false, false, false, false, true, false, false] rfl rfl rfl rfl (two_of HT_.out Z11_19) Z11_64 Z11_64 (fun K hK => ?_) (fun K hK => ?_)
             ·skip
              refine goes_ Try.func44 Z11_19 rfl #[.agg #[.int .i64 x344000_3, .slice Ao75 x344001_3.length co75], .int .i64 ((rd_T70 t336 x8_3).f2)] (by rfl) rfl rfl Z11_11 ?_
              with_reducible refine (spec_FramesTake.calls kj33 x344000_3 _ _ x344001_3 ((rd_T70 t336 x8_3).f2) t360 t361 t364 _ ?side1 ?side2 A46.out).mono ?_
              (case side1 => exact Z11_12)
              (case side2 => exact (Kd.R_reads' HO_344001.out).2.1)
              rintro e w86 ⟨v362, rfl, ho0, hb⟩
              have HS2_ := (hb.cell (World.block_lt_of_cell? _ _ (hHeld.2.2.1))).trans (hHeld.2.2.1)
              have HS3_ := (hb.cell (World.block_lt_of_cell? _ _ (hHeld.2.2.2.1))).trans (hHeld.2.2.2.1)
              have HS4_ := (hb.cell (World.block_lt_of_cell? _ _ (hHeld.2.2.2.2))).trans (hHeld.2.2.2.2)
              refine ⟨_, rfl, ?_⟩
              have n0_ := Aside0.mk (Kd.R_below Z11_6 hb)
              have n1_ := Aside0.mk (Kd.R_elder' Z11_5 (Kd.R_base ho0) hb)
              have n2_ := Aside0.mk (Kd.R_elder' Z11_3 (Kd.R_base ho0) hb)
              have n3_ := Aside0.mk (Kd.R_elder' Z11_17 (Kd.R_base ho0) hb)
              have n4_ := Aside0.mk (Kd.R_lower (Kd.R_new' (Kd.R_new' (Kd.R_new' ho0 (Kd.R_lt Z11_5)) (Kd.R_lt Z11_3)) (Kd.R_lt Z11_17)) (below_size Z11_4))
              have n5_ := Aside0.mk (blk_below (g := gb343) (o := .cells #[.int .i64 x344000_3, .slice Ao75 x344001_3.length co75] 50 (0, 0)) Z11_1 hb)
              have n6_ := Aside0.mk (blk_below (g := gb358) (o := .cells #[.int .i64 t353, .slice Ao82 t354.length co82] 50 (0, 0)) Z11_10 hb)
              have n7_ := Aside0.mk (below_step Z11_4 hb)
              clear HO_4
              clear HO_6
              clear HO_344001
              clear HO356
              clear BK343
              clear BK358
              clear HB
              have HO_4 := n0_
              have HO_6 := n1_
              have HO_344001 := n2_
              have HO356 := n3_
              have HO363 := n4_
              have BK343 := n5_
              have BK358 := n6_
              have HB := n7_
              clear n0_ n1_ n2_ n3_ n4_ n5_ n6_ n7_
              (try clear hb)
              (try clear hb2)
              (try clear hk)
              (try clear hi)
              (try clear ho0)
              refine hK.out _ _ ⟨(blk_cell BK343.out 0).trans rfl, (blk_cell BK343.out 1).trans rfl, HS2_, HS3_, HS4_⟩ (fun hHeld => ?_)
              clear hK K
              refine norm_ (a' := ?_) ?_ ?_
              rotate_left
              ·show Act.put _ (some 105) _ = _
               simp only [Act.put, List.setIfInBounds_toArray, List.set_cons_zero, List.set_cons_succ, i64_w, i32_w]
               rfl
              refine pure_ (i := 7) (N := some 98) (v := ?_) (a' := ?_) #[true, true, true, true, true, true, true, true, false, false, false, false, false] rfl rfl (any_of HT_.out Z11_19) (fun _ _ _ h => h) (Or.inl ⟨by rfl, ?_⟩) ?_ ?_
              rotate_left
              ·intro w'
               go_simp
               with_reducible rfl
              rotate_left
              ·simp only [Act.put, List.setIfInBounds_toArray, List.set_cons_zero, List.set_cons_succ, i64_w, i32_w]
               rfl
              refine pure_ (i := 8) (N := some 106) (v := ?_) (a' := ?_) #[true, true, true, true, true, true, true, true, true, false, false, false, false] rfl rfl (any_of HT_.out Z11_19) (fun _ _ _ h => h) (Or.inl ⟨by rfl, ?_⟩) ?_ ?_
              rotate_left
              ·intro w'
               go_simp
               with_reducible rfl
              rotate_left
              ·simp only [Act.put, List.setIfInBounds_toArray, List.set_cons_zero, List.set_cons_succ, i64_w, i32_w]
               rfl
              refine pure_ (i := 9) (N := some 107) (v := ?_) (a' := ?_) #[true, true, true, true, true, true, true, true, true, true, false, false, false] rfl rfl (any_of HT_.out Z11_19) (fun _ _ _ h => h) (Or.inl ⟨by rfl, ?_⟩) ?_ ?_
              rotate_left
              ·intro w'
               go_simp
               with_reducible rfl
              rotate_left
              ·simp only [Act.put, List.setIfInBounds_toArray, List.set_cons_zero, List.set_cons_succ, i64_w, i32_w]
               rfl
              refine one_ (i := 10) (N := some 11) #[true, true, true, true, true, true, true, true, true, true, true, false, false] rfl rfl (one_of HT_.out Z11_19) Z11_64 (fun K hK => ?_)
              refine box_step ?hg (N := 11) ?hd (cs := #[.int .i64 0, .slice none 0 0]) (t := 50) ?hr ?_; (case hd => rfl); (case hg => rfl); (case hr => exact Z11_34)
              intro gb365 hg w87 hbox hb
              have HS2_ := (hb.cell (World.block_lt_of_cell? _ _ (hHeld.2.2.1))).trans (hHeld.2.2.1)
              have HS3_ := (hb.cell (World.block_lt_of_cell? _ _ (hHeld.2.2.2.1))).trans (hHeld.2.2.2.1)
              have HS4_ := (hb.cell (World.block_lt_of_cell? _ _ (hHeld.2.2.2.2))).trans (hHeld.2.2.2.2)
              have n0_ := Aside0.mk (Kd.R_below Z11_6 hb)
              have n1_ := Aside0.mk (Kd.R_below Z11_5 hb)
              have n2_ := Aside0.mk (Kd.R_below Z11_3 hb)
              have n3_ := Aside0.mk (Kd.R_below Z11_17 hb)
              have n4_ := Aside0.mk (Kd.R_below (by (with_reducible repeat (first | apply Kd.R_alloc | apply Kd.R_drewN | apply Kd.R_drew)); exact HO363.out) hb)
              have n5_ := Aside0.mk (blk_below (g := gb343) (o := .cells #[.int .i64 x344000_3, .slice Ao75 x344001_3.length co75] 50 (0, 0)) Z11_1 hb)
              have n6_ := Aside0.mk (blk_below (g := gb358) (o := .cells #[.int .i64 t353, .slice Ao82 t354.length co82] 50 (0, 0)) Z11_10 hb)
              have n7_ := Aside0.mk (below_step Z11_4 hb)
              have n8_ := Aside0.mk (hbox)
              have n9_ := Aside0.mk ((Z11_61 : w.heap.size ≤ gb365))
              have n10_ := Aside0.mk ((Z11_61 : w.heap.size ≤ gb365))
              have n11_ := Aside0.mk ((Z11_45 : gb343 ≠ gb365))
              have n12_ := Aside0.mk ((Z11_46 : gb365 ≠ gb343))
              have n13_ := Aside0.mk ((Z11_71 : gb358 ≠ gb365))
              have n14_ := Aside0.mk ((Z11_72 : gb365 ≠ gb358))
              clear HO_4
              clear HO_6
              clear HO_344001
              clear HO356
              clear HO363
              clear BK343
              clear BK358
              clear HB
              have HO_4 := n0_
              have HO_6 := n1_
              have HO_344001 := n2_
              have HO356 := n3_
              have HO363 := n4_
              have BK343 := n5_
              have BK358 := n6_
              have HB := n7_
              have BK365 := n8_
              have GW365 := n9_
              have GE365 := n10_
              have NB343_365 := n11_
              have NB365_343 := n12_
              have NB358_365 := n13_
              have NB365_358 := n14_
              clear n0_ n1_ n2_ n3_ n4_ n5_ n6_ n7_ n8_ n9_ n10_ n11_ n12_ n13_ n14_
              clear hb hbox hg
              refine hK.out _ _ ⟨(blk_cell BK343.out 0).trans rfl, (blk_cell BK343.out 1).trans rfl, HS2_, HS3_, HS4_⟩ (fun hHeld => ?_)
              clear hK K
              refine norm_ (a' := ?_) ?_ ?_
              rotate_left
              ·show Act.put _ (some 11) _ = _
               simp only [Act.put, List.setIfInBounds_toArray, List.set_cons_zero, List.set_cons_succ, i64_w, i32_w]
               rfl
              exact norm_ Z11_23 (hCont (v362, gb365) _ ⟨hHeld, Z11_37, Z11_36, Z11_35, Z11_6, Z11_38, Z11_1, Z11_10, Z11_20, GW365.out, GE365.out, NB343_365.out, NB365_343.out, NB358_365.out, NB365_358.out, Z11_7⟩)
             skip
             refine box_step ?hg (N := 11) ?hd (cs := #[.int .i64 0, .slice none 0 0]) (t := 50) ?hr ?_; (case hd => rfl); (case hg => rfl); (case hr => exact Z11_34)
             intro gb365 hg w86 hbox hb
             have HS2_ := (hb.cell (World.block_lt_of_cell? _ _ (hHeld.2.2.1))).trans (hHeld.2.2.1)
             have HS3_ := (hb.cell (World.block_lt_of_cell? _ _ (hHeld.2.2.2.1))).trans (hHeld.2.2.2.1)
             have HS4_ := (hb.cell (World.block_lt_of_cell? _ _ (hHeld.2.2.2.2))).trans (hHeld.2.2.2.2)
             have n0_ := Aside0.mk (Kd.R_below Z11_6 hb)
             have n1_ := Aside0.mk (Kd.R_below Z11_5 hb)
             have n2_ := Aside0.mk (Kd.R_below Z11_3 hb)
             have n3_ := Aside0.mk (Kd.R_below Z11_17 hb)
             have n4_ := Aside0.mk (blk_below (g := gb343) (o := .cells #[.int .i64 x344000_3, .slice Ao75 x344001_3.length co75] 50 (0, 0)) Z11_1 hb)
             have n5_ := Aside0.mk (blk_below (g := gb358) (o := .cells #[.int .i64 t353, .slice Ao82 t354.length co82] 50 (0, 0)) Z11_10 hb)
             have n6_ := Aside0.mk (below_step Z11_4 hb)
             have n7_ := Aside0.mk (hbox)
             have n8_ := Aside0.mk ((Z11_61 : w.heap.size ≤ gb365))
             have n9_ := Aside0.mk ((Z11_61 : w.heap.size ≤ gb365))
             have n10_ := Aside0.mk ((Z11_45 : gb343 ≠ gb365))
             have n11_ := Aside0.mk ((Z11_46 : gb365 ≠ gb343))
             have n12_ := Aside0.mk ((Z11_71 : gb358 ≠ gb365))
             have n13_ := Aside0.mk ((Z11_72 : gb365 ≠ gb358))
             clear HO_4
             clear HO_6
             clear HO_344001
             clear HO356
             clear BK343
             clear BK358
             clear HB
             have HO_4 := n0_
             have HO_6 := n1_
             have HO_344001 := n2_
             have HO356 := n3_
             have BK343 := n4_
             have BK358 := n5_
             have HB := n6_
             have BK365 := n7_
             have GW365 := n8_
             have GE365 := n9_
             have NB343_365 := n10_
             have NB365_343 := n11_
             have NB358_365 := n12_
             have NB365_358 := n13_
             clear n0_ n1_ n2_ n3_ n4_ n5_ n6_ n7_ n8_ n9_ n10_ n11_ n12_ n13_
             clear hb hbox hg
             refine hK.out _ _ ⟨(blk_cell BK343.out 0).trans rfl, (blk_cell BK343.out 1).trans rfl, HS2_, HS3_, HS4_⟩ (fun hHeld => ?_)
             clear hK K
             refine norm_ (a' := ?_) ?_ ?_
             rotate_left
             ·show Act.put _ (some 11) _ = _
              simp only [Act.put, List.setIfInBounds_toArray, List.set_cons_zero, List.set_cons_succ, i64_w, i32_w]
              rfl
             refine one_ (i := 6) (N := some 105) #[true, true, true, true, true, true, true, false, false, false, true, false, false] rfl rfl (one_of HT_.out Z11_19) Z11_64 (fun K hK => ?_)
             refine goes_ Try.func44 Z11_19 rfl #[.agg #[.int .i64 x344000_3, .slice Ao75 x344001_3.length co75], .int .i64 ((rd_T70 t336 x8_3).f2)] (by rfl) rfl rfl Z11_11 ?_
             with_reducible refine (spec_FramesTake.calls kj33 x344000_3 _ _ x344001_3 ((rd_T70 t336 x8_3).f2) t360 t361 t364 _ ?side1 ?side2 A46.out).mono ?_
             (case side1 => exact Z11_12)
             (case side2 => exact (Kd.R_reads' HO_344001.out).2.1)
             rintro e w87 ⟨v362, rfl, ho0, hb⟩
             have HS2_ := (hb.cell (World.block_lt_of_cell? _ _ (hHeld.2.2.1))).trans (hHeld.2.2.1)
             have HS3_ := (hb.cell (World.block_lt_of_cell? _ _ (hHeld.2.2.2.1))).trans (hHeld.2.2.2.1)
             have HS4_ := (hb.cell (World.block_lt_of_cell? _ _ (hHeld.2.2.2.2))).trans (hHeld.2.2.2.2)
             refine ⟨_, rfl, ?_⟩
             have n0_ := Aside0.mk (Kd.R_below Z11_6 hb)
             have n1_ := Aside0.mk (Kd.R_elder' Z11_5 (Kd.R_base ho0) hb)
             have n2_ := Aside0.mk (Kd.R_elder' Z11_3 (Kd.R_base ho0) hb)
             have n3_ := Aside0.mk (Kd.R_elder' Z11_17 (Kd.R_base ho0) hb)
             have n4_ := Aside0.mk (Kd.R_lower (Kd.R_new' (Kd.R_new' (Kd.R_new' ho0 (Kd.R_lt Z11_5)) (Kd.R_lt Z11_3)) (Kd.R_lt Z11_17)) (below_size Z11_7))
             have n5_ := Aside0.mk (blk_below (g := gb343) (o := .cells #[.int .i64 x344000_3, .slice Ao75 x344001_3.length co75] 50 (0, 0)) Z11_1 hb)
             have n6_ := Aside0.mk (blk_below (g := gb358) (o := .cells #[.int .i64 t353, .slice Ao82 t354.length co82] 50 (0, 0)) Z11_10 hb)
             have n7_ := Aside0.mk (blk_below (g := gb365) (o := .cells #[.int .i64 0, .slice none 0 0] 50 (0, 0)) Z11_20 hb)
             have n8_ := Aside0.mk (below_step Z11_7 hb)
             clear HO_4
             clear HO_6
             clear HO_344001
             clear HO356
             clear BK343
             clear BK358
             clear BK365
             clear HB
             have HO_4 := n0_
             have HO_6 := n1_
             have HO_344001 := n2_
             have HO356 := n3_
             have HO363 := n4_
             have BK343 := n5_
             have BK358 := n6_
             have BK365 := n7_
             have HB := n8_
             clear n0_ n1_ n2_ n3_ n4_ n5_ n6_ n7_ n8_
             (try clear hb)
             (try clear hb2)
             (try clear hk)
             (try clear hi)
             (try clear ho0)
             refine hK.out _ _ ⟨(blk_cell BK343.out 0).trans rfl, (blk_cell BK343.out 1).trans rfl, HS2_, HS3_, HS4_⟩ (fun hHeld => ?_)
             clear hK K
             refine norm_ (a' := ?_) ?_ ?_
             rotate_left
             ·show Act.put _ (some 105) _ = _
              simp only [Act.put, List.setIfInBounds_toArray, List.set_cons_zero, List.set_cons_succ, i64_w, i32_w]
              rfl
             refine pure_ (i := 7) (N := some 98) (v := ?_) (a' := ?_) #[true, true, true, true, true, true, true, true, false, false, true, false, false] rfl rfl (any_of HT_.out Z11_19) (fun _ _ _ h => h) (Or.inl ⟨by rfl, ?_⟩) ?_ ?_
             rotate_left
             ·intro w'
              go_simp
              with_reducible rfl
             rotate_left
             ·simp only [Act.put, List.setIfInBounds_toArray, List.set_cons_zero, List.set_cons_succ, i64_w, i32_w]
              rfl
             refine pure_ (i := 8) (N := some 106) (v := ?_) (a' := ?_) #[true, true, true, true, true, true, true, true, true, false, true, false, false] rfl rfl (any_of HT_.out Z11_19) (fun _ _ _ h => h) (Or.inl ⟨by rfl, ?_⟩) ?_ ?_
             rotate_left
             ·intro w'
              go_simp
              with_reducible rfl
             rotate_left
             ·simp only [Act.put, List.setIfInBounds_toArray, List.set_cons_zero, List.set_cons_succ, i64_w, i32_w]
              rfl
             refine pure_ (i := 9) (N := some 107) (v := ?_) (a' := ?_) #[true, true, true, true, true, true, true, true, true, true, true, false, false] rfl rfl (any_of HT_.out Z11_19) (fun _ _ _ h => h) (Or.inl ⟨by rfl, ?_⟩) ?_ ?_
             rotate_left
             ·intro w'
              go_simp
              with_reducible rfl
             rotate_left
             ·simp only [Act.put, List.setIfInBounds_toArray, List.set_cons_zero, List.set_cons_succ, i64_w, i32_w]
              rfl
             exact norm_ Z11_23 (hCont (v362, gb365) _ ⟨hHeld, Z11_37, Z11_36, Z11_35, Z11_6, Z11_38, Z11_1, Z11_10, Z11_20, GW365.out, GE365.out, NB343_365.out, NB365_343.out, NB358_365.out, NB365_358.out, Z11_7⟩))⟩
            exact NE_ (inferInstanceAs (Nonempty (type_of% ?L10)))
           rintro ⟨v362, gb365⟩ w88 ⟨hS_, h0_, h1_, h2_, h3_, h4_, h5_, h6_, h7_, h8_, h9_, h10_, h11_, h12_, h13_, h14_⟩
           have n0_ : Aside0 (Kd.R k73 73 w88 w.heap.size (fun k_ => some k_ ≠ (v362 : Value).ownBlock ∧ nb_ k_ Ao75 x344001_3.length co75 ∧ some k_ ≠ (u6 : Value).ownBlock) (.slice Ao82 t354.length co82) t354) := ⟨h0_⟩
           have n1_ : Aside0 (Kd.R k73 73 w88 w.heap.size (fun k_ => nb_ k_ Ao82 t354.length co82 ∧ nb_ k_ Ao75 x344001_3.length co75 ∧ some k_ ≠ (u6 : Value).ownBlock) v362 t361) := ⟨h1_⟩
           have n2_ : Aside0 (Kd.R k73 73 w88 w.heap.size (fun k_ => nb_ k_ Ao82 t354.length co82 ∧ some k_ ≠ (v362 : Value).ownBlock ∧ some k_ ≠ (u6 : Value).ownBlock) (.slice Ao75 x344001_3.length co75) x344001_3) := ⟨h2_⟩
           have n3_ : Aside0 (Kd.R k70 70 w88 w.heap.size (fun _ => True) (.slice (some ad352) t336.length co77) t336) := ⟨h3_⟩
           have n4_ : Aside0 (Kd.R k73 73 w88 w.heap.size (fun k_ => nb_ k_ Ao82 t354.length co82 ∧ some k_ ≠ (v362 : Value).ownBlock ∧ nb_ k_ Ao75 x344001_3.length co75) u6 x6_3) := ⟨h4_⟩
           have n5_ : Aside0 (w88.heap[gb343]? = some (.cells #[.int .i64 x344000_3, .slice Ao75 x344001_3.length co75] 50 (0, 0))) := ⟨h5_⟩
           have n6_ : Aside0 (w88.heap[gb358]? = some (.cells #[.int .i64 t353, .slice Ao82 t354.length co82] 50 (0, 0))) := ⟨h6_⟩
           have n7_ : Aside0 (w88.heap[gb365]? = some (.cells #[.int .i64 0, .slice none 0 0] 50 (0, 0))) := ⟨h7_⟩
           have n8_ : Aside0 (w.heap.size ≤ gb365) := ⟨h8_⟩
           have n9_ : Aside0 (w.heap.size ≤ gb365) := ⟨h9_⟩
           have n10_ : Aside0 (gb343 ≠ gb365) := ⟨h10_⟩
           have n11_ : Aside0 (gb365 ≠ gb343) := ⟨h11_⟩
           have n12_ : Aside0 (gb358 ≠ gb365) := ⟨h12_⟩
           have n13_ : Aside0 (gb365 ≠ gb358) := ⟨h13_⟩
           have n14_ : Aside0 (Below w.heap.size w w88) := ⟨h14_⟩
           clear HO_4
           clear HO_6
           clear HO_344001
           clear HO356
           clear BK343
           clear BK358
           clear HB
           clear h0_ h1_ h2_ h3_ h4_ h5_ h6_ h7_ h8_ h9_ h10_ h11_ h12_ h13_ h14_
           have HO356 := n0_
           have HO363 := n1_
           have HO_344001 := n2_
           have HO_4 := n3_
           have HO_6 := n4_
           have BK343 := n5_
           have BK358 := n6_
           have BK365 := n7_
           have GW365 := n8_
           have GE365 := n9_
           have NB343_365 := n10_
           have NB365_343 := n11_
           have NB358_365 := n12_
           have NB365_358 := n13_
           have HB := n14_
           clear n0_ n1_ n2_ n3_ n4_ n5_ n6_ n7_ n8_ n9_ n10_ n11_ n12_ n13_ n14_
           have hHeld : w88.cell? ⟨gb343, 0, none⟩ = some (.int .i64 x344000_3) ∧ w88.cell? ⟨gb343, 1, none⟩ = some (.slice Ao75 x344001_3.length co75) ∧ w88.cell? (ad352.add ((x8_3).toNat * 3)) = some (.int .i64 ((rd_T70 t336 x8_3).f0)) ∧ w88.cell? ⟨(ad352.add ((x8_3).toNat * 3)).block, (ad352.add ((x8_3).toNat * 3)).off + 1, none⟩ = some (.int .i64 ((rd_T70 t336 x8_3).f1)) ∧ w88.cell? ⟨(ad352.add ((x8_3).toNat * 3)).block, (ad352.add ((x8_3).toNat * 3)).off + 2, none⟩ = some (.int .i64 ((rd_T70 t336 x8_3).f2)) := hS_
           obtain ⟨Ao90, co90, eo90⟩ := Kd.R_slice HO363.out
           (first | subst eo90 | (injection eo90 with f1_ f2_ f3_; have f4_ := f1_.symm; have f5_ := f3_.symm; clear f1_ f2_ f3_; subst f4_; subst f5_))
           refine norm_ (a' := ?_) ?_ ?_
           rotate_left
           ·simp only [putAll, Act.put, List.setIfInBounds_toArray, List.set_cons_zero, List.set_cons_succ]
            rfl
           refine one_ (i := 11) (N := none) #[true, true, true, true, true, true, true, true, true, true, true, true, false] rfl rfl (one_of HT_.out Z11_19) Z11_64 (fun K hK => ?_)
           have hs89 : w88.cell? ⟨gb365, 0, none⟩ = some (.int .i64 0) := (blk_cell BK365.out 0).trans rfl
           have hfs89 := blk_frozen BK365.out 0
           have hns89_0 := NB343_365.out
           have hns89_1 := NB358_365.out
           have hms89_0 := NB365_343.out
           have hms89_1 := NB365_358.out
           have hs91 : w88.cell? ⟨gb365, 1, none⟩ = some (.slice none 0 0) := (blk_cell BK365.out 1).trans rfl
           have hfs91 := blk_frozen BK365.out 1
           have hns91_0 := NB343_365.out
           have hns91_1 := NB358_365.out
           have hms91_0 := NB365_343.out
           have hms91_1 := NB365_358.out
           refine skip_ (w1 := ?_) (by rfl) rfl ?_ ?_
           rotate_left
           ·go_simp
            rfl
           refine hK.out _ _ ⟨((cell_far (p := ⟨gb365, _, none⟩) NB343_365.out _).trans (((cell_far (p := ⟨gb365, _, none⟩) NB343_365.out _).trans (hHeld.1)))), ((cell_far (p := ⟨gb365, _, none⟩) NB343_365.out _).trans (((cell_far (p := ⟨gb365, _, none⟩) NB343_365.out _).trans (hHeld.2.1)))), ((cell_far (p := ⟨gb365, _, none⟩) Z11_9 _).trans (((cell_far (p := ⟨gb365, _, none⟩) Z11_9 _).trans (hHeld.2.2.1)))), ((cell_far (p := ⟨gb365, _, none⟩) Z11_9 _).trans (((cell_far (p := ⟨gb365, _, none⟩) Z11_9 _).trans (hHeld.2.2.2.1)))), ((cell_far (p := ⟨gb365, _, none⟩) Z11_9 _).trans (((cell_far (p := ⟨gb365, _, none⟩) Z11_9 _).trans (hHeld.2.2.2.2))))⟩ (fun hHeld => ?_)
           clear hK K
           refine pure_ (i := 12) (N := some 12) (v := ?_) (a' := ?_) #[true, true, true, true, true, true, true, true, true, true, true, true, true] rfl rfl (any_of HT_.out Z11_19) (fun _ _ _ h => h) (Or.inl ⟨by rfl, ?_⟩) ?_ ?_
           rotate_left
           ·intro w'
            go_simp
            with_reducible rfl
           rotate_left
           ·simp only [Act.put, List.setIfInBounds_toArray, List.set_cons_zero, List.set_cons_succ, i64_w, i32_w]
            rfl
           refine done_ (done_of HT_.out Z11_19) ?_
           have hnb92 := NB358_343.out
           have hnc92 := NB343_358.out
           have hnb93 := NB358_365.out
           have hnc93 := NB365_358.out
           have hcz94_0 : w88.cell? ⟨gb358, 0, none⟩ = some (.int .i64 t353) := (blk_cell BK358.out 0).trans rfl
           have hcz94_1 : w88.cell? ⟨gb358, 1, none⟩ = some (.slice Ao82 t354.length co82) := (blk_cell BK358.out 1).trans rfl
           have hfz94_0 := blk_frozen BK358.out 0
           have hfz94_1 := blk_frozen BK358.out 1
           have hnb95 := NB343_365.out
           have hnc95 := NB365_343.out
           have hcz96_0 : w88.cell? ⟨gb343, 0, none⟩ = some (.int .i64 x344000_3) := (blk_cell BK343.out 0).trans rfl
           have hcz96_1 : w88.cell? ⟨gb343, 1, none⟩ = some (.slice Ao75 x344001_3.length co75) := (blk_cell BK343.out 1).trans rfl
           have hfz96_0 := blk_frozen BK343.out 0
           have hfz96_1 := blk_frozen BK343.out 1
           have p366 : 0 ≤ (x8_3 : Int) := of_decide_eq_true Z11_14
           have q366 : x8_3 < (t336.length : Int) := of_decide_eq_true Z11_14
           obtain ⟨ad366, e366, hx366_0, hx366_1, hx366_2⟩ := at_T70 (Kd.R_reads' HO_4.out).2.2 x8_3 p366 q366
           obtain rfl : ad352 = ad366 := (by injection e366)
           have hn366_0 : ad352.block ≠ gb365 := Kd.own_blk (Kd.R_ne HO_4.out BK365.out Z11_64)
           have hn366_1 : ad352.block ≠ gb365 := Kd.own_blk (Kd.R_ne HO_4.out BK365.out Z11_64)
           have hn366_2 : ad352.block ≠ gb343 := Kd.own_blk (Kd.R_ne HO_4.out BK343.out Z11_64)
           have hn366_3 : ad352.block ≠ gb343 := Kd.own_blk (Kd.R_ne HO_4.out BK343.out Z11_64)
           replace hx366_0 := (cell_far (p := ⟨gb365, 0, none⟩) Z11_57 (.int .i64 t360)).trans hx366_0
           replace hx366_1 := (cell_far (p := ⟨gb365, 0, none⟩) Z11_57 (.int .i64 t360)).trans hx366_1
           replace hx366_2 := (cell_far (p := ⟨gb365, 0, none⟩) Z11_57 (.int .i64 t360)).trans hx366_2
           replace hx366_0 := (cell_far (p := ⟨gb365, 1, none⟩) Z11_58 (.slice Ao90 t361.length co90)).trans hx366_0
           replace hx366_1 := (cell_far (p := ⟨gb365, 1, none⟩) Z11_58 (.slice Ao90 t361.length co90)).trans hx366_1
           replace hx366_2 := (cell_far (p := ⟨gb365, 1, none⟩) Z11_58 (.slice Ao90 t361.length co90)).trans hx366_2
           replace hx366_0 := (cell_far (p := ⟨gb343, 0, none⟩) Z11_59 (.int .i64 t353)).trans hx366_0
           replace hx366_1 := (cell_far (p := ⟨gb343, 0, none⟩) Z11_59 (.int .i64 t353)).trans hx366_1
           replace hx366_2 := (cell_far (p := ⟨gb343, 0, none⟩) Z11_59 (.int .i64 t353)).trans hx366_2
           replace hx366_0 := (cell_far (p := ⟨gb343, 1, none⟩) Z11_60 (.slice Ao82 t354.length co82)).trans hx366_0
           replace hx366_1 := (cell_far (p := ⟨gb343, 1, none⟩) Z11_60 (.slice Ao82 t354.length co82)).trans hx366_1
           replace hx366_2 := (cell_far (p := ⟨gb343, 1, none⟩) Z11_60 (.slice Ao82 t354.length co82)).trans hx366_2
           clear hn366_0
           clear hn366_1
           clear hn366_2
           clear hn366_3
           replace p366 := eq_true p366
           replace q366 := eq_true q366
           go_upto_region 22 with (fail)
           go_cut [131] (fun v131 wc => ∃ (kq : Nat) (x131_73 : Bool), v131 = .bool x131_73 ∧ Aside0 (laws_FnFramesKept.j5 kq l0 t335 t336 x6_3 x7_3 x8_3 t357 ji73 x131_73 t353 t354 = some r) ∧ Aside0 (kq ≤ kj33) ∧ Aside0 (Kd.R k70 70 wc w.heap.size (fun _ => True) (.slice (some ad352) t336.length co77) t336) ∧ Aside0 (Kd.R k73 73 wc w.heap.size (fun k_ => some k_ ≠ ((.slice Ao82 t354.length co82) : Value).ownBlock ∧ some k_ ≠ ((.slice Ao82 t354.length co82) : Value).ownBlock ∧ some k_ ≠ ((.slice Ao90 t361.length co90) : Value).ownBlock) u6 x6_3) ∧ Aside0 (Kd.R k73 73 wc w.heap.size (fun k_ => some k_ ≠ (u6 : Value).ownBlock ∧ some k_ ≠ ((.slice Ao90 t361.length co90) : Value).ownBlock) (.slice Ao82 t354.length co82) t354) ∧ Aside0 (Kd.R k73 73 wc w.heap.size (fun k_ => some k_ ≠ (u6 : Value).ownBlock ∧ some k_ ≠ ((.slice Ao90 t361.length co90) : Value).ownBlock) (.slice Ao82 t354.length co82) t354) ∧ Aside0 (Kd.R k73 73 wc w.heap.size (fun k_ => some k_ ≠ (u6 : Value).ownBlock ∧ some k_ ≠ ((.slice Ao82 t354.length co82) : Value).ownBlock ∧ some k_ ≠ ((.slice Ao82 t354.length co82) : Value).ownBlock) (.slice Ao90 t361.length co90) t361) ∧ Aside0 (wc.heap[gb343]? = some (.cells #[.int .i64 t353, (.slice Ao82 t354.length co82)] 50 (0, 0))) ∧ Aside0 (wc.heap[gb358]? = some (.cells #[.int .i64 t353, (.slice Ao82 t354.length co82)] 50 (0, 0))) ∧ Aside0 (wc.heap[gb365]? = some (.cells #[.int .i64 t360, (.slice Ao90 t361.length co90)] 50 (0, 0))) ∧ Aside0 (Below w.heap.size w wc))
           case first =>
            refine ?L11
            letI iL11 : Nonempty (type_of% ?L11) := ⟨(by
            have H := HC74.out
            clear HC74
            by_cases c97 : (ji73) = 0
            ·rw [if_pos c97] at H
             exact absurd H (by simp)
            rw [if_neg c97] at H
            have c97b0 : ((ji73) == 0) = false := beq_eq_false_iff_ne.mpr c97
            have c97b1 : ((ji73) != 0) = true := bne_iff_ne.mpr c97
            (first | rw [c97b0] | (simp only [i64_w, i32_w]; rw [c97b0]) | skip)
            by_cases c98 : (Int.tmod t357 (ji73)) = 0
            ·rw [if_pos c98] at H
             have c98b0 : ((Int.tmod t357 (ji73)) == 0) = true := beq_iff_eq.mpr c98
             have c98b1 : ((Int.tmod t357 (ji73)) != 0) = false := bne_eq_false_iff_eq.mpr c98
             clear c98
             have H' := Aside0.mk H
             clear H
             go_wp2
             go_meet
             case rel => exact ⟨_, (decide ((wrap64 (t357 + (ji73))) > t335)), (by first | rfl | (simp; done) | (simp only [← hji73] <;> (first | rfl | simp)) | (simp [*]; done)), H', ⟨Z11_73⟩, ⟨Z11_33⟩, ⟨Z11_30⟩, ⟨Z11_16⟩, ⟨Z11_16⟩, ⟨Z11_29⟩, ⟨Z11_25⟩, ⟨Z11_28⟩, ⟨Z11_27⟩, ⟨Z11_7⟩⟩
            rw [if_neg c98] at H
            have c98b0 : ((Int.tmod t357 (ji73)) == 0) = false := beq_eq_false_iff_ne.mpr c98
            have c98b1 : ((Int.tmod t357 (ji73)) != 0) = true := bne_iff_ne.mpr c98
            have H' := Aside0.mk H
            clear H
            go_wp2
            go_meet
            case rel => exact ⟨_, (true), Z11_13, H', ⟨Z11_73⟩, ⟨Z11_33⟩, ⟨Z11_30⟩, ⟨Z11_16⟩, ⟨Z11_16⟩, ⟨Z11_29⟩, ⟨Z11_25⟩, ⟨Z11_28⟩, ⟨Z11_27⟩, ⟨Z11_7⟩⟩)⟩
            exact NE_ (inferInstanceAs (Nonempty (type_of% ?L11)))
           clear HC74
           try clear p2
           try clear p3
           try clear q3
           try clear hx3
           try clear c4
           try clear p6
           try clear c9
           try clear p35
           try clear q35
           try clear hx35
           try clear p36
           try clear q36
           try clear hx36
           try clear c44
           try clear p64
           try clear c92
           try clear c93
           try clear c95
           try clear c97
           try clear c97b0
           try clear c97b1
           try clear c98
           try clear c98b0
           try clear c98b1
           try clear hcz94_0
           try clear hcz94_1
           try clear hcz96_0
           try clear hcz96_1
           try clear hfz94_0
           try clear hfz94_1
           try clear hfz96_0
           try clear hfz96_1
           try clear hx359_0
           try clear hx359_1
           try clear hx359_2
           try clear hx366_0
           try clear hx366_1
           try clear hx366_2
           try clear p359
           try clear p366
           try clear q359
           try clear q366
           obtain ⟨kq, x131_73, rfl, HA, HJ73, HO_4, HO_6, HO_344001, HO_359001, HO_366001, BK343, BK358, BK365, HB⟩ := hcut
           cases kq with
           | zero => exact absurd HA.out (by simp [laws_FnFramesKept.j5])
           | succ kj73 =>
            refine ?R2
            letI iR2 : Nonempty (type_of% ?R2) := ⟨(by
            have H := HA.out
            clear HA
            simp only [laws_FnFramesKept.j5] at H
            by_cases c99 : x131_73 = true
            ·subst c99
             have H1 : (none) = some r := by rw [if_pos rfl] at H; exact H
             clear H
             have H := H1
             clear H1
             exact absurd H (by simp)
            replace c99 := Bool.eq_false_iff.mpr c99
            subst c99
            have H1 : (laws_FnFramesKept.l1 kj73 l0 t335 t336 x6_3 x7_3 x8_3 t357 ji73 0 t353 t354) = some r := by rw [if_neg (show ¬ (false = true) by decide)] at H; exact H
            clear H
            have H := H1
            clear H1
            have H' := Aside0.mk H
            clear H
            go_wp2
            go_loopg [14] kj73 (fun kq v14 w' => ∃ (x14_7 : Int), v14 = .int .i64 x14_7 ∧ Aside0 (laws_FnFramesKept.l1 kq l0 t335 t336 x6_3 x7_3 x8_3 t357 ji73 x14_7 t353 t354 = some r) ∧ Aside0 (kq ≤ kj73) ∧ Aside0 (Kd.R k70 70 w' w.heap.size (fun _ => True) (.slice (some ad352) t336.length co77) t336) ∧ Aside0 (Kd.R k73 73 w' w.heap.size (fun k_ => some k_ ≠ ((.slice Ao82 t354.length co82) : Value).ownBlock ∧ some k_ ≠ ((.slice Ao82 t354.length co82) : Value).ownBlock ∧ some k_ ≠ ((.slice Ao90 t361.length co90) : Value).ownBlock) u6 x6_3) ∧ Aside0 (Kd.R k73 73 w' w.heap.size (fun k_ => some k_ ≠ (u6 : Value).ownBlock ∧ some k_ ≠ ((.slice Ao90 t361.length co90) : Value).ownBlock) (.slice Ao82 t354.length co82) t354) ∧ Aside0 (Kd.R k73 73 w' w.heap.size (fun k_ => some k_ ≠ (u6 : Value).ownBlock ∧ some k_ ≠ ((.slice Ao90 t361.length co90) : Value).ownBlock) (.slice Ao82 t354.length co82) t354) ∧ Aside0 (Kd.R k73 73 w' w.heap.size (fun k_ => some k_ ≠ (u6 : Value).ownBlock ∧ some k_ ≠ ((.slice Ao82 t354.length co82) : Value).ownBlock ∧ some k_ ≠ ((.slice Ao82 t354.length co82) : Value).ownBlock) (.slice Ao90 t361.length co90) t361) ∧ Aside0 (w'.heap[gb343]? = some (.cells #[.int .i64 t353, (.slice Ao82 t354.length co82)] 50 (0, 0))) ∧ Aside0 (w'.heap[gb358]? = some (.cells #[.int .i64 t353, (.slice Ao82 t354.length co82)] 50 (0, 0))) ∧ Aside0 (w'.heap[gb365]? = some (.cells #[.int .i64 t360, (.slice Ao90 t361.length co90)] 50 (0, 0))) ∧ Aside0 (Below w.heap.size w w'))
            case atStart => exact ⟨(0), Z11_13, H', ⟨Nat.le_refl _⟩, ⟨Z11_6⟩, ⟨Z11_5⟩, ⟨Z11_3⟩, ⟨Z11_31⟩, ⟨Z11_32⟩, ⟨Z11_1⟩, ⟨Z11_10⟩, ⟨Z11_20⟩, ⟨Z11_7⟩⟩
            clear H'
            try clear p2
            try clear p3
            try clear q3
            try clear hx3
            try clear c4
            try clear p6
            try clear c9
            try clear p35
            try clear q35
            try clear hx35
            try clear p36
            try clear q36
            try clear hx36
            try clear c44
            try clear p64
            try clear c92
            try clear c93
            try clear c95
            try clear c97
            try clear c97b0
            try clear c97b1
            try clear c98
            try clear c98b0
            try clear c98b1
            try clear c99
            try clear hcz94_0
            try clear hcz94_1
            try clear hcz96_0
            try clear hcz96_1
            try clear hfz94_0
            try clear hfz94_1
            try clear hfz96_0
            try clear hfz96_1
            try clear hx359_0
            try clear hx359_1
            try clear hx359_2
            try clear hx366_0
            try clear hx366_1
            try clear hx366_2
            try clear p2
            try clear p3
            try clear p35
            try clear p359
            try clear p36
            try clear p366
            try clear p6
            try clear p64
            try clear q3
            try clear q35
            try clear q359
            try clear q36
            try clear q366
            obtain ⟨x14_7, rfl, HA, HK7, HO_4, HO_6, HO_344001, HO_359001, HO_366001, BK343, BK358, BK365, HB⟩ := hrel
            cases gk with
            | zero => exact absurd HA.out (by simp [laws_FnFramesKept.l1])
            | succ k7 =>
             refine ?R1
             letI iR1 : Nonempty (type_of% ?R1) := ⟨(by
             have H := HA.out
             clear HA
             simp only [laws_FnFramesKept.l1] at H
             by_cases c100 : x14_7 < (x6_3.length : Int)
             ·
              refine ?L12
              letI iL12 : Nonempty (type_of% ?L12) := ⟨(by
               rw [if_pos c100] at H
               have c100b0 : decide (x14_7 < (x6_3.length : Int)) = true := decide_eq_true c100
               clear c100
               by_cases c101 : 0 ≤ x14_7
               ·rw [if_pos c101] at H
                have c101b0 : decide (0 ≤ x14_7) = true := decide_eq_true c101
                clear c101
                obtain ⟨ji102, hji102⟩ : ∃ j_ : Int, (IntKind.u64.wrap ((rd_T73 x6_3 x14_7).f1)) = j_ := ⟨_, rfl⟩
                replace H : (if 0 ≤ (ji102) then (if t357 < (wrap64 (((rd_T73 x6_3 x14_7).f0) + (shl .i64 1 (ji102)))) then (if ((rd_T73 x6_3 x14_7).f0) < (wrap64 (t357 + ji73)) then (none) else (laws_FnFramesKept.l1 k7 l0 t335 t336 x6_3 x7_3 x8_3 t357 ji73 (wrap64 (x14_7 + 1)) t353 t354)) else (laws_FnFramesKept.l1 k7 l0 t335 t336 x6_3 x7_3 x8_3 t357 ji73 (wrap64 (x14_7 + 1)) t353 t354)) else (none)) = some r := by first | (rw [hji102] at H; exact H) | (simp only [hji102] at H ⊢; exact H)
                by_cases c103 : 0 ≤ (ji102)
                ·rw [if_pos c103] at H
                 have c103b0 := eq_true c103
                 have c103b1 : decide (0 ≤ (ji102)) = true := decide_eq_true c103
                 clear c103
                 obtain ⟨ji104, hji104⟩ : ∃ j_ : Int, (shl .i64 1 (ji102)) = j_ := ⟨_, rfl⟩
                 replace H : (if t357 < (wrap64 (((rd_T73 x6_3 x14_7).f0) + (ji104))) then (if ((rd_T73 x6_3 x14_7).f0) < (wrap64 (t357 + ji73)) then (none) else (laws_FnFramesKept.l1 k7 l0 t335 t336 x6_3 x7_3 x8_3 t357 ji73 (wrap64 (x14_7 + 1)) t353 t354)) else (laws_FnFramesKept.l1 k7 l0 t335 t336 x6_3 x7_3 x8_3 t357 ji73 (wrap64 (x14_7 + 1)) t353 t354)) = some r := by first | (rw [hji104] at H; exact H) | (simp only [hji104] at H ⊢; exact H)
                 have hji104_ : (IntKind.i64.wrap (1 * 2 ^ min (ji102).toNat 64)) = ji104 := hji104
                 have hji104z : (ji102) ≤ 64 → (IntKind.i64.wrap (1 * 2 ^ (ji102).toNat)) = ji104 := shl_small hji104
                 have hji104u : (IntKind.i64.wrap (2 ^ min (ji102).toNat 64)) = ji104 := by have h_ := hji104_; rw [Int.one_mul] at h_; exact h_
                 have hji104v : (ji102) ≤ 64 → (IntKind.i64.wrap (2 ^ (ji102).toNat)) = ji104 := fun hle_ => by have h_ := hji104z hle_; rw [Int.one_mul] at h_; exact h_
                 have hji104y : (wrap64 (1 * 2 ^ min (ji102).toNat 64)) = ji104 := (i64_w _).symm.trans hji104_
                 have hji104x : (ji102) ≤ 64 → (wrap64 (1 * 2 ^ (ji102).toNat)) = ji104 := fun h_ => (i64_w _).symm.trans (hji104z h_)
                 by_cases c105 : t357 < (wrap64 (((rd_T73 x6_3 x14_7).f0) + (ji104)))
                 ·rw [if_pos c105] at H
                  have c105b0 : decide (t357 < (wrap64 (((rd_T73 x6_3 x14_7).f0) + (ji104)))) = true := decide_eq_true c105
                  clear c105
                  by_cases c106 : ((rd_T73 x6_3 x14_7).f0) < (wrap64 (t357 + ji73))
                  ·rw [if_pos c106] at H
                   exact absurd H (by simp)
                  rw [if_neg c106] at H
                  have c106b0 : decide (((rd_T73 x6_3 x14_7).f0) < (wrap64 (t357 + ji73))) = false := decide_eq_false c106
                  clear c106
                  have H' := Aside0.mk H
                  clear H
                  obtain ⟨Ao107, co107, eo107⟩ := Kd.R_slice HO_6.out
                  subst eo107
                  try go_wp2
                  have n0_ := Aside0.mk (Kd.R_drew HO_4.out)
                  have n1_ := Aside0.mk (Kd.R_drew HO_6.out)
                  have n2_ := Aside0.mk (Kd.R_drew HO_344001.out)
                  have n3_ := Aside0.mk (Kd.R_drew HO_359001.out)
                  have n4_ := Aside0.mk (Kd.R_drew HO_366001.out)
                  have n5_ := Aside0.mk (blk_drew BK343.out)
                  have n6_ := Aside0.mk (blk_drew BK358.out)
                  have n7_ := Aside0.mk (blk_drew BK365.out)
                  have n8_ := Aside0.mk (below_drew1 HB.out)
                  clear HO_4
                  clear HO_6
                  clear HO_344001
                  clear HO_359001
                  clear HO_366001
                  clear BK343
                  clear BK358
                  clear BK365
                  clear HB
                  have HO_4 := n0_
                  have HO_6 := n1_
                  have HO_344001 := n2_
                  have HO_359001 := n3_
                  have HO_366001 := n4_
                  have BK343 := n5_
                  have BK358 := n6_
                  have BK365 := n7_
                  have HB := n8_
                  clear n0_ n1_ n2_ n3_ n4_ n5_ n6_ n7_ n8_
                  have p367 : 0 ≤ (x14_7 : Int) := of_decide_eq_true Z11_14
                  have q367 : x14_7 < (x6_3.length : Int) := of_decide_eq_true Z11_14
                  obtain ⟨ad367, e367, hx367_0, hx367_1⟩ := at_T73 (Kd.R_reads' HO_6.out).2.2 x14_7 p367 q367
                  cases e367
                  replace p367 := eq_true p367
                  replace q367 := eq_true q367
                  have p368 : 0 ≤ (x14_7 : Int) := of_decide_eq_true Z11_14
                  have q368 : x14_7 < (x6_3.length : Int) := of_decide_eq_true Z11_14
                  obtain ⟨ad368, e368, hx368_0, hx368_1⟩ := at_T73 (Kd.R_reads' HO_6.out).2.2 x14_7 p368 q368
                  obtain rfl : ad367 = ad368 := (by injection e368)
                  replace p368 := eq_true p368
                  replace q368 := eq_true q368
                  refine start_ (n := 14) (S := fun w' => w'.cell? (ad367.add ((x14_7).toNat * 2)) = some (.int .i64 ((rd_T73 x6_3 x14_7).f0)) ∧ w'.cell? ⟨(ad367.add ((x14_7).toNat * 2)).block, (ad367.add ((x14_7).toNat * 2)).off + 1, none⟩ = some (.int .i64 ((rd_T73 x6_3 x14_7).f1)) ∧ w'.cell? (ad367.add ((x14_7).toNat * 2)) = some (.int .i64 ((rd_T73 x6_3 x14_7).f0)) ∧ w'.cell? ⟨(ad367.add ((x14_7).toNat * 2)).block, (ad367.add ((x14_7).toNat * 2)).off + 1, none⟩ = some (.int .i64 ((rd_T73 x6_3 x14_7).f1))) (ds := []) #[false, false, false, false, false, false, false, false, false, false, false, false, false, false] Z11_19 rfl rfl ⟨hx367_0, hx367_1, hx368_0, hx368_1⟩ (fun hHeld => ?_); refine with_tabW laws_FnFramesKept.tab27 laws_FnFramesKept.bits27 (fun HT_ HW_ => ?_)
                  generalize wr.drew = w108 at HO_4 HO_6 HO_344001 HO_359001 HO_366001 BK343 BK358 BK365 HB hx367_0 hx367_1 hx368_0 hx368_1 hHeld ⊢
                  refine pure_ (i := 0) (N := some 138) (v := ?_) (a' := ?_) #[true, false, false, false, false, false, false, false, false, false, false, false, false, false] rfl rfl (any_of HT_.out Z11_19) (fun _ _ _ h => h) (Or.inl ⟨by rfl, ?_⟩) ?_ ?_
                  rotate_left
                  ·intro w'
                   go_simp
                   with_reducible rfl
                  rotate_left
                  ·simp only [Act.put, List.setIfInBounds_toArray, List.set_cons_zero, List.set_cons_succ, i64_w, i32_w]
                   rfl
                  refine pure_ (i := 1) (N := some 139) (v := ?_) (a' := ?_) #[true, true, false, false, false, false, false, false, false, false, false, false, false, false] rfl rfl (any_of HT_.out Z11_19) (fun _ _ _ h => h) (Or.inl ⟨by rfl, ?_⟩) ?_ ?_
                  rotate_left
                  ·intro w'
                   go_simp
                   with_reducible rfl
                  rotate_left
                  ·simp only [Act.put, List.setIfInBounds_toArray, List.set_cons_zero, List.set_cons_succ, i64_w, i32_w]
                   rfl
                  refine pure_ (i := 2) (N := some 140) (v := ?_) (a' := ?_) #[true, true, true, false, false, false, false, false, false, false, false, false, false, false] rfl rfl (any_of HT_.out Z11_19) (fun _ _ _ h => h) (Or.inl ⟨by rfl, ?_⟩) ?_ ?_
                  rotate_left
                  ·intro w'
                   go_simp
                   with_reducible rfl
                  rotate_left
                  ·simp only [Act.put, List.setIfInBounds_toArray, List.set_cons_zero, List.set_cons_succ, i64_w, i32_w]
                   rfl
                  refine pure_ (i := 3) (N := some 141) (v := ?_) (a' := ?_) #[true, true, true, true, false, false, false, false, false, false, false, false, false, false] rfl rfl (any_of HT_.out Z11_19) (fun _ _ _ h => h) (Or.inl ⟨by rfl, ?_⟩) ?_ ?_
                  rotate_left
                  ·intro w'
                   go_simp
                   with_reducible rfl
                  rotate_left
                  ·simp only [Act.put, List.setIfInBounds_toArray, List.set_cons_zero, List.set_cons_succ, i64_w, i32_w]
                   rfl
                  refine pure_ (i := 5) (N := some 143) (v := ?_) (a' := ?_) #[true, true, true, true, false, true, false, false, false, false, false, false, false, false] rfl rfl (any_of HT_.out Z11_19) (fun _ _ _ h => h) (Or.inl ⟨by rfl, ?_⟩) ?_ ?_
                  rotate_left
                  ·intro w'
                   go_simp
                   with_reducible rfl
                  rotate_left
                  ·simp only [Act.put, List.setIfInBounds_toArray, List.set_cons_zero, List.set_cons_succ, i64_w, i32_w]
                   rfl
                  refine pure_ (i := 6) (N := some 144) (v := ?_) (a' := ?_) #[true, true, true, true, false, true, true, false, false, false, false, false, false, false] rfl rfl (any_of HT_.out Z11_19) (fun _ _ _ h => h) (Or.inl ⟨by rfl, ?_⟩) ?_ ?_
                  rotate_left
                  ·intro w'
                   go_simp
                   with_reducible rfl
                  rotate_left
                  ·simp only [Act.put, List.setIfInBounds_toArray, List.set_cons_zero, List.set_cons_succ, i64_w, i32_w]
                   rfl
                  refine pure_ (i := 7) (N := some 145) (v := ?_) (a' := ?_) #[true, true, true, true, false, true, true, true, false, false, false, false, false, false] rfl rfl (any_of HT_.out Z11_19) (fun _ _ _ h => h) (Or.inl ⟨by rfl, ?_⟩) ?_ ?_
                  rotate_left
                  ·intro w'
                   go_simp
                   with_reducible rfl
                  rotate_left
                  ·simp only [Act.put, List.setIfInBounds_toArray, List.set_cons_zero, List.set_cons_succ, i64_w, i32_w]
                   rfl
                  refine pure_ (i := 8) (N := some 146) (v := ?_) (a' := ?_) #[true, true, true, true, false, true, true, true, true, false, false, false, false, false] rfl rfl (any_of HT_.out Z11_19) (fun _ _ _ h => h) (Or.inl ⟨by rfl, ?_⟩) ?_ ?_
                  rotate_left
                  ·intro w'
                   go_simp
                   with_reducible rfl
                  rotate_left
                  ·simp only [Act.put, List.setIfInBounds_toArray, List.set_cons_zero, List.set_cons_succ, i64_w, i32_w]
                   rfl
                  refine take_ (i := 4) (N := some 142) (v := ?_) (a' := ?_) #[true, true, true, true, true, true, true, true, true, false, false, false, false, false] rfl rfl (take_ofW HT_.out HW_.out Z11_19) (fun _ _ _ h => h) (Or.inl ⟨by rfl, ?_⟩) hHeld ?_ ?_
                  rotate_left
                  ·rintro w' ⟨s0, s1, s2, s3⟩
                   go_simp
                   with_reducible rfl
                  rotate_left
                  ·simp only [Act.put, List.setIfInBounds_toArray, List.set_cons_zero, List.set_cons_succ, i64_w, i32_w]
                   rfl
                  refine take_ (i := 9) (N := some 147) (v := ?_) (a' := ?_) #[true, true, true, true, true, true, true, true, true, true, false, false, false, false] rfl rfl (take_ofW HT_.out HW_.out Z11_19) (fun _ _ _ h => h) (Or.inl ⟨by rfl, ?_⟩) hHeld ?_ ?_
                  rotate_left
                  ·rintro w' ⟨s0, s1, s2, s3⟩
                   go_simp
                   with_reducible rfl
                  rotate_left
                  ·simp only [Act.put, List.setIfInBounds_toArray, List.set_cons_zero, List.set_cons_succ, i64_w, i32_w]
                   rfl
                  refine pure_ (i := 10) (N := some 148) (v := ?_) (a' := ?_) #[true, true, true, true, true, true, true, true, true, true, true, false, false, false] rfl rfl (any_of HT_.out Z11_19) (fun _ _ _ h => h) (Or.inl ⟨by rfl, ?_⟩) ?_ ?_
                  rotate_left
                  ·intro w'
                   go_simp
                   with_reducible rfl
                  rotate_left
                  ·simp only [Act.put, List.setIfInBounds_toArray, List.set_cons_zero, List.set_cons_succ, i64_w, i32_w]
                   rfl
                  refine pure_ (i := 11) (N := some 149) (v := ?_) (a' := ?_) #[true, true, true, true, true, true, true, true, true, true, true, true, false, false] rfl rfl (any_of HT_.out Z11_19) (fun _ _ _ h => h) (Or.inl ⟨by rfl, ?_⟩) ?_ ?_
                  rotate_left
                  ·intro w'
                   go_simp
                   with_reducible rfl
                  rotate_left
                  ·simp only [Act.put, List.setIfInBounds_toArray, List.set_cons_zero, List.set_cons_succ, i64_w, i32_w]
                   rfl
                  refine pure_ (i := 12) (N := some 150) (v := ?_) (a' := ?_) #[true, true, true, true, true, true, true, true, true, true, true, true, true, false] rfl rfl (any_of HT_.out Z11_19) (fun _ _ _ h => h) (Or.inl ⟨by rfl, ?_⟩) ?_ ?_
                  rotate_left
                  ·intro w'
                   go_simp
                   with_reducible rfl
                  rotate_left
                  ·simp only [Act.put, List.setIfInBounds_toArray, List.set_cons_zero, List.set_cons_succ, i64_w, i32_w]
                   rfl
                  refine pure_ (i := 13) (N := some 15) (v := ?_) (a' := ?_) #[true, true, true, true, true, true, true, true, true, true, true, true, true, true] rfl rfl (any_of HT_.out Z11_19) (fun _ _ _ h => h) (Or.inl ⟨by rfl, ?_⟩) ?_ ?_
                  rotate_left
                  ·intro w'
                   go_simp
                   with_reducible rfl
                  rotate_left
                  ·simp only [Act.put, List.setIfInBounds_toArray, List.set_cons_zero, List.set_cons_succ, i64_w, i32_w]
                   rfl
                  refine done_ (done_of HT_.out Z11_19) ?_
                  have p369 : 0 ≤ (x14_7 : Int) := of_decide_eq_true Z11_14
                  have q369 : x14_7 < (x6_3.length : Int) := of_decide_eq_true Z11_14
                  obtain ⟨ad369, e369, hx369_0, hx369_1⟩ := at_T73 (Kd.R_reads' HO_6.out).2.2 x14_7 p369 q369
                  obtain rfl : ad367 = ad369 := (by injection e369)
                  replace p369 := eq_true p369
                  replace q369 := eq_true q369
                  try go_wp2
                  go_roundg k7
                  case measure => have := HJ5.out; have := HJ15.out; have := HK3.out; have := HJ28.out; have := HJ33.out; have := HJ73.out; have := HK7.out; omega
                  case rel => exact ⟨(wrap64 (x14_7 + 1)), Z11_13, H', ⟨Z11_56⟩, ⟨Z11_6⟩, ⟨Z11_5⟩, ⟨Z11_3⟩, ⟨Z11_31⟩, ⟨Z11_32⟩, ⟨Z11_1⟩, ⟨Z11_10⟩, ⟨Z11_20⟩, ⟨Z11_7⟩⟩
                 rw [if_neg c105] at H
                 have c105b0 : decide (t357 < (wrap64 (((rd_T73 x6_3 x14_7).f0) + (ji104)))) = false := decide_eq_false c105
                 clear c105
                 have H' := Aside0.mk H
                 clear H
                 obtain ⟨Ao109, co109, eo109⟩ := Kd.R_slice HO_6.out
                 subst eo109
                 try go_wp2
                 have n0_ := Aside0.mk (Kd.R_drew HO_4.out)
                 have n1_ := Aside0.mk (Kd.R_drew HO_6.out)
                 have n2_ := Aside0.mk (Kd.R_drew HO_344001.out)
                 have n3_ := Aside0.mk (Kd.R_drew HO_359001.out)
                 have n4_ := Aside0.mk (Kd.R_drew HO_366001.out)
                 have n5_ := Aside0.mk (blk_drew BK343.out)
                 have n6_ := Aside0.mk (blk_drew BK358.out)
                 have n7_ := Aside0.mk (blk_drew BK365.out)
                 have n8_ := Aside0.mk (below_drew1 HB.out)
                 clear HO_4
                 clear HO_6
                 clear HO_344001
                 clear HO_359001
                 clear HO_366001
                 clear BK343
                 clear BK358
                 clear BK365
                 clear HB
                 have HO_4 := n0_
                 have HO_6 := n1_
                 have HO_344001 := n2_
                 have HO_359001 := n3_
                 have HO_366001 := n4_
                 have BK343 := n5_
                 have BK358 := n6_
                 have BK365 := n7_
                 have HB := n8_
                 clear n0_ n1_ n2_ n3_ n4_ n5_ n6_ n7_ n8_
                 have p367 : 0 ≤ (x14_7 : Int) := of_decide_eq_true Z11_14
                 have q367 : x14_7 < (x6_3.length : Int) := of_decide_eq_true Z11_14
                 obtain ⟨ad367, e367, hx367_0, hx367_1⟩ := at_T73 (Kd.R_reads' HO_6.out).2.2 x14_7 p367 q367
                 cases e367
                 replace p367 := eq_true p367
                 replace q367 := eq_true q367
                 have p368 : 0 ≤ (x14_7 : Int) := of_decide_eq_true Z11_14
                 have q368 : x14_7 < (x6_3.length : Int) := of_decide_eq_true Z11_14
                 obtain ⟨ad368, e368, hx368_0, hx368_1⟩ := at_T73 (Kd.R_reads' HO_6.out).2.2 x14_7 p368 q368
                 obtain rfl : ad367 = ad368 := (by injection e368)
                 replace p368 := eq_true p368
                 replace q368 := eq_true q368
                 refine start_ (n := 14) (S := fun w' => w'.cell? (ad367.add ((x14_7).toNat * 2)) = some (.int .i64 ((rd_T73 x6_3 x14_7).f0)) ∧ w'.cell? ⟨(ad367.add ((x14_7).toNat * 2)).block, (ad367.add ((x14_7).toNat * 2)).off + 1, none⟩ = some (.int .i64 ((rd_T73 x6_3 x14_7).f1)) ∧ w'.cell? (ad367.add ((x14_7).toNat * 2)) = some (.int .i64 ((rd_T73 x6_3 x14_7).f0)) ∧ w'.cell? ⟨(ad367.add ((x14_7).toNat * 2)).block, (ad367.add ((x14_7).toNat * 2)).off + 1, none⟩ = some (.int .i64 ((rd_T73 x6_3 x14_7).f1))) (ds := []) #[false, false, false, false, false, false, false, false, false, false, false, false, false, false] Z11_19 rfl rfl ⟨hx367_0, hx367_1, hx368_0, hx368_1⟩ (fun hHeld => ?_); refine with_tabW laws_FnFramesKept.tab27 laws_FnFramesKept.bits27 (fun HT_ HW_ => ?_)
                 generalize wr.drew = w110 at HO_4 HO_6 HO_344001 HO_359001 HO_366001 BK343 BK358 BK365 HB hx367_0 hx367_1 hx368_0 hx368_1 hHeld ⊢
                 refine pure_ (i := 0) (N := some 138) (v := ?_) (a' := ?_) #[true, false, false, false, false, false, false, false, false, false, false, false, false, false] rfl rfl (any_of HT_.out Z11_19) (fun _ _ _ h => h) (Or.inl ⟨by rfl, ?_⟩) ?_ ?_
                 rotate_left
                 ·intro w'
                  go_simp
                  with_reducible rfl
                 rotate_left
                 ·simp only [Act.put, List.setIfInBounds_toArray, List.set_cons_zero, List.set_cons_succ, i64_w, i32_w]
                  rfl
                 refine pure_ (i := 1) (N := some 139) (v := ?_) (a' := ?_) #[true, true, false, false, false, false, false, false, false, false, false, false, false, false] rfl rfl (any_of HT_.out Z11_19) (fun _ _ _ h => h) (Or.inl ⟨by rfl, ?_⟩) ?_ ?_
                 rotate_left
                 ·intro w'
                  go_simp
                  with_reducible rfl
                 rotate_left
                 ·simp only [Act.put, List.setIfInBounds_toArray, List.set_cons_zero, List.set_cons_succ, i64_w, i32_w]
                  rfl
                 refine pure_ (i := 2) (N := some 140) (v := ?_) (a' := ?_) #[true, true, true, false, false, false, false, false, false, false, false, false, false, false] rfl rfl (any_of HT_.out Z11_19) (fun _ _ _ h => h) (Or.inl ⟨by rfl, ?_⟩) ?_ ?_
                 rotate_left
                 ·intro w'
                  go_simp
                  with_reducible rfl
                 rotate_left
                 ·simp only [Act.put, List.setIfInBounds_toArray, List.set_cons_zero, List.set_cons_succ, i64_w, i32_w]
                  rfl
                 refine pure_ (i := 3) (N := some 141) (v := ?_) (a' := ?_) #[true, true, true, true, false, false, false, false, false, false, false, false, false, false] rfl rfl (any_of HT_.out Z11_19) (fun _ _ _ h => h) (Or.inl ⟨by rfl, ?_⟩) ?_ ?_
                 rotate_left
                 ·intro w'
                  go_simp
                  with_reducible rfl
                 rotate_left
                 ·simp only [Act.put, List.setIfInBounds_toArray, List.set_cons_zero, List.set_cons_succ, i64_w, i32_w]
                  rfl
                 refine pure_ (i := 5) (N := some 143) (v := ?_) (a' := ?_) #[true, true, true, true, false, true, false, false, false, false, false, false, false, false] rfl rfl (any_of HT_.out Z11_19) (fun _ _ _ h => h) (Or.inl ⟨by rfl, ?_⟩) ?_ ?_
                 rotate_left
                 ·intro w'
                  go_simp
                  with_reducible rfl
                 rotate_left
                 ·simp only [Act.put, List.setIfInBounds_toArray, List.set_cons_zero, List.set_cons_succ, i64_w, i32_w]
                  rfl
                 refine pure_ (i := 6) (N := some 144) (v := ?_) (a' := ?_) #[true, true, true, true, false, true, true, false, false, false, false, false, false, false] rfl rfl (any_of HT_.out Z11_19) (fun _ _ _ h => h) (Or.inl ⟨by rfl, ?_⟩) ?_ ?_
                 rotate_left
                 ·intro w'
                  go_simp
                  with_reducible rfl
                 rotate_left
                 ·simp only [Act.put, List.setIfInBounds_toArray, List.set_cons_zero, List.set_cons_succ, i64_w, i32_w]
                  rfl
                 refine pure_ (i := 7) (N := some 145) (v := ?_) (a' := ?_) #[true, true, true, true, false, true, true, true, false, false, false, false, false, false] rfl rfl (any_of HT_.out Z11_19) (fun _ _ _ h => h) (Or.inl ⟨by rfl, ?_⟩) ?_ ?_
                 rotate_left
                 ·intro w'
                  go_simp
                  with_reducible rfl
                 rotate_left
                 ·simp only [Act.put, List.setIfInBounds_toArray, List.set_cons_zero, List.set_cons_succ, i64_w, i32_w]
                  rfl
                 refine pure_ (i := 8) (N := some 146) (v := ?_) (a' := ?_) #[true, true, true, true, false, true, true, true, true, false, false, false, false, false] rfl rfl (any_of HT_.out Z11_19) (fun _ _ _ h => h) (Or.inl ⟨by rfl, ?_⟩) ?_ ?_
                 rotate_left
                 ·intro w'
                  go_simp
                  with_reducible rfl
                 rotate_left
                 ·simp only [Act.put, List.setIfInBounds_toArray, List.set_cons_zero, List.set_cons_succ, i64_w, i32_w]
                  rfl
                 refine take_ (i := 4) (N := some 142) (v := ?_) (a' := ?_) #[true, true, true, true, true, true, true, true, true, false, false, false, false, false] rfl rfl (take_ofW HT_.out HW_.out Z11_19) (fun _ _ _ h => h) (Or.inl ⟨by rfl, ?_⟩) hHeld ?_ ?_
                 rotate_left
                 ·rintro w' ⟨s0, s1, s2, s3⟩
                  go_simp
                  with_reducible rfl
                 rotate_left
                 ·simp only [Act.put, List.setIfInBounds_toArray, List.set_cons_zero, List.set_cons_succ, i64_w, i32_w]
                  rfl
                 refine take_ (i := 9) (N := some 147) (v := ?_) (a' := ?_) #[true, true, true, true, true, true, true, true, true, true, false, false, false, false] rfl rfl (take_ofW HT_.out HW_.out Z11_19) (fun _ _ _ h => h) (Or.inl ⟨by rfl, ?_⟩) hHeld ?_ ?_
                 rotate_left
                 ·rintro w' ⟨s0, s1, s2, s3⟩
                  go_simp
                  with_reducible rfl
                 rotate_left
                 ·simp only [Act.put, List.setIfInBounds_toArray, List.set_cons_zero, List.set_cons_succ, i64_w, i32_w]
                  rfl
                 refine pure_ (i := 10) (N := some 148) (v := ?_) (a' := ?_) #[true, true, true, true, true, true, true, true, true, true, true, false, false, false] rfl rfl (any_of HT_.out Z11_19) (fun _ _ _ h => h) (Or.inl ⟨by rfl, ?_⟩) ?_ ?_
                 rotate_left
                 ·intro w'
                  go_simp
                  with_reducible rfl
                 rotate_left
                 ·simp only [Act.put, List.setIfInBounds_toArray, List.set_cons_zero, List.set_cons_succ, i64_w, i32_w]
                  rfl
                 refine pure_ (i := 11) (N := some 149) (v := ?_) (a' := ?_) #[true, true, true, true, true, true, true, true, true, true, true, true, false, false] rfl rfl (any_of HT_.out Z11_19) (fun _ _ _ h => h) (Or.inl ⟨by rfl, ?_⟩) ?_ ?_
                 rotate_left
                 ·intro w'
                  go_simp
                  with_reducible rfl
                 rotate_left
                 ·simp only [Act.put, List.setIfInBounds_toArray, List.set_cons_zero, List.set_cons_succ, i64_w, i32_w]
                  rfl
                 refine pure_ (i := 12) (N := some 150) (v := ?_) (a' := ?_) #[true, true, true, true, true, true, true, true, true, true, true, true, true, false] rfl rfl (any_of HT_.out Z11_19) (fun _ _ _ h => h) (Or.inl ⟨by rfl, ?_⟩) ?_ ?_
                 rotate_left
                 ·intro w'
                  go_simp
                  with_reducible rfl
                 rotate_left
                 ·simp only [Act.put, List.setIfInBounds_toArray, List.set_cons_zero, List.set_cons_succ, i64_w, i32_w]
                  rfl
                 refine pure_ (i := 13) (N := some 15) (v := ?_) (a' := ?_) #[true, true, true, true, true, true, true, true, true, true, true, true, true, true] rfl rfl (any_of HT_.out Z11_19) (fun _ _ _ h => h) (Or.inl ⟨by rfl, ?_⟩) ?_ ?_
                 rotate_left
                 ·intro w'
                  go_simp
                  with_reducible rfl
                 rotate_left
                 ·simp only [Act.put, List.setIfInBounds_toArray, List.set_cons_zero, List.set_cons_succ, i64_w, i32_w]
                  rfl
                 refine done_ (done_of HT_.out Z11_19) ?_
                 try go_wp2
                 go_roundg k7
                 case measure => have := HJ5.out; have := HJ15.out; have := HK3.out; have := HJ28.out; have := HJ33.out; have := HJ73.out; have := HK7.out; omega
                 case rel => exact ⟨(wrap64 (x14_7 + 1)), Z11_13, H', ⟨Z11_56⟩, ⟨Z11_6⟩, ⟨Z11_5⟩, ⟨Z11_3⟩, ⟨Z11_31⟩, ⟨Z11_32⟩, ⟨Z11_1⟩, ⟨Z11_10⟩, ⟨Z11_20⟩, ⟨Z11_7⟩⟩
                rw [if_neg c103] at H
                exact absurd H (by simp)
               rw [if_neg c101] at H
               exact absurd H (by simp))⟩
              exact NE_ (inferInstanceAs (Nonempty (type_of% ?L12)))
             rw [if_neg c100] at H
             have c100b0 : decide (x14_7 < (x6_3.length : Int)) = false := decide_eq_false c100
             clear c100
             by_cases c111 : 0 ≤ x8_3
             ·
              refine ?L13
              letI iL13 : Nonempty (type_of% ?L13) := ⟨(by
               rw [if_pos c111] at H
               have c111b0 : decide (0 ≤ x8_3) = true := decide_eq_true c111
               clear c111
               by_cases c112 : x8_3 < (t336.length : Int)
               ·rw [if_pos c112] at H
                have c112b0 : decide (x8_3 < (t336.length : Int)) = true := decide_eq_true c112
                clear c112
                by_cases c113 : x6_3.length < 8796093022208
                ·rw [if_pos c113] at H
                 have LMc113 := Aside0.mk c113
                 clear c113
                 obtain ⟨y371, hy371⟩ : ∃ y_ : List (S73), y_ = (x6_3 ++ [(⟨t357, (rd_T70 t336 x8_3).f2⟩ : S73)]) := ⟨_, rfl⟩
                 replace H : ((spec_FramesOk.f k7 t353 t354).bind fun t374 => (if t374 = true then ((impl_FramesLeft.f k7 t353 t354).bind fun t375 => (if (wrap64 (t375 + (wrap64 (x7_3 + ji73)))) = t335 then (laws_FnFramesKept.l0 k7 l0 t335 t336 y371 (wrap64 (x7_3 + ji73)) (wrap64 (x8_3 + 1)) t353 t354) else (none))) else (none))) = some r := by first | (rw [hy371]; with_reducible exact H) | (have H2_ := (Option.bind_some _ _).symm.trans H; rw [hy371]; with_reducible exact H2_) | (have H2_ := (Option.bind_some _ _).symm.trans H; with_reducible exact H2_) | with_reducible exact H | (rw [hy371]; exact H) | exact H
                 have Ny371 := Aside0.mk hy371
                 clear hy371
                 replace H := Option.bind_eq_some_iff.mp H
                 obtain ⟨t374, A1140, H⟩ := H
                 (try dsimp only at H)
                 have A114 := Aside0.mk A1140
                 clear A1140
                 by_cases c115 : t374 = true
                 ·subst c115
                  have H1 : ((impl_FramesLeft.f k7 t353 t354).bind fun t375 => (if (wrap64 (t375 + (wrap64 (x7_3 + ji73)))) = t335 then (laws_FnFramesKept.l0 k7 l0 t335 t336 y371 (wrap64 (x7_3 + ji73)) (wrap64 (x8_3 + 1)) t353 t354) else (none))) = some r := by rw [if_pos rfl] at H; exact H
                  clear H
                  have H := H1
                  clear H1
                  replace H := Option.bind_eq_some_iff.mp H
                  obtain ⟨t375, A1160, H⟩ := H
                  (try dsimp only at H)
                  have A116 := Aside0.mk A1160
                  clear A1160
                  by_cases c117 : (wrap64 (t375 + (wrap64 (x7_3 + ji73)))) = t335
                  ·rw [if_pos c117] at H
                   have c117b0 : ((wrap64 (t375 + (wrap64 (x7_3 + ji73)))) == t335) = true := beq_iff_eq.mpr c117
                   have c117b1 : ((wrap64 (t375 + (wrap64 (x7_3 + ji73)))) != t335) = false := bne_eq_false_iff_eq.mpr c117
                   clear c117
                   have H' := Aside0.mk H
                   clear H
                   obtain ⟨Ao118, co118, eo118⟩ := Kd.R_slice HO_6.out
                   subst eo118
                   have p370 : 0 ≤ (x8_3 : Int) := of_decide_eq_true Z11_14
                   have q370 : x8_3 < (t336.length : Int) := of_decide_eq_true Z11_14
                   obtain ⟨ad370, e370, hx370_0, hx370_1, hx370_2⟩ := at_T70 (Kd.R_reads' HO_4.out).2.2 x8_3 p370 q370
                   obtain rfl : ad352 = ad370 := (by injection e370)
                   replace p370 := eq_true p370
                   replace q370 := eq_true q370
                   go_wp2_with (first | ((with_reducible refine gate_builtin (b := .append) (xs := #[.tmp 165, .tmp 173]) rfl ?_); at_builtin; refine Kd.R_append k73 (w0 := w) w.heap.size rfl (.tmp 165) (.tmp 173) 48 73 (.agg #[(.int .i64 0), (.int .i64 0)]) 16 rfl Try.underlying48 info73 rfl Z11_64 (by omega) (.slice Ao118 x6_3.length co118) x6_3 (⟨t357, (rd_T70 t336 x8_3).f2⟩ : S73) [.int .i64 t357, .int .i64 ((rd_T70 t336 x8_3).f2)] (fun k_ => nb_ k_ Ao82 t354.length co82 ∧ nb_ k_ Ao82 t354.length co82 ∧ nb_ k_ Ao90 t361.length co90) (fun _ => False) rfl rfl ?aP (fun _ hk => hk.elim) ?aF ?aO ?aB ?aS ?aL ?_; (case aP => exact k73_mkM _ _ _ (⟨t357, (rd_T70 t336 x8_3).f2⟩ : S73)); (case aB => exact Z11_7); (case aF => exact (fun k_ hk => ⟨Kd.fresh' (Kd.R_lt Z11_3) k_ hk, Kd.fresh' (Kd.R_lt Z11_31) k_ hk, Kd.fresh' (Kd.R_lt Z11_32) k_ hk⟩)); (case aO => exact Z11_5); (case aS => exact (below_size Z11_7)); (case aL => have := LMc113.out; omega); intro v372 w119 ho hb hg hat; rw [← Ny371.out] at ho; have n0_ := Aside0.mk (Kd.R_over' Z11_6 (Kd.R_typed Z11_5) Z11_64 hg); have n1_ := Aside0.mk (Kd.R_after (ok := (fun k_ => nb_ k_ Ao90 t361.length co90)) Z11_21 hg hat); have n2_ := Aside0.mk (Kd.R_after (ok := (fun k_ => nb_ k_ Ao90 t361.length co90)) (by (with_reducible repeat (first | apply Kd.R_alloc | apply Kd.R_drewN | apply Kd.R_drew)); exact Kd.R_mono HO_359001.out (fun _ hk => ⟨hk.2, hk.1⟩)) hg hat); have n3_ := Aside0.mk (Kd.R_after (ok := (fun k_ => nb_ k_ Ao82 t354.length co82 ∧ nb_ k_ Ao82 t354.length co82)) (by (with_reducible repeat (first | apply Kd.R_alloc | apply Kd.R_drewN | apply Kd.R_drew)); exact Kd.R_mono HO_366001.out (fun _ hk => ⟨⟨hk.2.1, hk.2.2⟩, hk.1⟩)) hg hat); have n4_ := Aside0.mk (blk_grown (g := gb343) (o := .cells #[.int .i64 t353, .slice Ao82 t354.length co82] 50 (0, 0)) Z11_1 hg (Kd.R_ne HO_6.out BK343.out Z11_64)); have n5_ := Aside0.mk (blk_grown (g := gb358) (o := .cells #[.int .i64 t353, .slice Ao82 t354.length co82] 50 (0, 0)) Z11_10 hg (Kd.R_ne HO_6.out BK358.out Z11_64)); have n6_ := Aside0.mk (blk_grown (g := gb365) (o := .cells #[.int .i64 t360, .slice Ao90 t361.length co90] 50 (0, 0)) Z11_20 hg (Kd.R_ne HO_6.out BK365.out Z11_64)); have n7_ := Aside0.mk (hb); have n8_ := Aside0.mk (ho); clear HO_4; clear HO_344001; clear HO_359001; clear HO_366001; clear BK343; clear BK358; clear BK365; clear HB; clear HO_6; have HO_4 := n0_; have HO_344001 := n1_; have HO_359001 := n2_; have HO_366001 := n3_; have BK343 := n4_; have BK358 := n5_; have BK365 := n6_; have HB := n7_; have HO373 := n8_; clear n0_ n1_ n2_ n3_ n4_ n5_ n6_ n7_ n8_; clear ho hb hg hat; have hnb120 := NB343_358.out; have hnc120 := NB358_343.out; have hnb121 := NB343_365.out; have hnc121 := NB365_343.out; have hcz122_0 : w119.cell? ⟨gb343, 0, none⟩ = some (.int .i64 t353) := (blk_cell BK343.out 0).trans rfl; have hcz122_1 : w119.cell? ⟨gb343, 1, none⟩ = some (.slice Ao82 t354.length co82) := (blk_cell BK343.out 1).trans rfl; have hfz122_0 := blk_frozen BK343.out 0; have hfz122_1 := blk_frozen BK343.out 1) | ((with_reducible refine gate_callee (f := 30) rfl ?_); refine goesL_ (some 179) rfl rfl Try.func30 Z11_19 rfl #[.agg #[.int .i64 t353, .slice Ao82 t354.length co82]] rfl Z11_11 ?_; (with_reducible refine (spec_FramesOk.calls k7 t353 _ _ t354 true _ ?side1 ?side2 A114.out).mono ?_); (case side1 => exact Z11_12); (case side2 => exact (Kd.R_reads' HO_344001.out).2.1); rintro e w123 ⟨rfl, hb⟩; refine ⟨_, rfl, ?_⟩; have n0_ := Aside0.mk (Kd.R_below Z11_6 hb); have n1_ := Aside0.mk (Kd.R_below Z11_3 hb); have n2_ := Aside0.mk (Kd.R_below Z11_31 hb); have n3_ := Aside0.mk (Kd.R_below Z11_32 hb); have n4_ := Aside0.mk (Kd.R_below (by (with_reducible repeat (first | apply Kd.R_alloc | apply Kd.R_drewN | apply Kd.R_drew)); exact HO373.out) hb); have n5_ := Aside0.mk (blk_below (g := gb343) (o := .cells #[.int .i64 t353, .slice Ao82 t354.length co82] 50 (0, 0)) Z11_1 hb); have n6_ := Aside0.mk (blk_below (g := gb358) (o := .cells #[.int .i64 t353, .slice Ao82 t354.length co82] 50 (0, 0)) Z11_10 hb); have n7_ := Aside0.mk (blk_below (g := gb365) (o := .cells #[.int .i64 t360, .slice Ao90 t361.length co90] 50 (0, 0)) Z11_20 hb); have n8_ := Aside0.mk (below_step Z11_7 hb); clear HO_4; clear HO_344001; clear HO_359001; clear HO_366001; clear HO373; clear BK343; clear BK358; clear BK365; clear HB; have HO_4 := n0_; have HO_344001 := n1_; have HO_359001 := n2_; have HO_366001 := n3_; have HO373 := n4_; have BK343 := n5_; have BK358 := n6_; have BK365 := n7_; have HB := n8_; clear n0_ n1_ n2_ n3_ n4_ n5_ n6_ n7_ n8_; (try clear hb); (try clear hb2); (try clear hk); (try clear hi); have hcz124_0 : w123.cell? ⟨gb343, 0, none⟩ = some (.int .i64 t353) := (blk_cell BK343.out 0).trans rfl; have hcz124_1 : w123.cell? ⟨gb343, 1, none⟩ = some (.slice Ao82 t354.length co82) := (blk_cell BK343.out 1).trans rfl; have hfz124_0 := blk_frozen BK343.out 0; have hfz124_1 := blk_frozen BK343.out 1) | (go_at_call 35; (with_reducible refine (impl_FramesLeft.calls k7 t353 _ _ t354 t375 _ ?side1 ?side2 A116.out).mono ?_); (case side1 => exact Z11_12); (case side2 => exact (Kd.R_reads' HO_344001.out).2.1); rintro e w125 ⟨rfl, hb⟩; have n0_ := Aside0.mk (Kd.R_below Z11_6 hb); have n1_ := Aside0.mk (Kd.R_below Z11_3 hb); have n2_ := Aside0.mk (Kd.R_below Z11_31 hb); have n3_ := Aside0.mk (Kd.R_below Z11_32 hb); have n4_ := Aside0.mk (Kd.R_below (by (with_reducible repeat (first | apply Kd.R_alloc | apply Kd.R_drewN | apply Kd.R_drew)); exact HO373.out) hb); have n5_ := Aside0.mk (blk_below (g := gb343) (o := .cells #[.int .i64 t353, .slice Ao82 t354.length co82] 50 (0, 0)) Z11_1 hb); have n6_ := Aside0.mk (blk_below (g := gb358) (o := .cells #[.int .i64 t353, .slice Ao82 t354.length co82] 50 (0, 0)) Z11_10 hb); have n7_ := Aside0.mk (blk_below (g := gb365) (o := .cells #[.int .i64 t360, .slice Ao90 t361.length co90] 50 (0, 0)) Z11_20 hb); have n8_ := Aside0.mk (below_step Z11_7 hb); clear HO_4; clear HO_344001; clear HO_359001; clear HO_366001; clear HO373; clear BK343; clear BK358; clear BK365; clear HB; have HO_4 := n0_; have HO_344001 := n1_; have HO_359001 := n2_; have HO_366001 := n3_; have HO373 := n4_; have BK343 := n5_; have BK358 := n6_; have BK365 := n7_; have HB := n8_; clear n0_ n1_ n2_ n3_ n4_ n5_ n6_ n7_ n8_; (try clear hb); (try clear hb2); (try clear hk); (try clear hi)))
                   go_roundg k7
                   case measure => have := HJ5.out; have := HJ15.out; have := HK3.out; have := HJ28.out; have := HJ33.out; have := HJ73.out; have := HK7.out; omega
                   case rel => exact ⟨(y371), (wrap64 (x7_3 + ji73)), (wrap64 (x8_3 + 1)), (t353), (t354), (.slice Ao82 t354.length co82), (by first | rfl | (simp; done) | (simp only [← hji73] <;> (first | rfl | simp)) | (simp [*]; done)), Z11_13, H', ⟨Z11_56⟩, ⟨Z11_6⟩, ⟨by (with_reducible repeat (first | apply Kd.R_alloc | apply Kd.R_drewN | apply Kd.R_drew)); exact Kd.R_mono HO373.out (fun _ hk => hk.1)⟩, ⟨Z11_68⟩, ⟨Z11_1⟩, ⟨Z11_7⟩⟩
                  rw [if_neg c117] at H
                  exact absurd H (by simp)
                 replace c115 := Bool.eq_false_iff.mpr c115
                 subst c115
                 have H1 : (none) = some r := by rw [if_neg (show ¬ (false = true) by decide)] at H; exact H
                 clear H
                 have H := H1
                 clear H1
                 exact absurd H (by simp)
                rw [if_neg c113] at H
                exact absurd H (by simp)
               rw [if_neg c112] at H
               exact absurd H (by simp))⟩
              exact NE_ (inferInstanceAs (Nonempty (type_of% ?L13)))
             rw [if_neg c111] at H
             exact absurd H (by simp))⟩
             exact NE_ (inferInstanceAs (Nonempty (type_of% ?R1))))⟩
            exact NE_ (inferInstanceAs (Nonempty (type_of% ?R2)))
          rw [if_neg c72] at H
          exact absurd H (by simp)
         rw [if_neg c47] at H
         exact absurd H (by simp)
        rw [if_neg c44] at H
        exact absurd H (by simp)
       rw [if_neg c43] at H
       exact absurd H (by simp))⟩
       exact NE_ (inferInstanceAs (Nonempty (type_of% ?R3)))
     replace c33 := Bool.eq_false_iff.mpr c33
     subst c33
     have H1 : (laws_FnFramesKept.l2 kj28 l0 t335 x6_3 0 x344000_3 x344001_3) = some r := by rw [if_neg (show ¬ (false = true) by decide)] at H; exact H
     clear H
     have H := H1
     clear H1
     have H' := Aside0.mk H
     clear H
     go_wp2
     go_loopg [16] kj28 (fun kq v16 w' => ∃ (x6_5 : List (S73)) (x16_5 : Int) (x344000_5 : Int) (x344001_5 : List (S73)) (u344001 : Value), v16 = .int .i64 x16_5 ∧ Aside0 (laws_FnFramesKept.l2 kq l0 t335 x6_5 x16_5 x344000_5 x344001_5 = some r) ∧ Aside0 (kq ≤ kj28) ∧ Aside0 (Kd.R k73 73 w' w.heap.size (fun k_ => some k_ ≠ (u344001 : Value).ownBlock) u6 x6_5) ∧ Aside0 (Kd.R k73 73 w' w.heap.size (fun k_ => some k_ ≠ (u6 : Value).ownBlock) u344001 x344001_5) ∧ Aside0 (w'.heap[gb343]? = some (.cells #[.int .i64 x344000_5, u344001] 50 (0, 0))) ∧ Aside0 (Below w.heap.size w w'))
     case atStart => exact ⟨(x6_3), (0), (x344000_3), (x344001_3), (u344001), Z11_13, H', ⟨Nat.le_refl _⟩, ⟨Z11_5⟩, ⟨Z11_3⟩, ⟨Z11_1⟩, ⟨Z11_2⟩⟩
     clear H'
     try clear c1
     try clear p2
     try clear c3
     try clear p3
     try clear q3
     try clear hx3
     try clear c4
     try clear p6
     try clear c7
     try clear c9
     try clear c10
     try clear c11
     try clear c12
     try clear c30
     try clear c33
     try clear p35
     try clear q35
     try clear hx35
     try clear p36
     try clear q36
     try clear hx36
     try clear p37
     try clear q37
     try clear hx37
     try clear c43
     try clear c44
     try clear c47
     try clear p64
     try clear c72
     try clear c92
     try clear c93
     try clear c95
     try clear c97
     try clear c97b0
     try clear c97b1
     try clear c98
     try clear c98b0
     try clear c98b1
     try clear c99
     try clear c100
     try clear c100b0
     try clear c101
     try clear c101b0
     try clear c103
     try clear c103b0
     try clear c103b1
     try clear c105
     try clear c105b0
     try clear c106
     try clear c106b0
     try clear c111
     try clear c111b0
     try clear c112
     try clear c112b0
     try clear c113
     try clear c115
     try clear c117
     try clear c117b0
     try clear c117b1
     try clear c120
     try clear c121
     try clear hcz122_0
     try clear hcz122_1
     try clear hcz124_0
     try clear hcz124_1
     try clear hcz94_0
     try clear hcz94_1
     try clear hcz96_0
     try clear hcz96_1
     try clear hfz122_0
     try clear hfz122_1
     try clear hfz124_0
     try clear hfz124_1
     try clear hfz94_0
     try clear hfz94_1
     try clear hfz96_0
     try clear hfz96_1
     try clear hx359_0
     try clear hx359_1
     try clear hx359_2
     try clear hx366_0
     try clear hx366_1
     try clear hx366_2
     try clear hx367_0
     try clear hx367_1
     try clear hx368_0
     try clear hx368_1
     try clear hx369_0
     try clear hx369_1
     try clear hx370_0
     try clear hx370_1
     try clear hx370_2
     try clear p2
     try clear p3
     try clear p35
     try clear p359
     try clear p36
     try clear p366
     try clear p367
     try clear p368
     try clear p369
     try clear p370
     try clear p6
     try clear p64
     try clear q3
     try clear q35
     try clear q359
     try clear q36
     try clear q366
     try clear q367
     try clear q368
     try clear q369
     try clear q370
     obtain ⟨x6_5, x16_5, x344000_5, x344001_5, u344001, rfl, HA, HK5, HO_6, HO_344001, BK343, HB⟩ := hrel
     cases gk with
     | zero => exact absurd HA.out (by simp [laws_FnFramesKept.l2])
     | succ k5 =>
      refine ?R7
      letI iR7 : Nonempty (type_of% ?R7) := ⟨(by
      have H := HA.out
      clear HA
      simp only [laws_FnFramesKept.l2] at H
      by_cases c126 : x16_5 < (x6_5.length : Int)
      ·rw [if_pos c126] at H
       have c126b0 : decide (x16_5 < (x6_5.length : Int)) = true := decide_eq_true c126
       clear c126
       by_cases c127 : (x6_5.length : Int) = 0
       ·rw [if_pos c127] at H
        exact absurd H (by simp)
       rw [if_neg c127] at H
       have c127b0 : ((x6_5.length : Int) == 0) = false := beq_eq_false_iff_ne.mpr c127
       have c127b1 : ((x6_5.length : Int) != 0) = true := bne_iff_ne.mpr c127
       have c127b2 : ¬ (x6_5 = []) := fun h_ => c127 (by rw [h_]; rfl)
       have H' := Aside0.mk H
       clear H
       obtain ⟨Ao128, co128, eo128⟩ := Kd.R_slice HO_6.out
       subst eo128
       go_wp2
       go_loopg [17] k5 (fun kq v17 w' => ∃ (x17_6 : Int), v17 = .int .i64 x17_6 ∧ Aside0 (laws_FnFramesKept.l3 kq l0 t335 x6_5 x16_5 x17_6 x344000_5 x344001_5 = some r) ∧ Aside0 (kq ≤ k5) ∧ Aside0 (Kd.R k73 73 w' w.heap.size (fun k_ => some k_ ≠ (u344001 : Value).ownBlock) (.slice Ao128 x6_5.length co128) x6_5) ∧ Aside0 (Kd.R k73 73 w' w.heap.size (fun k_ => some k_ ≠ ((.slice Ao128 x6_5.length co128) : Value).ownBlock) u344001 x344001_5) ∧ Aside0 (w'.heap[gb343]? = some (.cells #[.int .i64 x344000_5, u344001] 50 (0, 0))) ∧ Aside0 (Below w.heap.size w w'))
       case atStart => exact ⟨(Int.tmod (wrap64 ((wrap64 (x16_5 * 7)) + (l0.length : Int))) (x6_5.length : Int)), Z11_13, H', ⟨Nat.le_refl _⟩, ⟨Z11_5⟩, ⟨Z11_3⟩, ⟨Z11_1⟩, ⟨Z11_2⟩⟩
       clear H'
       try clear c1
       try clear p2
       try clear c3
       try clear p3
       try clear q3
       try clear hx3
       try clear c4
       try clear p6
       try clear c7
       try clear c9
       try clear c10
       try clear c11
       try clear c12
       try clear c30
       try clear c33
       try clear p35
       try clear q35
       try clear hx35
       try clear p36
       try clear q36
       try clear hx36
       try clear p37
       try clear q37
       try clear hx37
       try clear c43
       try clear c44
       try clear c47
       try clear p64
       try clear c72
       try clear c92
       try clear c93
       try clear c95
       try clear c97
       try clear c97b0
       try clear c97b1
       try clear c98
       try clear c98b0
       try clear c98b1
       try clear c99
       try clear c100
       try clear c100b0
       try clear c101
       try clear c101b0
       try clear c103
       try clear c103b0
       try clear c103b1
       try clear c105
       try clear c105b0
       try clear c106
       try clear c106b0
       try clear c111
       try clear c111b0
       try clear c112
       try clear c112b0
       try clear c113
       try clear c115
       try clear c117
       try clear c117b0
       try clear c117b1
       try clear c120
       try clear c121
       try clear c126
       try clear c126b0
       try clear c127
       try clear c127b0
       try clear c127b1
       try clear c127b2
       try clear hcz122_0
       try clear hcz122_1
       try clear hcz124_0
       try clear hcz124_1
       try clear hcz94_0
       try clear hcz94_1
       try clear hcz96_0
       try clear hcz96_1
       try clear hfz122_0
       try clear hfz122_1
       try clear hfz124_0
       try clear hfz124_1
       try clear hfz94_0
       try clear hfz94_1
       try clear hfz96_0
       try clear hfz96_1
       try clear hx359_0
       try clear hx359_1
       try clear hx359_2
       try clear hx366_0
       try clear hx366_1
       try clear hx366_2
       try clear hx367_0
       try clear hx367_1
       try clear hx368_0
       try clear hx368_1
       try clear hx369_0
       try clear hx369_1
       try clear hx370_0
       try clear hx370_1
       try clear hx370_2
       try clear p2
       try clear p3
       try clear p35
       try clear p359
       try clear p36
       try clear p366
       try clear p367
       try clear p368
       try clear p369
       try clear p37
       try clear p370
       try clear p6
       try clear p64
       try clear q3
       try clear q35
       try clear q359
       try clear q36
       try clear q366
       try clear q367
       try clear q368
       try clear q369
       try clear q37
       try clear q370
       obtain ⟨x17_6, rfl, HA, HK6, HO_6, HO_344001, BK343, HB⟩ := hrel
       cases gk with
       | zero => exact absurd HA.out (by simp [laws_FnFramesKept.l3])
       | succ k6 =>
        refine ?R4
        letI iR4 : Nonempty (type_of% ?R4) := ⟨(by
        have H := HA.out
        clear HA
        simp only [laws_FnFramesKept.l3] at H
        by_cases c129 : 0 ≤ x17_6
        ·
         refine ?L14
         letI iL14 : Nonempty (type_of% ?L14) := ⟨(by
          rw [if_pos c129] at H
          have c129b0 : decide (0 ≤ x17_6) = true := decide_eq_true c129
          clear c129
          by_cases c130 : x17_6 < (x6_5.length : Int)
          ·rw [if_pos c130] at H
           have c130b0 : decide (x17_6 < (x6_5.length : Int)) = true := decide_eq_true c130
           clear c130
           by_cases c131 : ((rd_T73 x6_5 x17_6).f1) < 0
           ·rw [if_pos c131] at H
            have c131b0 : decide (((rd_T73 x6_5 x17_6).f1) < 0) = true := decide_eq_true c131
            clear c131
            by_cases c132 : (x6_5.length : Int) = 0
            ·rw [if_pos c132] at H
             exact absurd H (by simp)
            rw [if_neg c132] at H
            have c132b0 : ((x6_5.length : Int) == 0) = false := beq_eq_false_iff_ne.mpr c132
            have c132b1 : ((x6_5.length : Int) != 0) = true := bne_iff_ne.mpr c132
            have c132b2 : ¬ (x6_5 = []) := fun h_ => c132 (by rw [h_]; rfl)
            have H' := Aside0.mk H
            clear H
            have p376 : 0 ≤ (x17_6 : Int) := of_decide_eq_true Z11_14
            have q376 : x17_6 < (x6_5.length : Int) := of_decide_eq_true Z11_14
            obtain ⟨ad376, e376, hx376_0, hx376_1⟩ := at_T73 (Kd.R_reads' HO_6.out).2.2 x17_6 p376 q376
            cases e376
            replace p376 := eq_true p376
            replace q376 := eq_true q376
            go_wp2
            go_roundg k6
            case measure => have := HJ5.out; have := HJ15.out; have := HK3.out; have := HJ28.out; have := HK5.out; have := HK6.out; omega
            case rel => exact ⟨(Int.tmod (wrap64 (x17_6 + 1)) (x6_5.length : Int)), Z11_13, H', ⟨by have := HJ5.out; have := HJ15.out; have := HK3.out; have := HJ28.out; have := HK5.out; have := HK6.out; omega⟩, ⟨Z11_5⟩, ⟨Z11_3⟩, ⟨Z11_1⟩, ⟨Z11_2⟩⟩
           rw [if_neg c131] at H
           have c131b0 : decide (((rd_T73 x6_5 x17_6).f1) < 0) = false := decide_eq_false c131
           clear c131
           replace H := Option.bind_eq_some_iff.mp H
           obtain ⟨⟨t379, t380, t383⟩, A1330, H⟩ := H
           (try dsimp only at H)
           have A133 := Aside0.mk A1330
           clear A1330
           by_cases c134 : t383 = true
           ·subst c134
            have H1 : (laws_FnFramesKept.l2 k6 l0 t335 (x6_5.set (x17_6 : Int).toNat (⟨(rd_T73 x6_5 x17_6).f0, (-1)⟩ : S73)) (wrap64 (x16_5 + 1)) t379 t380) = some r := by rw [if_pos rfl] at H; exact H
            clear H
            have H := H1
            clear H1
            obtain ⟨y385, hy385⟩ : ∃ y_ : List (S73), y_ = (x6_5.set (x17_6 : Int).toNat (⟨(rd_T73 x6_5 x17_6).f0, (-1)⟩ : S73)) := ⟨_, rfl⟩
            replace H : (laws_FnFramesKept.l2 k6 l0 t335 y385 (wrap64 (x16_5 + 1)) t379 t380) = some r := by first | (rw [hy385]; with_reducible exact H) | (have H2_ := (Option.bind_some _ _).symm.trans H; rw [hy385]; with_reducible exact H2_) | (have H2_ := (Option.bind_some _ _).symm.trans H; with_reducible exact H2_) | with_reducible exact H | (rw [hy385]; exact H) | exact H
            have Ny385 := Aside0.mk hy385
            clear hy385
            have H' := Aside0.mk H
            clear H
            have p376 : 0 ≤ (x17_6 : Int) := of_decide_eq_true Z11_14
            have q376 : x17_6 < (x6_5.length : Int) := of_decide_eq_true Z11_14
            obtain ⟨ad376, e376, hx376_0, hx376_1⟩ := at_T73 (Kd.R_reads' HO_6.out).2.2 x17_6 p376 q376
            cases e376
            replace p376 := eq_true p376
            replace q376 := eq_true q376
            obtain ⟨Ao136, co136, eo136⟩ := Kd.R_slice HO_344001.out
            subst eo136
            try go_wp2
            have n0_ := Aside0.mk (Kd.R_drew HO_6.out)
            have n1_ := Aside0.mk (Kd.R_drew HO_344001.out)
            have n2_ := Aside0.mk (blk_drew BK343.out)
            have n3_ := Aside0.mk (below_drew1 HB.out)
            clear HO_6
            clear HO_344001
            clear BK343
            clear HB
            have HO_6 := n0_
            have HO_344001 := n1_
            have BK343 := n2_
            have HB := n3_
            clear n0_ n1_ n2_ n3_
            have p377 : 0 ≤ (x17_6 : Int) := of_decide_eq_true Z11_14
            have q377 : x17_6 < (x6_5.length : Int) := of_decide_eq_true Z11_14
            obtain ⟨ad377, e377, hx377_0, hx377_1⟩ := at_T73 (Kd.R_reads' HO_6.out).2.2 x17_6 p377 q377
            obtain rfl : ad376 = ad377 := (by injection e377)
            replace p377 := eq_true p377
            replace q377 := eq_true q377
            have p378 : 0 ≤ (x17_6 : Int) := of_decide_eq_true Z11_14
            have q378 : x17_6 < (x6_5.length : Int) := of_decide_eq_true Z11_14
            obtain ⟨ad378, e378, hx378_0, hx378_1⟩ := at_T73 (Kd.R_reads' HO_6.out).2.2 x17_6 p378 q378
            obtain rfl : ad376 = ad378 := (by injection e378)
            replace p378 := eq_true p378
            replace q378 := eq_true q378
            refine start_ (n := 18) (S := fun w' => w'.cell? ⟨gb343, 0, none⟩ = some (.int .i64 x344000_5) ∧ w'.cell? ⟨gb343, 1, none⟩ = some (.slice Ao136 x344001_5.length co136) ∧ w'.cell? (ad376.add ((x17_6).toNat * 2)) = some (.int .i64 ((rd_T73 x6_5 x17_6).f0)) ∧ w'.cell? ⟨(ad376.add ((x17_6).toNat * 2)).block, (ad376.add ((x17_6).toNat * 2)).off + 1, none⟩ = some (.int .i64 ((rd_T73 x6_5 x17_6).f1)) ∧ w'.cell? (ad376.add ((x17_6).toNat * 2)) = some (.int .i64 ((rd_T73 x6_5 x17_6).f0)) ∧ w'.cell? ⟨(ad376.add ((x17_6).toNat * 2)).block, (ad376.add ((x17_6).toNat * 2)).off + 1, none⟩ = some (.int .i64 ((rd_T73 x6_5 x17_6).f1))) (ds := []) #[false, false, false, false, false, false, false, false, false, false, false, false, false, false, false, false, false, false] Z11_19 rfl rfl ⟨(blk_cell BK343.out 0).trans rfl, (blk_cell BK343.out 1).trans rfl, hx377_0, hx377_1, hx378_0, hx378_1⟩ (fun hHeld => ?_); refine with_tabW laws_FnFramesKept.tab40 laws_FnFramesKept.bits40 (fun HT_ HW_ => ?_)
            generalize wr.drew = w137 at HO_6 HO_344001 BK343 HB hx377_0 hx377_1 hx378_0 hx378_1 hHeld ⊢
            refine pure_ (i := 1) (N := some 216) (v := ?_) (a' := ?_) #[false, true, false, false, false, false, false, false, false, false, false, false, false, false, false, false, false, false] rfl rfl (any_of HT_.out Z11_19) (fun _ _ _ h => h) (Or.inl ⟨by rfl, ?_⟩) ?_ ?_
            rotate_left
            ·intro w'
             go_simp
             with_reducible rfl
            rotate_left
            ·simp only [Act.put, List.setIfInBounds_toArray, List.set_cons_zero, List.set_cons_succ, i64_w, i32_w]
             rfl
            refine pure_ (i := 2) (N := some 217) (v := ?_) (a' := ?_) #[false, true, true, false, false, false, false, false, false, false, false, false, false, false, false, false, false, false] rfl rfl (any_of HT_.out Z11_19) (fun _ _ _ h => h) (Or.inl ⟨by rfl, ?_⟩) ?_ ?_
            rotate_left
            ·intro w'
             go_simp
             with_reducible rfl
            rotate_left
            ·simp only [Act.put, List.setIfInBounds_toArray, List.set_cons_zero, List.set_cons_succ, i64_w, i32_w]
             rfl
            refine pure_ (i := 3) (N := some 218) (v := ?_) (a' := ?_) #[false, true, true, true, false, false, false, false, false, false, false, false, false, false, false, false, false, false] rfl rfl (any_of HT_.out Z11_19) (fun _ _ _ h => h) (Or.inl ⟨by rfl, ?_⟩) ?_ ?_
            rotate_left
            ·intro w'
             go_simp
             with_reducible rfl
            rotate_left
            ·simp only [Act.put, List.setIfInBounds_toArray, List.set_cons_zero, List.set_cons_succ, i64_w, i32_w]
             rfl
            refine pure_ (i := 4) (N := some 219) (v := ?_) (a' := ?_) #[false, true, true, true, true, false, false, false, false, false, false, false, false, false, false, false, false, false] rfl rfl (any_of HT_.out Z11_19) (fun _ _ _ h => h) (Or.inl ⟨by rfl, ?_⟩) ?_ ?_
            rotate_left
            ·intro w'
             go_simp
             with_reducible rfl
            rotate_left
            ·simp only [Act.put, List.setIfInBounds_toArray, List.set_cons_zero, List.set_cons_succ, i64_w, i32_w]
             rfl
            refine pure_ (i := 6) (N := some 221) (v := ?_) (a' := ?_) #[false, true, true, true, true, false, true, false, false, false, false, false, false, false, false, false, false, false] rfl rfl (any_of HT_.out Z11_19) (fun _ _ _ h => h) (Or.inl ⟨by rfl, ?_⟩) ?_ ?_
            rotate_left
            ·intro w'
             go_simp
             with_reducible rfl
            rotate_left
            ·simp only [Act.put, List.setIfInBounds_toArray, List.set_cons_zero, List.set_cons_succ, i64_w, i32_w]
             rfl
            refine pure_ (i := 7) (N := some 222) (v := ?_) (a' := ?_) #[false, true, true, true, true, false, true, true, false, false, false, false, false, false, false, false, false, false] rfl rfl (any_of HT_.out Z11_19) (fun _ _ _ h => h) (Or.inl ⟨by rfl, ?_⟩) ?_ ?_
            rotate_left
            ·intro w'
             go_simp
             with_reducible rfl
            rotate_left
            ·simp only [Act.put, List.setIfInBounds_toArray, List.set_cons_zero, List.set_cons_succ, i64_w, i32_w]
             rfl
            refine pure_ (i := 8) (N := some 223) (v := ?_) (a' := ?_) #[false, true, true, true, true, false, true, true, true, false, false, false, false, false, false, false, false, false] rfl rfl (any_of HT_.out Z11_19) (fun _ _ _ h => h) (Or.inl ⟨by rfl, ?_⟩) ?_ ?_
            rotate_left
            ·intro w'
             go_simp
             with_reducible rfl
            rotate_left
            ·simp only [Act.put, List.setIfInBounds_toArray, List.set_cons_zero, List.set_cons_succ, i64_w, i32_w]
             rfl
            refine pure_ (i := 9) (N := some 224) (v := ?_) (a' := ?_) #[false, true, true, true, true, false, true, true, true, true, false, false, false, false, false, false, false, false] rfl rfl (any_of HT_.out Z11_19) (fun _ _ _ h => h) (Or.inl ⟨by rfl, ?_⟩) ?_ ?_
            rotate_left
            ·intro w'
             go_simp
             with_reducible rfl
            rotate_left
            ·simp only [Act.put, List.setIfInBounds_toArray, List.set_cons_zero, List.set_cons_succ, i64_w, i32_w]
             rfl
            refine take_ (i := 0) (N := some 215) (v := ?_) (a' := ?_) #[true, true, true, true, true, false, true, true, true, true, false, false, false, false, false, false, false, false] rfl rfl (take_ofW HT_.out HW_.out Z11_19) (fun _ _ _ h => h) (Or.inl ⟨by rfl, ?_⟩) hHeld ?_ ?_
            rotate_left
            ·rintro w' ⟨s0, s1, s2, s3, s4, s5⟩
             go_simp
             with_reducible rfl
            rotate_left
            ·simp only [Act.put, List.setIfInBounds_toArray, List.set_cons_zero, List.set_cons_succ, i64_w, i32_w]
             rfl
            refine take_ (i := 5) (N := some 220) (v := ?_) (a' := ?_) #[true, true, true, true, true, true, true, true, true, true, false, false, false, false, false, false, false, false] rfl rfl (take_ofW HT_.out HW_.out Z11_19) (fun _ _ _ h => h) (Or.inl ⟨by rfl, ?_⟩) hHeld ?_ ?_
            rotate_left
            ·rintro w' ⟨s0, s1, s2, s3, s4, s5⟩
             go_simp
             with_reducible rfl
            rotate_left
            ·simp only [Act.put, List.setIfInBounds_toArray, List.set_cons_zero, List.set_cons_succ, i64_w, i32_w]
             rfl
            refine take_ (i := 10) (N := some 225) (v := ?_) (a' := ?_) #[true, true, true, true, true, true, true, true, true, true, true, false, false, false, false, false, false, false] rfl rfl (take_ofW HT_.out HW_.out Z11_19) (fun _ _ _ h => h) (Or.inl ⟨by rfl, ?_⟩) hHeld ?_ ?_
            rotate_left
            ·rintro w' ⟨s0, s1, s2, s3, s4, s5⟩
             go_simp
             with_reducible rfl
            rotate_left
            ·simp only [Act.put, List.setIfInBounds_toArray, List.set_cons_zero, List.set_cons_succ, i64_w, i32_w]
             rfl
            refine join_ (σ := Value × Nat) 2 #[true, true, true, true, true, true, true, true, true, true, true, true, true, true, true, true, false, false] (fun s_ => [(226, .tuple #[.agg #[.int .i64 t379, s_.1], .bool true]), (18, .pointer (some ⟨s_.2, 0, none⟩)), (214, .tuple #[.agg #[.int .i64 t379, s_.1], .bool true]), (227, .agg #[.int .i64 t379, s_.1]), (228, .bool true)]) (fun s_ w' => (w'.cell? ⟨gb343, 0, none⟩ = some (.int .i64 x344000_5) ∧ w'.cell? ⟨gb343, 1, none⟩ = some (.slice Ao136 x344001_5.length co136) ∧ w'.cell? (ad376.add ((x17_6).toNat * 2)) = some (.int .i64 ((rd_T73 x6_5 x17_6).f0)) ∧ w'.cell? ⟨(ad376.add ((x17_6).toNat * 2)).block, (ad376.add ((x17_6).toNat * 2)).off + 1, none⟩ = some (.int .i64 ((rd_T73 x6_5 x17_6).f1)) ∧ w'.cell? (ad376.add ((x17_6).toNat * 2)) = some (.int .i64 ((rd_T73 x6_5 x17_6).f0)) ∧ w'.cell? ⟨(ad376.add ((x17_6).toNat * 2)).block, (ad376.add ((x17_6).toNat * 2)).off + 1, none⟩ = some (.int .i64 ((rd_T73 x6_5 x17_6).f1))) ∧ (Kd.R k73 73 w' w.heap.size (fun k_ => nb_ k_ Ao136 x344001_5.length co136 ∧ some k_ ≠ (.slice (some ad376) x6_5.length co128 : Value).ownBlock) s_.1 t380) ∧ (Kd.R k73 73 w' w.heap.size (fun k_ => some k_ ≠ (s_.1 : Value).ownBlock ∧ some k_ ≠ (.slice (some ad376) x6_5.length co128 : Value).ownBlock) (.slice Ao136 x344001_5.length co136) x344001_5) ∧ (Kd.R k73 73 w' w.heap.size (fun k_ => some k_ ≠ (s_.1 : Value).ownBlock ∧ nb_ k_ Ao136 x344001_5.length co136) (.slice (some ad376) x6_5.length co128) x6_5) ∧ (w'.heap[gb343]? = some (.cells #[.int .i64 x344000_5, .slice Ao136 x344001_5.length co136] 50 (0, 0))) ∧ (w'.heap[s_.2]? = some (.cells #[.int .i64 0, .slice none 0 0] 50 (0, 0))) ∧ (w.heap.size ≤ s_.2) ∧ (w.heap.size ≤ s_.2) ∧ (gb343 ≠ s_.2) ∧ (s_.2 ≠ gb343) ∧ (Below w.heap.size w w')) ?_ ?_
            rotate_left
            ·intro hCont
             refine two_ (i := 11) (j := 15) (Ni := some 226) (Nj := some 18) #[true, true, true, true, true, true, true, true, true, true, true, true, false, false, false, false, false, false] #[true, true, true, true, true, true, true, true, true, true, true, false, false, false, false, true, false, false] rfl rfl rfl rfl (two_of HT_.out Z11_19) Z11_64 Z11_64 (fun K hK => ?_) (fun K hK => ?_)
             ·skip
              refine goes_ Try.func43 Z11_19 rfl #[.agg #[.int .i64 x344000_5, .slice Ao136 x344001_5.length co136], .int .i64 ((rd_T73 x6_5 x17_6).f0), .int .i64 ((rd_T73 x6_5 x17_6).f1)] (by rfl) rfl rfl Z11_11 ?_
              with_reducible refine (impl_FramesGive.calls k6 x344000_5 _ _ x344001_5 ((rd_T73 x6_5 x17_6).f0) ((rd_T73 x6_5 x17_6).f1) t379 t380 true _ ?side1 ?side2 A133.out).mono ?_
              (case side1 => exact Z11_12)
              (case side2 => exact (Kd.R_reads' HO_344001.out).2.1)
              rintro e w138 ⟨v381, rfl, ho0, hb⟩
              have HS2_ := (hb.cell (World.block_lt_of_cell? _ _ (hHeld.2.2.1))).trans (hHeld.2.2.1)
              have HS3_ := (hb.cell (World.block_lt_of_cell? _ _ (hHeld.2.2.2.1))).trans (hHeld.2.2.2.1)
              have HS4_ := (hb.cell (World.block_lt_of_cell? _ _ (hHeld.2.2.2.2.1))).trans (hHeld.2.2.2.2.1)
              have HS5_ := (hb.cell (World.block_lt_of_cell? _ _ (hHeld.2.2.2.2.2))).trans (hHeld.2.2.2.2.2)
              refine ⟨_, rfl, ?_⟩
              have n0_ := Aside0.mk (Kd.R_elder' Z11_5 (Kd.R_base ho0) hb)
              have n1_ := Aside0.mk (Kd.R_elder' Z11_3 (Kd.R_base ho0) hb)
              have n2_ := Aside0.mk (Kd.R_lower (Kd.R_new' (Kd.R_new' ho0 (Kd.R_lt Z11_5)) (Kd.R_lt Z11_3)) (below_size Z11_2))
              have n3_ := Aside0.mk (blk_below (g := gb343) (o := .cells #[.int .i64 x344000_5, .slice Ao136 x344001_5.length co136] 50 (0, 0)) Z11_1 hb)
              have n4_ := Aside0.mk (below_step Z11_2 hb)
              clear HO_6
              clear HO_344001
              clear BK343
              clear HB
              have HO_6 := n0_
              have HO_344001 := n1_
              have HO382 := n2_
              have BK343 := n3_
              have HB := n4_
              clear n0_ n1_ n2_ n3_ n4_
              (try clear hb)
              (try clear hb2)
              (try clear hk)
              (try clear hi)
              (try clear ho0)
              refine hK.out _ _ ⟨(blk_cell BK343.out 0).trans rfl, (blk_cell BK343.out 1).trans rfl, HS2_, HS3_, HS4_, HS5_⟩ (fun hHeld => ?_)
              clear hK K
              refine norm_ (a' := ?_) ?_ ?_
              rotate_left
              ·show Act.put _ (some 226) _ = _
               simp only [Act.put, List.setIfInBounds_toArray, List.set_cons_zero, List.set_cons_succ, i64_w, i32_w]
               rfl
              refine pure_ (i := 12) (N := some 214) (v := ?_) (a' := ?_) #[true, true, true, true, true, true, true, true, true, true, true, true, true, false, false, false, false, false] rfl rfl (any_of HT_.out Z11_19) (fun _ _ _ h => h) (Or.inl ⟨by rfl, ?_⟩) ?_ ?_
              rotate_left
              ·intro w'
               go_simp
               with_reducible rfl
              rotate_left
              ·simp only [Act.put, List.setIfInBounds_toArray, List.set_cons_zero, List.set_cons_succ, i64_w, i32_w]
               rfl
              refine pure_ (i := 13) (N := some 227) (v := ?_) (a' := ?_) #[true, true, true, true, true, true, true, true, true, true, true, true, true, true, false, false, false, false] rfl rfl (any_of HT_.out Z11_19) (fun _ _ _ h => h) (Or.inl ⟨by rfl, ?_⟩) ?_ ?_
              rotate_left
              ·intro w'
               go_simp
               with_reducible rfl
              rotate_left
              ·simp only [Act.put, List.setIfInBounds_toArray, List.set_cons_zero, List.set_cons_succ, i64_w, i32_w]
               rfl
              refine pure_ (i := 14) (N := some 228) (v := ?_) (a' := ?_) #[true, true, true, true, true, true, true, true, true, true, true, true, true, true, true, false, false, false] rfl rfl (any_of HT_.out Z11_19) (fun _ _ _ h => h) (Or.inl ⟨by rfl, ?_⟩) ?_ ?_
              rotate_left
              ·intro w'
               go_simp
               with_reducible rfl
              rotate_left
              ·simp only [Act.put, List.setIfInBounds_toArray, List.set_cons_zero, List.set_cons_succ, i64_w, i32_w]
               rfl
              refine one_ (i := 15) (N := some 18) #[true, true, true, true, true, true, true, true, true, true, true, true, true, true, true, true, false, false] rfl rfl (one_of HT_.out Z11_19) Z11_64 (fun K hK => ?_)
              refine box_step ?hg (N := 18) ?hd (cs := #[.int .i64 0, .slice none 0 0]) (t := 50) ?hr ?_; (case hd => rfl); (case hg => rfl); (case hr => exact Z11_34)
              intro gb384 hg w139 hbox hb
              have HS2_ := (hb.cell (World.block_lt_of_cell? _ _ (hHeld.2.2.1))).trans (hHeld.2.2.1)
              have HS3_ := (hb.cell (World.block_lt_of_cell? _ _ (hHeld.2.2.2.1))).trans (hHeld.2.2.2.1)
              have HS4_ := (hb.cell (World.block_lt_of_cell? _ _ (hHeld.2.2.2.2.1))).trans (hHeld.2.2.2.2.1)
              have HS5_ := (hb.cell (World.block_lt_of_cell? _ _ (hHeld.2.2.2.2.2))).trans (hHeld.2.2.2.2.2)
              have n0_ := Aside0.mk (Kd.R_below Z11_5 hb)
              have n1_ := Aside0.mk (Kd.R_below Z11_3 hb)
              have n2_ := Aside0.mk (Kd.R_below (by (with_reducible repeat (first | apply Kd.R_alloc | apply Kd.R_drewN | apply Kd.R_drew)); exact HO382.out) hb)
              have n3_ := Aside0.mk (blk_below (g := gb343) (o := .cells #[.int .i64 x344000_5, .slice Ao136 x344001_5.length co136] 50 (0, 0)) Z11_1 hb)
              have n4_ := Aside0.mk (below_step Z11_2 hb)
              have n5_ := Aside0.mk (hbox)
              have n6_ := Aside0.mk ((Z11_47 : w.heap.size ≤ gb384))
              have n7_ := Aside0.mk ((Z11_47 : w.heap.size ≤ gb384))
              have n8_ := Aside0.mk ((Z11_66 : gb343 ≠ gb384))
              have n9_ := Aside0.mk ((Z11_67 : gb384 ≠ gb343))
              clear HO_6
              clear HO_344001
              clear HO382
              clear BK343
              clear HB
              have HO_6 := n0_
              have HO_344001 := n1_
              have HO382 := n2_
              have BK343 := n3_
              have HB := n4_
              have BK384 := n5_
              have GW384 := n6_
              have GE384 := n7_
              have NB343_384 := n8_
              have NB384_343 := n9_
              clear n0_ n1_ n2_ n3_ n4_ n5_ n6_ n7_ n8_ n9_
              clear hb hbox hg
              refine hK.out _ _ ⟨(blk_cell BK343.out 0).trans rfl, (blk_cell BK343.out 1).trans rfl, HS2_, HS3_, HS4_, HS5_⟩ (fun hHeld => ?_)
              clear hK K
              refine norm_ (a' := ?_) ?_ ?_
              rotate_left
              ·show Act.put _ (some 18) _ = _
               simp only [Act.put, List.setIfInBounds_toArray, List.set_cons_zero, List.set_cons_succ, i64_w, i32_w]
               rfl
              exact norm_ Z11_23 (hCont (v381, gb384) _ ⟨hHeld, Z11_65, Z11_21, Z11_26, Z11_1, Z11_55, GW384.out, GE384.out, NB343_384.out, NB384_343.out, Z11_18⟩)
             skip
             refine box_step ?hg (N := 18) ?hd (cs := #[.int .i64 0, .slice none 0 0]) (t := 50) ?hr ?_; (case hd => rfl); (case hg => rfl); (case hr => exact Z11_34)
             intro gb384 hg w138 hbox hb
             have HS2_ := (hb.cell (World.block_lt_of_cell? _ _ (hHeld.2.2.1))).trans (hHeld.2.2.1)
             have HS3_ := (hb.cell (World.block_lt_of_cell? _ _ (hHeld.2.2.2.1))).trans (hHeld.2.2.2.1)
             have HS4_ := (hb.cell (World.block_lt_of_cell? _ _ (hHeld.2.2.2.2.1))).trans (hHeld.2.2.2.2.1)
             have HS5_ := (hb.cell (World.block_lt_of_cell? _ _ (hHeld.2.2.2.2.2))).trans (hHeld.2.2.2.2.2)
             have n0_ := Aside0.mk (Kd.R_below Z11_5 hb)
             have n1_ := Aside0.mk (Kd.R_below Z11_3 hb)
             have n2_ := Aside0.mk (blk_below (g := gb343) (o := .cells #[.int .i64 x344000_5, .slice Ao136 x344001_5.length co136] 50 (0, 0)) Z11_1 hb)
             have n3_ := Aside0.mk (below_step Z11_2 hb)
             have n4_ := Aside0.mk (hbox)
             have n5_ := Aside0.mk ((Z11_47 : w.heap.size ≤ gb384))
             have n6_ := Aside0.mk ((Z11_47 : w.heap.size ≤ gb384))
             have n7_ := Aside0.mk ((Z11_66 : gb343 ≠ gb384))
             have n8_ := Aside0.mk ((Z11_67 : gb384 ≠ gb343))
             clear HO_6
             clear HO_344001
             clear BK343
             clear HB
             have HO_6 := n0_
             have HO_344001 := n1_
             have BK343 := n2_
             have HB := n3_
             have BK384 := n4_
             have GW384 := n5_
             have GE384 := n6_
             have NB343_384 := n7_
             have NB384_343 := n8_
             clear n0_ n1_ n2_ n3_ n4_ n5_ n6_ n7_ n8_
             clear hb hbox hg
             refine hK.out _ _ ⟨(blk_cell BK343.out 0).trans rfl, (blk_cell BK343.out 1).trans rfl, HS2_, HS3_, HS4_, HS5_⟩ (fun hHeld => ?_)
             clear hK K
             refine norm_ (a' := ?_) ?_ ?_
             rotate_left
             ·show Act.put _ (some 18) _ = _
              simp only [Act.put, List.setIfInBounds_toArray, List.set_cons_zero, List.set_cons_succ, i64_w, i32_w]
              rfl
             refine one_ (i := 11) (N := some 226) #[true, true, true, true, true, true, true, true, true, true, true, true, false, false, false, true, false, false] rfl rfl (one_of HT_.out Z11_19) Z11_64 (fun K hK => ?_)
             refine goes_ Try.func43 Z11_19 rfl #[.agg #[.int .i64 x344000_5, .slice Ao136 x344001_5.length co136], .int .i64 ((rd_T73 x6_5 x17_6).f0), .int .i64 ((rd_T73 x6_5 x17_6).f1)] (by rfl) rfl rfl Z11_11 ?_
             with_reducible refine (impl_FramesGive.calls k6 x344000_5 _ _ x344001_5 ((rd_T73 x6_5 x17_6).f0) ((rd_T73 x6_5 x17_6).f1) t379 t380 true _ ?side1 ?side2 A133.out).mono ?_
             (case side1 => exact Z11_12)
             (case side2 => exact (Kd.R_reads' HO_344001.out).2.1)
             rintro e w139 ⟨v381, rfl, ho0, hb⟩
             have HS2_ := (hb.cell (World.block_lt_of_cell? _ _ (hHeld.2.2.1))).trans (hHeld.2.2.1)
             have HS3_ := (hb.cell (World.block_lt_of_cell? _ _ (hHeld.2.2.2.1))).trans (hHeld.2.2.2.1)
             have HS4_ := (hb.cell (World.block_lt_of_cell? _ _ (hHeld.2.2.2.2.1))).trans (hHeld.2.2.2.2.1)
             have HS5_ := (hb.cell (World.block_lt_of_cell? _ _ (hHeld.2.2.2.2.2))).trans (hHeld.2.2.2.2.2)
             refine ⟨_, rfl, ?_⟩
             have n0_ := Aside0.mk (Kd.R_elder' Z11_5 (Kd.R_base ho0) hb)
             have n1_ := Aside0.mk (Kd.R_elder' Z11_3 (Kd.R_base ho0) hb)
             have n2_ := Aside0.mk (Kd.R_lower (Kd.R_new' (Kd.R_new' ho0 (Kd.R_lt Z11_5)) (Kd.R_lt Z11_3)) (below_size Z11_18))
             have n3_ := Aside0.mk (blk_below (g := gb343) (o := .cells #[.int .i64 x344000_5, .slice Ao136 x344001_5.length co136] 50 (0, 0)) Z11_1 hb)
             have n4_ := Aside0.mk (blk_below (g := gb384) (o := .cells #[.int .i64 0, .slice none 0 0] 50 (0, 0)) Z11_55 hb)
             have n5_ := Aside0.mk (below_step Z11_18 hb)
             clear HO_6
             clear HO_344001
             clear BK343
             clear BK384
             clear HB
             have HO_6 := n0_
             have HO_344001 := n1_
             have HO382 := n2_
             have BK343 := n3_
             have BK384 := n4_
             have HB := n5_
             clear n0_ n1_ n2_ n3_ n4_ n5_
             (try clear hb)
             (try clear hb2)
             (try clear hk)
             (try clear hi)
             (try clear ho0)
             refine hK.out _ _ ⟨(blk_cell BK343.out 0).trans rfl, (blk_cell BK343.out 1).trans rfl, HS2_, HS3_, HS4_, HS5_⟩ (fun hHeld => ?_)
             clear hK K
             refine norm_ (a' := ?_) ?_ ?_
             rotate_left
             ·show Act.put _ (some 226) _ = _
              simp only [Act.put, List.setIfInBounds_toArray, List.set_cons_zero, List.set_cons_succ, i64_w, i32_w]
              rfl
             refine pure_ (i := 12) (N := some 214) (v := ?_) (a' := ?_) #[true, true, true, true, true, true, true, true, true, true, true, true, true, false, false, true, false, false] rfl rfl (any_of HT_.out Z11_19) (fun _ _ _ h => h) (Or.inl ⟨by rfl, ?_⟩) ?_ ?_
             rotate_left
             ·intro w'
              go_simp
              with_reducible rfl
             rotate_left
             ·simp only [Act.put, List.setIfInBounds_toArray, List.set_cons_zero, List.set_cons_succ, i64_w, i32_w]
              rfl
             refine pure_ (i := 13) (N := some 227) (v := ?_) (a' := ?_) #[true, true, true, true, true, true, true, true, true, true, true, true, true, true, false, true, false, false] rfl rfl (any_of HT_.out Z11_19) (fun _ _ _ h => h) (Or.inl ⟨by rfl, ?_⟩) ?_ ?_
             rotate_left
             ·intro w'
              go_simp
              with_reducible rfl
             rotate_left
             ·simp only [Act.put, List.setIfInBounds_toArray, List.set_cons_zero, List.set_cons_succ, i64_w, i32_w]
              rfl
             refine pure_ (i := 14) (N := some 228) (v := ?_) (a' := ?_) #[true, true, true, true, true, true, true, true, true, true, true, true, true, true, true, true, false, false] rfl rfl (any_of HT_.out Z11_19) (fun _ _ _ h => h) (Or.inl ⟨by rfl, ?_⟩) ?_ ?_
             rotate_left
             ·intro w'
              go_simp
              with_reducible rfl
             rotate_left
             ·simp only [Act.put, List.setIfInBounds_toArray, List.set_cons_zero, List.set_cons_succ, i64_w, i32_w]
              rfl
             exact norm_ Z11_23 (hCont (v381, gb384) _ ⟨hHeld, Z11_65, Z11_21, Z11_26, Z11_1, Z11_55, GW384.out, GE384.out, NB343_384.out, NB384_343.out, Z11_18⟩)
            rintro ⟨v381, gb384⟩ w140 ⟨hS_, h0_, h1_, h2_, h3_, h4_, h5_, h6_, h7_, h8_, h9_⟩
            have n0_ : Aside0 (Kd.R k73 73 w140 w.heap.size (fun k_ => nb_ k_ Ao136 x344001_5.length co136 ∧ some k_ ≠ (.slice (some ad376) x6_5.length co128 : Value).ownBlock) v381 t380) := ⟨h0_⟩
            have n1_ : Aside0 (Kd.R k73 73 w140 w.heap.size (fun k_ => some k_ ≠ (v381 : Value).ownBlock ∧ some k_ ≠ (.slice (some ad376) x6_5.length co128 : Value).ownBlock) (.slice Ao136 x344001_5.length co136) x344001_5) := ⟨h1_⟩
            have n2_ : Aside0 (Kd.R k73 73 w140 w.heap.size (fun k_ => some k_ ≠ (v381 : Value).ownBlock ∧ nb_ k_ Ao136 x344001_5.length co136) (.slice (some ad376) x6_5.length co128) x6_5) := ⟨h2_⟩
            have n3_ : Aside0 (w140.heap[gb343]? = some (.cells #[.int .i64 x344000_5, .slice Ao136 x344001_5.length co136] 50 (0, 0))) := ⟨h3_⟩
            have n4_ : Aside0 (w140.heap[gb384]? = some (.cells #[.int .i64 0, .slice none 0 0] 50 (0, 0))) := ⟨h4_⟩
            have n5_ : Aside0 (w.heap.size ≤ gb384) := ⟨h5_⟩
            have n6_ : Aside0 (w.heap.size ≤ gb384) := ⟨h6_⟩
            have n7_ : Aside0 (gb343 ≠ gb384) := ⟨h7_⟩
            have n8_ : Aside0 (gb384 ≠ gb343) := ⟨h8_⟩
            have n9_ : Aside0 (Below w.heap.size w w140) := ⟨h9_⟩
            clear HO_6
            clear HO_344001
            clear BK343
            clear HB
            clear h0_ h1_ h2_ h3_ h4_ h5_ h6_ h7_ h8_ h9_
            have HO382 := n0_
            have HO_344001 := n1_
            have HO_6 := n2_
            have BK343 := n3_
            have BK384 := n4_
            have GW384 := n5_
            have GE384 := n6_
            have NB343_384 := n7_
            have NB384_343 := n8_
            have HB := n9_
            clear n0_ n1_ n2_ n3_ n4_ n5_ n6_ n7_ n8_ n9_
            have hHeld : w140.cell? ⟨gb343, 0, none⟩ = some (.int .i64 x344000_5) ∧ w140.cell? ⟨gb343, 1, none⟩ = some (.slice Ao136 x344001_5.length co136) ∧ w140.cell? (ad376.add ((x17_6).toNat * 2)) = some (.int .i64 ((rd_T73 x6_5 x17_6).f0)) ∧ w140.cell? ⟨(ad376.add ((x17_6).toNat * 2)).block, (ad376.add ((x17_6).toNat * 2)).off + 1, none⟩ = some (.int .i64 ((rd_T73 x6_5 x17_6).f1)) ∧ w140.cell? (ad376.add ((x17_6).toNat * 2)) = some (.int .i64 ((rd_T73 x6_5 x17_6).f0)) ∧ w140.cell? ⟨(ad376.add ((x17_6).toNat * 2)).block, (ad376.add ((x17_6).toNat * 2)).off + 1, none⟩ = some (.int .i64 ((rd_T73 x6_5 x17_6).f1)) := hS_
            obtain ⟨Ao142, co142, eo142⟩ := Kd.R_slice HO382.out
            (first | subst eo142 | (injection eo142 with f1_ f2_ f3_; have f4_ := f1_.symm; have f5_ := f3_.symm; clear f1_ f2_ f3_; subst f4_; subst f5_))
            refine norm_ (a' := ?_) ?_ ?_
            rotate_left
            ·simp only [putAll, Act.put, List.setIfInBounds_toArray, List.set_cons_zero, List.set_cons_succ]
             rfl
            refine one_ (i := 16) (N := none) #[true, true, true, true, true, true, true, true, true, true, true, true, true, true, true, true, true, false] rfl rfl (one_of HT_.out Z11_19) Z11_64 (fun K hK => ?_)
            have hs141 : w140.cell? ⟨gb384, 0, none⟩ = some (.int .i64 0) := (blk_cell BK384.out 0).trans rfl
            have hfs141 := blk_frozen BK384.out 0
            have hns141_0 := NB343_384.out
            have hms141_0 := NB384_343.out
            have hs143 : w140.cell? ⟨gb384, 1, none⟩ = some (.slice none 0 0) := (blk_cell BK384.out 1).trans rfl
            have hfs143 := blk_frozen BK384.out 1
            have hns143_0 := NB343_384.out
            have hms143_0 := NB384_343.out
            refine skip_ (w1 := ?_) (by rfl) rfl ?_ ?_
            rotate_left
            ·go_simp
             rfl
            refine hK.out _ _ ⟨((cell_far (p := ⟨gb384, _, none⟩) NB343_384.out _).trans (((cell_far (p := ⟨gb384, _, none⟩) NB343_384.out _).trans (hHeld.1)))), ((cell_far (p := ⟨gb384, _, none⟩) NB343_384.out _).trans (((cell_far (p := ⟨gb384, _, none⟩) NB343_384.out _).trans (hHeld.2.1)))), ((cell_far (p := ⟨gb384, _, none⟩) Z11_15 _).trans (((cell_far (p := ⟨gb384, _, none⟩) Z11_15 _).trans (hHeld.2.2.1)))), ((cell_far (p := ⟨gb384, _, none⟩) Z11_15 _).trans (((cell_far (p := ⟨gb384, _, none⟩) Z11_15 _).trans (hHeld.2.2.2.1)))), ((cell_far (p := ⟨gb384, _, none⟩) Z11_15 _).trans (((cell_far (p := ⟨gb384, _, none⟩) Z11_15 _).trans (hHeld.2.2.2.2.1)))), ((cell_far (p := ⟨gb384, _, none⟩) Z11_15 _).trans (((cell_far (p := ⟨gb384, _, none⟩) Z11_15 _).trans (hHeld.2.2.2.2.2))))⟩ (fun hHeld => ?_)
            clear hK K
            refine pure_ (i := 17) (N := some 19) (v := ?_) (a' := ?_) #[true, true, true, true, true, true, true, true, true, true, true, true, true, true, true, true, true, true] rfl rfl (any_of HT_.out Z11_19) (fun _ _ _ h => h) (Or.inl ⟨by rfl, ?_⟩) ?_ ?_
            rotate_left
            ·intro w'
             go_simp
             with_reducible rfl
            rotate_left
            ·simp only [Act.put, List.setIfInBounds_toArray, List.set_cons_zero, List.set_cons_succ, i64_w, i32_w]
             rfl
            refine done_ (done_of HT_.out Z11_19) ?_
            have n0_ : Aside0 (Kd.R k73 73 ((w140.setCell ⟨gb384, 0, none⟩ (.int .i64 t379)).setCell ⟨gb384, 1, none⟩ (.slice Ao142 t380.length co142)) w.heap.size (fun k_ => nb_ k_ Ao136 x344001_5.length co136 ∧ nb_ k_ Ao142 t380.length co142) (.slice (some ad376) x6_5.length co128) x6_5) := ⟨by (with_reducible repeat (first | apply Kd.R_alloc | apply Kd.R_drewN | apply Kd.R_drew)); exact Kd.R_mono (Kd.R_far (p := ⟨gb384, 1, none⟩) (Kd.R_far (p := ⟨gb384, 0, none⟩) (Kd.R_types HO_6.out BK384.out Z11_64) (fun _ hk => hk.2) (.int .i64 t379)) (fun _ hk => hk.2) (.slice Ao142 t380.length co142)) (fun _ hk => ⟨hk.1.2, hk.1.1⟩)⟩
            have n1_ : Aside0 (Kd.R k73 73 ((w140.setCell ⟨gb384, 0, none⟩ (.int .i64 t379)).setCell ⟨gb384, 1, none⟩ (.slice Ao142 t380.length co142)) w.heap.size (fun k_ => some k_ ≠ (.slice (some ad376) x6_5.length co128 : Value).ownBlock ∧ nb_ k_ Ao142 t380.length co142) (.slice Ao136 x344001_5.length co136) x344001_5) := ⟨by (with_reducible repeat (first | apply Kd.R_alloc | apply Kd.R_drewN | apply Kd.R_drew)); exact Kd.R_mono (Kd.R_far (p := ⟨gb384, 1, none⟩) (Kd.R_far (p := ⟨gb384, 0, none⟩) (Kd.R_types HO_344001.out BK384.out Z11_64) (fun _ hk => hk.2) (.int .i64 t379)) (fun _ hk => hk.2) (.slice Ao142 t380.length co142)) (fun _ hk => ⟨hk.1.2, hk.1.1⟩)⟩
            have n2_ : Aside0 (Kd.R k73 73 ((w140.setCell ⟨gb384, 0, none⟩ (.int .i64 t379)).setCell ⟨gb384, 1, none⟩ (.slice Ao142 t380.length co142)) w.heap.size (fun k_ => some k_ ≠ (.slice (some ad376) x6_5.length co128 : Value).ownBlock ∧ nb_ k_ Ao136 x344001_5.length co136) (.slice Ao142 t380.length co142) t380) := ⟨by (with_reducible repeat (first | apply Kd.R_alloc | apply Kd.R_drewN | apply Kd.R_drew)); exact Kd.R_mono (Kd.R_far (p := ⟨gb384, 1, none⟩) (Kd.R_far (p := ⟨gb384, 0, none⟩) (Kd.R_types HO382.out BK384.out Z11_64) (fun _ hk => hk.2) (.int .i64 t379)) (fun _ hk => hk.2) (.slice Ao142 t380.length co142)) (fun _ hk => ⟨hk.1.2, hk.1.1⟩)⟩
            have n3_ : Aside0 (((w140.setCell ⟨gb384, 0, none⟩ (.int .i64 t379)).setCell ⟨gb384, 1, none⟩ (.slice Ao142 t380.length co142)).heap[gb343]? = some (.cells #[.int .i64 x344000_5, .slice Ao136 x344001_5.length co136] 50 (0, 0))) := ⟨by (with_reducible repeat (first | apply blk_drewN | apply blk_drew | apply blk_alloc)); refine blk_far ?_ NB343_384.out _; (with_reducible repeat (first | apply blk_drewN | apply blk_drew | apply blk_alloc)); refine blk_far ?_ NB343_384.out _; (with_reducible repeat (first | apply blk_drewN | apply blk_drew | apply blk_alloc)); exact BK343.out⟩
            have n4_ : Aside0 (((w140.setCell ⟨gb384, 0, none⟩ (.int .i64 t379)).setCell ⟨gb384, 1, none⟩ (.slice Ao142 t380.length co142)).heap[gb384]? = some (.cells #[.int .i64 t379, .slice Ao142 t380.length co142] 50 (0, 0))) := ⟨by (with_reducible repeat (first | apply blk_drewN | apply blk_drew | apply blk_alloc)); refine blk_put (cs := #[.int .i64 t379, .slice none 0 0]) ?_ 1 _ rfl; (with_reducible repeat (first | apply blk_drewN | apply blk_drew | apply blk_alloc)); refine blk_put (cs := #[.int .i64 0, .slice none 0 0]) ?_ 0 _ rfl; (with_reducible repeat (first | apply blk_drewN | apply blk_drew | apply blk_alloc)); exact BK384.out⟩
            have n5_ : Aside0 (Below w.heap.size w ((w140.setCell ⟨gb384, 0, none⟩ (.int .i64 t379)).setCell ⟨gb384, 1, none⟩ (.slice Ao142 t380.length co142))) := ⟨Z11_18⟩
            (try clear HO_6)
            (try clear HO_344001)
            (try clear HO382)
            (try clear BK343)
            (try clear BK384)
            (try clear HB)
            generalize ((w140.setCell ⟨gb384, 0, none⟩ (.int .i64 t379)).setCell ⟨gb384, 1, none⟩ (.slice Ao142 t380.length co142)) = w144 at n0_ n1_ n2_ n3_ n4_ n5_ ⊢
            have HO_6 := n0_
            have HO_344001 := n1_
            have HO382 := n2_
            have BK343 := n3_
            have BK384 := n4_
            have HB := n5_
            clear n0_ n1_ n2_ n3_ n4_ n5_
            have hnb145 := NB384_343.out
            have hnc145 := NB343_384.out
            have hcz146_0 : w144.cell? ⟨gb384, 0, none⟩ = some (.int .i64 t379) := (blk_cell BK384.out 0).trans rfl
            have hcz146_1 : w144.cell? ⟨gb384, 1, none⟩ = some (.slice Ao142 t380.length co142) := (blk_cell BK384.out 1).trans rfl
            have hfz146_0 := blk_frozen BK384.out 0
            have hfz146_1 := blk_frozen BK384.out 1
            have hcz147_0 : w144.cell? ⟨gb343, 0, none⟩ = some (.int .i64 x344000_5) := (blk_cell BK343.out 0).trans rfl
            have hcz147_1 : w144.cell? ⟨gb343, 1, none⟩ = some (.slice Ao136 x344001_5.length co136) := (blk_cell BK343.out 1).trans rfl
            have hfz147_0 := blk_frozen BK343.out 0
            have hfz147_1 := blk_frozen BK343.out 1
            try go_wp2_with (first | ((with_reducible refine gate_store (t := 50) (p := 5) rfl ?_); refine store_event (t := 50) (p := 5) (v := ?vo_w148) (w1 := ((w144.setCell ⟨gb343, 0, none⟩ (.int .i64 t379)).setCell ⟨gb343, 1, none⟩ (.slice Ao142 t380.length co142))) ?hg ?ho ?hn ?hr ?_; (case ho => rfl); (case hg => rfl); (case hn => rfl); (case hr => exact Z11_34); intro w148 hw; have n0_ : Aside0 (Kd.R k73 73 w148 w.heap.size (fun k_ => nb_ k_ Ao136 x344001_5.length co136 ∧ nb_ k_ Ao142 t380.length co142) (.slice (some ad376) x6_5.length co128) x6_5) := ⟨(by rw [hw]; exact (by (with_reducible repeat (first | apply Kd.R_alloc | apply Kd.R_drewN | apply Kd.R_drew)); exact Kd.R_mono (Kd.R_far (p := ⟨gb343, 1, none⟩) (Kd.R_far (p := ⟨gb343, 0, none⟩) (Kd.R_types HO_6.out BK343.out Z11_64) (fun _ hk => hk.2) (.int .i64 t379)) (fun _ hk => hk.2) (.slice Ao142 t380.length co142)) (fun _ hk => ⟨hk.1.1, hk.1.2⟩)))⟩; have n1_ : Aside0 (Kd.R k73 73 w148 w.heap.size (fun k_ => some k_ ≠ (.slice (some ad376) x6_5.length co128 : Value).ownBlock ∧ nb_ k_ Ao142 t380.length co142) (.slice Ao136 x344001_5.length co136) x344001_5) := ⟨(by rw [hw]; exact (by (with_reducible repeat (first | apply Kd.R_alloc | apply Kd.R_drewN | apply Kd.R_drew)); exact Kd.R_mono (Kd.R_far (p := ⟨gb343, 1, none⟩) (Kd.R_far (p := ⟨gb343, 0, none⟩) (Kd.R_types HO_344001.out BK343.out Z11_64) (fun _ hk => hk.2) (.int .i64 t379)) (fun _ hk => hk.2) (.slice Ao142 t380.length co142)) (fun _ hk => ⟨hk.1.1, hk.1.2⟩)))⟩; have n2_ : Aside0 (Kd.R k73 73 w148 w.heap.size (fun k_ => some k_ ≠ (.slice (some ad376) x6_5.length co128 : Value).ownBlock ∧ nb_ k_ Ao136 x344001_5.length co136) (.slice Ao142 t380.length co142) t380) := ⟨(by rw [hw]; exact (by (with_reducible repeat (first | apply Kd.R_alloc | apply Kd.R_drewN | apply Kd.R_drew)); exact Kd.R_mono (Kd.R_far (p := ⟨gb343, 1, none⟩) (Kd.R_far (p := ⟨gb343, 0, none⟩) (Kd.R_types HO382.out BK343.out Z11_64) (fun _ hk => hk.2) (.int .i64 t379)) (fun _ hk => hk.2) (.slice Ao142 t380.length co142)) (fun _ hk => ⟨hk.1.1, hk.1.2⟩)))⟩; have n3_ : Aside0 (w148.heap[gb343]? = some (.cells #[.int .i64 t379, .slice Ao142 t380.length co142] 50 (0, 0))) := ⟨(by rw [hw]; exact (by (with_reducible repeat (first | apply blk_drewN | apply blk_drew | apply blk_alloc)); refine blk_put (cs := #[.int .i64 t379, .slice Ao136 x344001_5.length co136]) ?_ 1 _ rfl; (with_reducible repeat (first | apply blk_drewN | apply blk_drew | apply blk_alloc)); refine blk_put (cs := #[.int .i64 x344000_5, .slice Ao136 x344001_5.length co136]) ?_ 0 _ rfl; (with_reducible repeat (first | apply blk_drewN | apply blk_drew | apply blk_alloc)); exact BK343.out))⟩; have n4_ : Aside0 (w148.heap[gb384]? = some (.cells #[.int .i64 t379, .slice Ao142 t380.length co142] 50 (0, 0))) := ⟨(by rw [hw]; exact (by (with_reducible repeat (first | apply blk_drewN | apply blk_drew | apply blk_alloc)); refine blk_far ?_ NB384_343.out _; (with_reducible repeat (first | apply blk_drewN | apply blk_drew | apply blk_alloc)); refine blk_far ?_ NB384_343.out _; (with_reducible repeat (first | apply blk_drewN | apply blk_drew | apply blk_alloc)); exact BK384.out))⟩; have n5_ : Aside0 (Below w.heap.size w w148) := ⟨(by rw [hw]; exact Z11_18)⟩; clear hw; clear HO_6; clear HO_344001; clear HO382; clear BK343; clear BK384; clear HB; have HO_6 := n0_; have HO_344001 := n1_; have HO382 := n2_; have BK343 := n3_; have BK384 := n4_; have HB := n5_; clear n0_ n1_ n2_ n3_ n4_ n5_; have p135 : 0 ≤ (x17_6 : Int) := of_decide_eq_true Z11_14; have q135 : (x17_6 : Int) < ((x6_5.length : Int) : Int) := of_decide_eq_true Z11_14; obtain ⟨go135, co135, eo135, gb135, gl135, cl135, HG135⟩ := Kd.R_form HO_6.out (by omega); (first | cases eo135 | (injection eo135 with ea_ en_ ec_; (first | subst ea_ | (injection ea_ with ea_; subst ea_)); subst ec_; clear en_)); have GB135 := Aside0.mk gb135; have GG135 := Aside0.mk HG135; clear gb135 gl135 HG135; (first | simp only [add_plain] at hx376_0 | skip); (first | simp only [add_plain] at hx376_1 | skip); (first | simp only [add_plain] at hx377_0 | skip); (first | simp only [add_plain] at hx377_1 | skip); (first | simp only [add_plain] at hx378_0 | skip); (first | simp only [add_plain] at hx378_1 | skip); obtain ⟨ce135, hcl135, hM135, hcc135, hfr135⟩ := Kd.R_elem HO_6.out z73 (x17_6 : Int) p135 q135; obtain rfl := k73_openM hM135; have hx135_0 : w148.cell? ⟨go135, (x17_6 : Int).toNat * 2, none⟩ = some (.int .i64 ((rd_T73 x6_5 x17_6).f0)) := hcc135 0 _ rfl; have hx135_1 : w148.cell? ⟨go135, (x17_6 : Int).toNat * 2 + 1, none⟩ = some (.int .i64 ((rd_T73 x6_5 x17_6).f1)) := hcc135 1 _ rfl; have hf135_0 : w148.frozen? ⟨go135, (x17_6 : Int).toNat * 2, none⟩ = false := hfr135 0; have hf135_1 : w148.frozen? ⟨go135, (x17_6 : Int).toNat * 2 + 1, none⟩ = false := hfr135 1; clear hcl135 hcc135 hfr135 hM135; replace p135 := eq_true p135; replace q135 := eq_true q135; have HX149 := Aside0.mk (show Kd.R k73 73 w148 w.heap.size (fun k_ => nb_ k_ Ao136 x344001_5.length co136 ∧ nb_ k_ Ao142 t380.length co142) (.slice (some ⟨go135, 0, none⟩) x6_5.length co128) x6_5 from Z11_5); obtain ⟨ce149, hcl149, hM149, hcc149, hfr149⟩ := Kd.R_elem HX149.out z73 (x17_6 : Int) (of_decide_eq_true Z11_14) (by have h_ : (x17_6 : Int) < ((x6_5.length : Int) : Int) := of_decide_eq_true Z11_14; first | exact h_ | (have e_ := (Kd.R_reads' HO_6.out).1; omega) | simpa using h_); obtain rfl := k73_openM hM149; have HP149 := Kd.R_seg HX149.out (x17_6 : Int) (of_decide_eq_true Z11_14) (by have h_ : (x17_6 : Int) < ((x6_5.length : Int) : Int) := of_decide_eq_true Z11_14; first | exact h_ | (have e_ := (Kd.R_reads' HO_6.out).1; omega) | simpa using h_) (seg := [.int .i64 (-1)]) (j := 1) hcl149 hcc149 (show 2 ≤ 2 from by decide) (x' := (⟨(rd_T73 x6_5 x17_6).f0, (-1)⟩ : S73)) (k73_mkM _ _ _ (⟨(rd_T73 x6_5 x17_6).f0, (-1)⟩ : S73) ) (fun _ hk => hk); have hx149_1 := hcc149 1 _ rfl; (try simp only [show (k73).sz = 2 from rfl, Nat.mul_one, Nat.add_zero] at hx149_1); have hf149_1 := hfr149 1; (try simp only [show (k73).sz = 2 from rfl, Nat.mul_one, Nat.add_zero] at hf149_1); clear hcl149 hcc149 hfr149 hM149) | ((with_reducible refine gate_store (t := 2) (p := 235) rfl ?_); refine store_event (t := 2) (p := 235) (v := ?vo_w150) (w1 := (w148.setCell ⟨go135, (x17_6 : Int).toNat * 2 + 1, none⟩ (.int .i64 (-1)))) ?hg ?ho ?hn ?hr ?_; (case ho => rfl); (case hg => rfl); (case hn => rfl); (case hr => exact Z11_34); intro w150 hw; have hg : w148.grownBy w150 (some go135) := (by rw [hw]; exact HP149.2); have hp_ : Kd.R k73 73 w150 w.heap.size (fun k_ => nb_ k_ Ao136 x344001_5.length co136 ∧ nb_ k_ Ao142 t380.length co142) (.slice (some ⟨go135, 0, none⟩) x6_5.length co128) y385 := (by rw [hw, Ny385.out]; exact HP149.1); clear HP149; have n0_ := Aside0.mk (hp_); have n1_ := Aside0.mk (Kd.R_after (v := (.slice (some ⟨go135, 0, none⟩) x6_5.length co128)) (v1 := (.slice (some ⟨go135, 0, none⟩) x6_5.length co128)) (ok := (fun k_ => nb_ k_ Ao142 t380.length co142)) Z11_21 hg (.inl rfl)); have n2_ := Aside0.mk (blk_grown (g := gb343) (o := .cells #[.int .i64 t379, .slice Ao142 t380.length co142] 50 (0, 0)) Z11_1 hg (Kd.R_ne HO_6.out BK343.out Z11_64)); have n3_ := Aside0.mk (Kd.R_after (v := (.slice (some ⟨go135, 0, none⟩) x6_5.length co128)) (v1 := (.slice (some ⟨go135, 0, none⟩) x6_5.length co128)) (ok := (fun k_ => nb_ k_ Ao136 x344001_5.length co136)) (by (with_reducible repeat (first | apply Kd.R_alloc | apply Kd.R_drewN | apply Kd.R_drew)); exact Kd.R_mono HO382.out (fun _ hk => ⟨hk.2, hk.1⟩)) hg (.inl rfl)); have n4_ := Aside0.mk (blk_grown (g := gb384) (o := .cells #[.int .i64 t379, .slice Ao142 t380.length co142] 50 (0, 0)) Z11_55 hg (Kd.R_ne HO_6.out BK384.out Z11_64)); have n5_ := Aside0.mk ((by rw [hw]; exact below_set (HB.out) GB135.out : Below w.heap.size w w150)); clear HO_6; clear HO_344001; clear BK343; clear HO382; clear BK384; clear HB; have HO_6 := n0_; have HO_344001 := n1_; have BK343 := n2_; have HO382 := n3_; have BK384 := n4_; have HB := n5_; clear n0_ n1_ n2_ n3_ n4_ n5_; clear hg hw hp_))
            go_roundg k6
            case measure => have := HJ5.out; have := HJ15.out; have := HK3.out; have := HJ28.out; have := HK5.out; have := HK6.out; omega
            case rel => exact ⟨(y385), (wrap64 (x16_5 + 1)), (t379), (t380), (.slice Ao142 t380.length co142), Z11_13, H', ⟨by have := HJ5.out; have := HJ15.out; have := HK3.out; have := HJ28.out; have := HK5.out; have := HK6.out; omega⟩, ⟨by (with_reducible repeat (first | apply Kd.R_alloc | apply Kd.R_drewN | apply Kd.R_drew)); exact Kd.R_mono HO_6.out (fun _ hk => hk.2)⟩, ⟨by (with_reducible repeat (first | apply Kd.R_alloc | apply Kd.R_drewN | apply Kd.R_drew)); exact Kd.R_mono HO382.out (fun _ hk => hk.2)⟩, ⟨Z11_1⟩, ⟨Z11_18⟩⟩
           replace c134 := Bool.eq_false_iff.mpr c134
           subst c134
           have H1 : (none) = some r := by rw [if_neg (show ¬ (false = true) by decide)] at H; exact H
           clear H
           have H := H1
           clear H1
           exact absurd H (by simp)
          rw [if_neg c130] at H
          exact absurd H (by simp))⟩
         exact NE_ (inferInstanceAs (Nonempty (type_of% ?L14)))
        rw [if_neg c129] at H
        exact absurd H (by simp))⟩
        exact NE_ (inferInstanceAs (Nonempty (type_of% ?R4)))
      rw [if_neg c126] at H
      have c126b0 : decide (x16_5 < (x6_5.length : Int)) = false := decide_eq_false c126
      clear c126
      replace H := Option.bind_eq_some_iff.mp H
      obtain ⟨⟨t386, t387⟩, A1510, H⟩ := H
      (try dsimp only at H)
      have A151 := Aside0.mk A1510
      clear A1510
      have HC152 := Aside0.mk H
      clear H
      obtain ⟨Ao153, co153, eo153⟩ := Kd.R_slice HO_6.out
      subst eo153
      go_upto_region 46 with (first | ((with_reducible refine gate_callee (f := 37) rfl ?_); refine goesL_ (some 237) rfl rfl Try.func37 Z11_19 rfl #[.int .i64 t335] rfl Z11_11 ?_; (with_reducible refine (impl_NewFrames.calls k5 t335 t386 t387 _ A151.out).mono ?_); rintro e w154 ⟨v388, rfl, ho0, hb⟩; refine ⟨_, rfl, ?_⟩; have n0_ := Aside0.mk (Kd.R_elder' Z11_5 (Kd.R_base ho0) hb); have n1_ := Aside0.mk (Kd.R_elder' Z11_3 (Kd.R_base ho0) hb); have n2_ := Aside0.mk (Kd.R_lower (Kd.R_new' (Kd.R_new' ho0 (Kd.R_lt Z11_5)) (Kd.R_lt Z11_3)) (below_size Z11_2)); have n3_ := Aside0.mk (blk_below (g := gb343) (o := .cells #[.int .i64 x344000_5, u344001] 50 (0, 0)) Z11_1 hb); have n4_ := Aside0.mk (below_step Z11_2 hb); clear HO_6; clear HO_344001; clear BK343; clear HB; have HO_6 := n0_; have HO_344001 := n1_; have HO389 := n2_; have BK343 := n3_; have HB := n4_; clear n0_ n1_ n2_ n3_ n4_; (try clear hb); (try clear hb2 hk hi); (try clear ho0)) | ((with_reducible refine gate_dst (N := 20) rfl ?_); refine box_event ?hg (N := 20) ?hd (cs := #[.int .i64 0, .slice none 0 0]) (t := 50) ?hr ?_; (case hd => rfl); (case hg => rfl); (case hr => exact Z11_34); intro gb390 hg w155 hbox hb; have n0_ := Aside0.mk (Kd.R_below Z11_5 hb); have n1_ := Aside0.mk (Kd.R_below Z11_3 hb); have n2_ := Aside0.mk (Kd.R_below (by (with_reducible repeat (first | apply Kd.R_alloc | apply Kd.R_drewN | apply Kd.R_drew)); exact HO389.out) hb); have n3_ := Aside0.mk (blk_below (g := gb343) (o := .cells #[.int .i64 x344000_5, u344001] 50 (0, 0)) Z11_1 hb); have n4_ := Aside0.mk (below_step Z11_2 hb); have n5_ := Aside0.mk (hbox); have n6_ := Aside0.mk ((Z11_47 : w.heap.size ≤ gb390)); have n7_ := Aside0.mk ((Z11_47 : w.heap.size ≤ gb390)); have n8_ := Aside0.mk ((by rw [hg]; exact Nat.ne_of_lt (blk_lt (g := gb343) (o := .cells #[.int .i64 x344000_5, u344001] 50 (0, 0)) Z11_1) : gb343 ≠ gb390)); have n9_ := Aside0.mk ((by rw [hg]; exact Nat.ne_of_gt (blk_lt (g := gb343) (o := .cells #[.int .i64 x344000_5, u344001] 50 (0, 0)) Z11_1) : gb390 ≠ gb343)); clear HO_6; clear HO_344001; clear HO389; clear BK343; clear HB; have HO_6 := n0_; have HO_344001 := n1_; have HO389 := n2_; have BK343 := n3_; have HB := n4_; have BK390 := n5_; have GW390 := n6_; have GE390 := n7_; have NB343_390 := n8_; have NB390_343 := n9_; clear n0_ n1_ n2_ n3_ n4_ n5_ n6_ n7_ n8_ n9_; clear hb hbox hg; have hnb156 := NB390_343.out; have hnc156 := NB343_390.out; have hcz157_0 : w155.cell? ⟨gb390, 0, none⟩ = some (.int .i64 0) := (blk_cell BK390.out 0).trans rfl; have hcz157_1 : w155.cell? ⟨gb390, 1, none⟩ = some (.slice none 0 0) := (blk_cell BK390.out 1).trans rfl; have hfz157_0 := blk_frozen BK390.out 0; have hfz157_1 := blk_frozen BK390.out 1; obtain ⟨Ao158, co158, eo158⟩ := Kd.R_slice HO389.out; subst eo158))
      (try simp only [Act.put, List.setIfInBounds_toArray, List.set_cons_zero, List.set_cons_succ])
      go_cut [250] (fun v250 wc => ∃ (kq : Nat) (x250_151 : Bool), v250 = .bool x250_151 ∧ Aside0 (laws_FnFramesKept.j9 kq x250_151 x344000_5 x344001_5 t386 t387 = some r) ∧ Aside0 (kq ≤ k5) ∧ Aside0 (Kd.R k73 73 wc w.heap.size (fun k_ => some k_ ≠ ((.slice Ao158 t387.length co158) : Value).ownBlock) u344001 x344001_5) ∧ Aside0 (Kd.R k73 73 wc w.heap.size (fun k_ => some k_ ≠ (u344001 : Value).ownBlock) (.slice Ao158 t387.length co158) t387) ∧ Aside0 (wc.heap[gb343]? = some (.cells #[.int .i64 x344000_5, u344001] 50 (0, 0))) ∧ Aside0 (wc.heap[gb390]? = some (.cells #[.int .i64 t386, (.slice Ao158 t387.length co158)] 50 (0, 0))) ∧ Aside0 (Below w.heap.size w wc))
      case first =>
       refine ?L15
       letI iL15 : Nonempty (type_of% ?L15) := ⟨(by
       have H := HC152.out
       clear HC152
       by_cases c159 : (x344001_5.length : Int) = (t387.length : Int)
       ·rw [if_pos c159] at H
        have c159b0 : ((x344001_5.length : Int) == (t387.length : Int)) = true := beq_iff_eq.mpr c159
        have c159b1 : ((x344001_5.length : Int) != (t387.length : Int)) = false := bne_eq_false_iff_eq.mpr c159
        have c159b2 : (x344001_5.length == t387.length) = true := by first | simpa using c159 | (simp at c159 ⊢; omega)
        clear c159
        (first | rw [c159b0] | (simp only [i64_w, i32_w]; rw [c159b0]) | skip)
        have H' := Aside0.mk H
        clear H
        have hnb160 := NB343_390.out
        have hnc160 := NB390_343.out
        have hcz161_0 : w155.cell? ⟨gb343, 0, none⟩ = some (.int .i64 x344000_5) := (blk_cell BK343.out 0).trans rfl
        have hcz161_1 : w155.cell? ⟨gb343, 1, none⟩ = some (u344001) := (blk_cell BK343.out 1).trans rfl
        have hfz161_0 := blk_frozen BK343.out 0
        have hfz161_1 := blk_frozen BK343.out 1
        obtain ⟨Ao162, co162, eo162⟩ := Kd.R_slice HO_344001.out
        subst eo162
        have hcz163_0 : w155.cell? ⟨gb390, 0, none⟩ = some (.int .i64 0) := (blk_cell BK390.out 0).trans rfl
        have hcz163_1 : w155.cell? ⟨gb390, 1, none⟩ = some (.slice none 0 0) := (blk_cell BK390.out 1).trans rfl
        have hfz163_0 := blk_frozen BK390.out 0
        have hfz163_1 := blk_frozen BK390.out 1
        go_wp2
        go_meet
        case rel => exact ⟨_, ((x344000_5 != t335)), Z11_13, H', ⟨Z11_74⟩, ⟨Z11_50⟩, ⟨Z11_51⟩, ⟨Z11_49⟩, ⟨Z11_42⟩, ⟨Z11_24⟩⟩
       rw [if_neg c159] at H
       have c159b0 : ((x344001_5.length : Int) == (t387.length : Int)) = false := beq_eq_false_iff_ne.mpr c159
       have c159b1 : ((x344001_5.length : Int) != (t387.length : Int)) = true := bne_iff_ne.mpr c159
       have c159b2 : (x344001_5.length == t387.length) = false := by first | simpa using c159 | (simp at c159 ⊢; omega)
       (first | rw [c159b0] | (simp only [i64_w, i32_w]; rw [c159b0]) | skip)
       have H' := Aside0.mk H
       clear H
       have hnb164 := NB343_390.out
       have hnc164 := NB390_343.out
       have hcz165_0 : w155.cell? ⟨gb343, 0, none⟩ = some (.int .i64 x344000_5) := (blk_cell BK343.out 0).trans rfl
       have hcz165_1 : w155.cell? ⟨gb343, 1, none⟩ = some (u344001) := (blk_cell BK343.out 1).trans rfl
       have hfz165_0 := blk_frozen BK343.out 0
       have hfz165_1 := blk_frozen BK343.out 1
       obtain ⟨Ao166, co166, eo166⟩ := Kd.R_slice HO_344001.out
       subst eo166
       have hcz167_0 : w155.cell? ⟨gb390, 0, none⟩ = some (.int .i64 0) := (blk_cell BK390.out 0).trans rfl
       have hcz167_1 : w155.cell? ⟨gb390, 1, none⟩ = some (.slice none 0 0) := (blk_cell BK390.out 1).trans rfl
       have hfz167_0 := blk_frozen BK390.out 0
       have hfz167_1 := blk_frozen BK390.out 1
       go_wp2
       go_meet
       case rel => exact ⟨_, (true), Z11_13, H', ⟨Z11_74⟩, ⟨Z11_50⟩, ⟨Z11_51⟩, ⟨Z11_49⟩, ⟨Z11_42⟩, ⟨Z11_24⟩⟩)⟩
       exact NE_ (inferInstanceAs (Nonempty (type_of% ?L15)))
      clear HC152
      try clear c1
      try clear p1
      try clear q1
      try clear hx1
      try clear hf1
      try clear p2
      try clear c3
      try clear p3
      try clear q3
      try clear hx3
      try clear c4
      try clear p6
      try clear c12
      try clear c13
      try clear p13
      try clear q13
      try clear hx13
      try clear hf13
      try clear c14
      try clear hx14
      try clear hf14
      try clear c15
      try clear c16
      try clear p35
      try clear q35
      try clear hx35
      try clear p36
      try clear q36
      try clear hx36
      try clear c37
      try clear p37
      try clear q37
      try clear hx37
      try clear c43
      try clear p64
      try clear c126
      try clear c126b0
      try clear c129
      try clear c129b0
      try clear c130
      try clear c130b0
      try clear c131
      try clear c131b0
      try clear c132
      try clear c132b0
      try clear c132b1
      try clear c132b2
      try clear c134
      try clear c135
      try clear p135
      try clear q135
      try clear hx135
      try clear hf135
      try clear c145
      try clear c149
      try clear hx149
      try clear hf149
      try clear c156
      try clear c159
      try clear c159b0
      try clear c159b1
      try clear c159b2
      try clear c160
      try clear c164
      try clear hcz146_0
      try clear hcz146_1
      try clear hcz147_0
      try clear hcz147_1
      try clear hcz157_0
      try clear hcz157_1
      try clear hcz161_0
      try clear hcz161_1
      try clear hcz163_0
      try clear hcz163_1
      try clear hcz165_0
      try clear hcz165_1
      try clear hcz167_0
      try clear hcz167_1
      try clear hfz146_0
      try clear hfz146_1
      try clear hfz147_0
      try clear hfz147_1
      try clear hfz157_0
      try clear hfz157_1
      try clear hfz161_0
      try clear hfz161_1
      try clear hfz163_0
      try clear hfz163_1
      try clear hfz165_0
      try clear hfz165_1
      try clear hfz167_0
      try clear hfz167_1
      try clear hx135_0
      try clear hx135_1
      try clear hx149_1
      try clear hx359_1
      try clear hx359_2
      try clear hx366_0
      try clear hx366_1
      try clear hx366_2
      try clear hx367_0
      try clear hx367_1
      try clear hx368_0
      try clear hx368_1
      try clear hx369_0
      try clear hx369_1
      try clear hx370_0
      try clear hx370_1
      try clear hx370_2
      try clear hx376_0
      try clear hx376_1
      try clear hx377_0
      try clear hx377_1
      try clear hx378_0
      try clear hx378_1
      try clear p135
      try clear p2
      try clear p3
      try clear p35
      try clear p359
      try clear p36
      try clear p366
      try clear p367
      try clear p368
      try clear p369
      try clear p37
      try clear p370
      try clear p376
      try clear p377
      try clear p378
      try clear p6
      try clear p64
      try clear q135
      try clear q3
      try clear q35
      try clear q359
      try clear q36
      try clear q366
      try clear q367
      try clear q368
      try clear q369
      try clear q37
      try clear q370
      try clear q376
      try clear q377
      try clear q378
      obtain ⟨kq, x250_151, rfl, HA, HJ151, HO_344001, HO_391001, BK343, BK390, HB⟩ := hcut
      cases kq with
      | zero => exact absurd HA.out (by simp [laws_FnFramesKept.j9])
      | succ kj151 =>
       refine ?R6
       letI iR6 : Nonempty (type_of% ?R6) := ⟨(by
       have H := HA.out
       clear HA
       simp only [laws_FnFramesKept.j9] at H
       by_cases c168 : x250_151 = true
       ·subst c168
        have H1 : (none) = some r := by rw [if_pos rfl] at H; exact H
        clear H
        have H := H1
        clear H1
        exact absurd H (by simp)
       replace c168 := Bool.eq_false_iff.mpr c168
       subst c168
       have H1 : (laws_FnFramesKept.l4 kj151 0 x344000_5 x344001_5 t386 t387) = some r := by rw [if_neg (show ¬ (false = true) by decide)] at H; exact H
       clear H
       have H := H1
       clear H1
       have H' := Aside0.mk H
       clear H
       go_wp2
       go_loopg [21] kj151 (fun kq v21 w' => ∃ (x21_7 : Int), v21 = .int .i64 x21_7 ∧ Aside0 (laws_FnFramesKept.l4 kq x21_7 x344000_5 x344001_5 t386 t387 = some r) ∧ Aside0 (kq ≤ kj151) ∧ Aside0 (Kd.R k73 73 w' w.heap.size (fun k_ => some k_ ≠ ((.slice Ao158 t387.length co158) : Value).ownBlock) u344001 x344001_5) ∧ Aside0 (Kd.R k73 73 w' w.heap.size (fun k_ => some k_ ≠ (u344001 : Value).ownBlock) (.slice Ao158 t387.length co158) t387) ∧ Aside0 (w'.heap[gb343]? = some (.cells #[.int .i64 x344000_5, u344001] 50 (0, 0))) ∧ Aside0 (w'.heap[gb390]? = some (.cells #[.int .i64 t386, (.slice Ao158 t387.length co158)] 50 (0, 0))) ∧ Aside0 (Below w.heap.size w w'))
       case atStart => exact ⟨(0), Z11_13, H', ⟨Nat.le_refl _⟩, ⟨Z11_3⟩, ⟨by (with_reducible repeat (first | apply Kd.R_alloc | apply Kd.R_drewN | apply Kd.R_drew)); exact HO_391001.out⟩, ⟨Z11_1⟩, ⟨by (with_reducible repeat (first | apply blk_drewN | apply blk_drew | apply blk_alloc)); exact BK390.out⟩, ⟨Z11_24⟩⟩
       clear H'
       try clear c1
       try clear p1
       try clear q1
       try clear hx1
       try clear hf1
       try clear p2
       try clear c3
       try clear p3
       try clear q3
       try clear hx3
       try clear c4
       try clear p6
       try clear c12
       try clear c13
       try clear p13
       try clear q13
       try clear hx13
       try clear hf13
       try clear c14
       try clear hx14
       try clear hf14
       try clear c15
       try clear c16
       try clear p35
       try clear q35
       try clear hx35
       try clear p36
       try clear q36
       try clear hx36
       try clear c37
       try clear p37
       try clear q37
       try clear hx37
       try clear c43
       try clear p64
       try clear c126
       try clear c126b0
       try clear c129
       try clear c129b0
       try clear c130
       try clear c130b0
       try clear c131
       try clear c131b0
       try clear c132
       try clear c132b0
       try clear c132b1
       try clear c132b2
       try clear c134
       try clear c135
       try clear p135
       try clear q135
       try clear hx135
       try clear hf135
       try clear c145
       try clear c149
       try clear hx149
       try clear hf149
       try clear c156
       try clear c159
       try clear c159b0
       try clear c159b1
       try clear c159b2
       try clear c160
       try clear c164
       try clear c168
       try clear hcz146_0
       try clear hcz146_1
       try clear hcz147_0
       try clear hcz147_1
       try clear hcz157_0
       try clear hcz157_1
       try clear hcz161_0
       try clear hcz161_1
       try clear hcz163_0
       try clear hcz163_1
       try clear hcz165_0
       try clear hcz165_1
       try clear hcz167_0
       try clear hcz167_1
       try clear hfz146_0
       try clear hfz146_1
       try clear hfz147_0
       try clear hfz147_1
       try clear hfz157_0
       try clear hfz157_1
       try clear hfz161_0
       try clear hfz161_1
       try clear hfz163_0
       try clear hfz163_1
       try clear hfz165_0
       try clear hfz165_1
       try clear hfz167_0
       try clear hfz167_1
       try clear hx135_0
       try clear hx135_1
       try clear hx149_1
       try clear hx359_1
       try clear hx359_2
       try clear hx366_0
       try clear hx366_1
       try clear hx366_2
       try clear hx367_0
       try clear hx367_1
       try clear hx368_0
       try clear hx368_1
       try clear hx369_0
       try clear hx369_1
       try clear hx370_0
       try clear hx370_1
       try clear hx370_2
       try clear hx376_0
       try clear hx376_1
       try clear hx377_0
       try clear hx377_1
       try clear hx378_0
       try clear hx378_1
       try clear p1
       try clear p13
       try clear p135
       try clear p2
       try clear p3
       try clear p35
       try clear p359
       try clear p36
       try clear p366
       try clear p367
       try clear p368
       try clear p369
       try clear p37
       try clear p370
       try clear p376
       try clear p377
       try clear p378
       try clear p6
       try clear p64
       try clear q1
       try clear q13
       try clear q135
       try clear q3
       try clear q35
       try clear q359
       try clear q36
       try clear q366
       try clear q367
       try clear q368
       try clear q369
       try clear q37
       try clear q370
       try clear q376
       try clear q377
       try clear q378
       obtain ⟨x21_7, rfl, HA, HK7, HO_344001, HO_391001, BK343, BK390, HB⟩ := hrel
       cases gk with
       | zero => exact absurd HA.out (by simp [laws_FnFramesKept.l4])
       | succ k7 =>
        refine ?R5
        letI iR5 : Nonempty (type_of% ?R5) := ⟨(by
        have H := HA.out
        clear HA
        simp only [laws_FnFramesKept.l4] at H
        by_cases c169 : x21_7 < (x344001_5.length : Int)
        ·
         refine ?L16
         letI iL16 : Nonempty (type_of% ?L16) := ⟨(by
          rw [if_pos c169] at H
          have c169b0 : decide (x21_7 < (x344001_5.length : Int)) = true := decide_eq_true c169
          clear c169
          by_cases c170 : 0 ≤ x21_7
          ·rw [if_pos c170] at H
           have c170b0 : decide (0 ≤ x21_7) = true := decide_eq_true c170
           clear c170
           by_cases c171 : x21_7 < (t387.length : Int)
           ·rw [if_pos c171] at H
            have c171b0 : decide (x21_7 < (t387.length : Int)) = true := decide_eq_true c171
            clear c171
            by_cases c172 : (!(((rd_T73 x344001_5 x21_7).f0) == ((rd_T73 t387 x21_7).f0)) || (!(((rd_T73 x344001_5 x21_7).f1) == ((rd_T73 t387 x21_7).f1)))) = true
            ·rw [if_pos c172] at H
             exact absurd H (by simp)
            rw [if_neg c172] at H
            have c172b0 : (!(((rd_T73 x344001_5 x21_7).f0) == ((rd_T73 t387 x21_7).f0)) || (!(((rd_T73 x344001_5 x21_7).f1) == ((rd_T73 t387 x21_7).f1)))) = false := by simpa using c172
            have c172e := Aside0.mk (show (rd_T73 x344001_5 x21_7).f0 = (rd_T73 t387 x21_7).f0 ∧ (rd_T73 x344001_5 x21_7).f1 = (rd_T73 t387 x21_7).f1 from by simpa using c172)
            clear c172
            have H' := Aside0.mk H
            clear H
            have hnb173 := NB343_390.out
            have hnc173 := NB390_343.out
            have hcz174_0 : wr.cell? ⟨gb343, 0, none⟩ = some (.int .i64 x344000_5) := (blk_cell BK343.out 0).trans rfl
            have hcz174_1 : wr.cell? ⟨gb343, 1, none⟩ = some (u344001) := (blk_cell BK343.out 1).trans rfl
            have hfz174_0 := blk_frozen BK343.out 0
            have hfz174_1 := blk_frozen BK343.out 1
            obtain ⟨Ao175, co175, eo175⟩ := Kd.R_slice HO_344001.out
            subst eo175
            try go_wp2
            have n0_ := Aside0.mk (Kd.R_drew HO_344001.out)
            have n1_ := Aside0.mk (Kd.R_drew HO_391001.out)
            have n2_ := Aside0.mk (blk_drew BK343.out)
            have n3_ := Aside0.mk (blk_drew BK390.out)
            have n4_ := Aside0.mk (below_drew1 HB.out)
            clear HO_344001
            clear HO_391001
            clear BK343
            clear BK390
            clear HB
            have HO_344001 := n0_
            have HO_391001 := n1_
            have BK343 := n2_
            have BK390 := n3_
            have HB := n4_
            clear n0_ n1_ n2_ n3_ n4_
            have p391 : 0 ≤ (x21_7 : Int) := of_decide_eq_true Z11_14
            have q391 : x21_7 < (x344001_5.length : Int) := of_decide_eq_true Z11_14
            obtain ⟨ad391, e391, hx391_0, hx391_1⟩ := at_T73 (Kd.R_reads' HO_344001.out).2.2 x21_7 p391 q391
            cases e391
            replace p391 := eq_true p391
            replace q391 := eq_true q391
            have p392 : 0 ≤ (x21_7 : Int) := of_decide_eq_true Z11_14
            have q392 : x21_7 < (t387.length : Int) := of_decide_eq_true Z11_14
            obtain ⟨ad392, e392, hx392_0, hx392_1⟩ := at_T73 (Kd.R_reads' HO_391001.out).2.2 x21_7 p392 q392
            cases e392
            replace p392 := eq_true p392
            replace q392 := eq_true q392
            refine start_ (n := 11) (S := fun w' => w'.cell? ⟨gb343, 0, none⟩ = some (.int .i64 x344000_5) ∧ w'.cell? ⟨gb343, 1, none⟩ = some (.slice (some ad391) x344001_5.length co175) ∧ w'.cell? ⟨gb390, 0, none⟩ = some (.int .i64 t386) ∧ w'.cell? ⟨gb390, 1, none⟩ = some (.slice (some ad392) t387.length co158) ∧ w'.cell? (ad391.add ((x21_7).toNat * 2)) = some (.int .i64 ((rd_T73 x344001_5 x21_7).f0)) ∧ w'.cell? ⟨(ad391.add ((x21_7).toNat * 2)).block, (ad391.add ((x21_7).toNat * 2)).off + 1, none⟩ = some (.int .i64 ((rd_T73 x344001_5 x21_7).f1)) ∧ w'.cell? (ad392.add ((x21_7).toNat * 2)) = some (.int .i64 ((rd_T73 t387 x21_7).f0)) ∧ w'.cell? ⟨(ad392.add ((x21_7).toNat * 2)).block, (ad392.add ((x21_7).toNat * 2)).off + 1, none⟩ = some (.int .i64 ((rd_T73 t387 x21_7).f1))) (ds := []) #[false, false, false, false, false, false, false, false, false, false, false] Z11_19 rfl rfl ⟨(blk_cell BK343.out 0).trans rfl, (blk_cell BK343.out 1).trans rfl, (blk_cell BK390.out 0).trans rfl, (blk_cell BK390.out 1).trans rfl, hx391_0, hx391_1, hx392_0, hx392_1⟩ (fun hHeld => ?_); refine with_tabW laws_FnFramesKept.tab51 laws_FnFramesKept.bits51 (fun HT_ HW_ => ?_)
            generalize wr.drew = w176 at HO_344001 HO_391001 BK343 BK390 HB hx391_0 hx391_1 hx392_0 hx392_1 hHeld ⊢
            refine pure_ (i := 0) (N := some 258) (v := ?_) (a' := ?_) #[true, false, false, false, false, false, false, false, false, false, false] rfl rfl (any_of HT_.out Z11_19) (fun _ _ _ h => h) (Or.inl ⟨by rfl, ?_⟩) ?_ ?_
            rotate_left
            ·intro w'
             go_simp
             with_reducible rfl
            rotate_left
            ·simp only [Act.put, List.setIfInBounds_toArray, List.set_cons_zero, List.set_cons_succ, i64_w, i32_w]
             rfl
            refine pure_ (i := 2) (N := some 260) (v := ?_) (a' := ?_) #[true, false, true, false, false, false, false, false, false, false, false] rfl rfl (any_of HT_.out Z11_19) (fun _ _ _ h => h) (Or.inl ⟨by rfl, ?_⟩) ?_ ?_
            rotate_left
            ·intro w'
             go_simp
             with_reducible rfl
            rotate_left
            ·simp only [Act.put, List.setIfInBounds_toArray, List.set_cons_zero, List.set_cons_succ, i64_w, i32_w]
             rfl
            refine pure_ (i := 5) (N := some 263) (v := ?_) (a' := ?_) #[true, false, true, false, false, true, false, false, false, false, false] rfl rfl (any_of HT_.out Z11_19) (fun _ _ _ h => h) (Or.inl ⟨by rfl, ?_⟩) ?_ ?_
            rotate_left
            ·intro w'
             go_simp
             with_reducible rfl
            rotate_left
            ·simp only [Act.put, List.setIfInBounds_toArray, List.set_cons_zero, List.set_cons_succ, i64_w, i32_w]
             rfl
            refine pure_ (i := 7) (N := some 265) (v := ?_) (a' := ?_) #[true, false, true, false, false, true, false, true, false, false, false] rfl rfl (any_of HT_.out Z11_19) (fun _ _ _ h => h) (Or.inl ⟨by rfl, ?_⟩) ?_ ?_
            rotate_left
            ·intro w'
             go_simp
             with_reducible rfl
            rotate_left
            ·simp only [Act.put, List.setIfInBounds_toArray, List.set_cons_zero, List.set_cons_succ, i64_w, i32_w]
             rfl
            refine take_ (i := 1) (N := some 259) (v := ?_) (a' := ?_) #[true, true, true, false, false, true, false, true, false, false, false] rfl rfl (take_ofW HT_.out HW_.out Z11_19) (fun _ _ _ h => h) (Or.inl ⟨by rfl, ?_⟩) hHeld ?_ ?_
            rotate_left
            ·rintro w' ⟨s0, s1, s2, s3, s4, s5, s6, s7⟩
             go_simp
             with_reducible rfl
            rotate_left
            ·simp only [Act.put, List.setIfInBounds_toArray, List.set_cons_zero, List.set_cons_succ, i64_w, i32_w]
             rfl
            refine pure_ (i := 3) (N := some 261) (v := ?_) (a' := ?_) #[true, true, true, true, false, true, false, true, false, false, false] rfl rfl (any_of HT_.out Z11_19) (fun _ _ _ h => h) (Or.inl ⟨by rfl, ?_⟩) ?_ ?_
            rotate_left
            ·intro w'
             go_simp
             with_reducible rfl
            rotate_left
            ·simp only [Act.put, List.setIfInBounds_toArray, List.set_cons_zero, List.set_cons_succ, i64_w, i32_w]
             rfl
            refine take_ (i := 4) (N := some 262) (v := ?_) (a' := ?_) #[true, true, true, true, true, true, false, true, false, false, false] rfl rfl (take_ofW HT_.out HW_.out Z11_19) (fun _ _ _ h => h) (Or.inl ⟨by rfl, ?_⟩) hHeld ?_ ?_
            rotate_left
            ·rintro w' ⟨s0, s1, s2, s3, s4, s5, s6, s7⟩
             go_simp
             with_reducible rfl
            rotate_left
            ·simp only [Act.put, List.setIfInBounds_toArray, List.set_cons_zero, List.set_cons_succ, i64_w, i32_w]
             rfl
            refine take_ (i := 6) (N := some 264) (v := ?_) (a' := ?_) #[true, true, true, true, true, true, true, true, false, false, false] rfl rfl (take_ofW HT_.out HW_.out Z11_19) (fun _ _ _ h => h) (Or.inl ⟨by rfl, ?_⟩) hHeld ?_ ?_
            rotate_left
            ·rintro w' ⟨s0, s1, s2, s3, s4, s5, s6, s7⟩
             go_simp
             with_reducible rfl
            rotate_left
            ·simp only [Act.put, List.setIfInBounds_toArray, List.set_cons_zero, List.set_cons_succ, i64_w, i32_w]
             rfl
            refine pure_ (i := 8) (N := some 266) (v := ?_) (a' := ?_) #[true, true, true, true, true, true, true, true, true, false, false] rfl rfl (any_of HT_.out Z11_19) (fun _ _ _ h => h) (Or.inl ⟨by rfl, ?_⟩) ?_ ?_
            rotate_left
            ·intro w'
             go_simp
             with_reducible rfl
            rotate_left
            ·simp only [Act.put, List.setIfInBounds_toArray, List.set_cons_zero, List.set_cons_succ, i64_w, i32_w]
             rfl
            refine take_ (i := 9) (N := some 267) (v := ?_) (a' := ?_) #[true, true, true, true, true, true, true, true, true, true, false] rfl rfl (take_ofW HT_.out HW_.out Z11_19) (fun _ _ _ h => h) (Or.inl ⟨by rfl, ?_⟩) hHeld ?_ ?_
            rotate_left
            ·rintro w' ⟨s0, s1, s2, s3, s4, s5, s6, s7⟩
             go_simp
             with_reducible rfl
            rotate_left
            ·simp only [Act.put, List.setIfInBounds_toArray, List.set_cons_zero, List.set_cons_succ, i64_w, i32_w]
             rfl
            refine pure_ (i := 10) (N := some 268) (v := ?_) (a' := ?_) #[true, true, true, true, true, true, true, true, true, true, true] rfl rfl (any_of HT_.out Z11_19) (fun _ _ _ h => h) (Or.inl ⟨by rfl, ?_⟩) ?_ ?_
            rotate_left
            ·intro w'
             go_simp
             (first | with_reducible rfl | rw [if_pos c172e.out.1, if_pos c172e.out.2])
            rotate_left
            ·simp only [Act.put, List.setIfInBounds_toArray, List.set_cons_zero, List.set_cons_succ, i64_w, i32_w]
             rfl
            refine done_ (done_of HT_.out Z11_19) ?_
            try go_wp2
            go_roundg k7
            case measure => have := HJ5.out; have := HJ15.out; have := HK3.out; have := HJ28.out; have := HK5.out; have := HJ151.out; have := HK7.out; omega
            case rel => exact ⟨(wrap64 (x21_7 + 1)), Z11_13, H', ⟨by have := HJ5.out; have := HJ15.out; have := HK3.out; have := HJ28.out; have := HK5.out; have := HJ151.out; have := HK7.out; omega⟩, ⟨Z11_3⟩, ⟨by (with_reducible repeat (first | apply Kd.R_alloc | apply Kd.R_drewN | apply Kd.R_drew)); exact HO_391001.out⟩, ⟨Z11_1⟩, ⟨by (with_reducible repeat (first | apply blk_drewN | apply blk_drew | apply blk_alloc)); exact BK390.out⟩, ⟨Z11_24⟩⟩
           rw [if_neg c171] at H
           exact absurd H (by simp)
          rw [if_neg c170] at H
          exact absurd H (by simp))⟩
         exact NE_ (inferInstanceAs (Nonempty (type_of% ?L16)))
        rw [if_neg c169] at H
        have c169b0 : decide (x21_7 < (x344001_5.length : Int)) = false := decide_eq_false c169
        clear c169
        obtain rfl := Option.some.inj H
        have hnb177 := NB343_390.out
        have hnc177 := NB390_343.out
        have hcz178_0 : wr.cell? ⟨gb343, 0, none⟩ = some (.int .i64 x344000_5) := (blk_cell BK343.out 0).trans rfl
        have hcz178_1 : wr.cell? ⟨gb343, 1, none⟩ = some (u344001) := (blk_cell BK343.out 1).trans rfl
        have hfz178_0 := blk_frozen BK343.out 0
        have hfz178_1 := blk_frozen BK343.out 1
        obtain ⟨Ao179, co179, eo179⟩ := Kd.R_slice HO_344001.out
        subst eo179
        go_wp2
        go_ret
        exact ⟨Z11_63, Z11_24⟩)⟩
        exact NE_ (inferInstanceAs (Nonempty (type_of% ?R5))))⟩
       exact NE_ (inferInstanceAs (Nonempty (type_of% ?R6))))⟩
      exact NE_ (inferInstanceAs (Nonempty (type_of% ?R7))))⟩
     exact NE_ (inferInstanceAs (Nonempty (type_of% ?R8))))⟩
    exact NE_ (inferInstanceAs (Nonempty (type_of% ?R9))))⟩
   exact NE_ (inferInstanceAs (Nonempty (type_of% ?R10))))⟩
  exact NE_ (inferInstanceAs (Nonempty (type_of% ?R11)))
/-- THE ONE PURE STATEMENT of laws_FnFramesKept: yours. -/
def laws_FnFramesKept.Pure : Prop := ∀ (l0 : List Int), l0.length ≤ maxLen → l0.length * 1 ≤ 140737488351232 → (∀ x ∈ l0, (Lit.int .u8 x).wf = true) → ∃ k, laws_FnFramesKept.f k l0 = some true
theorem laws_FnFramesKept.walk (P : laws_FnFramesKept.Pure) (a0 : Option Addr) (len0 cap0 : Nat) (z0 : List Int) (w : World) (w0 : (a0 = none ∧ len0 = 0 ∧ cap0 = 0 ∧ z0 = []) ∨ ∃ x, a0 = some x ∧ len0 ≤ cap0 ∧ cap0 ≤ maxLen ∧ z0.length = cap0 ∧ (∀ i, i < z0.length → w.cell? (x.add i) = some (.int .u8 (z0.getD i 0))) ∧ ∀ n ∈ z0, (Lit.int .u8 n).wf = true) (y0 : len0 * 1 ≤ 140737488351232) :
  Calls Try.prog 13 #[.slice a0 len0 cap0] w fun e w' => e = .returned (.bool true) ∧ Below w.heap.size w w' := by
 obtain ⟨l0, rfl, hr0, hm0, hw0, hc0⟩ := ReadsInt.ofRowC w0
 obtain ⟨k, h⟩ := P l0 hm0 y0 hw0
 refine (laws_FnFramesKept.calls k _ _ l0 true w (Kd.C_of_reads (d := (0 : Int)) (h1 := fun _ => rfl) hr0) hc0 h).mono ?_
 rintro e w' ⟨rfl, hd⟩
 exact ⟨rfl, hd⟩
end Go.Proofs.Ytmjdmaomakkhgaa.PFnFramesKept
