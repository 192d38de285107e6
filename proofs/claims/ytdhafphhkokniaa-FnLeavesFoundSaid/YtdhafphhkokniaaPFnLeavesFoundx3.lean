-- Written by a program of this session out of the translation. Not trusted: Lean checks it.
import Derived.Test.YtdhafphhkokniaaPFnLeavesFoundx0
namespace Go.Proofs.Ytdhafphhkokniaa.PFnLeavesFound
open Go.RowKit Go.Proofs.YtdhafphhkokniaaW.PrintWords Go.Proofs.YtdhafphhkokniaaW.PrintLast Go.Proofs.YtdhafphhkokniaaW.PrintMore
attribute [local go_sem] max2_int min2_int max_two min_two max_three min_three max_four min_four   -- for this text's walks alone
set_option linter.unusedVariables false
set_option linter.unusedSimpArgs false
theorem Z3_10 {P : Prop} (h : P := by first | omega | exact Nat.le_refl _) : P := h
theorem Z3_9 {P : Prop} (h : P := by kernel_rfl) : P := h
theorem Z3_8 {P : Prop} (h : P := by (with_reducible repeat (first | apply blk_drewN | apply blk_drew | apply blk_alloc)); exact BK130.out) : P := h
theorem Z3_7 {P : Prop} (h : P := by repeat (first | (with_reducible first | exact HB.out | apply below_alloc | apply pw_below_drewN | apply below_drew1 | refine below_set ?_ GE130.out) | exact HB.out)) : P := h
theorem Z3_6 {P : Prop} (h : P := by repeat (first | (with_reducible first | exact HB.out | apply below_alloc | apply pw_below_drewN | apply below_drew1) | exact HB.out)) : P := h
theorem Z3_5 {P : Prop} (h : P := by repeat (first | exact Drawn0.refl _ | apply Drawn0.step)) : P := h
theorem Z3_4 {P : Prop} (h : P := by obtain ⟨nd, rfl⟩ := hd_; (with_reducible repeat (first | apply blk_drewN | apply blk_drew | apply blk_alloc)); refine blk_far ?_ NB130_131.out _; (with_reducible repeat (first | apply blk_drewN | apply blk_drew | apply blk_alloc)); exact BK130.out) : P := h
theorem Z3_3 {P : Prop} (h : P := by obtain ⟨nd, rfl⟩ := hd_; repeat (first | (with_reducible first | exact HB.out | apply below_alloc | apply pw_below_drewN | apply below_drew1 | refine below_set ?_ GE130.out | refine below_set ?_ GE131.out) | exact HB.out)) : P := h
theorem Z3_2 {P : Prop} (h : P := by (try simp only [List.map_toArray, List.map_cons, List.map_nil]); first | done | rfl | (simp only [List.length_drop, List.length_take]; first | done | rfl)) : P := h
theorem Z3_1 {P : Prop} (h : P := by first | rfl | exact congrArg (Value.int .i64) (i64_w _) | (simp; done) | (simp [*]; done)) : P := h

/-! ### spec_l6MemOk: function 51 -/
def spec_l6MemOk.f (l0 : List Int) : Option (Bool) := if ((l0.length : Int) % 256) = 0 then (some (decide ((l0.length : Int) ≤ 262144))) else (some false)
set_option maxHeartbeats 8000000 in
set_option maxRecDepth 100000 in
theorem spec_l6MemOk.calls (A0 : Option Addr) (c0 : Nat) (l0 : List Int) (r : Bool) (w : World) (hr0 : Kd.C (Kd.int .u8) w A0 l0.length l0) (hc0 : l0.length ≤ c0) (h : spec_l6MemOk.f l0 = some r) :
  Calls Try.prog 51 #[.slice A0 l0.length c0] w fun e w' => e = .returned (.bool r) ∧ Drawn0 w w' := by
 have HR0 := Aside0.mk hr0
 have HC0 := Aside0.mk hc0
 clear hr0 hc0
 have H : (if ((l0.length : Int) % 256) = 0 then (some (decide ((l0.length : Int) ≤ 262144))) else (some false)) = some r := h
 clear h
 by_cases c2 : ((l0.length : Int) % 256) = 0
 ·rw [if_pos c2] at H
  have c2b0 : (((l0.length : Int) % 256) == 0) = true := beq_iff_eq.mpr c2
  have c2b1 : (((l0.length : Int) % 256) != 0) = false := bne_eq_false_iff_eq.mpr c2
  clear c2
  obtain rfl := Option.some.inj H
  go_enter Try.func51, Try.ntmps51
  go_wp2
  go_ret
  exact ⟨Z3_1, Z3_5⟩
 rw [if_neg c2] at H
 have c2b0 : (((l0.length : Int) % 256) == 0) = false := beq_eq_false_iff_ne.mpr c2
 have c2b1 : (((l0.length : Int) % 256) != 0) = true := bne_iff_ne.mpr c2
 obtain rfl := Option.some.inj H
 go_enter Try.func51, Try.ntmps51
 go_wp2
 go_ret
 exact ⟨Z3_1, Z3_5⟩
/-! ### spec_l1Pow: function 84 -/
def spec_l1Pow.l0 : Nat → Int → Int → Int → Option (Int)
 | 0, _, _, _ => none
 | k + 1, x0, x3, x4 => if x4 < x0 then (spec_l1Pow.l0 k x0 (IntKind.u64.wrap (x3 * 2)) (wrap64 (x4 + 1))) else (some x3)
def spec_l1Pow.f (k : Nat) (a0 : Int) : Option (Int) := spec_l1Pow.l0 k a0 1 0
theorem spec_l1Pow.mono_l : ∀ k, (∀ y0 y1 y2, LeO (spec_l1Pow.l0 k y0 y1 y2) (spec_l1Pow.l0 (k + 1) y0 y1 y2))
 | 0 => fun _ _ _ r h => by simp [spec_l1Pow.l0] at h
 | k + 1 => by
  have ih0 := spec_l1Pow.mono_l k
  ·intro y0 y1 y2
   unfold spec_l1Pow.l0
   repeat' first
   | (with_reducible exact ih0 _ _ _)
   | (with_reducible exact LeO.refl _)
   | (with_reducible exact LeO.none _)
   | (with_reducible refine LeO.ite ?_ ?_)
   | (with_reducible refine LeO.bind ?_ (fun _ => ?_))
   | exact ih0 _ _ _
   | exact LeO.none _
   | refine LeO.ite ?_ ?_
   | refine LeO.bind ?_ (fun _ => ?_)
theorem spec_l1Pow.mono : ∀ a0 k, LeO (spec_l1Pow.f k a0) (spec_l1Pow.f (k + 1) a0) := by
 intro a0 k
 have ih0 := spec_l1Pow.mono_l k
 unfold spec_l1Pow.f
 repeat' first
   | (with_reducible exact ih0 _ _ _)
   | (with_reducible exact LeO.refl _)
   | (with_reducible exact LeO.none _)
   | (with_reducible refine LeO.ite ?_ ?_)
   | (with_reducible refine LeO.bind ?_ (fun _ => ?_))
   | exact ih0 _ _ _
   | exact LeO.none _
   | refine LeO.ite ?_ ?_
   | refine LeO.bind ?_ (fun _ => ?_)
set_option maxHeartbeats 8000000 in
set_option maxRecDepth 100000 in
theorem spec_l1Pow.calls (k : Nat) (a0 : Int) (r : Int) (w : World) (h : spec_l1Pow.f k a0 = some r) :
  Calls Try.prog 84 #[.int .i64 a0] w fun e w' => e = .returned (.int .u64 r) ∧ Drawn0 w w' := by
 have H : (spec_l1Pow.l0 k a0 1 0) = some r := h
 clear h
 have H' := Aside0.mk H
 clear H
 go_enter Try.func84, Try.ntmps84
 go_wp2
 go_loopg [3, 4] k (fun kq v3 v4 w' => ∃ (x3_1 : Int) (x4_1 : Int), v3 = .int .u64 x3_1 ∧ v4 = .int .i64 x4_1 ∧ Aside0 (spec_l1Pow.l0 kq a0 x3_1 x4_1 = some r) ∧ Aside0 (kq ≤ k) ∧ Drawn0 w w')
 case atStart => exact ⟨(1), (0), Z3_1, Z3_1, H', ⟨Nat.le_refl _⟩, Z3_5⟩
 clear H'
 obtain ⟨x3_1, x4_1, rfl, rfl, HA, HK1, ⟨m1, rfl⟩⟩ := hrel
 cases gk with
 | zero => exact absurd HA.out (by simp [spec_l1Pow.l0])
 | succ k1 =>
  have H := HA.out
  clear HA
  simp only [spec_l1Pow.l0] at H
  by_cases c2 : x4_1 < a0
  ·rw [if_pos c2] at H
   have c2b0 : decide (x4_1 < a0) = true := decide_eq_true c2
   clear c2
   have H' := Aside0.mk H
   clear H
   go_wp2
   go_roundg k1
   case measure => have := HK1.out; omega
   case rel => exact ⟨(IntKind.u64.wrap (x3_1 * 2)), (wrap64 (x4_1 + 1)), Z3_1, Z3_1, H', ⟨by have := HK1.out; omega⟩, Z3_5⟩
  rw [if_neg c2] at H
  have c2b0 : decide (x4_1 < a0) = false := decide_eq_false c2
  clear c2
  obtain rfl := Option.some.inj H
  go_wp2
  go_ret
  exact ⟨Z3_1, Z3_5⟩
/-! ### spec_l1Bit: function 85 -/
def spec_l1Bit.f (k : Nat) (a0 : Int) (a1 : Int) : Option (Int) := (spec_l1Pow.f k a1).bind fun t128 => (if t128 = 0 then (none) else (some (Int.tmod (IntKind.u64.wrap (Int.tdiv a0 t128)) 2)))
theorem spec_l1Bit.mono : ∀ a0 a1 k, LeO (spec_l1Bit.f k a0 a1) (spec_l1Bit.f (k + 1) a0 a1) := by
 intro a0 a1 k
 unfold spec_l1Bit.f
 repeat' first
   | (with_reducible exact spec_l1Pow.mono _ _)
   | (with_reducible exact LeO.refl _)
   | (with_reducible exact LeO.none _)
   | (with_reducible refine LeO.ite ?_ ?_)
   | (with_reducible refine LeO.bind ?_ (fun _ => ?_))
   | exact spec_l1Pow.mono _ _
   | exact LeO.none _
   | refine LeO.ite ?_ ?_
   | refine LeO.bind ?_ (fun _ => ?_)
set_option maxHeartbeats 8000000 in
set_option maxRecDepth 100000 in
theorem spec_l1Bit.calls (k : Nat) (a0 : Int) (a1 : Int) (r : Int) (w : World) (h : spec_l1Bit.f k a0 a1 = some r) :
  Calls Try.prog 85 #[.int .u64 a0, .int .i64 a1] w fun e w' => e = .returned (.int .u64 r) ∧ Drawn0 w w' := by
 have H : ((spec_l1Pow.f k a1).bind fun t128 => (if t128 = 0 then (none) else (some (Int.tmod (IntKind.u64.wrap (Int.tdiv a0 t128)) 2)))) = some r := h
 clear h
 replace H := Option.bind_eq_some_iff.mp H
 obtain ⟨t128, A30, H⟩ := H
 replace H : (if t128 = 0 then (none) else (some (Int.tmod (IntKind.u64.wrap (Int.tdiv a0 t128)) 2))) = some r := H
 have A3 := Aside0.mk A30
 clear A30
 by_cases c4 : t128 = 0
 ·rw [if_pos c4] at H
  exact absurd H (by simp)
 rw [if_neg c4] at H
 have c4b0 : (t128 == 0) = false := beq_eq_false_iff_ne.mpr c4
 have c4b1 : (t128 != 0) = true := bne_iff_ne.mpr c4
 obtain rfl := Option.some.inj H
 go_enter Try.func85, Try.ntmps85
 go_wp2_with (first | ((with_reducible refine gate_callee (f := 84) rfl ?_); refine goesL_ (some 7) rfl rfl Try.func84 Z3_9 rfl #[.int .i64 a1] rfl Z3_2 ?_; (with_reducible refine (spec_l1Pow.calls k a1 t128 _ A3.out).mono ?_); rintro e w' ⟨rfl, ⟨nd, rfl⟩⟩; refine ⟨_, rfl, ?_⟩))
 go_ret
 exact ⟨Z3_1, Z3_5⟩
/-! ### spec_l6Is: function 49 -/
def spec_l6Is.f (k : Nat) (a0 : Int) (a1 : Int) : Option (Bool) := (spec_l1Bit.f k a0 a1).bind fun t129 => (some (t129 == 1))
theorem spec_l6Is.mono : ∀ a0 a1 k, LeO (spec_l6Is.f k a0 a1) (spec_l6Is.f (k + 1) a0 a1) := by
 intro a0 a1 k
 unfold spec_l6Is.f
 repeat' first
   | (with_reducible exact spec_l1Bit.mono _ _ _)
   | (with_reducible exact LeO.refl _)
   | (with_reducible exact LeO.none _)
   | (with_reducible refine LeO.ite ?_ ?_)
   | (with_reducible refine LeO.bind ?_ (fun _ => ?_))
   | exact spec_l1Bit.mono _ _ _
   | exact LeO.none _
   | refine LeO.ite ?_ ?_
   | refine LeO.bind ?_ (fun _ => ?_)
set_option maxHeartbeats 8000000 in
set_option maxRecDepth 100000 in
theorem spec_l6Is.calls (k : Nat) (a0 : Int) (a1 : Int) (r : Bool) (w : World) (h : spec_l6Is.f k a0 a1 = some r) :
  Calls Try.prog 49 #[.int .u64 a0, .int .i64 a1] w fun e w' => e = .returned (.bool r) ∧ Drawn0 w w' := by
 have H : ((spec_l1Bit.f k a0 a1).bind fun t129 => (some (t129 == 1))) = some r := h
 clear h
 replace H := Option.bind_eq_some_iff.mp H
 obtain ⟨t129, A30, H⟩ := H
 replace H : (some (t129 == 1)) = some r := H
 have A3 := Aside0.mk A30
 clear A30
 obtain rfl := Option.some.inj H
 go_enter Try.func49, Try.ntmps49
 go_wp2_with (first | ((with_reducible refine gate_callee (f := 85) rfl ?_); refine goesL_ (some 7) rfl rfl Try.func85 Z3_9 rfl #[.int .u64 a0, .int .i64 a1] rfl Z3_2 ?_; (with_reducible refine (spec_l1Bit.calls k a0 a1 t129 _ A3.out).mono ?_); rintro e w' ⟨rfl, ⟨nd, rfl⟩⟩; refine ⟨_, rfl, ?_⟩))
 go_ret
 exact ⟨Z3_1, Z3_5⟩
/-! ### spec_GetEntry: function 15 -/
def spec_GetEntry.f (k : Nat) (a0 : Int) : Option (Bool × Bool × Bool × Bool × Bool × Bool × Bool × Bool × Int × Bool) := if a0 ≥ 1048576 then (some (false, false, false, false, false, false, false, false, 0, false)) else ((spec_l6Is.f k a0 0).bind fun t132 => ((spec_l6Is.f k a0 1).bind fun t133 => ((spec_l6Is.f k a0 2).bind fun t134 => ((spec_l6Is.f k a0 3).bind fun t135 => ((spec_l6Is.f k a0 4).bind fun t136 => ((spec_l6Is.f k a0 5).bind fun t137 => ((spec_l6Is.f k a0 6).bind fun t138 => ((spec_l6Is.f k a0 7).bind fun t139 => (some (t132, t133, t134, t135, t136, t137, t138, t139, wrap64 (IntKind.u64.wrap (Int.tdiv a0 256)), true))))))))))
theorem spec_GetEntry.mono : ∀ a0 k, LeO (spec_GetEntry.f k a0) (spec_GetEntry.f (k + 1) a0) := by
 intro a0 k
 unfold spec_GetEntry.f
 repeat' first
   | (with_reducible exact spec_l6Is.mono _ _ _)
   | (with_reducible exact LeO.refl _)
   | (with_reducible exact LeO.none _)
   | (with_reducible refine LeO.ite ?_ ?_)
   | (with_reducible refine LeO.bind ?_ (fun _ => ?_))
   | exact spec_l6Is.mono _ _ _
   | exact LeO.none _
   | refine LeO.ite ?_ ?_
   | refine LeO.bind ?_ (fun _ => ?_)
set_option maxHeartbeats 8000000 in
set_option maxRecDepth 100000 in
theorem spec_GetEntry.calls (k : Nat) (a0 : Int) (r1 : Bool) (r2 : Bool) (r3 : Bool) (r4 : Bool) (r5 : Bool) (r6 : Bool) (r7 : Bool) (r8 : Bool) (r9 : Int) (r10 : Bool) (w : World) (h : spec_GetEntry.f k a0 = some (r1, r2, r3, r4, r5, r6, r7, r8, r9, r10)) :
  Calls Try.prog 15 #[.int .u64 a0] w fun e w' => e = .returned (.tuple #[.agg #[.bool r1, .bool r2, .bool r3, .bool r4, .bool r5, .bool r6, .bool r7, .bool r8, .int .i64 r9], .bool r10]) ∧ Below w.heap.size w w' := by
 have hu27 := Try.underlying27
 have HB := Aside0.mk (Below.refl w.heap.size w)
 have H : (if a0 ≥ 1048576 then (some (false, false, false, false, false, false, false, false, 0, false)) else ((spec_l6Is.f k a0 0).bind fun t132 => ((spec_l6Is.f k a0 1).bind fun t133 => ((spec_l6Is.f k a0 2).bind fun t134 => ((spec_l6Is.f k a0 3).bind fun t135 => ((spec_l6Is.f k a0 4).bind fun t136 => ((spec_l6Is.f k a0 5).bind fun t137 => ((spec_l6Is.f k a0 6).bind fun t138 => ((spec_l6Is.f k a0 7).bind fun t139 => (some (t132, t133, t134, t135, t136, t137, t138, t139, wrap64 (IntKind.u64.wrap (Int.tdiv a0 256)), true))))))))))) = some (r1, r2, r3, r4, r5, r6, r7, r8, r9, r10) := h
 clear h
 by_cases c2 : a0 ≥ 1048576
 ·rw [if_pos c2] at H
  have c2b0 : decide (1048576 ≤ a0) = true := decide_eq_true c2
  clear c2
  simp only [Option.some.injEq, Prod.mk.injEq] at H
  obtain ⟨rfl, rfl, rfl, rfl, rfl, rfl, rfl, rfl, rfl, rfl⟩ := H
  go_enter Try.func15, Try.ntmps15
  go_wp2_with (first | ((with_reducible refine gate_dst (N := 2) rfl ?_); refine box_event ?hg (N := 2) ?hd (cs := #[.bool false, .bool false, .bool false, .bool false, .bool false, .bool false, .bool false, .bool false, .int .i64 0]) (t := 27) ?hr ?_; (case hd => rfl); (case hg => rfl); (case hr => first | (go_simp; done) | (go_simp; rfl)); intro gb130 hg w3 hbox hb; have n0_ := Aside0.mk (below_step Z3_6 hb); have n1_ := Aside0.mk (hbox); have n2_ := Aside0.mk ((by rw [hg]; exact (below_size Z3_6) : w.heap.size ≤ gb130)); have n3_ := Aside0.mk ((by rw [hg]; exact (below_size Z3_6) : w.heap.size ≤ gb130)); clear HB; have HB := n0_; have BK130 := n1_; have GW130 := n2_; have GE130 := n3_; clear n0_ n1_ n2_ n3_; clear hb hbox hg; have hcz4_0 : w3.cell? ⟨gb130, 0, none⟩ = some (.bool false) := (blk_cell BK130.out 0).trans rfl; have hcz4_1 : w3.cell? ⟨gb130, 1, none⟩ = some (.bool false) := (blk_cell BK130.out 1).trans rfl; have hcz4_2 : w3.cell? ⟨gb130, 2, none⟩ = some (.bool false) := (blk_cell BK130.out 2).trans rfl; have hcz4_3 : w3.cell? ⟨gb130, 3, none⟩ = some (.bool false) := (blk_cell BK130.out 3).trans rfl; have hcz4_4 : w3.cell? ⟨gb130, 4, none⟩ = some (.bool false) := (blk_cell BK130.out 4).trans rfl; have hcz4_5 : w3.cell? ⟨gb130, 5, none⟩ = some (.bool false) := (blk_cell BK130.out 5).trans rfl; have hcz4_6 : w3.cell? ⟨gb130, 6, none⟩ = some (.bool false) := (blk_cell BK130.out 6).trans rfl; have hcz4_7 : w3.cell? ⟨gb130, 7, none⟩ = some (.bool false) := (blk_cell BK130.out 7).trans rfl; have hcz4_8 : w3.cell? ⟨gb130, 8, none⟩ = some (.int .i64 0) := (blk_cell BK130.out 8).trans rfl; have hfz4_0 := blk_frozen BK130.out 0; have hfz4_1 := blk_frozen BK130.out 1; have hfz4_2 := blk_frozen BK130.out 2; have hfz4_3 := blk_frozen BK130.out 3; have hfz4_4 := blk_frozen BK130.out 4; have hfz4_5 := blk_frozen BK130.out 5; have hfz4_6 := blk_frozen BK130.out 6; have hfz4_7 := blk_frozen BK130.out 7; have hfz4_8 := blk_frozen BK130.out 8))
  refine bodyPost_ret (results_ct rfl _ _ gb130 27 #[.bool false, .bool false, .bool false, .bool false, .bool false, .bool false, .bool false, .bool false, .int .i64 0] (0, 0) _ rfl (by (with_reducible repeat (first | apply blk_drewN | apply blk_drew | apply blk_alloc)); refine blk_put (cs := #[.bool false, .bool false, .bool false, .bool false, .bool false, .bool false, .bool false, .bool false, .int .i64 0]) ?_ 8 _ rfl; (with_reducible repeat (first | apply blk_drewN | apply blk_drew | apply blk_alloc)); refine blk_put (cs := #[.bool false, .bool false, .bool false, .bool false, .bool false, .bool false, .bool false, .bool false, .int .i64 0]) ?_ 7 _ rfl; (with_reducible repeat (first | apply blk_drewN | apply blk_drew | apply blk_alloc)); refine blk_put (cs := #[.bool false, .bool false, .bool false, .bool false, .bool false, .bool false, .bool false, .bool false, .int .i64 0]) ?_ 6 _ rfl; (with_reducible repeat (first | apply blk_drewN | apply blk_drew | apply blk_alloc)); refine blk_put (cs := #[.bool false, .bool false, .bool false, .bool false, .bool false, .bool false, .bool false, .bool false, .int .i64 0]) ?_ 5 _ rfl; (with_reducible repeat (first | apply blk_drewN | apply blk_drew | apply blk_alloc)); refine blk_put (cs := #[.bool false, .bool false, .bool false, .bool false, .bool false, .bool false, .bool false, .bool false, .int .i64 0]) ?_ 4 _ rfl; (with_reducible repeat (first | apply blk_drewN | apply blk_drew | apply blk_alloc)); refine blk_put (cs := #[.bool false, .bool false, .bool false, .bool false, .bool false, .bool false, .bool false, .bool false, .int .i64 0]) ?_ 3 _ rfl; (with_reducible repeat (first | apply blk_drewN | apply blk_drew | apply blk_alloc)); refine blk_put (cs := #[.bool false, .bool false, .bool false, .bool false, .bool false, .bool false, .bool false, .bool false, .int .i64 0]) ?_ 2 _ rfl; (with_reducible repeat (first | apply blk_drewN | apply blk_drew | apply blk_alloc)); refine blk_put (cs := #[.bool false, .bool false, .bool false, .bool false, .bool false, .bool false, .bool false, .bool false, .int .i64 0]) ?_ 1 _ rfl; (with_reducible repeat (first | apply blk_drewN | apply blk_drew | apply blk_alloc)); refine blk_put (cs := #[.bool false, .bool false, .bool false, .bool false, .bool false, .bool false, .bool false, .bool false, .int .i64 0]) ?_ 0 _ rfl; (with_reducible repeat (first | apply blk_drewN | apply blk_drew | apply blk_alloc)); exact BK130.out) Try.underlying27 rfl Z3_9) rfl ?_
  exact ⟨by first | rfl | (simp [errW_none, errW_some] <;> rfl) | (simp [*, errW_none, errW_some] <;> rfl), Z3_7⟩
 rw [if_neg c2] at H
 have c2b0 : decide (1048576 ≤ a0) = false := decide_eq_false c2
 clear c2
 replace H := Option.bind_eq_some_iff.mp H
 obtain ⟨t132, A50, H⟩ := H
 replace H : ((spec_l6Is.f k a0 1).bind fun t133 => ((spec_l6Is.f k a0 2).bind fun t134 => ((spec_l6Is.f k a0 3).bind fun t135 => ((spec_l6Is.f k a0 4).bind fun t136 => ((spec_l6Is.f k a0 5).bind fun t137 => ((spec_l6Is.f k a0 6).bind fun t138 => ((spec_l6Is.f k a0 7).bind fun t139 => (some (t132, t133, t134, t135, t136, t137, t138, t139, wrap64 (IntKind.u64.wrap (Int.tdiv a0 256)), true))))))))) = some (r1, r2, r3, r4, r5, r6, r7, r8, r9, r10) := H
 have A5 := Aside0.mk A50
 clear A50
 replace H := Option.bind_eq_some_iff.mp H
 obtain ⟨t133, A60, H⟩ := H
 replace H : ((spec_l6Is.f k a0 2).bind fun t134 => ((spec_l6Is.f k a0 3).bind fun t135 => ((spec_l6Is.f k a0 4).bind fun t136 => ((spec_l6Is.f k a0 5).bind fun t137 => ((spec_l6Is.f k a0 6).bind fun t138 => ((spec_l6Is.f k a0 7).bind fun t139 => (some (t132, t133, t134, t135, t136, t137, t138, t139, wrap64 (IntKind.u64.wrap (Int.tdiv a0 256)), true)))))))) = some (r1, r2, r3, r4, r5, r6, r7, r8, r9, r10) := H
 have A6 := Aside0.mk A60
 clear A60
 replace H := Option.bind_eq_some_iff.mp H
 obtain ⟨t134, A70, H⟩ := H
 replace H : ((spec_l6Is.f k a0 3).bind fun t135 => ((spec_l6Is.f k a0 4).bind fun t136 => ((spec_l6Is.f k a0 5).bind fun t137 => ((spec_l6Is.f k a0 6).bind fun t138 => ((spec_l6Is.f k a0 7).bind fun t139 => (some (t132, t133, t134, t135, t136, t137, t138, t139, wrap64 (IntKind.u64.wrap (Int.tdiv a0 256)), true))))))) = some (r1, r2, r3, r4, r5, r6, r7, r8, r9, r10) := H
 have A7 := Aside0.mk A70
 clear A70
 replace H := Option.bind_eq_some_iff.mp H
 obtain ⟨t135, A80, H⟩ := H
 replace H : ((spec_l6Is.f k a0 4).bind fun t136 => ((spec_l6Is.f k a0 5).bind fun t137 => ((spec_l6Is.f k a0 6).bind fun t138 => ((spec_l6Is.f k a0 7).bind fun t139 => (some (t132, t133, t134, t135, t136, t137, t138, t139, wrap64 (IntKind.u64.wrap (Int.tdiv a0 256)), true)))))) = some (r1, r2, r3, r4, r5, r6, r7, r8, r9, r10) := H
 have A8 := Aside0.mk A80
 clear A80
 replace H := Option.bind_eq_some_iff.mp H
 obtain ⟨t136, A90, H⟩ := H
 replace H : ((spec_l6Is.f k a0 5).bind fun t137 => ((spec_l6Is.f k a0 6).bind fun t138 => ((spec_l6Is.f k a0 7).bind fun t139 => (some (t132, t133, t134, t135, t136, t137, t138, t139, wrap64 (IntKind.u64.wrap (Int.tdiv a0 256)), true))))) = some (r1, r2, r3, r4, r5, r6, r7, r8, r9, r10) := H
 have A9 := Aside0.mk A90
 clear A90
 replace H := Option.bind_eq_some_iff.mp H
 obtain ⟨t137, A100, H⟩ := H
 replace H : ((spec_l6Is.f k a0 6).bind fun t138 => ((spec_l6Is.f k a0 7).bind fun t139 => (some (t132, t133, t134, t135, t136, t137, t138, t139, wrap64 (IntKind.u64.wrap (Int.tdiv a0 256)), true)))) = some (r1, r2, r3, r4, r5, r6, r7, r8, r9, r10) := H
 have A10 := Aside0.mk A100
 clear A100
 replace H := Option.bind_eq_some_iff.mp H
 obtain ⟨t138, A110, H⟩ := H
 replace H : ((spec_l6Is.f k a0 7).bind fun t139 => (some (t132, t133, t134, t135, t136, t137, t138, t139, wrap64 (IntKind.u64.wrap (Int.tdiv a0 256)), true))) = some (r1, r2, r3, r4, r5, r6, r7, r8, r9, r10) := H
 have A11 := Aside0.mk A110
 clear A110
 replace H := Option.bind_eq_some_iff.mp H
 obtain ⟨t139, A120, H⟩ := H
 replace H : (some (t132, t133, t134, t135, t136, t137, t138, t139, wrap64 (IntKind.u64.wrap (Int.tdiv a0 256)), true)) = some (r1, r2, r3, r4, r5, r6, r7, r8, r9, r10) := H
 have A12 := Aside0.mk A120
 clear A120
 simp only [Option.some.injEq, Prod.mk.injEq] at H
 obtain ⟨rfl, rfl, rfl, rfl, rfl, rfl, rfl, rfl, rfl, rfl⟩ := H
 go_enter Try.func15, Try.ntmps15
 go_wp2_with (first | ((with_reducible refine gate_dst (N := 2) rfl ?_); refine box_event ?hg (N := 2) ?hd (cs := #[.bool false, .bool false, .bool false, .bool false, .bool false, .bool false, .bool false, .bool false, .int .i64 0]) (t := 27) ?hr ?_; (case hd => rfl); (case hg => rfl); (case hr => first | (go_simp; done) | (go_simp; rfl)); intro gb130 hg w13 hbox hb; have n0_ := Aside0.mk (below_step Z3_6 hb); have n1_ := Aside0.mk (hbox); have n2_ := Aside0.mk ((by rw [hg]; exact (below_size Z3_6) : w.heap.size ≤ gb130)); have n3_ := Aside0.mk ((by rw [hg]; exact (below_size Z3_6) : w.heap.size ≤ gb130)); clear HB; have HB := n0_; have BK130 := n1_; have GW130 := n2_; have GE130 := n3_; clear n0_ n1_ n2_ n3_; clear hb hbox hg) | ((with_reducible refine gate_dst (N := 4) rfl ?_); refine box_event ?hg (N := 4) ?hd (cs := #[.bool false, .bool false, .bool false, .bool false, .bool false, .bool false, .bool false, .bool false, .int .i64 0]) (t := 27) ?hr ?_; (case hd => rfl); (case hg => rfl); (case hr => first | (go_simp; done) | (go_simp; rfl)); intro gb131 hg w14 hbox hb; have n0_ := Aside0.mk (blk_below (g := gb130) (o := .cells #[.bool false, .bool false, .bool false, .bool false, .bool false, .bool false, .bool false, .bool false, .int .i64 0] 27 (0, 0)) Z3_8 hb); have n1_ := Aside0.mk (below_step Z3_7 hb); have n2_ := Aside0.mk (hbox); have n3_ := Aside0.mk ((by rw [hg]; exact (below_size Z3_7) : w.heap.size ≤ gb131)); have n4_ := Aside0.mk ((by rw [hg]; exact (below_size Z3_7) : w.heap.size ≤ gb131)); have n5_ := Aside0.mk ((by rw [hg]; exact Nat.ne_of_lt (blk_lt (g := gb130) (o := .cells #[.bool false, .bool false, .bool false, .bool false, .bool false, .bool false, .bool false, .bool false, .int .i64 0] 27 (0, 0)) Z3_8) : gb130 ≠ gb131)); have n6_ := Aside0.mk ((by rw [hg]; exact Nat.ne_of_gt (blk_lt (g := gb130) (o := .cells #[.bool false, .bool false, .bool false, .bool false, .bool false, .bool false, .bool false, .bool false, .int .i64 0] 27 (0, 0)) Z3_8) : gb131 ≠ gb130)); clear BK130; clear HB; have BK130 := n0_; have HB := n1_; have BK131 := n2_; have GW131 := n3_; have GE131 := n4_; have NB130_131 := n5_; have NB131_130 := n6_; clear n0_ n1_ n2_ n3_ n4_ n5_ n6_; clear hb hbox hg; have hnb15 := NB131_130.out; have hnc15 := NB130_131.out; have hcz16_0 : w14.cell? ⟨gb131, 0, none⟩ = some (.bool false) := (blk_cell BK131.out 0).trans rfl; have hcz16_1 : w14.cell? ⟨gb131, 1, none⟩ = some (.bool false) := (blk_cell BK131.out 1).trans rfl; have hcz16_2 : w14.cell? ⟨gb131, 2, none⟩ = some (.bool false) := (blk_cell BK131.out 2).trans rfl; have hcz16_3 : w14.cell? ⟨gb131, 3, none⟩ = some (.bool false) := (blk_cell BK131.out 3).trans rfl; have hcz16_4 : w14.cell? ⟨gb131, 4, none⟩ = some (.bool false) := (blk_cell BK131.out 4).trans rfl; have hcz16_5 : w14.cell? ⟨gb131, 5, none⟩ = some (.bool false) := (blk_cell BK131.out 5).trans rfl; have hcz16_6 : w14.cell? ⟨gb131, 6, none⟩ = some (.bool false) := (blk_cell BK131.out 6).trans rfl; have hcz16_7 : w14.cell? ⟨gb131, 7, none⟩ = some (.bool false) := (blk_cell BK131.out 7).trans rfl; have hcz16_8 : w14.cell? ⟨gb131, 8, none⟩ = some (.int .i64 0) := (blk_cell BK131.out 8).trans rfl; have hfz16_0 := blk_frozen BK131.out 0; have hfz16_1 := blk_frozen BK131.out 1; have hfz16_2 := blk_frozen BK131.out 2; have hfz16_3 := blk_frozen BK131.out 3; have hfz16_4 := blk_frozen BK131.out 4; have hfz16_5 := blk_frozen BK131.out 5; have hfz16_6 := blk_frozen BK131.out 6; have hfz16_7 := blk_frozen BK131.out 7; have hfz16_8 := blk_frozen BK131.out 8) | ((with_reducible refine gate_callee (f := 49) rfl ?_); refine goesL_ (some 13) rfl rfl Try.func49 Z3_9 rfl #[.int .u64 a0, .int .i64 0] rfl Z3_2 ?_; (with_reducible refine (spec_l6Is.calls k a0 0 t132 _ A5.out).mono ?_); rintro e wq_ ⟨rfl, hd_⟩; have m0_ : Aside0 (wq_.heap[gb130]? = some (.cells #[.bool false, .bool false, .bool false, .bool false, .bool false, .bool false, .bool false, .bool false, .int .i64 0] 27 (0, 0))) := ⟨by obtain ⟨nd, rfl⟩ := hd_; (with_reducible repeat (first | apply blk_drewN | apply blk_drew | apply blk_alloc)); refine blk_far ?_ NB130_131.out _; (with_reducible repeat (first | apply blk_drewN | apply blk_drew | apply blk_alloc)); refine blk_far ?_ NB130_131.out _; (with_reducible repeat (first | apply blk_drewN | apply blk_drew | apply blk_alloc)); refine blk_far ?_ NB130_131.out _; (with_reducible repeat (first | apply blk_drewN | apply blk_drew | apply blk_alloc)); refine blk_far ?_ NB130_131.out _; (with_reducible repeat (first | apply blk_drewN | apply blk_drew | apply blk_alloc)); refine blk_far ?_ NB130_131.out _; (with_reducible repeat (first | apply blk_drewN | apply blk_drew | apply blk_alloc)); refine blk_far ?_ NB130_131.out _; (with_reducible repeat (first | apply blk_drewN | apply blk_drew | apply blk_alloc)); refine blk_far ?_ NB130_131.out _; (with_reducible repeat (first | apply blk_drewN | apply blk_drew | apply blk_alloc)); refine blk_far ?_ NB130_131.out _; (with_reducible repeat (first | apply blk_drewN | apply blk_drew | apply blk_alloc)); refine blk_far ?_ NB130_131.out _; (with_reducible repeat (first | apply blk_drewN | apply blk_drew | apply blk_alloc)); exact BK130.out⟩; have m1_ : Aside0 (wq_.heap[gb131]? = some (.cells #[.bool false, .bool false, .bool false, .bool false, .bool false, .bool false, .bool false, .bool false, .int .i64 (wrap64 (IntKind.u64.wrap (Int.tdiv a0 256)))] 27 (0, 0))) := ⟨by obtain ⟨nd, rfl⟩ := hd_; (with_reducible repeat (first | apply blk_drewN | apply blk_drew | apply blk_alloc)); refine blk_put (cs := #[.bool false, .bool false, .bool false, .bool false, .bool false, .bool false, .bool false, .bool false, .int .i64 0]) ?_ 8 _ rfl; (with_reducible repeat (first | apply blk_drewN | apply blk_drew | apply blk_alloc)); refine blk_put (cs := #[.bool false, .bool false, .bool false, .bool false, .bool false, .bool false, .bool false, .bool false, .int .i64 0]) ?_ 7 _ rfl; (with_reducible repeat (first | apply blk_drewN | apply blk_drew | apply blk_alloc)); refine blk_put (cs := #[.bool false, .bool false, .bool false, .bool false, .bool false, .bool false, .bool false, .bool false, .int .i64 0]) ?_ 6 _ rfl; (with_reducible repeat (first | apply blk_drewN | apply blk_drew | apply blk_alloc)); refine blk_put (cs := #[.bool false, .bool false, .bool false, .bool false, .bool false, .bool false, .bool false, .bool false, .int .i64 0]) ?_ 5 _ rfl; (with_reducible repeat (first | apply blk_drewN | apply blk_drew | apply blk_alloc)); refine blk_put (cs := #[.bool false, .bool false, .bool false, .bool false, .bool false, .bool false, .bool false, .bool false, .int .i64 0]) ?_ 4 _ rfl; (with_reducible repeat (first | apply blk_drewN | apply blk_drew | apply blk_alloc)); refine blk_put (cs := #[.bool false, .bool false, .bool false, .bool false, .bool false, .bool false, .bool false, .bool false, .int .i64 0]) ?_ 3 _ rfl; (with_reducible repeat (first | apply blk_drewN | apply blk_drew | apply blk_alloc)); refine blk_put (cs := #[.bool false, .bool false, .bool false, .bool false, .bool false, .bool false, .bool false, .bool false, .int .i64 0]) ?_ 2 _ rfl; (with_reducible repeat (first | apply blk_drewN | apply blk_drew | apply blk_alloc)); refine blk_put (cs := #[.bool false, .bool false, .bool false, .bool false, .bool false, .bool false, .bool false, .bool false, .int .i64 0]) ?_ 1 _ rfl; (with_reducible repeat (first | apply blk_drewN | apply blk_drew | apply blk_alloc)); refine blk_put (cs := #[.bool false, .bool false, .bool false, .bool false, .bool false, .bool false, .bool false, .bool false, .int .i64 0]) ?_ 0 _ rfl; (with_reducible repeat (first | apply blk_drewN | apply blk_drew | apply blk_alloc)); exact BK131.out⟩; have m2_ : Aside0 (Below w.heap.size w wq_) := ⟨Z3_3⟩; clear hd_ BK130 BK131 HB; clear hcz16_0 hfz16_0 hcz16_1 hfz16_1 hcz16_2 hfz16_2 hcz16_3 hfz16_3 hcz16_4 hfz16_4 hcz16_5 hfz16_5 hcz16_6 hfz16_6 hcz16_7 hfz16_7 hcz16_8 hfz16_8; have BK130 := m0_; have BK131 := m1_; have HB := m2_; clear m0_ m1_ m2_; have hcz16_0 : wq_.cell? ⟨gb131, 0, none⟩ = some (.bool false) := (blk_cell BK131.out 0).trans rfl; have hfz16_0 := blk_frozen BK131.out 0; have hcz16_1 : wq_.cell? ⟨gb131, 1, none⟩ = some (.bool false) := (blk_cell BK131.out 1).trans rfl; have hfz16_1 := blk_frozen BK131.out 1; have hcz16_2 : wq_.cell? ⟨gb131, 2, none⟩ = some (.bool false) := (blk_cell BK131.out 2).trans rfl; have hfz16_2 := blk_frozen BK131.out 2; have hcz16_3 : wq_.cell? ⟨gb131, 3, none⟩ = some (.bool false) := (blk_cell BK131.out 3).trans rfl; have hfz16_3 := blk_frozen BK131.out 3; have hcz16_4 : wq_.cell? ⟨gb131, 4, none⟩ = some (.bool false) := (blk_cell BK131.out 4).trans rfl; have hfz16_4 := blk_frozen BK131.out 4; have hcz16_5 : wq_.cell? ⟨gb131, 5, none⟩ = some (.bool false) := (blk_cell BK131.out 5).trans rfl; have hfz16_5 := blk_frozen BK131.out 5; have hcz16_6 : wq_.cell? ⟨gb131, 6, none⟩ = some (.bool false) := (blk_cell BK131.out 6).trans rfl; have hfz16_6 := blk_frozen BK131.out 6; have hcz16_7 : wq_.cell? ⟨gb131, 7, none⟩ = some (.bool false) := (blk_cell BK131.out 7).trans rfl; have hfz16_7 := blk_frozen BK131.out 7; have hcz16_8 : wq_.cell? ⟨gb131, 8, none⟩ = some (.int .i64 (wrap64 (IntKind.u64.wrap (Int.tdiv a0 256)))) := (blk_cell BK131.out 8).trans rfl; have hfz16_8 := blk_frozen BK131.out 8; refine ⟨_, rfl, ?_⟩) | ((with_reducible refine gate_callee (f := 49) rfl ?_); refine goesL_ (some 16) rfl rfl Try.func49 Z3_9 rfl #[.int .u64 a0, .int .i64 1] rfl Z3_2 ?_; (with_reducible refine (spec_l6Is.calls k a0 1 t133 _ A6.out).mono ?_); rintro e wq_ ⟨rfl, hd_⟩; have m0_ : Aside0 (wq_.heap[gb130]? = some (.cells #[.bool false, .bool false, .bool false, .bool false, .bool false, .bool false, .bool false, .bool false, .int .i64 0] 27 (0, 0))) := ⟨Z3_4⟩; have m1_ : Aside0 (wq_.heap[gb131]? = some (.cells #[.bool t132, .bool false, .bool false, .bool false, .bool false, .bool false, .bool false, .bool false, .int .i64 (wrap64 (IntKind.u64.wrap (Int.tdiv a0 256)))] 27 (0, 0))) := ⟨by obtain ⟨nd, rfl⟩ := hd_; (with_reducible repeat (first | apply blk_drewN | apply blk_drew | apply blk_alloc)); refine blk_put (cs := #[.bool false, .bool false, .bool false, .bool false, .bool false, .bool false, .bool false, .bool false, .int .i64 (wrap64 (IntKind.u64.wrap (Int.tdiv a0 256)))]) ?_ 0 _ rfl; (with_reducible repeat (first | apply blk_drewN | apply blk_drew | apply blk_alloc)); exact BK131.out⟩; have m2_ : Aside0 (Below w.heap.size w wq_) := ⟨Z3_3⟩; clear hd_ BK130 BK131 HB; clear hcz16_0 hfz16_0 hcz16_1 hfz16_1 hcz16_2 hfz16_2 hcz16_3 hfz16_3 hcz16_4 hfz16_4 hcz16_5 hfz16_5 hcz16_6 hfz16_6 hcz16_7 hfz16_7 hcz16_8 hfz16_8; have BK130 := m0_; have BK131 := m1_; have HB := m2_; clear m0_ m1_ m2_; have hcz16_0 : wq_.cell? ⟨gb131, 0, none⟩ = some (.bool t132) := (blk_cell BK131.out 0).trans rfl; have hfz16_0 := blk_frozen BK131.out 0; have hcz16_1 : wq_.cell? ⟨gb131, 1, none⟩ = some (.bool false) := (blk_cell BK131.out 1).trans rfl; have hfz16_1 := blk_frozen BK131.out 1; have hcz16_2 : wq_.cell? ⟨gb131, 2, none⟩ = some (.bool false) := (blk_cell BK131.out 2).trans rfl; have hfz16_2 := blk_frozen BK131.out 2; have hcz16_3 : wq_.cell? ⟨gb131, 3, none⟩ = some (.bool false) := (blk_cell BK131.out 3).trans rfl; have hfz16_3 := blk_frozen BK131.out 3; have hcz16_4 : wq_.cell? ⟨gb131, 4, none⟩ = some (.bool false) := (blk_cell BK131.out 4).trans rfl; have hfz16_4 := blk_frozen BK131.out 4; have hcz16_5 : wq_.cell? ⟨gb131, 5, none⟩ = some (.bool false) := (blk_cell BK131.out 5).trans rfl; have hfz16_5 := blk_frozen BK131.out 5; have hcz16_6 : wq_.cell? ⟨gb131, 6, none⟩ = some (.bool false) := (blk_cell BK131.out 6).trans rfl; have hfz16_6 := blk_frozen BK131.out 6; have hcz16_7 : wq_.cell? ⟨gb131, 7, none⟩ = some (.bool false) := (blk_cell BK131.out 7).trans rfl; have hfz16_7 := blk_frozen BK131.out 7; have hcz16_8 : wq_.cell? ⟨gb131, 8, none⟩ = some (.int .i64 (wrap64 (IntKind.u64.wrap (Int.tdiv a0 256)))) := (blk_cell BK131.out 8).trans rfl; have hfz16_8 := blk_frozen BK131.out 8; refine ⟨_, rfl, ?_⟩) | ((with_reducible refine gate_callee (f := 49) rfl ?_); refine goesL_ (some 19) rfl rfl Try.func49 Z3_9 rfl #[.int .u64 a0, .int .i64 2] rfl Z3_2 ?_; (with_reducible refine (spec_l6Is.calls k a0 2 t134 _ A7.out).mono ?_); rintro e wq_ ⟨rfl, hd_⟩; have m0_ : Aside0 (wq_.heap[gb130]? = some (.cells #[.bool false, .bool false, .bool false, .bool false, .bool false, .bool false, .bool false, .bool false, .int .i64 0] 27 (0, 0))) := ⟨Z3_4⟩; have m1_ : Aside0 (wq_.heap[gb131]? = some (.cells #[.bool t132, .bool t133, .bool false, .bool false, .bool false, .bool false, .bool false, .bool false, .int .i64 (wrap64 (IntKind.u64.wrap (Int.tdiv a0 256)))] 27 (0, 0))) := ⟨by obtain ⟨nd, rfl⟩ := hd_; (with_reducible repeat (first | apply blk_drewN | apply blk_drew | apply blk_alloc)); refine blk_put (cs := #[.bool t132, .bool false, .bool false, .bool false, .bool false, .bool false, .bool false, .bool false, .int .i64 (wrap64 (IntKind.u64.wrap (Int.tdiv a0 256)))]) ?_ 1 _ rfl; (with_reducible repeat (first | apply blk_drewN | apply blk_drew | apply blk_alloc)); exact BK131.out⟩; have m2_ : Aside0 (Below w.heap.size w wq_) := ⟨Z3_3⟩; clear hd_ BK130 BK131 HB; clear hcz16_0 hfz16_0 hcz16_1 hfz16_1 hcz16_2 hfz16_2 hcz16_3 hfz16_3 hcz16_4 hfz16_4 hcz16_5 hfz16_5 hcz16_6 hfz16_6 hcz16_7 hfz16_7 hcz16_8 hfz16_8; have BK130 := m0_; have BK131 := m1_; have HB := m2_; clear m0_ m1_ m2_; have hcz16_0 : wq_.cell? ⟨gb131, 0, none⟩ = some (.bool t132) := (blk_cell BK131.out 0).trans rfl; have hfz16_0 := blk_frozen BK131.out 0; have hcz16_1 : wq_.cell? ⟨gb131, 1, none⟩ = some (.bool t133) := (blk_cell BK131.out 1).trans rfl; have hfz16_1 := blk_frozen BK131.out 1; have hcz16_2 : wq_.cell? ⟨gb131, 2, none⟩ = some (.bool false) := (blk_cell BK131.out 2).trans rfl; have hfz16_2 := blk_frozen BK131.out 2; have hcz16_3 : wq_.cell? ⟨gb131, 3, none⟩ = some (.bool false) := (blk_cell BK131.out 3).trans rfl; have hfz16_3 := blk_frozen BK131.out 3; have hcz16_4 : wq_.cell? ⟨gb131, 4, none⟩ = some (.bool false) := (blk_cell BK131.out 4).trans rfl; have hfz16_4 := blk_frozen BK131.out 4; have hcz16_5 : wq_.cell? ⟨gb131, 5, none⟩ = some (.bool false) := (blk_cell BK131.out 5).trans rfl; have hfz16_5 := blk_frozen BK131.out 5; have hcz16_6 : wq_.cell? ⟨gb131, 6, none⟩ = some (.bool false) := (blk_cell BK131.out 6).trans rfl; have hfz16_6 := blk_frozen BK131.out 6; have hcz16_7 : wq_.cell? ⟨gb131, 7, none⟩ = some (.bool false) := (blk_cell BK131.out 7).trans rfl; have hfz16_7 := blk_frozen BK131.out 7; have hcz16_8 : wq_.cell? ⟨gb131, 8, none⟩ = some (.int .i64 (wrap64 (IntKind.u64.wrap (Int.tdiv a0 256)))) := (blk_cell BK131.out 8).trans rfl; have hfz16_8 := blk_frozen BK131.out 8; refine ⟨_, rfl, ?_⟩) | ((with_reducible refine gate_callee (f := 49) rfl ?_); refine goesL_ (some 22) rfl rfl Try.func49 Z3_9 rfl #[.int .u64 a0, .int .i64 3] rfl Z3_2 ?_; (with_reducible refine (spec_l6Is.calls k a0 3 t135 _ A8.out).mono ?_); rintro e wq_ ⟨rfl, hd_⟩; have m0_ : Aside0 (wq_.heap[gb130]? = some (.cells #[.bool false, .bool false, .bool false, .bool false, .bool false, .bool false, .bool false, .bool false, .int .i64 0] 27 (0, 0))) := ⟨Z3_4⟩; have m1_ : Aside0 (wq_.heap[gb131]? = some (.cells #[.bool t132, .bool t133, .bool t134, .bool false, .bool false, .bool false, .bool false, .bool false, .int .i64 (wrap64 (IntKind.u64.wrap (Int.tdiv a0 256)))] 27 (0, 0))) := ⟨by obtain ⟨nd, rfl⟩ := hd_; (with_reducible repeat (first | apply blk_drewN | apply blk_drew | apply blk_alloc)); refine blk_put (cs := #[.bool t132, .bool t133, .bool false, .bool false, .bool false, .bool false, .bool false, .bool false, .int .i64 (wrap64 (IntKind.u64.wrap (Int.tdiv a0 256)))]) ?_ 2 _ rfl; (with_reducible repeat (first | apply blk_drewN | apply blk_drew | apply blk_alloc)); exact BK131.out⟩; have m2_ : Aside0 (Below w.heap.size w wq_) := ⟨Z3_3⟩; clear hd_ BK130 BK131 HB; clear hcz16_0 hfz16_0 hcz16_1 hfz16_1 hcz16_2 hfz16_2 hcz16_3 hfz16_3 hcz16_4 hfz16_4 hcz16_5 hfz16_5 hcz16_6 hfz16_6 hcz16_7 hfz16_7 hcz16_8 hfz16_8; have BK130 := m0_; have BK131 := m1_; have HB := m2_; clear m0_ m1_ m2_; have hcz16_0 : wq_.cell? ⟨gb131, 0, none⟩ = some (.bool t132) := (blk_cell BK131.out 0).trans rfl; have hfz16_0 := blk_frozen BK131.out 0; have hcz16_1 : wq_.cell? ⟨gb131, 1, none⟩ = some (.bool t133) := (blk_cell BK131.out 1).trans rfl; have hfz16_1 := blk_frozen BK131.out 1; have hcz16_2 : wq_.cell? ⟨gb131, 2, none⟩ = some (.bool t134) := (blk_cell BK131.out 2).trans rfl; have hfz16_2 := blk_frozen BK131.out 2; have hcz16_3 : wq_.cell? ⟨gb131, 3, none⟩ = some (.bool false) := (blk_cell BK131.out 3).trans rfl; have hfz16_3 := blk_frozen BK131.out 3; have hcz16_4 : wq_.cell? ⟨gb131, 4, none⟩ = some (.bool false) := (blk_cell BK131.out 4).trans rfl; have hfz16_4 := blk_frozen BK131.out 4; have hcz16_5 : wq_.cell? ⟨gb131, 5, none⟩ = some (.bool false) := (blk_cell BK131.out 5).trans rfl; have hfz16_5 := blk_frozen BK131.out 5; have hcz16_6 : wq_.cell? ⟨gb131, 6, none⟩ = some (.bool false) := (blk_cell BK131.out 6).trans rfl; have hfz16_6 := blk_frozen BK131.out 6; have hcz16_7 : wq_.cell? ⟨gb131, 7, none⟩ = some (.bool false) := (blk_cell BK131.out 7).trans rfl; have hfz16_7 := blk_frozen BK131.out 7; have hcz16_8 : wq_.cell? ⟨gb131, 8, none⟩ = some (.int .i64 (wrap64 (IntKind.u64.wrap (Int.tdiv a0 256)))) := (blk_cell BK131.out 8).trans rfl; have hfz16_8 := blk_frozen BK131.out 8; refine ⟨_, rfl, ?_⟩) | ((with_reducible refine gate_callee (f := 49) rfl ?_); refine goesL_ (some 25) rfl rfl Try.func49 Z3_9 rfl #[.int .u64 a0, .int .i64 4] rfl Z3_2 ?_; (with_reducible refine (spec_l6Is.calls k a0 4 t136 _ A9.out).mono ?_); rintro e wq_ ⟨rfl, hd_⟩; have m0_ : Aside0 (wq_.heap[gb130]? = some (.cells #[.bool false, .bool false, .bool false, .bool false, .bool false, .bool false, .bool false, .bool false, .int .i64 0] 27 (0, 0))) := ⟨Z3_4⟩; have m1_ : Aside0 (wq_.heap[gb131]? = some (.cells #[.bool t132, .bool t133, .bool t134, .bool t135, .bool false, .bool false, .bool false, .bool false, .int .i64 (wrap64 (IntKind.u64.wrap (Int.tdiv a0 256)))] 27 (0, 0))) := ⟨by obtain ⟨nd, rfl⟩ := hd_; (with_reducible repeat (first | apply blk_drewN | apply blk_drew | apply blk_alloc)); refine blk_put (cs := #[.bool t132, .bool t133, .bool t134, .bool false, .bool false, .bool false, .bool false, .bool false, .int .i64 (wrap64 (IntKind.u64.wrap (Int.tdiv a0 256)))]) ?_ 3 _ rfl; (with_reducible repeat (first | apply blk_drewN | apply blk_drew | apply blk_alloc)); exact BK131.out⟩; have m2_ : Aside0 (Below w.heap.size w wq_) := ⟨Z3_3⟩; clear hd_ BK130 BK131 HB; clear hcz16_0 hfz16_0 hcz16_1 hfz16_1 hcz16_2 hfz16_2 hcz16_3 hfz16_3 hcz16_4 hfz16_4 hcz16_5 hfz16_5 hcz16_6 hfz16_6 hcz16_7 hfz16_7 hcz16_8 hfz16_8; have BK130 := m0_; have BK131 := m1_; have HB := m2_; clear m0_ m1_ m2_; have hcz16_0 : wq_.cell? ⟨gb131, 0, none⟩ = some (.bool t132) := (blk_cell BK131.out 0).trans rfl; have hfz16_0 := blk_frozen BK131.out 0; have hcz16_1 : wq_.cell? ⟨gb131, 1, none⟩ = some (.bool t133) := (blk_cell BK131.out 1).trans rfl; have hfz16_1 := blk_frozen BK131.out 1; have hcz16_2 : wq_.cell? ⟨gb131, 2, none⟩ = some (.bool t134) := (blk_cell BK131.out 2).trans rfl; have hfz16_2 := blk_frozen BK131.out 2; have hcz16_3 : wq_.cell? ⟨gb131, 3, none⟩ = some (.bool t135) := (blk_cell BK131.out 3).trans rfl; have hfz16_3 := blk_frozen BK131.out 3; have hcz16_4 : wq_.cell? ⟨gb131, 4, none⟩ = some (.bool false) := (blk_cell BK131.out 4).trans rfl; have hfz16_4 := blk_frozen BK131.out 4; have hcz16_5 : wq_.cell? ⟨gb131, 5, none⟩ = some (.bool false) := (blk_cell BK131.out 5).trans rfl; have hfz16_5 := blk_frozen BK131.out 5; have hcz16_6 : wq_.cell? ⟨gb131, 6, none⟩ = some (.bool false) := (blk_cell BK131.out 6).trans rfl; have hfz16_6 := blk_frozen BK131.out 6; have hcz16_7 : wq_.cell? ⟨gb131, 7, none⟩ = some (.bool false) := (blk_cell BK131.out 7).trans rfl; have hfz16_7 := blk_frozen BK131.out 7; have hcz16_8 : wq_.cell? ⟨gb131, 8, none⟩ = some (.int .i64 (wrap64 (IntKind.u64.wrap (Int.tdiv a0 256)))) := (blk_cell BK131.out 8).trans rfl; have hfz16_8 := blk_frozen BK131.out 8; refine ⟨_, rfl, ?_⟩) | ((with_reducible refine gate_callee (f := 49) rfl ?_); refine goesL_ (some 28) rfl rfl Try.func49 Z3_9 rfl #[.int .u64 a0, .int .i64 5] rfl Z3_2 ?_; (with_reducible refine (spec_l6Is.calls k a0 5 t137 _ A10.out).mono ?_); rintro e wq_ ⟨rfl, hd_⟩; have m0_ : Aside0 (wq_.heap[gb130]? = some (.cells #[.bool false, .bool false, .bool false, .bool false, .bool false, .bool false, .bool false, .bool false, .int .i64 0] 27 (0, 0))) := ⟨Z3_4⟩; have m1_ : Aside0 (wq_.heap[gb131]? = some (.cells #[.bool t132, .bool t133, .bool t134, .bool t135, .bool t136, .bool false, .bool false, .bool false, .int .i64 (wrap64 (IntKind.u64.wrap (Int.tdiv a0 256)))] 27 (0, 0))) := ⟨by obtain ⟨nd, rfl⟩ := hd_; (with_reducible repeat (first | apply blk_drewN | apply blk_drew | apply blk_alloc)); refine blk_put (cs := #[.bool t132, .bool t133, .bool t134, .bool t135, .bool false, .bool false, .bool false, .bool false, .int .i64 (wrap64 (IntKind.u64.wrap (Int.tdiv a0 256)))]) ?_ 4 _ rfl; (with_reducible repeat (first | apply blk_drewN | apply blk_drew | apply blk_alloc)); exact BK131.out⟩; have m2_ : Aside0 (Below w.heap.size w wq_) := ⟨Z3_3⟩; clear hd_ BK130 BK131 HB; clear hcz16_0 hfz16_0 hcz16_1 hfz16_1 hcz16_2 hfz16_2 hcz16_3 hfz16_3 hcz16_4 hfz16_4 hcz16_5 hfz16_5 hcz16_6 hfz16_6 hcz16_7 hfz16_7 hcz16_8 hfz16_8; have BK130 := m0_; have BK131 := m1_; have HB := m2_; clear m0_ m1_ m2_; have hcz16_0 : wq_.cell? ⟨gb131, 0, none⟩ = some (.bool t132) := (blk_cell BK131.out 0).trans rfl; have hfz16_0 := blk_frozen BK131.out 0; have hcz16_1 : wq_.cell? ⟨gb131, 1, none⟩ = some (.bool t133) := (blk_cell BK131.out 1).trans rfl; have hfz16_1 := blk_frozen BK131.out 1; have hcz16_2 : wq_.cell? ⟨gb131, 2, none⟩ = some (.bool t134) := (blk_cell BK131.out 2).trans rfl; have hfz16_2 := blk_frozen BK131.out 2; have hcz16_3 : wq_.cell? ⟨gb131, 3, none⟩ = some (.bool t135) := (blk_cell BK131.out 3).trans rfl; have hfz16_3 := blk_frozen BK131.out 3; have hcz16_4 : wq_.cell? ⟨gb131, 4, none⟩ = some (.bool t136) := (blk_cell BK131.out 4).trans rfl; have hfz16_4 := blk_frozen BK131.out 4; have hcz16_5 : wq_.cell? ⟨gb131, 5, none⟩ = some (.bool false) := (blk_cell BK131.out 5).trans rfl; have hfz16_5 := blk_frozen BK131.out 5; have hcz16_6 : wq_.cell? ⟨gb131, 6, none⟩ = some (.bool false) := (blk_cell BK131.out 6).trans rfl; have hfz16_6 := blk_frozen BK131.out 6; have hcz16_7 : wq_.cell? ⟨gb131, 7, none⟩ = some (.bool false) := (blk_cell BK131.out 7).trans rfl; have hfz16_7 := blk_frozen BK131.out 7; have hcz16_8 : wq_.cell? ⟨gb131, 8, none⟩ = some (.int .i64 (wrap64 (IntKind.u64.wrap (Int.tdiv a0 256)))) := (blk_cell BK131.out 8).trans rfl; have hfz16_8 := blk_frozen BK131.out 8; refine ⟨_, rfl, ?_⟩) | ((with_reducible refine gate_callee (f := 49) rfl ?_); refine goesL_ (some 31) rfl rfl Try.func49 Z3_9 rfl #[.int .u64 a0, .int .i64 6] rfl Z3_2 ?_; (with_reducible refine (spec_l6Is.calls k a0 6 t138 _ A11.out).mono ?_); rintro e wq_ ⟨rfl, hd_⟩; have m0_ : Aside0 (wq_.heap[gb130]? = some (.cells #[.bool false, .bool false, .bool false, .bool false, .bool false, .bool false, .bool false, .bool false, .int .i64 0] 27 (0, 0))) := ⟨Z3_4⟩; have m1_ : Aside0 (wq_.heap[gb131]? = some (.cells #[.bool t132, .bool t133, .bool t134, .bool t135, .bool t136, .bool t137, .bool false, .bool false, .int .i64 (wrap64 (IntKind.u64.wrap (Int.tdiv a0 256)))] 27 (0, 0))) := ⟨by obtain ⟨nd, rfl⟩ := hd_; (with_reducible repeat (first | apply blk_drewN | apply blk_drew | apply blk_alloc)); refine blk_put (cs := #[.bool t132, .bool t133, .bool t134, .bool t135, .bool t136, .bool false, .bool false, .bool false, .int .i64 (wrap64 (IntKind.u64.wrap (Int.tdiv a0 256)))]) ?_ 5 _ rfl; (with_reducible repeat (first | apply blk_drewN | apply blk_drew | apply blk_alloc)); exact BK131.out⟩; have m2_ : Aside0 (Below w.heap.size w wq_) := ⟨Z3_3⟩; clear hd_ BK130 BK131 HB; clear hcz16_0 hfz16_0 hcz16_1 hfz16_1 hcz16_2 hfz16_2 hcz16_3 hfz16_3 hcz16_4 hfz16_4 hcz16_5 hfz16_5 hcz16_6 hfz16_6 hcz16_7 hfz16_7 hcz16_8 hfz16_8; have BK130 := m0_; have BK131 := m1_; have HB := m2_; clear m0_ m1_ m2_; have hcz16_0 : wq_.cell? ⟨gb131, 0, none⟩ = some (.bool t132) := (blk_cell BK131.out 0).trans rfl; have hfz16_0 := blk_frozen BK131.out 0; have hcz16_1 : wq_.cell? ⟨gb131, 1, none⟩ = some (.bool t133) := (blk_cell BK131.out 1).trans rfl; have hfz16_1 := blk_frozen BK131.out 1; have hcz16_2 : wq_.cell? ⟨gb131, 2, none⟩ = some (.bool t134) := (blk_cell BK131.out 2).trans rfl; have hfz16_2 := blk_frozen BK131.out 2; have hcz16_3 : wq_.cell? ⟨gb131, 3, none⟩ = some (.bool t135) := (blk_cell BK131.out 3).trans rfl; have hfz16_3 := blk_frozen BK131.out 3; have hcz16_4 : wq_.cell? ⟨gb131, 4, none⟩ = some (.bool t136) := (blk_cell BK131.out 4).trans rfl; have hfz16_4 := blk_frozen BK131.out 4; have hcz16_5 : wq_.cell? ⟨gb131, 5, none⟩ = some (.bool t137) := (blk_cell BK131.out 5).trans rfl; have hfz16_5 := blk_frozen BK131.out 5; have hcz16_6 : wq_.cell? ⟨gb131, 6, none⟩ = some (.bool false) := (blk_cell BK131.out 6).trans rfl; have hfz16_6 := blk_frozen BK131.out 6; have hcz16_7 : wq_.cell? ⟨gb131, 7, none⟩ = some (.bool false) := (blk_cell BK131.out 7).trans rfl; have hfz16_7 := blk_frozen BK131.out 7; have hcz16_8 : wq_.cell? ⟨gb131, 8, none⟩ = some (.int .i64 (wrap64 (IntKind.u64.wrap (Int.tdiv a0 256)))) := (blk_cell BK131.out 8).trans rfl; have hfz16_8 := blk_frozen BK131.out 8; refine ⟨_, rfl, ?_⟩) | ((with_reducible refine gate_callee (f := 49) rfl ?_); refine goesL_ (some 34) rfl rfl Try.func49 Z3_9 rfl #[.int .u64 a0, .int .i64 7] rfl Z3_2 ?_; (with_reducible refine (spec_l6Is.calls k a0 7 t139 _ A12.out).mono ?_); rintro e wq_ ⟨rfl, hd_⟩; have m0_ : Aside0 (wq_.heap[gb130]? = some (.cells #[.bool false, .bool false, .bool false, .bool false, .bool false, .bool false, .bool false, .bool false, .int .i64 0] 27 (0, 0))) := ⟨Z3_4⟩; have m1_ : Aside0 (wq_.heap[gb131]? = some (.cells #[.bool t132, .bool t133, .bool t134, .bool t135, .bool t136, .bool t137, .bool t138, .bool false, .int .i64 (wrap64 (IntKind.u64.wrap (Int.tdiv a0 256)))] 27 (0, 0))) := ⟨by obtain ⟨nd, rfl⟩ := hd_; (with_reducible repeat (first | apply blk_drewN | apply blk_drew | apply blk_alloc)); refine blk_put (cs := #[.bool t132, .bool t133, .bool t134, .bool t135, .bool t136, .bool t137, .bool false, .bool false, .int .i64 (wrap64 (IntKind.u64.wrap (Int.tdiv a0 256)))]) ?_ 6 _ rfl; (with_reducible repeat (first | apply blk_drewN | apply blk_drew | apply blk_alloc)); exact BK131.out⟩; have m2_ : Aside0 (Below w.heap.size w wq_) := ⟨Z3_3⟩; clear hd_ BK130 BK131 HB; clear hcz16_0 hfz16_0 hcz16_1 hfz16_1 hcz16_2 hfz16_2 hcz16_3 hfz16_3 hcz16_4 hfz16_4 hcz16_5 hfz16_5 hcz16_6 hfz16_6 hcz16_7 hfz16_7 hcz16_8 hfz16_8; have BK130 := m0_; have BK131 := m1_; have HB := m2_; clear m0_ m1_ m2_; have hcz16_0 : wq_.cell? ⟨gb131, 0, none⟩ = some (.bool t132) := (blk_cell BK131.out 0).trans rfl; have hfz16_0 := blk_frozen BK131.out 0; have hcz16_1 : wq_.cell? ⟨gb131, 1, none⟩ = some (.bool t133) := (blk_cell BK131.out 1).trans rfl; have hfz16_1 := blk_frozen BK131.out 1; have hcz16_2 : wq_.cell? ⟨gb131, 2, none⟩ = some (.bool t134) := (blk_cell BK131.out 2).trans rfl; have hfz16_2 := blk_frozen BK131.out 2; have hcz16_3 : wq_.cell? ⟨gb131, 3, none⟩ = some (.bool t135) := (blk_cell BK131.out 3).trans rfl; have hfz16_3 := blk_frozen BK131.out 3; have hcz16_4 : wq_.cell? ⟨gb131, 4, none⟩ = some (.bool t136) := (blk_cell BK131.out 4).trans rfl; have hfz16_4 := blk_frozen BK131.out 4; have hcz16_5 : wq_.cell? ⟨gb131, 5, none⟩ = some (.bool t137) := (blk_cell BK131.out 5).trans rfl; have hfz16_5 := blk_frozen BK131.out 5; have hcz16_6 : wq_.cell? ⟨gb131, 6, none⟩ = some (.bool t138) := (blk_cell BK131.out 6).trans rfl; have hfz16_6 := blk_frozen BK131.out 6; have hcz16_7 : wq_.cell? ⟨gb131, 7, none⟩ = some (.bool false) := (blk_cell BK131.out 7).trans rfl; have hfz16_7 := blk_frozen BK131.out 7; have hcz16_8 : wq_.cell? ⟨gb131, 8, none⟩ = some (.int .i64 (wrap64 (IntKind.u64.wrap (Int.tdiv a0 256)))) := (blk_cell BK131.out 8).trans rfl; have hfz16_8 := blk_frozen BK131.out 8; refine ⟨_, rfl, ?_⟩; have hcz17_0 : wq_.cell? ⟨gb130, 0, none⟩ = some (.bool false) := (blk_cell BK130.out 0).trans rfl; have hcz17_1 : wq_.cell? ⟨gb130, 1, none⟩ = some (.bool false) := (blk_cell BK130.out 1).trans rfl; have hcz17_2 : wq_.cell? ⟨gb130, 2, none⟩ = some (.bool false) := (blk_cell BK130.out 2).trans rfl; have hcz17_3 : wq_.cell? ⟨gb130, 3, none⟩ = some (.bool false) := (blk_cell BK130.out 3).trans rfl; have hcz17_4 : wq_.cell? ⟨gb130, 4, none⟩ = some (.bool false) := (blk_cell BK130.out 4).trans rfl; have hcz17_5 : wq_.cell? ⟨gb130, 5, none⟩ = some (.bool false) := (blk_cell BK130.out 5).trans rfl; have hcz17_6 : wq_.cell? ⟨gb130, 6, none⟩ = some (.bool false) := (blk_cell BK130.out 6).trans rfl; have hcz17_7 : wq_.cell? ⟨gb130, 7, none⟩ = some (.bool false) := (blk_cell BK130.out 7).trans rfl; have hcz17_8 : wq_.cell? ⟨gb130, 8, none⟩ = some (.int .i64 0) := (blk_cell BK130.out 8).trans rfl; have hfz17_0 := blk_frozen BK130.out 0; have hfz17_1 := blk_frozen BK130.out 1; have hfz17_2 := blk_frozen BK130.out 2; have hfz17_3 := blk_frozen BK130.out 3; have hfz17_4 := blk_frozen BK130.out 4; have hfz17_5 := blk_frozen BK130.out 5; have hfz17_6 := blk_frozen BK130.out 6; have hfz17_7 := blk_frozen BK130.out 7; have hfz17_8 := blk_frozen BK130.out 8))
 refine bodyPost_ret (results_ct rfl _ _ gb130 27 #[.bool t132, .bool t133, .bool t134, .bool t135, .bool t136, .bool t137, .bool t138, .bool t139, .int .i64 (wrap64 (IntKind.u64.wrap (Int.tdiv a0 256)))] (0, 0) _ rfl (by (with_reducible repeat (first | apply blk_drewN | apply blk_drew | apply blk_alloc)); refine blk_put (cs := #[.bool t132, .bool t133, .bool t134, .bool t135, .bool t136, .bool t137, .bool t138, .bool t139, .int .i64 0]) ?_ 8 _ rfl; (with_reducible repeat (first | apply blk_drewN | apply blk_drew | apply blk_alloc)); refine blk_put (cs := #[.bool t132, .bool t133, .bool t134, .bool t135, .bool t136, .bool t137, .bool t138, .bool false, .int .i64 0]) ?_ 7 _ rfl; (with_reducible repeat (first | apply blk_drewN | apply blk_drew | apply blk_alloc)); refine blk_put (cs := #[.bool t132, .bool t133, .bool t134, .bool t135, .bool t136, .bool t137, .bool false, .bool false, .int .i64 0]) ?_ 6 _ rfl; (with_reducible repeat (first | apply blk_drewN | apply blk_drew | apply blk_alloc)); refine blk_put (cs := #[.bool t132, .bool t133, .bool t134, .bool t135, .bool t136, .bool false, .bool false, .bool false, .int .i64 0]) ?_ 5 _ rfl; (with_reducible repeat (first | apply blk_drewN | apply blk_drew | apply blk_alloc)); refine blk_put (cs := #[.bool t132, .bool t133, .bool t134, .bool t135, .bool false, .bool false, .bool false, .bool false, .int .i64 0]) ?_ 4 _ rfl; (with_reducible repeat (first | apply blk_drewN | apply blk_drew | apply blk_alloc)); refine blk_put (cs := #[.bool t132, .bool t133, .bool t134, .bool false, .bool false, .bool false, .bool false, .bool false, .int .i64 0]) ?_ 3 _ rfl; (with_reducible repeat (first | apply blk_drewN | apply blk_drew | apply blk_alloc)); refine blk_put (cs := #[.bool t132, .bool t133, .bool false, .bool false, .bool false, .bool false, .bool false, .bool false, .int .i64 0]) ?_ 2 _ rfl; (with_reducible repeat (first | apply blk_drewN | apply blk_drew | apply blk_alloc)); refine blk_put (cs := #[.bool t132, .bool false, .bool false, .bool false, .bool false, .bool false, .bool false, .bool false, .int .i64 0]) ?_ 1 _ rfl; (with_reducible repeat (first | apply blk_drewN | apply blk_drew | apply blk_alloc)); refine blk_put (cs := #[.bool false, .bool false, .bool false, .bool false, .bool false, .bool false, .bool false, .bool false, .int .i64 0]) ?_ 0 _ rfl; (with_reducible repeat (first | apply blk_drewN | apply blk_drew | apply blk_alloc)); refine blk_far ?_ NB130_131.out _; (with_reducible repeat (first | apply blk_drewN | apply blk_drew | apply blk_alloc)); exact BK130.out) Try.underlying27 rfl Z3_9) rfl ?_
 exact ⟨by first | rfl | (simp [errW_none, errW_some] <;> rfl) | (simp [*, errW_none, errW_some] <;> rfl), by repeat (first | (with_reducible first | exact HB.out | apply below_alloc | apply pw_below_drewN | apply below_drew1 | refine below_set ?_ GE130.out | refine below_set ?_ GE131.out) | exact HB.out)⟩
/-! ### spec_l6Pages: function 87 -/
def spec_l6Pages.f : Nat → Int → Option (Int)
 | 0, _ => none
 | k + 1, a0 => if a0 = 0 then (some 1) else ((spec_l6Pages.f k (wrap64 (a0 - 1))).bind fun t140 => (some (wrap64 (32 * t140))))
theorem spec_l6Pages.mono_l : ∀ k, (∀ y0, LeO (spec_l6Pages.f k y0) (spec_l6Pages.f (k + 1) y0))
 | 0 => fun _ r h => by simp [spec_l6Pages.f] at h
 | k + 1 => by
  have ih0 := spec_l6Pages.mono_l k
  ·intro y0
   unfold spec_l6Pages.f
   repeat' first
   | (with_reducible exact ih0 _)
   | (with_reducible exact LeO.refl _)
   | (with_reducible exact LeO.none _)
   | (with_reducible refine LeO.ite ?_ ?_)
   | (with_reducible refine LeO.bind ?_ (fun _ => ?_))
   | exact ih0 _
   | exact LeO.none _
   | refine LeO.ite ?_ ?_
   | refine LeO.bind ?_ (fun _ => ?_)
theorem spec_l6Pages.mono : ∀ a0 k, LeO (spec_l6Pages.f k a0) (spec_l6Pages.f (k + 1) a0) := by
 intro a0 k
 have ih0 := spec_l6Pages.mono_l k
 exact ih0 a0
set_option maxHeartbeats 8000000 in
set_option maxRecDepth 100000 in
theorem spec_l6Pages.calls (k : Nat) : ∀ (a0 : Int) (r : Int) (w : World) (h : spec_l6Pages.f k a0 = some r),
  Calls Try.prog 87 #[.int .i64 a0] w fun e w' => e = .returned (.int .i64 r) ∧ Drawn0 w w' := by
 induction k using Nat.strongRecOn with
 | _ k ih =>
 intro a0 r w h
 cases k with
 | zero => exact absurd h (by simp [spec_l6Pages.f])
 | succ k =>
 simp only [spec_l6Pages.f] at h
 have H : (if a0 = 0 then (some 1) else ((spec_l6Pages.f k (wrap64 (a0 - 1))).bind fun t140 => (some (wrap64 (32 * t140))))) = some r := h
 clear h
 by_cases c2 : a0 = 0
 ·rw [if_pos c2] at H
  have c2b0 : (a0 == 0) = true := beq_iff_eq.mpr c2
  have c2b1 : (a0 != 0) = false := bne_eq_false_iff_eq.mpr c2
  clear c2
  obtain rfl := Option.some.inj H
  go_enter Try.func87, Try.ntmps87
  go_wp2
  go_ret
  exact ⟨Z3_1, Z3_5⟩
 rw [if_neg c2] at H
 have c2b0 : (a0 == 0) = false := beq_eq_false_iff_ne.mpr c2
 have c2b1 : (a0 != 0) = true := bne_iff_ne.mpr c2
 replace H := Option.bind_eq_some_iff.mp H
 obtain ⟨t140, A30, H⟩ := H
 replace H : (some (wrap64 (32 * t140))) = some r := H
 have A3 := Aside0.mk A30
 clear A30
 obtain rfl := Option.some.inj H
 go_enter Try.func87, Try.ntmps87
 go_wp2_with (first | ((with_reducible refine gate_callee (f := 87) rfl ?_); refine goesL_ (some 7) rfl rfl Try.func87 Z3_9 rfl #[.int .i64 (wrap64 (a0 - 1))] rfl Z3_2 ?_; (with_reducible refine (ih k (by omega) (wrap64 (a0 - 1)) t140 _ A3.out).mono ?_); rintro e w' ⟨rfl, ⟨nd, rfl⟩⟩; refine ⟨_, rfl, ?_⟩))
 go_ret
 exact ⟨Z3_1, Z3_5⟩
/-! ### spec_l1SizeOk: function 105 -/
def spec_l1SizeOk.f (a0 : Int) : Option (Bool) := if a0 = 1 then (some true) else (if a0 = 2 then (some true) else (if a0 = 4 then (some true) else (some (a0 == 8))))
set_option maxHeartbeats 8000000 in
set_option maxRecDepth 100000 in
theorem spec_l1SizeOk.calls (a0 : Int) (r : Bool) (w : World) (h : spec_l1SizeOk.f a0 = some r) :
  Calls Try.prog 105 #[.int .i64 a0] w fun e w' => e = .returned (.bool r) ∧ Drawn0 w w' := by
 have H : (if a0 = 1 then (some true) else (if a0 = 2 then (some true) else (if a0 = 4 then (some true) else (some (a0 == 8))))) = some r := h
 clear h
 by_cases c2 : a0 = 1
 ·rw [if_pos c2] at H
  have c2b0 : (a0 == 1) = true := beq_iff_eq.mpr c2
  have c2b1 : (a0 != 1) = false := bne_eq_false_iff_eq.mpr c2
  clear c2
  obtain rfl := Option.some.inj H
  go_enter Try.func105, Try.ntmps105
  go_wp2
  go_ret
  exact ⟨Z3_1, Z3_5⟩
 rw [if_neg c2] at H
 have c2b0 : (a0 == 1) = false := beq_eq_false_iff_ne.mpr c2
 have c2b1 : (a0 != 1) = true := bne_iff_ne.mpr c2
 by_cases c3 : a0 = 2
 ·rw [if_pos c3] at H
  have c3b0 : (a0 == 2) = true := beq_iff_eq.mpr c3
  have c3b1 : (a0 != 2) = false := bne_eq_false_iff_eq.mpr c3
  clear c3
  obtain rfl := Option.some.inj H
  go_enter Try.func105, Try.ntmps105
  go_wp2
  go_ret
  exact ⟨Z3_1, Z3_5⟩
 rw [if_neg c3] at H
 have c3b0 : (a0 == 2) = false := beq_eq_false_iff_ne.mpr c3
 have c3b1 : (a0 != 2) = true := bne_iff_ne.mpr c3
 by_cases c4 : a0 = 4
 ·rw [if_pos c4] at H
  have c4b0 : (a0 == 4) = true := beq_iff_eq.mpr c4
  have c4b1 : (a0 != 4) = false := bne_eq_false_iff_eq.mpr c4
  clear c4
  obtain rfl := Option.some.inj H
  go_enter Try.func105, Try.ntmps105
  go_wp2
  go_ret
  exact ⟨Z3_1, Z3_5⟩
 rw [if_neg c4] at H
 have c4b0 : (a0 == 4) = false := beq_eq_false_iff_ne.mpr c4
 have c4b1 : (a0 != 4) = true := bne_iff_ne.mpr c4
 obtain rfl := Option.some.inj H
 go_enter Try.func105, Try.ntmps105
 go_wp2
 go_ret
 exact ⟨Z3_1, Z3_5⟩
/-! ### spec_Extend: function 106 -/
mutual
def spec_Extend.j0 : Nat → Int → Int → Bool → Option (Int)
 | 0, _, _, _ => none
 | k + 1, x0, x1, x12 => if x12 = true then (some 0) else (spec_Extend.l0 k x0 x1 0 63)
def spec_Extend.l0 : Nat → Int → Int → Int → Int → Option (Int)
 | 0, _, _, _, _ => none
 | k + 1, x0, x1, x5, x6 => if x6 ≥ 0 then (if x6 < x1 then ((spec_l1Bit.f k x0 x6).bind fun t141 => (spec_Extend.l0 k x0 x1 (IntKind.u64.wrap ((IntKind.u64.wrap (x5 * 2)) + t141)) (wrap64 (x6 - 1)))) else ((spec_l1Bit.f k x0 (wrap64 (x1 - 1))).bind fun t142 => (spec_Extend.l0 k x0 x1 (IntKind.u64.wrap ((IntKind.u64.wrap (x5 * 2)) + t142)) (wrap64 (x6 - 1))))) else (some x5)
end
def spec_Extend.f (k : Nat) (a0 : Int) (a1 : Int) : Option (Int) := if a1 < 1 then (spec_Extend.j0 k a0 a1 true) else (spec_Extend.j0 k a0 a1 (decide (a1 > 64)))
theorem spec_Extend.mono_l : ∀ k, (∀ y0 y1 y2, LeO (spec_Extend.j0 k y0 y1 y2) (spec_Extend.j0 (k + 1) y0 y1 y2)) ∧ (∀ y0 y1 y2 y3, LeO (spec_Extend.l0 k y0 y1 y2 y3) (spec_Extend.l0 (k + 1) y0 y1 y2 y3))
 | 0 => ⟨fun _ _ _ r h => by simp [spec_Extend.j0] at h, fun _ _ _ _ r h => by simp [spec_Extend.l0] at h⟩
 | k + 1 => by
  obtain ⟨ih0, ih1⟩ := spec_Extend.mono_l k
  refine ⟨?_, ?_⟩
  ·intro y0 y1 y2
   unfold spec_Extend.j0
   repeat' first
   | (with_reducible exact ih0 _ _ _)
   | (with_reducible exact ih1 _ _ _ _)
   | (with_reducible exact spec_l1Bit.mono _ _ _)
   | (with_reducible exact LeO.refl _)
   | (with_reducible exact LeO.none _)
   | (with_reducible refine LeO.ite ?_ ?_)
   | (with_reducible refine LeO.bind ?_ (fun _ => ?_))
   | exact ih0 _ _ _
   | exact ih1 _ _ _ _
   | exact spec_l1Bit.mono _ _ _
   | exact LeO.none _
   | refine LeO.ite ?_ ?_
   | refine LeO.bind ?_ (fun _ => ?_)
  ·intro y0 y1 y2 y3
   unfold spec_Extend.l0
   repeat' first
   | (with_reducible exact ih0 _ _ _)
   | (with_reducible exact ih1 _ _ _ _)
   | (with_reducible exact spec_l1Bit.mono _ _ _)
   | (with_reducible exact LeO.refl _)
   | (with_reducible exact LeO.none _)
   | (with_reducible refine LeO.ite ?_ ?_)
   | (with_reducible refine LeO.bind ?_ (fun _ => ?_))
   | exact ih0 _ _ _
   | exact ih1 _ _ _ _
   | exact spec_l1Bit.mono _ _ _
   | exact LeO.none _
   | refine LeO.ite ?_ ?_
   | refine LeO.bind ?_ (fun _ => ?_)
theorem spec_Extend.mono : ∀ a0 a1 k, LeO (spec_Extend.f k a0 a1) (spec_Extend.f (k + 1) a0 a1) := by
 intro a0 a1 k
 obtain ⟨ih0, ih1⟩ := spec_Extend.mono_l k
 unfold spec_Extend.f
 repeat' first
   | (with_reducible exact ih0 _ _ _)
   | (with_reducible exact ih1 _ _ _ _)
   | (with_reducible exact spec_l1Bit.mono _ _ _)
   | (with_reducible exact LeO.refl _)
   | (with_reducible exact LeO.none _)
   | (with_reducible refine LeO.ite ?_ ?_)
   | (with_reducible refine LeO.bind ?_ (fun _ => ?_))
   | exact ih0 _ _ _
   | exact ih1 _ _ _ _
   | exact spec_l1Bit.mono _ _ _
   | exact LeO.none _
   | refine LeO.ite ?_ ?_
   | refine LeO.bind ?_ (fun _ => ?_)
set_option maxHeartbeats 8000000 in
set_option maxRecDepth 100000 in
theorem spec_Extend.calls (k : Nat) (a0 : Int) (a1 : Int) (r : Int) (w : World) (h : spec_Extend.f k a0 a1 = some r) :
  Calls Try.prog 106 #[.int .u64 a0, .int .i64 a1] w fun e w' => e = .returned (.int .u64 r) ∧ Drawn0 w w' := by
 have H : (if a1 < 1 then (spec_Extend.j0 k a0 a1 true) else (spec_Extend.j0 k a0 a1 (decide (a1 > 64)))) = some r := h
 clear h
 have HC3 := Aside0.mk H
 clear H
 go_enter Try.func106, Try.ntmps106
 go_upto_region 1 with (fail)
 go_cut [12] (fun v12 wc => ∃ (kq : Nat) (x12_2 : Bool), v12 = .bool x12_2 ∧ Aside0 (spec_Extend.j0 kq a0 a1 x12_2 = some r) ∧ Aside0 (kq ≤ k) ∧ Drawn0 w wc)
 case first =>
  have H := HC3.out
  clear HC3
  by_cases c4 : a1 < 1
  ·rw [if_pos c4] at H
   have c4b0 : decide (a1 < 1) = true := decide_eq_true c4
   clear c4
   (first | rw [c4b0] | (simp only [i64_w, i32_w]; rw [c4b0]) | skip)
   have H' := Aside0.mk H
   clear H
   go_wp2
   go_meet
   case rel => exact ⟨_, (true), Z3_1, H', ⟨Z3_10⟩, Z3_5⟩
  rw [if_neg c4] at H
  have c4b0 : decide (a1 < 1) = false := decide_eq_false c4
  clear c4
  (first | rw [c4b0] | (simp only [i64_w, i32_w]; rw [c4b0]) | skip)
  have H' := Aside0.mk H
  clear H
  go_wp2
  go_meet
  case rel => exact ⟨_, (decide (a1 > 64)), Z3_1, H', ⟨Z3_10⟩, Z3_5⟩
 clear HC3
 try clear c1
 try clear p2
 try clear c4
 try clear c4b0
 obtain ⟨kq, x12_2, rfl, HA, HJ2, ⟨mc2, rfl⟩⟩ := hcut
 cases kq with
 | zero => exact absurd HA.out (by simp [spec_Extend.j0])
 | succ kj2 =>
  have H := HA.out
  clear HA
  simp only [spec_Extend.j0] at H
  by_cases c5 : x12_2 = true
  ·subst c5
   have H1 : (some 0) = some r := by rw [if_pos rfl] at H; exact H
   clear H
   have H := H1
   clear H1
   obtain rfl := Option.some.inj H
   go_wp2
   go_ret
   exact ⟨Z3_1, Z3_5⟩
  replace c5 := Bool.eq_false_iff.mpr c5
  subst c5
  have H1 : (spec_Extend.l0 kj2 a0 a1 0 63) = some r := by rw [if_neg (show ¬ (false = true) by decide)] at H; exact H
  clear H
  have H := H1
  clear H1
  have H' := Aside0.mk H
  clear H
  go_wp2
  go_loopg [5, 6] kj2 (fun kq v5 v6 w' => ∃ (x5_2 : Int) (x6_2 : Int), v5 = .int .u64 x5_2 ∧ v6 = .int .i64 x6_2 ∧ Aside0 (spec_Extend.l0 kq a0 a1 x5_2 x6_2 = some r) ∧ Aside0 (kq ≤ kj2) ∧ Drawn0 w w')
  case atStart => exact ⟨(0), (63), Z3_1, Z3_1, H', ⟨Nat.le_refl _⟩, Z3_5⟩
  clear H'
  try clear c1
  try clear c2
  try clear p2
  try clear c4
  try clear c4b0
  try clear c5
  try clear p2
  obtain ⟨x5_2, x6_2, rfl, rfl, HA, HK2, ⟨m2, rfl⟩⟩ := hrel
  cases gk with
  | zero => exact absurd HA.out (by simp [spec_Extend.l0])
  | succ k2 =>
   have H := HA.out
   clear HA
   simp only [spec_Extend.l0] at H
   by_cases c6 : x6_2 ≥ 0
   ·rw [if_pos c6] at H
    have c6b0 : decide (0 ≤ x6_2) = true := decide_eq_true c6
    clear c6
    by_cases c7 : x6_2 < a1
    ·rw [if_pos c7] at H
     have c7b0 : decide (x6_2 < a1) = true := decide_eq_true c7
     clear c7
     replace H := Option.bind_eq_some_iff.mp H
     obtain ⟨t141, A80, H⟩ := H
     replace H : (spec_Extend.l0 k2 a0 a1 (IntKind.u64.wrap ((IntKind.u64.wrap (x5_2 * 2)) + t141)) (wrap64 (x6_2 - 1))) = some r := H
     have A8 := Aside0.mk A80
     clear A80
     have H' := Aside0.mk H
     clear H
     go_wp2_with (first | ((with_reducible refine gate_callee (f := 85) rfl ?_); refine goesL_ (some 24) rfl rfl Try.func85 Z3_9 rfl #[.int .u64 a0, .int .i64 x6_2] rfl Z3_2 ?_; (with_reducible refine (spec_l1Bit.calls k2 a0 x6_2 t141 _ A8.out).mono ?_); rintro e w' ⟨rfl, ⟨nd, rfl⟩⟩; refine ⟨_, rfl, ?_⟩))
     go_roundg k2
     case measure => have := HJ2.out; have := HK2.out; omega
     case rel => exact ⟨(IntKind.u64.wrap ((IntKind.u64.wrap (x5_2 * 2)) + t141)), (wrap64 (x6_2 - 1)), Z3_1, Z3_1, H', ⟨by have := HJ2.out; have := HK2.out; omega⟩, Z3_5⟩
    rw [if_neg c7] at H
    have c7b0 : decide (x6_2 < a1) = false := decide_eq_false c7
    clear c7
    replace H := Option.bind_eq_some_iff.mp H
    obtain ⟨t142, A90, H⟩ := H
    replace H : (spec_Extend.l0 k2 a0 a1 (IntKind.u64.wrap ((IntKind.u64.wrap (x5_2 * 2)) + t142)) (wrap64 (x6_2 - 1))) = some r := H
    have A9 := Aside0.mk A90
    clear A90
    have H' := Aside0.mk H
    clear H
    go_wp2_with (first | ((with_reducible refine gate_callee (f := 85) rfl ?_); refine goesL_ (some 31) rfl rfl Try.func85 Z3_9 rfl #[.int .u64 a0, .int .i64 (wrap64 (a1 - 1))] rfl Z3_2 ?_; (with_reducible refine (spec_l1Bit.calls k2 a0 (wrap64 (a1 - 1)) t142 _ A9.out).mono ?_); rintro e w' ⟨rfl, ⟨nd, rfl⟩⟩; refine ⟨_, rfl, ?_⟩))
    go_roundg k2
    case measure => have := HJ2.out; have := HK2.out; omega
    case rel => exact ⟨(IntKind.u64.wrap ((IntKind.u64.wrap (x5_2 * 2)) + t142)), (wrap64 (x6_2 - 1)), Z3_1, Z3_1, H', ⟨by have := HJ2.out; have := HK2.out; omega⟩, Z3_5⟩
   rw [if_neg c6] at H
   have c6b0 : decide (0 ≤ x6_2) = false := decide_eq_false c6
   clear c6
   obtain rfl := Option.some.inj H
   go_wp2
   go_ret
   exact ⟨Z3_1, Z3_5⟩
/-! ### spec_LoadWord: function 88 -/
mutual
def spec_LoadWord.j0 : Nat → List Int → Int → Int → Bool → Bool → Option (Int × Bool)
 | 0, _, _, _, _, _ => none
 | k + 1, x0, x1, x2, x3, x26 => if x26 = true then (some (0, false)) else (spec_LoadWord.l0 k x0 x1 x2 x3 0 (wrap64 (x2 - 1)))
def spec_LoadWord.l0 : Nat → List Int → Int → Int → Bool → Int → Int → Option (Int × Bool)
 | 0, _, _, _, _, _, _ => none
 | k + 1, x0, x1, x2, x3, x10, x11 => if x11 ≥ 0 then (if 0 ≤ (wrap64 (x1 + x11)) then (if (wrap64 (x1 + x11)) < (x0.length : Int) then (spec_LoadWord.l0 k x0 x1 x2 x3 (IntKind.u64.wrap ((IntKind.u64.wrap (x10 * 256)) + (IntKind.u64.wrap (rd x0 (wrap64 (x1 + x11)))))) (wrap64 (x11 - 1))) else (none)) else (none)) else (if x3 = true then ((spec_Extend.f k x10 (wrap64 (8 * x2))).bind fun t145 => (some (t145, true))) else (some (x10, true)))
end
def spec_LoadWord.f (k : Nat) (l0 : List Int) (a1 : Int) (a2 : Int) (a3 : Bool) : Option (Int × Bool) := (spec_l1SizeOk.f a2).bind fun t143 => (if t143 = true then (if a1 < 0 then (spec_LoadWord.j0 k l0 a1 a2 a3 true) else (spec_LoadWord.j0 k l0 a1 a2 a3 (decide (a1 > (wrap64 ((l0.length : Int) - a2)))))) else (spec_LoadWord.j0 k l0 a1 a2 a3 true))
theorem spec_LoadWord.mono_l : ∀ k, (∀ y0 y1 y2 y3 y4, LeO (spec_LoadWord.j0 k y0 y1 y2 y3 y4) (spec_LoadWord.j0 (k + 1) y0 y1 y2 y3 y4)) ∧ (∀ y0 y1 y2 y3 y4 y5, LeO (spec_LoadWord.l0 k y0 y1 y2 y3 y4 y5) (spec_LoadWord.l0 (k + 1) y0 y1 y2 y3 y4 y5))
 | 0 => ⟨fun _ _ _ _ _ r h => by simp [spec_LoadWord.j0] at h, fun _ _ _ _ _ _ r h => by simp [spec_LoadWord.l0] at h⟩
 | k + 1 => by
  obtain ⟨ih0, ih1⟩ := spec_LoadWord.mono_l k
  refine ⟨?_, ?_⟩
  ·intro y0 y1 y2 y3 y4
   unfold spec_LoadWord.j0
   repeat' first
   | (with_reducible exact ih0 _ _ _ _ _)
   | (with_reducible exact ih1 _ _ _ _ _ _)
   | (with_reducible exact spec_Extend.mono _ _ _)
   | (with_reducible exact LeO.refl _)
   | (with_reducible exact LeO.none _)
   | (with_reducible refine LeO.ite ?_ ?_)
   | (with_reducible refine LeO.bind ?_ (fun _ => ?_))
   | exact ih0 _ _ _ _ _
   | exact ih1 _ _ _ _ _ _
   | exact spec_Extend.mono _ _ _
   | exact LeO.none _
   | refine LeO.ite ?_ ?_
   | refine LeO.bind ?_ (fun _ => ?_)
  ·intro y0 y1 y2 y3 y4 y5
   unfold spec_LoadWord.l0
   repeat' first
   | (with_reducible exact ih0 _ _ _ _ _)
   | (with_reducible exact ih1 _ _ _ _ _ _)
   | (with_reducible exact spec_Extend.mono _ _ _)
   | (with_reducible exact LeO.refl _)
   | (with_reducible exact LeO.none _)
   | (with_reducible refine LeO.ite ?_ ?_)
   | (with_reducible refine LeO.bind ?_ (fun _ => ?_))
   | exact ih0 _ _ _ _ _
   | exact ih1 _ _ _ _ _ _
   | exact spec_Extend.mono _ _ _
   | exact LeO.none _
   | refine LeO.ite ?_ ?_
   | refine LeO.bind ?_ (fun _ => ?_)
theorem spec_LoadWord.mono : ∀ a0 a1 a2 a3 k, LeO (spec_LoadWord.f k a0 a1 a2 a3) (spec_LoadWord.f (k + 1) a0 a1 a2 a3) := by
 intro a0 a1 a2 a3 k
 obtain ⟨ih0, ih1⟩ := spec_LoadWord.mono_l k
 unfold spec_LoadWord.f
 repeat' first
   | (with_reducible exact ih0 _ _ _ _ _)
   | (with_reducible exact ih1 _ _ _ _ _ _)
   | (with_reducible exact spec_Extend.mono _ _ _)
   | (with_reducible exact LeO.refl _)
   | (with_reducible exact LeO.none _)
   | (with_reducible refine LeO.ite ?_ ?_)
   | (with_reducible refine LeO.bind ?_ (fun _ => ?_))
   | exact ih0 _ _ _ _ _
   | exact ih1 _ _ _ _ _ _
   | exact spec_Extend.mono _ _ _
   | exact LeO.none _
   | refine LeO.ite ?_ ?_
   | refine LeO.bind ?_ (fun _ => ?_)
set_option maxHeartbeats 8000000 in
set_option maxRecDepth 100000 in
theorem spec_LoadWord.calls (k : Nat) (A0 : Option Addr) (c0 : Nat) (l0 : List Int) (a1 : Int) (a2 : Int) (a3 : Bool) (r1 : Int) (r2 : Bool) (w : World) (hr0 : Kd.C (Kd.int .u8) w A0 l0.length l0) (hc0 : l0.length ≤ c0) (h : spec_LoadWord.f k l0 a1 a2 a3 = some (r1, r2)) :
  Calls Try.prog 88 #[.slice A0 l0.length c0, .int .i64 a1, .int .i64 a2, .bool a3] w fun e w' => e = .returned (.tuple #[.int .u64 r1, .bool r2]) ∧ Drawn0 w w' := by
 have HR0 := Aside0.mk hr0
 have HC0 := Aside0.mk hc0
 clear hr0 hc0
 have H : ((spec_l1SizeOk.f a2).bind fun t143 => (if t143 = true then (if a1 < 0 then (spec_LoadWord.j0 k l0 a1 a2 a3 true) else (spec_LoadWord.j0 k l0 a1 a2 a3 (decide (a1 > (wrap64 ((l0.length : Int) - a2)))))) else (spec_LoadWord.j0 k l0 a1 a2 a3 true))) = some (r1, r2) := h
 clear h
 have HC5 := Aside0.mk H
 clear H
 go_enter Try.func88, Try.ntmps88
 go_upto_region 1 with (fail)
 go_cut [26] (fun v26 wc => ∃ (kq : Nat) (x26_4 : Bool), v26 = .bool x26_4 ∧ Aside0 (spec_LoadWord.j0 kq l0 a1 a2 a3 x26_4 = some (r1, r2)) ∧ Aside0 (kq ≤ k) ∧ Drawn0 w wc)
 case first =>
  have H := HC5.out
  clear HC5
  replace H := Option.bind_eq_some_iff.mp H
  obtain ⟨t143, A60, H⟩ := H
  replace H : (if t143 = true then (if a1 < 0 then (spec_LoadWord.j0 k l0 a1 a2 a3 true) else (spec_LoadWord.j0 k l0 a1 a2 a3 (decide (a1 > (wrap64 ((l0.length : Int) - a2)))))) else (spec_LoadWord.j0 k l0 a1 a2 a3 true)) = some (r1, r2) := H
  have A6 := Aside0.mk A60
  clear A60
  by_cases c7 : t143 = true
  ·subst c7
   have H1 : (if a1 < 0 then (spec_LoadWord.j0 k l0 a1 a2 a3 true) else (spec_LoadWord.j0 k l0 a1 a2 a3 (decide (a1 > (wrap64 ((l0.length : Int) - a2)))))) = some (r1, r2) := by rw [if_pos rfl] at H; exact H
   clear H
   have H := H1
   clear H1
   by_cases c8 : a1 < 0
   ·rw [if_pos c8] at H
    have c8b0 : decide (a1 < 0) = true := decide_eq_true c8
    clear c8
    (first | rw [c8b0] | (simp only [i64_w, i32_w]; rw [c8b0]) | skip)
    have H' := Aside0.mk H
    clear H
    go_wp2_with (first | ((with_reducible refine gate_callee (f := 105) rfl ?_); refine goesL_ (some 13) rfl rfl Try.func105 Z3_9 rfl #[.int .i64 a2] rfl Z3_2 ?_; (with_reducible refine (spec_l1SizeOk.calls a2 true _ A6.out).mono ?_); rintro e w' ⟨rfl, ⟨nd, rfl⟩⟩; refine ⟨_, rfl, ?_⟩))
    go_meet
    case rel => exact ⟨_, (true), Z3_1, H', ⟨Z3_10⟩, Z3_5⟩
   rw [if_neg c8] at H
   have c8b0 : decide (a1 < 0) = false := decide_eq_false c8
   clear c8
   (first | rw [c8b0] | (simp only [i64_w, i32_w]; rw [c8b0]) | skip)
   have H' := Aside0.mk H
   clear H
   go_wp2_with (first | ((with_reducible refine gate_callee (f := 105) rfl ?_); refine goesL_ (some 13) rfl rfl Try.func105 Z3_9 rfl #[.int .i64 a2] rfl Z3_2 ?_; (with_reducible refine (spec_l1SizeOk.calls a2 true _ A6.out).mono ?_); rintro e w' ⟨rfl, ⟨nd, rfl⟩⟩; refine ⟨_, rfl, ?_⟩))
   go_meet
   case rel => exact ⟨_, (decide (a1 > (wrap64 ((l0.length : Int) - a2)))), Z3_1, H', ⟨Z3_10⟩, Z3_5⟩
  replace c7 := Bool.eq_false_iff.mpr c7
  subst c7
  have H1 : (spec_LoadWord.j0 k l0 a1 a2 a3 true) = some (r1, r2) := by rw [if_neg (show ¬ (false = true) by decide)] at H; exact H
  clear H
  have H := H1
  clear H1
  have H' := Aside0.mk H
  clear H
  go_wp2_with (first | ((with_reducible refine gate_callee (f := 105) rfl ?_); refine goesL_ (some 13) rfl rfl Try.func105 Z3_9 rfl #[.int .i64 a2] rfl Z3_2 ?_; (with_reducible refine (spec_l1SizeOk.calls a2 false _ A6.out).mono ?_); rintro e w' ⟨rfl, ⟨nd, rfl⟩⟩; refine ⟨_, rfl, ?_⟩))
  go_meet
  case rel => exact ⟨_, (true), Z3_1, H', ⟨Z3_10⟩, Z3_5⟩
 clear HC5
 try clear c1
 try clear p2
 try clear p6
 try clear c7
 try clear c8
 try clear c8b0
 obtain ⟨kq, x26_4, rfl, HA, HJ4, ⟨mc4, rfl⟩⟩ := hcut
 cases kq with
 | zero => exact absurd HA.out (by simp [spec_LoadWord.j0])
 | succ kj4 =>
  have H := HA.out
  clear HA
  simp only [spec_LoadWord.j0] at H
  by_cases c9 : x26_4 = true
  ·subst c9
   have H1 : (some (0, false)) = some (r1, r2) := by rw [if_pos rfl] at H; exact H
   clear H
   have H := H1
   clear H1
   simp only [Option.some.injEq, Prod.mk.injEq] at H
   obtain ⟨rfl, rfl⟩ := H
   go_wp2
   go_ret2
   exact ⟨Z3_1, Z3_5⟩
  replace c9 := Bool.eq_false_iff.mpr c9
  subst c9
  have H1 : (spec_LoadWord.l0 kj4 l0 a1 a2 a3 0 (wrap64 (a2 - 1))) = some (r1, r2) := by rw [if_neg (show ¬ (false = true) by decide)] at H; exact H
  clear H
  have H := H1
  clear H1
  have H' := Aside0.mk H
  clear H
  go_wp2
  go_loopg [10, 11] kj4 (fun kq v10 v11 w' => ∃ (x10_2 : Int) (x11_2 : Int), v10 = .int .u64 x10_2 ∧ v11 = .int .i64 x11_2 ∧ Aside0 (spec_LoadWord.l0 kq l0 a1 a2 a3 x10_2 x11_2 = some (r1, r2)) ∧ Aside0 (kq ≤ kj4) ∧ Drawn0 w w')
  case atStart => exact ⟨(0), (wrap64 (a2 - 1)), Z3_1, Z3_1, H', ⟨Nat.le_refl _⟩, Z3_5⟩
  clear H'
  try clear c1
  try clear p2
  try clear c4
  try clear p6
  try clear c7
  try clear c8
  try clear c8b0
  try clear c9
  try clear p2
  try clear p6
  obtain ⟨x10_2, x11_2, rfl, rfl, HA, HK2, ⟨m2, rfl⟩⟩ := hrel
  cases gk with
  | zero => exact absurd HA.out (by simp [spec_LoadWord.l0])
  | succ k2 =>
   have H := HA.out
   clear HA
   simp only [spec_LoadWord.l0] at H
   by_cases c10 : x11_2 ≥ 0
   ·rw [if_pos c10] at H
    have c10b0 : decide (0 ≤ x11_2) = true := decide_eq_true c10
    clear c10
    obtain ⟨ji11, hji11⟩ : ∃ j_ : Int, (wrap64 (a1 + x11_2)) = j_ := ⟨_, rfl⟩
    replace H : (if 0 ≤ (ji11) then (if (ji11) < (l0.length : Int) then (spec_LoadWord.l0 k2 l0 a1 a2 a3 (IntKind.u64.wrap ((IntKind.u64.wrap (x10_2 * 256)) + (IntKind.u64.wrap (rd l0 (ji11))))) (wrap64 (x11_2 - 1))) else (none)) else (none)) = some (r1, r2) := by first | (rw [hji11] at H; exact H) | (simp only [hji11] at H ⊢; exact H)
    have hji11w : (IntKind.i64.wrap (a1 + x11_2)) = ji11 := (i64_w _).trans hji11
    by_cases c12 : 0 ≤ (ji11)
    ·rw [if_pos c12] at H
     have c12b0 : decide (0 ≤ (ji11)) = true := decide_eq_true c12
     clear c12
     by_cases c13 : (ji11) < (l0.length : Int)
     ·rw [if_pos c13] at H
      have c13b0 : decide ((ji11) < (l0.length : Int)) = true := decide_eq_true c13
      clear c13
      have H' := Aside0.mk H
      clear H
      have p144 : 0 ≤ ((ji11) : Int) := of_decide_eq_true (by first | (with_reducible assumption) | assumption)
      have q144 : (ji11) < (l0.length : Int) := of_decide_eq_true (by first | (with_reducible assumption) | assumption)
      obtain ⟨ad144, e144, hx144_0⟩ := Kd.at_int HR0.out (ji11) p144 q144
      cases e144
      replace p144 := eq_true p144
      replace q144 := eq_true q144
      go_wp2
      go_roundg k2
      case measure => have := HJ4.out; have := HK2.out; omega
      case rel => exact ⟨(IntKind.u64.wrap ((IntKind.u64.wrap (x10_2 * 256)) + (IntKind.u64.wrap (rd l0 (ji11))))), (wrap64 (x11_2 - 1)), (by first | rfl | (simp; done) | (simp only [← hji11] <;> (first | rfl | simp)) | (simp [*]; done)), Z3_1, H', ⟨by have := HJ4.out; have := HK2.out; omega⟩, Z3_5⟩
     rw [if_neg c13] at H
     exact absurd H (by simp)
    rw [if_neg c12] at H
    exact absurd H (by simp)
   rw [if_neg c10] at H
   have c10b0 : decide (0 ≤ x11_2) = false := decide_eq_false c10
   clear c10
   by_cases c14 : a3 = true
   ·subst c14
    have H1 : ((spec_Extend.f k2 x10_2 (wrap64 (8 * a2))).bind fun t145 => (some (t145, true))) = some (r1, r2) := by rw [if_pos rfl] at H; exact H
    clear H
    have H := H1
    clear H1
    replace H := Option.bind_eq_some_iff.mp H
    obtain ⟨t145, A150, H⟩ := H
    replace H : (some (t145, true)) = some (r1, r2) := H
    have A15 := Aside0.mk A150
    clear A150
    simp only [Option.some.injEq, Prod.mk.injEq] at H
    obtain ⟨rfl, rfl⟩ := H
    go_wp2_with (first | ((with_reducible refine gate_callee (f := 106) rfl ?_); refine goesL_ (some 47) rfl rfl Try.func106 Z3_9 rfl #[.int .u64 x10_2, .int .i64 (wrap64 (8 * a2))] rfl Z3_2 ?_; (with_reducible refine (spec_Extend.calls k2 x10_2 (wrap64 (8 * a2)) t145 _ A15.out).mono ?_); rintro e w' ⟨rfl, ⟨nd, rfl⟩⟩; refine ⟨_, rfl, ?_⟩))
    go_ret2
    exact ⟨Z3_1, Z3_5⟩
   replace c14 := Bool.eq_false_iff.mpr c14
   subst c14
   have H1 : (some (x10_2, true)) = some (r1, r2) := by rw [if_neg (show ¬ (false = true) by decide)] at H; exact H
   clear H
   have H := H1
   clear H1
   simp only [Option.some.injEq, Prod.mk.injEq] at H
   obtain ⟨rfl, rfl⟩ := H
   go_wp2
   go_ret2
   exact ⟨Z3_1, Z3_5⟩
end Go.Proofs.Ytdhafphhkokniaa.PFnLeavesFound
