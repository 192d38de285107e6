-- Written by a program of this session out of the translation. Not trusted: Lean checks it.
import Derived.Test.YtdhafphhkokniaaPFnLeavesFoundx0
import Derived.Test.YtdhafphhkokniaaPFnLeavesFoundx3
import Derived.Test.YtdhafphhkokniaaPFnLeavesFoundx4
import Derived.Test.YtdhafphhkokniaaPFnLeavesFoundx6
import Derived.Test.YtdhafphhkokniaaPFnLeavesFoundx7
import Derived.Test.YtdhafphhkokniaaPFnLeavesFoundx8d
namespace Go.Proofs.Ytdhafphhkokniaa.PFnLeavesFound
open Go.RowKit Go.Proofs.YtdhafphhkokniaaW.PrintWords Go.Proofs.YtdhafphhkokniaaW.PrintLast Go.Proofs.YtdhafphhkokniaaW.PrintMore
attribute [local go_sem] max2_int min2_int max_two min_two max_three min_three max_four min_four   -- for this text's walks alone
set_option linter.unusedVariables false
set_option linter.unusedSimpArgs false
set_option maxHeartbeats 8000000 in
set_option maxRecDepth 100000 in
theorem spec_l6DrawTables.calls (k : Nat) (g : Nat) (s0_0 : List Int) (s0_1 : Int) (s0_2 : Int) (r1 : List Int) (r2 : List Int) (r3 : Int) (r4 : Int) (w0 w : World) (hI : IsS116 w0 w g s0_0 s0_1 s0_2) (hB : Below w0.heap.size w0 w) (h : spec_l6DrawTables.f k s0_0 s0_1 s0_2 = some (r1, r2, r3, r4)) :
  Calls Try.prog 59 #[.pointer (some ⟨g, 0, none⟩)] w fun e w' => ∃ v0_ v1_ : Value, e = .returned (.tuple #[v0_, v1_]) ∧ Kd.R (Kd.int .u8) 5 w' w.heap.size (fun _ => True) v0_ r1 ∧ Kd.R (Kd.int .i64) 2 w' w.heap.size (fun _ => True) v1_ r2 ∧ IsS116 w0 w' g s0_0 r3 r4 ∧ Below w0.heap.size w0 w' ∧ KeepBut w w' g none := by
 have hu27 := Try.underlying27
 have HI0 := Aside0.mk hI
 have HK := Aside0.mk (KeepBut.refl w g none)
 have HL := Aside0.mk hB.size
 clear hI
 have HW0 := Aside0.mk hB.size
 have HB := Aside0.mk hB
 clear hB
 have H : ((spec_l1Below.f s0_0 s0_1 s0_2 10).bind fun bt253 => (if 0 ≤ (wrap64 ((wrap64 (4 + bt253.1)) * 256)) then (if (wrap64 ((wrap64 (4 + bt253.1)) * 256) : Int).toNat ≤ 281474976710656 then (spec_l6DrawTables.l0 k (wrap64 (4 + bt253.1)) (List.replicate (wrap64 ((wrap64 (4 + bt253.1)) * 256) : Int).toNat 0) (([] : List Int)) 0 s0_0 bt253.2.1 bt253.2.2) else (none)) else (none))) = some (r1, r2, r3, r4) := h
 clear h
 replace H := Option.bind_eq_some_iff.mp H
 obtain ⟨⟨t253, t254, t255⟩, A20, H⟩ := H
 replace H : (if 0 ≤ (wrap64 ((wrap64 (4 + t253)) * 256)) then (if (wrap64 ((wrap64 (4 + t253)) * 256) : Int).toNat ≤ 281474976710656 then (spec_l6DrawTables.l0 k (wrap64 (4 + t253)) (List.replicate (wrap64 ((wrap64 (4 + t253)) * 256) : Int).toNat 0) (([] : List Int)) 0 s0_0 t254 t255) else (none)) else (none)) = some (r1, r2, r3, r4) := H
 have A2 := Aside0.mk A20
 clear A20
 obtain ⟨ji3, hji3⟩ : ∃ j_ : Int, (wrap64 ((wrap64 (4 + t253)) * 256)) = j_ := ⟨_, rfl⟩
 replace H : (if 0 ≤ (ji3) then (if (ji3 : Int).toNat ≤ 281474976710656 then (spec_l6DrawTables.l0 k (wrap64 (4 + t253)) (List.replicate (ji3 : Int).toNat 0) (([] : List Int)) 0 s0_0 t254 t255) else (none)) else (none)) = some (r1, r2, r3, r4) := by first | (rw [hji3] at H; exact H) | (simp only [hji3] at H ⊢; exact H)
 (try rw [hji3] at A2)
 have hji3w : (IntKind.i64.wrap ((wrap64 (4 + t253)) * 256)) = ji3 := (i64_w _).trans hji3
 by_cases c4 : 0 ≤ (ji3)
 ·rw [if_pos c4] at H
  have c4b0 := eq_true c4
  have c4b1 : decide (0 ≤ (ji3)) = true := decide_eq_true c4
  clear c4
  by_cases c5 : (ji3 : Int).toNat ≤ 281474976710656
  ·rw [if_pos c5] at H
   have c5b0 := eq_true c5
   have c5b1 : decide ((ji3 : Int).toNat ≤ 281474976710656) = true := decide_eq_true c5
   clear c5
   obtain ⟨y256, hy256⟩ : ∃ y_ : List Int, y_ = (List.replicate (ji3 : Int).toNat 0) := ⟨_, rfl⟩
   replace H : (spec_l6DrawTables.l0 k (wrap64 (4 + t253)) y256 (([] : List Int)) 0 s0_0 t254 t255) = some (r1, r2, r3, r4) := by first | (rw [hy256]; with_reducible exact H) | (have H2_ := (Option.bind_some _ _).symm.trans H; rw [hy256]; with_reducible exact H2_) | (have H2_ := (Option.bind_some _ _).symm.trans H; with_reducible exact H2_) | with_reducible exact H | (rw [hy256]; exact H) | exact H
   have Ny256 := Aside0.mk hy256
   clear hy256
   obtain ⟨y259, hy259⟩ : ∃ y_ : List Int, y_ = (([] : List Int)) := ⟨_, rfl⟩
   replace H : (spec_l6DrawTables.l0 k (wrap64 (4 + t253)) y256 y259 0 s0_0 t254 t255) = some (r1, r2, r3, r4) := by first | (rw [hy259]; with_reducible exact H) | (have H2_ := (Option.bind_some _ _).symm.trans H; rw [hy259]; with_reducible exact H2_) | (have H2_ := (Option.bind_some _ _).symm.trans H; with_reducible exact H2_) | with_reducible exact H | (rw [hy259]; exact H) | exact H
   have Ny259 := Aside0.mk hy259
   clear hy259
   have H' := Aside0.mk H
   clear H
   go_enter Try.func59, Try.ntmps59
   go_wp2_with (first | ((with_reducible refine gate_callee (f := 61) rfl ?_); refine goesL_ (some 23) rfl rfl Try.func61 Z8_30 rfl #[.pointer (some ⟨g, 0, none⟩), .int .i64 10] rfl Z8_7 ?_; (with_reducible refine (spec_l1Below.calls g s0_0 s0_1 s0_2 10 t253 t254 t255 w0 _ ?side1 ?side2 A2.out).mono ?_); (case side1 => exact Z8_10); (case side2 => exact Z8_11); rintro e w6 ⟨rfl, hi, hb, hk⟩; refine ⟨_, rfl, ?_⟩; have n0_ := Aside0.mk (KeepBut.trans Z8_9 hk (.inl rfl)); have n1_ := Aside0.mk (hb); have n2_ := Aside0.mk (hi); clear HK; clear HB; clear HI0; have HK := n0_; have HB := n1_; have HI0 := n2_; clear n0_ n1_ n2_; (try clear hb); (try clear hb2); (try clear hk); (try clear hi)) | ((with_reducible refine gate_dst (N := 27) rfl ?_); refine Kd.R_make (Kd.int .u8) _ 5 rfl (N := 27) rfl 34 _ _ rfl ji3 rfl rfl Try.underlying34 (.int .u8 0) 1 info5 rfl Z8_32 (by omega) 0 (ok := fun _ => True) (okp := fun _ => True) rfl (fun _ hk => hk) trivial (of_decide_eq_true Z8_31) (Nat.le_trans (Nat.mul_le_mul_right _ (of_decide_eq_true Z8_31 : ji3.toNat ≤ 281474976710656)) (by omega)) (Below.refl _ _) (Nat.le_refl _) ?_; intro v257 w7 ho8 hb hg_ hnew_; clear hg_ hnew_; (first | rw [← Ny256.out] at ho8 | (simp only [Int.reduceToNat] at ho8; rw [← Ny256.out] at ho8)); have n0_ := Aside0.mk (Kd.R_lower ho8 (keep_size (w := w) (g := g) (row := none) Z8_9)); have n1_ := Aside0.mk (IsS116.below Z8_10 hb); have n2_ := Aside0.mk (KeepBut.trans Z8_9 (KeepBut.of_below hb g none) (.inl rfl)); have n3_ := Aside0.mk (below_step Z8_11 hb); clear HI0; clear HK; clear HB; have HO258 := n0_; have HI0 := n1_; have HK := n2_; have HB := n3_; clear n0_ n1_ n2_ n3_; clear hb ho8) | ((with_reducible refine gate_dst (N := 28) rfl ?_); refine Kd.R_lit (Kd.int .i64) _ 2 ?hg (N := 28) ?hd (xs := ([] : List Int)) (inner := []) (ok := fun _ => True) (okp := fun _ => True) ?hr ?hp (fun _ hk => hk) trivial (Below.refl _ _) (Nat.le_refl _) (by simp) ?_; (case hd => rfl); (case hg => rfl); (case hr => exact Z8_35); (case hp => exact (Reps.none _ _)); intro v260 w9 ho10 hb hg_ hnew_; clear hg_ hnew_; (first | rw [← Ny259.out] at ho10 | (simp only [Int.reduceToNat] at ho10; rw [← Ny259.out] at ho10)); have n0_ := Aside0.mk (Kd.R_below (by (with_reducible repeat (first | apply Kd.R_alloc | apply Kd.R_drewN | apply Kd.R_drew)); exact HO258.out) hb); have n1_ := Aside0.mk (Kd.R_lower ho10 (keep_size (w := w) (g := g) (row := none) Z8_9)); have n2_ := Aside0.mk (IsS116.below Z8_10 hb); have n3_ := Aside0.mk (KeepBut.trans Z8_9 (KeepBut.of_below hb g none) (.inl rfl)); have n4_ := Aside0.mk (below_step Z8_11 hb); clear HO258; clear HI0; clear HK; clear HB; have HO258 := n0_; have HO261 := n1_; have HI0 := n2_; have HK := n3_; have HB := n4_; clear n0_ n1_ n2_ n3_ n4_; clear hb ho10))
   go_loopg [6, 7] k (fun kq v6 v7 w' => ∃ (x5_1 : List Int) (x6_1 : List Int) (x7_1 : Int) (x1001_1 : Int) (x1002_1 : Int), v7 = .int .i64 x7_1 ∧ Aside0 (spec_l6DrawTables.l0 kq (wrap64 (4 + t253)) x5_1 x6_1 x7_1 s0_0 x1001_1 x1002_1 = some (r1, r2, r3, r4)) ∧ Aside0 (kq ≤ k) ∧ Aside0 (Kd.R (Kd.int .u8) 5 w' w.heap.size (fun _ => True) v257 x5_1) ∧ Aside0 (Kd.R (Kd.int .i64) 2 w' w.heap.size (fun _ => True) v6 x6_1) ∧ Aside0 (IsS116 w0 w' g s0_0 x1001_1 x1002_1) ∧ Aside0 (KeepBut w w' g none) ∧ Aside0 (Below w0.heap.size w0 w'))
   case atStart => exact ⟨(y256), (y259), (0), (t254), (t255), Z8_12, H', ⟨Nat.le_refl _⟩, ⟨by (with_reducible repeat (first | apply Kd.R_alloc | apply Kd.R_drewN | apply Kd.R_drew)); exact HO258.out⟩, ⟨by (with_reducible repeat (first | apply Kd.R_alloc | apply Kd.R_drewN | apply Kd.R_drew)); exact HO261.out⟩, ⟨Z8_10⟩, ⟨Z8_9⟩, ⟨Z8_11⟩⟩
   clear H'
   try clear p2
   try clear c4
   try clear c4b0
   try clear c4b1
   try clear c5
   try clear c5b0
   try clear c5b1
   try clear c6
   try clear p6
   obtain ⟨x5_1, x6_1, x7_1, x1001_1, x1002_1, rfl, HA, HK1, HO_5, HO_6, HI0, HK, HB⟩ := hrel
   cases gk with
   | zero => exact absurd HA.out (by simp [spec_l6DrawTables.l0])
   | succ k1 =>
    have H := HA.out
    clear HA
    simp only [spec_l6DrawTables.l0] at H
    replace H := Option.bind_eq_some_iff.mp H
    obtain ⟨⟨t262, t263, t264⟩, A110, H⟩ := H
    replace H : (if x7_1 < (wrap64 (2 + t262)) then ((spec_l1Below.f s0_0 t263 t264 8388608).bind fun bt265 => ((spec_l1Once.f s0_0 bt265.2.1 bt265.2.2 2).bind fun bt268 => (if bt268.1 = true then ((spec_l1Below.f s0_0 bt268.2.1 bt268.2.2 3).bind fun bt271 => ((spec_l1Below.f s0_0 bt271.2.1 bt271.2.2 3).bind fun bt274 => ((spec_l1Below.f s0_0 bt274.2.1 bt274.2.2 1024).bind fun bt277 => (spec_l6DrawTables.j1 k1 (wrap64 (4 + t253)) x5_1 x6_1 x7_1 (wrap64 ((wrap64 ((wrap64 ((wrap64 (bt271.1 * 256)) * 1024)) + (wrap64 ((wrap64 (bt274.1 * 256)) * 32)))) + bt277.1)) s0_0 bt277.2.1 bt277.2.2)))) else (spec_l6DrawTables.j1 k1 (wrap64 (4 + t253)) x5_1 x6_1 x7_1 bt265.1 s0_0 bt268.2.1 bt268.2.2)))) else (some (x5_1, x6_1, t263, t264))) = some (r1, r2, r3, r4) := H
    have A11 := Aside0.mk A110
    clear A110
    by_cases c12 : x7_1 < (wrap64 (2 + t262))
    ·rw [if_pos c12] at H
     have c12b0 : decide (x7_1 < (wrap64 (2 + t262))) = true := decide_eq_true c12
     clear c12
     replace H := Option.bind_eq_some_iff.mp H
     obtain ⟨⟨t265, t266, t267⟩, A130, H⟩ := H
     replace H : ((spec_l1Once.f s0_0 t266 t267 2).bind fun bt268 => (if bt268.1 = true then ((spec_l1Below.f s0_0 bt268.2.1 bt268.2.2 3).bind fun bt271 => ((spec_l1Below.f s0_0 bt271.2.1 bt271.2.2 3).bind fun bt274 => ((spec_l1Below.f s0_0 bt274.2.1 bt274.2.2 1024).bind fun bt277 => (spec_l6DrawTables.j1 k1 (wrap64 (4 + t253)) x5_1 x6_1 x7_1 (wrap64 ((wrap64 ((wrap64 ((wrap64 (bt271.1 * 256)) * 1024)) + (wrap64 ((wrap64 (bt274.1 * 256)) * 32)))) + bt277.1)) s0_0 bt277.2.1 bt277.2.2)))) else (spec_l6DrawTables.j1 k1 (wrap64 (4 + t253)) x5_1 x6_1 x7_1 t265 s0_0 bt268.2.1 bt268.2.2))) = some (r1, r2, r3, r4) := H
     have A13 := Aside0.mk A130
     clear A130
     replace H := Option.bind_eq_some_iff.mp H
     obtain ⟨⟨t268, t269, t270⟩, A140, H⟩ := H
     replace H : (if t268 = true then ((spec_l1Below.f s0_0 t269 t270 3).bind fun bt271 => ((spec_l1Below.f s0_0 bt271.2.1 bt271.2.2 3).bind fun bt274 => ((spec_l1Below.f s0_0 bt274.2.1 bt274.2.2 1024).bind fun bt277 => (spec_l6DrawTables.j1 k1 (wrap64 (4 + t253)) x5_1 x6_1 x7_1 (wrap64 ((wrap64 ((wrap64 ((wrap64 (bt271.1 * 256)) * 1024)) + (wrap64 ((wrap64 (bt274.1 * 256)) * 32)))) + bt277.1)) s0_0 bt277.2.1 bt277.2.2)))) else (spec_l6DrawTables.j1 k1 (wrap64 (4 + t253)) x5_1 x6_1 x7_1 t265 s0_0 t269 t270)) = some (r1, r2, r3, r4) := H
     have A14 := Aside0.mk A140
     clear A140
     have HC15 := Aside0.mk H
     clear H
     go_upto_if 39 with (first | ((with_reducible refine gate_callee (f := 61) rfl ?_); refine goesL_ (some 31) rfl rfl Try.func61 Z8_30 rfl #[.pointer (some ⟨g, 0, none⟩), .int .i64 8] rfl Z8_7 ?_; (with_reducible refine (spec_l1Below.calls g s0_0 x1001_1 x1002_1 8 t262 t263 t264 w0 _ ?side1 ?side2 A11.out).mono ?_); (case side1 => exact Z8_10); (case side2 => exact Z8_11); rintro e w16 ⟨rfl, hi, hb, hk⟩; refine ⟨_, rfl, ?_⟩; have n0_ := Aside0.mk (Kd.R_mono (Kd.R_keep (IsS116.apart (show IsS116 w0 _ g s0_0 x1001_1 x1002_1 from by repeat (first | (with_reducible first | exact HI0.out | apply IsS116.alloc | apply IsS116.drewN | apply IsS116.drew | apply IsS116.set_1 | apply IsS116.set_2) | exact HI0.out)) Z8_4 Z8_32) hk (fun _ h => h.2)) (fun _ h => h.1)); have n1_ := Aside0.mk (Kd.R_mono (Kd.R_keep (IsS116.apart (show IsS116 w0 _ g s0_0 x1001_1 x1002_1 from by repeat (first | (with_reducible first | exact HI0.out | apply IsS116.alloc | apply IsS116.drewN | apply IsS116.drew | apply IsS116.set_1 | apply IsS116.set_2) | exact HI0.out)) Z8_5 Z8_32) hk (fun _ h => h.2)) (fun _ h => h.1)); have n2_ := Aside0.mk (KeepBut.trans Z8_9 hk (.inl rfl)); have n3_ := Aside0.mk (hb); have n4_ := Aside0.mk (hi); clear HO_5; clear HO_6; clear HK; clear HB; clear HI0; have HO_5 := n0_; have HO_6 := n1_; have HK := n2_; have HB := n3_; have HI0 := n4_; clear n0_ n1_ n2_ n3_ n4_; (try clear hb); (try clear hb2); (try clear hk); (try clear hi)) | ((with_reducible refine gate_callee (f := 61) rfl ?_); refine goesL_ (some 37) rfl rfl Try.func61 Z8_30 rfl #[.pointer (some ⟨g, 0, none⟩), .int .i64 8388608] rfl Z8_7 ?_; (with_reducible refine (spec_l1Below.calls g s0_0 t263 t264 8388608 t265 t266 t267 w0 _ ?side1 ?side2 A13.out).mono ?_); (case side1 => exact Z8_10); (case side2 => exact Z8_11); rintro e w17 ⟨rfl, hi, hb, hk⟩; refine ⟨_, rfl, ?_⟩; have n0_ := Aside0.mk (Kd.R_mono (Kd.R_keep (IsS116.apart (show IsS116 w0 _ g s0_0 t263 t264 from by repeat (first | (with_reducible first | exact HI0.out | apply IsS116.alloc | apply IsS116.drewN | apply IsS116.drew | apply IsS116.set_1 | apply IsS116.set_2) | exact HI0.out)) Z8_4 Z8_32) hk (fun _ h => h.2)) (fun _ h => h.1)); have n1_ := Aside0.mk (Kd.R_mono (Kd.R_keep (IsS116.apart (show IsS116 w0 _ g s0_0 t263 t264 from by repeat (first | (with_reducible first | exact HI0.out | apply IsS116.alloc | apply IsS116.drewN | apply IsS116.drew | apply IsS116.set_1 | apply IsS116.set_2) | exact HI0.out)) Z8_5 Z8_32) hk (fun _ h => h.2)) (fun _ h => h.1)); have n2_ := Aside0.mk (KeepBut.trans Z8_9 hk (.inl rfl)); have n3_ := Aside0.mk (hb); have n4_ := Aside0.mk (hi); clear HO_5; clear HO_6; clear HK; clear HB; clear HI0; have HO_5 := n0_; have HO_6 := n1_; have HK := n2_; have HB := n3_; have HI0 := n4_; clear n0_ n1_ n2_ n3_ n4_; (try clear hb); (try clear hb2); (try clear hk); (try clear hi)) | ((with_reducible refine gate_callee (f := 60) rfl ?_); refine goesL_ (some 39) rfl rfl Try.func60 Z8_30 rfl #[.pointer (some ⟨g, 0, none⟩), .int .i64 2] rfl Z8_7 ?_; (with_reducible refine (spec_l1Once.calls g s0_0 t266 t267 2 t268 t269 t270 w0 _ ?side1 ?side2 A14.out).mono ?_); (case side1 => exact Z8_10); (case side2 => exact Z8_11); rintro e w18 ⟨rfl, hi, hb, hk⟩; refine ⟨_, rfl, ?_⟩; have n0_ := Aside0.mk (Kd.R_mono (Kd.R_keep (IsS116.apart (show IsS116 w0 _ g s0_0 t266 t267 from by repeat (first | (with_reducible first | exact HI0.out | apply IsS116.alloc | apply IsS116.drewN | apply IsS116.drew | apply IsS116.set_1 | apply IsS116.set_2) | exact HI0.out)) Z8_4 Z8_32) hk (fun _ h => h.2)) (fun _ h => h.1)); have n1_ := Aside0.mk (Kd.R_mono (Kd.R_keep (IsS116.apart (show IsS116 w0 _ g s0_0 t266 t267 from by repeat (first | (with_reducible first | exact HI0.out | apply IsS116.alloc | apply IsS116.drewN | apply IsS116.drew | apply IsS116.set_1 | apply IsS116.set_2) | exact HI0.out)) Z8_5 Z8_32) hk (fun _ h => h.2)) (fun _ h => h.1)); have n2_ := Aside0.mk (KeepBut.trans Z8_9 hk (.inl rfl)); have n3_ := Aside0.mk (hb); have n4_ := Aside0.mk (hi); clear HO_5; clear HO_6; clear HK; clear HB; clear HI0; have HO_5 := n0_; have HO_6 := n1_; have HK := n2_; have HB := n3_; have HI0 := n4_; clear n0_ n1_ n2_ n3_ n4_; (try clear hb); (try clear hb2); (try clear hk); (try clear hi)))
     (try simp only [Act.put, List.setIfInBounds_toArray, List.set_cons_zero, List.set_cons_succ])
     go_cut [8] (fun v8 wc => ∃ (kq : Nat) (x8_14 : Int) (x1001_14 : Int) (x1002_14 : Int), v8 = .int .i64 x8_14 ∧ Aside0 (spec_l6DrawTables.j1 kq (wrap64 (4 + t253)) x5_1 x6_1 x7_1 x8_14 s0_0 x1001_14 x1002_14 = some (r1, r2, r3, r4)) ∧ Aside0 (kq ≤ k1) ∧ Aside0 (Kd.R (Kd.int .u8) 5 wc w.heap.size (fun _ => True) v257 x5_1) ∧ Aside0 (Kd.R (Kd.int .i64) 2 wc w.heap.size (fun _ => True) u6 x6_1) ∧ Aside0 (IsS116 w0 wc g s0_0 x1001_14 x1002_14) ∧ Aside0 (KeepBut w wc g none) ∧ Aside0 (Below w0.heap.size w0 wc))
     case first =>
      refine ?L1
      letI iL1 : Nonempty (type_of% ?L1) := ⟨(by
      have H := HC15.out
      clear HC15
      by_cases c19 : t268 = true
      ·subst c19
       have H1 : ((spec_l1Below.f s0_0 t269 t270 3).bind fun bt271 => ((spec_l1Below.f s0_0 bt271.2.1 bt271.2.2 3).bind fun bt274 => ((spec_l1Below.f s0_0 bt274.2.1 bt274.2.2 1024).bind fun bt277 => (spec_l6DrawTables.j1 k1 (wrap64 (4 + t253)) x5_1 x6_1 x7_1 (wrap64 ((wrap64 ((wrap64 ((wrap64 (bt271.1 * 256)) * 1024)) + (wrap64 ((wrap64 (bt274.1 * 256)) * 32)))) + bt277.1)) s0_0 bt277.2.1 bt277.2.2)))) = some (r1, r2, r3, r4) := by rw [if_pos rfl] at H; exact H
       clear H
       have H := H1
       clear H1
       replace H := Option.bind_eq_some_iff.mp H
       obtain ⟨⟨t271, t272, t273⟩, A200, H⟩ := H
       replace H : ((spec_l1Below.f s0_0 t272 t273 3).bind fun bt274 => ((spec_l1Below.f s0_0 bt274.2.1 bt274.2.2 1024).bind fun bt277 => (spec_l6DrawTables.j1 k1 (wrap64 (4 + t253)) x5_1 x6_1 x7_1 (wrap64 ((wrap64 ((wrap64 ((wrap64 (t271 * 256)) * 1024)) + (wrap64 ((wrap64 (bt274.1 * 256)) * 32)))) + bt277.1)) s0_0 bt277.2.1 bt277.2.2))) = some (r1, r2, r3, r4) := H
       have A20 := Aside0.mk A200
       clear A200
       replace H := Option.bind_eq_some_iff.mp H
       obtain ⟨⟨t274, t275, t276⟩, A210, H⟩ := H
       replace H : ((spec_l1Below.f s0_0 t275 t276 1024).bind fun bt277 => (spec_l6DrawTables.j1 k1 (wrap64 (4 + t253)) x5_1 x6_1 x7_1 (wrap64 ((wrap64 ((wrap64 ((wrap64 (t271 * 256)) * 1024)) + (wrap64 ((wrap64 (t274 * 256)) * 32)))) + bt277.1)) s0_0 bt277.2.1 bt277.2.2)) = some (r1, r2, r3, r4) := H
       have A21 := Aside0.mk A210
       clear A210
       replace H := Option.bind_eq_some_iff.mp H
       obtain ⟨⟨t277, t278, t279⟩, A220, H⟩ := H
       replace H : (spec_l6DrawTables.j1 k1 (wrap64 (4 + t253)) x5_1 x6_1 x7_1 (wrap64 ((wrap64 ((wrap64 ((wrap64 (t271 * 256)) * 1024)) + (wrap64 ((wrap64 (t274 * 256)) * 32)))) + t277)) s0_0 t278 t279) = some (r1, r2, r3, r4) := H
       have A22 := Aside0.mk A220
       clear A220
       have H' := Aside0.mk H
       clear H
       go_wp2_with (first | ((with_reducible refine gate_callee (f := 61) rfl ?_); refine goesL_ (some 41) rfl rfl Try.func61 Z8_30 rfl #[.pointer (some ⟨g, 0, none⟩), .int .i64 3] rfl Z8_7 ?_; (with_reducible refine (spec_l1Below.calls g s0_0 t269 t270 3 t271 t272 t273 w0 _ ?side1 ?side2 A20.out).mono ?_); (case side1 => exact Z8_10); (case side2 => exact Z8_11); rintro e w23 ⟨rfl, hi, hb, hk⟩; refine ⟨_, rfl, ?_⟩; have n0_ := Aside0.mk (Kd.R_mono (Kd.R_keep (IsS116.apart (show IsS116 w0 _ g s0_0 t269 t270 from by repeat (first | (with_reducible first | exact HI0.out | apply IsS116.alloc | apply IsS116.drewN | apply IsS116.drew | apply IsS116.set_1 | apply IsS116.set_2) | exact HI0.out)) Z8_4 Z8_32) hk (fun _ h => h.2)) (fun _ h => h.1)); have n1_ := Aside0.mk (Kd.R_mono (Kd.R_keep (IsS116.apart (show IsS116 w0 _ g s0_0 t269 t270 from by repeat (first | (with_reducible first | exact HI0.out | apply IsS116.alloc | apply IsS116.drewN | apply IsS116.drew | apply IsS116.set_1 | apply IsS116.set_2) | exact HI0.out)) Z8_5 Z8_32) hk (fun _ h => h.2)) (fun _ h => h.1)); have n2_ := Aside0.mk (KeepBut.trans Z8_9 hk (.inl rfl)); have n3_ := Aside0.mk (hb); have n4_ := Aside0.mk (hi); clear HO_5; clear HO_6; clear HK; clear HB; clear HI0; have HO_5 := n0_; have HO_6 := n1_; have HK := n2_; have HB := n3_; have HI0 := n4_; clear n0_ n1_ n2_ n3_ n4_; (try clear hb); (try clear hb2); (try clear hk); (try clear hi)) | ((with_reducible refine gate_callee (f := 61) rfl ?_); refine goesL_ (some 45) rfl rfl Try.func61 Z8_30 rfl #[.pointer (some ⟨g, 0, none⟩), .int .i64 3] rfl Z8_7 ?_; (with_reducible refine (spec_l1Below.calls g s0_0 t272 t273 3 t274 t275 t276 w0 _ ?side1 ?side2 A21.out).mono ?_); (case side1 => exact Z8_10); (case side2 => exact Z8_11); rintro e w24 ⟨rfl, hi, hb, hk⟩; refine ⟨_, rfl, ?_⟩; have n0_ := Aside0.mk (Kd.R_mono (Kd.R_keep (IsS116.apart (show IsS116 w0 _ g s0_0 t272 t273 from by repeat (first | (with_reducible first | exact HI0.out | apply IsS116.alloc | apply IsS116.drewN | apply IsS116.drew | apply IsS116.set_1 | apply IsS116.set_2) | exact HI0.out)) Z8_4 Z8_32) hk (fun _ h => h.2)) (fun _ h => h.1)); have n1_ := Aside0.mk (Kd.R_mono (Kd.R_keep (IsS116.apart (show IsS116 w0 _ g s0_0 t272 t273 from by repeat (first | (with_reducible first | exact HI0.out | apply IsS116.alloc | apply IsS116.drewN | apply IsS116.drew | apply IsS116.set_1 | apply IsS116.set_2) | exact HI0.out)) Z8_5 Z8_32) hk (fun _ h => h.2)) (fun _ h => h.1)); have n2_ := Aside0.mk (KeepBut.trans Z8_9 hk (.inl rfl)); have n3_ := Aside0.mk (hb); have n4_ := Aside0.mk (hi); clear HO_5; clear HO_6; clear HK; clear HB; clear HI0; have HO_5 := n0_; have HO_6 := n1_; have HK := n2_; have HB := n3_; have HI0 := n4_; clear n0_ n1_ n2_ n3_ n4_; (try clear hb); (try clear hb2); (try clear hk); (try clear hi)) | ((with_reducible refine gate_callee (f := 61) rfl ?_); refine goesL_ (some 50) rfl rfl Try.func61 Z8_30 rfl #[.pointer (some ⟨g, 0, none⟩), .int .i64 1024] rfl Z8_7 ?_; (with_reducible refine (spec_l1Below.calls g s0_0 t275 t276 1024 t277 t278 t279 w0 _ ?side1 ?side2 A22.out).mono ?_); (case side1 => exact Z8_10); (case side2 => exact Z8_11); rintro e w25 ⟨rfl, hi, hb, hk⟩; refine ⟨_, rfl, ?_⟩; have n0_ := Aside0.mk (Kd.R_mono (Kd.R_keep (IsS116.apart (show IsS116 w0 _ g s0_0 t275 t276 from by repeat (first | (with_reducible first | exact HI0.out | apply IsS116.alloc | apply IsS116.drewN | apply IsS116.drew | apply IsS116.set_1 | apply IsS116.set_2) | exact HI0.out)) Z8_4 Z8_32) hk (fun _ h => h.2)) (fun _ h => h.1)); have n1_ := Aside0.mk (Kd.R_mono (Kd.R_keep (IsS116.apart (show IsS116 w0 _ g s0_0 t275 t276 from by repeat (first | (with_reducible first | exact HI0.out | apply IsS116.alloc | apply IsS116.drewN | apply IsS116.drew | apply IsS116.set_1 | apply IsS116.set_2) | exact HI0.out)) Z8_5 Z8_32) hk (fun _ h => h.2)) (fun _ h => h.1)); have n2_ := Aside0.mk (KeepBut.trans Z8_9 hk (.inl rfl)); have n3_ := Aside0.mk (hb); have n4_ := Aside0.mk (hi); clear HO_5; clear HO_6; clear HK; clear HB; clear HI0; have HO_5 := n0_; have HO_6 := n1_; have HK := n2_; have HB := n3_; have HI0 := n4_; clear n0_ n1_ n2_ n3_ n4_; (try clear hb); (try clear hb2); (try clear hk); (try clear hi)))
       go_meet
       case rel => exact ⟨_, (wrap64 ((wrap64 ((wrap64 ((wrap64 (t271 * 256)) * 1024)) + (wrap64 ((wrap64 (t274 * 256)) * 32)))) + t277)), (t278), (t279), Z8_12, H', ⟨by have := HK1.out; first | omega | exact Nat.le_refl _⟩, ⟨Z8_4⟩, ⟨Z8_5⟩, ⟨Z8_10⟩, ⟨Z8_9⟩, ⟨Z8_11⟩⟩
      replace c19 := Bool.eq_false_iff.mpr c19
      subst c19
      have H1 : (spec_l6DrawTables.j1 k1 (wrap64 (4 + t253)) x5_1 x6_1 x7_1 t265 s0_0 t269 t270) = some (r1, r2, r3, r4) := by rw [if_neg (show ¬ (false = true) by decide)] at H; exact H
      clear H
      have H := H1
      clear H1
      have H' := Aside0.mk H
      clear H
      go_wp2
      go_meet
      case rel => exact ⟨_, (t265), (t269), (t270), Z8_12, H', ⟨by have := HK1.out; first | omega | exact Nat.le_refl _⟩, ⟨Z8_4⟩, ⟨Z8_5⟩, ⟨Z8_10⟩, ⟨Z8_9⟩, ⟨Z8_11⟩⟩)⟩
      exact Nonempty.elim (inferInstanceAs (Nonempty (type_of% ?L1))) id
     clear HC15
     try clear c1
     try clear p2
     try clear c4
     try clear c4b0
     try clear c4b1
     try clear c5
     try clear c5b0
     try clear c5b1
     try clear c6
     try clear p6
     try clear c12
     try clear c12b0
     try clear c19
     try clear p2
     try clear p6
     obtain ⟨kq, x8_14, x1001_14, x1002_14, rfl, HA, HJ14, HO_5, HO_6, HI0, HK, HB⟩ := hcut
     cases kq with
     | zero => exact absurd HA.out (by simp [spec_l6DrawTables.j1])
     | succ kj14 =>
      have H := HA.out
      clear HA
      simp only [spec_l6DrawTables.j1] at H
      have H' := Aside0.mk H
      clear H
      go_wp2
      go_loopg [9, 10] kj14 (fun kq v9 v10 w' => ∃ (x5_3 : List Int) (x9_3 : Int) (x10_3 : Int) (x1001_3 : Int) (x1002_3 : Int), v9 = .int .i64 x9_3 ∧ v10 = .int .i64 x10_3 ∧ Aside0 (spec_l6DrawTables.l1 kq (wrap64 (4 + t253)) x5_3 x6_1 x7_1 x8_14 x9_3 x10_3 s0_0 x1001_3 x1002_3 = some (r1, r2, r3, r4)) ∧ Aside0 (kq ≤ kj14) ∧ Aside0 (Kd.R (Kd.int .u8) 5 w' w.heap.size (fun _ => True) v257 x5_3) ∧ Aside0 (Kd.R (Kd.int .i64) 2 w' w.heap.size (fun _ => True) u6 x6_1) ∧ Aside0 (IsS116 w0 w' g s0_0 x1001_3 x1002_3) ∧ Aside0 (KeepBut w w' g none) ∧ Aside0 (Below w0.heap.size w0 w'))
      case atStart => exact ⟨(x5_1), (0), (2), (x1001_14), (x1002_14), Z8_12, Z8_12, H', ⟨Nat.le_refl _⟩, ⟨Z8_4⟩, ⟨Z8_5⟩, ⟨Z8_10⟩, ⟨Z8_9⟩, ⟨Z8_11⟩⟩
      clear H'
      try clear c1
      try clear p2
      try clear c4
      try clear c4b0
      try clear c4b1
      try clear c5
      try clear c5b0
      try clear c5b1
      try clear c6
      try clear p6
      try clear c12
      try clear c12b0
      try clear c19
      try clear p2
      try clear p6
      obtain ⟨x5_3, x9_3, x10_3, x1001_3, x1002_3, rfl, rfl, HA, HK3, HO_5, HO_6, HI0, HK, HB⟩ := hrel
      cases gk with
      | zero => exact absurd HA.out (by simp [spec_l6DrawTables.l1])
      | succ k3 =>
       have H := HA.out
       clear HA
       simp only [spec_l6DrawTables.l1] at H
       by_cases c26 : x10_3 ≥ 0
       ·rw [if_pos c26] at H
        have c26b0 : decide (0 ≤ x10_3) = true := decide_eq_true c26
        clear c26
        replace H := Option.bind_eq_some_iff.mp H
        obtain ⟨t283, A270, H⟩ := H
        replace H : (if (wrap64 (256 * t283)) = 0 then (none) else (if x10_3 = 0 then (spec_l6DrawTables.j3 k3 (wrap64 (4 + t253)) x5_3 x6_1 x7_1 x8_14 x10_3 (wrap64 ((wrap64 (x9_3 * 256)) + (wrap64 (8 * (Int.tmod (wrap64 (Int.tdiv x8_14 (wrap64 (256 * t283)))) 32))))) true s0_0 x1001_3 x1002_3) else ((spec_l1Once.f s0_0 x1001_3 x1002_3 6).bind fun bt284 => (spec_l6DrawTables.j3 k3 (wrap64 (4 + t253)) x5_3 x6_1 x7_1 x8_14 x10_3 (wrap64 ((wrap64 (x9_3 * 256)) + (wrap64 (8 * (Int.tmod (wrap64 (Int.tdiv x8_14 (wrap64 (256 * t283)))) 32))))) bt284.1 s0_0 bt284.2.1 bt284.2.2)))) = some (r1, r2, r3, r4) := H
        have A27 := Aside0.mk A270
        clear A270
        by_cases c28 : (wrap64 (256 * t283)) = 0
        ·rw [if_pos c28] at H
         exact absurd H (by simp)
        rw [if_neg c28] at H
        have c28b0 : ((wrap64 (256 * t283)) == 0) = false := beq_eq_false_iff_ne.mpr c28
        have c28b1 : ((wrap64 (256 * t283)) != 0) = true := bne_iff_ne.mpr c28
        have HC29 := Aside0.mk H
        clear H
        go_upto_region 15 with (first | ((with_reducible refine gate_callee (f := 87) rfl ?_); refine goesL_ (some 55) rfl rfl Try.func87 Z8_30 rfl #[.int .i64 x10_3] rfl Z8_7 ?_; (with_reducible refine (spec_l6Pages.calls k3 x10_3 t283 _ A27.out).mono ?_); rintro e w' ⟨rfl, ⟨nd, rfl⟩⟩; refine ⟨_, rfl, ?_⟩))
        (try simp only [Act.put, List.setIfInBounds_toArray, List.set_cons_zero, List.set_cons_succ])
        go_cut [13] (fun v13 wc => ∃ (kq : Nat) (x13_28 : Bool) (x1001_28 : Int) (x1002_28 : Int), v13 = .bool x13_28 ∧ Aside0 (spec_l6DrawTables.j3 kq (wrap64 (4 + t253)) x5_3 x6_1 x7_1 x8_14 x10_3 (wrap64 ((wrap64 (x9_3 * 256)) + (wrap64 (8 * (Int.tmod (wrap64 (Int.tdiv x8_14 (wrap64 (256 * t283)))) 32))))) x13_28 s0_0 x1001_28 x1002_28 = some (r1, r2, r3, r4)) ∧ Aside0 (kq ≤ k3) ∧ Aside0 (Kd.R (Kd.int .u8) 5 wc w.heap.size (fun _ => True) v257 x5_3) ∧ Aside0 (Kd.R (Kd.int .i64) 2 wc w.heap.size (fun _ => True) u6 x6_1) ∧ Aside0 (IsS116 w0 wc g s0_0 x1001_28 x1002_28) ∧ Aside0 (KeepBut w wc g none) ∧ Aside0 (Below w0.heap.size w0 wc))
        case first =>
         refine ?L2
         letI iL2 : Nonempty (type_of% ?L2) := ⟨(by
         have H := HC29.out
         clear HC29
         by_cases c30 : x10_3 = 0
         ·rw [if_pos c30] at H
          have c30b0 : (x10_3 == 0) = true := beq_iff_eq.mpr c30
          have c30b1 : (x10_3 != 0) = false := bne_eq_false_iff_eq.mpr c30
          clear c30
          (first | rw [c30b0] | (simp only [i64_w, i32_w]; rw [c30b0]) | skip)
          have H' := Aside0.mk H
          clear H
          go_wp2
          go_meet
          case rel => exact ⟨_, (true), (x1001_3), (x1002_3), Z8_12, H', ⟨by have := HK1.out; have := HJ14.out; have := HK3.out; first | omega | exact Nat.le_refl _⟩, ⟨Z8_4⟩, ⟨Z8_5⟩, ⟨Z8_10⟩, ⟨Z8_9⟩, ⟨Z8_11⟩⟩
         rw [if_neg c30] at H
         have c30b0 : (x10_3 == 0) = false := beq_eq_false_iff_ne.mpr c30
         have c30b1 : (x10_3 != 0) = true := bne_iff_ne.mpr c30
         (first | rw [c30b0] | (simp only [i64_w, i32_w]; rw [c30b0]) | skip)
         replace H := Option.bind_eq_some_iff.mp H
         obtain ⟨⟨t284, t285, t286⟩, A310, H⟩ := H
         replace H : (spec_l6DrawTables.j3 k3 (wrap64 (4 + t253)) x5_3 x6_1 x7_1 x8_14 x10_3 (wrap64 ((wrap64 (x9_3 * 256)) + (wrap64 (8 * (Int.tmod (wrap64 (Int.tdiv x8_14 (wrap64 (256 * t283)))) 32))))) t284 s0_0 t285 t286) = some (r1, r2, r3, r4) := H
         have A31 := Aside0.mk A310
         clear A310
         have H' := Aside0.mk H
         clear H
         go_wp2_with (first | (go_at_call 60; (with_reducible refine (spec_l1Once.calls g s0_0 x1001_3 x1002_3 6 t284 t285 t286 w0 _ ?side1 ?side2 A31.out).mono ?_); (case side1 => exact Z8_10); (case side2 => exact Z8_11); rintro e w32 ⟨rfl, hi, hb, hk⟩; have n0_ := Aside0.mk (Kd.R_mono (Kd.R_keep (IsS116.apart (show IsS116 w0 _ g s0_0 x1001_3 x1002_3 from by repeat (first | (with_reducible first | exact HI0.out | apply IsS116.alloc | apply IsS116.drewN | apply IsS116.drew | apply IsS116.set_1 | apply IsS116.set_2) | exact HI0.out)) Z8_4 Z8_32) hk (fun _ h => h.2)) (fun _ h => h.1)); have n1_ := Aside0.mk (Kd.R_mono (Kd.R_keep (IsS116.apart (show IsS116 w0 _ g s0_0 x1001_3 x1002_3 from by repeat (first | (with_reducible first | exact HI0.out | apply IsS116.alloc | apply IsS116.drewN | apply IsS116.drew | apply IsS116.set_1 | apply IsS116.set_2) | exact HI0.out)) Z8_5 Z8_32) hk (fun _ h => h.2)) (fun _ h => h.1)); have n2_ := Aside0.mk (KeepBut.trans Z8_9 hk (.inl rfl)); have n3_ := Aside0.mk (hb); have n4_ := Aside0.mk (hi); clear HO_5; clear HO_6; clear HK; clear HB; clear HI0; have HO_5 := n0_; have HO_6 := n1_; have HK := n2_; have HB := n3_; have HI0 := n4_; clear n0_ n1_ n2_ n3_ n4_; (try clear hb); (try clear hb2); (try clear hk); (try clear hi)))
         go_meet
         case rel => exact ⟨_, (t284), (t285), (t286), Z8_12, H', ⟨by have := HK1.out; have := HJ14.out; have := HK3.out; first | omega | exact Nat.le_refl _⟩, ⟨Z8_4⟩, ⟨Z8_5⟩, ⟨Z8_10⟩, ⟨Z8_9⟩, ⟨Z8_11⟩⟩)⟩
         exact Nonempty.elim (inferInstanceAs (Nonempty (type_of% ?L2))) id
        clear HC29
        try clear c1
        try clear c2
        try clear p2
        try clear c3
        try clear c4
        try clear c4b0
        try clear c4b1
        try clear c5
        try clear c5b0
        try clear c5b1
        try clear c6
        try clear p6
        try clear c8
        try clear c12
        try clear c12b0
        try clear c19
        try clear c26
        try clear c26b0
        try clear c28
        try clear c28b0
        try clear c28b1
        try clear c30
        try clear c30b0
        try clear c30b1
        try clear p2
        try clear p6
        obtain ⟨kq, x13_28, x1001_28, x1002_28, rfl, HA, HJ28, HO_5, HO_6, HI0, HK, HB⟩ := hcut
        cases kq with
        | zero => exact absurd HA.out (by simp [spec_l6DrawTables.j3])
        | succ kj28 =>
         have H := HA.out
         clear HA
         simp only [spec_l6DrawTables.j3] at H
         replace H := Option.bind_eq_some_iff.mp H
         obtain ⟨⟨t287, t288, t289, t290, t291, t292, t293, t294, t295, t296, t297⟩, A330, H⟩ := H
         replace H : (if x13_28 = true then (if t288 = true then (spec_l6DrawTables.j4 kj28 (wrap64 (4 + t253)) x5_3 x6_1 x7_1 x8_14 x10_3 (wrap64 ((wrap64 (x9_3 * 256)) + (wrap64 (8 * (Int.tmod (wrap64 (Int.tdiv x8_14 (wrap64 (256 * t283)))) 32))))) x13_28 false s0_0 t296 t297 t287 t288 t289 t290 t291 t292 t293 t294 t295) else (spec_l6DrawTables.j4 kj28 (wrap64 (4 + t253)) x5_3 x6_1 x7_1 x8_14 x10_3 (wrap64 ((wrap64 (x9_3 * 256)) + (wrap64 (8 * (Int.tmod (wrap64 (Int.tdiv x8_14 (wrap64 (256 * t283)))) 32))))) x13_28 (!t290) s0_0 t296 t297 t287 t288 t289 t290 t291 t292 t293 t294 t295)) else (spec_l6DrawTables.j4 kj28 (wrap64 (4 + t253)) x5_3 x6_1 x7_1 x8_14 x10_3 (wrap64 ((wrap64 (x9_3 * 256)) + (wrap64 (8 * (Int.tmod (wrap64 (Int.tdiv x8_14 (wrap64 (256 * t283)))) 32))))) x13_28 false s0_0 t296 t297 t287 t288 t289 t290 t291 t292 t293 t294 t295)) = some (r1, r2, r3, r4) := H
         have A33 := Aside0.mk A330
         clear A330
         have HC34 := Aside0.mk H
         clear H
         go_upto_region 17 with (first | ((with_reducible refine gate_callee (f := 94) rfl ?_); refine goesL_ (some 72) rfl rfl Try.func94 Z8_30 rfl #[.pointer (some ⟨g, 0, none⟩)] rfl Z8_7 ?_; (with_reducible refine (spec_l6DrawEntry.calls g s0_0 x1001_28 x1002_28 t287 t288 t289 t290 t291 t292 t293 t294 t295 t296 t297 w0 _ ?side1 ?side2 A33.out).mono ?_); (case side1 => exact Z8_10); (case side2 => exact Z8_11); rintro e w35 ⟨rfl, hi, hb, hk⟩; refine ⟨_, rfl, ?_⟩; have n0_ := Aside0.mk (Kd.R_mono (Kd.R_keep (IsS116.apart (show IsS116 w0 _ g s0_0 x1001_28 x1002_28 from by repeat (first | (with_reducible first | exact HI0.out | apply IsS116.alloc | apply IsS116.drewN | apply IsS116.drew | apply IsS116.set_1 | apply IsS116.set_2) | exact HI0.out)) Z8_4 Z8_32) hk (fun _ h => h.2)) (fun _ h => h.1)); have n1_ := Aside0.mk (Kd.R_mono (Kd.R_keep (IsS116.apart (show IsS116 w0 _ g s0_0 x1001_28 x1002_28 from by repeat (first | (with_reducible first | exact HI0.out | apply IsS116.alloc | apply IsS116.drewN | apply IsS116.drew | apply IsS116.set_1 | apply IsS116.set_2) | exact HI0.out)) Z8_5 Z8_32) hk (fun _ h => h.2)) (fun _ h => h.1)); have n2_ := Aside0.mk (KeepBut.trans Z8_9 hk (.inl rfl)); have n3_ := Aside0.mk (hb); have n4_ := Aside0.mk (hi); clear HO_5; clear HO_6; clear HK; clear HB; clear HI0; have HO_5 := n0_; have HO_6 := n1_; have HK := n2_; have HB := n3_; have HI0 := n4_; clear n0_ n1_ n2_ n3_ n4_; (try clear hb); (try clear hb2); (try clear hk); (try clear hi)) | ((with_reducible refine gate_dst (N := 14) rfl ?_); refine box_event ?hg (N := 14) ?hd (cs := #[.bool false, .bool false, .bool false, .bool false, .bool false, .bool false, .bool false, .bool false, .int .i64 0]) (t := 27) ?hr ?_; (case hd => rfl); (case hg => rfl); (case hr => exact Z8_35); intro gb298 hg w36 hbox hb; have n0_ := Aside0.mk (Kd.R_below Z8_4 hb); have n1_ := Aside0.mk (Kd.R_below Z8_5 hb); have n2_ := Aside0.mk (IsS116.below Z8_10 hb); have n3_ := Aside0.mk (KeepBut.trans Z8_9 (KeepBut.of_below hb g none) (.inl rfl)); have n4_ := Aside0.mk (below_step Z8_11 hb); have n5_ := Aside0.mk (hbox); have n6_ := Aside0.mk ((by rw [hg]; exact (keep_size (w := w) (g := g) (row := none) Z8_9) : w.heap.size ≤ gb298)); have n7_ := Aside0.mk ((Nat.le_trans HW0.out (by rw [hg]; exact (keep_size (w := w) (g := g) (row := none) Z8_9) : w.heap.size ≤ gb298) : w0.heap.size ≤ gb298)); have n8_ := Aside0.mk ((by rw [hg]; exact Nat.ne_of_lt (IsS116.lt (show IsS116 w0 _ g s0_0 t296 t297 from by repeat (first | (with_reducible first | exact HI0.out | apply IsS116.alloc | apply IsS116.drewN | apply IsS116.drew | apply IsS116.set_1 | apply IsS116.set_2) | exact HI0.out))) : g ≠ gb298)); have n9_ := Aside0.mk ((by rw [hg]; exact Nat.ne_of_gt (IsS116.lt (show IsS116 w0 _ g s0_0 t296 t297 from by repeat (first | (with_reducible first | exact HI0.out | apply IsS116.alloc | apply IsS116.drewN | apply IsS116.drew | apply IsS116.set_1 | apply IsS116.set_2) | exact HI0.out))) : gb298 ≠ g)); clear HO_5; clear HO_6; clear HI0; clear HK; clear HB; have HO_5 := n0_; have HO_6 := n1_; have HI0 := n2_; have HK := n3_; have HB := n4_; have BK298 := n5_; have GW298 := n6_; have GE298 := n7_; have NB0_298 := n8_; have NB298_0 := n9_; clear n0_ n1_ n2_ n3_ n4_ n5_ n6_ n7_ n8_ n9_; clear hb hbox hg; have hnb37 := NB298_0.out; have hnc37 := NB0_298.out; have hcz38_0 : w36.cell? ⟨gb298, 0, none⟩ = some (.bool false) := (blk_cell BK298.out 0).trans rfl; have hcz38_1 : w36.cell? ⟨gb298, 1, none⟩ = some (.bool false) := (blk_cell BK298.out 1).trans rfl; have hcz38_2 : w36.cell? ⟨gb298, 2, none⟩ = some (.bool false) := (blk_cell BK298.out 2).trans rfl; have hcz38_3 : w36.cell? ⟨gb298, 3, none⟩ = some (.bool false) := (blk_cell BK298.out 3).trans rfl; have hcz38_4 : w36.cell? ⟨gb298, 4, none⟩ = some (.bool false) := (blk_cell BK298.out 4).trans rfl; have hcz38_5 : w36.cell? ⟨gb298, 5, none⟩ = some (.bool false) := (blk_cell BK298.out 5).trans rfl; have hcz38_6 : w36.cell? ⟨gb298, 6, none⟩ = some (.bool false) := (blk_cell BK298.out 6).trans rfl; have hcz38_7 : w36.cell? ⟨gb298, 7, none⟩ = some (.bool false) := (blk_cell BK298.out 7).trans rfl; have hcz38_8 : w36.cell? ⟨gb298, 8, none⟩ = some (.int .i64 0) := (blk_cell BK298.out 8).trans rfl; have hfz38_0 := blk_frozen BK298.out 0; have hfz38_1 := blk_frozen BK298.out 1; have hfz38_2 := blk_frozen BK298.out 2; have hfz38_3 := blk_frozen BK298.out 3; have hfz38_4 := blk_frozen BK298.out 4; have hfz38_5 := blk_frozen BK298.out 5; have hfz38_6 := blk_frozen BK298.out 6; have hfz38_7 := blk_frozen BK298.out 7; have hfz38_8 := blk_frozen BK298.out 8))
         (try simp only [Act.put, List.setIfInBounds_toArray, List.set_cons_zero, List.set_cons_succ])
         go_cut [83] (fun v83 wc => ∃ (kq : Nat) (x83_33 : Bool), v83 = .bool x83_33 ∧ Aside0 (spec_l6DrawTables.j4 kq (wrap64 (4 + t253)) x5_3 x6_1 x7_1 x8_14 x10_3 (wrap64 ((wrap64 (x9_3 * 256)) + (wrap64 (8 * (Int.tmod (wrap64 (Int.tdiv x8_14 (wrap64 (256 * t283)))) 32))))) x13_28 x83_33 s0_0 t296 t297 t287 t288 t289 t290 t291 t292 t293 t294 t295 = some (r1, r2, r3, r4)) ∧ Aside0 (kq ≤ kj28) ∧ Aside0 (Kd.R (Kd.int .u8) 5 wc w.heap.size (fun _ => True) v257 x5_3) ∧ Aside0 (Kd.R (Kd.int .i64) 2 wc w.heap.size (fun _ => True) u6 x6_1) ∧ Aside0 (wc.heap[gb298]? = some (.cells #[.bool t287, .bool t288, .bool t289, .bool t290, .bool t291, .bool t292, .bool t293, .bool t294, .int .i64 t295] 27 (0, 0))) ∧ Aside0 (IsS116 w0 wc g s0_0 t296 t297) ∧ Aside0 (KeepBut w wc g none) ∧ Aside0 (Below w0.heap.size w0 wc))
         case first =>
          refine ?L3
          letI iL3 : Nonempty (type_of% ?L3) := ⟨(by
          have H := HC34.out
          clear HC34
          by_cases c39 : x13_28 = true
          ·subst c39
           have H1 : (if t288 = true then (spec_l6DrawTables.j4 kj28 (wrap64 (4 + t253)) x5_3 x6_1 x7_1 x8_14 x10_3 (wrap64 ((wrap64 (x9_3 * 256)) + (wrap64 (8 * (Int.tmod (wrap64 (Int.tdiv x8_14 (wrap64 (256 * t283)))) 32))))) true false s0_0 t296 t297 t287 t288 t289 t290 t291 t292 t293 t294 t295) else (spec_l6DrawTables.j4 kj28 (wrap64 (4 + t253)) x5_3 x6_1 x7_1 x8_14 x10_3 (wrap64 ((wrap64 (x9_3 * 256)) + (wrap64 (8 * (Int.tmod (wrap64 (Int.tdiv x8_14 (wrap64 (256 * t283)))) 32))))) true (!t290) s0_0 t296 t297 t287 t288 t289 t290 t291 t292 t293 t294 t295)) = some (r1, r2, r3, r4) := by rw [if_pos rfl] at H; exact H
           clear H
           have H := H1
           clear H1
           by_cases c40 : t288 = true
           ·subst c40
            have H1 : (spec_l6DrawTables.j4 kj28 (wrap64 (4 + t253)) x5_3 x6_1 x7_1 x8_14 x10_3 (wrap64 ((wrap64 (x9_3 * 256)) + (wrap64 (8 * (Int.tmod (wrap64 (Int.tdiv x8_14 (wrap64 (256 * t283)))) 32))))) true false s0_0 t296 t297 t287 true t289 t290 t291 t292 t293 t294 t295) = some (r1, r2, r3, r4) := by rw [if_pos rfl] at H; exact H
            clear H
            have H := H1
            clear H1
            have H' := Aside0.mk H
            clear H
            have hnb41 := NB298_0.out
            have hnc41 := NB0_298.out
            have hcz42_0 : w36.cell? ⟨gb298, 0, none⟩ = some (.bool false) := (blk_cell BK298.out 0).trans rfl
            have hcz42_1 : w36.cell? ⟨gb298, 1, none⟩ = some (.bool false) := (blk_cell BK298.out 1).trans rfl
            have hcz42_2 : w36.cell? ⟨gb298, 2, none⟩ = some (.bool false) := (blk_cell BK298.out 2).trans rfl
            have hcz42_3 : w36.cell? ⟨gb298, 3, none⟩ = some (.bool false) := (blk_cell BK298.out 3).trans rfl
            have hcz42_4 : w36.cell? ⟨gb298, 4, none⟩ = some (.bool false) := (blk_cell BK298.out 4).trans rfl
            have hcz42_5 : w36.cell? ⟨gb298, 5, none⟩ = some (.bool false) := (blk_cell BK298.out 5).trans rfl
            have hcz42_6 : w36.cell? ⟨gb298, 6, none⟩ = some (.bool false) := (blk_cell BK298.out 6).trans rfl
            have hcz42_7 : w36.cell? ⟨gb298, 7, none⟩ = some (.bool false) := (blk_cell BK298.out 7).trans rfl
            have hcz42_8 : w36.cell? ⟨gb298, 8, none⟩ = some (.int .i64 0) := (blk_cell BK298.out 8).trans rfl
            have hfz42_0 := blk_frozen BK298.out 0
            have hfz42_1 := blk_frozen BK298.out 1
            have hfz42_2 := blk_frozen BK298.out 2
            have hfz42_3 := blk_frozen BK298.out 3
            have hfz42_4 := blk_frozen BK298.out 4
            have hfz42_5 := blk_frozen BK298.out 5
            have hfz42_6 := blk_frozen BK298.out 6
            have hfz42_7 := blk_frozen BK298.out 7
            have hfz42_8 := blk_frozen BK298.out 8
            go_wp2
            go_meet
            case rel => exact ⟨_, (false), Z8_12, H', ⟨Z8_41⟩, ⟨by (with_reducible repeat (first | apply Kd.R_alloc | apply Kd.R_drewN | apply Kd.R_drew)); exact Kd.R_mono (Kd.R_far (p := ⟨gb298, 8, none⟩) (Kd.R_far (p := ⟨gb298, 7, none⟩) (Kd.R_far (p := ⟨gb298, 6, none⟩) (Kd.R_far (p := ⟨gb298, 5, none⟩) (Kd.R_far (p := ⟨gb298, 4, none⟩) (Kd.R_far (p := ⟨gb298, 3, none⟩) (Kd.R_far (p := ⟨gb298, 2, none⟩) (Kd.R_far (p := ⟨gb298, 1, none⟩) (Kd.R_far (p := ⟨gb298, 0, none⟩) (Kd.R_types HO_5.out BK298.out Z8_32) (fun _ hk => hk.2) (.bool t287)) (fun _ hk => hk.2) (.bool true)) (fun _ hk => hk.2) (.bool t289)) (fun _ hk => hk.2) (.bool t290)) (fun _ hk => hk.2) (.bool t291)) (fun _ hk => hk.2) (.bool t292)) (fun _ hk => hk.2) (.bool t293)) (fun _ hk => hk.2) (.bool t294)) (fun _ hk => hk.2) (.int .i64 t295)) (fun _ hk => trivial)⟩, ⟨by (with_reducible repeat (first | apply Kd.R_alloc | apply Kd.R_drewN | apply Kd.R_drew)); exact Kd.R_mono (Kd.R_far (p := ⟨gb298, 8, none⟩) (Kd.R_far (p := ⟨gb298, 7, none⟩) (Kd.R_far (p := ⟨gb298, 6, none⟩) (Kd.R_far (p := ⟨gb298, 5, none⟩) (Kd.R_far (p := ⟨gb298, 4, none⟩) (Kd.R_far (p := ⟨gb298, 3, none⟩) (Kd.R_far (p := ⟨gb298, 2, none⟩) (Kd.R_far (p := ⟨gb298, 1, none⟩) (Kd.R_far (p := ⟨gb298, 0, none⟩) (Kd.R_types HO_6.out BK298.out Z8_32) (fun _ hk => hk.2) (.bool t287)) (fun _ hk => hk.2) (.bool true)) (fun _ hk => hk.2) (.bool t289)) (fun _ hk => hk.2) (.bool t290)) (fun _ hk => hk.2) (.bool t291)) (fun _ hk => hk.2) (.bool t292)) (fun _ hk => hk.2) (.bool t293)) (fun _ hk => hk.2) (.bool t294)) (fun _ hk => hk.2) (.int .i64 t295)) (fun _ hk => trivial)⟩, ⟨by (with_reducible repeat (first | apply blk_drewN | apply blk_drew | apply blk_alloc)); refine blk_put (cs := #[.bool t287, .bool true, .bool t289, .bool t290, .bool t291, .bool t292, .bool t293, .bool t294, .int .i64 0]) ?_ 8 _ rfl; (with_reducible repeat (first | apply blk_drewN | apply blk_drew | apply blk_alloc)); refine blk_put (cs := #[.bool t287, .bool true, .bool t289, .bool t290, .bool t291, .bool t292, .bool t293, .bool false, .int .i64 0]) ?_ 7 _ rfl; (with_reducible repeat (first | apply blk_drewN | apply blk_drew | apply blk_alloc)); refine blk_put (cs := #[.bool t287, .bool true, .bool t289, .bool t290, .bool t291, .bool t292, .bool false, .bool false, .int .i64 0]) ?_ 6 _ rfl; (with_reducible repeat (first | apply blk_drewN | apply blk_drew | apply blk_alloc)); refine blk_put (cs := #[.bool t287, .bool true, .bool t289, .bool t290, .bool t291, .bool false, .bool false, .bool false, .int .i64 0]) ?_ 5 _ rfl; (with_reducible repeat (first | apply blk_drewN | apply blk_drew | apply blk_alloc)); refine blk_put (cs := #[.bool t287, .bool true, .bool t289, .bool t290, .bool false, .bool false, .bool false, .bool false, .int .i64 0]) ?_ 4 _ rfl; (with_reducible repeat (first | apply blk_drewN | apply blk_drew | apply blk_alloc)); refine blk_put (cs := #[.bool t287, .bool true, .bool t289, .bool false, .bool false, .bool false, .bool false, .bool false, .int .i64 0]) ?_ 3 _ rfl; (with_reducible repeat (first | apply blk_drewN | apply blk_drew | apply blk_alloc)); refine blk_put (cs := #[.bool t287, .bool true, .bool false, .bool false, .bool false, .bool false, .bool false, .bool false, .int .i64 0]) ?_ 2 _ rfl; (with_reducible repeat (first | apply blk_drewN | apply blk_drew | apply blk_alloc)); refine blk_put (cs := #[.bool t287, .bool false, .bool false, .bool false, .bool false, .bool false, .bool false, .bool false, .int .i64 0]) ?_ 1 _ rfl; (with_reducible repeat (first | apply blk_drewN | apply blk_drew | apply blk_alloc)); refine blk_put (cs := #[.bool false, .bool false, .bool false, .bool false, .bool false, .bool false, .bool false, .bool false, .int .i64 0]) ?_ 0 _ rfl; (with_reducible repeat (first | apply blk_drewN | apply blk_drew | apply blk_alloc)); exact BK298.out⟩, ⟨Z8_2⟩, ⟨Z8_1⟩, ⟨Z8_3⟩⟩
           replace c40 := Bool.eq_false_iff.mpr c40
           subst c40
           have H1 : (spec_l6DrawTables.j4 kj28 (wrap64 (4 + t253)) x5_3 x6_1 x7_1 x8_14 x10_3 (wrap64 ((wrap64 (x9_3 * 256)) + (wrap64 (8 * (Int.tmod (wrap64 (Int.tdiv x8_14 (wrap64 (256 * t283)))) 32))))) true (!t290) s0_0 t296 t297 t287 false t289 t290 t291 t292 t293 t294 t295) = some (r1, r2, r3, r4) := by rw [if_neg (show ¬ (false = true) by decide)] at H; exact H
           clear H
           have H := H1
           clear H1
           have H' := Aside0.mk H
           clear H
           have hnb43 := NB298_0.out
           have hnc43 := NB0_298.out
           have hcz44_0 : w36.cell? ⟨gb298, 0, none⟩ = some (.bool false) := (blk_cell BK298.out 0).trans rfl
           have hcz44_1 : w36.cell? ⟨gb298, 1, none⟩ = some (.bool false) := (blk_cell BK298.out 1).trans rfl
           have hcz44_2 : w36.cell? ⟨gb298, 2, none⟩ = some (.bool false) := (blk_cell BK298.out 2).trans rfl
           have hcz44_3 : w36.cell? ⟨gb298, 3, none⟩ = some (.bool false) := (blk_cell BK298.out 3).trans rfl
           have hcz44_4 : w36.cell? ⟨gb298, 4, none⟩ = some (.bool false) := (blk_cell BK298.out 4).trans rfl
           have hcz44_5 : w36.cell? ⟨gb298, 5, none⟩ = some (.bool false) := (blk_cell BK298.out 5).trans rfl
           have hcz44_6 : w36.cell? ⟨gb298, 6, none⟩ = some (.bool false) := (blk_cell BK298.out 6).trans rfl
           have hcz44_7 : w36.cell? ⟨gb298, 7, none⟩ = some (.bool false) := (blk_cell BK298.out 7).trans rfl
           have hcz44_8 : w36.cell? ⟨gb298, 8, none⟩ = some (.int .i64 0) := (blk_cell BK298.out 8).trans rfl
           have hfz44_0 := blk_frozen BK298.out 0
           have hfz44_1 := blk_frozen BK298.out 1
           have hfz44_2 := blk_frozen BK298.out 2
           have hfz44_3 := blk_frozen BK298.out 3
           have hfz44_4 := blk_frozen BK298.out 4
           have hfz44_5 := blk_frozen BK298.out 5
           have hfz44_6 := blk_frozen BK298.out 6
           have hfz44_7 := blk_frozen BK298.out 7
           have hfz44_8 := blk_frozen BK298.out 8
           go_wp2
           go_meet
           case rel => exact ⟨_, (!t290), Z8_12, H', ⟨Z8_41⟩, ⟨by (with_reducible repeat (first | apply Kd.R_alloc | apply Kd.R_drewN | apply Kd.R_drew)); exact Kd.R_mono (Kd.R_far (p := ⟨gb298, 8, none⟩) (Kd.R_far (p := ⟨gb298, 7, none⟩) (Kd.R_far (p := ⟨gb298, 6, none⟩) (Kd.R_far (p := ⟨gb298, 5, none⟩) (Kd.R_far (p := ⟨gb298, 4, none⟩) (Kd.R_far (p := ⟨gb298, 3, none⟩) (Kd.R_far (p := ⟨gb298, 2, none⟩) (Kd.R_far (p := ⟨gb298, 1, none⟩) (Kd.R_far (p := ⟨gb298, 0, none⟩) (Kd.R_types HO_5.out BK298.out Z8_32) (fun _ hk => hk.2) (.bool t287)) (fun _ hk => hk.2) (.bool false)) (fun _ hk => hk.2) (.bool t289)) (fun _ hk => hk.2) (.bool t290)) (fun _ hk => hk.2) (.bool t291)) (fun _ hk => hk.2) (.bool t292)) (fun _ hk => hk.2) (.bool t293)) (fun _ hk => hk.2) (.bool t294)) (fun _ hk => hk.2) (.int .i64 t295)) (fun _ hk => trivial)⟩, ⟨by (with_reducible repeat (first | apply Kd.R_alloc | apply Kd.R_drewN | apply Kd.R_drew)); exact Kd.R_mono (Kd.R_far (p := ⟨gb298, 8, none⟩) (Kd.R_far (p := ⟨gb298, 7, none⟩) (Kd.R_far (p := ⟨gb298, 6, none⟩) (Kd.R_far (p := ⟨gb298, 5, none⟩) (Kd.R_far (p := ⟨gb298, 4, none⟩) (Kd.R_far (p := ⟨gb298, 3, none⟩) (Kd.R_far (p := ⟨gb298, 2, none⟩) (Kd.R_far (p := ⟨gb298, 1, none⟩) (Kd.R_far (p := ⟨gb298, 0, none⟩) (Kd.R_types HO_6.out BK298.out Z8_32) (fun _ hk => hk.2) (.bool t287)) (fun _ hk => hk.2) (.bool false)) (fun _ hk => hk.2) (.bool t289)) (fun _ hk => hk.2) (.bool t290)) (fun _ hk => hk.2) (.bool t291)) (fun _ hk => hk.2) (.bool t292)) (fun _ hk => hk.2) (.bool t293)) (fun _ hk => hk.2) (.bool t294)) (fun _ hk => hk.2) (.int .i64 t295)) (fun _ hk => trivial)⟩, ⟨by (with_reducible repeat (first | apply blk_drewN | apply blk_drew | apply blk_alloc)); refine blk_put (cs := #[.bool t287, .bool false, .bool t289, .bool t290, .bool t291, .bool t292, .bool t293, .bool t294, .int .i64 0]) ?_ 8 _ rfl; (with_reducible repeat (first | apply blk_drewN | apply blk_drew | apply blk_alloc)); refine blk_put (cs := #[.bool t287, .bool false, .bool t289, .bool t290, .bool t291, .bool t292, .bool t293, .bool false, .int .i64 0]) ?_ 7 _ rfl; (with_reducible repeat (first | apply blk_drewN | apply blk_drew | apply blk_alloc)); refine blk_put (cs := #[.bool t287, .bool false, .bool t289, .bool t290, .bool t291, .bool t292, .bool false, .bool false, .int .i64 0]) ?_ 6 _ rfl; (with_reducible repeat (first | apply blk_drewN | apply blk_drew | apply blk_alloc)); refine blk_put (cs := #[.bool t287, .bool false, .bool t289, .bool t290, .bool t291, .bool false, .bool false, .bool false, .int .i64 0]) ?_ 5 _ rfl; (with_reducible repeat (first | apply blk_drewN | apply blk_drew | apply blk_alloc)); refine blk_put (cs := #[.bool t287, .bool false, .bool t289, .bool t290, .bool false, .bool false, .bool false, .bool false, .int .i64 0]) ?_ 4 _ rfl; (with_reducible repeat (first | apply blk_drewN | apply blk_drew | apply blk_alloc)); refine blk_put (cs := #[.bool t287, .bool false, .bool t289, .bool false, .bool false, .bool false, .bool false, .bool false, .int .i64 0]) ?_ 3 _ rfl; (with_reducible repeat (first | apply blk_drewN | apply blk_drew | apply blk_alloc)); refine blk_put (cs := #[.bool t287, .bool false, .bool false, .bool false, .bool false, .bool false, .bool false, .bool false, .int .i64 0]) ?_ 2 _ rfl; (with_reducible repeat (first | apply blk_drewN | apply blk_drew | apply blk_alloc)); refine blk_put (cs := #[.bool t287, .bool false, .bool false, .bool false, .bool false, .bool false, .bool false, .bool false, .int .i64 0]) ?_ 1 _ rfl; (with_reducible repeat (first | apply blk_drewN | apply blk_drew | apply blk_alloc)); refine blk_put (cs := #[.bool false, .bool false, .bool false, .bool false, .bool false, .bool false, .bool false, .bool false, .int .i64 0]) ?_ 0 _ rfl; (with_reducible repeat (first | apply blk_drewN | apply blk_drew | apply blk_alloc)); exact BK298.out⟩, ⟨Z8_2⟩, ⟨Z8_1⟩, ⟨Z8_3⟩⟩
          replace c39 := Bool.eq_false_iff.mpr c39
          subst c39
          have H1 : (spec_l6DrawTables.j4 kj28 (wrap64 (4 + t253)) x5_3 x6_1 x7_1 x8_14 x10_3 (wrap64 ((wrap64 (x9_3 * 256)) + (wrap64 (8 * (Int.tmod (wrap64 (Int.tdiv x8_14 (wrap64 (256 * t283)))) 32))))) false false s0_0 t296 t297 t287 t288 t289 t290 t291 t292 t293 t294 t295) = some (r1, r2, r3, r4) := by rw [if_neg (show ¬ (false = true) by decide)] at H; exact H
          clear H
          have H := H1
          clear H1
          have H' := Aside0.mk H
          clear H
          go_wp2
          go_meet
          case rel => exact ⟨_, (false), Z8_12, H', ⟨Z8_41⟩, ⟨by (with_reducible repeat (first | apply Kd.R_alloc | apply Kd.R_drewN | apply Kd.R_drew)); exact Kd.R_mono (Kd.R_far (p := ⟨gb298, 8, none⟩) (Kd.R_far (p := ⟨gb298, 7, none⟩) (Kd.R_far (p := ⟨gb298, 6, none⟩) (Kd.R_far (p := ⟨gb298, 5, none⟩) (Kd.R_far (p := ⟨gb298, 4, none⟩) (Kd.R_far (p := ⟨gb298, 3, none⟩) (Kd.R_far (p := ⟨gb298, 2, none⟩) (Kd.R_far (p := ⟨gb298, 1, none⟩) (Kd.R_far (p := ⟨gb298, 0, none⟩) (Kd.R_types HO_5.out BK298.out Z8_32) (fun _ hk => hk.2) (.bool t287)) (fun _ hk => hk.2) (.bool t288)) (fun _ hk => hk.2) (.bool t289)) (fun _ hk => hk.2) (.bool t290)) (fun _ hk => hk.2) (.bool t291)) (fun _ hk => hk.2) (.bool t292)) (fun _ hk => hk.2) (.bool t293)) (fun _ hk => hk.2) (.bool t294)) (fun _ hk => hk.2) (.int .i64 t295)) (fun _ hk => trivial)⟩, ⟨by (with_reducible repeat (first | apply Kd.R_alloc | apply Kd.R_drewN | apply Kd.R_drew)); exact Kd.R_mono (Kd.R_far (p := ⟨gb298, 8, none⟩) (Kd.R_far (p := ⟨gb298, 7, none⟩) (Kd.R_far (p := ⟨gb298, 6, none⟩) (Kd.R_far (p := ⟨gb298, 5, none⟩) (Kd.R_far (p := ⟨gb298, 4, none⟩) (Kd.R_far (p := ⟨gb298, 3, none⟩) (Kd.R_far (p := ⟨gb298, 2, none⟩) (Kd.R_far (p := ⟨gb298, 1, none⟩) (Kd.R_far (p := ⟨gb298, 0, none⟩) (Kd.R_types HO_6.out BK298.out Z8_32) (fun _ hk => hk.2) (.bool t287)) (fun _ hk => hk.2) (.bool t288)) (fun _ hk => hk.2) (.bool t289)) (fun _ hk => hk.2) (.bool t290)) (fun _ hk => hk.2) (.bool t291)) (fun _ hk => hk.2) (.bool t292)) (fun _ hk => hk.2) (.bool t293)) (fun _ hk => hk.2) (.bool t294)) (fun _ hk => hk.2) (.int .i64 t295)) (fun _ hk => trivial)⟩, ⟨by (with_reducible repeat (first | apply blk_drewN | apply blk_drew | apply blk_alloc)); refine blk_put (cs := #[.bool t287, .bool t288, .bool t289, .bool t290, .bool t291, .bool t292, .bool t293, .bool t294, .int .i64 0]) ?_ 8 _ rfl; (with_reducible repeat (first | apply blk_drewN | apply blk_drew | apply blk_alloc)); refine blk_put (cs := #[.bool t287, .bool t288, .bool t289, .bool t290, .bool t291, .bool t292, .bool t293, .bool false, .int .i64 0]) ?_ 7 _ rfl; (with_reducible repeat (first | apply blk_drewN | apply blk_drew | apply blk_alloc)); refine blk_put (cs := #[.bool t287, .bool t288, .bool t289, .bool t290, .bool t291, .bool t292, .bool false, .bool false, .int .i64 0]) ?_ 6 _ rfl; (with_reducible repeat (first | apply blk_drewN | apply blk_drew | apply blk_alloc)); refine blk_put (cs := #[.bool t287, .bool t288, .bool t289, .bool t290, .bool t291, .bool false, .bool false, .bool false, .int .i64 0]) ?_ 5 _ rfl; (with_reducible repeat (first | apply blk_drewN | apply blk_drew | apply blk_alloc)); refine blk_put (cs := #[.bool t287, .bool t288, .bool t289, .bool t290, .bool false, .bool false, .bool false, .bool false, .int .i64 0]) ?_ 4 _ rfl; (with_reducible repeat (first | apply blk_drewN | apply blk_drew | apply blk_alloc)); refine blk_put (cs := #[.bool t287, .bool t288, .bool t289, .bool false, .bool false, .bool false, .bool false, .bool false, .int .i64 0]) ?_ 3 _ rfl; (with_reducible repeat (first | apply blk_drewN | apply blk_drew | apply blk_alloc)); refine blk_put (cs := #[.bool t287, .bool t288, .bool false, .bool false, .bool false, .bool false, .bool false, .bool false, .int .i64 0]) ?_ 2 _ rfl; (with_reducible repeat (first | apply blk_drewN | apply blk_drew | apply blk_alloc)); refine blk_put (cs := #[.bool t287, .bool false, .bool false, .bool false, .bool false, .bool false, .bool false, .bool false, .int .i64 0]) ?_ 1 _ rfl; (with_reducible repeat (first | apply blk_drewN | apply blk_drew | apply blk_alloc)); refine blk_put (cs := #[.bool false, .bool false, .bool false, .bool false, .bool false, .bool false, .bool false, .bool false, .int .i64 0]) ?_ 0 _ rfl; (with_reducible repeat (first | apply blk_drewN | apply blk_drew | apply blk_alloc)); exact BK298.out⟩, ⟨Z8_2⟩, ⟨Z8_1⟩, ⟨Z8_3⟩⟩)⟩
          exact Nonempty.elim (inferInstanceAs (Nonempty (type_of% ?L3))) id
         clear HC34
         try clear c1
         try clear c2
         try clear p2
         try clear c3
         try clear c4
         try clear c4b0
         try clear c4b1
         try clear c5
         try clear c5b0
         try clear c5b1
         try clear c6
         try clear p6
         try clear c8
         try clear c9
         try clear c12
         try clear c12b0
         try clear c19
         try clear c26
         try clear c26b0
         try clear c28
         try clear c28b0
         try clear c28b1
         try clear c30
         try clear c30b0
         try clear c30b1
         try clear c37
         try clear c39
         try clear c40
         try clear c41
         try clear c43
         try clear hcz38_0
         try clear hcz38_1
         try clear hcz38_2
         try clear hcz38_3
         try clear hcz38_4
         try clear hcz38_5
         try clear hcz38_6
         try clear hcz38_7
         try clear hcz38_8
         try clear hcz42_0
         try clear hcz42_1
         try clear hcz42_2
         try clear hcz42_3
         try clear hcz42_4
         try clear hcz42_5
         try clear hcz42_6
         try clear hcz42_7
         try clear hcz42_8
         try clear hcz44_0
         try clear hcz44_1
         try clear hcz44_2
         try clear hcz44_3
         try clear hcz44_4
         try clear hcz44_5
         try clear hcz44_6
         try clear hcz44_7
         try clear hcz44_8
         try clear hfz38_0
         try clear hfz38_1
         try clear hfz38_2
         try clear hfz38_3
         try clear hfz38_4
         try clear hfz38_5
         try clear hfz38_6
         try clear hfz38_7
         try clear hfz38_8
         try clear hfz42_0
         try clear hfz42_1
         try clear hfz42_2
         try clear hfz42_3
         try clear hfz42_4
         try clear hfz42_5
         try clear hfz42_6
         try clear hfz42_7
         try clear hfz42_8
         try clear hfz44_0
         try clear hfz44_1
         try clear hfz44_2
         try clear hfz44_3
         try clear hfz44_4
         try clear hfz44_5
         try clear hfz44_6
         try clear hfz44_7
         try clear hfz44_8
         try clear p2
         try clear p6
         obtain ⟨kq, x83_33, rfl, HA, HJ33, HO_5, HO_6, BK298, HI0, HK, HB⟩ := hcut
         cases kq with
         | zero => exact absurd HA.out (by simp [spec_l6DrawTables.j4])
         | succ kj33 =>
          have H := HA.out
          clear HA
          simp only [spec_l6DrawTables.j4] at H
          have HC45 := Aside0.mk H
          clear H
          go_upto_if 83 with (fail)
          go_cut [] (fun wc => ∃ (kq : Nat) (x299001_44 : Bool), Aside0 (spec_l6DrawTables.j5 kq (wrap64 (4 + t253)) x5_3 x6_1 x7_1 x8_14 x10_3 (wrap64 ((wrap64 (x9_3 * 256)) + (wrap64 (8 * (Int.tmod (wrap64 (Int.tdiv x8_14 (wrap64 (256 * t283)))) 32))))) x13_28 s0_0 t296 t297 t287 x299001_44 t289 t290 t291 t292 t293 t294 t295 = some (r1, r2, r3, r4)) ∧ Aside0 (kq ≤ kj33) ∧ Aside0 (Kd.R (Kd.int .u8) 5 wc w.heap.size (fun _ => True) v257 x5_3) ∧ Aside0 (Kd.R (Kd.int .i64) 2 wc w.heap.size (fun _ => True) u6 x6_1) ∧ Aside0 (wc.heap[gb298]? = some (.cells #[.bool t287, .bool x299001_44, .bool t289, .bool t290, .bool t291, .bool t292, .bool t293, .bool t294, .int .i64 t295] 27 (0, 0))) ∧ Aside0 (IsS116 w0 wc g s0_0 t296 t297) ∧ Aside0 (KeepBut w wc g none) ∧ Aside0 (Below w0.heap.size w0 wc))
          case first =>
           refine ?L4
           letI iL4 : Nonempty (type_of% ?L4) := ⟨(by
           have H := HC45.out
           clear HC45
           by_cases c46 : x83_33 = true
           ·subst c46
            have H1 : (spec_l6DrawTables.j5 kj33 (wrap64 (4 + t253)) x5_3 x6_1 x7_1 x8_14 x10_3 (wrap64 ((wrap64 (x9_3 * 256)) + (wrap64 (8 * (Int.tmod (wrap64 (Int.tdiv x8_14 (wrap64 (256 * t283)))) 32))))) x13_28 s0_0 t296 t297 t287 true t289 t290 t291 t292 t293 t294 t295) = some (r1, r2, r3, r4) := by rw [if_pos rfl] at H; exact H
            clear H
            have H := H1
            clear H1
            have H' := Aside0.mk H
            clear H
            have hnb47 := NB298_0.out
            have hnc47 := NB0_298.out
            have hcz48_0 : wc.cell? ⟨gb298, 0, none⟩ = some (.bool t287) := (blk_cell BK298.out 0).trans rfl
            have hcz48_1 : wc.cell? ⟨gb298, 1, none⟩ = some (.bool t288) := (blk_cell BK298.out 1).trans rfl
            have hcz48_2 : wc.cell? ⟨gb298, 2, none⟩ = some (.bool t289) := (blk_cell BK298.out 2).trans rfl
            have hcz48_3 : wc.cell? ⟨gb298, 3, none⟩ = some (.bool t290) := (blk_cell BK298.out 3).trans rfl
            have hcz48_4 : wc.cell? ⟨gb298, 4, none⟩ = some (.bool t291) := (blk_cell BK298.out 4).trans rfl
            have hcz48_5 : wc.cell? ⟨gb298, 5, none⟩ = some (.bool t292) := (blk_cell BK298.out 5).trans rfl
            have hcz48_6 : wc.cell? ⟨gb298, 6, none⟩ = some (.bool t293) := (blk_cell BK298.out 6).trans rfl
            have hcz48_7 : wc.cell? ⟨gb298, 7, none⟩ = some (.bool t294) := (blk_cell BK298.out 7).trans rfl
            have hcz48_8 : wc.cell? ⟨gb298, 8, none⟩ = some (.int .i64 t295) := (blk_cell BK298.out 8).trans rfl
            have hfz48_0 := blk_frozen BK298.out 0
            have hfz48_1 := blk_frozen BK298.out 1
            have hfz48_2 := blk_frozen BK298.out 2
            have hfz48_3 := blk_frozen BK298.out 3
            have hfz48_4 := blk_frozen BK298.out 4
            have hfz48_5 := blk_frozen BK298.out 5
            have hfz48_6 := blk_frozen BK298.out 6
            have hfz48_7 := blk_frozen BK298.out 7
            have hfz48_8 := blk_frozen BK298.out 8
            go_wp2
            go_meet
            case rel => exact ⟨_, (true), H', ⟨Z8_43⟩, ⟨by (with_reducible repeat (first | apply Kd.R_alloc | apply Kd.R_drewN | apply Kd.R_drew)); exact Kd.R_mono (Kd.R_far (p := ⟨gb298, 1, none⟩) (Kd.R_types HO_5.out BK298.out Z8_32) (fun _ hk => hk.2) (.bool true)) (fun _ hk => trivial)⟩, ⟨by (with_reducible repeat (first | apply Kd.R_alloc | apply Kd.R_drewN | apply Kd.R_drew)); exact Kd.R_mono (Kd.R_far (p := ⟨gb298, 1, none⟩) (Kd.R_types HO_6.out BK298.out Z8_32) (fun _ hk => hk.2) (.bool true)) (fun _ hk => trivial)⟩, ⟨by (with_reducible repeat (first | apply blk_drewN | apply blk_drew | apply blk_alloc)); refine blk_put (cs := #[.bool t287, .bool t288, .bool t289, .bool t290, .bool t291, .bool t292, .bool t293, .bool t294, .int .i64 t295]) ?_ 1 _ rfl; (with_reducible repeat (first | apply blk_drewN | apply blk_drew | apply blk_alloc)); exact BK298.out⟩, ⟨Z8_2⟩, ⟨Z8_1⟩, ⟨Z8_3⟩⟩
           replace c46 := Bool.eq_false_iff.mpr c46
           subst c46
           have H1 : (spec_l6DrawTables.j5 kj33 (wrap64 (4 + t253)) x5_3 x6_1 x7_1 x8_14 x10_3 (wrap64 ((wrap64 (x9_3 * 256)) + (wrap64 (8 * (Int.tmod (wrap64 (Int.tdiv x8_14 (wrap64 (256 * t283)))) 32))))) x13_28 s0_0 t296 t297 t287 t288 t289 t290 t291 t292 t293 t294 t295) = some (r1, r2, r3, r4) := by rw [if_neg (show ¬ (false = true) by decide)] at H; exact H
           clear H
           have H := H1
           clear H1
           have H' := Aside0.mk H
           clear H
           go_wp2
           go_meet
           case rel => exact ⟨_, (t288), H', ⟨Z8_43⟩, ⟨Z8_4⟩, ⟨Z8_5⟩, ⟨Z8_6⟩, ⟨Z8_2⟩, ⟨Z8_1⟩, ⟨Z8_3⟩⟩)⟩
           exact Nonempty.elim (inferInstanceAs (Nonempty (type_of% ?L4))) id
          clear HC45
          try clear c1
          try clear c2
          try clear p2
          try clear c3
          try clear c4
          try clear c4b0
          try clear c4b1
          try clear c5
          try clear c5b0
          try clear c5b1
          try clear c6
          try clear p6
          try clear c8
          try clear c9
          try clear c12
          try clear c12b0
          try clear c19
          try clear c26
          try clear c26b0
          try clear c28
          try clear c28b0
          try clear c28b1
          try clear c30
          try clear c30b0
          try clear c30b1
          try clear c37
          try clear c39
          try clear c40
          try clear c41
          try clear c43
          try clear c46
          try clear c47
          try clear hcz38_0
          try clear hcz38_1
          try clear hcz38_2
          try clear hcz38_3
          try clear hcz38_4
          try clear hcz38_5
          try clear hcz38_6
          try clear hcz38_7
          try clear hcz38_8
          try clear hcz42_0
          try clear hcz42_1
          try clear hcz42_2
          try clear hcz42_3
          try clear hcz42_4
          try clear hcz42_5
          try clear hcz42_6
          try clear hcz42_7
          try clear hcz42_8
          try clear hcz44_0
          try clear hcz44_1
          try clear hcz44_2
          try clear hcz44_3
          try clear hcz44_4
          try clear hcz44_5
          try clear hcz44_6
          try clear hcz44_7
          try clear hcz44_8
          try clear hcz48_0
          try clear hcz48_1
          try clear hcz48_2
          try clear hcz48_3
          try clear hcz48_4
          try clear hcz48_5
          try clear hcz48_6
          try clear hcz48_7
          try clear hcz48_8
          try clear hfz38_0
          try clear hfz38_1
          try clear hfz38_2
          try clear hfz38_3
          try clear hfz38_4
          try clear hfz38_5
          try clear hfz38_6
          try clear hfz38_7
          try clear hfz38_8
          try clear hfz42_0
          try clear hfz42_1
          try clear hfz42_2
          try clear hfz42_3
          try clear hfz42_4
          try clear hfz42_5
          try clear hfz42_6
          try clear hfz42_7
          try clear hfz42_8
          try clear hfz44_0
          try clear hfz44_1
          try clear hfz44_2
          try clear hfz44_3
          try clear hfz44_4
          try clear hfz44_5
          try clear hfz44_6
          try clear hfz44_7
          try clear hfz44_8
          try clear hfz48_0
          try clear hfz48_1
          try clear hfz48_2
          try clear hfz48_3
          try clear hfz48_4
          try clear hfz48_5
          try clear hfz48_6
          try clear hfz48_7
          try clear hfz48_8
          try clear p2
          try clear p6
          obtain ⟨kq, x299001_44, HA, HJ44, HO_5, HO_6, BK298, HI0, HK, HB⟩ := hcut
          cases kq with
          | zero => exact absurd HA.out (by simp [spec_l6DrawTables.j5])
          | succ kj44 =>
           have H := HA.out
           clear HA
           simp only [spec_l6DrawTables.j5] at H
           have HC49 := Aside0.mk H
           clear H
           go_upto_region 19 with (fail)
           go_cut [94] (fun v94 wc => ∃ (kq : Nat) (x94_48 : Bool) (x1001_48 : Int) (x1002_48 : Int), v94 = .bool x94_48 ∧ Aside0 (spec_l6DrawTables.j6 kq (wrap64 (4 + t253)) x5_3 x6_1 x7_1 x8_14 x10_3 (wrap64 ((wrap64 (x9_3 * 256)) + (wrap64 (8 * (Int.tmod (wrap64 (Int.tdiv x8_14 (wrap64 (256 * t283)))) 32))))) x13_28 x94_48 s0_0 x1001_48 x1002_48 t287 x299001_44 t289 t290 t291 t292 t293 t294 t295 = some (r1, r2, r3, r4)) ∧ Aside0 (kq ≤ kj44) ∧ Aside0 (Kd.R (Kd.int .u8) 5 wc w.heap.size (fun _ => True) v257 x5_3) ∧ Aside0 (Kd.R (Kd.int .i64) 2 wc w.heap.size (fun _ => True) u6 x6_1) ∧ Aside0 (wc.heap[gb298]? = some (.cells #[.bool t287, .bool x299001_44, .bool t289, .bool t290, .bool t291, .bool t292, .bool t293, .bool t294, .int .i64 t295] 27 (0, 0))) ∧ Aside0 (IsS116 w0 wc g s0_0 x1001_48 x1002_48) ∧ Aside0 (KeepBut w wc g none) ∧ Aside0 (Below w0.heap.size w0 wc))
           case first =>
            refine ?L5
            letI iL5 : Nonempty (type_of% ?L5) := ⟨(by
            have H := HC49.out
            clear HC49
            by_cases c50 : x13_28 = true
            ·subst c50
             have H1 : (if x10_3 > 0 then ((spec_l1Once.f s0_0 t296 t297 4).bind fun bt299 => (spec_l6DrawTables.j6 kj44 (wrap64 (4 + t253)) x5_3 x6_1 x7_1 x8_14 x10_3 (wrap64 ((wrap64 (x9_3 * 256)) + (wrap64 (8 * (Int.tmod (wrap64 (Int.tdiv x8_14 (wrap64 (256 * t283)))) 32))))) true (!bt299.1) s0_0 bt299.2.1 bt299.2.2 t287 x299001_44 t289 t290 t291 t292 t293 t294 t295)) else (spec_l6DrawTables.j6 kj44 (wrap64 (4 + t253)) x5_3 x6_1 x7_1 x8_14 x10_3 (wrap64 ((wrap64 (x9_3 * 256)) + (wrap64 (8 * (Int.tmod (wrap64 (Int.tdiv x8_14 (wrap64 (256 * t283)))) 32))))) true false s0_0 t296 t297 t287 x299001_44 t289 t290 t291 t292 t293 t294 t295)) = some (r1, r2, r3, r4) := by rw [if_pos rfl] at H; exact H
             clear H
             have H := H1
             clear H1
             by_cases c51 : x10_3 > 0
             ·rw [if_pos c51] at H
              have c51b0 : decide (0 < x10_3) = true := decide_eq_true c51
              clear c51
              (first | rw [c51b0] | (simp only [i64_w, i32_w]; rw [c51b0]) | skip)
              replace H := Option.bind_eq_some_iff.mp H
              obtain ⟨⟨t299, t300, t301⟩, A520, H⟩ := H
              replace H : (spec_l6DrawTables.j6 kj44 (wrap64 (4 + t253)) x5_3 x6_1 x7_1 x8_14 x10_3 (wrap64 ((wrap64 (x9_3 * 256)) + (wrap64 (8 * (Int.tmod (wrap64 (Int.tdiv x8_14 (wrap64 (256 * t283)))) 32))))) true (!t299) s0_0 t300 t301 t287 x299001_44 t289 t290 t291 t292 t293 t294 t295) = some (r1, r2, r3, r4) := H
              have A52 := Aside0.mk A520
              clear A520
              have H' := Aside0.mk H
              clear H
              go_wp2_with (first | (go_at_call 60; (with_reducible refine (spec_l1Once.calls g s0_0 t296 t297 4 t299 t300 t301 w0 _ ?side1 ?side2 A52.out).mono ?_); (case side1 => exact Z8_2); (case side2 => exact Z8_3); rintro e w53 ⟨rfl, hi, hb, hk⟩; have n0_ := Aside0.mk (Kd.R_mono (Kd.R_keep (IsS116.apart (show IsS116 w0 _ g s0_0 t296 t297 from by repeat (first | (with_reducible first | exact HI0.out | apply IsS116.alloc | apply IsS116.drewN | apply IsS116.drew | apply IsS116.set_1 | apply IsS116.set_2 | refine IsS116.far ?_ NB0_298.out _) | exact HI0.out)) Z8_4 Z8_32) hk (fun _ h => h.2)) (fun _ h => h.1)); have n1_ := Aside0.mk (Kd.R_mono (Kd.R_keep (IsS116.apart (show IsS116 w0 _ g s0_0 t296 t297 from by repeat (first | (with_reducible first | exact HI0.out | apply IsS116.alloc | apply IsS116.drewN | apply IsS116.drew | apply IsS116.set_1 | apply IsS116.set_2 | refine IsS116.far ?_ NB0_298.out _) | exact HI0.out)) Z8_5 Z8_32) hk (fun _ h => h.2)) (fun _ h => h.1)); have n2_ := Aside0.mk (KeepBut.blk hk (g' := gb298) (o := .cells #[.bool t287, .bool x299001_44, .bool t289, .bool t290, .bool t291, .bool t292, .bool t293, .bool t294, .int .i64 t295] 27 (0, 0)) Z8_6 NB298_0.out (by simp)); have n3_ := Aside0.mk (KeepBut.trans Z8_1 hk (.inl rfl)); have n4_ := Aside0.mk (hb); have n5_ := Aside0.mk (hi); clear HO_5; clear HO_6; clear BK298; clear HK; clear HB; clear HI0; have HO_5 := n0_; have HO_6 := n1_; have BK298 := n2_; have HK := n3_; have HB := n4_; have HI0 := n5_; clear n0_ n1_ n2_ n3_ n4_ n5_; (try clear hb); (try clear hb2); (try clear hk); (try clear hi)))
              go_meet
              case rel => exact ⟨_, (!t299), (t300), (t301), Z8_12, H', ⟨Z8_39⟩, ⟨Z8_4⟩, ⟨Z8_5⟩, ⟨Z8_6⟩, ⟨Z8_2⟩, ⟨Z8_1⟩, ⟨Z8_3⟩⟩
             rw [if_neg c51] at H
             have c51b0 : decide (0 < x10_3) = false := decide_eq_false c51
             clear c51
             (first | rw [c51b0] | (simp only [i64_w, i32_w]; rw [c51b0]) | skip)
             have H' := Aside0.mk H
             clear H
             go_wp2
             go_meet
             case rel => exact ⟨_, (false), (t296), (t297), Z8_12, H', ⟨Z8_39⟩, ⟨Z8_4⟩, ⟨Z8_5⟩, ⟨Z8_6⟩, ⟨Z8_2⟩, ⟨Z8_1⟩, ⟨Z8_3⟩⟩
            replace c50 := Bool.eq_false_iff.mpr c50
            subst c50
            have H1 : (spec_l6DrawTables.j6 kj44 (wrap64 (4 + t253)) x5_3 x6_1 x7_1 x8_14 x10_3 (wrap64 ((wrap64 (x9_3 * 256)) + (wrap64 (8 * (Int.tmod (wrap64 (Int.tdiv x8_14 (wrap64 (256 * t283)))) 32))))) false false s0_0 t296 t297 t287 x299001_44 t289 t290 t291 t292 t293 t294 t295) = some (r1, r2, r3, r4) := by rw [if_neg (show ¬ (false = true) by decide)] at H; exact H
            clear H
            have H := H1
            clear H1
            have H' := Aside0.mk H
            clear H
            go_wp2
            go_meet
            case rel => exact ⟨_, (false), (t296), (t297), Z8_12, H', ⟨Z8_39⟩, ⟨Z8_4⟩, ⟨Z8_5⟩, ⟨Z8_6⟩, ⟨Z8_2⟩, ⟨Z8_1⟩, ⟨Z8_3⟩⟩)⟩
            exact Nonempty.elim (inferInstanceAs (Nonempty (type_of% ?L5))) id
           clear HC49
           try clear c1
           try clear c2
           try clear p2
           try clear c3
           try clear c4
           try clear c4b0
           try clear c4b1
           try clear c5
           try clear c5b0
           try clear c5b1
           try clear c6
           try clear p6
           try clear c8
           try clear c9
           try clear c12
           try clear c12b0
           try clear c19
           try clear c26
           try clear c26b0
           try clear c28
           try clear c28b0
           try clear c28b1
           try clear c30
           try clear c30b0
           try clear c30b1
           try clear c37
           try clear c39
           try clear c40
           try clear c41
           try clear c43
           try clear c46
           try clear c47
           try clear c50
           try clear c51
           try clear c51b0
           try clear hcz38_0
           try clear hcz38_1
           try clear hcz38_2
           try clear hcz38_3
           try clear hcz38_4
           try clear hcz38_5
           try clear hcz38_6
           try clear hcz38_7
           try clear hcz38_8
           try clear hcz42_0
           try clear hcz42_1
           try clear hcz42_2
           try clear hcz42_3
           try clear hcz42_4
           try clear hcz42_5
           try clear hcz42_6
           try clear hcz42_7
           try clear hcz42_8
           try clear hcz44_0
           try clear hcz44_1
           try clear hcz44_2
           try clear hcz44_3
           try clear hcz44_4
           try clear hcz44_5
           try clear hcz44_6
           try clear hcz44_7
           try clear hcz44_8
           try clear hcz48_0
           try clear hcz48_1
           try clear hcz48_2
           try clear hcz48_3
           try clear hcz48_4
           try clear hcz48_5
           try clear hcz48_6
           try clear hcz48_7
           try clear hcz48_8
           try clear hfz38_0
           try clear hfz38_1
           try clear hfz38_2
           try clear hfz38_3
           try clear hfz38_4
           try clear hfz38_5
           try clear hfz38_6
           try clear hfz38_7
           try clear hfz38_8
           try clear hfz42_0
           try clear hfz42_1
           try clear hfz42_2
           try clear hfz42_3
           try clear hfz42_4
           try clear hfz42_5
           try clear hfz42_6
           try clear hfz42_7
           try clear hfz42_8
           try clear hfz44_0
           try clear hfz44_1
           try clear hfz44_2
           try clear hfz44_3
           try clear hfz44_4
           try clear hfz44_5
           try clear hfz44_6
           try clear hfz44_7
           try clear hfz44_8
           try clear hfz48_0
           try clear hfz48_1
           try clear hfz48_2
           try clear hfz48_3
           try clear hfz48_4
           try clear hfz48_5
           try clear hfz48_6
           try clear hfz48_7
           try clear hfz48_8
           try clear p2
           try clear p6
           obtain ⟨kq, x94_48, x1001_48, x1002_48, rfl, HA, HJ48, HO_5, HO_6, BK298, HI0, HK, HB⟩ := hcut
           cases kq with
           | zero => exact absurd HA.out (by simp [spec_l6DrawTables.j6])
           | succ kj48 =>
            have H := HA.out
            clear HA
            simp only [spec_l6DrawTables.j6] at H
            have HC54 := Aside0.mk H
            clear H
            go_upto_if 94 with (fail)
            go_cut [] (fun wc => ∃ (kq : Nat) (x1001_53 : Int) (x1002_53 : Int) (x299008_53 : Int), Aside0 (spec_l6DrawTables.j7 kq (wrap64 (4 + t253)) x5_3 x6_1 x7_1 x8_14 x10_3 (wrap64 ((wrap64 (x9_3 * 256)) + (wrap64 (8 * (Int.tmod (wrap64 (Int.tdiv x8_14 (wrap64 (256 * t283)))) 32))))) x13_28 s0_0 x1001_53 x1002_53 t287 x299001_44 t289 t290 t291 t292 t293 t294 x299008_53 = some (r1, r2, r3, r4)) ∧ Aside0 (kq ≤ kj48) ∧ Aside0 (Kd.R (Kd.int .u8) 5 wc w.heap.size (fun _ => True) v257 x5_3) ∧ Aside0 (Kd.R (Kd.int .i64) 2 wc w.heap.size (fun _ => True) u6 x6_1) ∧ Aside0 (wc.heap[gb298]? = some (.cells #[.bool t287, .bool x299001_44, .bool t289, .bool t290, .bool t291, .bool t292, .bool t293, .bool t294, .int .i64 x299008_53] 27 (0, 0))) ∧ Aside0 (IsS116 w0 wc g s0_0 x1001_53 x1002_53) ∧ Aside0 (KeepBut w wc g none) ∧ Aside0 (Below w0.heap.size w0 wc))
            case first =>
             refine ?L6
             letI iL6 : Nonempty (type_of% ?L6) := ⟨(by
             have H := HC54.out
             clear HC54
             by_cases c55 : x94_48 = true
             ·subst c55
              have H1 : ((some (([0, 32, 1024, 2048, 3072] : List Int) : List Int)).bind fun y302 => ((spec_l1Below.f s0_0 x1001_48 x1002_48 5).bind fun bt305 => (if 0 ≤ bt305.1 then (if bt305.1 < (y302.length : Int) then ((spec_l6Pages.f kj48 (wrap64 (x10_3 - 1))).bind fun t309 => (if (wrap64 ((rd y302 bt305.1) * t309)) > 4095 then (spec_l6DrawTables.j7 kj48 (wrap64 (4 + t253)) x5_3 x6_1 x7_1 x8_14 x10_3 (wrap64 ((wrap64 (x9_3 * 256)) + (wrap64 (8 * (Int.tmod (wrap64 (Int.tdiv x8_14 (wrap64 (256 * t283)))) 32))))) x13_28 s0_0 bt305.2.1 bt305.2.2 t287 x299001_44 t289 t290 t291 t292 t293 t294 1024) else (spec_l6DrawTables.j7 kj48 (wrap64 (4 + t253)) x5_3 x6_1 x7_1 x8_14 x10_3 (wrap64 ((wrap64 (x9_3 * 256)) + (wrap64 (8 * (Int.tmod (wrap64 (Int.tdiv x8_14 (wrap64 (256 * t283)))) 32))))) x13_28 s0_0 bt305.2.1 bt305.2.2 t287 x299001_44 t289 t290 t291 t292 t293 t294 (wrap64 ((rd y302 bt305.1) * t309))))) else (none)) else (none)))) = some (r1, r2, r3, r4) := by rw [if_pos rfl] at H; exact H
              clear H
              have H := H1
              clear H1
              obtain ⟨y302, hy302⟩ : ∃ y_ : List Int, y_ = (([0, 32, 1024, 2048, 3072] : List Int)) := ⟨_, rfl⟩
              replace H : ((spec_l1Below.f s0_0 x1001_48 x1002_48 5).bind fun bt305 => (if 0 ≤ bt305.1 then (if bt305.1 < (y302.length : Int) then ((spec_l6Pages.f kj48 (wrap64 (x10_3 - 1))).bind fun t309 => (if (wrap64 ((rd y302 bt305.1) * t309)) > 4095 then (spec_l6DrawTables.j7 kj48 (wrap64 (4 + t253)) x5_3 x6_1 x7_1 x8_14 x10_3 (wrap64 ((wrap64 (x9_3 * 256)) + (wrap64 (8 * (Int.tmod (wrap64 (Int.tdiv x8_14 (wrap64 (256 * t283)))) 32))))) x13_28 s0_0 bt305.2.1 bt305.2.2 t287 x299001_44 t289 t290 t291 t292 t293 t294 1024) else (spec_l6DrawTables.j7 kj48 (wrap64 (4 + t253)) x5_3 x6_1 x7_1 x8_14 x10_3 (wrap64 ((wrap64 (x9_3 * 256)) + (wrap64 (8 * (Int.tmod (wrap64 (Int.tdiv x8_14 (wrap64 (256 * t283)))) 32))))) x13_28 s0_0 bt305.2.1 bt305.2.2 t287 x299001_44 t289 t290 t291 t292 t293 t294 (wrap64 ((rd y302 bt305.1) * t309))))) else (none)) else (none))) = some (r1, r2, r3, r4) := by first | (rw [hy302]; with_reducible exact H) | (have H2_ := (Option.bind_some _ _).symm.trans H; rw [hy302]; with_reducible exact H2_) | (have H2_ := (Option.bind_some _ _).symm.trans H; with_reducible exact H2_) | with_reducible exact H | (rw [hy302]; exact H) | exact H
              have Ny302 := Aside0.mk hy302
              clear hy302
              replace H := Option.bind_eq_some_iff.mp H
              obtain ⟨⟨t305, t306, t307⟩, A560, H⟩ := H
              replace H : (if 0 ≤ t305 then (if t305 < (y302.length : Int) then ((spec_l6Pages.f kj48 (wrap64 (x10_3 - 1))).bind fun t309 => (if (wrap64 ((rd y302 t305) * t309)) > 4095 then (spec_l6DrawTables.j7 kj48 (wrap64 (4 + t253)) x5_3 x6_1 x7_1 x8_14 x10_3 (wrap64 ((wrap64 (x9_3 * 256)) + (wrap64 (8 * (Int.tmod (wrap64 (Int.tdiv x8_14 (wrap64 (256 * t283)))) 32))))) x13_28 s0_0 t306 t307 t287 x299001_44 t289 t290 t291 t292 t293 t294 1024) else (spec_l6DrawTables.j7 kj48 (wrap64 (4 + t253)) x5_3 x6_1 x7_1 x8_14 x10_3 (wrap64 ((wrap64 (x9_3 * 256)) + (wrap64 (8 * (Int.tmod (wrap64 (Int.tdiv x8_14 (wrap64 (256 * t283)))) 32))))) x13_28 s0_0 t306 t307 t287 x299001_44 t289 t290 t291 t292 t293 t294 (wrap64 ((rd y302 t305) * t309))))) else (none)) else (none)) = some (r1, r2, r3, r4) := H
              have A56 := Aside0.mk A560
              clear A560
              by_cases c57 : 0 ≤ t305
              ·rw [if_pos c57] at H
               have c57b0 : decide (0 ≤ t305) = true := decide_eq_true c57
               clear c57
               (first | rw [c57b0] | (simp only [i64_w, i32_w]; rw [c57b0]) | skip)
               by_cases c58 : t305 < (y302.length : Int)
               ·rw [if_pos c58] at H
                have c58b0 : decide (t305 < (y302.length : Int)) = true := decide_eq_true c58
                clear c58
                replace H := Option.bind_eq_some_iff.mp H
                obtain ⟨t309, A590, H⟩ := H
                replace H : (if (wrap64 ((rd y302 t305) * t309)) > 4095 then (spec_l6DrawTables.j7 kj48 (wrap64 (4 + t253)) x5_3 x6_1 x7_1 x8_14 x10_3 (wrap64 ((wrap64 (x9_3 * 256)) + (wrap64 (8 * (Int.tmod (wrap64 (Int.tdiv x8_14 (wrap64 (256 * t283)))) 32))))) x13_28 s0_0 t306 t307 t287 x299001_44 t289 t290 t291 t292 t293 t294 1024) else (spec_l6DrawTables.j7 kj48 (wrap64 (4 + t253)) x5_3 x6_1 x7_1 x8_14 x10_3 (wrap64 ((wrap64 (x9_3 * 256)) + (wrap64 (8 * (Int.tmod (wrap64 (Int.tdiv x8_14 (wrap64 (256 * t283)))) 32))))) x13_28 s0_0 t306 t307 t287 x299001_44 t289 t290 t291 t292 t293 t294 (wrap64 ((rd y302 t305) * t309)))) = some (r1, r2, r3, r4) := H
                have A59 := Aside0.mk A590
                clear A590
                by_cases c60 : (wrap64 ((rd y302 t305) * t309)) > 4095
                ·rw [if_pos c60] at H
                 have c60b0 : decide (4095 < (wrap64 ((rd y302 t305) * t309))) = true := decide_eq_true c60
                 clear c60
                 have H' := Aside0.mk H
                 clear H
                 try go_wp2
                 have pi308 : (0 ≤ (t305 : Int)) = True := eq_true (of_decide_eq_true Z8_31)
                 have qi308 : (t305 < (y302.length : Int)) = True := eq_true (of_decide_eq_true Z8_31)
                 have n0_ := Aside0.mk (Kd.R_drew HO_5.out)
                 have n1_ := Aside0.mk (Kd.R_drew HO_6.out)
                 have n2_ := Aside0.mk (blk_drew BK298.out)
                 have n3_ := Aside0.mk (IsS116.drew HI0.out)
                 have n4_ := Aside0.mk (keep_drew HK.out)
                 have n5_ := Aside0.mk (below_drew1 HB.out)
                 clear HO_5
                 clear HO_6
                 clear BK298
                 clear HI0
                 clear HK
                 clear HB
                 have HO_5 := n0_
                 have HO_6 := n1_
                 have BK298 := n2_
                 have HI0 := n3_
                 have HK := n4_
                 have HB := n5_
                 clear n0_ n1_ n2_ n3_ n4_ n5_
                 refine start_ (n := 11) (S := fun w' => True) (ds := []) #[false, false, false, false, false, false, false, false, false, false, false] Z8_30 rfl rfl trivial (fun hHeld => ?_); refine with_tabW spec_l6DrawTables.tab20 spec_l6DrawTables.bits20 (fun HT_ HW_ => ?_)
                 generalize wc.drew = w61 at HO_5 HO_6 BK298 HI0 HK HB hHeld ⊢
                 refine pure_ (i := 1) (N := some 96) (v := ?_) (a' := ?_) #[false, true, false, false, false, false, false, false, false, false, false] rfl rfl (any_of HT_.out Z8_30) (fun _ _ _ h => h) (Or.inl ⟨by rfl, ?_⟩) ?_ ?_
                 rotate_left
                 ·intro w'
                  go_simp
                  with_reducible rfl
                 rotate_left
                 ·simp only [Act.put, List.setIfInBounds_toArray, List.set_cons_zero, List.set_cons_succ, i64_w, i32_w]
                  rfl
                 refine pure_ (i := 5) (N := some 100) (v := ?_) (a' := ?_) #[false, true, false, false, false, true, false, false, false, false, false] rfl rfl (any_of HT_.out Z8_30) (fun _ _ _ h => h) (Or.inl ⟨by rfl, ?_⟩) ?_ ?_
                 rotate_left
                 ·intro w'
                  go_simp
                  with_reducible rfl
                 rotate_left
                 ·simp only [Act.put, List.setIfInBounds_toArray, List.set_cons_zero, List.set_cons_succ, i64_w, i32_w]
                  rfl
                 refine pure_ (i := 6) (N := some 101) (v := ?_) (a' := ?_) #[false, true, false, false, false, true, true, false, false, false, false] rfl rfl (any_of HT_.out Z8_30) (fun _ _ _ h => h) (Or.inl ⟨by rfl, ?_⟩) ?_ ?_
                 rotate_left
                 ·intro w'
                  go_simp
                  with_reducible rfl
                 rotate_left
                 ·simp only [Act.put, List.setIfInBounds_toArray, List.set_cons_zero, List.set_cons_succ, i64_w, i32_w]
                  rfl
                 refine join_ (σ := Value × Addr) 3 #[true, true, true, true, true, true, true, true, false, false, false] (fun s_ => [(95, s_.1), (97, .int .i64 t305), (99, .int .i64 (rd y302 t305)), (102, .int .i64 t309), (98, .pointer (some (s_.2.add (t305).toNat)))]) (fun s_ w' => (Kd.R (Kd.int .i64) 2 w' w.heap.size (fun k_ => some k_ ≠ (u6 : Value).ownBlock) s_.1 y302) ∧ (Kd.R (Kd.int .u8) 5 w' w.heap.size (fun _ => True) v257 x5_3) ∧ (Kd.R (Kd.int .i64) 2 w' w.heap.size (fun k_ => some k_ ≠ (s_.1 : Value).ownBlock) u6 x6_1) ∧ (∃ c_, (s_.1 : Value) = .slice (some s_.2) y302.length c_) ∧ (w'.heap[gb298]? = some (.cells #[.bool t287, .bool x299001_44, .bool t289, .bool t290, .bool t291, .bool t292, .bool t293, .bool t294, .int .i64 t295] 27 (0, 0))) ∧ (IsS116 w0 w' g s0_0 t306 t307) ∧ (KeepBut w w' g none) ∧ (Below w0.heap.size w0 w')) ?_ ?_
                 rotate_left
                 ·intro hJ0_2_4_7
                  refine join_ (σ := Value × Addr) 4 #[true, true, true, true, true, true, true, false, false, false, false] (fun s_ => [(95, s_.1), (97, .int .i64 t305), (99, .int .i64 (rd y302 t305)), (98, .pointer (some (s_.2.add (t305).toNat)))]) (fun s_ w' => (Kd.R (Kd.int .i64) 2 w' w.heap.size (fun k_ => some k_ ≠ (u6 : Value).ownBlock) s_.1 y302) ∧ (Kd.R (Kd.int .u8) 5 w' w.heap.size (fun _ => True) v257 x5_3) ∧ (Kd.R (Kd.int .i64) 2 w' w.heap.size (fun k_ => some k_ ≠ (s_.1 : Value).ownBlock) u6 x6_1) ∧ (∃ c_, (s_.1 : Value) = .slice (some s_.2) y302.length c_) ∧ (w'.heap[gb298]? = some (.cells #[.bool t287, .bool x299001_44, .bool t289, .bool t290, .bool t291, .bool t292, .bool t293, .bool t294, .int .i64 t295] 27 (0, 0))) ∧ (IsS116 w0 w' g s0_0 t306 t307) ∧ (KeepBut w w' g none) ∧ (Below w0.heap.size w0 w')) ?_ ?_
                  rotate_left
                  ·intro hJ0_2_4
                   refine join_ (σ := Value × Addr) 4 #[true, true, true, true, false, true, true, true, false, false, false] (fun s_ => [(95, s_.1), (97, .int .i64 t305), (102, .int .i64 t309), (98, .pointer (some (s_.2.add (t305).toNat)))]) (fun s_ w' => (Kd.R (Kd.int .i64) 2 w' w.heap.size (fun k_ => some k_ ≠ (u6 : Value).ownBlock) s_.1 y302) ∧ (Kd.R (Kd.int .u8) 5 w' w.heap.size (fun _ => True) v257 x5_3) ∧ (Kd.R (Kd.int .i64) 2 w' w.heap.size (fun k_ => some k_ ≠ (s_.1 : Value).ownBlock) u6 x6_1) ∧ (∃ c_, (s_.1 : Value) = .slice (some s_.2) y302.length c_) ∧ (w'.heap[gb298]? = some (.cells #[.bool t287, .bool x299001_44, .bool t289, .bool t290, .bool t291, .bool t292, .bool t293, .bool t294, .int .i64 t295] 27 (0, 0))) ∧ (IsS116 w0 w' g s0_0 t306 t307) ∧ (KeepBut w w' g none) ∧ (Below w0.heap.size w0 w')) ?_ ?_
                   rotate_left
                   ·intro hJ0_2_7
                    refine join_ (σ := Value × Addr) 5 #[true, true, true, true, false, true, true, false, false, false, false] (fun s_ => [(95, s_.1), (97, .int .i64 t305), (98, .pointer (some (s_.2.add (t305).toNat)))]) (fun s_ w' => (Kd.R (Kd.int .i64) 2 w' w.heap.size (fun k_ => some k_ ≠ (u6 : Value).ownBlock) s_.1 y302) ∧ (Kd.R (Kd.int .u8) 5 w' w.heap.size (fun _ => True) v257 x5_3) ∧ (Kd.R (Kd.int .i64) 2 w' w.heap.size (fun k_ => some k_ ≠ (s_.1 : Value).ownBlock) u6 x6_1) ∧ (∃ c_, (s_.1 : Value) = .slice (some s_.2) y302.length c_) ∧ (w'.heap[gb298]? = some (.cells #[.bool t287, .bool x299001_44, .bool t289, .bool t290, .bool t291, .bool t292, .bool t293, .bool t294, .int .i64 t295] 27 (0, 0))) ∧ (IsS116 w0 w' g s0_0 t306 t307) ∧ (KeepBut w w' g none) ∧ (Below w0.heap.size w0 w')) ?_ ?_
                    rotate_left
                    ·intro hJ0_2
                     refine join_ (σ := Unit) 6 #[false, true, true, false, false, true, true, true, false, false, false] (fun s_ => [(97, .int .i64 t305), (102, .int .i64 t309)]) (fun s_ w' => (Kd.R (Kd.int .u8) 5 w' w.heap.size (fun _ => True) v257 x5_3) ∧ (Kd.R (Kd.int .i64) 2 w' w.heap.size (fun _ => True) u6 x6_1) ∧ (w'.heap[gb298]? = some (.cells #[.bool t287, .bool x299001_44, .bool t289, .bool t290, .bool t291, .bool t292, .bool t293, .bool t294, .int .i64 t295] 27 (0, 0))) ∧ (IsS116 w0 w' g s0_0 t306 t307) ∧ (KeepBut w w' g none) ∧ (Below w0.heap.size w0 w')) ?_ ?_
                     rotate_left
                     ·intro hJ2_7
                      refine join_ (σ := Value × Addr) 7 #[true, true, false, false, false, true, true, false, false, false, false] (fun s_ => [(95, s_.1)]) (fun s_ w' => (Kd.R (Kd.int .i64) 2 w' w.heap.size (fun k_ => some k_ ≠ (u6 : Value).ownBlock) s_.1 y302) ∧ (Kd.R (Kd.int .u8) 5 w' w.heap.size (fun _ => True) v257 x5_3) ∧ (Kd.R (Kd.int .i64) 2 w' w.heap.size (fun k_ => some k_ ≠ (s_.1 : Value).ownBlock) u6 x6_1) ∧ (∃ c_, (s_.1 : Value) = .slice (some s_.2) y302.length c_) ∧ (w'.heap[gb298]? = some (.cells #[.bool t287, .bool x299001_44, .bool t289, .bool t290, .bool t291, .bool t292, .bool t293, .bool t294, .int .i64 t295] 27 (0, 0))) ∧ (IsS116 w0 w' g s0_0 x1001_48 x1002_48) ∧ (KeepBut w w' g none) ∧ (Below w0.heap.size w0 w')) ?_ ?_
                      rotate_left
                      ·intro hJ0
                       refine join_ (σ := Unit) 7 #[false, true, true, false, false, true, true, false, false, false, false] (fun s_ => [(97, .int .i64 t305)]) (fun s_ w' => (Kd.R (Kd.int .u8) 5 w' w.heap.size (fun _ => True) v257 x5_3) ∧ (Kd.R (Kd.int .i64) 2 w' w.heap.size (fun _ => True) u6 x6_1) ∧ (w'.heap[gb298]? = some (.cells #[.bool t287, .bool x299001_44, .bool t289, .bool t290, .bool t291, .bool t292, .bool t293, .bool t294, .int .i64 t295] 27 (0, 0))) ∧ (IsS116 w0 w' g s0_0 t306 t307) ∧ (KeepBut w w' g none) ∧ (Below w0.heap.size w0 w')) ?_ ?_
                       rotate_left
                       ·intro hJ2
                        refine two_ (i := 0) (j := 2) (Ni := some 95) (Nj := some 97) #[true, true, false, false, false, true, true, false, false, false, false] #[false, true, true, false, false, true, true, false, false, false, false] rfl rfl rfl rfl (two_of HT_.out Z8_30) Z8_32 Z8_32 (fun K hK => ?_) (fun K hK => ?_)
                        ·skip
                         refine Kd.R_lit_step (Kd.int .i64) _ 2 ?hg (N := 95) ?hd (xs := ([0, 32, 1024, 2048, 3072] : List Int)) (inner := [.int .i64 0, .int .i64 32, .int .i64 1024, .int .i64 2048, .int .i64 3072]) (ok := fun _ => True) (okp := fun _ => True) ?hr ?hp (fun _ hk => hk) trivial (Below.refl _ _) (Nat.le_refl _) (by simp) ?_; (case hd => rfl); (case hg => rfl); (case hr => exact Z8_35); (case hp => exact (Reps.one (show Kd.M (Kd.int .i64) _ _ _ 0 [.int .i64 0] from rfl) (Reps.one (show Kd.M (Kd.int .i64) _ _ _ 32 [.int .i64 32] from rfl) (Reps.one (show Kd.M (Kd.int .i64) _ _ _ 1024 [.int .i64 1024] from rfl) (Reps.one (show Kd.M (Kd.int .i64) _ _ _ 2048 [.int .i64 2048] from rfl) (Reps.one (show Kd.M (Kd.int .i64) _ _ _ 3072 [.int .i64 3072] from rfl) (Reps.none _ _)))))))
                         intro v303 w62 ho63 hb hg_ hnew_
                         clear hg_ hnew_
                         (first | rw [← Ny302.out] at ho63 | (simp only [Int.reduceToNat] at ho63; rw [← Ny302.out] at ho63))
                         have n0_ := Aside0.mk (Kd.R_below Z8_4 hb)
                         have n1_ := Aside0.mk (Kd.R_elder' Z8_5 (Kd.R_base ho63) hb)
                         have n2_ := Aside0.mk (Kd.R_lower (Kd.R_new' ho63 (Kd.R_lt Z8_5)) (keep_size (w := w) (g := g) (row := none) Z8_1))
                         have n3_ := Aside0.mk (blk_below (g := gb298) (o := .cells #[.bool t287, .bool x299001_44, .bool t289, .bool t290, .bool t291, .bool t292, .bool t293, .bool t294, .int .i64 t295] 27 (0, 0)) Z8_6 hb)
                         have n4_ := Aside0.mk (IsS116.below Z8_2 hb)
                         have n5_ := Aside0.mk (KeepBut.trans Z8_1 (KeepBut.of_below hb g none) (.inl rfl))
                         have n6_ := Aside0.mk (below_step Z8_3 hb)
                         clear HO_5
                         clear HO_6
                         clear BK298
                         clear HI0
                         clear HK
                         clear HB
                         have HO_5 := n0_
                         have HO_6 := n1_
                         have HO304 := n2_
                         have BK298 := n3_
                         have HI0 := n4_
                         have HK := n5_
                         have HB := n6_
                         clear n0_ n1_ n2_ n3_ n4_ n5_ n6_
                         clear hb ho63
                         obtain ⟨Ao64, co64, eo64⟩ := Kd.R_slice HO304.out
                         subst eo64
                         obtain ⟨ado64, fo64, _⟩ := Kd.at_int (Kd.R_reads' HO304.out).2.2 0 Z8_32 (by rw [Ny302.out]; simp)
                         cases fo64
                         refine hK.out _ _ trivial (fun hHeld => ?_)
                         clear hK K
                         refine norm_ (a' := ?_) ?_ ?_
                         rotate_left
                         ·show Act.put _ (some 95) _ = _
                          simp only [Act.put, List.setIfInBounds_toArray, List.set_cons_zero, List.set_cons_succ, i64_w, i32_w]
                          rfl
                         exact norm_ Z8_8 (hJ0 (.slice (some ado64) y302.length co64, ado64) _ ⟨Z8_26, Z8_4, Z8_27, ⟨_, rfl⟩, Z8_6, Z8_2, Z8_1, Z8_3⟩)
                        skip
                        refine goes_ Try.func61 Z8_30 rfl #[.pointer (some ⟨g, 0, none⟩), .int .i64 5] (by rfl) rfl rfl Z8_7 ?_
                        with_reducible refine (spec_l1Below.calls g s0_0 x1001_48 x1002_48 5 t305 t306 t307 w0 _ ?side1 ?side2 A56.out).mono ?_
                        (case side1 => exact Z8_2)
                        (case side2 => exact Z8_3)
                        rintro e w62 ⟨rfl, hi, hb, hk⟩
                        refine ⟨_, rfl, ?_⟩
                        have n0_ := Aside0.mk (Kd.R_mono (Kd.R_keep (IsS116.apart (show IsS116 w0 _ g s0_0 x1001_48 x1002_48 from by repeat (first | (with_reducible first | exact HI0.out | apply IsS116.alloc | apply IsS116.drewN | apply IsS116.drew | apply IsS116.set_1 | apply IsS116.set_2 | refine IsS116.far ?_ NB0_298.out _) | exact HI0.out)) Z8_4 Z8_32) hk (fun _ h => h.2)) (fun _ h => h.1))
                        have n1_ := Aside0.mk (Kd.R_mono (Kd.R_keep (IsS116.apart (show IsS116 w0 _ g s0_0 x1001_48 x1002_48 from by repeat (first | (with_reducible first | exact HI0.out | apply IsS116.alloc | apply IsS116.drewN | apply IsS116.drew | apply IsS116.set_1 | apply IsS116.set_2 | refine IsS116.far ?_ NB0_298.out _) | exact HI0.out)) Z8_5 Z8_32) hk (fun _ h => h.2)) (fun _ h => h.1))
                        have n2_ := Aside0.mk (KeepBut.blk hk (g' := gb298) (o := .cells #[.bool t287, .bool x299001_44, .bool t289, .bool t290, .bool t291, .bool t292, .bool t293, .bool t294, .int .i64 t295] 27 (0, 0)) Z8_6 NB298_0.out (by simp))
                        have n3_ := Aside0.mk (KeepBut.trans Z8_1 hk (.inl rfl))
                        have n4_ := Aside0.mk (hb)
                        have n5_ := Aside0.mk (hi)
                        clear HO_5
                        clear HO_6
                        clear BK298
                        clear HK
                        clear HB
                        clear HI0
                        have HO_5 := n0_
                        have HO_6 := n1_
                        have BK298 := n2_
                        have HK := n3_
                        have HB := n4_
                        have HI0 := n5_
                        clear n0_ n1_ n2_ n3_ n4_ n5_
                        (try clear hb)
                        (try clear hb2)
                        (try clear hk)
                        (try clear hi)
                        refine hK.out _ _ trivial (fun hHeld => ?_)
                        clear hK K
                        refine norm_ (a' := ?_) ?_ ?_
                        rotate_left
                        ·show Act.put _ (some 97) _ = _
                         simp only [Act.put, List.setIfInBounds_toArray, List.set_cons_zero, List.set_cons_succ, i64_w, i32_w]
                         rfl
                        exact norm_ Z8_8 (hJ2 () _ ⟨Z8_4, Z8_5, Z8_6, Z8_2, Z8_1, Z8_3⟩)
                       skip
                       rintro _ w63 ⟨h0_, h1_, h2_, h3_, h4_, h5_⟩
                       have n0_ : Aside0 (Kd.R (Kd.int .u8) 5 w63 w.heap.size (fun _ => True) v257 x5_3) := ⟨h0_⟩
                       have n1_ : Aside0 (Kd.R (Kd.int .i64) 2 w63 w.heap.size (fun _ => True) u6 x6_1) := ⟨h1_⟩
                       have n2_ : Aside0 (w63.heap[gb298]? = some (.cells #[.bool t287, .bool x299001_44, .bool t289, .bool t290, .bool t291, .bool t292, .bool t293, .bool t294, .int .i64 t295] 27 (0, 0))) := ⟨h2_⟩
                       have n3_ : Aside0 (IsS116 w0 w63 g s0_0 t306 t307) := ⟨h3_⟩
                       have n4_ : Aside0 (KeepBut w w63 g none) := ⟨h4_⟩
                       have n5_ : Aside0 (Below w0.heap.size w0 w63) := ⟨h5_⟩
                       clear HO_5
                       clear HO_6
                       clear BK298
                       clear HI0
                       clear HK
                       clear HB
                       clear h0_ h1_ h2_ h3_ h4_ h5_
                       have HO_5 := n0_
                       have HO_6 := n1_
                       have BK298 := n2_
                       have HI0 := n3_
                       have HK := n4_
                       have HB := n5_
                       clear n0_ n1_ n2_ n3_ n4_ n5_
                       have hHeld := trivial
                       refine norm_ (a' := ?_) ?_ ?_
                       rotate_left
                       ·simp only [putAll, Act.put, List.setIfInBounds_toArray, List.set_cons_zero, List.set_cons_succ]
                        rfl
                       refine two_ (i := 0) (j := 7) (Ni := some 95) (Nj := some 102) #[true, true, true, false, false, true, true, false, false, false, false] #[false, true, true, false, false, true, true, true, false, false, false] rfl rfl rfl rfl (two_of HT_.out Z8_30) Z8_32 Z8_32 (fun K hK => ?_) (fun K hK => ?_)
                       ·skip
                        refine Kd.R_lit_step (Kd.int .i64) _ 2 ?hg (N := 95) ?hd (xs := ([0, 32, 1024, 2048, 3072] : List Int)) (inner := [.int .i64 0, .int .i64 32, .int .i64 1024, .int .i64 2048, .int .i64 3072]) (ok := fun _ => True) (okp := fun _ => True) ?hr ?hp (fun _ hk => hk) trivial (Below.refl _ _) (Nat.le_refl _) (by simp) ?_; (case hd => rfl); (case hg => rfl); (case hr => exact Z8_35); (case hp => exact (Reps.one (show Kd.M (Kd.int .i64) _ _ _ 0 [.int .i64 0] from rfl) (Reps.one (show Kd.M (Kd.int .i64) _ _ _ 32 [.int .i64 32] from rfl) (Reps.one (show Kd.M (Kd.int .i64) _ _ _ 1024 [.int .i64 1024] from rfl) (Reps.one (show Kd.M (Kd.int .i64) _ _ _ 2048 [.int .i64 2048] from rfl) (Reps.one (show Kd.M (Kd.int .i64) _ _ _ 3072 [.int .i64 3072] from rfl) (Reps.none _ _)))))))
                        intro v303 w64 ho65 hb hg_ hnew_
                        clear hg_ hnew_
                        (first | rw [← Ny302.out] at ho65 | (simp only [Int.reduceToNat] at ho65; rw [← Ny302.out] at ho65))
                        have n0_ := Aside0.mk (Kd.R_below Z8_4 hb)
                        have n1_ := Aside0.mk (Kd.R_elder' Z8_5 (Kd.R_base ho65) hb)
                        have n2_ := Aside0.mk (Kd.R_lower (Kd.R_new' ho65 (Kd.R_lt Z8_5)) (keep_size (w := w) (g := g) (row := none) Z8_1))
                        have n3_ := Aside0.mk (blk_below (g := gb298) (o := .cells #[.bool t287, .bool x299001_44, .bool t289, .bool t290, .bool t291, .bool t292, .bool t293, .bool t294, .int .i64 t295] 27 (0, 0)) Z8_6 hb)
                        have n4_ := Aside0.mk (IsS116.below Z8_2 hb)
                        have n5_ := Aside0.mk (KeepBut.trans Z8_1 (KeepBut.of_below hb g none) (.inl rfl))
                        have n6_ := Aside0.mk (below_step Z8_3 hb)
                        clear HO_5
                        clear HO_6
                        clear BK298
                        clear HI0
                        clear HK
                        clear HB
                        have HO_5 := n0_
                        have HO_6 := n1_
                        have HO304 := n2_
                        have BK298 := n3_
                        have HI0 := n4_
                        have HK := n5_
                        have HB := n6_
                        clear n0_ n1_ n2_ n3_ n4_ n5_ n6_
                        clear hb ho65
                        obtain ⟨Ao66, co66, eo66⟩ := Kd.R_slice HO304.out
                        subst eo66
                        obtain ⟨ado66, fo66, _⟩ := Kd.at_int (Kd.R_reads' HO304.out).2.2 0 Z8_32 (by rw [Ny302.out]; simp)
                        cases fo66
                        refine hK.out _ _ trivial (fun hHeld => ?_)
                        clear hK K
                        refine norm_ (a' := ?_) ?_ ?_
                        rotate_left
                        ·show Act.put _ (some 95) _ = _
                         simp only [Act.put, List.setIfInBounds_toArray, List.set_cons_zero, List.set_cons_succ, i64_w, i32_w]
                         rfl
                        refine pure_ (i := 3) (N := some 98) (v := ?_) (a' := ?_) #[true, true, true, true, false, true, true, false, false, false, false] rfl rfl (any_of HT_.out Z8_30) (fun _ _ _ h => h) (Or.inl ⟨by rfl, ?_⟩) ?_ ?_
                        rotate_left
                        ·intro w'
                         go_simp
                         with_reducible rfl
                        rotate_left
                        ·simp only [Act.put, List.setIfInBounds_toArray, List.set_cons_zero, List.set_cons_succ, i64_w, i32_w]
                         rfl
                        exact norm_ Z8_8 (hJ0_2 (.slice (some ado66) y302.length co66, ado66) _ ⟨Z8_26, Z8_4, Z8_27, ⟨_, rfl⟩, Z8_6, Z8_2, Z8_1, Z8_3⟩)
                       skip
                       refine goes_ Try.func87 Z8_30 rfl #[.int .i64 (wrap64 (x10_3 - 1))] (by rfl) rfl rfl Z8_7 ?_
                       with_reducible refine (spec_l6Pages.calls kj48 (wrap64 (x10_3 - 1)) t309 _ A59.out).mono ?_
                       rintro e w' ⟨rfl, ⟨nd, rfl⟩⟩
                       refine ⟨_, rfl, ?_⟩
                       refine hK.out _ _ trivial (fun hHeld => ?_)
                       clear hK K
                       refine norm_ (a' := ?_) ?_ ?_
                       rotate_left
                       ·show Act.put _ (some 102) _ = _
                        simp only [Act.put, List.setIfInBounds_toArray, List.set_cons_zero, List.set_cons_succ, i64_w, i32_w]
                        rfl
                       exact norm_ Z8_8 (hJ2_7 () _ ⟨Z8_4, Z8_5, Z8_6, Z8_2, Z8_1, Z8_3⟩)
                      skip
                      rintro ⟨v303, adz_v303⟩ w65 ⟨h0_, h1_, h2_, h3_, h4_, h5_, h6_, h7_⟩
                      have n0_ : Aside0 (Kd.R (Kd.int .i64) 2 w65 w.heap.size (fun k_ => some k_ ≠ (u6 : Value).ownBlock) v303 y302) := ⟨h0_⟩
                      have n1_ : Aside0 (Kd.R (Kd.int .u8) 5 w65 w.heap.size (fun _ => True) v257 x5_3) := ⟨h1_⟩
                      have n2_ : Aside0 (Kd.R (Kd.int .i64) 2 w65 w.heap.size (fun k_ => some k_ ≠ (v303 : Value).ownBlock) u6 x6_1) := ⟨h2_⟩
                      have n3_ : Aside0 (∃ c_, (v303 : Value) = .slice (some adz_v303) y302.length c_) := ⟨h3_⟩
                      have n4_ : Aside0 (w65.heap[gb298]? = some (.cells #[.bool t287, .bool x299001_44, .bool t289, .bool t290, .bool t291, .bool t292, .bool t293, .bool t294, .int .i64 t295] 27 (0, 0))) := ⟨h4_⟩
                      have n5_ : Aside0 (IsS116 w0 w65 g s0_0 x1001_48 x1002_48) := ⟨h5_⟩
                      have n6_ : Aside0 (KeepBut w w65 g none) := ⟨h6_⟩
                      have n7_ : Aside0 (Below w0.heap.size w0 w65) := ⟨h7_⟩
                      clear HO_5
                      clear HO_6
                      clear BK298
                      clear HI0
                      clear HK
                      clear HB
                      clear h0_ h1_ h2_ h3_ h4_ h5_ h6_ h7_
                      have HO304 := n0_
                      have HO_5 := n1_
                      have HO_6 := n2_
                      have HA_HO304 := n3_
                      have BK298 := n4_
                      have HI0 := n5_
                      have HK := n6_
                      have HB := n7_
                      clear n0_ n1_ n2_ n3_ n4_ n5_ n6_ n7_
                      have hHeld := trivial
                      obtain ⟨co66, eo66⟩ := HA_HO304.out
                      clear HA_HO304
                      subst eo66
                      refine norm_ (a' := ?_) ?_ ?_
                      rotate_left
                      ·simp only [putAll, Act.put, List.setIfInBounds_toArray, List.set_cons_zero, List.set_cons_succ]
                       rfl
                      refine one_ (i := 2) (N := some 97) #[true, true, true, false, false, true, true, false, false, false, false] rfl rfl (one_of HT_.out Z8_30) Z8_32 (fun K hK => ?_)
                      refine goes_ Try.func61 Z8_30 rfl #[.pointer (some ⟨g, 0, none⟩), .int .i64 5] (by rfl) rfl rfl Z8_7 ?_
                      with_reducible refine (spec_l1Below.calls g s0_0 x1001_48 x1002_48 5 t305 t306 t307 w0 _ ?side1 ?side2 A56.out).mono ?_
                      (case side1 => exact Z8_2)
                      (case side2 => exact Z8_3)
                      rintro e w67 ⟨rfl, hi, hb, hk⟩
                      refine ⟨_, rfl, ?_⟩
                      have n0_ := Aside0.mk (Kd.R_mono (Kd.R_keep (IsS116.apart (show IsS116 w0 _ g s0_0 x1001_48 x1002_48 from by repeat (first | (with_reducible first | exact HI0.out | apply IsS116.alloc | apply IsS116.drewN | apply IsS116.drew | apply IsS116.set_1 | apply IsS116.set_2 | refine IsS116.far ?_ NB0_298.out _) | exact HI0.out)) Z8_4 Z8_32) hk (fun _ h => h.2)) (fun _ h => h.1))
                      have n1_ := Aside0.mk (Kd.R_mono (Kd.R_keep (IsS116.apart (show IsS116 w0 _ g s0_0 x1001_48 x1002_48 from by repeat (first | (with_reducible first | exact HI0.out | apply IsS116.alloc | apply IsS116.drewN | apply IsS116.drew | apply IsS116.set_1 | apply IsS116.set_2 | refine IsS116.far ?_ NB0_298.out _) | exact HI0.out)) Z8_5 Z8_32) hk (fun _ h => h.2)) (fun _ h => h.1))
                      have n2_ := Aside0.mk (KeepBut.blk hk (g' := gb298) (o := .cells #[.bool t287, .bool x299001_44, .bool t289, .bool t290, .bool t291, .bool t292, .bool t293, .bool t294, .int .i64 t295] 27 (0, 0)) Z8_6 NB298_0.out (by simp))
                      have n3_ := Aside0.mk (Kd.R_mono (Kd.R_keep (IsS116.apart (show IsS116 w0 _ g s0_0 x1001_48 x1002_48 from by repeat (first | (with_reducible first | exact HI0.out | apply IsS116.alloc | apply IsS116.drewN | apply IsS116.drew | apply IsS116.set_1 | apply IsS116.set_2 | refine IsS116.far ?_ NB0_298.out _) | exact HI0.out)) Z8_19 Z8_32) hk (fun _ h => h.2)) (fun _ h => h.1))
                      have n4_ := Aside0.mk (KeepBut.trans Z8_1 hk (.inl rfl))
                      have n5_ := Aside0.mk (hb)
                      have n6_ := Aside0.mk (hi)
                      clear HO_5
                      clear HO_6
                      clear BK298
                      clear HO304
                      clear HK
                      clear HB
                      clear HI0
                      have HO_5 := n0_
                      have HO_6 := n1_
                      have BK298 := n2_
                      have HO304 := n3_
                      have HK := n4_
                      have HB := n5_
                      have HI0 := n6_
                      clear n0_ n1_ n2_ n3_ n4_ n5_ n6_
                      (try clear hb)
                      (try clear hb2)
                      (try clear hk)
                      (try clear hi)
                      refine hK.out _ _ trivial (fun hHeld => ?_)
                      clear hK K
                      refine norm_ (a' := ?_) ?_ ?_
                      rotate_left
                      ·show Act.put _ (some 97) _ = _
                       simp only [Act.put, List.setIfInBounds_toArray, List.set_cons_zero, List.set_cons_succ, i64_w, i32_w]
                       rfl
                      refine pure_ (i := 3) (N := some 98) (v := ?_) (a' := ?_) #[true, true, true, true, false, true, true, false, false, false, false] rfl rfl (any_of HT_.out Z8_30) (fun _ _ _ h => h) (Or.inl ⟨by rfl, ?_⟩) ?_ ?_
                      rotate_left
                      ·intro w'
                       go_simp
                       with_reducible rfl
                      rotate_left
                      ·simp only [Act.put, List.setIfInBounds_toArray, List.set_cons_zero, List.set_cons_succ, i64_w, i32_w]
                       rfl
                      exact norm_ Z8_8 (hJ0_2 (.slice (some adz_v303) y302.length co66, adz_v303) _ ⟨Z8_19, Z8_4, Z8_5, ⟨_, rfl⟩, Z8_6, Z8_2, Z8_1, Z8_3⟩)
                     skip
                     rintro _ w63 ⟨h0_, h1_, h2_, h3_, h4_, h5_⟩
                     have n0_ : Aside0 (Kd.R (Kd.int .u8) 5 w63 w.heap.size (fun _ => True) v257 x5_3) := ⟨h0_⟩
                     have n1_ : Aside0 (Kd.R (Kd.int .i64) 2 w63 w.heap.size (fun _ => True) u6 x6_1) := ⟨h1_⟩
                     have n2_ : Aside0 (w63.heap[gb298]? = some (.cells #[.bool t287, .bool x299001_44, .bool t289, .bool t290, .bool t291, .bool t292, .bool t293, .bool t294, .int .i64 t295] 27 (0, 0))) := ⟨h2_⟩
                     have n3_ : Aside0 (IsS116 w0 w63 g s0_0 t306 t307) := ⟨h3_⟩
                     have n4_ : Aside0 (KeepBut w w63 g none) := ⟨h4_⟩
                     have n5_ : Aside0 (Below w0.heap.size w0 w63) := ⟨h5_⟩
                     clear HO_5
                     clear HO_6
                     clear BK298
                     clear HI0
                     clear HK
                     clear HB
                     clear h0_ h1_ h2_ h3_ h4_ h5_
                     have HO_5 := n0_
                     have HO_6 := n1_
                     have BK298 := n2_
                     have HI0 := n3_
                     have HK := n4_
                     have HB := n5_
                     clear n0_ n1_ n2_ n3_ n4_ n5_
                     have hHeld := trivial
                     refine norm_ (a' := ?_) ?_ ?_
                     rotate_left
                     ·simp only [putAll, Act.put, List.setIfInBounds_toArray, List.set_cons_zero, List.set_cons_succ]
                      rfl
                     refine one_ (i := 0) (N := some 95) #[true, true, true, false, false, true, true, true, false, false, false] rfl rfl (one_of HT_.out Z8_30) Z8_32 (fun K hK => ?_)
                     refine Kd.R_lit_step (Kd.int .i64) _ 2 ?hg (N := 95) ?hd (xs := ([0, 32, 1024, 2048, 3072] : List Int)) (inner := [.int .i64 0, .int .i64 32, .int .i64 1024, .int .i64 2048, .int .i64 3072]) (ok := fun _ => True) (okp := fun _ => True) ?hr ?hp (fun _ hk => hk) trivial (Below.refl _ _) (Nat.le_refl _) (by simp) ?_; (case hd => rfl); (case hg => rfl); (case hr => exact Z8_35); (case hp => exact (Reps.one (show Kd.M (Kd.int .i64) _ _ _ 0 [.int .i64 0] from rfl) (Reps.one (show Kd.M (Kd.int .i64) _ _ _ 32 [.int .i64 32] from rfl) (Reps.one (show Kd.M (Kd.int .i64) _ _ _ 1024 [.int .i64 1024] from rfl) (Reps.one (show Kd.M (Kd.int .i64) _ _ _ 2048 [.int .i64 2048] from rfl) (Reps.one (show Kd.M (Kd.int .i64) _ _ _ 3072 [.int .i64 3072] from rfl) (Reps.none _ _)))))))
                     intro v303 w64 ho65 hb hg_ hnew_
                     clear hg_ hnew_
                     (first | rw [← Ny302.out] at ho65 | (simp only [Int.reduceToNat] at ho65; rw [← Ny302.out] at ho65))
                     have n0_ := Aside0.mk (Kd.R_below Z8_4 hb)
                     have n1_ := Aside0.mk (Kd.R_elder' Z8_5 (Kd.R_base ho65) hb)
                     have n2_ := Aside0.mk (Kd.R_lower (Kd.R_new' ho65 (Kd.R_lt Z8_5)) (keep_size (w := w) (g := g) (row := none) Z8_1))
                     have n3_ := Aside0.mk (blk_below (g := gb298) (o := .cells #[.bool t287, .bool x299001_44, .bool t289, .bool t290, .bool t291, .bool t292, .bool t293, .bool t294, .int .i64 t295] 27 (0, 0)) Z8_6 hb)
                     have n4_ := Aside0.mk (IsS116.below Z8_2 hb)
                     have n5_ := Aside0.mk (KeepBut.trans Z8_1 (KeepBut.of_below hb g none) (.inl rfl))
                     have n6_ := Aside0.mk (below_step Z8_3 hb)
                     clear HO_5
                     clear HO_6
                     clear BK298
                     clear HI0
                     clear HK
                     clear HB
                     have HO_5 := n0_
                     have HO_6 := n1_
                     have HO304 := n2_
                     have BK298 := n3_
                     have HI0 := n4_
                     have HK := n5_
                     have HB := n6_
                     clear n0_ n1_ n2_ n3_ n4_ n5_ n6_
                     clear hb ho65
                     obtain ⟨Ao66, co66, eo66⟩ := Kd.R_slice HO304.out
                     subst eo66
                     obtain ⟨ado66, fo66, _⟩ := Kd.at_int (Kd.R_reads' HO304.out).2.2 0 Z8_32 (by rw [Ny302.out]; simp)
                     cases fo66
                     refine hK.out _ _ trivial (fun hHeld => ?_)
                     clear hK K
                     refine norm_ (a' := ?_) ?_ ?_
                     rotate_left
                     ·show Act.put _ (some 95) _ = _
                      simp only [Act.put, List.setIfInBounds_toArray, List.set_cons_zero, List.set_cons_succ, i64_w, i32_w]
                      rfl
                     refine pure_ (i := 3) (N := some 98) (v := ?_) (a' := ?_) #[true, true, true, true, false, true, true, true, false, false, false] rfl rfl (any_of HT_.out Z8_30) (fun _ _ _ h => h) (Or.inl ⟨by rfl, ?_⟩) ?_ ?_
                     rotate_left
                     ·intro w'
                      go_simp
                      with_reducible rfl
                     rotate_left
                     ·simp only [Act.put, List.setIfInBounds_toArray, List.set_cons_zero, List.set_cons_succ, i64_w, i32_w]
                      rfl
                     exact norm_ Z8_8 (hJ0_2_7 (.slice (some ado66) y302.length co66, ado66) _ ⟨Z8_26, Z8_4, Z8_27, ⟨_, rfl⟩, Z8_6, Z8_2, Z8_1, Z8_3⟩)
                    skip
                    rintro ⟨v303, adz_v303⟩ w66 ⟨h0_, h1_, h2_, h3_, h4_, h5_, h6_, h7_⟩
                    have n0_ : Aside0 (Kd.R (Kd.int .i64) 2 w66 w.heap.size (fun k_ => some k_ ≠ (u6 : Value).ownBlock) v303 y302) := ⟨h0_⟩
                    have n1_ : Aside0 (Kd.R (Kd.int .u8) 5 w66 w.heap.size (fun _ => True) v257 x5_3) := ⟨h1_⟩
                    have n2_ : Aside0 (Kd.R (Kd.int .i64) 2 w66 w.heap.size (fun k_ => some k_ ≠ (v303 : Value).ownBlock) u6 x6_1) := ⟨h2_⟩
                    have n3_ : Aside0 (∃ c_, (v303 : Value) = .slice (some adz_v303) y302.length c_) := ⟨h3_⟩
                    have n4_ : Aside0 (w66.heap[gb298]? = some (.cells #[.bool t287, .bool x299001_44, .bool t289, .bool t290, .bool t291, .bool t292, .bool t293, .bool t294, .int .i64 t295] 27 (0, 0))) := ⟨h4_⟩
                    have n5_ : Aside0 (IsS116 w0 w66 g s0_0 t306 t307) := ⟨h5_⟩
                    have n6_ : Aside0 (KeepBut w w66 g none) := ⟨h6_⟩
                    have n7_ : Aside0 (Below w0.heap.size w0 w66) := ⟨h7_⟩
                    clear HO_5
                    clear HO_6
                    clear BK298
                    clear HI0
                    clear HK
                    clear HB
                    clear h0_ h1_ h2_ h3_ h4_ h5_ h6_ h7_
                    have HO304 := n0_
                    have HO_5 := n1_
                    have HO_6 := n2_
                    have HA_HO304 := n3_
                    have BK298 := n4_
                    have HI0 := n5_
                    have HK := n6_
                    have HB := n7_
                    clear n0_ n1_ n2_ n3_ n4_ n5_ n6_ n7_
                    have hHeld := trivial
                    obtain ⟨co67, eo67⟩ := HA_HO304.out
                    clear HA_HO304
                    subst eo67
                    refine norm_ (a' := ?_) ?_ ?_
                    rotate_left
                    ·simp only [putAll, Act.put, List.setIfInBounds_toArray, List.set_cons_zero, List.set_cons_succ]
                     rfl
                    refine two_ (i := 4) (j := 7) (Ni := some 99) (Nj := some 102) #[true, true, true, true, true, true, true, false, false, false, false] #[true, true, true, true, false, true, true, true, false, false, false] rfl rfl rfl rfl (two_of HT_.out Z8_30) Z8_32 Z8_32 (fun K hK => ?_) (fun K hK => ?_)
                    ·skip
                     (have p308 : 0 ≤ (t305 : Int) := of_decide_eq_true Z8_31; have q308 : t305 < (y302.length : Int) := of_decide_eq_true Z8_31; obtain ⟨ad308, e308, hx308_0⟩ := Kd.at_int (Kd.R_reads' HO304.out).2.2 t305 p308 q308; obtain rfl : adz_v303 = ad308 := (by injection e308))
                     refine value_ (w1 := ?_) (v := ?_) (by rfl) rfl ?_ ?_
                     rotate_left 2
                     ·go_simp
                      constructor
                      ·rfl
                      rfl
                     clear hx308_0
                     refine hK.out _ _ trivial (fun hHeld => ?_)
                     clear hK K
                     refine norm_ (a' := ?_) ?_ ?_
                     rotate_left
                     ·show Act.put _ (some 99) _ = _
                      simp only [Act.put, List.setIfInBounds_toArray, List.set_cons_zero, List.set_cons_succ, i64_w, i32_w]
                      rfl
                     exact norm_ Z8_8 (hJ0_2_4 (.slice (some adz_v303) y302.length co67, adz_v303) _ ⟨Z8_19, Z8_4, Z8_5, ⟨_, rfl⟩, Z8_6, Z8_2, Z8_1, Z8_3⟩)
                    skip
                    refine goes_ Try.func87 Z8_30 rfl #[.int .i64 (wrap64 (x10_3 - 1))] (by rfl) rfl rfl Z8_7 ?_
                    with_reducible refine (spec_l6Pages.calls kj48 (wrap64 (x10_3 - 1)) t309 _ A59.out).mono ?_
                    rintro e w' ⟨rfl, ⟨nd, rfl⟩⟩
                    refine ⟨_, rfl, ?_⟩
                    refine hK.out _ _ trivial (fun hHeld => ?_)
                    clear hK K
                    refine norm_ (a' := ?_) ?_ ?_
                    rotate_left
                    ·show Act.put _ (some 102) _ = _
                     simp only [Act.put, List.setIfInBounds_toArray, List.set_cons_zero, List.set_cons_succ, i64_w, i32_w]
                     rfl
                    exact norm_ Z8_8 (hJ0_2_7 (.slice (some adz_v303) y302.length co67, adz_v303) _ ⟨Z8_19, Z8_4, Z8_5, ⟨_, rfl⟩, Z8_6, Z8_2, Z8_1, Z8_3⟩)
                   skip
                   rintro ⟨v303, adz_v303⟩ w66 ⟨h0_, h1_, h2_, h3_, h4_, h5_, h6_, h7_⟩
                   have n0_ : Aside0 (Kd.R (Kd.int .i64) 2 w66 w.heap.size (fun k_ => some k_ ≠ (u6 : Value).ownBlock) v303 y302) := ⟨h0_⟩
                   have n1_ : Aside0 (Kd.R (Kd.int .u8) 5 w66 w.heap.size (fun _ => True) v257 x5_3) := ⟨h1_⟩
                   have n2_ : Aside0 (Kd.R (Kd.int .i64) 2 w66 w.heap.size (fun k_ => some k_ ≠ (v303 : Value).ownBlock) u6 x6_1) := ⟨h2_⟩
                   have n3_ : Aside0 (∃ c_, (v303 : Value) = .slice (some adz_v303) y302.length c_) := ⟨h3_⟩
                   have n4_ : Aside0 (w66.heap[gb298]? = some (.cells #[.bool t287, .bool x299001_44, .bool t289, .bool t290, .bool t291, .bool t292, .bool t293, .bool t294, .int .i64 t295] 27 (0, 0))) := ⟨h4_⟩
                   have n5_ : Aside0 (IsS116 w0 w66 g s0_0 t306 t307) := ⟨h5_⟩
                   have n6_ : Aside0 (KeepBut w w66 g none) := ⟨h6_⟩
                   have n7_ : Aside0 (Below w0.heap.size w0 w66) := ⟨h7_⟩
                   clear HO_5
                   clear HO_6
                   clear BK298
                   clear HI0
                   clear HK
                   clear HB
                   clear h0_ h1_ h2_ h3_ h4_ h5_ h6_ h7_
                   have HO304 := n0_
                   have HO_5 := n1_
                   have HO_6 := n2_
                   have HA_HO304 := n3_
                   have BK298 := n4_
                   have HI0 := n5_
                   have HK := n6_
                   have HB := n7_
                   clear n0_ n1_ n2_ n3_ n4_ n5_ n6_ n7_
                   have hHeld := trivial
                   obtain ⟨co67, eo67⟩ := HA_HO304.out
                   clear HA_HO304
                   subst eo67
                   refine norm_ (a' := ?_) ?_ ?_
                   rotate_left
                   ·simp only [putAll, Act.put, List.setIfInBounds_toArray, List.set_cons_zero, List.set_cons_succ]
                    rfl
                   refine one_ (i := 4) (N := some 99) #[true, true, true, true, true, true, true, true, false, false, false] rfl rfl (one_of HT_.out Z8_30) Z8_32 (fun K hK => ?_)
                   (have p308 : 0 ≤ (t305 : Int) := of_decide_eq_true Z8_31; have q308 : t305 < (y302.length : Int) := of_decide_eq_true Z8_31; obtain ⟨ad308, e308, hx308_0⟩ := Kd.at_int (Kd.R_reads' HO304.out).2.2 t305 p308 q308; obtain rfl : adz_v303 = ad308 := (by injection e308))
                   refine value_ (w1 := ?_) (v := ?_) (by rfl) rfl ?_ ?_
                   rotate_left 2
                   ·go_simp
                    constructor
                    ·rfl
                    rfl
                   clear hx308_0
                   refine hK.out _ _ trivial (fun hHeld => ?_)
                   clear hK K
                   refine norm_ (a' := ?_) ?_ ?_
                   rotate_left
                   ·show Act.put _ (some 99) _ = _
                    simp only [Act.put, List.setIfInBounds_toArray, List.set_cons_zero, List.set_cons_succ, i64_w, i32_w]
                    rfl
                   exact norm_ Z8_8 (hJ0_2_4_7 (.slice (some adz_v303) y302.length co67, adz_v303) _ ⟨Z8_19, Z8_4, Z8_5, ⟨_, rfl⟩, Z8_6, Z8_2, Z8_1, Z8_3⟩)
                  skip
                  rintro ⟨v303, adz_v303⟩ w66 ⟨h0_, h1_, h2_, h3_, h4_, h5_, h6_, h7_⟩
                  have n0_ : Aside0 (Kd.R (Kd.int .i64) 2 w66 w.heap.size (fun k_ => some k_ ≠ (u6 : Value).ownBlock) v303 y302) := ⟨h0_⟩
                  have n1_ : Aside0 (Kd.R (Kd.int .u8) 5 w66 w.heap.size (fun _ => True) v257 x5_3) := ⟨h1_⟩
                  have n2_ : Aside0 (Kd.R (Kd.int .i64) 2 w66 w.heap.size (fun k_ => some k_ ≠ (v303 : Value).ownBlock) u6 x6_1) := ⟨h2_⟩
                  have n3_ : Aside0 (∃ c_, (v303 : Value) = .slice (some adz_v303) y302.length c_) := ⟨h3_⟩
                  have n4_ : Aside0 (w66.heap[gb298]? = some (.cells #[.bool t287, .bool x299001_44, .bool t289, .bool t290, .bool t291, .bool t292, .bool t293, .bool t294, .int .i64 t295] 27 (0, 0))) := ⟨h4_⟩
                  have n5_ : Aside0 (IsS116 w0 w66 g s0_0 t306 t307) := ⟨h5_⟩
                  have n6_ : Aside0 (KeepBut w w66 g none) := ⟨h6_⟩
                  have n7_ : Aside0 (Below w0.heap.size w0 w66) := ⟨h7_⟩
                  clear HO_5
                  clear HO_6
                  clear BK298
                  clear HI0
                  clear HK
                  clear HB
                  clear h0_ h1_ h2_ h3_ h4_ h5_ h6_ h7_
                  have HO304 := n0_
                  have HO_5 := n1_
                  have HO_6 := n2_
                  have HA_HO304 := n3_
                  have BK298 := n4_
                  have HI0 := n5_
                  have HK := n6_
                  have HB := n7_
                  clear n0_ n1_ n2_ n3_ n4_ n5_ n6_ n7_
                  have hHeld := trivial
                  obtain ⟨co67, eo67⟩ := HA_HO304.out
                  clear HA_HO304
                  subst eo67
                  refine norm_ (a' := ?_) ?_ ?_
                  rotate_left
                  ·simp only [putAll, Act.put, List.setIfInBounds_toArray, List.set_cons_zero, List.set_cons_succ]
                   rfl
                  refine one_ (i := 7) (N := some 102) #[true, true, true, true, true, true, true, true, false, false, false] rfl rfl (one_of HT_.out Z8_30) Z8_32 (fun K hK => ?_)
                  refine goes_ Try.func87 Z8_30 rfl #[.int .i64 (wrap64 (x10_3 - 1))] (by rfl) rfl rfl Z8_7 ?_
                  with_reducible refine (spec_l6Pages.calls kj48 (wrap64 (x10_3 - 1)) t309 _ A59.out).mono ?_
                  rintro e w' ⟨rfl, ⟨nd, rfl⟩⟩
                  refine ⟨_, rfl, ?_⟩
                  refine hK.out _ _ trivial (fun hHeld => ?_)
                  clear hK K
                  refine norm_ (a' := ?_) ?_ ?_
                  rotate_left
                  ·show Act.put _ (some 102) _ = _
                   simp only [Act.put, List.setIfInBounds_toArray, List.set_cons_zero, List.set_cons_succ, i64_w, i32_w]
                   rfl
                  exact norm_ Z8_8 (hJ0_2_4_7 (.slice (some adz_v303) y302.length co67, adz_v303) _ ⟨Z8_19, Z8_4, Z8_5, ⟨_, rfl⟩, Z8_6, Z8_2, Z8_1, Z8_3⟩)
                 rintro ⟨v303, adz_v303⟩ w66 ⟨h0_, h1_, h2_, h3_, h4_, h5_, h6_, h7_⟩
                 have n0_ : Aside0 (Kd.R (Kd.int .i64) 2 w66 w.heap.size (fun k_ => some k_ ≠ (u6 : Value).ownBlock) v303 y302) := ⟨h0_⟩
                 have n1_ : Aside0 (Kd.R (Kd.int .u8) 5 w66 w.heap.size (fun _ => True) v257 x5_3) := ⟨h1_⟩
                 have n2_ : Aside0 (Kd.R (Kd.int .i64) 2 w66 w.heap.size (fun k_ => some k_ ≠ (v303 : Value).ownBlock) u6 x6_1) := ⟨h2_⟩
                 have n3_ : Aside0 (∃ c_, (v303 : Value) = .slice (some adz_v303) y302.length c_) := ⟨h3_⟩
                 have n4_ : Aside0 (w66.heap[gb298]? = some (.cells #[.bool t287, .bool x299001_44, .bool t289, .bool t290, .bool t291, .bool t292, .bool t293, .bool t294, .int .i64 t295] 27 (0, 0))) := ⟨h4_⟩
                 have n5_ : Aside0 (IsS116 w0 w66 g s0_0 t306 t307) := ⟨h5_⟩
                 have n6_ : Aside0 (KeepBut w w66 g none) := ⟨h6_⟩
                 have n7_ : Aside0 (Below w0.heap.size w0 w66) := ⟨h7_⟩
                 clear HO_5
                 clear HO_6
                 clear BK298
                 clear HI0
                 clear HK
                 clear HB
                 clear h0_ h1_ h2_ h3_ h4_ h5_ h6_ h7_
                 have HO304 := n0_
                 have HO_5 := n1_
                 have HO_6 := n2_
                 have HA_HO304 := n3_
                 have BK298 := n4_
                 have HI0 := n5_
                 have HK := n6_
                 have HB := n7_
                 clear n0_ n1_ n2_ n3_ n4_ n5_ n6_ n7_
                 have hHeld := trivial
                 obtain ⟨co67, eo67⟩ := HA_HO304.out
                 clear HA_HO304
                 subst eo67
                 refine norm_ (a' := ?_) ?_ ?_
                 rotate_left
                 ·simp only [putAll, Act.put, List.setIfInBounds_toArray, List.set_cons_zero, List.set_cons_succ]
                  rfl
                 refine pure_ (i := 8) (N := some 103) (v := ?_) (a' := ?_) #[true, true, true, true, true, true, true, true, true, false, false] rfl rfl (any_of HT_.out Z8_30) (fun _ _ _ h => h) (Or.inl ⟨by rfl, ?_⟩) ?_ ?_
                 rotate_left
                 ·intro w'
                  go_simp
                  with_reducible rfl
                 rotate_left
                 ·simp only [Act.put, List.setIfInBounds_toArray, List.set_cons_zero, List.set_cons_succ, i64_w, i32_w]
                  rfl
                 refine pure_ (i := 9) (N := some 104) (v := ?_) (a' := ?_) #[true, true, true, true, true, true, true, true, true, true, false] rfl rfl (any_of HT_.out Z8_30) (fun _ _ _ h => h) (Or.inl ⟨by rfl, ?_⟩) ?_ ?_
                 rotate_left
                 ·intro w'
                  go_simp
                  with_reducible rfl
                 rotate_left
                 ·simp only [Act.put, List.setIfInBounds_toArray, List.set_cons_zero, List.set_cons_succ, i64_w, i32_w]
                  rfl
                 refine one_ (i := 10) (N := none) #[true, true, true, true, true, true, true, true, true, true, true] rfl rfl (one_of HT_.out Z8_30) Z8_32 (fun K hK => ?_)
                 have hs68 : w66.cell? ⟨gb298, 8, none⟩ = some (.int .i64 t295) := (blk_cell BK298.out 8).trans rfl
                 have hfs68 := blk_frozen BK298.out 8
                 refine skip_ (w1 := ?_) (by rfl) rfl ?_ ?_
                 rotate_left
                 ·go_simp
                  rfl
                 refine hK.out _ _ trivial (fun hHeld => ?_)
                 clear hK K
                 refine done_ (done_of HT_.out Z8_30) ?_
                 have hnb69 := NB298_0.out
                 have hnc69 := NB0_298.out
                 have hcz70_0 : w66.cell? ⟨gb298, 0, none⟩ = some (.bool t287) := (blk_cell BK298.out 0).trans rfl
                 have hcz70_1 : w66.cell? ⟨gb298, 1, none⟩ = some (.bool x299001_44) := (blk_cell BK298.out 1).trans rfl
                 have hcz70_2 : w66.cell? ⟨gb298, 2, none⟩ = some (.bool t289) := (blk_cell BK298.out 2).trans rfl
                 have hcz70_3 : w66.cell? ⟨gb298, 3, none⟩ = some (.bool t290) := (blk_cell BK298.out 3).trans rfl
                 have hcz70_4 : w66.cell? ⟨gb298, 4, none⟩ = some (.bool t291) := (blk_cell BK298.out 4).trans rfl
                 have hcz70_5 : w66.cell? ⟨gb298, 5, none⟩ = some (.bool t292) := (blk_cell BK298.out 5).trans rfl
                 have hcz70_6 : w66.cell? ⟨gb298, 6, none⟩ = some (.bool t293) := (blk_cell BK298.out 6).trans rfl
                 have hcz70_7 : w66.cell? ⟨gb298, 7, none⟩ = some (.bool t294) := (blk_cell BK298.out 7).trans rfl
                 have hcz70_8 : w66.cell? ⟨gb298, 8, none⟩ = some (.int .i64 t295) := (blk_cell BK298.out 8).trans rfl
                 have hfz70_0 := blk_frozen BK298.out 0
                 have hfz70_1 := blk_frozen BK298.out 1
                 have hfz70_2 := blk_frozen BK298.out 2
                 have hfz70_3 := blk_frozen BK298.out 3
                 have hfz70_4 := blk_frozen BK298.out 4
                 have hfz70_5 := blk_frozen BK298.out 5
                 have hfz70_6 := blk_frozen BK298.out 6
                 have hfz70_7 := blk_frozen BK298.out 7
                 have hfz70_8 := blk_frozen BK298.out 8
                 try go_wp2
                 go_meet
                 case rel => exact ⟨_, (t306), (t307), (1024), H', ⟨Z8_37⟩, ⟨by (with_reducible repeat (first | apply Kd.R_alloc | apply Kd.R_drewN | apply Kd.R_drew)); exact Kd.R_mono (Kd.R_far (p := ⟨gb298, 8, none⟩) (Kd.R_far (p := ⟨gb298, 8, none⟩) (Kd.R_types HO_5.out BK298.out Z8_32) (fun _ hk => hk.2) (.int .i64 (wrap64 ((rd y302 t305) * t309)))) (fun _ hk => hk.2) (.int .i64 1024)) (fun _ hk => trivial)⟩, ⟨by (with_reducible repeat (first | apply Kd.R_alloc | apply Kd.R_drewN | apply Kd.R_drew)); exact Kd.R_mono (Kd.R_far (p := ⟨gb298, 8, none⟩) (Kd.R_far (p := ⟨gb298, 8, none⟩) (Kd.R_types HO_6.out BK298.out Z8_32) (fun _ hk => hk.2) (.int .i64 (wrap64 ((rd y302 t305) * t309)))) (fun _ hk => hk.2) (.int .i64 1024)) (fun _ hk => trivial)⟩, ⟨by (with_reducible repeat (first | apply blk_drewN | apply blk_drew | apply blk_alloc)); refine blk_put (cs := #[.bool t287, .bool x299001_44, .bool t289, .bool t290, .bool t291, .bool t292, .bool t293, .bool t294, .int .i64 (wrap64 ((rd y302 t305) * t309))]) ?_ 8 _ rfl; (with_reducible repeat (first | apply blk_drewN | apply blk_drew | apply blk_alloc)); refine blk_put (cs := #[.bool t287, .bool x299001_44, .bool t289, .bool t290, .bool t291, .bool t292, .bool t293, .bool t294, .int .i64 t295]) ?_ 8 _ rfl; (with_reducible repeat (first | apply blk_drewN | apply blk_drew | apply blk_alloc)); exact BK298.out⟩, ⟨Z8_2⟩, ⟨Z8_1⟩, ⟨Z8_3⟩⟩
                rw [if_neg c60] at H
                have c60b0 : decide (4095 < (wrap64 ((rd y302 t305) * t309))) = false := decide_eq_false c60
                clear c60
                have H' := Aside0.mk H
                clear H
                try go_wp2
                have pi308 : (0 ≤ (t305 : Int)) = True := eq_true (of_decide_eq_true Z8_31)
                have qi308 : (t305 < (y302.length : Int)) = True := eq_true (of_decide_eq_true Z8_31)
                have n0_ := Aside0.mk (Kd.R_drew HO_5.out)
                have n1_ := Aside0.mk (Kd.R_drew HO_6.out)
                have n2_ := Aside0.mk (blk_drew BK298.out)
                have n3_ := Aside0.mk (IsS116.drew HI0.out)
                have n4_ := Aside0.mk (keep_drew HK.out)
                have n5_ := Aside0.mk (below_drew1 HB.out)
                clear HO_5
                clear HO_6
                clear BK298
                clear HI0
                clear HK
                clear HB
                have HO_5 := n0_
                have HO_6 := n1_
                have BK298 := n2_
                have HI0 := n3_
                have HK := n4_
                have HB := n5_
                clear n0_ n1_ n2_ n3_ n4_ n5_
                refine start_ (n := 11) (S := fun w' => True) (ds := []) #[false, false, false, false, false, false, false, false, false, false, false] Z8_30 rfl rfl trivial (fun hHeld => ?_); refine with_tabW spec_l6DrawTables.tab20 spec_l6DrawTables.bits20 (fun HT_ HW_ => ?_)
                generalize wc.drew = w71 at HO_5 HO_6 BK298 HI0 HK HB hHeld ⊢
                refine pure_ (i := 1) (N := some 96) (v := ?_) (a' := ?_) #[false, true, false, false, false, false, false, false, false, false, false] rfl rfl (any_of HT_.out Z8_30) (fun _ _ _ h => h) (Or.inl ⟨by rfl, ?_⟩) ?_ ?_
                rotate_left
                ·intro w'
                 go_simp
                 with_reducible rfl
                rotate_left
                ·simp only [Act.put, List.setIfInBounds_toArray, List.set_cons_zero, List.set_cons_succ, i64_w, i32_w]
                 rfl
                refine pure_ (i := 5) (N := some 100) (v := ?_) (a' := ?_) #[false, true, false, false, false, true, false, false, false, false, false] rfl rfl (any_of HT_.out Z8_30) (fun _ _ _ h => h) (Or.inl ⟨by rfl, ?_⟩) ?_ ?_
                rotate_left
                ·intro w'
                 go_simp
                 with_reducible rfl
                rotate_left
                ·simp only [Act.put, List.setIfInBounds_toArray, List.set_cons_zero, List.set_cons_succ, i64_w, i32_w]
                 rfl
                refine pure_ (i := 6) (N := some 101) (v := ?_) (a' := ?_) #[false, true, false, false, false, true, true, false, false, false, false] rfl rfl (any_of HT_.out Z8_30) (fun _ _ _ h => h) (Or.inl ⟨by rfl, ?_⟩) ?_ ?_
                rotate_left
                ·intro w'
                 go_simp
                 with_reducible rfl
                rotate_left
                ·simp only [Act.put, List.setIfInBounds_toArray, List.set_cons_zero, List.set_cons_succ, i64_w, i32_w]
                 rfl
                refine join_ (σ := Value × Addr) 3 #[true, true, true, true, true, true, true, true, false, false, false] (fun s_ => [(95, s_.1), (97, .int .i64 t305), (99, .int .i64 (rd y302 t305)), (102, .int .i64 t309), (98, .pointer (some (s_.2.add (t305).toNat)))]) (fun s_ w' => (Kd.R (Kd.int .i64) 2 w' w.heap.size (fun k_ => some k_ ≠ (u6 : Value).ownBlock) s_.1 y302) ∧ (Kd.R (Kd.int .u8) 5 w' w.heap.size (fun _ => True) v257 x5_3) ∧ (Kd.R (Kd.int .i64) 2 w' w.heap.size (fun k_ => some k_ ≠ (s_.1 : Value).ownBlock) u6 x6_1) ∧ (∃ c_, (s_.1 : Value) = .slice (some s_.2) y302.length c_) ∧ (w'.heap[gb298]? = some (.cells #[.bool t287, .bool x299001_44, .bool t289, .bool t290, .bool t291, .bool t292, .bool t293, .bool t294, .int .i64 t295] 27 (0, 0))) ∧ (IsS116 w0 w' g s0_0 t306 t307) ∧ (KeepBut w w' g none) ∧ (Below w0.heap.size w0 w')) ?_ ?_
                rotate_left
                ·intro hJ0_2_4_7
                 refine join_ (σ := Value × Addr) 4 #[true, true, true, true, true, true, true, false, false, false, false] (fun s_ => [(95, s_.1), (97, .int .i64 t305), (99, .int .i64 (rd y302 t305)), (98, .pointer (some (s_.2.add (t305).toNat)))]) (fun s_ w' => (Kd.R (Kd.int .i64) 2 w' w.heap.size (fun k_ => some k_ ≠ (u6 : Value).ownBlock) s_.1 y302) ∧ (Kd.R (Kd.int .u8) 5 w' w.heap.size (fun _ => True) v257 x5_3) ∧ (Kd.R (Kd.int .i64) 2 w' w.heap.size (fun k_ => some k_ ≠ (s_.1 : Value).ownBlock) u6 x6_1) ∧ (∃ c_, (s_.1 : Value) = .slice (some s_.2) y302.length c_) ∧ (w'.heap[gb298]? = some (.cells #[.bool t287, .bool x299001_44, .bool t289, .bool t290, .bool t291, .bool t292, .bool t293, .bool t294, .int .i64 t295] 27 (0, 0))) ∧ (IsS116 w0 w' g s0_0 t306 t307) ∧ (KeepBut w w' g none) ∧ (Below w0.heap.size w0 w')) ?_ ?_
                 rotate_left
                 ·intro hJ0_2_4
                  refine join_ (σ := Value × Addr) 4 #[true, true, true, true, false, true, true, true, false, false, false] (fun s_ => [(95, s_.1), (97, .int .i64 t305), (102, .int .i64 t309), (98, .pointer (some (s_.2.add (t305).toNat)))]) (fun s_ w' => (Kd.R (Kd.int .i64) 2 w' w.heap.size (fun k_ => some k_ ≠ (u6 : Value).ownBlock) s_.1 y302) ∧ (Kd.R (Kd.int .u8) 5 w' w.heap.size (fun _ => True) v257 x5_3) ∧ (Kd.R (Kd.int .i64) 2 w' w.heap.size (fun k_ => some k_ ≠ (s_.1 : Value).ownBlock) u6 x6_1) ∧ (∃ c_, (s_.1 : Value) = .slice (some s_.2) y302.length c_) ∧ (w'.heap[gb298]? = some (.cells #[.bool t287, .bool x299001_44, .bool t289, .bool t290, .bool t291, .bool t292, .bool t293, .bool t294, .int .i64 t295] 27 (0, 0))) ∧ (IsS116 w0 w' g s0_0 t306 t307) ∧ (KeepBut w w' g none) ∧ (Below w0.heap.size w0 w')) ?_ ?_
                  rotate_left
                  ·intro hJ0_2_7
                   refine join_ (σ := Value × Addr) 5 #[true, true, true, true, false, true, true, false, false, false, false] (fun s_ => [(95, s_.1), (97, .int .i64 t305), (98, .pointer (some (s_.2.add (t305).toNat)))]) (fun s_ w' => (Kd.R (Kd.int .i64) 2 w' w.heap.size (fun k_ => some k_ ≠ (u6 : Value).ownBlock) s_.1 y302) ∧ (Kd.R (Kd.int .u8) 5 w' w.heap.size (fun _ => True) v257 x5_3) ∧ (Kd.R (Kd.int .i64) 2 w' w.heap.size (fun k_ => some k_ ≠ (s_.1 : Value).ownBlock) u6 x6_1) ∧ (∃ c_, (s_.1 : Value) = .slice (some s_.2) y302.length c_) ∧ (w'.heap[gb298]? = some (.cells #[.bool t287, .bool x299001_44, .bool t289, .bool t290, .bool t291, .bool t292, .bool t293, .bool t294, .int .i64 t295] 27 (0, 0))) ∧ (IsS116 w0 w' g s0_0 t306 t307) ∧ (KeepBut w w' g none) ∧ (Below w0.heap.size w0 w')) ?_ ?_
                   rotate_left
                   ·intro hJ0_2
                    refine join_ (σ := Unit) 6 #[false, true, true, false, false, true, true, true, false, false, false] (fun s_ => [(97, .int .i64 t305), (102, .int .i64 t309)]) (fun s_ w' => (Kd.R (Kd.int .u8) 5 w' w.heap.size (fun _ => True) v257 x5_3) ∧ (Kd.R (Kd.int .i64) 2 w' w.heap.size (fun _ => True) u6 x6_1) ∧ (w'.heap[gb298]? = some (.cells #[.bool t287, .bool x299001_44, .bool t289, .bool t290, .bool t291, .bool t292, .bool t293, .bool t294, .int .i64 t295] 27 (0, 0))) ∧ (IsS116 w0 w' g s0_0 t306 t307) ∧ (KeepBut w w' g none) ∧ (Below w0.heap.size w0 w')) ?_ ?_
                    rotate_left
                    ·intro hJ2_7
                     refine join_ (σ := Value × Addr) 7 #[true, true, false, false, false, true, true, false, false, false, false] (fun s_ => [(95, s_.1)]) (fun s_ w' => (Kd.R (Kd.int .i64) 2 w' w.heap.size (fun k_ => some k_ ≠ (u6 : Value).ownBlock) s_.1 y302) ∧ (Kd.R (Kd.int .u8) 5 w' w.heap.size (fun _ => True) v257 x5_3) ∧ (Kd.R (Kd.int .i64) 2 w' w.heap.size (fun k_ => some k_ ≠ (s_.1 : Value).ownBlock) u6 x6_1) ∧ (∃ c_, (s_.1 : Value) = .slice (some s_.2) y302.length c_) ∧ (w'.heap[gb298]? = some (.cells #[.bool t287, .bool x299001_44, .bool t289, .bool t290, .bool t291, .bool t292, .bool t293, .bool t294, .int .i64 t295] 27 (0, 0))) ∧ (IsS116 w0 w' g s0_0 x1001_48 x1002_48) ∧ (KeepBut w w' g none) ∧ (Below w0.heap.size w0 w')) ?_ ?_
                     rotate_left
                     ·intro hJ0
                      refine join_ (σ := Unit) 7 #[false, true, true, false, false, true, true, false, false, false, false] (fun s_ => [(97, .int .i64 t305)]) (fun s_ w' => (Kd.R (Kd.int .u8) 5 w' w.heap.size (fun _ => True) v257 x5_3) ∧ (Kd.R (Kd.int .i64) 2 w' w.heap.size (fun _ => True) u6 x6_1) ∧ (w'.heap[gb298]? = some (.cells #[.bool t287, .bool x299001_44, .bool t289, .bool t290, .bool t291, .bool t292, .bool t293, .bool t294, .int .i64 t295] 27 (0, 0))) ∧ (IsS116 w0 w' g s0_0 t306 t307) ∧ (KeepBut w w' g none) ∧ (Below w0.heap.size w0 w')) ?_ ?_
                      rotate_left
                      ·intro hJ2
                       refine two_ (i := 0) (j := 2) (Ni := some 95) (Nj := some 97) #[true, true, false, false, false, true, true, false, false, false, false] #[false, true, true, false, false, true, true, false, false, false, false] rfl rfl rfl rfl (two_of HT_.out Z8_30) Z8_32 Z8_32 (fun K hK => ?_) (fun K hK => ?_)
                       ·skip
                        refine Kd.R_lit_step (Kd.int .i64) _ 2 ?hg (N := 95) ?hd (xs := ([0, 32, 1024, 2048, 3072] : List Int)) (inner := [.int .i64 0, .int .i64 32, .int .i64 1024, .int .i64 2048, .int .i64 3072]) (ok := fun _ => True) (okp := fun _ => True) ?hr ?hp (fun _ hk => hk) trivial (Below.refl _ _) (Nat.le_refl _) (by simp) ?_; (case hd => rfl); (case hg => rfl); (case hr => exact Z8_35); (case hp => exact (Reps.one (show Kd.M (Kd.int .i64) _ _ _ 0 [.int .i64 0] from rfl) (Reps.one (show Kd.M (Kd.int .i64) _ _ _ 32 [.int .i64 32] from rfl) (Reps.one (show Kd.M (Kd.int .i64) _ _ _ 1024 [.int .i64 1024] from rfl) (Reps.one (show Kd.M (Kd.int .i64) _ _ _ 2048 [.int .i64 2048] from rfl) (Reps.one (show Kd.M (Kd.int .i64) _ _ _ 3072 [.int .i64 3072] from rfl) (Reps.none _ _)))))))
                        intro v303 w72 ho73 hb hg_ hnew_
                        clear hg_ hnew_
                        (first | rw [← Ny302.out] at ho73 | (simp only [Int.reduceToNat] at ho73; rw [← Ny302.out] at ho73))
                        have n0_ := Aside0.mk (Kd.R_below Z8_4 hb)
                        have n1_ := Aside0.mk (Kd.R_elder' Z8_5 (Kd.R_base ho73) hb)
                        have n2_ := Aside0.mk (Kd.R_lower (Kd.R_new' ho73 (Kd.R_lt Z8_5)) (keep_size (w := w) (g := g) (row := none) Z8_1))
                        have n3_ := Aside0.mk (blk_below (g := gb298) (o := .cells #[.bool t287, .bool x299001_44, .bool t289, .bool t290, .bool t291, .bool t292, .bool t293, .bool t294, .int .i64 t295] 27 (0, 0)) Z8_6 hb)
                        have n4_ := Aside0.mk (IsS116.below Z8_2 hb)
                        have n5_ := Aside0.mk (KeepBut.trans Z8_1 (KeepBut.of_below hb g none) (.inl rfl))
                        have n6_ := Aside0.mk (below_step Z8_3 hb)
                        clear HO_5
                        clear HO_6
                        clear BK298
                        clear HI0
                        clear HK
                        clear HB
                        have HO_5 := n0_
                        have HO_6 := n1_
                        have HO304 := n2_
                        have BK298 := n3_
                        have HI0 := n4_
                        have HK := n5_
                        have HB := n6_
                        clear n0_ n1_ n2_ n3_ n4_ n5_ n6_
                        clear hb ho73
                        obtain ⟨Ao74, co74, eo74⟩ := Kd.R_slice HO304.out
                        subst eo74
                        obtain ⟨ado74, fo74, _⟩ := Kd.at_int (Kd.R_reads' HO304.out).2.2 0 Z8_32 (by rw [Ny302.out]; simp)
                        cases fo74
                        refine hK.out _ _ trivial (fun hHeld => ?_)
                        clear hK K
                        refine norm_ (a' := ?_) ?_ ?_
                        rotate_left
                        ·show Act.put _ (some 95) _ = _
                         simp only [Act.put, List.setIfInBounds_toArray, List.set_cons_zero, List.set_cons_succ, i64_w, i32_w]
                         rfl
                        exact norm_ Z8_8 (hJ0 (.slice (some ado74) y302.length co74, ado74) _ ⟨Z8_26, Z8_4, Z8_27, ⟨_, rfl⟩, Z8_6, Z8_2, Z8_1, Z8_3⟩)
                       skip
                       refine goes_ Try.func61 Z8_30 rfl #[.pointer (some ⟨g, 0, none⟩), .int .i64 5] (by rfl) rfl rfl Z8_7 ?_
                       with_reducible refine (spec_l1Below.calls g s0_0 x1001_48 x1002_48 5 t305 t306 t307 w0 _ ?side1 ?side2 A56.out).mono ?_
                       (case side1 => exact Z8_2)
                       (case side2 => exact Z8_3)
                       rintro e w72 ⟨rfl, hi, hb, hk⟩
                       refine ⟨_, rfl, ?_⟩
                       have n0_ := Aside0.mk (Kd.R_mono (Kd.R_keep (IsS116.apart (show IsS116 w0 _ g s0_0 x1001_48 x1002_48 from by repeat (first | (with_reducible first | exact HI0.out | apply IsS116.alloc | apply IsS116.drewN | apply IsS116.drew | apply IsS116.set_1 | apply IsS116.set_2 | refine IsS116.far ?_ NB0_298.out _) | exact HI0.out)) Z8_4 Z8_32) hk (fun _ h => h.2)) (fun _ h => h.1))
                       have n1_ := Aside0.mk (Kd.R_mono (Kd.R_keep (IsS116.apart (show IsS116 w0 _ g s0_0 x1001_48 x1002_48 from by repeat (first | (with_reducible first | exact HI0.out | apply IsS116.alloc | apply IsS116.drewN | apply IsS116.drew | apply IsS116.set_1 | apply IsS116.set_2 | refine IsS116.far ?_ NB0_298.out _) | exact HI0.out)) Z8_5 Z8_32) hk (fun _ h => h.2)) (fun _ h => h.1))
                       have n2_ := Aside0.mk (KeepBut.blk hk (g' := gb298) (o := .cells #[.bool t287, .bool x299001_44, .bool t289, .bool t290, .bool t291, .bool t292, .bool t293, .bool t294, .int .i64 t295] 27 (0, 0)) Z8_6 NB298_0.out (by simp))
                       have n3_ := Aside0.mk (KeepBut.trans Z8_1 hk (.inl rfl))
                       have n4_ := Aside0.mk (hb)
                       have n5_ := Aside0.mk (hi)
                       clear HO_5
                       clear HO_6
                       clear BK298
                       clear HK
                       clear HB
                       clear HI0
                       have HO_5 := n0_
                       have HO_6 := n1_
                       have BK298 := n2_
                       have HK := n3_
                       have HB := n4_
                       have HI0 := n5_
                       clear n0_ n1_ n2_ n3_ n4_ n5_
                       (try clear hb)
                       (try clear hb2)
                       (try clear hk)
                       (try clear hi)
                       refine hK.out _ _ trivial (fun hHeld => ?_)
                       clear hK K
                       refine norm_ (a' := ?_) ?_ ?_
                       rotate_left
                       ·show Act.put _ (some 97) _ = _
                        simp only [Act.put, List.setIfInBounds_toArray, List.set_cons_zero, List.set_cons_succ, i64_w, i32_w]
                        rfl
                       exact norm_ Z8_8 (hJ2 () _ ⟨Z8_4, Z8_5, Z8_6, Z8_2, Z8_1, Z8_3⟩)
                      skip
                      rintro _ w73 ⟨h0_, h1_, h2_, h3_, h4_, h5_⟩
                      have n0_ : Aside0 (Kd.R (Kd.int .u8) 5 w73 w.heap.size (fun _ => True) v257 x5_3) := ⟨h0_⟩
                      have n1_ : Aside0 (Kd.R (Kd.int .i64) 2 w73 w.heap.size (fun _ => True) u6 x6_1) := ⟨h1_⟩
                      have n2_ : Aside0 (w73.heap[gb298]? = some (.cells #[.bool t287, .bool x299001_44, .bool t289, .bool t290, .bool t291, .bool t292, .bool t293, .bool t294, .int .i64 t295] 27 (0, 0))) := ⟨h2_⟩
                      have n3_ : Aside0 (IsS116 w0 w73 g s0_0 t306 t307) := ⟨h3_⟩
                      have n4_ : Aside0 (KeepBut w w73 g none) := ⟨h4_⟩
                      have n5_ : Aside0 (Below w0.heap.size w0 w73) := ⟨h5_⟩
                      clear HO_5
                      clear HO_6
                      clear BK298
                      clear HI0
                      clear HK
                      clear HB
                      clear h0_ h1_ h2_ h3_ h4_ h5_
                      have HO_5 := n0_
                      have HO_6 := n1_
                      have BK298 := n2_
                      have HI0 := n3_
                      have HK := n4_
                      have HB := n5_
                      clear n0_ n1_ n2_ n3_ n4_ n5_
                      have hHeld := trivial
                      refine norm_ (a' := ?_) ?_ ?_
                      rotate_left
                      ·simp only [putAll, Act.put, List.setIfInBounds_toArray, List.set_cons_zero, List.set_cons_succ]
                       rfl
                      refine two_ (i := 0) (j := 7) (Ni := some 95) (Nj := some 102) #[true, true, true, false, false, true, true, false, false, false, false] #[false, true, true, false, false, true, true, true, false, false, false] rfl rfl rfl rfl (two_of HT_.out Z8_30) Z8_32 Z8_32 (fun K hK => ?_) (fun K hK => ?_)
                      ·skip
                       refine Kd.R_lit_step (Kd.int .i64) _ 2 ?hg (N := 95) ?hd (xs := ([0, 32, 1024, 2048, 3072] : List Int)) (inner := [.int .i64 0, .int .i64 32, .int .i64 1024, .int .i64 2048, .int .i64 3072]) (ok := fun _ => True) (okp := fun _ => True) ?hr ?hp (fun _ hk => hk) trivial (Below.refl _ _) (Nat.le_refl _) (by simp) ?_; (case hd => rfl); (case hg => rfl); (case hr => exact Z8_35); (case hp => exact (Reps.one (show Kd.M (Kd.int .i64) _ _ _ 0 [.int .i64 0] from rfl) (Reps.one (show Kd.M (Kd.int .i64) _ _ _ 32 [.int .i64 32] from rfl) (Reps.one (show Kd.M (Kd.int .i64) _ _ _ 1024 [.int .i64 1024] from rfl) (Reps.one (show Kd.M (Kd.int .i64) _ _ _ 2048 [.int .i64 2048] from rfl) (Reps.one (show Kd.M (Kd.int .i64) _ _ _ 3072 [.int .i64 3072] from rfl) (Reps.none _ _)))))))
                       intro v303 w74 ho75 hb hg_ hnew_
                       clear hg_ hnew_
                       (first | rw [← Ny302.out] at ho75 | (simp only [Int.reduceToNat] at ho75; rw [← Ny302.out] at ho75))
                       have n0_ := Aside0.mk (Kd.R_below Z8_4 hb)
                       have n1_ := Aside0.mk (Kd.R_elder' Z8_5 (Kd.R_base ho75) hb)
                       have n2_ := Aside0.mk (Kd.R_lower (Kd.R_new' ho75 (Kd.R_lt Z8_5)) (keep_size (w := w) (g := g) (row := none) Z8_1))
                       have n3_ := Aside0.mk (blk_below (g := gb298) (o := .cells #[.bool t287, .bool x299001_44, .bool t289, .bool t290, .bool t291, .bool t292, .bool t293, .bool t294, .int .i64 t295] 27 (0, 0)) Z8_6 hb)
                       have n4_ := Aside0.mk (IsS116.below Z8_2 hb)
                       have n5_ := Aside0.mk (KeepBut.trans Z8_1 (KeepBut.of_below hb g none) (.inl rfl))
                       have n6_ := Aside0.mk (below_step Z8_3 hb)
                       clear HO_5
                       clear HO_6
                       clear BK298
                       clear HI0
                       clear HK
                       clear HB
                       have HO_5 := n0_
                       have HO_6 := n1_
                       have HO304 := n2_
                       have BK298 := n3_
                       have HI0 := n4_
                       have HK := n5_
                       have HB := n6_
                       clear n0_ n1_ n2_ n3_ n4_ n5_ n6_
                       clear hb ho75
                       obtain ⟨Ao76, co76, eo76⟩ := Kd.R_slice HO304.out
                       subst eo76
                       obtain ⟨ado76, fo76, _⟩ := Kd.at_int (Kd.R_reads' HO304.out).2.2 0 Z8_32 (by rw [Ny302.out]; simp)
                       cases fo76
                       refine hK.out _ _ trivial (fun hHeld => ?_)
                       clear hK K
                       refine norm_ (a' := ?_) ?_ ?_
                       rotate_left
                       ·show Act.put _ (some 95) _ = _
                        simp only [Act.put, List.setIfInBounds_toArray, List.set_cons_zero, List.set_cons_succ, i64_w, i32_w]
                        rfl
                       refine pure_ (i := 3) (N := some 98) (v := ?_) (a' := ?_) #[true, true, true, true, false, true, true, false, false, false, false] rfl rfl (any_of HT_.out Z8_30) (fun _ _ _ h => h) (Or.inl ⟨by rfl, ?_⟩) ?_ ?_
                       rotate_left
                       ·intro w'
                        go_simp
                        with_reducible rfl
                       rotate_left
                       ·simp only [Act.put, List.setIfInBounds_toArray, List.set_cons_zero, List.set_cons_succ, i64_w, i32_w]
                        rfl
                       exact norm_ Z8_8 (hJ0_2 (.slice (some ado76) y302.length co76, ado76) _ ⟨Z8_26, Z8_4, Z8_27, ⟨_, rfl⟩, Z8_6, Z8_2, Z8_1, Z8_3⟩)
                      skip
                      refine goes_ Try.func87 Z8_30 rfl #[.int .i64 (wrap64 (x10_3 - 1))] (by rfl) rfl rfl Z8_7 ?_
                      with_reducible refine (spec_l6Pages.calls kj48 (wrap64 (x10_3 - 1)) t309 _ A59.out).mono ?_
                      rintro e w' ⟨rfl, ⟨nd, rfl⟩⟩
                      refine ⟨_, rfl, ?_⟩
                      refine hK.out _ _ trivial (fun hHeld => ?_)
                      clear hK K
                      refine norm_ (a' := ?_) ?_ ?_
                      rotate_left
                      ·show Act.put _ (some 102) _ = _
                       simp only [Act.put, List.setIfInBounds_toArray, List.set_cons_zero, List.set_cons_succ, i64_w, i32_w]
                       rfl
                      exact norm_ Z8_8 (hJ2_7 () _ ⟨Z8_4, Z8_5, Z8_6, Z8_2, Z8_1, Z8_3⟩)
                     skip
                     rintro ⟨v303, adz_v303⟩ w75 ⟨h0_, h1_, h2_, h3_, h4_, h5_, h6_, h7_⟩
                     have n0_ : Aside0 (Kd.R (Kd.int .i64) 2 w75 w.heap.size (fun k_ => some k_ ≠ (u6 : Value).ownBlock) v303 y302) := ⟨h0_⟩
                     have n1_ : Aside0 (Kd.R (Kd.int .u8) 5 w75 w.heap.size (fun _ => True) v257 x5_3) := ⟨h1_⟩
                     have n2_ : Aside0 (Kd.R (Kd.int .i64) 2 w75 w.heap.size (fun k_ => some k_ ≠ (v303 : Value).ownBlock) u6 x6_1) := ⟨h2_⟩
                     have n3_ : Aside0 (∃ c_, (v303 : Value) = .slice (some adz_v303) y302.length c_) := ⟨h3_⟩
                     have n4_ : Aside0 (w75.heap[gb298]? = some (.cells #[.bool t287, .bool x299001_44, .bool t289, .bool t290, .bool t291, .bool t292, .bool t293, .bool t294, .int .i64 t295] 27 (0, 0))) := ⟨h4_⟩
                     have n5_ : Aside0 (IsS116 w0 w75 g s0_0 x1001_48 x1002_48) := ⟨h5_⟩
                     have n6_ : Aside0 (KeepBut w w75 g none) := ⟨h6_⟩
                     have n7_ : Aside0 (Below w0.heap.size w0 w75) := ⟨h7_⟩
                     clear HO_5
                     clear HO_6
                     clear BK298
                     clear HI0
                     clear HK
                     clear HB
                     clear h0_ h1_ h2_ h3_ h4_ h5_ h6_ h7_
                     have HO304 := n0_
                     have HO_5 := n1_
                     have HO_6 := n2_
                     have HA_HO304 := n3_
                     have BK298 := n4_
                     have HI0 := n5_
                     have HK := n6_
                     have HB := n7_
                     clear n0_ n1_ n2_ n3_ n4_ n5_ n6_ n7_
                     have hHeld := trivial
                     obtain ⟨co76, eo76⟩ := HA_HO304.out
                     clear HA_HO304
                     subst eo76
                     refine norm_ (a' := ?_) ?_ ?_
                     rotate_left
                     ·simp only [putAll, Act.put, List.setIfInBounds_toArray, List.set_cons_zero, List.set_cons_succ]
                      rfl
                     refine one_ (i := 2) (N := some 97) #[true, true, true, false, false, true, true, false, false, false, false] rfl rfl (one_of HT_.out Z8_30) Z8_32 (fun K hK => ?_)
                     refine goes_ Try.func61 Z8_30 rfl #[.pointer (some ⟨g, 0, none⟩), .int .i64 5] (by rfl) rfl rfl Z8_7 ?_
                     with_reducible refine (spec_l1Below.calls g s0_0 x1001_48 x1002_48 5 t305 t306 t307 w0 _ ?side1 ?side2 A56.out).mono ?_
                     (case side1 => exact Z8_2)
                     (case side2 => exact Z8_3)
                     rintro e w77 ⟨rfl, hi, hb, hk⟩
                     refine ⟨_, rfl, ?_⟩
                     have n0_ := Aside0.mk (Kd.R_mono (Kd.R_keep (IsS116.apart (show IsS116 w0 _ g s0_0 x1001_48 x1002_48 from by repeat (first | (with_reducible first | exact HI0.out | apply IsS116.alloc | apply IsS116.drewN | apply IsS116.drew | apply IsS116.set_1 | apply IsS116.set_2 | refine IsS116.far ?_ NB0_298.out _) | exact HI0.out)) Z8_4 Z8_32) hk (fun _ h => h.2)) (fun _ h => h.1))
                     have n1_ := Aside0.mk (Kd.R_mono (Kd.R_keep (IsS116.apart (show IsS116 w0 _ g s0_0 x1001_48 x1002_48 from by repeat (first | (with_reducible first | exact HI0.out | apply IsS116.alloc | apply IsS116.drewN | apply IsS116.drew | apply IsS116.set_1 | apply IsS116.set_2 | refine IsS116.far ?_ NB0_298.out _) | exact HI0.out)) Z8_5 Z8_32) hk (fun _ h => h.2)) (fun _ h => h.1))
                     have n2_ := Aside0.mk (KeepBut.blk hk (g' := gb298) (o := .cells #[.bool t287, .bool x299001_44, .bool t289, .bool t290, .bool t291, .bool t292, .bool t293, .bool t294, .int .i64 t295] 27 (0, 0)) Z8_6 NB298_0.out (by simp))
                     have n3_ := Aside0.mk (Kd.R_mono (Kd.R_keep (IsS116.apart (show IsS116 w0 _ g s0_0 x1001_48 x1002_48 from by repeat (first | (with_reducible first | exact HI0.out | apply IsS116.alloc | apply IsS116.drewN | apply IsS116.drew | apply IsS116.set_1 | apply IsS116.set_2 | refine IsS116.far ?_ NB0_298.out _) | exact HI0.out)) Z8_19 Z8_32) hk (fun _ h => h.2)) (fun _ h => h.1))
                     have n4_ := Aside0.mk (KeepBut.trans Z8_1 hk (.inl rfl))
                     have n5_ := Aside0.mk (hb)
                     have n6_ := Aside0.mk (hi)
                     clear HO_5
                     clear HO_6
                     clear BK298
                     clear HO304
                     clear HK
                     clear HB
                     clear HI0
                     have HO_5 := n0_
                     have HO_6 := n1_
                     have BK298 := n2_
                     have HO304 := n3_
                     have HK := n4_
                     have HB := n5_
                     have HI0 := n6_
                     clear n0_ n1_ n2_ n3_ n4_ n5_ n6_
                     (try clear hb)
                     (try clear hb2)
                     (try clear hk)
                     (try clear hi)
                     refine hK.out _ _ trivial (fun hHeld => ?_)
                     clear hK K
                     refine norm_ (a' := ?_) ?_ ?_
                     rotate_left
                     ·show Act.put _ (some 97) _ = _
                      simp only [Act.put, List.setIfInBounds_toArray, List.set_cons_zero, List.set_cons_succ, i64_w, i32_w]
                      rfl
                     refine pure_ (i := 3) (N := some 98) (v := ?_) (a' := ?_) #[true, true, true, true, false, true, true, false, false, false, false] rfl rfl (any_of HT_.out Z8_30) (fun _ _ _ h => h) (Or.inl ⟨by rfl, ?_⟩) ?_ ?_
                     rotate_left
                     ·intro w'
                      go_simp
                      with_reducible rfl
                     rotate_left
                     ·simp only [Act.put, List.setIfInBounds_toArray, List.set_cons_zero, List.set_cons_succ, i64_w, i32_w]
                      rfl
                     exact norm_ Z8_8 (hJ0_2 (.slice (some adz_v303) y302.length co76, adz_v303) _ ⟨Z8_19, Z8_4, Z8_5, ⟨_, rfl⟩, Z8_6, Z8_2, Z8_1, Z8_3⟩)
                    skip
                    rintro _ w73 ⟨h0_, h1_, h2_, h3_, h4_, h5_⟩
                    have n0_ : Aside0 (Kd.R (Kd.int .u8) 5 w73 w.heap.size (fun _ => True) v257 x5_3) := ⟨h0_⟩
                    have n1_ : Aside0 (Kd.R (Kd.int .i64) 2 w73 w.heap.size (fun _ => True) u6 x6_1) := ⟨h1_⟩
                    have n2_ : Aside0 (w73.heap[gb298]? = some (.cells #[.bool t287, .bool x299001_44, .bool t289, .bool t290, .bool t291, .bool t292, .bool t293, .bool t294, .int .i64 t295] 27 (0, 0))) := ⟨h2_⟩
                    have n3_ : Aside0 (IsS116 w0 w73 g s0_0 t306 t307) := ⟨h3_⟩
                    have n4_ : Aside0 (KeepBut w w73 g none) := ⟨h4_⟩
                    have n5_ : Aside0 (Below w0.heap.size w0 w73) := ⟨h5_⟩
                    clear HO_5
                    clear HO_6
                    clear BK298
                    clear HI0
                    clear HK
                    clear HB
                    clear h0_ h1_ h2_ h3_ h4_ h5_
                    have HO_5 := n0_
                    have HO_6 := n1_
                    have BK298 := n2_
                    have HI0 := n3_
                    have HK := n4_
                    have HB := n5_
                    clear n0_ n1_ n2_ n3_ n4_ n5_
                    have hHeld := trivial
                    refine norm_ (a' := ?_) ?_ ?_
                    rotate_left
                    ·simp only [putAll, Act.put, List.setIfInBounds_toArray, List.set_cons_zero, List.set_cons_succ]
                     rfl
                    refine one_ (i := 0) (N := some 95) #[true, true, true, false, false, true, true, true, false, false, false] rfl rfl (one_of HT_.out Z8_30) Z8_32 (fun K hK => ?_)
                    refine Kd.R_lit_step (Kd.int .i64) _ 2 ?hg (N := 95) ?hd (xs := ([0, 32, 1024, 2048, 3072] : List Int)) (inner := [.int .i64 0, .int .i64 32, .int .i64 1024, .int .i64 2048, .int .i64 3072]) (ok := fun _ => True) (okp := fun _ => True) ?hr ?hp (fun _ hk => hk) trivial (Below.refl _ _) (Nat.le_refl _) (by simp) ?_; (case hd => rfl); (case hg => rfl); (case hr => exact Z8_35); (case hp => exact (Reps.one (show Kd.M (Kd.int .i64) _ _ _ 0 [.int .i64 0] from rfl) (Reps.one (show Kd.M (Kd.int .i64) _ _ _ 32 [.int .i64 32] from rfl) (Reps.one (show Kd.M (Kd.int .i64) _ _ _ 1024 [.int .i64 1024] from rfl) (Reps.one (show Kd.M (Kd.int .i64) _ _ _ 2048 [.int .i64 2048] from rfl) (Reps.one (show Kd.M (Kd.int .i64) _ _ _ 3072 [.int .i64 3072] from rfl) (Reps.none _ _)))))))
                    intro v303 w74 ho75 hb hg_ hnew_
                    clear hg_ hnew_
                    (first | rw [← Ny302.out] at ho75 | (simp only [Int.reduceToNat] at ho75; rw [← Ny302.out] at ho75))
                    have n0_ := Aside0.mk (Kd.R_below Z8_4 hb)
                    have n1_ := Aside0.mk (Kd.R_elder' Z8_5 (Kd.R_base ho75) hb)
                    have n2_ := Aside0.mk (Kd.R_lower (Kd.R_new' ho75 (Kd.R_lt Z8_5)) (keep_size (w := w) (g := g) (row := none) Z8_1))
                    have n3_ := Aside0.mk (blk_below (g := gb298) (o := .cells #[.bool t287, .bool x299001_44, .bool t289, .bool t290, .bool t291, .bool t292, .bool t293, .bool t294, .int .i64 t295] 27 (0, 0)) Z8_6 hb)
                    have n4_ := Aside0.mk (IsS116.below Z8_2 hb)
                    have n5_ := Aside0.mk (KeepBut.trans Z8_1 (KeepBut.of_below hb g none) (.inl rfl))
                    have n6_ := Aside0.mk (below_step Z8_3 hb)
                    clear HO_5
                    clear HO_6
                    clear BK298
                    clear HI0
                    clear HK
                    clear HB
                    have HO_5 := n0_
                    have HO_6 := n1_
                    have HO304 := n2_
                    have BK298 := n3_
                    have HI0 := n4_
                    have HK := n5_
                    have HB := n6_
                    clear n0_ n1_ n2_ n3_ n4_ n5_ n6_
                    clear hb ho75
                    obtain ⟨Ao76, co76, eo76⟩ := Kd.R_slice HO304.out
                    subst eo76
                    obtain ⟨ado76, fo76, _⟩ := Kd.at_int (Kd.R_reads' HO304.out).2.2 0 Z8_32 (by rw [Ny302.out]; simp)
                    cases fo76
                    refine hK.out _ _ trivial (fun hHeld => ?_)
                    clear hK K
                    refine norm_ (a' := ?_) ?_ ?_
                    rotate_left
                    ·show Act.put _ (some 95) _ = _
                     simp only [Act.put, List.setIfInBounds_toArray, List.set_cons_zero, List.set_cons_succ, i64_w, i32_w]
                     rfl
                    refine pure_ (i := 3) (N := some 98) (v := ?_) (a' := ?_) #[true, true, true, true, false, true, true, true, false, false, false] rfl rfl (any_of HT_.out Z8_30) (fun _ _ _ h => h) (Or.inl ⟨by rfl, ?_⟩) ?_ ?_
                    rotate_left
                    ·intro w'
                     go_simp
                     with_reducible rfl
                    rotate_left
                    ·simp only [Act.put, List.setIfInBounds_toArray, List.set_cons_zero, List.set_cons_succ, i64_w, i32_w]
                     rfl
                    exact norm_ Z8_8 (hJ0_2_7 (.slice (some ado76) y302.length co76, ado76) _ ⟨Z8_26, Z8_4, Z8_27, ⟨_, rfl⟩, Z8_6, Z8_2, Z8_1, Z8_3⟩)
                   skip
                   rintro ⟨v303, adz_v303⟩ w76 ⟨h0_, h1_, h2_, h3_, h4_, h5_, h6_, h7_⟩
                   have n0_ : Aside0 (Kd.R (Kd.int .i64) 2 w76 w.heap.size (fun k_ => some k_ ≠ (u6 : Value).ownBlock) v303 y302) := ⟨h0_⟩
                   have n1_ : Aside0 (Kd.R (Kd.int .u8) 5 w76 w.heap.size (fun _ => True) v257 x5_3) := ⟨h1_⟩
                   have n2_ : Aside0 (Kd.R (Kd.int .i64) 2 w76 w.heap.size (fun k_ => some k_ ≠ (v303 : Value).ownBlock) u6 x6_1) := ⟨h2_⟩
                   have n3_ : Aside0 (∃ c_, (v303 : Value) = .slice (some adz_v303) y302.length c_) := ⟨h3_⟩
                   have n4_ : Aside0 (w76.heap[gb298]? = some (.cells #[.bool t287, .bool x299001_44, .bool t289, .bool t290, .bool t291, .bool t292, .bool t293, .bool t294, .int .i64 t295] 27 (0, 0))) := ⟨h4_⟩
                   have n5_ : Aside0 (IsS116 w0 w76 g s0_0 t306 t307) := ⟨h5_⟩
                   have n6_ : Aside0 (KeepBut w w76 g none) := ⟨h6_⟩
                   have n7_ : Aside0 (Below w0.heap.size w0 w76) := ⟨h7_⟩
                   clear HO_5
                   clear HO_6
                   clear BK298
                   clear HI0
                   clear HK
                   clear HB
                   clear h0_ h1_ h2_ h3_ h4_ h5_ h6_ h7_
                   have HO304 := n0_
                   have HO_5 := n1_
                   have HO_6 := n2_
                   have HA_HO304 := n3_
                   have BK298 := n4_
                   have HI0 := n5_
                   have HK := n6_
                   have HB := n7_
                   clear n0_ n1_ n2_ n3_ n4_ n5_ n6_ n7_
                   have hHeld := trivial
                   obtain ⟨co77, eo77⟩ := HA_HO304.out
                   clear HA_HO304
                   subst eo77
                   refine norm_ (a' := ?_) ?_ ?_
                   rotate_left
                   ·simp only [putAll, Act.put, List.setIfInBounds_toArray, List.set_cons_zero, List.set_cons_succ]
                    rfl
                   refine two_ (i := 4) (j := 7) (Ni := some 99) (Nj := some 102) #[true, true, true, true, true, true, true, false, false, false, false] #[true, true, true, true, false, true, true, true, false, false, false] rfl rfl rfl rfl (two_of HT_.out Z8_30) Z8_32 Z8_32 (fun K hK => ?_) (fun K hK => ?_)
                   ·skip
                    (have p308 : 0 ≤ (t305 : Int) := of_decide_eq_true Z8_31; have q308 : t305 < (y302.length : Int) := of_decide_eq_true Z8_31; obtain ⟨ad308, e308, hx308_0⟩ := Kd.at_int (Kd.R_reads' HO304.out).2.2 t305 p308 q308; obtain rfl : adz_v303 = ad308 := (by injection e308))
                    refine value_ (w1 := ?_) (v := ?_) (by rfl) rfl ?_ ?_
                    rotate_left 2
                    ·go_simp
                     constructor
                     ·rfl
                     rfl
                    clear hx308_0
                    refine hK.out _ _ trivial (fun hHeld => ?_)
                    clear hK K
                    refine norm_ (a' := ?_) ?_ ?_
                    rotate_left
                    ·show Act.put _ (some 99) _ = _
                     simp only [Act.put, List.setIfInBounds_toArray, List.set_cons_zero, List.set_cons_succ, i64_w, i32_w]
                     rfl
                    exact norm_ Z8_8 (hJ0_2_4 (.slice (some adz_v303) y302.length co77, adz_v303) _ ⟨Z8_19, Z8_4, Z8_5, ⟨_, rfl⟩, Z8_6, Z8_2, Z8_1, Z8_3⟩)
                   skip
                   refine goes_ Try.func87 Z8_30 rfl #[.int .i64 (wrap64 (x10_3 - 1))] (by rfl) rfl rfl Z8_7 ?_
                   with_reducible refine (spec_l6Pages.calls kj48 (wrap64 (x10_3 - 1)) t309 _ A59.out).mono ?_
                   rintro e w' ⟨rfl, ⟨nd, rfl⟩⟩
                   refine ⟨_, rfl, ?_⟩
                   refine hK.out _ _ trivial (fun hHeld => ?_)
                   clear hK K
                   refine norm_ (a' := ?_) ?_ ?_
                   rotate_left
                   ·show Act.put _ (some 102) _ = _
                    simp only [Act.put, List.setIfInBounds_toArray, List.set_cons_zero, List.set_cons_succ, i64_w, i32_w]
                    rfl
                   exact norm_ Z8_8 (hJ0_2_7 (.slice (some adz_v303) y302.length co77, adz_v303) _ ⟨Z8_19, Z8_4, Z8_5, ⟨_, rfl⟩, Z8_6, Z8_2, Z8_1, Z8_3⟩)
                  skip
                  rintro ⟨v303, adz_v303⟩ w76 ⟨h0_, h1_, h2_, h3_, h4_, h5_, h6_, h7_⟩
                  have n0_ : Aside0 (Kd.R (Kd.int .i64) 2 w76 w.heap.size (fun k_ => some k_ ≠ (u6 : Value).ownBlock) v303 y302) := ⟨h0_⟩
                  have n1_ : Aside0 (Kd.R (Kd.int .u8) 5 w76 w.heap.size (fun _ => True) v257 x5_3) := ⟨h1_⟩
                  have n2_ : Aside0 (Kd.R (Kd.int .i64) 2 w76 w.heap.size (fun k_ => some k_ ≠ (v303 : Value).ownBlock) u6 x6_1) := ⟨h2_⟩
                  have n3_ : Aside0 (∃ c_, (v303 : Value) = .slice (some adz_v303) y302.length c_) := ⟨h3_⟩
                  have n4_ : Aside0 (w76.heap[gb298]? = some (.cells #[.bool t287, .bool x299001_44, .bool t289, .bool t290, .bool t291, .bool t292, .bool t293, .bool t294, .int .i64 t295] 27 (0, 0))) := ⟨h4_⟩
                  have n5_ : Aside0 (IsS116 w0 w76 g s0_0 t306 t307) := ⟨h5_⟩
                  have n6_ : Aside0 (KeepBut w w76 g none) := ⟨h6_⟩
                  have n7_ : Aside0 (Below w0.heap.size w0 w76) := ⟨h7_⟩
                  clear HO_5
                  clear HO_6
                  clear BK298
                  clear HI0
                  clear HK
                  clear HB
                  clear h0_ h1_ h2_ h3_ h4_ h5_ h6_ h7_
                  have HO304 := n0_
                  have HO_5 := n1_
                  have HO_6 := n2_
                  have HA_HO304 := n3_
                  have BK298 := n4_
                  have HI0 := n5_
                  have HK := n6_
                  have HB := n7_
                  clear n0_ n1_ n2_ n3_ n4_ n5_ n6_ n7_
                  have hHeld := trivial
                  obtain ⟨co77, eo77⟩ := HA_HO304.out
                  clear HA_HO304
                  subst eo77
                  refine norm_ (a' := ?_) ?_ ?_
                  rotate_left
                  ·simp only [putAll, Act.put, List.setIfInBounds_toArray, List.set_cons_zero, List.set_cons_succ]
                   rfl
                  refine one_ (i := 4) (N := some 99) #[true, true, true, true, true, true, true, true, false, false, false] rfl rfl (one_of HT_.out Z8_30) Z8_32 (fun K hK => ?_)
                  (have p308 : 0 ≤ (t305 : Int) := of_decide_eq_true Z8_31; have q308 : t305 < (y302.length : Int) := of_decide_eq_true Z8_31; obtain ⟨ad308, e308, hx308_0⟩ := Kd.at_int (Kd.R_reads' HO304.out).2.2 t305 p308 q308; obtain rfl : adz_v303 = ad308 := (by injection e308))
                  refine value_ (w1 := ?_) (v := ?_) (by rfl) rfl ?_ ?_
                  rotate_left 2
                  ·go_simp
                   constructor
                   ·rfl
                   rfl
                  clear hx308_0
                  refine hK.out _ _ trivial (fun hHeld => ?_)
                  clear hK K
                  refine norm_ (a' := ?_) ?_ ?_
                  rotate_left
                  ·show Act.put _ (some 99) _ = _
                   simp only [Act.put, List.setIfInBounds_toArray, List.set_cons_zero, List.set_cons_succ, i64_w, i32_w]
                   rfl
                  exact norm_ Z8_8 (hJ0_2_4_7 (.slice (some adz_v303) y302.length co77, adz_v303) _ ⟨Z8_19, Z8_4, Z8_5, ⟨_, rfl⟩, Z8_6, Z8_2, Z8_1, Z8_3⟩)
                 skip
                 rintro ⟨v303, adz_v303⟩ w76 ⟨h0_, h1_, h2_, h3_, h4_, h5_, h6_, h7_⟩
                 have n0_ : Aside0 (Kd.R (Kd.int .i64) 2 w76 w.heap.size (fun k_ => some k_ ≠ (u6 : Value).ownBlock) v303 y302) := ⟨h0_⟩
                 have n1_ : Aside0 (Kd.R (Kd.int .u8) 5 w76 w.heap.size (fun _ => True) v257 x5_3) := ⟨h1_⟩
                 have n2_ : Aside0 (Kd.R (Kd.int .i64) 2 w76 w.heap.size (fun k_ => some k_ ≠ (v303 : Value).ownBlock) u6 x6_1) := ⟨h2_⟩
                 have n3_ : Aside0 (∃ c_, (v303 : Value) = .slice (some adz_v303) y302.length c_) := ⟨h3_⟩
                 have n4_ : Aside0 (w76.heap[gb298]? = some (.cells #[.bool t287, .bool x299001_44, .bool t289, .bool t290, .bool t291, .bool t292, .bool t293, .bool t294, .int .i64 t295] 27 (0, 0))) := ⟨h4_⟩
                 have n5_ : Aside0 (IsS116 w0 w76 g s0_0 t306 t307) := ⟨h5_⟩
                 have n6_ : Aside0 (KeepBut w w76 g none) := ⟨h6_⟩
                 have n7_ : Aside0 (Below w0.heap.size w0 w76) := ⟨h7_⟩
                 clear HO_5
                 clear HO_6
                 clear BK298
                 clear HI0
                 clear HK
                 clear HB
                 clear h0_ h1_ h2_ h3_ h4_ h5_ h6_ h7_
                 have HO304 := n0_
                 have HO_5 := n1_
                 have HO_6 := n2_
                 have HA_HO304 := n3_
                 have BK298 := n4_
                 have HI0 := n5_
                 have HK := n6_
                 have HB := n7_
                 clear n0_ n1_ n2_ n3_ n4_ n5_ n6_ n7_
                 have hHeld := trivial
                 obtain ⟨co77, eo77⟩ := HA_HO304.out
                 clear HA_HO304
                 subst eo77
                 refine norm_ (a' := ?_) ?_ ?_
                 rotate_left
                 ·simp only [putAll, Act.put, List.setIfInBounds_toArray, List.set_cons_zero, List.set_cons_succ]
                  rfl
                 refine one_ (i := 7) (N := some 102) #[true, true, true, true, true, true, true, true, false, false, false] rfl rfl (one_of HT_.out Z8_30) Z8_32 (fun K hK => ?_)
                 refine goes_ Try.func87 Z8_30 rfl #[.int .i64 (wrap64 (x10_3 - 1))] (by rfl) rfl rfl Z8_7 ?_
                 with_reducible refine (spec_l6Pages.calls kj48 (wrap64 (x10_3 - 1)) t309 _ A59.out).mono ?_
                 rintro e w' ⟨rfl, ⟨nd, rfl⟩⟩
                 refine ⟨_, rfl, ?_⟩
                 refine hK.out _ _ trivial (fun hHeld => ?_)
                 clear hK K
                 refine norm_ (a' := ?_) ?_ ?_
                 rotate_left
                 ·show Act.put _ (some 102) _ = _
                  simp only [Act.put, List.setIfInBounds_toArray, List.set_cons_zero, List.set_cons_succ, i64_w, i32_w]
                  rfl
                 exact norm_ Z8_8 (hJ0_2_4_7 (.slice (some adz_v303) y302.length co77, adz_v303) _ ⟨Z8_19, Z8_4, Z8_5, ⟨_, rfl⟩, Z8_6, Z8_2, Z8_1, Z8_3⟩)
                rintro ⟨v303, adz_v303⟩ w76 ⟨h0_, h1_, h2_, h3_, h4_, h5_, h6_, h7_⟩
                have n0_ : Aside0 (Kd.R (Kd.int .i64) 2 w76 w.heap.size (fun k_ => some k_ ≠ (u6 : Value).ownBlock) v303 y302) := ⟨h0_⟩
                have n1_ : Aside0 (Kd.R (Kd.int .u8) 5 w76 w.heap.size (fun _ => True) v257 x5_3) := ⟨h1_⟩
                have n2_ : Aside0 (Kd.R (Kd.int .i64) 2 w76 w.heap.size (fun k_ => some k_ ≠ (v303 : Value).ownBlock) u6 x6_1) := ⟨h2_⟩
                have n3_ : Aside0 (∃ c_, (v303 : Value) = .slice (some adz_v303) y302.length c_) := ⟨h3_⟩
                have n4_ : Aside0 (w76.heap[gb298]? = some (.cells #[.bool t287, .bool x299001_44, .bool t289, .bool t290, .bool t291, .bool t292, .bool t293, .bool t294, .int .i64 t295] 27 (0, 0))) := ⟨h4_⟩
                have n5_ : Aside0 (IsS116 w0 w76 g s0_0 t306 t307) := ⟨h5_⟩
                have n6_ : Aside0 (KeepBut w w76 g none) := ⟨h6_⟩
                have n7_ : Aside0 (Below w0.heap.size w0 w76) := ⟨h7_⟩
                clear HO_5
                clear HO_6
                clear BK298
                clear HI0
                clear HK
                clear HB
                clear h0_ h1_ h2_ h3_ h4_ h5_ h6_ h7_
                have HO304 := n0_
                have HO_5 := n1_
                have HO_6 := n2_
                have HA_HO304 := n3_
                have BK298 := n4_
                have HI0 := n5_
                have HK := n6_
                have HB := n7_
                clear n0_ n1_ n2_ n3_ n4_ n5_ n6_ n7_
                have hHeld := trivial
                obtain ⟨co77, eo77⟩ := HA_HO304.out
                clear HA_HO304
                subst eo77
                refine norm_ (a' := ?_) ?_ ?_
                rotate_left
                ·simp only [putAll, Act.put, List.setIfInBounds_toArray, List.set_cons_zero, List.set_cons_succ]
                 rfl
                refine pure_ (i := 8) (N := some 103) (v := ?_) (a' := ?_) #[true, true, true, true, true, true, true, true, true, false, false] rfl rfl (any_of HT_.out Z8_30) (fun _ _ _ h => h) (Or.inl ⟨by rfl, ?_⟩) ?_ ?_
                rotate_left
                ·intro w'
                 go_simp
                 with_reducible rfl
                rotate_left
                ·simp only [Act.put, List.setIfInBounds_toArray, List.set_cons_zero, List.set_cons_succ, i64_w, i32_w]
                 rfl
                refine pure_ (i := 9) (N := some 104) (v := ?_) (a' := ?_) #[true, true, true, true, true, true, true, true, true, true, false] rfl rfl (any_of HT_.out Z8_30) (fun _ _ _ h => h) (Or.inl ⟨by rfl, ?_⟩) ?_ ?_
                rotate_left
                ·intro w'
                 go_simp
                 with_reducible rfl
                rotate_left
                ·simp only [Act.put, List.setIfInBounds_toArray, List.set_cons_zero, List.set_cons_succ, i64_w, i32_w]
                 rfl
                refine one_ (i := 10) (N := none) #[true, true, true, true, true, true, true, true, true, true, true] rfl rfl (one_of HT_.out Z8_30) Z8_32 (fun K hK => ?_)
                have hs78 : w76.cell? ⟨gb298, 8, none⟩ = some (.int .i64 t295) := (blk_cell BK298.out 8).trans rfl
                have hfs78 := blk_frozen BK298.out 8
                refine skip_ (w1 := ?_) (by rfl) rfl ?_ ?_
                rotate_left
                ·go_simp
                 rfl
                refine hK.out _ _ trivial (fun hHeld => ?_)
                clear hK K
                refine done_ (done_of HT_.out Z8_30) ?_
                have hnb79 := NB298_0.out
                have hnc79 := NB0_298.out
                have hcz80_0 : w76.cell? ⟨gb298, 0, none⟩ = some (.bool t287) := (blk_cell BK298.out 0).trans rfl
                have hcz80_1 : w76.cell? ⟨gb298, 1, none⟩ = some (.bool x299001_44) := (blk_cell BK298.out 1).trans rfl
                have hcz80_2 : w76.cell? ⟨gb298, 2, none⟩ = some (.bool t289) := (blk_cell BK298.out 2).trans rfl
                have hcz80_3 : w76.cell? ⟨gb298, 3, none⟩ = some (.bool t290) := (blk_cell BK298.out 3).trans rfl
                have hcz80_4 : w76.cell? ⟨gb298, 4, none⟩ = some (.bool t291) := (blk_cell BK298.out 4).trans rfl
                have hcz80_5 : w76.cell? ⟨gb298, 5, none⟩ = some (.bool t292) := (blk_cell BK298.out 5).trans rfl
                have hcz80_6 : w76.cell? ⟨gb298, 6, none⟩ = some (.bool t293) := (blk_cell BK298.out 6).trans rfl
                have hcz80_7 : w76.cell? ⟨gb298, 7, none⟩ = some (.bool t294) := (blk_cell BK298.out 7).trans rfl
                have hcz80_8 : w76.cell? ⟨gb298, 8, none⟩ = some (.int .i64 t295) := (blk_cell BK298.out 8).trans rfl
                have hfz80_0 := blk_frozen BK298.out 0
                have hfz80_1 := blk_frozen BK298.out 1
                have hfz80_2 := blk_frozen BK298.out 2
                have hfz80_3 := blk_frozen BK298.out 3
                have hfz80_4 := blk_frozen BK298.out 4
                have hfz80_5 := blk_frozen BK298.out 5
                have hfz80_6 := blk_frozen BK298.out 6
                have hfz80_7 := blk_frozen BK298.out 7
                have hfz80_8 := blk_frozen BK298.out 8
                try go_wp2
                go_meet
                case rel => exact ⟨_, (t306), (t307), (wrap64 ((rd y302 t305) * t309)), H', ⟨Z8_37⟩, ⟨by (with_reducible repeat (first | apply Kd.R_alloc | apply Kd.R_drewN | apply Kd.R_drew)); exact Kd.R_mono (Kd.R_far (p := ⟨gb298, 8, none⟩) (Kd.R_types HO_5.out BK298.out Z8_32) (fun _ hk => hk.2) (.int .i64 (wrap64 ((rd y302 t305) * t309)))) (fun _ hk => trivial)⟩, ⟨by (with_reducible repeat (first | apply Kd.R_alloc | apply Kd.R_drewN | apply Kd.R_drew)); exact Kd.R_mono (Kd.R_far (p := ⟨gb298, 8, none⟩) (Kd.R_types HO_6.out BK298.out Z8_32) (fun _ hk => hk.2) (.int .i64 (wrap64 ((rd y302 t305) * t309)))) (fun _ hk => trivial)⟩, ⟨by (with_reducible repeat (first | apply blk_drewN | apply blk_drew | apply blk_alloc)); refine blk_put (cs := #[.bool t287, .bool x299001_44, .bool t289, .bool t290, .bool t291, .bool t292, .bool t293, .bool t294, .int .i64 t295]) ?_ 8 _ rfl; (with_reducible repeat (first | apply blk_drewN | apply blk_drew | apply blk_alloc)); exact BK298.out⟩, ⟨Z8_2⟩, ⟨Z8_1⟩, ⟨Z8_3⟩⟩
               rw [if_neg c58] at H
               exact absurd H (by simp)
              rw [if_neg c57] at H
              exact absurd H (by simp)
             replace c55 := Bool.eq_false_iff.mpr c55
             subst c55
             have H1 : (spec_l6DrawTables.j7 kj48 (wrap64 (4 + t253)) x5_3 x6_1 x7_1 x8_14 x10_3 (wrap64 ((wrap64 (x9_3 * 256)) + (wrap64 (8 * (Int.tmod (wrap64 (Int.tdiv x8_14 (wrap64 (256 * t283)))) 32))))) x13_28 s0_0 x1001_48 x1002_48 t287 x299001_44 t289 t290 t291 t292 t293 t294 t295) = some (r1, r2, r3, r4) := by rw [if_neg (show ¬ (false = true) by decide)] at H; exact H
             clear H
             have H := H1
             clear H1
             have H' := Aside0.mk H
             clear H
             go_wp2
             go_meet
             case rel => exact ⟨_, (x1001_48), (x1002_48), (t295), H', ⟨Z8_37⟩, ⟨Z8_4⟩, ⟨Z8_5⟩, ⟨Z8_6⟩, ⟨Z8_2⟩, ⟨Z8_1⟩, ⟨Z8_3⟩⟩)⟩
             exact Nonempty.elim (inferInstanceAs (Nonempty (type_of% ?L6))) id
            clear HC54
            try clear p2
            try clear p3
            try clear q3
            try clear hx3
            try clear c5
            try clear c6
            try clear p6
            try clear c7
            try clear c8
            try clear p30
            try clear q30
            try clear hx30
            try clear c55
            try clear c57
            try clear c58
            try clear c61
            try clear p64
            try clear c79
            try clear hcz80_0
            try clear hcz80_1
            try clear hcz80_2
            try clear hcz80_3
            try clear hcz80_4
            try clear hcz80_5
            try clear hcz80_6
            try clear hcz80_7
            try clear hcz80_8
            try clear hfz80_0
            try clear hfz80_1
            try clear hfz80_2
            try clear hfz80_3
            try clear hfz80_4
            try clear hfz80_5
            try clear hfz80_6
            try clear hfz80_7
            try clear hfz80_8
            try clear hx308_0
            try clear p308
            try clear q308
            obtain ⟨kq, x1001_53, x1002_53, x299008_53, HA, HJ53, HO_5, HO_6, BK298, HI0, HK, HB⟩ := hcut
            cases kq with
            | zero => exact absurd HA.out (by simp [spec_l6DrawTables.j7])
            | succ kj53 =>
             have H := HA.out
             clear HA
             simp only [spec_l6DrawTables.j7] at H
             replace H := Option.bind_eq_some_iff.mp H
             obtain ⟨⟨t310, t311, t312⟩, A810, H⟩ := H
             replace H : (if x13_28 = true then (spec_l6DrawTables.j8 kj53 (wrap64 (4 + t253)) x5_3 x6_1 x7_1 x8_14 x10_3 (wrap64 ((wrap64 (x9_3 * 256)) + (wrap64 (8 * (Int.tmod (wrap64 (Int.tdiv x8_14 (wrap64 (256 * t283)))) 32))))) x13_28 (wrap64 (1 + t310)) s0_0 t311 t312 t287 x299001_44 t289 t290 t291 t292 t293 t294 x299008_53) else ((spec_l1Once.f s0_0 t311 t312 20).bind fun bt313 => (if bt313.1 = true then (spec_l6DrawTables.j8 kj53 (wrap64 (4 + t253)) x5_3 x6_1 x7_1 x8_14 x10_3 (wrap64 ((wrap64 (x9_3 * 256)) + (wrap64 (8 * (Int.tmod (wrap64 (Int.tdiv x8_14 (wrap64 (256 * t283)))) 32))))) x13_28 (wrap64 (1 + t310)) s0_0 bt313.2.1 bt313.2.2 true false false false false true false t294 (wrap64 (1 + t310))) else (spec_l6DrawTables.j8 kj53 (wrap64 (4 + t253)) x5_3 x6_1 x7_1 x8_14 x10_3 (wrap64 ((wrap64 (x9_3 * 256)) + (wrap64 (8 * (Int.tmod (wrap64 (Int.tdiv x8_14 (wrap64 (256 * t283)))) 32))))) x13_28 (wrap64 (1 + t310)) s0_0 bt313.2.1 bt313.2.2 true false false false false false false t294 (wrap64 (1 + t310)))))) = some (r1, r2, r3, r4) := H
             have A81 := Aside0.mk A810
             clear A810
             have HC82 := Aside0.mk H
             clear H
             go_upto_if 114 with (first | ((with_reducible refine gate_callee (f := 61) rfl ?_); refine goesL_ (some 111) rfl rfl Try.func61 Z8_30 rfl #[.pointer (some ⟨g, 0, none⟩), .int .i64 (wrap64 (4 + t253))] rfl Z8_7 ?_; (with_reducible refine (spec_l1Below.calls g s0_0 x1001_53 x1002_53 (wrap64 (4 + t253)) t310 t311 t312 w0 _ ?side1 ?side2 A81.out).mono ?_); (case side1 => exact Z8_2); (case side2 => exact Z8_3); rintro e w83 ⟨rfl, hi, hb, hk⟩; refine ⟨_, rfl, ?_⟩; have n0_ := Aside0.mk (Kd.R_mono (Kd.R_keep (IsS116.apart (show IsS116 w0 _ g s0_0 x1001_53 x1002_53 from by repeat (first | (with_reducible first | exact HI0.out | apply IsS116.alloc | apply IsS116.drewN | apply IsS116.drew | apply IsS116.set_1 | apply IsS116.set_2 | refine IsS116.far ?_ NB0_298.out _) | exact HI0.out)) Z8_4 Z8_32) hk (fun _ h => h.2)) (fun _ h => h.1)); have n1_ := Aside0.mk (Kd.R_mono (Kd.R_keep (IsS116.apart (show IsS116 w0 _ g s0_0 x1001_53 x1002_53 from by repeat (first | (with_reducible first | exact HI0.out | apply IsS116.alloc | apply IsS116.drewN | apply IsS116.drew | apply IsS116.set_1 | apply IsS116.set_2 | refine IsS116.far ?_ NB0_298.out _) | exact HI0.out)) Z8_5 Z8_32) hk (fun _ h => h.2)) (fun _ h => h.1)); have n2_ := Aside0.mk (KeepBut.blk hk (g' := gb298) (o := .cells #[.bool t287, .bool x299001_44, .bool t289, .bool t290, .bool t291, .bool t292, .bool t293, .bool t294, .int .i64 x299008_53] 27 (0, 0)) Z8_6 NB298_0.out (by simp)); have n3_ := Aside0.mk (KeepBut.trans Z8_1 hk (.inl rfl)); have n4_ := Aside0.mk (hb); have n5_ := Aside0.mk (hi); clear HO_5; clear HO_6; clear BK298; clear HK; clear HB; clear HI0; have HO_5 := n0_; have HO_6 := n1_; have BK298 := n2_; have HK := n3_; have HB := n4_; have HI0 := n5_; clear n0_ n1_ n2_ n3_ n4_ n5_; (try clear hb); (try clear hb2); (try clear hk); (try clear hi)))
             (try simp only [Act.put, List.setIfInBounds_toArray, List.set_cons_zero, List.set_cons_succ])
             go_cut [] (fun wc => ∃ (kq : Nat) (x1001_81 : Int) (x1002_81 : Int) (x299000_81 : Bool) (x299001_81 : Bool) (x299002_81 : Bool) (x299003_81 : Bool) (x299004_81 : Bool) (x299005_81 : Bool) (x299006_81 : Bool) (x299007_81 : Bool) (x299008_81 : Int), Aside0 (spec_l6DrawTables.j8 kq (wrap64 (4 + t253)) x5_3 x6_1 x7_1 x8_14 x10_3 (wrap64 ((wrap64 (x9_3 * 256)) + (wrap64 (8 * (Int.tmod (wrap64 (Int.tdiv x8_14 (wrap64 (256 * t283)))) 32))))) x13_28 (wrap64 (1 + t310)) s0_0 x1001_81 x1002_81 x299000_81 x299001_81 x299002_81 x299003_81 x299004_81 x299005_81 x299006_81 x299007_81 x299008_81 = some (r1, r2, r3, r4)) ∧ Aside0 (kq ≤ kj53) ∧ Aside0 (Kd.R (Kd.int .u8) 5 wc w.heap.size (fun _ => True) v257 x5_3) ∧ Aside0 (Kd.R (Kd.int .i64) 2 wc w.heap.size (fun _ => True) u6 x6_1) ∧ Aside0 (wc.heap[gb298]? = some (.cells #[.bool x299000_81, .bool x299001_81, .bool x299002_81, .bool x299003_81, .bool x299004_81, .bool x299005_81, .bool x299006_81, .bool x299007_81, .int .i64 x299008_81] 27 (0, 0))) ∧ Aside0 (IsS116 w0 wc g s0_0 x1001_81 x1002_81) ∧ Aside0 (KeepBut w wc g none) ∧ Aside0 (Below w0.heap.size w0 wc))
             case first =>
              refine ?L7
              letI iL7 : Nonempty (type_of% ?L7) := ⟨(by
              have H := HC82.out
              clear HC82
              by_cases c84 : x13_28 = true
              ·subst c84
               have H1 : (spec_l6DrawTables.j8 kj53 (wrap64 (4 + t253)) x5_3 x6_1 x7_1 x8_14 x10_3 (wrap64 ((wrap64 (x9_3 * 256)) + (wrap64 (8 * (Int.tmod (wrap64 (Int.tdiv x8_14 (wrap64 (256 * t283)))) 32))))) true (wrap64 (1 + t310)) s0_0 t311 t312 t287 x299001_44 t289 t290 t291 t292 t293 t294 x299008_53) = some (r1, r2, r3, r4) := by rw [if_pos rfl] at H; exact H
               clear H
               have H := H1
               clear H1
               have H' := Aside0.mk H
               clear H
               go_wp2
               go_meet
               case rel => exact ⟨_, (t311), (t312), (t287), (x299001_44), (t289), (t290), (t291), (t292), (t293), (t294), (x299008_53), H', ⟨Z8_36⟩, ⟨Z8_4⟩, ⟨Z8_5⟩, ⟨Z8_6⟩, ⟨Z8_2⟩, ⟨Z8_1⟩, ⟨Z8_3⟩⟩
              replace c84 := Bool.eq_false_iff.mpr c84
              subst c84
              have H1 : ((spec_l1Once.f s0_0 t311 t312 20).bind fun bt313 => (if bt313.1 = true then (spec_l6DrawTables.j8 kj53 (wrap64 (4 + t253)) x5_3 x6_1 x7_1 x8_14 x10_3 (wrap64 ((wrap64 (x9_3 * 256)) + (wrap64 (8 * (Int.tmod (wrap64 (Int.tdiv x8_14 (wrap64 (256 * t283)))) 32))))) false (wrap64 (1 + t310)) s0_0 bt313.2.1 bt313.2.2 true false false false false true false t294 (wrap64 (1 + t310))) else (spec_l6DrawTables.j8 kj53 (wrap64 (4 + t253)) x5_3 x6_1 x7_1 x8_14 x10_3 (wrap64 ((wrap64 (x9_3 * 256)) + (wrap64 (8 * (Int.tmod (wrap64 (Int.tdiv x8_14 (wrap64 (256 * t283)))) 32))))) false (wrap64 (1 + t310)) s0_0 bt313.2.1 bt313.2.2 true false false false false false false t294 (wrap64 (1 + t310))))) = some (r1, r2, r3, r4) := by rw [if_neg (show ¬ (false = true) by decide)] at H; exact H
              clear H
              have H := H1
              clear H1
              replace H := Option.bind_eq_some_iff.mp H
              obtain ⟨⟨t313, t314, t315⟩, A850, H⟩ := H
              replace H : (if t313 = true then (spec_l6DrawTables.j8 kj53 (wrap64 (4 + t253)) x5_3 x6_1 x7_1 x8_14 x10_3 (wrap64 ((wrap64 (x9_3 * 256)) + (wrap64 (8 * (Int.tmod (wrap64 (Int.tdiv x8_14 (wrap64 (256 * t283)))) 32))))) false (wrap64 (1 + t310)) s0_0 t314 t315 true false false false false true false t294 (wrap64 (1 + t310))) else (spec_l6DrawTables.j8 kj53 (wrap64 (4 + t253)) x5_3 x6_1 x7_1 x8_14 x10_3 (wrap64 ((wrap64 (x9_3 * 256)) + (wrap64 (8 * (Int.tmod (wrap64 (Int.tdiv x8_14 (wrap64 (256 * t283)))) 32))))) false (wrap64 (1 + t310)) s0_0 t314 t315 true false false false false false false t294 (wrap64 (1 + t310)))) = some (r1, r2, r3, r4) := H
              have A85 := Aside0.mk A850
              clear A850
              by_cases c86 : t313 = true
              ·subst c86
               have H1 : (spec_l6DrawTables.j8 kj53 (wrap64 (4 + t253)) x5_3 x6_1 x7_1 x8_14 x10_3 (wrap64 ((wrap64 (x9_3 * 256)) + (wrap64 (8 * (Int.tmod (wrap64 (Int.tdiv x8_14 (wrap64 (256 * t283)))) 32))))) false (wrap64 (1 + t310)) s0_0 t314 t315 true false false false false true false t294 (wrap64 (1 + t310))) = some (r1, r2, r3, r4) := by rw [if_pos rfl] at H; exact H
               clear H
               have H := H1
               clear H1
               have H' := Aside0.mk H
               clear H
               have hnb87 := NB298_0.out
               have hnc87 := NB0_298.out
               have hcz88_0 : w83.cell? ⟨gb298, 0, none⟩ = some (.bool t287) := (blk_cell BK298.out 0).trans rfl
               have hcz88_1 : w83.cell? ⟨gb298, 1, none⟩ = some (.bool x299001_44) := (blk_cell BK298.out 1).trans rfl
               have hcz88_2 : w83.cell? ⟨gb298, 2, none⟩ = some (.bool t289) := (blk_cell BK298.out 2).trans rfl
               have hcz88_3 : w83.cell? ⟨gb298, 3, none⟩ = some (.bool t290) := (blk_cell BK298.out 3).trans rfl
               have hcz88_4 : w83.cell? ⟨gb298, 4, none⟩ = some (.bool t291) := (blk_cell BK298.out 4).trans rfl
               have hcz88_5 : w83.cell? ⟨gb298, 5, none⟩ = some (.bool t292) := (blk_cell BK298.out 5).trans rfl
               have hcz88_6 : w83.cell? ⟨gb298, 6, none⟩ = some (.bool t293) := (blk_cell BK298.out 6).trans rfl
               have hcz88_7 : w83.cell? ⟨gb298, 7, none⟩ = some (.bool t294) := (blk_cell BK298.out 7).trans rfl
               have hcz88_8 : w83.cell? ⟨gb298, 8, none⟩ = some (.int .i64 x299008_53) := (blk_cell BK298.out 8).trans rfl
               have hfz88_0 := blk_frozen BK298.out 0
               have hfz88_1 := blk_frozen BK298.out 1
               have hfz88_2 := blk_frozen BK298.out 2
               have hfz88_3 := blk_frozen BK298.out 3
               have hfz88_4 := blk_frozen BK298.out 4
               have hfz88_5 := blk_frozen BK298.out 5
               have hfz88_6 := blk_frozen BK298.out 6
               have hfz88_7 := blk_frozen BK298.out 7
               have hfz88_8 := blk_frozen BK298.out 8
               go_wp2_with (first | ((with_reducible refine gate_callee (f := 60) rfl ?_); refine goesL_ (some 120) rfl rfl Try.func60 Z8_30 rfl #[.pointer (some ⟨g, 0, none⟩), .int .i64 20] rfl Z8_7 ?_; (with_reducible refine (spec_l1Once.calls g s0_0 t311 t312 20 true t314 t315 w0 _ ?side1 ?side2 A85.out).mono ?_); (case side1 => exact Z8_2); (case side2 => exact Z8_3); rintro e w89 ⟨rfl, hi, hb, hk⟩; refine ⟨_, rfl, ?_⟩; have n0_ := Aside0.mk (Kd.R_mono (Kd.R_keep (IsS116.apart (show IsS116 w0 _ g s0_0 t311 t312 from by repeat (first | (with_reducible first | exact HI0.out | apply IsS116.alloc | apply IsS116.drewN | apply IsS116.drew | apply IsS116.set_1 | apply IsS116.set_2 | refine IsS116.far ?_ NB0_298.out _) | exact HI0.out)) Z8_22 Z8_32) hk (fun _ h => h.2)) (fun _ h => h.1)); have n1_ := Aside0.mk (Kd.R_mono (Kd.R_keep (IsS116.apart (show IsS116 w0 _ g s0_0 t311 t312 from by repeat (first | (with_reducible first | exact HI0.out | apply IsS116.alloc | apply IsS116.drewN | apply IsS116.drew | apply IsS116.set_1 | apply IsS116.set_2 | refine IsS116.far ?_ NB0_298.out _) | exact HI0.out)) Z8_23 Z8_32) hk (fun _ h => h.2)) (fun _ h => h.1)); have n2_ := Aside0.mk (KeepBut.blk hk (g' := gb298) (o := .cells #[.bool true, .bool false, .bool false, .bool false, .bool false, .bool false, .bool false, .bool t294, .int .i64 (wrap64 (1 + t310))] 27 (0, 0)) Z8_13 NB298_0.out (by simp)); have n3_ := Aside0.mk (KeepBut.trans Z8_1 hk (.inl rfl)); have n4_ := Aside0.mk (hb); have n5_ := Aside0.mk (hi); clear HO_5; clear HO_6; clear BK298; clear HK; clear HB; clear HI0; have HO_5 := n0_; have HO_6 := n1_; have BK298 := n2_; have HK := n3_; have HB := n4_; have HI0 := n5_; clear n0_ n1_ n2_ n3_ n4_ n5_; (try clear hb); (try clear hb2); (try clear hk); (try clear hi); have hcz90_0 : w89.cell? ⟨gb298, 0, none⟩ = some (.bool true) := (blk_cell BK298.out 0).trans rfl; have hcz90_1 : w89.cell? ⟨gb298, 1, none⟩ = some (.bool false) := (blk_cell BK298.out 1).trans rfl; have hcz90_2 : w89.cell? ⟨gb298, 2, none⟩ = some (.bool false) := (blk_cell BK298.out 2).trans rfl; have hcz90_3 : w89.cell? ⟨gb298, 3, none⟩ = some (.bool false) := (blk_cell BK298.out 3).trans rfl; have hcz90_4 : w89.cell? ⟨gb298, 4, none⟩ = some (.bool false) := (blk_cell BK298.out 4).trans rfl; have hcz90_5 : w89.cell? ⟨gb298, 5, none⟩ = some (.bool false) := (blk_cell BK298.out 5).trans rfl; have hcz90_6 : w89.cell? ⟨gb298, 6, none⟩ = some (.bool false) := (blk_cell BK298.out 6).trans rfl; have hcz90_7 : w89.cell? ⟨gb298, 7, none⟩ = some (.bool t294) := (blk_cell BK298.out 7).trans rfl; have hcz90_8 : w89.cell? ⟨gb298, 8, none⟩ = some (.int .i64 (wrap64 (1 + t310))) := (blk_cell BK298.out 8).trans rfl; have hfz90_0 := blk_frozen BK298.out 0; have hfz90_1 := blk_frozen BK298.out 1; have hfz90_2 := blk_frozen BK298.out 2; have hfz90_3 := blk_frozen BK298.out 3; have hfz90_4 := blk_frozen BK298.out 4; have hfz90_5 := blk_frozen BK298.out 5; have hfz90_6 := blk_frozen BK298.out 6; have hfz90_7 := blk_frozen BK298.out 7; have hfz90_8 := blk_frozen BK298.out 8))
               go_meet
               case rel => exact ⟨_, (t314), (t315), (true), (false), (false), (false), (false), (true), (false), (t294), (wrap64 (1 + t310)), H', ⟨Z8_36⟩, ⟨by (with_reducible repeat (first | apply Kd.R_alloc | apply Kd.R_drewN | apply Kd.R_drew)); exact Kd.R_mono (Kd.R_far (p := ⟨gb298, 5, none⟩) (Kd.R_types HO_5.out BK298.out Z8_32) (fun _ hk => hk.2) (.bool true)) (fun _ hk => trivial)⟩, ⟨by (with_reducible repeat (first | apply Kd.R_alloc | apply Kd.R_drewN | apply Kd.R_drew)); exact Kd.R_mono (Kd.R_far (p := ⟨gb298, 5, none⟩) (Kd.R_types HO_6.out BK298.out Z8_32) (fun _ hk => hk.2) (.bool true)) (fun _ hk => trivial)⟩, ⟨by (with_reducible repeat (first | apply blk_drewN | apply blk_drew | apply blk_alloc)); refine blk_put (cs := #[.bool true, .bool false, .bool false, .bool false, .bool false, .bool false, .bool false, .bool t294, .int .i64 (wrap64 (1 + t310))]) ?_ 5 _ rfl; (with_reducible repeat (first | apply blk_drewN | apply blk_drew | apply blk_alloc)); exact BK298.out⟩, ⟨Z8_2⟩, ⟨Z8_1⟩, ⟨Z8_3⟩⟩
              replace c86 := Bool.eq_false_iff.mpr c86
              subst c86
              have H1 : (spec_l6DrawTables.j8 kj53 (wrap64 (4 + t253)) x5_3 x6_1 x7_1 x8_14 x10_3 (wrap64 ((wrap64 (x9_3 * 256)) + (wrap64 (8 * (Int.tmod (wrap64 (Int.tdiv x8_14 (wrap64 (256 * t283)))) 32))))) false (wrap64 (1 + t310)) s0_0 t314 t315 true false false false false false false t294 (wrap64 (1 + t310))) = some (r1, r2, r3, r4) := by rw [if_neg (show ¬ (false = true) by decide)] at H; exact H
              clear H
              have H := H1
              clear H1
              have H' := Aside0.mk H
              clear H
              have hnb91 := NB298_0.out
              have hnc91 := NB0_298.out
              have hcz92_0 : w83.cell? ⟨gb298, 0, none⟩ = some (.bool t287) := (blk_cell BK298.out 0).trans rfl
              have hcz92_1 : w83.cell? ⟨gb298, 1, none⟩ = some (.bool x299001_44) := (blk_cell BK298.out 1).trans rfl
              have hcz92_2 : w83.cell? ⟨gb298, 2, none⟩ = some (.bool t289) := (blk_cell BK298.out 2).trans rfl
              have hcz92_3 : w83.cell? ⟨gb298, 3, none⟩ = some (.bool t290) := (blk_cell BK298.out 3).trans rfl
              have hcz92_4 : w83.cell? ⟨gb298, 4, none⟩ = some (.bool t291) := (blk_cell BK298.out 4).trans rfl
              have hcz92_5 : w83.cell? ⟨gb298, 5, none⟩ = some (.bool t292) := (blk_cell BK298.out 5).trans rfl
              have hcz92_6 : w83.cell? ⟨gb298, 6, none⟩ = some (.bool t293) := (blk_cell BK298.out 6).trans rfl
              have hcz92_7 : w83.cell? ⟨gb298, 7, none⟩ = some (.bool t294) := (blk_cell BK298.out 7).trans rfl
              have hcz92_8 : w83.cell? ⟨gb298, 8, none⟩ = some (.int .i64 x299008_53) := (blk_cell BK298.out 8).trans rfl
              have hfz92_0 := blk_frozen BK298.out 0
              have hfz92_1 := blk_frozen BK298.out 1
              have hfz92_2 := blk_frozen BK298.out 2
              have hfz92_3 := blk_frozen BK298.out 3
              have hfz92_4 := blk_frozen BK298.out 4
              have hfz92_5 := blk_frozen BK298.out 5
              have hfz92_6 := blk_frozen BK298.out 6
              have hfz92_7 := blk_frozen BK298.out 7
              have hfz92_8 := blk_frozen BK298.out 8
              go_wp2_with (first | ((with_reducible refine gate_callee (f := 60) rfl ?_); refine goesL_ (some 120) rfl rfl Try.func60 Z8_30 rfl #[.pointer (some ⟨g, 0, none⟩), .int .i64 20] rfl Z8_7 ?_; (with_reducible refine (spec_l1Once.calls g s0_0 t311 t312 20 false t314 t315 w0 _ ?side1 ?side2 A85.out).mono ?_); (case side1 => exact Z8_2); (case side2 => exact Z8_3); rintro e w93 ⟨rfl, hi, hb, hk⟩; refine ⟨_, rfl, ?_⟩; have n0_ := Aside0.mk (Kd.R_mono (Kd.R_keep (IsS116.apart (show IsS116 w0 _ g s0_0 t311 t312 from by repeat (first | (with_reducible first | exact HI0.out | apply IsS116.alloc | apply IsS116.drewN | apply IsS116.drew | apply IsS116.set_1 | apply IsS116.set_2 | refine IsS116.far ?_ NB0_298.out _) | exact HI0.out)) Z8_22 Z8_32) hk (fun _ h => h.2)) (fun _ h => h.1)); have n1_ := Aside0.mk (Kd.R_mono (Kd.R_keep (IsS116.apart (show IsS116 w0 _ g s0_0 t311 t312 from by repeat (first | (with_reducible first | exact HI0.out | apply IsS116.alloc | apply IsS116.drewN | apply IsS116.drew | apply IsS116.set_1 | apply IsS116.set_2 | refine IsS116.far ?_ NB0_298.out _) | exact HI0.out)) Z8_23 Z8_32) hk (fun _ h => h.2)) (fun _ h => h.1)); have n2_ := Aside0.mk (KeepBut.blk hk (g' := gb298) (o := .cells #[.bool true, .bool false, .bool false, .bool false, .bool false, .bool false, .bool false, .bool t294, .int .i64 (wrap64 (1 + t310))] 27 (0, 0)) Z8_13 NB298_0.out (by simp)); have n3_ := Aside0.mk (KeepBut.trans Z8_1 hk (.inl rfl)); have n4_ := Aside0.mk (hb); have n5_ := Aside0.mk (hi); clear HO_5; clear HO_6; clear BK298; clear HK; clear HB; clear HI0; have HO_5 := n0_; have HO_6 := n1_; have BK298 := n2_; have HK := n3_; have HB := n4_; have HI0 := n5_; clear n0_ n1_ n2_ n3_ n4_ n5_; (try clear hb); (try clear hb2); (try clear hk); (try clear hi)))
              go_meet
              case rel => exact ⟨_, (t314), (t315), (true), (false), (false), (false), (false), (false), (false), (t294), (wrap64 (1 + t310)), H', ⟨Z8_36⟩, ⟨Z8_4⟩, ⟨Z8_5⟩, ⟨Z8_6⟩, ⟨Z8_2⟩, ⟨Z8_1⟩, ⟨Z8_3⟩⟩)⟩
              exact Nonempty.elim (inferInstanceAs (Nonempty (type_of% ?L7))) id
             clear HC82
             try clear p2
             try clear p3
             try clear q3
             try clear hx3
             try clear c5
             try clear c6
             try clear p6
             try clear c7
             try clear c8
             try clear c9
             try clear p30
             try clear q30
             try clear hx30
             try clear c55
             try clear c57
             try clear c58
             try clear c60
             try clear c61
             try clear p64
             try clear c79
             try clear c84
             try clear c86
             try clear c87
             try clear c91
             try clear hcz80_0
             try clear hcz80_1
             try clear hcz80_2
             try clear hcz80_3
             try clear hcz80_4
             try clear hcz80_5
             try clear hcz80_6
             try clear hcz80_7
             try clear hcz80_8
             try clear hcz88_0
             try clear hcz88_1
             try clear hcz88_2
             try clear hcz88_3
             try clear hcz88_4
             try clear hcz88_5
             try clear hcz88_6
             try clear hcz88_7
             try clear hcz88_8
             try clear hcz90_0
             try clear hcz90_1
             try clear hcz90_2
             try clear hcz90_3
             try clear hcz90_4
             try clear hcz90_5
             try clear hcz90_6
             try clear hcz90_7
             try clear hcz90_8
             try clear hcz92_0
             try clear hcz92_1
             try clear hcz92_2
             try clear hcz92_3
             try clear hcz92_4
             try clear hcz92_5
             try clear hcz92_6
             try clear hcz92_7
             try clear hcz92_8
             try clear hfz80_0
             try clear hfz80_1
             try clear hfz80_2
             try clear hfz80_3
             try clear hfz80_4
             try clear hfz80_5
             try clear hfz80_6
             try clear hfz80_7
             try clear hfz80_8
             try clear hfz88_0
             try clear hfz88_1
             try clear hfz88_2
             try clear hfz88_3
             try clear hfz88_4
             try clear hfz88_5
             try clear hfz88_6
             try clear hfz88_7
             try clear hfz88_8
             try clear hfz90_0
             try clear hfz90_1
             try clear hfz90_2
             try clear hfz90_3
             try clear hfz90_4
             try clear hfz90_5
             try clear hfz90_6
             try clear hfz90_7
             try clear hfz90_8
             try clear hfz92_0
             try clear hfz92_1
             try clear hfz92_2
             try clear hfz92_3
             try clear hfz92_4
             try clear hfz92_5
             try clear hfz92_6
             try clear hfz92_7
             try clear hfz92_8
             try clear hx308_0
             try clear p2
             try clear p3
             try clear p30
             try clear p308
             try clear p6
             try clear p64
             try clear q3
             try clear q30
             try clear q308
             obtain ⟨kq, x1001_81, x1002_81, x299000_81, x299001_81, x299002_81, x299003_81, x299004_81, x299005_81, x299006_81, x299007_81, x299008_81, HA, HJ81, HO_5, HO_6, BK298, HI0, HK, HB⟩ := hcut
             cases kq with
             | zero => exact absurd HA.out (by simp [spec_l6DrawTables.j8])
             | succ kj81 =>
              have H := HA.out
              clear HA
              simp only [spec_l6DrawTables.j8] at H
              replace H := Option.bind_eq_some_iff.mp H
              obtain ⟨⟨t316, t317⟩, A940, H⟩ := H
              replace H : ((spec_l1Once.f s0_0 x1001_81 x1002_81 20).bind fun bt318 => (if bt318.1 = true then ((spec_l1Below.f s0_0 bt318.2.1 bt318.2.2 64).bind fun bt321 => ((spec_l1Pow.f kj81 bt321.1).bind fun t324 => (spec_l6DrawTables.j9 kj81 (wrap64 (4 + t253)) x5_3 x6_1 x7_1 x8_14 x10_3 (wrap64 ((wrap64 (x9_3 * 256)) + (wrap64 (8 * (Int.tmod (wrap64 (Int.tdiv x8_14 (wrap64 (256 * t283)))) 32))))) x13_28 (wrap64 (1 + t310)) (Go.bits .xor .u64 t316 t324) s0_0 bt321.2.1 bt321.2.2))) else (spec_l6DrawTables.j9 kj81 (wrap64 (4 + t253)) x5_3 x6_1 x7_1 x8_14 x10_3 (wrap64 ((wrap64 (x9_3 * 256)) + (wrap64 (8 * (Int.tmod (wrap64 (Int.tdiv x8_14 (wrap64 (256 * t283)))) 32))))) x13_28 (wrap64 (1 + t310)) t316 s0_0 bt318.2.1 bt318.2.2))) = some (r1, r2, r3, r4) := H
              have A94 := Aside0.mk A940
              clear A940
              replace H := Option.bind_eq_some_iff.mp H
              obtain ⟨⟨t318, t319, t320⟩, A950, H⟩ := H
              replace H : (if t318 = true then ((spec_l1Below.f s0_0 t319 t320 64).bind fun bt321 => ((spec_l1Pow.f kj81 bt321.1).bind fun t324 => (spec_l6DrawTables.j9 kj81 (wrap64 (4 + t253)) x5_3 x6_1 x7_1 x8_14 x10_3 (wrap64 ((wrap64 (x9_3 * 256)) + (wrap64 (8 * (Int.tmod (wrap64 (Int.tdiv x8_14 (wrap64 (256 * t283)))) 32))))) x13_28 (wrap64 (1 + t310)) (Go.bits .xor .u64 t316 t324) s0_0 bt321.2.1 bt321.2.2))) else (spec_l6DrawTables.j9 kj81 (wrap64 (4 + t253)) x5_3 x6_1 x7_1 x8_14 x10_3 (wrap64 ((wrap64 (x9_3 * 256)) + (wrap64 (8 * (Int.tmod (wrap64 (Int.tdiv x8_14 (wrap64 (256 * t283)))) 32))))) x13_28 (wrap64 (1 + t310)) t316 s0_0 t319 t320)) = some (r1, r2, r3, r4) := H
              have A95 := Aside0.mk A950
              clear A950
              have HC96 := Aside0.mk H
              clear H
              have hnb97 := NB298_0.out
              have hnc97 := NB0_298.out
              have hcz98_0 : wc.cell? ⟨gb298, 0, none⟩ = some (.bool x299000_81) := (blk_cell BK298.out 0).trans rfl
              have hcz98_1 : wc.cell? ⟨gb298, 1, none⟩ = some (.bool x299001_81) := (blk_cell BK298.out 1).trans rfl
              have hcz98_2 : wc.cell? ⟨gb298, 2, none⟩ = some (.bool x299002_81) := (blk_cell BK298.out 2).trans rfl
              have hcz98_3 : wc.cell? ⟨gb298, 3, none⟩ = some (.bool x299003_81) := (blk_cell BK298.out 3).trans rfl
              have hcz98_4 : wc.cell? ⟨gb298, 4, none⟩ = some (.bool x299004_81) := (blk_cell BK298.out 4).trans rfl
              have hcz98_5 : wc.cell? ⟨gb298, 5, none⟩ = some (.bool x299005_81) := (blk_cell BK298.out 5).trans rfl
              have hcz98_6 : wc.cell? ⟨gb298, 6, none⟩ = some (.bool x299006_81) := (blk_cell BK298.out 6).trans rfl
              have hcz98_7 : wc.cell? ⟨gb298, 7, none⟩ = some (.bool x299007_81) := (blk_cell BK298.out 7).trans rfl
              have hcz98_8 : wc.cell? ⟨gb298, 8, none⟩ = some (.int .i64 x299008_81) := (blk_cell BK298.out 8).trans rfl
              have hfz98_0 := blk_frozen BK298.out 0
              have hfz98_1 := blk_frozen BK298.out 1
              have hfz98_2 := blk_frozen BK298.out 2
              have hfz98_3 := blk_frozen BK298.out 3
              have hfz98_4 := blk_frozen BK298.out 4
              have hfz98_5 := blk_frozen BK298.out 5
              have hfz98_6 := blk_frozen BK298.out 6
              have hfz98_7 := blk_frozen BK298.out 7
              have hfz98_8 := blk_frozen BK298.out 8
              go_upto_if 128 with (first | ((with_reducible refine gate_callee (f := 12) rfl ?_); refine goesL_ (some 124) rfl rfl Try.func12 Z8_30 rfl #[.agg #[.bool x299000_81, .bool x299001_81, .bool x299002_81, .bool x299003_81, .bool x299004_81, .bool x299005_81, .bool x299006_81, .bool x299007_81, .int .i64 x299008_81]] rfl Z8_7 ?_; (with_reducible refine (spec_PutEntry.calls kj81 x299000_81 x299001_81 x299002_81 x299003_81 x299004_81 x299005_81 x299006_81 x299007_81 x299008_81 t316 t317 _ A94.out).mono ?_); rintro e w99 ⟨rfl, hb⟩; refine ⟨_, rfl, ?_⟩; have n0_ := Aside0.mk (Kd.R_below Z8_4 hb); have n1_ := Aside0.mk (Kd.R_below Z8_5 hb); have n2_ := Aside0.mk (blk_below (g := gb298) (o := .cells #[.bool x299000_81, .bool x299001_81, .bool x299002_81, .bool x299003_81, .bool x299004_81, .bool x299005_81, .bool x299006_81, .bool x299007_81, .int .i64 x299008_81] 27 (0, 0)) Z8_6 hb); have n3_ := Aside0.mk (IsS116.below Z8_2 hb); have n4_ := Aside0.mk (KeepBut.trans Z8_1 (KeepBut.of_below hb g none) (.inl rfl)); have n5_ := Aside0.mk (below_step Z8_3 hb); clear HO_5; clear HO_6; clear BK298; clear HI0; clear HK; clear HB; have HO_5 := n0_; have HO_6 := n1_; have BK298 := n2_; have HI0 := n3_; have HK := n4_; have HB := n5_; clear n0_ n1_ n2_ n3_ n4_ n5_; (try clear hb); (try clear hb2); (try clear hk); (try clear hi)) | ((with_reducible refine gate_callee (f := 60) rfl ?_); refine goesL_ (some 128) rfl rfl Try.func60 Z8_30 rfl #[.pointer (some ⟨g, 0, none⟩), .int .i64 20] rfl Z8_7 ?_; (with_reducible refine (spec_l1Once.calls g s0_0 x1001_81 x1002_81 20 t318 t319 t320 w0 _ ?side1 ?side2 A95.out).mono ?_); (case side1 => exact Z8_2); (case side2 => exact Z8_3); rintro e w100 ⟨rfl, hi, hb, hk⟩; refine ⟨_, rfl, ?_⟩; have n0_ := Aside0.mk (Kd.R_mono (Kd.R_keep (IsS116.apart (show IsS116 w0 _ g s0_0 x1001_81 x1002_81 from by repeat (first | (with_reducible first | exact HI0.out | apply IsS116.alloc | apply IsS116.drewN | apply IsS116.drew | apply IsS116.set_1 | apply IsS116.set_2 | refine IsS116.far ?_ NB0_298.out _) | exact HI0.out)) Z8_4 Z8_32) hk (fun _ h => h.2)) (fun _ h => h.1)); have n1_ := Aside0.mk (Kd.R_mono (Kd.R_keep (IsS116.apart (show IsS116 w0 _ g s0_0 x1001_81 x1002_81 from by repeat (first | (with_reducible first | exact HI0.out | apply IsS116.alloc | apply IsS116.drewN | apply IsS116.drew | apply IsS116.set_1 | apply IsS116.set_2 | refine IsS116.far ?_ NB0_298.out _) | exact HI0.out)) Z8_5 Z8_32) hk (fun _ h => h.2)) (fun _ h => h.1)); have n2_ := Aside0.mk (KeepBut.blk hk (g' := gb298) (o := .cells #[.bool x299000_81, .bool x299001_81, .bool x299002_81, .bool x299003_81, .bool x299004_81, .bool x299005_81, .bool x299006_81, .bool x299007_81, .int .i64 x299008_81] 27 (0, 0)) Z8_6 NB298_0.out (by simp)); have n3_ := Aside0.mk (KeepBut.trans Z8_1 hk (.inl rfl)); have n4_ := Aside0.mk (hb); have n5_ := Aside0.mk (hi); clear HO_5; clear HO_6; clear BK298; clear HK; clear HB; clear HI0; have HO_5 := n0_; have HO_6 := n1_; have BK298 := n2_; have HK := n3_; have HB := n4_; have HI0 := n5_; clear n0_ n1_ n2_ n3_ n4_ n5_; (try clear hb); (try clear hb2); (try clear hk); (try clear hi)))
              (try simp only [Act.put, List.setIfInBounds_toArray, List.set_cons_zero, List.set_cons_succ])
              go_cut [16] (fun v16 wc => ∃ (kq : Nat) (x16_95 : Int) (x1001_95 : Int) (x1002_95 : Int), v16 = .int .u64 x16_95 ∧ Aside0 (spec_l6DrawTables.j9 kq (wrap64 (4 + t253)) x5_3 x6_1 x7_1 x8_14 x10_3 (wrap64 ((wrap64 (x9_3 * 256)) + (wrap64 (8 * (Int.tmod (wrap64 (Int.tdiv x8_14 (wrap64 (256 * t283)))) 32))))) x13_28 (wrap64 (1 + t310)) x16_95 s0_0 x1001_95 x1002_95 = some (r1, r2, r3, r4)) ∧ Aside0 (kq ≤ kj81) ∧ Aside0 (Kd.R (Kd.int .u8) 5 wc w.heap.size (fun _ => True) v257 x5_3) ∧ Aside0 (Kd.R (Kd.int .i64) 2 wc w.heap.size (fun _ => True) u6 x6_1) ∧ Aside0 (wc.heap[gb298]? = some (.cells #[.bool x299000_81, .bool x299001_81, .bool x299002_81, .bool x299003_81, .bool x299004_81, .bool x299005_81, .bool x299006_81, .bool x299007_81, .int .i64 x299008_81] 27 (0, 0))) ∧ Aside0 (IsS116 w0 wc g s0_0 x1001_95 x1002_95) ∧ Aside0 (KeepBut w wc g none) ∧ Aside0 (Below w0.heap.size w0 wc))
              case first =>
               refine ?L8
               letI iL8 : Nonempty (type_of% ?L8) := ⟨(by
               have H := HC96.out
               clear HC96
               by_cases c101 : t318 = true
               ·subst c101
                have H1 : ((spec_l1Below.f s0_0 t319 t320 64).bind fun bt321 => ((spec_l1Pow.f kj81 bt321.1).bind fun t324 => (spec_l6DrawTables.j9 kj81 (wrap64 (4 + t253)) x5_3 x6_1 x7_1 x8_14 x10_3 (wrap64 ((wrap64 (x9_3 * 256)) + (wrap64 (8 * (Int.tmod (wrap64 (Int.tdiv x8_14 (wrap64 (256 * t283)))) 32))))) x13_28 (wrap64 (1 + t310)) (Go.bits .xor .u64 t316 t324) s0_0 bt321.2.1 bt321.2.2))) = some (r1, r2, r3, r4) := by rw [if_pos rfl] at H; exact H
                clear H
                have H := H1
                clear H1
                replace H := Option.bind_eq_some_iff.mp H
                obtain ⟨⟨t321, t322, t323⟩, A1020, H⟩ := H
                replace H : ((spec_l1Pow.f kj81 t321).bind fun t324 => (spec_l6DrawTables.j9 kj81 (wrap64 (4 + t253)) x5_3 x6_1 x7_1 x8_14 x10_3 (wrap64 ((wrap64 (x9_3 * 256)) + (wrap64 (8 * (Int.tmod (wrap64 (Int.tdiv x8_14 (wrap64 (256 * t283)))) 32))))) x13_28 (wrap64 (1 + t310)) (Go.bits .xor .u64 t316 t324) s0_0 t322 t323)) = some (r1, r2, r3, r4) := H
                have A102 := Aside0.mk A1020
                clear A1020
                replace H := Option.bind_eq_some_iff.mp H
                obtain ⟨t324, A1030, H⟩ := H
                replace H : (spec_l6DrawTables.j9 kj81 (wrap64 (4 + t253)) x5_3 x6_1 x7_1 x8_14 x10_3 (wrap64 ((wrap64 (x9_3 * 256)) + (wrap64 (8 * (Int.tmod (wrap64 (Int.tdiv x8_14 (wrap64 (256 * t283)))) 32))))) x13_28 (wrap64 (1 + t310)) (Go.bits .xor .u64 t316 t324) s0_0 t322 t323) = some (r1, r2, r3, r4) := H
                have A103 := Aside0.mk A1030
                clear A1030
                have H' := Aside0.mk H
                clear H
                go_wp2_with (first | ((with_reducible refine gate_callee (f := 61) rfl ?_); refine goesL_ (some 131) rfl rfl Try.func61 Z8_30 rfl #[.pointer (some ⟨g, 0, none⟩), .int .i64 64] rfl Z8_7 ?_; (with_reducible refine (spec_l1Below.calls g s0_0 t319 t320 64 t321 t322 t323 w0 _ ?side1 ?side2 A102.out).mono ?_); (case side1 => exact Z8_2); (case side2 => exact Z8_3); rintro e w104 ⟨rfl, hi, hb, hk⟩; refine ⟨_, rfl, ?_⟩; have n0_ := Aside0.mk (Kd.R_mono (Kd.R_keep (IsS116.apart (show IsS116 w0 _ g s0_0 t319 t320 from by repeat (first | (with_reducible first | exact HI0.out | apply IsS116.alloc | apply IsS116.drewN | apply IsS116.drew | apply IsS116.set_1 | apply IsS116.set_2 | refine IsS116.far ?_ NB0_298.out _) | exact HI0.out)) Z8_4 Z8_32) hk (fun _ h => h.2)) (fun _ h => h.1)); have n1_ := Aside0.mk (Kd.R_mono (Kd.R_keep (IsS116.apart (show IsS116 w0 _ g s0_0 t319 t320 from by repeat (first | (with_reducible first | exact HI0.out | apply IsS116.alloc | apply IsS116.drewN | apply IsS116.drew | apply IsS116.set_1 | apply IsS116.set_2 | refine IsS116.far ?_ NB0_298.out _) | exact HI0.out)) Z8_5 Z8_32) hk (fun _ h => h.2)) (fun _ h => h.1)); have n2_ := Aside0.mk (KeepBut.blk hk (g' := gb298) (o := .cells #[.bool x299000_81, .bool x299001_81, .bool x299002_81, .bool x299003_81, .bool x299004_81, .bool x299005_81, .bool x299006_81, .bool x299007_81, .int .i64 x299008_81] 27 (0, 0)) Z8_6 NB298_0.out (by simp)); have n3_ := Aside0.mk (KeepBut.trans Z8_1 hk (.inl rfl)); have n4_ := Aside0.mk (hb); have n5_ := Aside0.mk (hi); clear HO_5; clear HO_6; clear BK298; clear HK; clear HB; clear HI0; have HO_5 := n0_; have HO_6 := n1_; have BK298 := n2_; have HK := n3_; have HB := n4_; have HI0 := n5_; clear n0_ n1_ n2_ n3_ n4_ n5_; (try clear hb); (try clear hb2); (try clear hk); (try clear hi)) | ((with_reducible refine gate_callee (f := 84) rfl ?_); refine goesL_ (some 132) rfl rfl Try.func84 Z8_30 rfl #[.int .i64 t321] rfl Z8_7 ?_; (with_reducible refine (spec_l1Pow.calls kj81 t321 t324 _ A103.out).mono ?_); rintro e w' ⟨rfl, ⟨nd, rfl⟩⟩; refine ⟨_, rfl, ?_⟩))
                go_meet
                case rel => exact ⟨_, (Go.bits .xor .u64 t316 t324), (t322), (t323), Z8_12, H', ⟨Z8_42⟩, ⟨Z8_4⟩, ⟨Z8_5⟩, ⟨Z8_6⟩, ⟨Z8_2⟩, ⟨Z8_1⟩, ⟨Z8_3⟩⟩
               replace c101 := Bool.eq_false_iff.mpr c101
               subst c101
               have H1 : (spec_l6DrawTables.j9 kj81 (wrap64 (4 + t253)) x5_3 x6_1 x7_1 x8_14 x10_3 (wrap64 ((wrap64 (x9_3 * 256)) + (wrap64 (8 * (Int.tmod (wrap64 (Int.tdiv x8_14 (wrap64 (256 * t283)))) 32))))) x13_28 (wrap64 (1 + t310)) t316 s0_0 t319 t320) = some (r1, r2, r3, r4) := by rw [if_neg (show ¬ (false = true) by decide)] at H; exact H
               clear H
               have H := H1
               clear H1
               have H' := Aside0.mk H
               clear H
               go_wp2
               go_meet
               case rel => exact ⟨_, (t316), (t319), (t320), Z8_12, H', ⟨Z8_42⟩, ⟨Z8_4⟩, ⟨Z8_5⟩, ⟨Z8_6⟩, ⟨Z8_2⟩, ⟨Z8_1⟩, ⟨Z8_3⟩⟩)⟩
               exact Nonempty.elim (inferInstanceAs (Nonempty (type_of% ?L8))) id
              clear HC96
              try clear c1
              try clear p2
              try clear p3
              try clear q3
              try clear hx3
              try clear c5
              try clear c6
              try clear p6
              try clear c7
              try clear c8
              try clear c9
              try clear c10
              try clear c12
              try clear p30
              try clear q30
              try clear hx30
              try clear c55
              try clear c57
              try clear c58
              try clear c60
              try clear c61
              try clear p64
              try clear c79
              try clear c84
              try clear c86
              try clear c87
              try clear c91
              try clear c97
              try clear c101
              try clear hcz80_0
              try clear hcz80_1
              try clear hcz80_2
              try clear hcz80_3
              try clear hcz80_4
              try clear hcz80_5
              try clear hcz80_6
              try clear hcz80_7
              try clear hcz80_8
              try clear hcz88_0
              try clear hcz88_1
              try clear hcz88_2
              try clear hcz88_3
              try clear hcz88_4
              try clear hcz88_5
              try clear hcz88_6
              try clear hcz88_7
              try clear hcz88_8
              try clear hcz90_0
              try clear hcz90_1
              try clear hcz90_2
              try clear hcz90_3
              try clear hcz90_4
              try clear hcz90_5
              try clear hcz90_6
              try clear hcz90_7
              try clear hcz90_8
              try clear hcz92_0
              try clear hcz92_1
              try clear hcz92_2
              try clear hcz92_3
              try clear hcz92_4
              try clear hcz92_5
              try clear hcz92_6
              try clear hcz92_7
              try clear hcz92_8
              try clear hcz98_0
              try clear hcz98_1
              try clear hcz98_2
              try clear hcz98_3
              try clear hcz98_4
              try clear hcz98_5
              try clear hcz98_6
              try clear hcz98_7
              try clear hcz98_8
              try clear hfz80_0
              try clear hfz80_1
              try clear hfz80_2
              try clear hfz80_3
              try clear hfz80_4
              try clear hfz80_5
              try clear hfz80_6
              try clear hfz80_7
              try clear hfz80_8
              try clear hfz88_0
              try clear hfz88_1
              try clear hfz88_2
              try clear hfz88_3
              try clear hfz88_4
              try clear hfz88_5
              try clear hfz88_6
              try clear hfz88_7
              try clear hfz88_8
              try clear hfz90_0
              try clear hfz90_1
              try clear hfz90_2
              try clear hfz90_3
              try clear hfz90_4
              try clear hfz90_5
              try clear hfz90_6
              try clear hfz90_7
              try clear hfz90_8
              try clear hfz92_0
              try clear hfz92_1
              try clear hfz92_2
              try clear hfz92_3
              try clear hfz92_4
              try clear hfz92_5
              try clear hfz92_6
              try clear hfz92_7
              try clear hfz92_8
              try clear hfz98_0
              try clear hfz98_1
              try clear hfz98_2
              try clear hfz98_3
              try clear hfz98_4
              try clear hfz98_5
              try clear hfz98_6
              try clear hfz98_7
              try clear hfz98_8
              try clear hx308_0
              try clear p2
              try clear p3
              try clear p30
              try clear p308
              try clear p6
              try clear p64
              try clear q3
              try clear q30
              try clear q308
              obtain ⟨kq, x16_95, x1001_95, x1002_95, rfl, HA, HJ95, HO_5, HO_6, BK298, HI0, HK, HB⟩ := hcut
              cases kq with
              | zero => exact absurd HA.out (by simp [spec_l6DrawTables.j9])
              | succ kj95 =>
               have H := HA.out
               clear HA
               simp only [spec_l6DrawTables.j9] at H
               replace H := Option.bind_eq_some_iff.mp H
               obtain ⟨⟨t325, t326⟩, A1050, H⟩ := H
               replace H : (if t325 = 0 then (spec_l6DrawTables.j10 kj95 (wrap64 (4 + t253)) x5_3 x6_1 x7_1 x8_14 x10_3 (wrap64 ((wrap64 (x9_3 * 256)) + (wrap64 (8 * (Int.tmod (wrap64 (Int.tdiv x8_14 (wrap64 (256 * t283)))) 32))))) x13_28 (wrap64 (1 + t310)) x16_95 t325 true s0_0 x1001_95 x1002_95) else ((spec_l1Once.f s0_0 x1001_95 x1002_95 6).bind fun bt327 => (spec_l6DrawTables.j10 kj95 (wrap64 (4 + t253)) x5_3 x6_1 x7_1 x8_14 x10_3 (wrap64 ((wrap64 (x9_3 * 256)) + (wrap64 (8 * (Int.tmod (wrap64 (Int.tdiv x8_14 (wrap64 (256 * t283)))) 32))))) x13_28 (wrap64 (1 + t310)) x16_95 t325 bt327.1 s0_0 bt327.2.1 bt327.2.2))) = some (r1, r2, r3, r4) := H
               have A105 := Aside0.mk A1050
               clear A1050
               have HC106 := Aside0.mk H
               clear H
               obtain ⟨Ao107, co107, eo107⟩ := Kd.R_slice HO_5.out
               subst eo107
               go_upto_region 32 with (first | ((with_reducible refine gate_callee (f := 88) rfl ?_); refine goesL_ (some 137) rfl rfl Try.func88 Z8_30 rfl #[.slice Ao107 x5_3.length co107, .int .i64 (wrap64 ((wrap64 (x9_3 * 256)) + (wrap64 (8 * (Int.tmod (wrap64 (Int.tdiv x8_14 (wrap64 (256 * t283)))) 32))))), .int .i64 8, .bool false] rfl Z8_7 ?_; (with_reducible refine (spec_LoadWord.calls kj95 _ _ x5_3 (wrap64 ((wrap64 (x9_3 * 256)) + (wrap64 (8 * (Int.tmod (wrap64 (Int.tdiv x8_14 (wrap64 (256 * t283)))) 32))))) 8 false t325 t326 _ ?side1 ?side2 A105.out).mono ?_); (case side1 => repeat (first | exact (Kd.R_reads' HO_5.out).2.2 | (with_reducible refine Kd.C_alloc ?_ _) | (with_reducible refine Kd.C_drewN ?_ _) | (with_reducible refine Kd.C_drew ?_))); (case side2 => exact (Kd.R_reads' HO_5.out).2.1); rintro e w' ⟨rfl, ⟨nd, rfl⟩⟩; refine ⟨_, rfl, ?_⟩))
               (try simp only [Act.put, List.setIfInBounds_toArray, List.set_cons_zero, List.set_cons_succ])
               go_cut [145] (fun v145 wc => ∃ (kq : Nat) (x145_105 : Bool) (x1001_105 : Int) (x1002_105 : Int), v145 = .bool x145_105 ∧ Aside0 (spec_l6DrawTables.j10 kq (wrap64 (4 + t253)) x5_3 x6_1 x7_1 x8_14 x10_3 (wrap64 ((wrap64 (x9_3 * 256)) + (wrap64 (8 * (Int.tmod (wrap64 (Int.tdiv x8_14 (wrap64 (256 * t283)))) 32))))) x13_28 (wrap64 (1 + t310)) x16_95 t325 x145_105 s0_0 x1001_105 x1002_105 = some (r1, r2, r3, r4)) ∧ Aside0 (kq ≤ kj95) ∧ Aside0 (Kd.R (Kd.int .u8) 5 wc w.heap.size (fun _ => True) (.slice Ao107 x5_3.length co107) x5_3) ∧ Aside0 (Kd.R (Kd.int .i64) 2 wc w.heap.size (fun _ => True) u6 x6_1) ∧ Aside0 (wc.heap[gb298]? = some (.cells #[.bool x299000_81, .bool x299001_81, .bool x299002_81, .bool x299003_81, .bool x299004_81, .bool x299005_81, .bool x299006_81, .bool x299007_81, .int .i64 x299008_81] 27 (0, 0))) ∧ Aside0 (IsS116 w0 wc g s0_0 x1001_105 x1002_105) ∧ Aside0 (KeepBut w wc g none) ∧ Aside0 (Below w0.heap.size w0 wc))
               case first =>
                refine ?L9
                letI iL9 : Nonempty (type_of% ?L9) := ⟨(by
                have H := HC106.out
                clear HC106
                by_cases c108 : t325 = 0
                ·rw [if_pos c108] at H
                 have c108b0 : (t325 == 0) = true := beq_iff_eq.mpr c108
                 have c108b1 : (t325 != 0) = false := bne_eq_false_iff_eq.mpr c108
                 clear c108
                 (first | rw [c108b0] | (simp only [i64_w, i32_w]; rw [c108b0]) | skip)
                 have H' := Aside0.mk H
                 clear H
                 go_wp2
                 go_meet
                 case rel => exact ⟨_, (true), (x1001_95), (x1002_95), Z8_12, H', ⟨Z8_40⟩, ⟨Z8_4⟩, ⟨Z8_5⟩, ⟨Z8_6⟩, ⟨Z8_2⟩, ⟨Z8_1⟩, ⟨Z8_3⟩⟩
                rw [if_neg c108] at H
                have c108b0 : (t325 == 0) = false := beq_eq_false_iff_ne.mpr c108
                have c108b1 : (t325 != 0) = true := bne_iff_ne.mpr c108
                (first | rw [c108b0] | (simp only [i64_w, i32_w]; rw [c108b0]) | skip)
                replace H := Option.bind_eq_some_iff.mp H
                obtain ⟨⟨t327, t328, t329⟩, A1090, H⟩ := H
                replace H : (spec_l6DrawTables.j10 kj95 (wrap64 (4 + t253)) x5_3 x6_1 x7_1 x8_14 x10_3 (wrap64 ((wrap64 (x9_3 * 256)) + (wrap64 (8 * (Int.tmod (wrap64 (Int.tdiv x8_14 (wrap64 (256 * t283)))) 32))))) x13_28 (wrap64 (1 + t310)) x16_95 t325 t327 s0_0 t328 t329) = some (r1, r2, r3, r4) := H
                have A109 := Aside0.mk A1090
                clear A1090
                have H' := Aside0.mk H
                clear H
                go_wp2_with (first | (go_at_call 60; (with_reducible refine (spec_l1Once.calls g s0_0 x1001_95 x1002_95 6 t327 t328 t329 w0 _ ?side1 ?side2 A109.out).mono ?_); (case side1 => exact Z8_2); (case side2 => exact Z8_3); rintro e w110 ⟨rfl, hi, hb, hk⟩; have n0_ := Aside0.mk (Kd.R_mono (Kd.R_keep (IsS116.apart (show IsS116 w0 _ g s0_0 x1001_95 x1002_95 from by repeat (first | (with_reducible first | exact HI0.out | apply IsS116.alloc | apply IsS116.drewN | apply IsS116.drew | apply IsS116.set_1 | apply IsS116.set_2 | refine IsS116.far ?_ NB0_298.out _) | exact HI0.out)) Z8_4 Z8_32) hk (fun _ h => h.2)) (fun _ h => h.1)); have n1_ := Aside0.mk (Kd.R_mono (Kd.R_keep (IsS116.apart (show IsS116 w0 _ g s0_0 x1001_95 x1002_95 from by repeat (first | (with_reducible first | exact HI0.out | apply IsS116.alloc | apply IsS116.drewN | apply IsS116.drew | apply IsS116.set_1 | apply IsS116.set_2 | refine IsS116.far ?_ NB0_298.out _) | exact HI0.out)) Z8_5 Z8_32) hk (fun _ h => h.2)) (fun _ h => h.1)); have n2_ := Aside0.mk (KeepBut.blk hk (g' := gb298) (o := .cells #[.bool x299000_81, .bool x299001_81, .bool x299002_81, .bool x299003_81, .bool x299004_81, .bool x299005_81, .bool x299006_81, .bool x299007_81, .int .i64 x299008_81] 27 (0, 0)) Z8_6 NB298_0.out (by simp)); have n3_ := Aside0.mk (KeepBut.trans Z8_1 hk (.inl rfl)); have n4_ := Aside0.mk (hb); have n5_ := Aside0.mk (hi); clear HO_5; clear HO_6; clear BK298; clear HK; clear HB; clear HI0; have HO_5 := n0_; have HO_6 := n1_; have BK298 := n2_; have HK := n3_; have HB := n4_; have HI0 := n5_; clear n0_ n1_ n2_ n3_ n4_ n5_; (try clear hb); (try clear hb2); (try clear hk); (try clear hi)))
                go_meet
                case rel => exact ⟨_, (t327), (t328), (t329), Z8_12, H', ⟨Z8_40⟩, ⟨Z8_4⟩, ⟨Z8_5⟩, ⟨Z8_6⟩, ⟨Z8_2⟩, ⟨Z8_1⟩, ⟨Z8_3⟩⟩)⟩
                exact Nonempty.elim (inferInstanceAs (Nonempty (type_of% ?L9))) id
               clear HC106
               try clear c1
               try clear p2
               try clear p3
               try clear q3
               try clear hx3
               try clear c5
               try clear c6
               try clear p6
               try clear c7
               try clear c8
               try clear c9
               try clear c10
               try clear c12
               try clear p30
               try clear q30
               try clear hx30
               try clear c55
               try clear c57
               try clear c58
               try clear c60
               try clear c61
               try clear p64
               try clear c79
               try clear c84
               try clear c86
               try clear c87
               try clear c88
               try clear c91
               try clear c97
               try clear c101
               try clear c108
               try clear c108b0
               try clear c108b1
               try clear hcz80_0
               try clear hcz80_1
               try clear hcz80_2
               try clear hcz80_3
               try clear hcz80_4
               try clear hcz80_5
               try clear hcz80_6
               try clear hcz80_7
               try clear hcz80_8
               try clear hcz88_0
               try clear hcz88_1
               try clear hcz88_2
               try clear hcz88_3
               try clear hcz88_4
               try clear hcz88_5
               try clear hcz88_6
               try clear hcz88_7
               try clear hcz88_8
               try clear hcz90_0
               try clear hcz90_1
               try clear hcz90_2
               try clear hcz90_3
               try clear hcz90_4
               try clear hcz90_5
               try clear hcz90_6
               try clear hcz90_7
               try clear hcz90_8
               try clear hcz92_0
               try clear hcz92_1
               try clear hcz92_2
               try clear hcz92_3
               try clear hcz92_4
               try clear hcz92_5
               try clear hcz92_6
               try clear hcz92_7
               try clear hcz92_8
               try clear hcz98_0
               try clear hcz98_1
               try clear hcz98_2
               try clear hcz98_3
               try clear hcz98_4
               try clear hcz98_5
               try clear hcz98_6
               try clear hcz98_7
               try clear hcz98_8
               try clear hfz80_0
               try clear hfz80_1
               try clear hfz80_2
               try clear hfz80_3
               try clear hfz80_4
               try clear hfz80_5
               try clear hfz80_6
               try clear hfz80_7
               try clear hfz80_8
               try clear hfz88_0
               try clear hfz88_1
               try clear hfz88_2
               try clear hfz88_3
               try clear hfz88_4
               try clear hfz88_5
               try clear hfz88_6
               try clear hfz88_7
               try clear hfz88_8
               try clear hfz90_0
               try clear hfz90_1
               try clear hfz90_2
               try clear hfz90_3
               try clear hfz90_4
               try clear hfz90_5
               try clear hfz90_6
               try clear hfz90_7
               try clear hfz90_8
               try clear hfz92_0
               try clear hfz92_1
               try clear hfz92_2
               try clear hfz92_3
               try clear hfz92_4
               try clear hfz92_5
               try clear hfz92_6
               try clear hfz92_7
               try clear hfz92_8
               try clear hfz98_0
               try clear hfz98_1
               try clear hfz98_2
               try clear hfz98_3
               try clear hfz98_4
               try clear hfz98_5
               try clear hfz98_6
               try clear hfz98_7
               try clear hfz98_8
               try clear hx308_0
               try clear p2
               try clear p3
               try clear p30
               try clear p308
               try clear p6
               try clear p64
               try clear q3
               try clear q30
               try clear q308
               obtain ⟨kq, x145_105, x1001_105, x1002_105, rfl, HA, HJ105, HO_5, HO_6, BK298, HI0, HK, HB⟩ := hcut
               cases kq with
               | zero => exact absurd HA.out (by simp [spec_l6DrawTables.j10])
               | succ kj105 =>
                have H := HA.out
                clear HA
                simp only [spec_l6DrawTables.j10] at H
                by_cases c111 : x145_105 = true
                ·
                 refine ?L10
                 letI iL10 : Nonempty (type_of% ?L10) := ⟨(by
                  subst c111
                  have H1 : ((spec_l6Set.f kj105 x5_3 (wrap64 ((wrap64 (x9_3 * 256)) + (wrap64 (8 * (Int.tmod (wrap64 (Int.tdiv x8_14 (wrap64 (256 * t283)))) 32))))) x16_95).bind fun t330 => (if x13_28 = true then (if x6_1.length < 17592186044416 then (spec_l6DrawTables.l0 kj105 (wrap64 (4 + t253)) t330 (x6_1 ++ [x8_14]) (wrap64 (x7_1 + 1)) s0_0 x1001_105 x1002_105) else (none)) else (if (wrap64 (1 + t310)) ≥ (wrap64 (4 + t253)) then (if x6_1.length < 17592186044416 then (spec_l6DrawTables.l0 kj105 (wrap64 (4 + t253)) t330 (x6_1 ++ [x8_14]) (wrap64 (x7_1 + 1)) s0_0 x1001_105 x1002_105) else (none)) else (spec_l6DrawTables.l1 kj105 (wrap64 (4 + t253)) t330 x6_1 x7_1 x8_14 (wrap64 (1 + t310)) (wrap64 (x10_3 - 1)) s0_0 x1001_105 x1002_105)))) = some (r1, r2, r3, r4) := by rw [if_pos rfl] at H; exact H
                  clear H
                  have H := H1
                  clear H1
                  replace H := Option.bind_eq_some_iff.mp H
                  obtain ⟨t330, A1120, H⟩ := H
                  replace H : (if x13_28 = true then (if x6_1.length < 17592186044416 then (spec_l6DrawTables.l0 kj105 (wrap64 (4 + t253)) t330 (x6_1 ++ [x8_14]) (wrap64 (x7_1 + 1)) s0_0 x1001_105 x1002_105) else (none)) else (if (wrap64 (1 + t310)) ≥ (wrap64 (4 + t253)) then (if x6_1.length < 17592186044416 then (spec_l6DrawTables.l0 kj105 (wrap64 (4 + t253)) t330 (x6_1 ++ [x8_14]) (wrap64 (x7_1 + 1)) s0_0 x1001_105 x1002_105) else (none)) else (spec_l6DrawTables.l1 kj105 (wrap64 (4 + t253)) t330 x6_1 x7_1 x8_14 (wrap64 (1 + t310)) (wrap64 (x10_3 - 1)) s0_0 x1001_105 x1002_105))) = some (r1, r2, r3, r4) := H
                  have A112 := Aside0.mk A1120
                  clear A1120
                  by_cases c113 : x13_28 = true
                  ·subst c113
                   have H1 : (if x6_1.length < 17592186044416 then (spec_l6DrawTables.l0 kj105 (wrap64 (4 + t253)) t330 (x6_1 ++ [x8_14]) (wrap64 (x7_1 + 1)) s0_0 x1001_105 x1002_105) else (none)) = some (r1, r2, r3, r4) := by rw [if_pos rfl] at H; exact H
                   clear H
                   have H := H1
                   clear H1
                   by_cases c114 : x6_1.length < 17592186044416
                   ·rw [if_pos c114] at H
                    have LMc114 := Aside0.mk c114
                    clear c114
                    obtain ⟨y331, hy331⟩ : ∃ y_ : List Int, y_ = (x6_1 ++ [x8_14]) := ⟨_, rfl⟩
                    replace H : (spec_l6DrawTables.l0 kj105 (wrap64 (4 + t253)) t330 y331 (wrap64 (x7_1 + 1)) s0_0 x1001_105 x1002_105) = some (r1, r2, r3, r4) := by first | (rw [hy331]; with_reducible exact H) | (have H2_ := (Option.bind_some _ _).symm.trans H; rw [hy331]; with_reducible exact H2_) | (have H2_ := (Option.bind_some _ _).symm.trans H; with_reducible exact H2_) | with_reducible exact H | (rw [hy331]; exact H) | exact H
                    have Ny331 := Aside0.mk hy331
                    clear hy331
                    have H' := Aside0.mk H
                    clear H
                    go_wp2_with (first | ((with_reducible refine gate_callee (f := 95) rfl ?_); refine goesL_ (some 149) rfl rfl Try.func95 Z8_30 rfl #[.slice Ao107 x5_3.length co107, .int .i64 (wrap64 ((wrap64 (x9_3 * 256)) + (wrap64 (8 * (Int.tmod (wrap64 (Int.tdiv x8_14 (wrap64 (256 * t283)))) 32))))), .int .u64 x16_95] rfl Z8_7 ?_; (with_reducible refine (spec_l6Set.calls kj105 (fun k_ => some k_ = (.slice Ao107 x5_3.length co107 : Value).ownBlock) (.slice Ao107 x5_3.length co107) x5_3 (wrap64 ((wrap64 (x9_3 * 256)) + (wrap64 (8 * (Int.tmod (wrap64 (Int.tdiv x8_14 (wrap64 (256 * t283)))) 32))))) x16_95 t330 w0 _ ?side1 ?side2 A112.out).mono ?_); (case side1 => exact Z8_3); (case side2 => exact Kd.R_lower (Kd.R_tight rfl HO_5.out) HL.out); rintro e w115 ⟨rfl, hy0, hb, hkp⟩; refine ⟨_, rfl, ?_⟩; have n0_ := Aside0.mk (Kd.R_reok rfl (Kd.R_raise (d := (Kd.int .u8)) (b := w0.heap.size) (b' := w.heap.size) (fun _ _ _ _ h_ => h_) hy0 (fun k_ e_ => Or.elim (hy0.1 k_ e_) (fun hs_ => (fun e_ => Kd.R_base HO_5.out k_ e_.symm) hs_) (fun hn_ => Nat.le_trans (keep_size (w := w) (g := g) (row := none) Z8_1) hn_))) (fun k_ e_ => HO_5.out.1 k_ e_)); have n1_ := Aside0.mk (Kd.R_mono (ok' := fun k_ => True) (Kd.R_keptB ((Kd.R_apart' HO_6.out (Kd.R_typed HO_5.out) Z8_32)) hkp (fun k_ hk_ hs_ => (hk_.2) hs_)) (fun k_ hk_ => trivial)); have n2_ := Aside0.mk (blk_kept Z8_6 hkp (fun hs_ => (fun e_ => (Kd.R_ne HO_5.out BK298.out Z8_32) e_) hs_)); have n3_ := Aside0.mk (IsS116.kept Z8_2 hkp (fun hs_ => (fun e_ => (IsS116.own_ne HI0.out HO_5.out Z8_32) e_) hs_)); have n4_ := Aside0.mk (Kept.keepG Z8_1 hkp (fun k_ hs_ => (fun e_ => .inr (Kd.R_base HO_5.out k_ e_.symm)) hs_)); have n5_ := Aside0.mk (hb); clear HO_5; clear HO_6; clear BK298; clear HI0; clear HK; clear HB; have HO_5 := n0_; have HO_6 := n1_; have BK298 := n2_; have HI0 := n3_; have HK := n4_; have HB := n5_; clear n0_ n1_ n2_ n3_ n4_ n5_; (try clear hb); (try clear hkp); (try clear hy0)) | ((with_reducible refine gate_builtin (b := .append) (xs := #[.tmp 170, .tmp 172]) rfl ?_); at_builtin; refine Kd.R_append (Kd.int .i64) w.heap.size rfl (.tmp 170) (.tmp 172) 88 2 (.int .i64 0) 8 rfl Try.underlying88 info2 rfl Z8_32 (by omega) u6 x6_1 x8_14 [.int .i64 x8_14] (fun _ => True) (fun _ => False) rfl rfl ?aP (fun _ hk => hk.elim) ?aF ?aO (Below.refl _ _) ?aS ?aL ?_; (case aP => exact rfl); (case aF => exact (fun _ _ => trivial)); (case aO => exact Z8_5); (case aS => exact (keep_size (w := w) (g := g) (row := none) Z8_1)); (case aL => have := LMc114.out; omega); intro v332 w116 ho hb hg hat; rw [← Ny331.out] at ho; have n0_ := Aside0.mk (Kd.R_over' Z8_4 (Kd.R_typed Z8_5) Z8_32 hg); have n1_ := Aside0.mk (blk_grown (g := gb298) (o := .cells #[.bool x299000_81, .bool x299001_81, .bool x299002_81, .bool x299003_81, .bool x299004_81, .bool x299005_81, .bool x299006_81, .bool x299007_81, .int .i64 x299008_81] 27 (0, 0)) Z8_6 hg (Kd.R_ne HO_6.out BK298.out Z8_32)); have n2_ := Aside0.mk (IsS116.grown Z8_2 hg (IsS116.own_ne HI0.out HO_6.out Z8_32)); have n3_ := Aside0.mk (below_weaken Z8_3 HL.out hb); have n4_ := Aside0.mk (KeepBut.trans Z8_1 (KeepBut.of_grown hg g) (Kd.R_base2 HO_6.out)); have n5_ := Aside0.mk (ho); clear HO_5; clear BK298; clear HI0; clear HB; clear HK; clear HO_6; have HO_5 := n0_; have BK298 := n1_; have HI0 := n2_; have HB := n3_; have HK := n4_; have HO333 := n5_; clear n0_ n1_ n2_ n3_ n4_ n5_; clear ho hb hg hat))
                    go_roundg kj105
                    case measure => have := HK1.out; have := HJ14.out; have := HK3.out; have := HJ28.out; have := HJ33.out; have := HJ44.out; have := HJ48.out; have := HJ53.out; have := HJ81.out; have := HJ95.out; have := HJ105.out; omega
                    case rel => exact ⟨(t330), (y331), (wrap64 (x7_1 + 1)), (x1001_105), (x1002_105), Z8_12, H', ⟨Z8_15⟩, ⟨Z8_4⟩, ⟨by (with_reducible repeat (first | apply Kd.R_alloc | apply Kd.R_drewN | apply Kd.R_drew)); exact HO333.out⟩, ⟨Z8_2⟩, ⟨Z8_1⟩, ⟨Z8_3⟩⟩
                   rw [if_neg c114] at H
                   exact absurd H (by simp)
                  replace c113 := Bool.eq_false_iff.mpr c113
                  subst c113
                  have H1 : (if (wrap64 (1 + t310)) ≥ (wrap64 (4 + t253)) then (if x6_1.length < 17592186044416 then (spec_l6DrawTables.l0 kj105 (wrap64 (4 + t253)) t330 (x6_1 ++ [x8_14]) (wrap64 (x7_1 + 1)) s0_0 x1001_105 x1002_105) else (none)) else (spec_l6DrawTables.l1 kj105 (wrap64 (4 + t253)) t330 x6_1 x7_1 x8_14 (wrap64 (1 + t310)) (wrap64 (x10_3 - 1)) s0_0 x1001_105 x1002_105)) = some (r1, r2, r3, r4) := by rw [if_neg (show ¬ (false = true) by decide)] at H; exact H
                  clear H
                  have H := H1
                  clear H1
                  by_cases c117 : (wrap64 (1 + t310)) ≥ (wrap64 (4 + t253))
                  ·rw [if_pos c117] at H
                   have c117b0 : decide ((wrap64 (4 + t253)) ≤ (wrap64 (1 + t310))) = true := decide_eq_true c117
                   clear c117
                   by_cases c118 : x6_1.length < 17592186044416
                   ·rw [if_pos c118] at H
                    have LMc118 := Aside0.mk c118
                    clear c118
                    obtain ⟨y334, hy334⟩ : ∃ y_ : List Int, y_ = (x6_1 ++ [x8_14]) := ⟨_, rfl⟩
                    replace H : (spec_l6DrawTables.l0 kj105 (wrap64 (4 + t253)) t330 y334 (wrap64 (x7_1 + 1)) s0_0 x1001_105 x1002_105) = some (r1, r2, r3, r4) := by first | (rw [hy334]; with_reducible exact H) | (have H2_ := (Option.bind_some _ _).symm.trans H; rw [hy334]; with_reducible exact H2_) | (have H2_ := (Option.bind_some _ _).symm.trans H; with_reducible exact H2_) | with_reducible exact H | (rw [hy334]; exact H) | exact H
                    have Ny334 := Aside0.mk hy334
                    clear hy334
                    have H' := Aside0.mk H
                    clear H
                    go_wp2_with (first | ((with_reducible refine gate_callee (f := 95) rfl ?_); refine goesL_ (some 149) rfl rfl Try.func95 Z8_30 rfl #[.slice Ao107 x5_3.length co107, .int .i64 (wrap64 ((wrap64 (x9_3 * 256)) + (wrap64 (8 * (Int.tmod (wrap64 (Int.tdiv x8_14 (wrap64 (256 * t283)))) 32))))), .int .u64 x16_95] rfl Z8_7 ?_; (with_reducible refine (spec_l6Set.calls kj105 (fun k_ => some k_ = (.slice Ao107 x5_3.length co107 : Value).ownBlock) (.slice Ao107 x5_3.length co107) x5_3 (wrap64 ((wrap64 (x9_3 * 256)) + (wrap64 (8 * (Int.tmod (wrap64 (Int.tdiv x8_14 (wrap64 (256 * t283)))) 32))))) x16_95 t330 w0 _ ?side1 ?side2 A112.out).mono ?_); (case side1 => exact Z8_3); (case side2 => exact Kd.R_lower (Kd.R_tight rfl HO_5.out) HL.out); rintro e w119 ⟨rfl, hy0, hb, hkp⟩; refine ⟨_, rfl, ?_⟩; have n0_ := Aside0.mk (Kd.R_reok rfl (Kd.R_raise (d := (Kd.int .u8)) (b := w0.heap.size) (b' := w.heap.size) (fun _ _ _ _ h_ => h_) hy0 (fun k_ e_ => Or.elim (hy0.1 k_ e_) (fun hs_ => (fun e_ => Kd.R_base HO_5.out k_ e_.symm) hs_) (fun hn_ => Nat.le_trans (keep_size (w := w) (g := g) (row := none) Z8_1) hn_))) (fun k_ e_ => HO_5.out.1 k_ e_)); have n1_ := Aside0.mk (Kd.R_mono (ok' := fun k_ => True) (Kd.R_keptB ((Kd.R_apart' HO_6.out (Kd.R_typed HO_5.out) Z8_32)) hkp (fun k_ hk_ hs_ => (hk_.2) hs_)) (fun k_ hk_ => trivial)); have n2_ := Aside0.mk (blk_kept Z8_6 hkp (fun hs_ => (fun e_ => (Kd.R_ne HO_5.out BK298.out Z8_32) e_) hs_)); have n3_ := Aside0.mk (IsS116.kept Z8_2 hkp (fun hs_ => (fun e_ => (IsS116.own_ne HI0.out HO_5.out Z8_32) e_) hs_)); have n4_ := Aside0.mk (Kept.keepG Z8_1 hkp (fun k_ hs_ => (fun e_ => .inr (Kd.R_base HO_5.out k_ e_.symm)) hs_)); have n5_ := Aside0.mk (hb); clear HO_5; clear HO_6; clear BK298; clear HI0; clear HK; clear HB; have HO_5 := n0_; have HO_6 := n1_; have BK298 := n2_; have HI0 := n3_; have HK := n4_; have HB := n5_; clear n0_ n1_ n2_ n3_ n4_ n5_; (try clear hb); (try clear hkp); (try clear hy0)) | ((with_reducible refine gate_builtin (b := .append) (xs := #[.tmp 170, .tmp 172]) rfl ?_); at_builtin; refine Kd.R_append (Kd.int .i64) w.heap.size rfl (.tmp 170) (.tmp 172) 88 2 (.int .i64 0) 8 rfl Try.underlying88 info2 rfl Z8_32 (by omega) u6 x6_1 x8_14 [.int .i64 x8_14] (fun _ => True) (fun _ => False) rfl rfl ?aP (fun _ hk => hk.elim) ?aF ?aO (Below.refl _ _) ?aS ?aL ?_; (case aP => exact rfl); (case aF => exact (fun _ _ => trivial)); (case aO => exact Z8_5); (case aS => exact (keep_size (w := w) (g := g) (row := none) Z8_1)); (case aL => have := LMc118.out; omega); intro v335 w120 ho hb hg hat; rw [← Ny334.out] at ho; have n0_ := Aside0.mk (Kd.R_over' Z8_4 (Kd.R_typed Z8_5) Z8_32 hg); have n1_ := Aside0.mk (blk_grown (g := gb298) (o := .cells #[.bool x299000_81, .bool x299001_81, .bool x299002_81, .bool x299003_81, .bool x299004_81, .bool x299005_81, .bool x299006_81, .bool x299007_81, .int .i64 x299008_81] 27 (0, 0)) Z8_6 hg (Kd.R_ne HO_6.out BK298.out Z8_32)); have n2_ := Aside0.mk (IsS116.grown Z8_2 hg (IsS116.own_ne HI0.out HO_6.out Z8_32)); have n3_ := Aside0.mk (below_weaken Z8_3 HL.out hb); have n4_ := Aside0.mk (KeepBut.trans Z8_1 (KeepBut.of_grown hg g) (Kd.R_base2 HO_6.out)); have n5_ := Aside0.mk (ho); clear HO_5; clear BK298; clear HI0; clear HB; clear HK; clear HO_6; have HO_5 := n0_; have BK298 := n1_; have HI0 := n2_; have HB := n3_; have HK := n4_; have HO336 := n5_; clear n0_ n1_ n2_ n3_ n4_ n5_; clear ho hb hg hat))
                    go_roundg kj105
                    case measure => have := HK1.out; have := HJ14.out; have := HK3.out; have := HJ28.out; have := HJ33.out; have := HJ44.out; have := HJ48.out; have := HJ53.out; have := HJ81.out; have := HJ95.out; have := HJ105.out; omega
                    case rel => exact ⟨(t330), (y334), (wrap64 (x7_1 + 1)), (x1001_105), (x1002_105), Z8_12, H', ⟨Z8_15⟩, ⟨Z8_4⟩, ⟨by (with_reducible repeat (first | apply Kd.R_alloc | apply Kd.R_drewN | apply Kd.R_drew)); exact HO336.out⟩, ⟨Z8_2⟩, ⟨Z8_1⟩, ⟨Z8_3⟩⟩
                   rw [if_neg c118] at H
                   exact absurd H (by simp)
                  rw [if_neg c117] at H
                  have c117b0 : decide ((wrap64 (4 + t253)) ≤ (wrap64 (1 + t310))) = false := decide_eq_false c117
                  clear c117
                  have H' := Aside0.mk H
                  clear H
                  go_wp2_with (first | ((with_reducible refine gate_callee (f := 95) rfl ?_); refine goesL_ (some 149) rfl rfl Try.func95 Z8_30 rfl #[.slice Ao107 x5_3.length co107, .int .i64 (wrap64 ((wrap64 (x9_3 * 256)) + (wrap64 (8 * (Int.tmod (wrap64 (Int.tdiv x8_14 (wrap64 (256 * t283)))) 32))))), .int .u64 x16_95] rfl Z8_7 ?_; (with_reducible refine (spec_l6Set.calls kj105 (fun k_ => some k_ = (.slice Ao107 x5_3.length co107 : Value).ownBlock) (.slice Ao107 x5_3.length co107) x5_3 (wrap64 ((wrap64 (x9_3 * 256)) + (wrap64 (8 * (Int.tmod (wrap64 (Int.tdiv x8_14 (wrap64 (256 * t283)))) 32))))) x16_95 t330 w0 _ ?side1 ?side2 A112.out).mono ?_); (case side1 => exact Z8_3); (case side2 => exact Kd.R_lower (Kd.R_tight rfl HO_5.out) HL.out); rintro e w121 ⟨rfl, hy0, hb, hkp⟩; refine ⟨_, rfl, ?_⟩; have n0_ := Aside0.mk (Kd.R_reok rfl (Kd.R_raise (d := (Kd.int .u8)) (b := w0.heap.size) (b' := w.heap.size) (fun _ _ _ _ h_ => h_) hy0 (fun k_ e_ => Or.elim (hy0.1 k_ e_) (fun hs_ => (fun e_ => Kd.R_base HO_5.out k_ e_.symm) hs_) (fun hn_ => Nat.le_trans (keep_size (w := w) (g := g) (row := none) Z8_1) hn_))) (fun k_ e_ => HO_5.out.1 k_ e_)); have n1_ := Aside0.mk (Kd.R_mono (ok' := fun k_ => True) (Kd.R_keptB ((Kd.R_apart' HO_6.out (Kd.R_typed HO_5.out) Z8_32)) hkp (fun k_ hk_ hs_ => (hk_.2) hs_)) (fun k_ hk_ => trivial)); have n2_ := Aside0.mk (blk_kept Z8_6 hkp (fun hs_ => (fun e_ => (Kd.R_ne HO_5.out BK298.out Z8_32) e_) hs_)); have n3_ := Aside0.mk (IsS116.kept Z8_2 hkp (fun hs_ => (fun e_ => (IsS116.own_ne HI0.out HO_5.out Z8_32) e_) hs_)); have n4_ := Aside0.mk (Kept.keepG Z8_1 hkp (fun k_ hs_ => (fun e_ => .inr (Kd.R_base HO_5.out k_ e_.symm)) hs_)); have n5_ := Aside0.mk (hb); clear HO_5; clear HO_6; clear BK298; clear HI0; clear HK; clear HB; have HO_5 := n0_; have HO_6 := n1_; have BK298 := n2_; have HI0 := n3_; have HK := n4_; have HB := n5_; clear n0_ n1_ n2_ n3_ n4_ n5_; (try clear hb); (try clear hkp); (try clear hy0)))
                  go_roundg kj105
                  case measure => have := HK1.out; have := HJ14.out; have := HK3.out; have := HJ28.out; have := HJ33.out; have := HJ44.out; have := HJ48.out; have := HJ53.out; have := HJ81.out; have := HJ95.out; have := HJ105.out; omega
                  case rel => exact ⟨(t330), ((wrap64 (1 + t310))), (wrap64 (x10_3 - 1)), (x1001_105), (x1002_105), Z8_12, Z8_12, H', ⟨Z8_15⟩, ⟨Z8_4⟩, ⟨Z8_5⟩, ⟨Z8_2⟩, ⟨Z8_1⟩, ⟨Z8_3⟩⟩)⟩
                 exact Nonempty.elim (inferInstanceAs (Nonempty (type_of% ?L10))) id
                replace c111 := Bool.eq_false_iff.mpr c111
                subst c111
                have H1 : ((spec_l6Kind.f kj105 t325 x10_3).bind fun t337 => (if t337 = 0 then ((spec_GetEntry.f kj105 t325).bind fun bt338 => (if x13_28 = true then (if x6_1.length < 17592186044416 then (spec_l6DrawTables.l0 kj105 (wrap64 (4 + t253)) x5_3 (x6_1 ++ [x8_14]) (wrap64 (x7_1 + 1)) s0_0 x1001_105 x1002_105) else (none)) else (if bt338.2.2.2.2.2.2.2.2.1 ≥ (wrap64 (4 + t253)) then (if x6_1.length < 17592186044416 then (spec_l6DrawTables.l0 kj105 (wrap64 (4 + t253)) x5_3 (x6_1 ++ [x8_14]) (wrap64 (x7_1 + 1)) s0_0 x1001_105 x1002_105) else (none)) else (spec_l6DrawTables.l1 kj105 (wrap64 (4 + t253)) x5_3 x6_1 x7_1 x8_14 bt338.2.2.2.2.2.2.2.2.1 (wrap64 (x10_3 - 1)) s0_0 x1001_105 x1002_105)))) else (if x13_28 = true then (if x6_1.length < 17592186044416 then (spec_l6DrawTables.l0 kj105 (wrap64 (4 + t253)) x5_3 (x6_1 ++ [x8_14]) (wrap64 (x7_1 + 1)) s0_0 x1001_105 x1002_105) else (none)) else (if (wrap64 (1 + t310)) ≥ (wrap64 (4 + t253)) then (if x6_1.length < 17592186044416 then (spec_l6DrawTables.l0 kj105 (wrap64 (4 + t253)) x5_3 (x6_1 ++ [x8_14]) (wrap64 (x7_1 + 1)) s0_0 x1001_105 x1002_105) else (none)) else (spec_l6DrawTables.l1 kj105 (wrap64 (4 + t253)) x5_3 x6_1 x7_1 x8_14 (wrap64 (1 + t310)) (wrap64 (x10_3 - 1)) s0_0 x1001_105 x1002_105))))) = some (r1, r2, r3, r4) := by rw [if_neg (show ¬ (false = true) by decide)] at H; exact H
                clear H
                have H := H1
                clear H1
                replace H := Option.bind_eq_some_iff.mp H
                obtain ⟨t337, A1220, H⟩ := H
                replace H : (if t337 = 0 then ((spec_GetEntry.f kj105 t325).bind fun bt338 => (if x13_28 = true then (if x6_1.length < 17592186044416 then (spec_l6DrawTables.l0 kj105 (wrap64 (4 + t253)) x5_3 (x6_1 ++ [x8_14]) (wrap64 (x7_1 + 1)) s0_0 x1001_105 x1002_105) else (none)) else (if bt338.2.2.2.2.2.2.2.2.1 ≥ (wrap64 (4 + t253)) then (if x6_1.length < 17592186044416 then (spec_l6DrawTables.l0 kj105 (wrap64 (4 + t253)) x5_3 (x6_1 ++ [x8_14]) (wrap64 (x7_1 + 1)) s0_0 x1001_105 x1002_105) else (none)) else (spec_l6DrawTables.l1 kj105 (wrap64 (4 + t253)) x5_3 x6_1 x7_1 x8_14 bt338.2.2.2.2.2.2.2.2.1 (wrap64 (x10_3 - 1)) s0_0 x1001_105 x1002_105)))) else (if x13_28 = true then (if x6_1.length < 17592186044416 then (spec_l6DrawTables.l0 kj105 (wrap64 (4 + t253)) x5_3 (x6_1 ++ [x8_14]) (wrap64 (x7_1 + 1)) s0_0 x1001_105 x1002_105) else (none)) else (if (wrap64 (1 + t310)) ≥ (wrap64 (4 + t253)) then (if x6_1.length < 17592186044416 then (spec_l6DrawTables.l0 kj105 (wrap64 (4 + t253)) x5_3 (x6_1 ++ [x8_14]) (wrap64 (x7_1 + 1)) s0_0 x1001_105 x1002_105) else (none)) else (spec_l6DrawTables.l1 kj105 (wrap64 (4 + t253)) x5_3 x6_1 x7_1 x8_14 (wrap64 (1 + t310)) (wrap64 (x10_3 - 1)) s0_0 x1001_105 x1002_105)))) = some (r1, r2, r3, r4) := H
                have A122 := Aside0.mk A1220
                clear A1220
                by_cases c123 : t337 = 0
                ·
                 refine ?L11
                 letI iL11 : Nonempty (type_of% ?L11) := ⟨(by
                  rw [if_pos c123] at H
                  have c123b0 : (t337 == 0) = true := beq_iff_eq.mpr c123
                  have c123b1 : (t337 != 0) = false := bne_eq_false_iff_eq.mpr c123
                  clear c123
                  replace H := Option.bind_eq_some_iff.mp H
                  obtain ⟨⟨t338, t339, t340, t341, t342, t343, t344, t345, t346, t347⟩, A1240, H⟩ := H
                  replace H : (if x13_28 = true then (if x6_1.length < 17592186044416 then (spec_l6DrawTables.l0 kj105 (wrap64 (4 + t253)) x5_3 (x6_1 ++ [x8_14]) (wrap64 (x7_1 + 1)) s0_0 x1001_105 x1002_105) else (none)) else (if t346 ≥ (wrap64 (4 + t253)) then (if x6_1.length < 17592186044416 then (spec_l6DrawTables.l0 kj105 (wrap64 (4 + t253)) x5_3 (x6_1 ++ [x8_14]) (wrap64 (x7_1 + 1)) s0_0 x1001_105 x1002_105) else (none)) else (spec_l6DrawTables.l1 kj105 (wrap64 (4 + t253)) x5_3 x6_1 x7_1 x8_14 t346 (wrap64 (x10_3 - 1)) s0_0 x1001_105 x1002_105))) = some (r1, r2, r3, r4) := H
                  have A124 := Aside0.mk A1240
                  clear A1240
                  by_cases c125 : x13_28 = true
                  ·subst c125
                   have H1 : (if x6_1.length < 17592186044416 then (spec_l6DrawTables.l0 kj105 (wrap64 (4 + t253)) x5_3 (x6_1 ++ [x8_14]) (wrap64 (x7_1 + 1)) s0_0 x1001_105 x1002_105) else (none)) = some (r1, r2, r3, r4) := by rw [if_pos rfl] at H; exact H
                   clear H
                   have H := H1
                   clear H1
                   by_cases c126 : x6_1.length < 17592186044416
                   ·rw [if_pos c126] at H
                    have LMc126 := Aside0.mk c126
                    clear c126
                    obtain ⟨y349, hy349⟩ : ∃ y_ : List Int, y_ = (x6_1 ++ [x8_14]) := ⟨_, rfl⟩
                    replace H : (spec_l6DrawTables.l0 kj105 (wrap64 (4 + t253)) x5_3 y349 (wrap64 (x7_1 + 1)) s0_0 x1001_105 x1002_105) = some (r1, r2, r3, r4) := by first | (rw [hy349]; with_reducible exact H) | (have H2_ := (Option.bind_some _ _).symm.trans H; rw [hy349]; with_reducible exact H2_) | (have H2_ := (Option.bind_some _ _).symm.trans H; with_reducible exact H2_) | with_reducible exact H | (rw [hy349]; exact H) | exact H
                    have Ny349 := Aside0.mk hy349
                    clear hy349
                    have H' := Aside0.mk H
                    clear H
                    go_wp2_with (first | ((with_reducible refine gate_callee (f := 89) rfl ?_); refine goesL_ (some 152) rfl rfl Try.func89 Z8_30 rfl #[.int .u64 t325, .int .i64 x10_3] rfl Z8_7 ?_; (with_reducible refine (spec_l6Kind.calls kj105 t325 x10_3 t337 _ A122.out).mono ?_); rintro e w127 ⟨rfl, hb⟩; refine ⟨_, rfl, ?_⟩; have n0_ := Aside0.mk (Kd.R_below Z8_4 hb); have n1_ := Aside0.mk (Kd.R_below Z8_5 hb); have n2_ := Aside0.mk (blk_below (g := gb298) (o := .cells #[.bool x299000_81, .bool x299001_81, .bool x299002_81, .bool x299003_81, .bool x299004_81, .bool x299005_81, .bool x299006_81, .bool x299007_81, .int .i64 x299008_81] 27 (0, 0)) Z8_6 hb); have n3_ := Aside0.mk (IsS116.below Z8_2 hb); have n4_ := Aside0.mk (KeepBut.trans Z8_1 (KeepBut.of_below hb g none) (.inl rfl)); have n5_ := Aside0.mk (below_step Z8_3 hb); clear HO_5; clear HO_6; clear BK298; clear HI0; clear HK; clear HB; have HO_5 := n0_; have HO_6 := n1_; have BK298 := n2_; have HI0 := n3_; have HK := n4_; have HB := n5_; clear n0_ n1_ n2_ n3_ n4_ n5_; (try clear hb); (try clear hb2); (try clear hk); (try clear hi)) | ((with_reducible refine gate_callee (f := 15) rfl ?_); refine goesL_ (some 156) rfl rfl Try.func15 Z8_30 rfl #[.int .u64 t325] rfl Z8_7 ?_; (with_reducible refine (spec_GetEntry.calls kj105 t325 t338 t339 t340 t341 t342 t343 t344 t345 t346 t347 _ A124.out).mono ?_); rintro e w128 ⟨rfl, hb⟩; refine ⟨_, rfl, ?_⟩; have n0_ := Aside0.mk (Kd.R_below Z8_4 hb); have n1_ := Aside0.mk (Kd.R_below Z8_5 hb); have n2_ := Aside0.mk (blk_below (g := gb298) (o := .cells #[.bool x299000_81, .bool x299001_81, .bool x299002_81, .bool x299003_81, .bool x299004_81, .bool x299005_81, .bool x299006_81, .bool x299007_81, .int .i64 x299008_81] 27 (0, 0)) Z8_6 hb); have n3_ := Aside0.mk (IsS116.below Z8_2 hb); have n4_ := Aside0.mk (KeepBut.trans Z8_1 (KeepBut.of_below hb g none) (.inl rfl)); have n5_ := Aside0.mk (below_step Z8_3 hb); clear HO_5; clear HO_6; clear BK298; clear HI0; clear HK; clear HB; have HO_5 := n0_; have HO_6 := n1_; have BK298 := n2_; have HI0 := n3_; have HK := n4_; have HB := n5_; clear n0_ n1_ n2_ n3_ n4_ n5_; (try clear hb); (try clear hb2); (try clear hk); (try clear hi)) | ((with_reducible refine gate_dst (N := 20) rfl ?_); refine box_event ?hg (N := 20) ?hd (cs := #[.bool false, .bool false, .bool false, .bool false, .bool false, .bool false, .bool false, .bool false, .int .i64 0]) (t := 27) ?hr ?_; (case hd => rfl); (case hg => rfl); (case hr => exact Z8_35); intro gb348 hg w129 hbox hb; have n0_ := Aside0.mk (Kd.R_below Z8_4 hb); have n1_ := Aside0.mk (Kd.R_below Z8_5 hb); have n2_ := Aside0.mk (blk_below (g := gb298) (o := .cells #[.bool x299000_81, .bool x299001_81, .bool x299002_81, .bool x299003_81, .bool x299004_81, .bool x299005_81, .bool x299006_81, .bool x299007_81, .int .i64 x299008_81] 27 (0, 0)) Z8_6 hb); have n3_ := Aside0.mk (IsS116.below Z8_2 hb); have n4_ := Aside0.mk (KeepBut.trans Z8_1 (KeepBut.of_below hb g none) (.inl rfl)); have n5_ := Aside0.mk (below_step Z8_3 hb); have n6_ := Aside0.mk (hbox); have n7_ := Aside0.mk ((Z8_38 : w.heap.size ≤ gb348)); have n8_ := Aside0.mk ((Nat.le_trans HW0.out (Z8_38 : w.heap.size ≤ gb348) : w0.heap.size ≤ gb348)); have n9_ := Aside0.mk ((Z8_33 : gb298 ≠ gb348)); have n10_ := Aside0.mk ((Z8_34 : gb348 ≠ gb298)); have n11_ := Aside0.mk ((Z8_28 : g ≠ gb348)); have n12_ := Aside0.mk ((Z8_29 : gb348 ≠ g)); clear HO_5; clear HO_6; clear BK298; clear HI0; clear HK; clear HB; have HO_5 := n0_; have HO_6 := n1_; have BK298 := n2_; have HI0 := n3_; have HK := n4_; have HB := n5_; have BK348 := n6_; have GW348 := n7_; have GE348 := n8_; have NB298_348 := n9_; have NB348_298 := n10_; have NB0_348 := n11_; have NB348_0 := n12_; clear n0_ n1_ n2_ n3_ n4_ n5_ n6_ n7_ n8_ n9_ n10_ n11_ n12_; clear hb hbox hg; have hnb130 := NB348_298.out; have hnc130 := NB298_348.out; have hnb131 := NB348_0.out; have hnc131 := NB0_348.out; have hcz132_0 : w129.cell? ⟨gb348, 0, none⟩ = some (.bool false) := (blk_cell BK348.out 0).trans rfl; have hcz132_1 : w129.cell? ⟨gb348, 1, none⟩ = some (.bool false) := (blk_cell BK348.out 1).trans rfl; have hcz132_2 : w129.cell? ⟨gb348, 2, none⟩ = some (.bool false) := (blk_cell BK348.out 2).trans rfl; have hcz132_3 : w129.cell? ⟨gb348, 3, none⟩ = some (.bool false) := (blk_cell BK348.out 3).trans rfl; have hcz132_4 : w129.cell? ⟨gb348, 4, none⟩ = some (.bool false) := (blk_cell BK348.out 4).trans rfl; have hcz132_5 : w129.cell? ⟨gb348, 5, none⟩ = some (.bool false) := (blk_cell BK348.out 5).trans rfl; have hcz132_6 : w129.cell? ⟨gb348, 6, none⟩ = some (.bool false) := (blk_cell BK348.out 6).trans rfl; have hcz132_7 : w129.cell? ⟨gb348, 7, none⟩ = some (.bool false) := (blk_cell BK348.out 7).trans rfl; have hcz132_8 : w129.cell? ⟨gb348, 8, none⟩ = some (.int .i64 0) := (blk_cell BK348.out 8).trans rfl; have hfz132_0 := blk_frozen BK348.out 0; have hfz132_1 := blk_frozen BK348.out 1; have hfz132_2 := blk_frozen BK348.out 2; have hfz132_3 := blk_frozen BK348.out 3; have hfz132_4 := blk_frozen BK348.out 4; have hfz132_5 := blk_frozen BK348.out 5; have hfz132_6 := blk_frozen BK348.out 6; have hfz132_7 := blk_frozen BK348.out 7; have hfz132_8 := blk_frozen BK348.out 8) | ((with_reducible refine gate_builtin (b := .append) (xs := #[.tmp 170, .tmp 172]) rfl ?_); at_builtin; refine Kd.R_append (Kd.int .i64) w.heap.size rfl (.tmp 170) (.tmp 172) 88 2 (.int .i64 0) 8 rfl Try.underlying88 info2 rfl Z8_32 (by omega) u6 x6_1 x8_14 [.int .i64 x8_14] (fun _ => True) (fun _ => False) rfl Z8_35 ?aP (fun _ hk => hk.elim) ?aF ?aO (Below.refl _ _) ?aS ?aL ?_; (case aP => exact rfl); (case aF => exact (fun _ _ => trivial)); (case aO => exact Z8_16); (case aS => exact (keep_size (w := w) (g := g) (row := none) Z8_17)); (case aL => have := LMc126.out; omega); intro v350 w133 ho hb hg hat; rw [← Ny349.out] at ho; have n0_ := Aside0.mk (Kd.R_over' Z8_24 (Kd.R_typed Z8_25) Z8_32 hg); have n1_ := Aside0.mk (blk_grown (g := gb298) (o := .cells #[.bool x299000_81, .bool x299001_81, .bool x299002_81, .bool x299003_81, .bool x299004_81, .bool x299005_81, .bool x299006_81, .bool x299007_81, .int .i64 x299008_81] 27 (0, 0)) Z8_18 hg (Kd.R_ne HO_6.out BK298.out Z8_32)); have n2_ := Aside0.mk (IsS116.grown (show IsS116 w0 _ g s0_0 x1001_105 x1002_105 from Z8_20) hg (IsS116.own_ne HI0.out HO_6.out Z8_32)); have n3_ := Aside0.mk (blk_grown (g := gb348) (o := .cells #[.bool t338, .bool t339, .bool t340, .bool t341, .bool t342, .bool t343, .bool t344, .bool t345, .int .i64 t346] 27 (0, 0)) Z8_14 hg (Kd.R_ne HO_6.out BK348.out Z8_32)); have n4_ := Aside0.mk (below_weaken Z8_21 HL.out hb); have n5_ := Aside0.mk (KeepBut.trans Z8_17 (KeepBut.of_grown hg g) (Kd.R_base2 HO_6.out)); have n6_ := Aside0.mk (ho); clear HO_5; clear BK298; clear HI0; clear BK348; clear HB; clear HK; clear HO_6; have HO_5 := n0_; have BK298 := n1_; have HI0 := n2_; have BK348 := n3_; have HB := n4_; have HK := n5_; have HO351 := n6_; clear n0_ n1_ n2_ n3_ n4_ n5_ n6_; clear ho hb hg hat))
                    go_roundg kj105
                    case measure => have := HK1.out; have := HJ14.out; have := HK3.out; have := HJ28.out; have := HJ33.out; have := HJ44.out; have := HJ48.out; have := HJ53.out; have := HJ81.out; have := HJ95.out; have := HJ105.out; omega
                    case rel => exact ⟨(x5_3), (y349), (wrap64 (x7_1 + 1)), (x1001_105), (x1002_105), Z8_12, H', ⟨Z8_15⟩, ⟨Z8_4⟩, ⟨by (with_reducible repeat (first | apply Kd.R_alloc | apply Kd.R_drewN | apply Kd.R_drew)); exact HO351.out⟩, ⟨Z8_20⟩, ⟨Z8_17⟩, ⟨Z8_21⟩⟩
                   rw [if_neg c126] at H
                   exact absurd H (by simp)
                  replace c125 := Bool.eq_false_iff.mpr c125
                  subst c125
                  have H1 : (if t346 ≥ (wrap64 (4 + t253)) then (if x6_1.length < 17592186044416 then (spec_l6DrawTables.l0 kj105 (wrap64 (4 + t253)) x5_3 (x6_1 ++ [x8_14]) (wrap64 (x7_1 + 1)) s0_0 x1001_105 x1002_105) else (none)) else (spec_l6DrawTables.l1 kj105 (wrap64 (4 + t253)) x5_3 x6_1 x7_1 x8_14 t346 (wrap64 (x10_3 - 1)) s0_0 x1001_105 x1002_105)) = some (r1, r2, r3, r4) := by rw [if_neg (show ¬ (false = true) by decide)] at H; exact H
                  clear H
                  have H := H1
                  clear H1
                  by_cases c134 : t346 ≥ (wrap64 (4 + t253))
                  ·rw [if_pos c134] at H
                   have c134b0 : decide ((wrap64 (4 + t253)) ≤ t346) = true := decide_eq_true c134
                   clear c134
                   by_cases c135 : x6_1.length < 17592186044416
                   ·rw [if_pos c135] at H
                    have LMc135 := Aside0.mk c135
                    clear c135
                    obtain ⟨y352, hy352⟩ : ∃ y_ : List Int, y_ = (x6_1 ++ [x8_14]) := ⟨_, rfl⟩
                    replace H : (spec_l6DrawTables.l0 kj105 (wrap64 (4 + t253)) x5_3 y352 (wrap64 (x7_1 + 1)) s0_0 x1001_105 x1002_105) = some (r1, r2, r3, r4) := by first | (rw [hy352]; with_reducible exact H) | (have H2_ := (Option.bind_some _ _).symm.trans H; rw [hy352]; with_reducible exact H2_) | (have H2_ := (Option.bind_some _ _).symm.trans H; with_reducible exact H2_) | with_reducible exact H | (rw [hy352]; exact H) | exact H
                    have Ny352 := Aside0.mk hy352
                    clear hy352
                    have H' := Aside0.mk H
                    clear H
                    go_wp2_with (first | ((with_reducible refine gate_callee (f := 89) rfl ?_); refine goesL_ (some 152) rfl rfl Try.func89 Z8_30 rfl #[.int .u64 t325, .int .i64 x10_3] rfl Z8_7 ?_; (with_reducible refine (spec_l6Kind.calls kj105 t325 x10_3 t337 _ A122.out).mono ?_); rintro e w136 ⟨rfl, hb⟩; refine ⟨_, rfl, ?_⟩; have n0_ := Aside0.mk (Kd.R_below Z8_4 hb); have n1_ := Aside0.mk (Kd.R_below Z8_5 hb); have n2_ := Aside0.mk (blk_below (g := gb298) (o := .cells #[.bool x299000_81, .bool x299001_81, .bool x299002_81, .bool x299003_81, .bool x299004_81, .bool x299005_81, .bool x299006_81, .bool x299007_81, .int .i64 x299008_81] 27 (0, 0)) Z8_6 hb); have n3_ := Aside0.mk (IsS116.below Z8_2 hb); have n4_ := Aside0.mk (KeepBut.trans Z8_1 (KeepBut.of_below hb g none) (.inl rfl)); have n5_ := Aside0.mk (below_step Z8_3 hb); clear HO_5; clear HO_6; clear BK298; clear HI0; clear HK; clear HB; have HO_5 := n0_; have HO_6 := n1_; have BK298 := n2_; have HI0 := n3_; have HK := n4_; have HB := n5_; clear n0_ n1_ n2_ n3_ n4_ n5_; (try clear hb); (try clear hb2); (try clear hk); (try clear hi)) | ((with_reducible refine gate_callee (f := 15) rfl ?_); refine goesL_ (some 156) rfl rfl Try.func15 Z8_30 rfl #[.int .u64 t325] rfl Z8_7 ?_; (with_reducible refine (spec_GetEntry.calls kj105 t325 t338 t339 t340 t341 t342 t343 t344 t345 t346 t347 _ A124.out).mono ?_); rintro e w137 ⟨rfl, hb⟩; refine ⟨_, rfl, ?_⟩; have n0_ := Aside0.mk (Kd.R_below Z8_4 hb); have n1_ := Aside0.mk (Kd.R_below Z8_5 hb); have n2_ := Aside0.mk (blk_below (g := gb298) (o := .cells #[.bool x299000_81, .bool x299001_81, .bool x299002_81, .bool x299003_81, .bool x299004_81, .bool x299005_81, .bool x299006_81, .bool x299007_81, .int .i64 x299008_81] 27 (0, 0)) Z8_6 hb); have n3_ := Aside0.mk (IsS116.below Z8_2 hb); have n4_ := Aside0.mk (KeepBut.trans Z8_1 (KeepBut.of_below hb g none) (.inl rfl)); have n5_ := Aside0.mk (below_step Z8_3 hb); clear HO_5; clear HO_6; clear BK298; clear HI0; clear HK; clear HB; have HO_5 := n0_; have HO_6 := n1_; have BK298 := n2_; have HI0 := n3_; have HK := n4_; have HB := n5_; clear n0_ n1_ n2_ n3_ n4_ n5_; (try clear hb); (try clear hb2); (try clear hk); (try clear hi)) | ((with_reducible refine gate_dst (N := 20) rfl ?_); refine box_event ?hg (N := 20) ?hd (cs := #[.bool false, .bool false, .bool false, .bool false, .bool false, .bool false, .bool false, .bool false, .int .i64 0]) (t := 27) ?hr ?_; (case hd => rfl); (case hg => rfl); (case hr => exact Z8_35); intro gb348 hg w138 hbox hb; have n0_ := Aside0.mk (Kd.R_below Z8_4 hb); have n1_ := Aside0.mk (Kd.R_below Z8_5 hb); have n2_ := Aside0.mk (blk_below (g := gb298) (o := .cells #[.bool x299000_81, .bool x299001_81, .bool x299002_81, .bool x299003_81, .bool x299004_81, .bool x299005_81, .bool x299006_81, .bool x299007_81, .int .i64 x299008_81] 27 (0, 0)) Z8_6 hb); have n3_ := Aside0.mk (IsS116.below Z8_2 hb); have n4_ := Aside0.mk (KeepBut.trans Z8_1 (KeepBut.of_below hb g none) (.inl rfl)); have n5_ := Aside0.mk (below_step Z8_3 hb); have n6_ := Aside0.mk (hbox); have n7_ := Aside0.mk ((Z8_38 : w.heap.size ≤ gb348)); have n8_ := Aside0.mk ((Nat.le_trans HW0.out (Z8_38 : w.heap.size ≤ gb348) : w0.heap.size ≤ gb348)); have n9_ := Aside0.mk ((Z8_33 : gb298 ≠ gb348)); have n10_ := Aside0.mk ((Z8_34 : gb348 ≠ gb298)); have n11_ := Aside0.mk ((Z8_28 : g ≠ gb348)); have n12_ := Aside0.mk ((Z8_29 : gb348 ≠ g)); clear HO_5; clear HO_6; clear BK298; clear HI0; clear HK; clear HB; have HO_5 := n0_; have HO_6 := n1_; have BK298 := n2_; have HI0 := n3_; have HK := n4_; have HB := n5_; have BK348 := n6_; have GW348 := n7_; have GE348 := n8_; have NB298_348 := n9_; have NB348_298 := n10_; have NB0_348 := n11_; have NB348_0 := n12_; clear n0_ n1_ n2_ n3_ n4_ n5_ n6_ n7_ n8_ n9_ n10_ n11_ n12_; clear hb hbox hg; have hnb139 := NB348_298.out; have hnc139 := NB298_348.out; have hnb140 := NB348_0.out; have hnc140 := NB0_348.out; have hcz141_0 : w138.cell? ⟨gb348, 0, none⟩ = some (.bool false) := (blk_cell BK348.out 0).trans rfl; have hcz141_1 : w138.cell? ⟨gb348, 1, none⟩ = some (.bool false) := (blk_cell BK348.out 1).trans rfl; have hcz141_2 : w138.cell? ⟨gb348, 2, none⟩ = some (.bool false) := (blk_cell BK348.out 2).trans rfl; have hcz141_3 : w138.cell? ⟨gb348, 3, none⟩ = some (.bool false) := (blk_cell BK348.out 3).trans rfl; have hcz141_4 : w138.cell? ⟨gb348, 4, none⟩ = some (.bool false) := (blk_cell BK348.out 4).trans rfl; have hcz141_5 : w138.cell? ⟨gb348, 5, none⟩ = some (.bool false) := (blk_cell BK348.out 5).trans rfl; have hcz141_6 : w138.cell? ⟨gb348, 6, none⟩ = some (.bool false) := (blk_cell BK348.out 6).trans rfl; have hcz141_7 : w138.cell? ⟨gb348, 7, none⟩ = some (.bool false) := (blk_cell BK348.out 7).trans rfl; have hcz141_8 : w138.cell? ⟨gb348, 8, none⟩ = some (.int .i64 0) := (blk_cell BK348.out 8).trans rfl; have hfz141_0 := blk_frozen BK348.out 0; have hfz141_1 := blk_frozen BK348.out 1; have hfz141_2 := blk_frozen BK348.out 2; have hfz141_3 := blk_frozen BK348.out 3; have hfz141_4 := blk_frozen BK348.out 4; have hfz141_5 := blk_frozen BK348.out 5; have hfz141_6 := blk_frozen BK348.out 6; have hfz141_7 := blk_frozen BK348.out 7; have hfz141_8 := blk_frozen BK348.out 8) | ((with_reducible refine gate_builtin (b := .append) (xs := #[.tmp 170, .tmp 172]) rfl ?_); at_builtin; refine Kd.R_append (Kd.int .i64) w.heap.size rfl (.tmp 170) (.tmp 172) 88 2 (.int .i64 0) 8 rfl Try.underlying88 info2 rfl Z8_32 (by omega) u6 x6_1 x8_14 [.int .i64 x8_14] (fun _ => True) (fun _ => False) rfl Z8_35 ?aP (fun _ hk => hk.elim) ?aF ?aO (Below.refl _ _) ?aS ?aL ?_; (case aP => exact rfl); (case aF => exact (fun _ _ => trivial)); (case aO => exact Z8_16); (case aS => exact (keep_size (w := w) (g := g) (row := none) Z8_17)); (case aL => have := LMc135.out; omega); intro v353 w142 ho hb hg hat; rw [← Ny352.out] at ho; have n0_ := Aside0.mk (Kd.R_over' Z8_24 (Kd.R_typed Z8_25) Z8_32 hg); have n1_ := Aside0.mk (blk_grown (g := gb298) (o := .cells #[.bool x299000_81, .bool x299001_81, .bool x299002_81, .bool x299003_81, .bool x299004_81, .bool x299005_81, .bool x299006_81, .bool x299007_81, .int .i64 x299008_81] 27 (0, 0)) Z8_18 hg (Kd.R_ne HO_6.out BK298.out Z8_32)); have n2_ := Aside0.mk (IsS116.grown (show IsS116 w0 _ g s0_0 x1001_105 x1002_105 from Z8_20) hg (IsS116.own_ne HI0.out HO_6.out Z8_32)); have n3_ := Aside0.mk (blk_grown (g := gb348) (o := .cells #[.bool t338, .bool t339, .bool t340, .bool t341, .bool t342, .bool t343, .bool t344, .bool t345, .int .i64 t346] 27 (0, 0)) Z8_14 hg (Kd.R_ne HO_6.out BK348.out Z8_32)); have n4_ := Aside0.mk (below_weaken Z8_21 HL.out hb); have n5_ := Aside0.mk (KeepBut.trans Z8_17 (KeepBut.of_grown hg g) (Kd.R_base2 HO_6.out)); have n6_ := Aside0.mk (ho); clear HO_5; clear BK298; clear HI0; clear BK348; clear HB; clear HK; clear HO_6; have HO_5 := n0_; have BK298 := n1_; have HI0 := n2_; have BK348 := n3_; have HB := n4_; have HK := n5_; have HO354 := n6_; clear n0_ n1_ n2_ n3_ n4_ n5_ n6_; clear ho hb hg hat))
                    go_roundg kj105
                    case measure => have := HK1.out; have := HJ14.out; have := HK3.out; have := HJ28.out; have := HJ33.out; have := HJ44.out; have := HJ48.out; have := HJ53.out; have := HJ81.out; have := HJ95.out; have := HJ105.out; omega
                    case rel => exact ⟨(x5_3), (y352), (wrap64 (x7_1 + 1)), (x1001_105), (x1002_105), Z8_12, H', ⟨Z8_15⟩, ⟨Z8_4⟩, ⟨by (with_reducible repeat (first | apply Kd.R_alloc | apply Kd.R_drewN | apply Kd.R_drew)); exact HO354.out⟩, ⟨Z8_20⟩, ⟨Z8_17⟩, ⟨Z8_21⟩⟩
                   rw [if_neg c135] at H
                   exact absurd H (by simp)
                  rw [if_neg c134] at H
                  have c134b0 : decide ((wrap64 (4 + t253)) ≤ t346) = false := decide_eq_false c134
                  clear c134
                  have H' := Aside0.mk H
                  clear H
                  go_wp2_with (first | ((with_reducible refine gate_callee (f := 89) rfl ?_); refine goesL_ (some 152) rfl rfl Try.func89 Z8_30 rfl #[.int .u64 t325, .int .i64 x10_3] rfl Z8_7 ?_; (with_reducible refine (spec_l6Kind.calls kj105 t325 x10_3 t337 _ A122.out).mono ?_); rintro e w143 ⟨rfl, hb⟩; refine ⟨_, rfl, ?_⟩; have n0_ := Aside0.mk (Kd.R_below Z8_4 hb); have n1_ := Aside0.mk (Kd.R_below Z8_5 hb); have n2_ := Aside0.mk (blk_below (g := gb298) (o := .cells #[.bool x299000_81, .bool x299001_81, .bool x299002_81, .bool x299003_81, .bool x299004_81, .bool x299005_81, .bool x299006_81, .bool x299007_81, .int .i64 x299008_81] 27 (0, 0)) Z8_6 hb); have n3_ := Aside0.mk (IsS116.below Z8_2 hb); have n4_ := Aside0.mk (KeepBut.trans Z8_1 (KeepBut.of_below hb g none) (.inl rfl)); have n5_ := Aside0.mk (below_step Z8_3 hb); clear HO_5; clear HO_6; clear BK298; clear HI0; clear HK; clear HB; have HO_5 := n0_; have HO_6 := n1_; have BK298 := n2_; have HI0 := n3_; have HK := n4_; have HB := n5_; clear n0_ n1_ n2_ n3_ n4_ n5_; (try clear hb); (try clear hb2); (try clear hk); (try clear hi)) | ((with_reducible refine gate_callee (f := 15) rfl ?_); refine goesL_ (some 156) rfl rfl Try.func15 Z8_30 rfl #[.int .u64 t325] rfl Z8_7 ?_; (with_reducible refine (spec_GetEntry.calls kj105 t325 t338 t339 t340 t341 t342 t343 t344 t345 t346 t347 _ A124.out).mono ?_); rintro e w144 ⟨rfl, hb⟩; refine ⟨_, rfl, ?_⟩; have n0_ := Aside0.mk (Kd.R_below Z8_4 hb); have n1_ := Aside0.mk (Kd.R_below Z8_5 hb); have n2_ := Aside0.mk (blk_below (g := gb298) (o := .cells #[.bool x299000_81, .bool x299001_81, .bool x299002_81, .bool x299003_81, .bool x299004_81, .bool x299005_81, .bool x299006_81, .bool x299007_81, .int .i64 x299008_81] 27 (0, 0)) Z8_6 hb); have n3_ := Aside0.mk (IsS116.below Z8_2 hb); have n4_ := Aside0.mk (KeepBut.trans Z8_1 (KeepBut.of_below hb g none) (.inl rfl)); have n5_ := Aside0.mk (below_step Z8_3 hb); clear HO_5; clear HO_6; clear BK298; clear HI0; clear HK; clear HB; have HO_5 := n0_; have HO_6 := n1_; have BK298 := n2_; have HI0 := n3_; have HK := n4_; have HB := n5_; clear n0_ n1_ n2_ n3_ n4_ n5_; (try clear hb); (try clear hb2); (try clear hk); (try clear hi)) | ((with_reducible refine gate_dst (N := 20) rfl ?_); refine box_event ?hg (N := 20) ?hd (cs := #[.bool false, .bool false, .bool false, .bool false, .bool false, .bool false, .bool false, .bool false, .int .i64 0]) (t := 27) ?hr ?_; (case hd => rfl); (case hg => rfl); (case hr => exact Z8_35); intro gb348 hg w145 hbox hb; have n0_ := Aside0.mk (Kd.R_below Z8_4 hb); have n1_ := Aside0.mk (Kd.R_below Z8_5 hb); have n2_ := Aside0.mk (blk_below (g := gb298) (o := .cells #[.bool x299000_81, .bool x299001_81, .bool x299002_81, .bool x299003_81, .bool x299004_81, .bool x299005_81, .bool x299006_81, .bool x299007_81, .int .i64 x299008_81] 27 (0, 0)) Z8_6 hb); have n3_ := Aside0.mk (IsS116.below Z8_2 hb); have n4_ := Aside0.mk (KeepBut.trans Z8_1 (KeepBut.of_below hb g none) (.inl rfl)); have n5_ := Aside0.mk (below_step Z8_3 hb); have n6_ := Aside0.mk (hbox); have n7_ := Aside0.mk ((Z8_38 : w.heap.size ≤ gb348)); have n8_ := Aside0.mk ((Nat.le_trans HW0.out (Z8_38 : w.heap.size ≤ gb348) : w0.heap.size ≤ gb348)); have n9_ := Aside0.mk ((Z8_33 : gb298 ≠ gb348)); have n10_ := Aside0.mk ((Z8_34 : gb348 ≠ gb298)); have n11_ := Aside0.mk ((Z8_28 : g ≠ gb348)); have n12_ := Aside0.mk ((Z8_29 : gb348 ≠ g)); clear HO_5; clear HO_6; clear BK298; clear HI0; clear HK; clear HB; have HO_5 := n0_; have HO_6 := n1_; have BK298 := n2_; have HI0 := n3_; have HK := n4_; have HB := n5_; have BK348 := n6_; have GW348 := n7_; have GE348 := n8_; have NB298_348 := n9_; have NB348_298 := n10_; have NB0_348 := n11_; have NB348_0 := n12_; clear n0_ n1_ n2_ n3_ n4_ n5_ n6_ n7_ n8_ n9_ n10_ n11_ n12_; clear hb hbox hg; have hnb146 := NB348_298.out; have hnc146 := NB298_348.out; have hnb147 := NB348_0.out; have hnc147 := NB0_348.out; have hcz148_0 : w145.cell? ⟨gb348, 0, none⟩ = some (.bool false) := (blk_cell BK348.out 0).trans rfl; have hcz148_1 : w145.cell? ⟨gb348, 1, none⟩ = some (.bool false) := (blk_cell BK348.out 1).trans rfl; have hcz148_2 : w145.cell? ⟨gb348, 2, none⟩ = some (.bool false) := (blk_cell BK348.out 2).trans rfl; have hcz148_3 : w145.cell? ⟨gb348, 3, none⟩ = some (.bool false) := (blk_cell BK348.out 3).trans rfl; have hcz148_4 : w145.cell? ⟨gb348, 4, none⟩ = some (.bool false) := (blk_cell BK348.out 4).trans rfl; have hcz148_5 : w145.cell? ⟨gb348, 5, none⟩ = some (.bool false) := (blk_cell BK348.out 5).trans rfl; have hcz148_6 : w145.cell? ⟨gb348, 6, none⟩ = some (.bool false) := (blk_cell BK348.out 6).trans rfl; have hcz148_7 : w145.cell? ⟨gb348, 7, none⟩ = some (.bool false) := (blk_cell BK348.out 7).trans rfl; have hcz148_8 : w145.cell? ⟨gb348, 8, none⟩ = some (.int .i64 0) := (blk_cell BK348.out 8).trans rfl; have hfz148_0 := blk_frozen BK348.out 0; have hfz148_1 := blk_frozen BK348.out 1; have hfz148_2 := blk_frozen BK348.out 2; have hfz148_3 := blk_frozen BK348.out 3; have hfz148_4 := blk_frozen BK348.out 4; have hfz148_5 := blk_frozen BK348.out 5; have hfz148_6 := blk_frozen BK348.out 6; have hfz148_7 := blk_frozen BK348.out 7; have hfz148_8 := blk_frozen BK348.out 8))
                  go_roundg kj105
                  case measure => have := HK1.out; have := HJ14.out; have := HK3.out; have := HJ28.out; have := HJ33.out; have := HJ44.out; have := HJ48.out; have := HJ53.out; have := HJ81.out; have := HJ95.out; have := HJ105.out; omega
                  case rel => exact ⟨(x5_3), (t346), (wrap64 (x10_3 - 1)), (x1001_105), (x1002_105), Z8_12, Z8_12, H', ⟨Z8_15⟩, ⟨by (with_reducible repeat (first | apply Kd.R_alloc | apply Kd.R_drewN | apply Kd.R_drew)); exact Kd.R_mono (Kd.R_far (p := ⟨gb348, 8, none⟩) (Kd.R_far (p := ⟨gb348, 7, none⟩) (Kd.R_far (p := ⟨gb348, 6, none⟩) (Kd.R_far (p := ⟨gb348, 5, none⟩) (Kd.R_far (p := ⟨gb348, 4, none⟩) (Kd.R_far (p := ⟨gb348, 3, none⟩) (Kd.R_far (p := ⟨gb348, 2, none⟩) (Kd.R_far (p := ⟨gb348, 1, none⟩) (Kd.R_far (p := ⟨gb348, 0, none⟩) (Kd.R_types HO_5.out BK348.out Z8_32) (fun _ hk => hk.2) (.bool t338)) (fun _ hk => hk.2) (.bool t339)) (fun _ hk => hk.2) (.bool t340)) (fun _ hk => hk.2) (.bool t341)) (fun _ hk => hk.2) (.bool t342)) (fun _ hk => hk.2) (.bool t343)) (fun _ hk => hk.2) (.bool t344)) (fun _ hk => hk.2) (.bool t345)) (fun _ hk => hk.2) (.int .i64 t346)) (fun _ hk => trivial)⟩, ⟨Z8_16⟩, ⟨Z8_20⟩, ⟨Z8_17⟩, ⟨Z8_21⟩⟩)⟩
                 exact Nonempty.elim (inferInstanceAs (Nonempty (type_of% ?L11))) id
                rw [if_neg c123] at H
                have c123b0 : (t337 == 0) = false := beq_eq_false_iff_ne.mpr c123
                have c123b1 : (t337 != 0) = true := bne_iff_ne.mpr c123
                by_cases c149 : x13_28 = true
                ·
                 refine ?L12
                 letI iL12 : Nonempty (type_of% ?L12) := ⟨(by
                  subst c149
                  have H1 : (if x6_1.length < 17592186044416 then (spec_l6DrawTables.l0 kj105 (wrap64 (4 + t253)) x5_3 (x6_1 ++ [x8_14]) (wrap64 (x7_1 + 1)) s0_0 x1001_105 x1002_105) else (none)) = some (r1, r2, r3, r4) := by rw [if_pos rfl] at H; exact H
                  clear H
                  have H := H1
                  clear H1
                  by_cases c150 : x6_1.length < 17592186044416
                  ·rw [if_pos c150] at H
                   have LMc150 := Aside0.mk c150
                   clear c150
                   obtain ⟨y355, hy355⟩ : ∃ y_ : List Int, y_ = (x6_1 ++ [x8_14]) := ⟨_, rfl⟩
                   replace H : (spec_l6DrawTables.l0 kj105 (wrap64 (4 + t253)) x5_3 y355 (wrap64 (x7_1 + 1)) s0_0 x1001_105 x1002_105) = some (r1, r2, r3, r4) := by first | (rw [hy355]; with_reducible exact H) | (have H2_ := (Option.bind_some _ _).symm.trans H; rw [hy355]; with_reducible exact H2_) | (have H2_ := (Option.bind_some _ _).symm.trans H; with_reducible exact H2_) | with_reducible exact H | (rw [hy355]; exact H) | exact H
                   have Ny355 := Aside0.mk hy355
                   clear hy355
                   have H' := Aside0.mk H
                   clear H
                   go_wp2_with (first | ((with_reducible refine gate_callee (f := 89) rfl ?_); refine goesL_ (some 152) rfl rfl Try.func89 Z8_30 rfl #[.int .u64 t325, .int .i64 x10_3] rfl Z8_7 ?_; (with_reducible refine (spec_l6Kind.calls kj105 t325 x10_3 t337 _ A122.out).mono ?_); rintro e w151 ⟨rfl, hb⟩; refine ⟨_, rfl, ?_⟩; have n0_ := Aside0.mk (Kd.R_below Z8_4 hb); have n1_ := Aside0.mk (Kd.R_below Z8_5 hb); have n2_ := Aside0.mk (blk_below (g := gb298) (o := .cells #[.bool x299000_81, .bool x299001_81, .bool x299002_81, .bool x299003_81, .bool x299004_81, .bool x299005_81, .bool x299006_81, .bool x299007_81, .int .i64 x299008_81] 27 (0, 0)) Z8_6 hb); have n3_ := Aside0.mk (IsS116.below Z8_2 hb); have n4_ := Aside0.mk (KeepBut.trans Z8_1 (KeepBut.of_below hb g none) (.inl rfl)); have n5_ := Aside0.mk (below_step Z8_3 hb); clear HO_5; clear HO_6; clear BK298; clear HI0; clear HK; clear HB; have HO_5 := n0_; have HO_6 := n1_; have BK298 := n2_; have HI0 := n3_; have HK := n4_; have HB := n5_; clear n0_ n1_ n2_ n3_ n4_ n5_; (try clear hb); (try clear hb2); (try clear hk); (try clear hi)) | ((with_reducible refine gate_builtin (b := .append) (xs := #[.tmp 170, .tmp 172]) rfl ?_); at_builtin; refine Kd.R_append (Kd.int .i64) w.heap.size rfl (.tmp 170) (.tmp 172) 88 2 (.int .i64 0) 8 rfl Try.underlying88 info2 rfl Z8_32 (by omega) u6 x6_1 x8_14 [.int .i64 x8_14] (fun _ => True) (fun _ => False) rfl rfl ?aP (fun _ hk => hk.elim) ?aF ?aO (Below.refl _ _) ?aS ?aL ?_; (case aP => exact rfl); (case aF => exact (fun _ _ => trivial)); (case aO => exact Z8_5); (case aS => exact (keep_size (w := w) (g := g) (row := none) Z8_1)); (case aL => have := LMc150.out; omega); intro v356 w152 ho hb hg hat; rw [← Ny355.out] at ho; have n0_ := Aside0.mk (Kd.R_over' Z8_4 (Kd.R_typed Z8_5) Z8_32 hg); have n1_ := Aside0.mk (blk_grown (g := gb298) (o := .cells #[.bool x299000_81, .bool x299001_81, .bool x299002_81, .bool x299003_81, .bool x299004_81, .bool x299005_81, .bool x299006_81, .bool x299007_81, .int .i64 x299008_81] 27 (0, 0)) Z8_6 hg (Kd.R_ne HO_6.out BK298.out Z8_32)); have n2_ := Aside0.mk (IsS116.grown Z8_2 hg (IsS116.own_ne HI0.out HO_6.out Z8_32)); have n3_ := Aside0.mk (below_weaken Z8_3 HL.out hb); have n4_ := Aside0.mk (KeepBut.trans Z8_1 (KeepBut.of_grown hg g) (Kd.R_base2 HO_6.out)); have n5_ := Aside0.mk (ho); clear HO_5; clear BK298; clear HI0; clear HB; clear HK; clear HO_6; have HO_5 := n0_; have BK298 := n1_; have HI0 := n2_; have HB := n3_; have HK := n4_; have HO357 := n5_; clear n0_ n1_ n2_ n3_ n4_ n5_; clear ho hb hg hat))
                   go_roundg kj105
                   case measure => have := HK1.out; have := HJ14.out; have := HK3.out; have := HJ28.out; have := HJ33.out; have := HJ44.out; have := HJ48.out; have := HJ53.out; have := HJ81.out; have := HJ95.out; have := HJ105.out; omega
                   case rel => exact ⟨(x5_3), (y355), (wrap64 (x7_1 + 1)), (x1001_105), (x1002_105), Z8_12, H', ⟨Z8_15⟩, ⟨Z8_4⟩, ⟨by (with_reducible repeat (first | apply Kd.R_alloc | apply Kd.R_drewN | apply Kd.R_drew)); exact HO357.out⟩, ⟨Z8_2⟩, ⟨Z8_1⟩, ⟨Z8_3⟩⟩
                  rw [if_neg c150] at H
                  exact absurd H (by simp))⟩
                 exact Nonempty.elim (inferInstanceAs (Nonempty (type_of% ?L12))) id
                replace c149 := Bool.eq_false_iff.mpr c149
                subst c149
                have H1 : (if (wrap64 (1 + t310)) ≥ (wrap64 (4 + t253)) then (if x6_1.length < 17592186044416 then (spec_l6DrawTables.l0 kj105 (wrap64 (4 + t253)) x5_3 (x6_1 ++ [x8_14]) (wrap64 (x7_1 + 1)) s0_0 x1001_105 x1002_105) else (none)) else (spec_l6DrawTables.l1 kj105 (wrap64 (4 + t253)) x5_3 x6_1 x7_1 x8_14 (wrap64 (1 + t310)) (wrap64 (x10_3 - 1)) s0_0 x1001_105 x1002_105)) = some (r1, r2, r3, r4) := by rw [if_neg (show ¬ (false = true) by decide)] at H; exact H
                clear H
                have H := H1
                clear H1
                by_cases c153 : (wrap64 (1 + t310)) ≥ (wrap64 (4 + t253))
                ·
                 refine ?L13
                 letI iL13 : Nonempty (type_of% ?L13) := ⟨(by
                  rw [if_pos c153] at H
                  have c153b0 : decide ((wrap64 (4 + t253)) ≤ (wrap64 (1 + t310))) = true := decide_eq_true c153
                  clear c153
                  by_cases c154 : x6_1.length < 17592186044416
                  ·rw [if_pos c154] at H
                   have LMc154 := Aside0.mk c154
                   clear c154
                   obtain ⟨y358, hy358⟩ : ∃ y_ : List Int, y_ = (x6_1 ++ [x8_14]) := ⟨_, rfl⟩
                   replace H : (spec_l6DrawTables.l0 kj105 (wrap64 (4 + t253)) x5_3 y358 (wrap64 (x7_1 + 1)) s0_0 x1001_105 x1002_105) = some (r1, r2, r3, r4) := by first | (rw [hy358]; with_reducible exact H) | (have H2_ := (Option.bind_some _ _).symm.trans H; rw [hy358]; with_reducible exact H2_) | (have H2_ := (Option.bind_some _ _).symm.trans H; with_reducible exact H2_) | with_reducible exact H | (rw [hy358]; exact H) | exact H
                   have Ny358 := Aside0.mk hy358
                   clear hy358
                   have H' := Aside0.mk H
                   clear H
                   go_wp2_with (first | ((with_reducible refine gate_callee (f := 89) rfl ?_); refine goesL_ (some 152) rfl rfl Try.func89 Z8_30 rfl #[.int .u64 t325, .int .i64 x10_3] rfl Z8_7 ?_; (with_reducible refine (spec_l6Kind.calls kj105 t325 x10_3 t337 _ A122.out).mono ?_); rintro e w155 ⟨rfl, hb⟩; refine ⟨_, rfl, ?_⟩; have n0_ := Aside0.mk (Kd.R_below Z8_4 hb); have n1_ := Aside0.mk (Kd.R_below Z8_5 hb); have n2_ := Aside0.mk (blk_below (g := gb298) (o := .cells #[.bool x299000_81, .bool x299001_81, .bool x299002_81, .bool x299003_81, .bool x299004_81, .bool x299005_81, .bool x299006_81, .bool x299007_81, .int .i64 x299008_81] 27 (0, 0)) Z8_6 hb); have n3_ := Aside0.mk (IsS116.below Z8_2 hb); have n4_ := Aside0.mk (KeepBut.trans Z8_1 (KeepBut.of_below hb g none) (.inl rfl)); have n5_ := Aside0.mk (below_step Z8_3 hb); clear HO_5; clear HO_6; clear BK298; clear HI0; clear HK; clear HB; have HO_5 := n0_; have HO_6 := n1_; have BK298 := n2_; have HI0 := n3_; have HK := n4_; have HB := n5_; clear n0_ n1_ n2_ n3_ n4_ n5_; (try clear hb); (try clear hb2); (try clear hk); (try clear hi)) | ((with_reducible refine gate_builtin (b := .append) (xs := #[.tmp 170, .tmp 172]) rfl ?_); at_builtin; refine Kd.R_append (Kd.int .i64) w.heap.size rfl (.tmp 170) (.tmp 172) 88 2 (.int .i64 0) 8 rfl Try.underlying88 info2 rfl Z8_32 (by omega) u6 x6_1 x8_14 [.int .i64 x8_14] (fun _ => True) (fun _ => False) rfl rfl ?aP (fun _ hk => hk.elim) ?aF ?aO (Below.refl _ _) ?aS ?aL ?_; (case aP => exact rfl); (case aF => exact (fun _ _ => trivial)); (case aO => exact Z8_5); (case aS => exact (keep_size (w := w) (g := g) (row := none) Z8_1)); (case aL => have := LMc154.out; omega); intro v359 w156 ho hb hg hat; rw [← Ny358.out] at ho; have n0_ := Aside0.mk (Kd.R_over' Z8_4 (Kd.R_typed Z8_5) Z8_32 hg); have n1_ := Aside0.mk (blk_grown (g := gb298) (o := .cells #[.bool x299000_81, .bool x299001_81, .bool x299002_81, .bool x299003_81, .bool x299004_81, .bool x299005_81, .bool x299006_81, .bool x299007_81, .int .i64 x299008_81] 27 (0, 0)) Z8_6 hg (Kd.R_ne HO_6.out BK298.out Z8_32)); have n2_ := Aside0.mk (IsS116.grown Z8_2 hg (IsS116.own_ne HI0.out HO_6.out Z8_32)); have n3_ := Aside0.mk (below_weaken Z8_3 HL.out hb); have n4_ := Aside0.mk (KeepBut.trans Z8_1 (KeepBut.of_grown hg g) (Kd.R_base2 HO_6.out)); have n5_ := Aside0.mk (ho); clear HO_5; clear BK298; clear HI0; clear HB; clear HK; clear HO_6; have HO_5 := n0_; have BK298 := n1_; have HI0 := n2_; have HB := n3_; have HK := n4_; have HO360 := n5_; clear n0_ n1_ n2_ n3_ n4_ n5_; clear ho hb hg hat))
                   go_roundg kj105
                   case measure => have := HK1.out; have := HJ14.out; have := HK3.out; have := HJ28.out; have := HJ33.out; have := HJ44.out; have := HJ48.out; have := HJ53.out; have := HJ81.out; have := HJ95.out; have := HJ105.out; omega
                   case rel => exact ⟨(x5_3), (y358), (wrap64 (x7_1 + 1)), (x1001_105), (x1002_105), Z8_12, H', ⟨Z8_15⟩, ⟨Z8_4⟩, ⟨by (with_reducible repeat (first | apply Kd.R_alloc | apply Kd.R_drewN | apply Kd.R_drew)); exact HO360.out⟩, ⟨Z8_2⟩, ⟨Z8_1⟩, ⟨Z8_3⟩⟩
                  rw [if_neg c154] at H
                  exact absurd H (by simp))⟩
                 exact Nonempty.elim (inferInstanceAs (Nonempty (type_of% ?L13))) id
                rw [if_neg c153] at H
                have c153b0 : decide ((wrap64 (4 + t253)) ≤ (wrap64 (1 + t310))) = false := decide_eq_false c153
                clear c153
                have H' := Aside0.mk H
                clear H
                go_wp2_with (first | ((with_reducible refine gate_callee (f := 89) rfl ?_); refine goesL_ (some 152) rfl rfl Try.func89 Z8_30 rfl #[.int .u64 t325, .int .i64 x10_3] rfl Z8_7 ?_; (with_reducible refine (spec_l6Kind.calls kj105 t325 x10_3 t337 _ A122.out).mono ?_); rintro e w157 ⟨rfl, hb⟩; refine ⟨_, rfl, ?_⟩; have n0_ := Aside0.mk (Kd.R_below Z8_4 hb); have n1_ := Aside0.mk (Kd.R_below Z8_5 hb); have n2_ := Aside0.mk (blk_below (g := gb298) (o := .cells #[.bool x299000_81, .bool x299001_81, .bool x299002_81, .bool x299003_81, .bool x299004_81, .bool x299005_81, .bool x299006_81, .bool x299007_81, .int .i64 x299008_81] 27 (0, 0)) Z8_6 hb); have n3_ := Aside0.mk (IsS116.below Z8_2 hb); have n4_ := Aside0.mk (KeepBut.trans Z8_1 (KeepBut.of_below hb g none) (.inl rfl)); have n5_ := Aside0.mk (below_step Z8_3 hb); clear HO_5; clear HO_6; clear BK298; clear HI0; clear HK; clear HB; have HO_5 := n0_; have HO_6 := n1_; have BK298 := n2_; have HI0 := n3_; have HK := n4_; have HB := n5_; clear n0_ n1_ n2_ n3_ n4_ n5_; (try clear hb); (try clear hb2); (try clear hk); (try clear hi)))
                go_roundg kj105
                case measure => have := HK1.out; have := HJ14.out; have := HK3.out; have := HJ28.out; have := HJ33.out; have := HJ44.out; have := HJ48.out; have := HJ53.out; have := HJ81.out; have := HJ95.out; have := HJ105.out; omega
                case rel => exact ⟨(x5_3), ((wrap64 (1 + t310))), (wrap64 (x10_3 - 1)), (x1001_105), (x1002_105), Z8_12, Z8_12, H', ⟨Z8_15⟩, ⟨Z8_4⟩, ⟨Z8_5⟩, ⟨Z8_2⟩, ⟨Z8_1⟩, ⟨Z8_3⟩⟩
       rw [if_neg c26] at H
       have c26b0 : decide (0 ≤ x10_3) = false := decide_eq_false c26
       clear c26
       by_cases c158 : x6_1.length < 17592186044416
       ·
        refine ?L14
        letI iL14 : Nonempty (type_of% ?L14) := ⟨(by
         rw [if_pos c158] at H
         have LMc158 := Aside0.mk c158
         clear c158
         obtain ⟨y280, hy280⟩ : ∃ y_ : List Int, y_ = (x6_1 ++ [x8_14]) := ⟨_, rfl⟩
         replace H : (spec_l6DrawTables.l0 k3 (wrap64 (4 + t253)) x5_3 y280 (wrap64 (x7_1 + 1)) s0_0 x1001_3 x1002_3) = some (r1, r2, r3, r4) := by first | (rw [hy280]; with_reducible exact H) | (have H2_ := (Option.bind_some _ _).symm.trans H; rw [hy280]; with_reducible exact H2_) | (have H2_ := (Option.bind_some _ _).symm.trans H; with_reducible exact H2_) | with_reducible exact H | (rw [hy280]; exact H) | exact H
         have Ny280 := Aside0.mk hy280
         clear hy280
         have H' := Aside0.mk H
         clear H
         go_wp2_with (first | ((with_reducible refine gate_builtin (b := .append) (xs := #[.tmp 170, .tmp 172]) rfl ?_); at_builtin; refine Kd.R_append (Kd.int .i64) w.heap.size rfl (.tmp 170) (.tmp 172) 88 2 (.int .i64 0) 8 rfl Try.underlying88 info2 rfl Z8_32 (by omega) u6 x6_1 x8_14 [.int .i64 x8_14] (fun _ => True) (fun _ => False) rfl rfl ?aP (fun _ hk => hk.elim) ?aF ?aO (Below.refl _ _) ?aS ?aL ?_; (case aP => exact rfl); (case aF => exact (fun _ _ => trivial)); (case aO => exact Z8_5); (case aS => exact (keep_size (w := w) (g := g) (row := none) Z8_9)); (case aL => have := LMc158.out; omega); intro v281 w159 ho hb hg hat; rw [← Ny280.out] at ho; have n0_ := Aside0.mk (Kd.R_over' Z8_4 (Kd.R_typed Z8_5) Z8_32 hg); have n1_ := Aside0.mk (IsS116.grown Z8_10 hg (IsS116.own_ne HI0.out HO_6.out Z8_32)); have n2_ := Aside0.mk (below_weaken Z8_11 HL.out hb); have n3_ := Aside0.mk (KeepBut.trans Z8_9 (KeepBut.of_grown hg g) (Kd.R_base2 HO_6.out)); have n4_ := Aside0.mk (ho); clear HO_5; clear HI0; clear HB; clear HK; clear HO_6; have HO_5 := n0_; have HI0 := n1_; have HB := n2_; have HK := n3_; have HO282 := n4_; clear n0_ n1_ n2_ n3_ n4_; clear ho hb hg hat))
         go_roundg k3
         case measure => have := HK1.out; have := HJ14.out; have := HK3.out; omega
         case rel => exact ⟨(x5_3), (y280), (wrap64 (x7_1 + 1)), (x1001_3), (x1002_3), Z8_12, H', ⟨by have := HK1.out; have := HJ14.out; have := HK3.out; omega⟩, ⟨Z8_4⟩, ⟨by (with_reducible repeat (first | apply Kd.R_alloc | apply Kd.R_drewN | apply Kd.R_drew)); exact HO282.out⟩, ⟨Z8_10⟩, ⟨Z8_9⟩, ⟨Z8_11⟩⟩)⟩
        exact Nonempty.elim (inferInstanceAs (Nonempty (type_of% ?L14))) id
       rw [if_neg c158] at H
       exact absurd H (by simp)
    rw [if_neg c12] at H
    have c12b0 : decide (x7_1 < (wrap64 (2 + t262))) = false := decide_eq_false c12
    clear c12
    simp only [Option.some.injEq, Prod.mk.injEq] at H
    obtain ⟨rfl, rfl, rfl, rfl⟩ := H
    go_wp2_with (first | ((with_reducible refine gate_callee (f := 61) rfl ?_); refine goesL_ (some 31) rfl rfl Try.func61 Z8_30 rfl #[.pointer (some ⟨g, 0, none⟩), .int .i64 8] rfl Z8_7 ?_; (with_reducible refine (spec_l1Below.calls g s0_0 x1001_1 x1002_1 8 t262 t263 t264 w0 _ ?side1 ?side2 A11.out).mono ?_); (case side1 => exact Z8_10); (case side2 => exact Z8_11); rintro e w160 ⟨rfl, hi, hb, hk⟩; refine ⟨_, rfl, ?_⟩; have n0_ := Aside0.mk (Kd.R_mono (Kd.R_keep (IsS116.apart (show IsS116 w0 _ g s0_0 x1001_1 x1002_1 from by repeat (first | (with_reducible first | exact HI0.out | apply IsS116.alloc | apply IsS116.drewN | apply IsS116.drew | apply IsS116.set_1 | apply IsS116.set_2) | exact HI0.out)) Z8_4 Z8_32) hk (fun _ h => h.2)) (fun _ h => h.1)); have n1_ := Aside0.mk (Kd.R_mono (Kd.R_keep (IsS116.apart (show IsS116 w0 _ g s0_0 x1001_1 x1002_1 from by repeat (first | (with_reducible first | exact HI0.out | apply IsS116.alloc | apply IsS116.drewN | apply IsS116.drew | apply IsS116.set_1 | apply IsS116.set_2) | exact HI0.out)) Z8_5 Z8_32) hk (fun _ h => h.2)) (fun _ h => h.1)); have n2_ := Aside0.mk (KeepBut.trans Z8_9 hk (.inl rfl)); have n3_ := Aside0.mk (hb); have n4_ := Aside0.mk (hi); clear HO_5; clear HO_6; clear HK; clear HB; clear HI0; have HO_5 := n0_; have HO_6 := n1_; have HK := n2_; have HB := n3_; have HI0 := n4_; clear n0_ n1_ n2_ n3_ n4_; (try clear hb); (try clear hb2); (try clear hk); (try clear hi)))
    go_ret2
    exact ⟨_, _, by first | rfl | (simp [errW_none, errW_some] <;> rfl) | (simp only [← hji3]; first | rfl | (simp [errW_none, errW_some] <;> rfl)) | (simp [*, errW_none, errW_some] <;> rfl), Z8_4, Z8_5, Z8_10, Z8_11, Z8_9⟩
  rw [if_neg c5] at H
  exact absurd H (by simp)
 rw [if_neg c4] at H
 exact absurd H (by simp)
end Go.Proofs.Ytdhafphhkokniaa.PFnLeavesFound
