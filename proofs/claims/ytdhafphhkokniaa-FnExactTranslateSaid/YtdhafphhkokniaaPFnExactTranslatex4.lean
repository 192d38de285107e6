-- Written by a program of this session out of the translation. Not trusted: Lean checks it.
import Derived.Test.YtdhafphhkokniaaPFnExactTranslatex0
import Derived.Test.YtdhafphhkokniaaPFnExactTranslatex1
import Derived.Test.YtdhafphhkokniaaPFnExactTranslatex2
import Derived.Test.YtdhafphhkokniaaPFnExactTranslatex3
namespace Go.Proofs.Ytdhafphhkokniaa.PFnExactTranslate
open Go.RowKit Go.Proofs.YtdhafphhkokniaaW.PrintWords Go.Proofs.YtdhafphhkokniaaW.PrintLast Go.Proofs.YtdhafphhkokniaaW.PrintMore
attribute [local go_sem] max2_int min2_int max_two min_two max_three min_three max_four min_four   -- for this text's walks alone
set_option linter.unusedVariables false
set_option linter.unusedSimpArgs false

/-! ### spec_l6Walk: function 52 -/
mutual
def spec_l6Walk.j0 : Nat → List Int → Int → Int → Int → Int → Bool → Bool → Int → Int → Int → Int → Int → Option (Int × Int × Int × Int × Int)
  | 0, _, _, _, _, _, _, _, _, _, _, _, _ => none
  | k + 1, x0, x1, x2, x3, x4, x5, x30, x144000, x144001, x144002, x144003, x144004 => if x30 = true then (some (3, x144001, x144002, x144003, x144004)) else ((spec_l6Pages.f k x2).bind fun t144 => (if (wrap64 (256 * t144)) = 0 then (none) else (if 0 ≤ (wrap64 ((wrap64 (x1 * 256)) + (wrap64 (8 * (Int.tmod (wrap64 (Int.tdiv x3 (wrap64 (256 * t144)))) 32))))) then (if (wrap64 ((wrap64 (x1 * 256)) + (wrap64 (8 * (Int.tmod (wrap64 (Int.tdiv x3 (wrap64 (256 * t144)))) 32))))) ≤ (wrap64 ((wrap64 ((wrap64 (x1 * 256)) + (wrap64 (8 * (Int.tmod (wrap64 (Int.tdiv x3 (wrap64 (256 * t144)))) 32))))) + 8)) then (if (wrap64 ((wrap64 ((wrap64 (x1 * 256)) + (wrap64 (8 * (Int.tmod (wrap64 (Int.tdiv x3 (wrap64 (256 * t144)))) 32))))) + 8)) ≤ (x0.length : Int) then ((spec_LoadWord.f k ((x0.take ((wrap64 ((wrap64 ((wrap64 (x1 * 256)) + (wrap64 (8 * (Int.tmod (wrap64 (Int.tdiv x3 (wrap64 (256 * t144)))) 32))))) + 8)) : Int).toNat).drop ((wrap64 ((wrap64 (x1 * 256)) + (wrap64 (8 * (Int.tmod (wrap64 (Int.tdiv x3 (wrap64 (256 * t144)))) 32))))) : Int).toNat) 0 8 false).bind fun bt146 => ((spec_l6Kind.f k bt146.1 x2).bind fun t148 => (if t148 < 0 then (some (wrap64 (-t148), x144001, wrap64 ((wrap64 (x1 * 256)) + (wrap64 (8 * (Int.tmod (wrap64 (Int.tdiv x3 (wrap64 (256 * t144)))) 32)))), x144003, x144004)) else ((spec_GetEntry.f k bt146.1).bind fun bt149 => (if t148 = 0 then ((spec_l6Walk.f k x0 bt149.2.2.2.2.2.2.2.2.1 (wrap64 (x2 - 1)) x3 x4 x5).bind fun bt160 => (some (bt160.1, bt160.2.1, bt160.2.2.1, bt160.2.2.2.1, bt160.2.2.2.2))) else (if x5 = true then (spec_l6Walk.j1 k x3 x4 (wrap64 (256 * t144)) (!bt149.2.2.2.2.1) x144000 x144001 (wrap64 ((wrap64 (x1 * 256)) + (wrap64 (8 * (Int.tmod (wrap64 (Int.tdiv x3 (wrap64 (256 * t144)))) 32))))) x144003 x144004 bt149.1 bt149.2.1 bt149.2.2.1 bt149.2.2.2.1 bt149.2.2.2.2.1 bt149.2.2.2.2.2.1 bt149.2.2.2.2.2.2.1 bt149.2.2.2.2.2.2.2.1 bt149.2.2.2.2.2.2.2.2.1) else (spec_l6Walk.j1 k x3 x4 (wrap64 (256 * t144)) false x144000 x144001 (wrap64 ((wrap64 (x1 * 256)) + (wrap64 (8 * (Int.tmod (wrap64 (Int.tdiv x3 (wrap64 (256 * t144)))) 32))))) x144003 x144004 bt149.1 bt149.2.1 bt149.2.2.1 bt149.2.2.2.1 bt149.2.2.2.2.1 bt149.2.2.2.2.2.1 bt149.2.2.2.2.2.2.1 bt149.2.2.2.2.2.2.2.1 bt149.2.2.2.2.2.2.2.2.1))))))) else (none)) else (none)) else (none))))
def spec_l6Walk.j1 : Nat → Int → Int → Int → Bool → Int → Int → Int → Int → Int → Bool → Bool → Bool → Bool → Bool → Bool → Bool → Bool → Int → Option (Int × Int × Int × Int × Int)
  | 0, _, _, _, _, _, _, _, _, _, _, _, _, _, _, _, _, _, _ => none
  | k + 1, x3, x4, x14, x86, x144000, x144001, x144002, x144003, x144004, x160000, x160001, x160002, x160003, x160004, x160005, x160006, x160007, x160008 => if x86 = true then (some (7, x144001, x144002, x144003, x144004)) else (if x4 = 0 then (if x160001 = true then (if x4 = 1 then (if x160002 = true then (if x4 = 2 then (spec_l6Walk.j2 k x3 x4 x14 (!x160003) x144000 x144001 x144002 x144003 x144004 x160000 x160001 x160002 x160003 x160004 x160005 x160006 x160007 x160008) else (spec_l6Walk.j2 k x3 x4 x14 false x144000 x144001 x144002 x144003 x144004 x160000 x160001 x160002 x160003 x160004 x160005 x160006 x160007 x160008)) else (spec_l6Walk.j2 k x3 x4 x14 true x144000 x144001 x144002 x144003 x144004 x160000 x160001 x160002 x160003 x160004 x160005 x160006 x160007 x160008)) else (if x4 = 2 then (spec_l6Walk.j2 k x3 x4 x14 (!x160003) x144000 x144001 x144002 x144003 x144004 x160000 x160001 x160002 x160003 x160004 x160005 x160006 x160007 x160008) else (spec_l6Walk.j2 k x3 x4 x14 false x144000 x144001 x144002 x144003 x144004 x160000 x160001 x160002 x160003 x160004 x160005 x160006 x160007 x160008))) else (spec_l6Walk.j2 k x3 x4 x14 true x144000 x144001 x144002 x144003 x144004 x160000 x160001 x160002 x160003 x160004 x160005 x160006 x160007 x160008)) else (if x4 = 1 then (if x160002 = true then (if x4 = 2 then (spec_l6Walk.j2 k x3 x4 x14 (!x160003) x144000 x144001 x144002 x144003 x144004 x160000 x160001 x160002 x160003 x160004 x160005 x160006 x160007 x160008) else (spec_l6Walk.j2 k x3 x4 x14 false x144000 x144001 x144002 x144003 x144004 x160000 x160001 x160002 x160003 x160004 x160005 x160006 x160007 x160008)) else (spec_l6Walk.j2 k x3 x4 x14 true x144000 x144001 x144002 x144003 x144004 x160000 x160001 x160002 x160003 x160004 x160005 x160006 x160007 x160008)) else (if x4 = 2 then (spec_l6Walk.j2 k x3 x4 x14 (!x160003) x144000 x144001 x144002 x144003 x144004 x160000 x160001 x160002 x160003 x160004 x160005 x160006 x160007 x160008) else (spec_l6Walk.j2 k x3 x4 x14 false x144000 x144001 x144002 x144003 x144004 x160000 x160001 x160002 x160003 x160004 x160005 x160006 x160007 x160008))))
def spec_l6Walk.j2 : Nat → Int → Int → Int → Bool → Int → Int → Int → Int → Int → Bool → Bool → Bool → Bool → Bool → Bool → Bool → Bool → Int → Option (Int × Int × Int × Int × Int)
  | 0, _, _, _, _, _, _, _, _, _, _, _, _, _, _, _, _, _, _ => none
  | k + 1, x3, x4, x14, x113, x144000, x144001, x144002, x144003, x144004, x160000, x160001, x160002, x160003, x160004, x160005, x160006, x160007, x160008 => if x113 = true then (some (8, x144001, x144002, x144003, x144004)) else (if x4 = 1 then ((spec_PutEntry.f k x160000 x160001 x160002 x160003 x160004 true true x160007 x160008).bind fun bt165 => (if x14 = 0 then (none) else (some (x144000, x144001, x144002, wrap64 ((wrap64 (x160008 * 256)) + (Int.tmod x3 x14)), bt165.1)))) else ((spec_PutEntry.f k x160000 x160001 x160002 x160003 x160004 true x160006 x160007 x160008).bind fun bt167 => (if x14 = 0 then (none) else (some (x144000, x144001, x144002, wrap64 ((wrap64 (x160008 * 256)) + (Int.tmod x3 x14)), bt167.1)))))
def spec_l6Walk.f : Nat → List Int → Int → Int → Int → Int → Bool → Option (Int × Int × Int × Int × Int)
  | 0, _, _, _, _, _, _ => none
  | k + 1, l0, a1, a2, a3, a4, a5 => if a1 < 0 then (spec_l6Walk.j0 k l0 a1 a2 a3 a4 a5 true 0 a2 0 0 0) else (spec_l6Walk.j0 k l0 a1 a2 a3 a4 a5 (decide (a1 ≥ (wrap64 ((l0.length : Int) / 256)))) 0 a2 0 0 0)
end
theorem spec_l6Walk.mono_l : ∀ k, (∀ y0 y1 y2 y3 y4 y5, LeO (spec_l6Walk.f k y0 y1 y2 y3 y4 y5) (spec_l6Walk.f (k + 1) y0 y1 y2 y3 y4 y5)) ∧ (∀ y0 y1 y2 y3 y4 y5 y6 y7 y8 y9 y10 y11, LeO (spec_l6Walk.j0 k y0 y1 y2 y3 y4 y5 y6 y7 y8 y9 y10 y11) (spec_l6Walk.j0 (k + 1) y0 y1 y2 y3 y4 y5 y6 y7 y8 y9 y10 y11)) ∧ (∀ y0 y1 y2 y3 y4 y5 y6 y7 y8 y9 y10 y11 y12 y13 y14 y15 y16 y17, LeO (spec_l6Walk.j1 k y0 y1 y2 y3 y4 y5 y6 y7 y8 y9 y10 y11 y12 y13 y14 y15 y16 y17) (spec_l6Walk.j1 (k + 1) y0 y1 y2 y3 y4 y5 y6 y7 y8 y9 y10 y11 y12 y13 y14 y15 y16 y17)) ∧ (∀ y0 y1 y2 y3 y4 y5 y6 y7 y8 y9 y10 y11 y12 y13 y14 y15 y16 y17, LeO (spec_l6Walk.j2 k y0 y1 y2 y3 y4 y5 y6 y7 y8 y9 y10 y11 y12 y13 y14 y15 y16 y17) (spec_l6Walk.j2 (k + 1) y0 y1 y2 y3 y4 y5 y6 y7 y8 y9 y10 y11 y12 y13 y14 y15 y16 y17))
  | 0 => ⟨fun _ _ _ _ _ _ r h => by simp [spec_l6Walk.f] at h, fun _ _ _ _ _ _ _ _ _ _ _ _ r h => by simp [spec_l6Walk.j0] at h, fun _ _ _ _ _ _ _ _ _ _ _ _ _ _ _ _ _ _ r h => by simp [spec_l6Walk.j1] at h, fun _ _ _ _ _ _ _ _ _ _ _ _ _ _ _ _ _ _ r h => by simp [spec_l6Walk.j2] at h⟩
  | k + 1 => by
    obtain ⟨ih0, ih1, ih2, ih3⟩ := spec_l6Walk.mono_l k
    refine ⟨?_, ?_, ?_, ?_⟩
    · intro y0 y1 y2 y3 y4 y5
      unfold spec_l6Walk.f
      repeat' first
      | (with_reducible exact ih0 _ _ _ _ _ _)
      | (with_reducible exact ih1 _ _ _ _ _ _ _ _ _ _ _ _)
      | (with_reducible exact ih2 _ _ _ _ _ _ _ _ _ _ _ _ _ _ _ _ _ _)
      | (with_reducible exact ih3 _ _ _ _ _ _ _ _ _ _ _ _ _ _ _ _ _ _)
      | (with_reducible exact spec_GetEntry.mono _ _)
      | (with_reducible exact spec_LoadWord.mono _ _ _ _ _)
      | (with_reducible exact spec_PutEntry.mono _ _ _ _ _ _ _ _ _ _)
      | (with_reducible exact spec_l6Kind.mono _ _ _)
      | (with_reducible exact spec_l6Pages.mono _ _)
      | (with_reducible exact LeO.refl _)
      | (with_reducible exact LeO.none _)
      | (with_reducible refine LeO.ite ?_ ?_)
      | (with_reducible refine LeO.bind ?_ (fun _ => ?_))
      | exact ih0 _ _ _ _ _ _
      | exact ih1 _ _ _ _ _ _ _ _ _ _ _ _
      | exact ih2 _ _ _ _ _ _ _ _ _ _ _ _ _ _ _ _ _ _
      | exact ih3 _ _ _ _ _ _ _ _ _ _ _ _ _ _ _ _ _ _
      | exact spec_GetEntry.mono _ _
      | exact spec_LoadWord.mono _ _ _ _ _
      | exact spec_PutEntry.mono _ _ _ _ _ _ _ _ _ _
      | exact spec_l6Kind.mono _ _ _
      | exact spec_l6Pages.mono _ _
      | exact LeO.none _
      | refine LeO.ite ?_ ?_
      | refine LeO.bind ?_ (fun _ => ?_)
    · intro y0 y1 y2 y3 y4 y5 y6 y7 y8 y9 y10 y11
      unfold spec_l6Walk.j0
      repeat' first
      | (with_reducible exact ih0 _ _ _ _ _ _)
      | (with_reducible exact ih1 _ _ _ _ _ _ _ _ _ _ _ _)
      | (with_reducible exact ih2 _ _ _ _ _ _ _ _ _ _ _ _ _ _ _ _ _ _)
      | (with_reducible exact ih3 _ _ _ _ _ _ _ _ _ _ _ _ _ _ _ _ _ _)
      | (with_reducible exact spec_GetEntry.mono _ _)
      | (with_reducible exact spec_LoadWord.mono _ _ _ _ _)
      | (with_reducible exact spec_PutEntry.mono _ _ _ _ _ _ _ _ _ _)
      | (with_reducible exact spec_l6Kind.mono _ _ _)
      | (with_reducible exact spec_l6Pages.mono _ _)
      | (with_reducible exact LeO.refl _)
      | (with_reducible exact LeO.none _)
      | (with_reducible refine LeO.ite ?_ ?_)
      | (with_reducible refine LeO.bind ?_ (fun _ => ?_))
      | exact ih0 _ _ _ _ _ _
      | exact ih1 _ _ _ _ _ _ _ _ _ _ _ _
      | exact ih2 _ _ _ _ _ _ _ _ _ _ _ _ _ _ _ _ _ _
      | exact ih3 _ _ _ _ _ _ _ _ _ _ _ _ _ _ _ _ _ _
      | exact spec_GetEntry.mono _ _
      | exact spec_LoadWord.mono _ _ _ _ _
      | exact spec_PutEntry.mono _ _ _ _ _ _ _ _ _ _
      | exact spec_l6Kind.mono _ _ _
      | exact spec_l6Pages.mono _ _
      | exact LeO.none _
      | refine LeO.ite ?_ ?_
      | refine LeO.bind ?_ (fun _ => ?_)
    · intro y0 y1 y2 y3 y4 y5 y6 y7 y8 y9 y10 y11 y12 y13 y14 y15 y16 y17
      unfold spec_l6Walk.j1
      repeat' first
      | (with_reducible exact ih0 _ _ _ _ _ _)
      | (with_reducible exact ih1 _ _ _ _ _ _ _ _ _ _ _ _)
      | (with_reducible exact ih2 _ _ _ _ _ _ _ _ _ _ _ _ _ _ _ _ _ _)
      | (with_reducible exact ih3 _ _ _ _ _ _ _ _ _ _ _ _ _ _ _ _ _ _)
      | (with_reducible exact spec_GetEntry.mono _ _)
      | (with_reducible exact spec_LoadWord.mono _ _ _ _ _)
      | (with_reducible exact spec_PutEntry.mono _ _ _ _ _ _ _ _ _ _)
      | (with_reducible exact spec_l6Kind.mono _ _ _)
      | (with_reducible exact spec_l6Pages.mono _ _)
      | (with_reducible exact LeO.refl _)
      | (with_reducible exact LeO.none _)
      | (with_reducible refine LeO.ite ?_ ?_)
      | (with_reducible refine LeO.bind ?_ (fun _ => ?_))
      | exact ih0 _ _ _ _ _ _
      | exact ih1 _ _ _ _ _ _ _ _ _ _ _ _
      | exact ih2 _ _ _ _ _ _ _ _ _ _ _ _ _ _ _ _ _ _
      | exact ih3 _ _ _ _ _ _ _ _ _ _ _ _ _ _ _ _ _ _
      | exact spec_GetEntry.mono _ _
      | exact spec_LoadWord.mono _ _ _ _ _
      | exact spec_PutEntry.mono _ _ _ _ _ _ _ _ _ _
      | exact spec_l6Kind.mono _ _ _
      | exact spec_l6Pages.mono _ _
      | exact LeO.none _
      | refine LeO.ite ?_ ?_
      | refine LeO.bind ?_ (fun _ => ?_)
    · intro y0 y1 y2 y3 y4 y5 y6 y7 y8 y9 y10 y11 y12 y13 y14 y15 y16 y17
      unfold spec_l6Walk.j2
      repeat' first
      | (with_reducible exact ih0 _ _ _ _ _ _)
      | (with_reducible exact ih1 _ _ _ _ _ _ _ _ _ _ _ _)
      | (with_reducible exact ih2 _ _ _ _ _ _ _ _ _ _ _ _ _ _ _ _ _ _)
      | (with_reducible exact ih3 _ _ _ _ _ _ _ _ _ _ _ _ _ _ _ _ _ _)
      | (with_reducible exact spec_GetEntry.mono _ _)
      | (with_reducible exact spec_LoadWord.mono _ _ _ _ _)
      | (with_reducible exact spec_PutEntry.mono _ _ _ _ _ _ _ _ _ _)
      | (with_reducible exact spec_l6Kind.mono _ _ _)
      | (with_reducible exact spec_l6Pages.mono _ _)
      | (with_reducible exact LeO.refl _)
      | (with_reducible exact LeO.none _)
      | (with_reducible refine LeO.ite ?_ ?_)
      | (with_reducible refine LeO.bind ?_ (fun _ => ?_))
      | exact ih0 _ _ _ _ _ _
      | exact ih1 _ _ _ _ _ _ _ _ _ _ _ _
      | exact ih2 _ _ _ _ _ _ _ _ _ _ _ _ _ _ _ _ _ _
      | exact ih3 _ _ _ _ _ _ _ _ _ _ _ _ _ _ _ _ _ _
      | exact spec_GetEntry.mono _ _
      | exact spec_LoadWord.mono _ _ _ _ _
      | exact spec_PutEntry.mono _ _ _ _ _ _ _ _ _ _
      | exact spec_l6Kind.mono _ _ _
      | exact spec_l6Pages.mono _ _
      | exact LeO.none _
      | refine LeO.ite ?_ ?_
      | refine LeO.bind ?_ (fun _ => ?_)
theorem spec_l6Walk.mono : ∀ a0 a1 a2 a3 a4 a5 k, LeO (spec_l6Walk.f k a0 a1 a2 a3 a4 a5) (spec_l6Walk.f (k + 1) a0 a1 a2 a3 a4 a5) := by
  intro a0 a1 a2 a3 a4 a5 k
  obtain ⟨ih0, ih1, ih2, ih3⟩ := spec_l6Walk.mono_l k
  exact ih0 a0 a1 a2 a3 a4 a5
def spec_l6Walk.T25 : Bool × List (List Nat × List Nat) := (true, [([], []), ([0], [0]), ([1], [1]), ([], []), ([], []), ([3, 4], [3, 4]), ([2, 5], [2, 5]), ([0, 1, 2, 3, 4, 5, 6], []), ([7, 6, 0, 1, 2, 3, 4, 5, 6], [6, 7])])
def spec_l6Walk.B25 : List Nat := [0, 1, 3, 0, 0, 24, 63, 127, 255]
theorem spec_l6Walk.tab25 : rtab .any (opsOf Try.f52 25) = spec_l6Walk.T25 := by kernel_rfl
theorem spec_l6Walk.bits25 : waitsOk spec_l6Walk.T25.2 spec_l6Walk.B25 = true := by kernel_rfl
set_option maxHeartbeats 8000000 in
set_option maxRecDepth 100000 in
theorem spec_l6Walk.calls (k : Nat) : ∀ (A0 : Option Addr) (c0 : Nat) (l0 : List Int) (a1 : Int) (a2 : Int) (a3 : Int) (a4 : Int) (a5 : Bool) (r1 : Int) (r2 : Int) (r3 : Int) (r4 : Int) (r5 : Int) (w : World) (hr0 : Kd.C (Kd.int .u8) w A0 l0.length l0) (hc0 : l0.length ≤ c0) (h : spec_l6Walk.f k l0 a1 a2 a3 a4 a5 = some (r1, r2, r3, r4, r5)),
    Calls Try.prog 52 #[.slice A0 l0.length c0, .int .i64 a1, .int .i64 a2, .int .i64 a3, .int .i64 a4, .bool a5] w fun e w' => e = .returned (.agg #[.int .i64 r1, .int .i64 r2, .int .i64 r3, .int .i64 r4, .int .u64 r5]) ∧ Below w.heap.size w w' := by
  induction k using Nat.strongRecOn with
  | _ k ih =>
  intro A0 c0 l0 a1 a2 a3 a4 a5 r1 r2 r3 r4 r5 w hr0 hc0 h
  cases k with
  | zero => exact absurd h (by simp [spec_l6Walk.f])
  | succ k =>
  simp only [spec_l6Walk.f] at h
  have hu36 := Try.underlying36
  have hu27 := Try.underlying27
  have HR0 := Aside0.mk hr0
  have HC0 := Aside0.mk hc0
  clear hr0 hc0
  have HB := Aside0.mk (Below.refl w.heap.size w)
  have H : (if a1 < 0 then (spec_l6Walk.j0 k l0 a1 a2 a3 a4 a5 true 0 a2 0 0 0) else (spec_l6Walk.j0 k l0 a1 a2 a3 a4 a5 (decide (a1 ≥ (wrap64 ((l0.length : Int) / 256)))) 0 a2 0 0 0)) = some (r1, r2, r3, r4, r5) := h
  clear h
  have HC7 := Aside0.mk H
  clear H
  go_enter Try.func52, Try.ntmps52
  go_upto_region 2 with (first | ((with_reducible refine gate_dst (N := 12) rfl ?_); (try (refine gate_guard (by rfl) ?_; dsimp only)); refine box_event ?hg (N := 12) ?hd (cs := #[.int .i64 0, .int .i64 0, .int .i64 0, .int .i64 0, .int .u64 0]) (t := 36) ?hr ?_; (case hd => rfl); (case hg => rfl); (case hr => first | (go_simp; done) | (go_simp; rfl)); intro gb142 hg w8 hbox hb; have n0_ := Aside0.mk (below_step (by repeat (first | (with_reducible first | exact HB.out | apply below_alloc | apply pw_below_drewN | apply below_drew1) | exact HB.out)) hb); have n1_ := Aside0.mk (hbox); have n2_ := Aside0.mk ((by rw [hg]; exact (below_size (by repeat (first | (with_reducible first | exact HB.out | apply below_alloc | apply pw_below_drewN | apply below_drew1) | exact HB.out))) : w.heap.size ≤ gb142)); have n3_ := Aside0.mk ((by rw [hg]; exact (below_size (by repeat (first | (with_reducible first | exact HB.out | apply below_alloc | apply pw_below_drewN | apply below_drew1) | exact HB.out))) : w.heap.size ≤ gb142)); clear HB; have HB := n0_; have BK142 := n1_; have GW142 := n2_; have GE142 := n3_; clear n0_ n1_ n2_ n3_; clear hb hbox hg) | ((with_reducible refine gate_dst (N := 13) rfl ?_); (try (refine gate_guard (by rfl) ?_; dsimp only)); refine box_event ?hg (N := 13) ?hd (cs := #[.int .i64 0, .int .i64 0, .int .i64 0, .int .i64 0, .int .u64 0]) (t := 36) ?hr ?_; (case hd => rfl); (case hg => rfl); (case hr => first | (go_simp; done) | (go_simp; rfl)); intro gb143 hg w9 hbox hb; have n0_ := Aside0.mk (blk_below (g := gb142) (o := .cells #[.int .i64 0, .int .i64 0, .int .i64 0, .int .i64 0, .int .u64 0] 36 (0, 0)) (by (with_reducible repeat (first | refine blk_drewN ?_ _ | refine blk_drew ?_ | refine blk_alloc ?_ _)); exact BK142.out) hb); have n1_ := Aside0.mk (below_step (by repeat (first | (with_reducible first | exact HB.out | apply below_alloc | apply pw_below_drewN | apply below_drew1 | refine below_set ?_ GE142.out) | exact HB.out)) hb); have n2_ := Aside0.mk (hbox); have n3_ := Aside0.mk ((by rw [hg]; exact (below_size (by repeat (first | (with_reducible first | exact HB.out | apply below_alloc | apply pw_below_drewN | apply below_drew1 | refine below_set ?_ GE142.out) | exact HB.out))) : w.heap.size ≤ gb143)); have n4_ := Aside0.mk ((by rw [hg]; exact (below_size (by repeat (first | (with_reducible first | exact HB.out | apply below_alloc | apply pw_below_drewN | apply below_drew1 | refine below_set ?_ GE142.out) | exact HB.out))) : w.heap.size ≤ gb143)); have n5_ := Aside0.mk ((by rw [hg]; exact Nat.ne_of_lt (blk_lt (g := gb142) (o := .cells #[.int .i64 0, .int .i64 0, .int .i64 0, .int .i64 0, .int .u64 0] 36 (0, 0)) (by (with_reducible repeat (first | refine blk_drewN ?_ _ | refine blk_drew ?_ | refine blk_alloc ?_ _)); exact BK142.out)) : gb142 ≠ gb143)); have n6_ := Aside0.mk ((by rw [hg]; exact Nat.ne_of_gt (blk_lt (g := gb142) (o := .cells #[.int .i64 0, .int .i64 0, .int .i64 0, .int .i64 0, .int .u64 0] 36 (0, 0)) (by (with_reducible repeat (first | refine blk_drewN ?_ _ | refine blk_drew ?_ | refine blk_alloc ?_ _)); exact BK142.out)) : gb143 ≠ gb142)); clear BK142; clear HB; have BK142 := n0_; have HB := n1_; have BK143 := n2_; have GW143 := n3_; have GE143 := n4_; have NB142_143 := n5_; have NB143_142 := n6_; clear n0_ n1_ n2_ n3_ n4_ n5_ n6_; clear hb hbox hg; have hnb10 := NB143_142.out; have hnc10 := NB142_143.out; have hcz11_0 : w9.cell? ⟨gb143, 0, none⟩ = some (.int .i64 0) := (blk_cell BK143.out 0).trans rfl; have hcz11_1 : w9.cell? ⟨gb143, 1, none⟩ = some (.int .i64 0) := (blk_cell BK143.out 1).trans rfl; have hcz11_2 : w9.cell? ⟨gb143, 2, none⟩ = some (.int .i64 0) := (blk_cell BK143.out 2).trans rfl; have hcz11_3 : w9.cell? ⟨gb143, 3, none⟩ = some (.int .i64 0) := (blk_cell BK143.out 3).trans rfl; have hcz11_4 : w9.cell? ⟨gb143, 4, none⟩ = some (.int .u64 0) := (blk_cell BK143.out 4).trans rfl; have hfz11_0 := blk_frozen BK143.out 0; have hfz11_1 := blk_frozen BK143.out 1; have hfz11_2 := blk_frozen BK143.out 2; have hfz11_3 := blk_frozen BK143.out 3; have hfz11_4 := blk_frozen BK143.out 4))
  (try simp only [Act.put, List.setIfInBounds_toArray, List.set_cons_zero, List.set_cons_succ])
  go_cut [30] (fun v30 wc => ∃ (kq : Nat) (x30_6 : Bool), v30 = .bool x30_6 ∧ Aside0 (spec_l6Walk.j0 kq l0 a1 a2 a3 a4 a5 x30_6 0 a2 0 0 0 = some (r1, r2, r3, r4, r5)) ∧ Aside0 (kq ≤ k) ∧ Aside0 (wc.heap[gb142]? = some (.cells #[.int .i64 0, .int .i64 0, .int .i64 0, .int .i64 0, .int .u64 0] 36 (0, 0))) ∧ Aside0 (wc.heap[gb143]? = some (.cells #[.int .i64 0, .int .i64 a2, .int .i64 0, .int .i64 0, .int .u64 0] 36 (0, 0))) ∧ Aside0 (Below w.heap.size w wc))
  case first =>
    have H := HC7.out
    clear HC7
    by_cases c12 : a1 < 0
    · rw [if_pos c12] at H
      have c12b0 : decide (a1 < 0) = true := decide_eq_true c12
      clear c12
      (first | rw [c12b0] | (simp only [i64_w, i32_w]; rw [c12b0]) | skip)
      have H' := Aside0.mk H
      clear H
      go_wp2
      go_meet
      case rel => exact ⟨_, (true), (by first | rfl | exact congrArg (Value.int .i64) (i64_w _) | (simp; done) | (simp [*]; done)), H', ⟨by first | omega | exact Nat.le_refl _⟩, ⟨by (with_reducible repeat (first | refine blk_drewN ?_ _ | refine blk_drew ?_ | refine blk_alloc ?_ _)); refine blk_far ?_ NB142_143.out _; (with_reducible repeat (first | refine blk_drewN ?_ _ | refine blk_drew ?_ | refine blk_alloc ?_ _)); refine blk_far ?_ NB142_143.out _; (with_reducible repeat (first | refine blk_drewN ?_ _ | refine blk_drew ?_ | refine blk_alloc ?_ _)); refine blk_far ?_ NB142_143.out _; (with_reducible repeat (first | refine blk_drewN ?_ _ | refine blk_drew ?_ | refine blk_alloc ?_ _)); refine blk_far ?_ NB142_143.out _; (with_reducible repeat (first | refine blk_drewN ?_ _ | refine blk_drew ?_ | refine blk_alloc ?_ _)); refine blk_far ?_ NB142_143.out _; (with_reducible repeat (first | refine blk_drewN ?_ _ | refine blk_drew ?_ | refine blk_alloc ?_ _)); exact BK142.out⟩, ⟨by (with_reducible repeat (first | refine blk_drewN ?_ _ | refine blk_drew ?_ | refine blk_alloc ?_ _)); refine blk_put (cs := #[.int .i64 0, .int .i64 a2, .int .i64 0, .int .i64 0, .int .u64 0]) ?_ 4 _ rfl; (with_reducible repeat (first | refine blk_drewN ?_ _ | refine blk_drew ?_ | refine blk_alloc ?_ _)); refine blk_put (cs := #[.int .i64 0, .int .i64 a2, .int .i64 0, .int .i64 0, .int .u64 0]) ?_ 3 _ rfl; (with_reducible repeat (first | refine blk_drewN ?_ _ | refine blk_drew ?_ | refine blk_alloc ?_ _)); refine blk_put (cs := #[.int .i64 0, .int .i64 a2, .int .i64 0, .int .i64 0, .int .u64 0]) ?_ 2 _ rfl; (with_reducible repeat (first | refine blk_drewN ?_ _ | refine blk_drew ?_ | refine blk_alloc ?_ _)); refine blk_put (cs := #[.int .i64 0, .int .i64 0, .int .i64 0, .int .i64 0, .int .u64 0]) ?_ 1 _ rfl; (with_reducible repeat (first | refine blk_drewN ?_ _ | refine blk_drew ?_ | refine blk_alloc ?_ _)); refine blk_put (cs := #[.int .i64 0, .int .i64 0, .int .i64 0, .int .i64 0, .int .u64 0]) ?_ 0 _ rfl; (with_reducible repeat (first | refine blk_drewN ?_ _ | refine blk_drew ?_ | refine blk_alloc ?_ _)); exact BK143.out⟩, ⟨by repeat (first | (with_reducible first | exact HB.out | apply below_alloc | apply pw_below_drewN | apply below_drew1 | refine below_set ?_ GE142.out | refine below_set ?_ GE143.out) | exact HB.out)⟩⟩
    · rw [if_neg c12] at H
      have c12b0 : decide (a1 < 0) = false := decide_eq_false c12
      clear c12
      (first | rw [c12b0] | (simp only [i64_w, i32_w]; rw [c12b0]) | skip)
      have H' := Aside0.mk H
      clear H
      go_wp2
      go_meet
      case rel => exact ⟨_, (decide (a1 ≥ (wrap64 ((l0.length : Int) / 256)))), (by first | rfl | exact congrArg (Value.int .i64) (i64_w _) | (simp; done) | (simp [*]; done)), H', ⟨by first | omega | exact Nat.le_refl _⟩, ⟨by (with_reducible repeat (first | refine blk_drewN ?_ _ | refine blk_drew ?_ | refine blk_alloc ?_ _)); refine blk_far ?_ NB142_143.out _; (with_reducible repeat (first | refine blk_drewN ?_ _ | refine blk_drew ?_ | refine blk_alloc ?_ _)); refine blk_far ?_ NB142_143.out _; (with_reducible repeat (first | refine blk_drewN ?_ _ | refine blk_drew ?_ | refine blk_alloc ?_ _)); refine blk_far ?_ NB142_143.out _; (with_reducible repeat (first | refine blk_drewN ?_ _ | refine blk_drew ?_ | refine blk_alloc ?_ _)); refine blk_far ?_ NB142_143.out _; (with_reducible repeat (first | refine blk_drewN ?_ _ | refine blk_drew ?_ | refine blk_alloc ?_ _)); refine blk_far ?_ NB142_143.out _; (with_reducible repeat (first | refine blk_drewN ?_ _ | refine blk_drew ?_ | refine blk_alloc ?_ _)); exact BK142.out⟩, ⟨by (with_reducible repeat (first | refine blk_drewN ?_ _ | refine blk_drew ?_ | refine blk_alloc ?_ _)); refine blk_put (cs := #[.int .i64 0, .int .i64 a2, .int .i64 0, .int .i64 0, .int .u64 0]) ?_ 4 _ rfl; (with_reducible repeat (first | refine blk_drewN ?_ _ | refine blk_drew ?_ | refine blk_alloc ?_ _)); refine blk_put (cs := #[.int .i64 0, .int .i64 a2, .int .i64 0, .int .i64 0, .int .u64 0]) ?_ 3 _ rfl; (with_reducible repeat (first | refine blk_drewN ?_ _ | refine blk_drew ?_ | refine blk_alloc ?_ _)); refine blk_put (cs := #[.int .i64 0, .int .i64 a2, .int .i64 0, .int .i64 0, .int .u64 0]) ?_ 2 _ rfl; (with_reducible repeat (first | refine blk_drewN ?_ _ | refine blk_drew ?_ | refine blk_alloc ?_ _)); refine blk_put (cs := #[.int .i64 0, .int .i64 0, .int .i64 0, .int .i64 0, .int .u64 0]) ?_ 1 _ rfl; (with_reducible repeat (first | refine blk_drewN ?_ _ | refine blk_drew ?_ | refine blk_alloc ?_ _)); refine blk_put (cs := #[.int .i64 0, .int .i64 0, .int .i64 0, .int .i64 0, .int .u64 0]) ?_ 0 _ rfl; (with_reducible repeat (first | refine blk_drewN ?_ _ | refine blk_drew ?_ | refine blk_alloc ?_ _)); exact BK143.out⟩, ⟨by repeat (first | (with_reducible first | exact HB.out | apply below_alloc | apply pw_below_drewN | apply below_drew1 | refine below_set ?_ GE142.out | refine below_set ?_ GE143.out) | exact HB.out)⟩⟩
  case rest =>
    clear HC7
    try clear c1
    try clear p2
    try clear c5
    try clear p6
    try clear c10
    try clear c12
    try clear c12b0
    try clear hcz11_0
    try clear hcz11_1
    try clear hcz11_2
    try clear hcz11_3
    try clear hcz11_4
    try clear hfz11_0
    try clear hfz11_1
    try clear hfz11_2
    try clear hfz11_3
    try clear hfz11_4
    obtain ⟨kq, x30_6, rfl, HA, HJ6, BK142, BK143, HB⟩ := hcut
    cases kq with
    | zero => exact absurd HA.out (by simp [spec_l6Walk.j0])
    | succ kj6 =>
      have H := HA.out
      clear HA
      simp only [spec_l6Walk.j0] at H
      by_cases c13 : x30_6 = true
      · subst c13
        have H1 : (some (3, a2, 0, 0, 0)) = some (r1, r2, r3, r4, r5) := by rw [if_pos rfl] at H; exact H
        clear H
        have H := H1
        clear H1
        simp only [Option.some.injEq, Prod.mk.injEq] at H
        obtain ⟨rfl, rfl, rfl, rfl, rfl⟩ := H
        have hnb14 := NB143_142.out
        have hnc14 := NB142_143.out
        have hcz15_0 : wc.cell? ⟨gb143, 0, none⟩ = some (.int .i64 0) := (blk_cell BK143.out 0).trans rfl
        have hcz15_1 : wc.cell? ⟨gb143, 1, none⟩ = some (.int .i64 a2) := (blk_cell BK143.out 1).trans rfl
        have hcz15_2 : wc.cell? ⟨gb143, 2, none⟩ = some (.int .i64 0) := (blk_cell BK143.out 2).trans rfl
        have hcz15_3 : wc.cell? ⟨gb143, 3, none⟩ = some (.int .i64 0) := (blk_cell BK143.out 3).trans rfl
        have hcz15_4 : wc.cell? ⟨gb143, 4, none⟩ = some (.int .u64 0) := (blk_cell BK143.out 4).trans rfl
        have hfz15_0 := blk_frozen BK143.out 0
        have hfz15_1 := blk_frozen BK143.out 1
        have hfz15_2 := blk_frozen BK143.out 2
        have hfz15_3 := blk_frozen BK143.out 3
        have hfz15_4 := blk_frozen BK143.out 4
        have hcz16_0 : wc.cell? ⟨gb142, 0, none⟩ = some (.int .i64 0) := (blk_cell BK142.out 0).trans rfl
        have hcz16_1 : wc.cell? ⟨gb142, 1, none⟩ = some (.int .i64 0) := (blk_cell BK142.out 1).trans rfl
        have hcz16_2 : wc.cell? ⟨gb142, 2, none⟩ = some (.int .i64 0) := (blk_cell BK142.out 2).trans rfl
        have hcz16_3 : wc.cell? ⟨gb142, 3, none⟩ = some (.int .i64 0) := (blk_cell BK142.out 3).trans rfl
        have hcz16_4 : wc.cell? ⟨gb142, 4, none⟩ = some (.int .u64 0) := (blk_cell BK142.out 4).trans rfl
        have hfz16_0 := blk_frozen BK142.out 0
        have hfz16_1 := blk_frozen BK142.out 1
        have hfz16_2 := blk_frozen BK142.out 2
        have hfz16_3 := blk_frozen BK142.out 3
        have hfz16_4 := blk_frozen BK142.out 4
        go_wp2
        refine bodyPost_ret (results_cell_row rfl _ _ gb142 36 #[.int .i64 3, .int .i64 a2, .int .i64 0, .int .i64 0, .int .u64 0] (0, 0) _ rfl (by (with_reducible repeat (first | refine blk_drewN ?_ _ | refine blk_drew ?_ | refine blk_alloc ?_ _)); refine blk_put (cs := #[.int .i64 3, .int .i64 a2, .int .i64 0, .int .i64 0, .int .u64 0]) ?_ 4 _ rfl; (with_reducible repeat (first | refine blk_drewN ?_ _ | refine blk_drew ?_ | refine blk_alloc ?_ _)); refine blk_put (cs := #[.int .i64 3, .int .i64 a2, .int .i64 0, .int .i64 0, .int .u64 0]) ?_ 3 _ rfl; (with_reducible repeat (first | refine blk_drewN ?_ _ | refine blk_drew ?_ | refine blk_alloc ?_ _)); refine blk_put (cs := #[.int .i64 3, .int .i64 a2, .int .i64 0, .int .i64 0, .int .u64 0]) ?_ 2 _ rfl; (with_reducible repeat (first | refine blk_drewN ?_ _ | refine blk_drew ?_ | refine blk_alloc ?_ _)); refine blk_put (cs := #[.int .i64 3, .int .i64 0, .int .i64 0, .int .i64 0, .int .u64 0]) ?_ 1 _ rfl; (with_reducible repeat (first | refine blk_drewN ?_ _ | refine blk_drew ?_ | refine blk_alloc ?_ _)); refine blk_put (cs := #[.int .i64 0, .int .i64 0, .int .i64 0, .int .i64 0, .int .u64 0]) ?_ 0 _ rfl; (with_reducible repeat (first | refine blk_drewN ?_ _ | refine blk_drew ?_ | refine blk_alloc ?_ _)); refine blk_far ?_ NB142_143.out _; (with_reducible repeat (first | refine blk_drewN ?_ _ | refine blk_drew ?_ | refine blk_alloc ?_ _)); exact BK142.out) Try.underlying36 rfl (by kernel_rfl)) rfl ?_
        exact ⟨by first | rfl | (simp [errW_none, errW_some] <;> rfl) | (simp [*, errW_none, errW_some] <;> rfl), by repeat (first | (with_reducible first | exact HB.out | apply below_alloc | apply pw_below_drewN | apply below_drew1 | refine below_set ?_ GE142.out | refine below_set ?_ GE143.out) | exact HB.out)⟩
      · replace c13 := Bool.eq_false_iff.mpr c13
        subst c13
        have H1 : ((spec_l6Pages.f kj6 a2).bind fun t144 => (if (wrap64 (256 * t144)) = 0 then (none) else (if 0 ≤ (wrap64 ((wrap64 (a1 * 256)) + (wrap64 (8 * (Int.tmod (wrap64 (Int.tdiv a3 (wrap64 (256 * t144)))) 32))))) then (if (wrap64 ((wrap64 (a1 * 256)) + (wrap64 (8 * (Int.tmod (wrap64 (Int.tdiv a3 (wrap64 (256 * t144)))) 32))))) ≤ (wrap64 ((wrap64 ((wrap64 (a1 * 256)) + (wrap64 (8 * (Int.tmod (wrap64 (Int.tdiv a3 (wrap64 (256 * t144)))) 32))))) + 8)) then (if (wrap64 ((wrap64 ((wrap64 (a1 * 256)) + (wrap64 (8 * (Int.tmod (wrap64 (Int.tdiv a3 (wrap64 (256 * t144)))) 32))))) + 8)) ≤ (l0.length : Int) then ((spec_LoadWord.f kj6 ((l0.take ((wrap64 ((wrap64 ((wrap64 (a1 * 256)) + (wrap64 (8 * (Int.tmod (wrap64 (Int.tdiv a3 (wrap64 (256 * t144)))) 32))))) + 8)) : Int).toNat).drop ((wrap64 ((wrap64 (a1 * 256)) + (wrap64 (8 * (Int.tmod (wrap64 (Int.tdiv a3 (wrap64 (256 * t144)))) 32))))) : Int).toNat) 0 8 false).bind fun bt146 => ((spec_l6Kind.f kj6 bt146.1 a2).bind fun t148 => (if t148 < 0 then (some (wrap64 (-t148), a2, wrap64 ((wrap64 (a1 * 256)) + (wrap64 (8 * (Int.tmod (wrap64 (Int.tdiv a3 (wrap64 (256 * t144)))) 32)))), 0, 0)) else ((spec_GetEntry.f kj6 bt146.1).bind fun bt149 => (if t148 = 0 then ((spec_l6Walk.f kj6 l0 bt149.2.2.2.2.2.2.2.2.1 (wrap64 (a2 - 1)) a3 a4 a5).bind fun bt160 => (some (bt160.1, bt160.2.1, bt160.2.2.1, bt160.2.2.2.1, bt160.2.2.2.2))) else (if a5 = true then (spec_l6Walk.j1 kj6 a3 a4 (wrap64 (256 * t144)) (!bt149.2.2.2.2.1) 0 a2 (wrap64 ((wrap64 (a1 * 256)) + (wrap64 (8 * (Int.tmod (wrap64 (Int.tdiv a3 (wrap64 (256 * t144)))) 32))))) 0 0 bt149.1 bt149.2.1 bt149.2.2.1 bt149.2.2.2.1 bt149.2.2.2.2.1 bt149.2.2.2.2.2.1 bt149.2.2.2.2.2.2.1 bt149.2.2.2.2.2.2.2.1 bt149.2.2.2.2.2.2.2.2.1) else (spec_l6Walk.j1 kj6 a3 a4 (wrap64 (256 * t144)) false 0 a2 (wrap64 ((wrap64 (a1 * 256)) + (wrap64 (8 * (Int.tmod (wrap64 (Int.tdiv a3 (wrap64 (256 * t144)))) 32))))) 0 0 bt149.1 bt149.2.1 bt149.2.2.1 bt149.2.2.2.1 bt149.2.2.2.2.1 bt149.2.2.2.2.2.1 bt149.2.2.2.2.2.2.1 bt149.2.2.2.2.2.2.2.1 bt149.2.2.2.2.2.2.2.2.1))))))) else (none)) else (none)) else (none)))) = some (r1, r2, r3, r4, r5) := by rw [if_neg (show ¬ (false = true) by decide)] at H; exact H
        clear H
        have H := H1
        clear H1
        replace H := Option.bind_eq_some_iff.mp H
        obtain ⟨t144, A170, H⟩ := H
        replace H : (if (wrap64 (256 * t144)) = 0 then (none) else (if 0 ≤ (wrap64 ((wrap64 (a1 * 256)) + (wrap64 (8 * (Int.tmod (wrap64 (Int.tdiv a3 (wrap64 (256 * t144)))) 32))))) then (if (wrap64 ((wrap64 (a1 * 256)) + (wrap64 (8 * (Int.tmod (wrap64 (Int.tdiv a3 (wrap64 (256 * t144)))) 32))))) ≤ (wrap64 ((wrap64 ((wrap64 (a1 * 256)) + (wrap64 (8 * (Int.tmod (wrap64 (Int.tdiv a3 (wrap64 (256 * t144)))) 32))))) + 8)) then (if (wrap64 ((wrap64 ((wrap64 (a1 * 256)) + (wrap64 (8 * (Int.tmod (wrap64 (Int.tdiv a3 (wrap64 (256 * t144)))) 32))))) + 8)) ≤ (l0.length : Int) then ((spec_LoadWord.f kj6 ((l0.take ((wrap64 ((wrap64 ((wrap64 (a1 * 256)) + (wrap64 (8 * (Int.tmod (wrap64 (Int.tdiv a3 (wrap64 (256 * t144)))) 32))))) + 8)) : Int).toNat).drop ((wrap64 ((wrap64 (a1 * 256)) + (wrap64 (8 * (Int.tmod (wrap64 (Int.tdiv a3 (wrap64 (256 * t144)))) 32))))) : Int).toNat) 0 8 false).bind fun bt146 => ((spec_l6Kind.f kj6 bt146.1 a2).bind fun t148 => (if t148 < 0 then (some (wrap64 (-t148), a2, wrap64 ((wrap64 (a1 * 256)) + (wrap64 (8 * (Int.tmod (wrap64 (Int.tdiv a3 (wrap64 (256 * t144)))) 32)))), 0, 0)) else ((spec_GetEntry.f kj6 bt146.1).bind fun bt149 => (if t148 = 0 then ((spec_l6Walk.f kj6 l0 bt149.2.2.2.2.2.2.2.2.1 (wrap64 (a2 - 1)) a3 a4 a5).bind fun bt160 => (some (bt160.1, bt160.2.1, bt160.2.2.1, bt160.2.2.2.1, bt160.2.2.2.2))) else (if a5 = true then (spec_l6Walk.j1 kj6 a3 a4 (wrap64 (256 * t144)) (!bt149.2.2.2.2.1) 0 a2 (wrap64 ((wrap64 (a1 * 256)) + (wrap64 (8 * (Int.tmod (wrap64 (Int.tdiv a3 (wrap64 (256 * t144)))) 32))))) 0 0 bt149.1 bt149.2.1 bt149.2.2.1 bt149.2.2.2.1 bt149.2.2.2.2.1 bt149.2.2.2.2.2.1 bt149.2.2.2.2.2.2.1 bt149.2.2.2.2.2.2.2.1 bt149.2.2.2.2.2.2.2.2.1) else (spec_l6Walk.j1 kj6 a3 a4 (wrap64 (256 * t144)) false 0 a2 (wrap64 ((wrap64 (a1 * 256)) + (wrap64 (8 * (Int.tmod (wrap64 (Int.tdiv a3 (wrap64 (256 * t144)))) 32))))) 0 0 bt149.1 bt149.2.1 bt149.2.2.1 bt149.2.2.2.1 bt149.2.2.2.2.1 bt149.2.2.2.2.2.1 bt149.2.2.2.2.2.2.1 bt149.2.2.2.2.2.2.2.1 bt149.2.2.2.2.2.2.2.2.1))))))) else (none)) else (none)) else (none))) = some (r1, r2, r3, r4, r5) := H
        have A17 := Aside0.mk A170
        clear A170
        by_cases c18 : (wrap64 (256 * t144)) = 0
        · rw [if_pos c18] at H
          exact absurd H (by simp)
        · rw [if_neg c18] at H
          have c18b0 : ((wrap64 (256 * t144)) == 0) = false := beq_eq_false_iff_ne.mpr c18
          have c18b1 : ((wrap64 (256 * t144)) != 0) = true := bne_iff_ne.mpr c18
          obtain ⟨ji19, hji19⟩ : ∃ j_ : Int, (wrap64 ((wrap64 (a1 * 256)) + (wrap64 (8 * (Int.tmod (wrap64 (Int.tdiv a3 (wrap64 (256 * t144)))) 32))))) = j_ := ⟨_, rfl⟩
          replace H : (if 0 ≤ (ji19) then (if (ji19) ≤ (wrap64 ((ji19) + 8)) then (if (wrap64 ((ji19) + 8)) ≤ (l0.length : Int) then ((spec_LoadWord.f kj6 ((l0.take ((wrap64 ((ji19) + 8)) : Int).toNat).drop ((ji19) : Int).toNat) 0 8 false).bind fun bt146 => ((spec_l6Kind.f kj6 bt146.1 a2).bind fun t148 => (if t148 < 0 then (some (wrap64 (-t148), a2, ji19, 0, 0)) else ((spec_GetEntry.f kj6 bt146.1).bind fun bt149 => (if t148 = 0 then ((spec_l6Walk.f kj6 l0 bt149.2.2.2.2.2.2.2.2.1 (wrap64 (a2 - 1)) a3 a4 a5).bind fun bt160 => (some (bt160.1, bt160.2.1, bt160.2.2.1, bt160.2.2.2.1, bt160.2.2.2.2))) else (if a5 = true then (spec_l6Walk.j1 kj6 a3 a4 (wrap64 (256 * t144)) (!bt149.2.2.2.2.1) 0 a2 ji19 0 0 bt149.1 bt149.2.1 bt149.2.2.1 bt149.2.2.2.1 bt149.2.2.2.2.1 bt149.2.2.2.2.2.1 bt149.2.2.2.2.2.2.1 bt149.2.2.2.2.2.2.2.1 bt149.2.2.2.2.2.2.2.2.1) else (spec_l6Walk.j1 kj6 a3 a4 (wrap64 (256 * t144)) false 0 a2 ji19 0 0 bt149.1 bt149.2.1 bt149.2.2.1 bt149.2.2.2.1 bt149.2.2.2.2.1 bt149.2.2.2.2.2.1 bt149.2.2.2.2.2.2.1 bt149.2.2.2.2.2.2.2.1 bt149.2.2.2.2.2.2.2.2.1))))))) else (none)) else (none)) else (none)) = some (r1, r2, r3, r4, r5) := by first | (rw [hji19] at H; exact H) | (simp only [hji19] at H ⊢; exact H)
          (try rw [hji19] at A17)
          have hji19w : (IntKind.i64.wrap ((wrap64 (a1 * 256)) + (wrap64 (8 * (Int.tmod (wrap64 (Int.tdiv a3 (wrap64 (256 * t144)))) 32))))) = ji19 := (i64_w _).trans hji19
          by_cases c20 : 0 ≤ (ji19)
          · rw [if_pos c20] at H
            have c20b0 := eq_true c20
            have c20b1 : decide (0 ≤ (ji19)) = true := decide_eq_true c20
            clear c20
            by_cases c21 : (ji19) ≤ (wrap64 ((ji19) + 8))
            · rw [if_pos c21] at H
              have c21b0 := eq_true c21
              have c21b1 : decide ((ji19) ≤ (wrap64 ((ji19) + 8))) = true := decide_eq_true c21
              by_cases c22 : (wrap64 ((ji19) + 8)) ≤ (l0.length : Int)
              · rw [if_pos c22] at H
                have c22b0 := eq_true c22
                have c22b1 : decide ((wrap64 ((ji19) + 8)) ≤ (l0.length : Int)) = true := decide_eq_true c22
                replace H := Option.bind_eq_some_iff.mp H
                obtain ⟨⟨t146, t147⟩, A230, H⟩ := H
                replace H : ((spec_l6Kind.f kj6 t146 a2).bind fun t148 => (if t148 < 0 then (some (wrap64 (-t148), a2, ji19, 0, 0)) else ((spec_GetEntry.f kj6 t146).bind fun bt149 => (if t148 = 0 then ((spec_l6Walk.f kj6 l0 bt149.2.2.2.2.2.2.2.2.1 (wrap64 (a2 - 1)) a3 a4 a5).bind fun bt160 => (some (bt160.1, bt160.2.1, bt160.2.2.1, bt160.2.2.2.1, bt160.2.2.2.2))) else (if a5 = true then (spec_l6Walk.j1 kj6 a3 a4 (wrap64 (256 * t144)) (!bt149.2.2.2.2.1) 0 a2 ji19 0 0 bt149.1 bt149.2.1 bt149.2.2.1 bt149.2.2.2.1 bt149.2.2.2.2.1 bt149.2.2.2.2.2.1 bt149.2.2.2.2.2.2.1 bt149.2.2.2.2.2.2.2.1 bt149.2.2.2.2.2.2.2.2.1) else (spec_l6Walk.j1 kj6 a3 a4 (wrap64 (256 * t144)) false 0 a2 ji19 0 0 bt149.1 bt149.2.1 bt149.2.2.1 bt149.2.2.2.1 bt149.2.2.2.2.1 bt149.2.2.2.2.2.1 bt149.2.2.2.2.2.2.1 bt149.2.2.2.2.2.2.2.1 bt149.2.2.2.2.2.2.2.2.1)))))) = some (r1, r2, r3, r4, r5) := H
                have A23 := Aside0.mk A230
                clear A230
                replace H := Option.bind_eq_some_iff.mp H
                obtain ⟨t148, A240, H⟩ := H
                replace H : (if t148 < 0 then (some (wrap64 (-t148), a2, ji19, 0, 0)) else ((spec_GetEntry.f kj6 t146).bind fun bt149 => (if t148 = 0 then ((spec_l6Walk.f kj6 l0 bt149.2.2.2.2.2.2.2.2.1 (wrap64 (a2 - 1)) a3 a4 a5).bind fun bt160 => (some (bt160.1, bt160.2.1, bt160.2.2.1, bt160.2.2.2.1, bt160.2.2.2.2))) else (if a5 = true then (spec_l6Walk.j1 kj6 a3 a4 (wrap64 (256 * t144)) (!bt149.2.2.2.2.1) 0 a2 ji19 0 0 bt149.1 bt149.2.1 bt149.2.2.1 bt149.2.2.2.1 bt149.2.2.2.2.1 bt149.2.2.2.2.2.1 bt149.2.2.2.2.2.2.1 bt149.2.2.2.2.2.2.2.1 bt149.2.2.2.2.2.2.2.2.1) else (spec_l6Walk.j1 kj6 a3 a4 (wrap64 (256 * t144)) false 0 a2 ji19 0 0 bt149.1 bt149.2.1 bt149.2.2.1 bt149.2.2.2.1 bt149.2.2.2.2.1 bt149.2.2.2.2.2.1 bt149.2.2.2.2.2.2.1 bt149.2.2.2.2.2.2.2.1 bt149.2.2.2.2.2.2.2.2.1))))) = some (r1, r2, r3, r4, r5) := H
                have A24 := Aside0.mk A240
                clear A240
                by_cases c25 : t148 < 0
                · rw [if_pos c25] at H
                  have c25b0 : decide (t148 < 0) = true := decide_eq_true c25
                  clear c25
                  simp only [Option.some.injEq, Prod.mk.injEq] at H
                  obtain ⟨rfl, rfl, rfl, rfl, rfl⟩ := H
                  go_wp2_with (first | ((with_reducible refine gate_callee (f := 87) rfl ?_); refine goesL_ (some 34) rfl rfl Try.func87 (by kernel_rfl) rfl #[.int .i64 a2] rfl (by (try simp only [List.map_toArray, List.map_cons, List.map_nil]); first | done | rfl | (simp only [List.length_drop, List.length_take]; first | done | rfl)) ?_; (with_reducible refine (spec_l6Pages.calls kj6 a2 t144 _ A17.out).mono ?_); rintro e w' ⟨rfl, ⟨nd, rfl⟩⟩; refine ⟨_, rfl, ?_⟩; (try (rw [drewN_self wc]; generalize hq_ : World.drewN wc _ = wc; have n0_ : Aside0 (wc.heap[gb142]? = some (.cells #[.int .i64 0, .int .i64 0, .int .i64 0, .int .i64 0, .int .u64 0] 36 (0, 0))) := ⟨by rw [← hq_]; exact (by (with_reducible repeat (first | refine blk_drewN ?_ _ | refine blk_drew ?_ | refine blk_alloc ?_ _)); exact BK142.out)⟩; have n1_ : Aside0 (wc.heap[gb143]? = some (.cells #[.int .i64 0, .int .i64 a2, .int .i64 0, .int .i64 0, .int .u64 0] 36 (0, 0))) := ⟨by rw [← hq_]; exact (by (with_reducible repeat (first | refine blk_drewN ?_ _ | refine blk_drew ?_ | refine blk_alloc ?_ _)); exact BK143.out)⟩; have n2_ : Aside0 (Below w.heap.size w wc) := ⟨by rw [← hq_]; exact (by repeat (first | (with_reducible first | exact HB.out | apply below_alloc | apply pw_below_drewN | apply below_drew1 | refine below_set ?_ GE142.out | refine below_set ?_ GE143.out) | exact HB.out))⟩; clear BK142 BK143 HB hq_; have BK142 := n0_; have BK143 := n1_; have HB := n2_; clear n0_ n1_ n2_)); have hnb26 := NB143_142.out; have hnc26 := NB142_143.out; have hcz27_0 : wc.cell? ⟨gb143, 0, none⟩ = some (.int .i64 0) := (blk_cell BK143.out 0).trans rfl; have hcz27_1 : wc.cell? ⟨gb143, 1, none⟩ = some (.int .i64 a2) := (blk_cell BK143.out 1).trans rfl; have hcz27_2 : wc.cell? ⟨gb143, 2, none⟩ = some (.int .i64 0) := (blk_cell BK143.out 2).trans rfl; have hcz27_3 : wc.cell? ⟨gb143, 3, none⟩ = some (.int .i64 0) := (blk_cell BK143.out 3).trans rfl; have hcz27_4 : wc.cell? ⟨gb143, 4, none⟩ = some (.int .u64 0) := (blk_cell BK143.out 4).trans rfl; have hfz27_0 := blk_frozen BK143.out 0; have hfz27_1 := blk_frozen BK143.out 1; have hfz27_2 := blk_frozen BK143.out 2; have hfz27_3 := blk_frozen BK143.out 3; have hfz27_4 := blk_frozen BK143.out 4; obtain ⟨i028, hi028, _, hsz28, _⟩ := info_parts info5; obtain ⟨A28, hcut28, hA28, hC28⟩ := print_mid_of (P := Try.prog) (Value.int .u8) 0 34 5 .i64 .i64 Try.underlying34 hi028 hsz28 A0 c0 l0 (ji19) (wrap64 ((ji19) + 8)) (of_decide_eq_true (by first | (with_reducible assumption) | assumption)) (by first | omega | exact of_decide_eq_true (by first | (with_reducible assumption) | assumption)) (of_decide_eq_true (by first | (with_reducible assumption) | assumption)) HC0.out; have HR145 := Aside0.mk (Kd.C_of_reads (h1 := fun _ => rfl) (hA28 _ (Kd.reads_of_C HR0.out))); have HC145 := Aside0.mk hC28; clear hA28 hC28 hi028 hsz28) | ((with_reducible refine gate_callee (f := 88) rfl ?_); refine goesL_ (some 53) rfl rfl Try.func88 (by kernel_rfl) rfl #[.slice A28 ((l0.take ((wrap64 ((ji19) + 8)) : Int).toNat).drop ((ji19) : Int).toNat).length (c0 - (ji19).toNat), .int .i64 0, .int .i64 8, .bool false] rfl (by (try simp only [List.map_toArray, List.map_cons, List.map_nil]); first | done | (rw [show ((l0.take ((wrap64 ((ji19) + 8)) : Int).toNat).drop ((ji19) : Int).toNat).length = ((wrap64 ((ji19) + 8)).toNat - (ji19).toNat) from (by rw [List.length_drop, List.length_take]; have h_ : ((wrap64 ((ji19) + 8)) : Int) ≤ (l0.length : Int) := of_decide_eq_true (by first | (with_reducible assumption) | assumption); omega)] <;> rfl) | (simp only [hji19]; rfl) | rfl | (simp only [List.length_drop, List.length_take]; first | done | rfl)) ?_; (with_reducible refine (spec_LoadWord.calls kj6 _ _ ((l0.take ((wrap64 ((ji19) + 8)) : Int).toNat).drop ((ji19) : Int).toNat) 0 8 false t146 t147 _ ?side1 ?side2 A23.out).mono ?_); (case side1 => exact Kd.C_below HR145.out (by repeat (first | (with_reducible first | exact HB.out | apply below_alloc | apply pw_below_drewN | apply below_drew1 | refine below_set ?_ GE142.out | refine below_set ?_ GE143.out) | exact HB.out))); (case side2 => exact HC145.out); rintro e w' ⟨rfl, ⟨nd, rfl⟩⟩; refine ⟨_, rfl, ?_⟩) | ((with_reducible refine gate_callee (f := 89) rfl ?_); refine goesL_ (some 58) rfl rfl Try.func89 (by kernel_rfl) rfl #[.int .u64 t146, .int .i64 a2] rfl (by (try simp only [List.map_toArray, List.map_cons, List.map_nil]); first | done | rfl | (simp only [List.length_drop, List.length_take]; first | done | rfl)) ?_; (with_reducible refine (spec_l6Kind.calls kj6 t146 a2 t148 _ A24.out).mono ?_); rintro e w29 ⟨rfl, hb⟩; refine ⟨_, rfl, ?_⟩; have n0_ := Aside0.mk (blk_below (g := gb142) (o := .cells #[.int .i64 0, .int .i64 0, .int .i64 0, .int .i64 0, .int .u64 0] 36 (0, 0)) (by (with_reducible repeat (first | refine blk_drewN ?_ _ | refine blk_drew ?_ | refine blk_alloc ?_ _)); refine blk_far ?_ NB142_143.out _; (with_reducible repeat (first | refine blk_drewN ?_ _ | refine blk_drew ?_ | refine blk_alloc ?_ _)); exact BK142.out) hb); have n1_ := Aside0.mk (blk_below (g := gb143) (o := .cells #[.int .i64 0, .int .i64 a2, .int .i64 ji19, .int .i64 0, .int .u64 0] 36 (0, 0)) (by (with_reducible repeat (first | refine blk_drewN ?_ _ | refine blk_drew ?_ | refine blk_alloc ?_ _)); refine blk_put (cs := #[.int .i64 0, .int .i64 a2, .int .i64 0, .int .i64 0, .int .u64 0]) ?_ 2 _ rfl; (with_reducible repeat (first | refine blk_drewN ?_ _ | refine blk_drew ?_ | refine blk_alloc ?_ _)); exact BK143.out) hb); have n2_ := Aside0.mk (below_step (by repeat (first | (with_reducible first | exact HB.out | apply below_alloc | apply pw_below_drewN | apply below_drew1 | refine below_set ?_ GE142.out | refine below_set ?_ GE143.out) | exact HB.out)) hb); clear BK142; clear BK143; clear HB; have BK142 := n0_; have BK143 := n1_; have HB := n2_; clear n0_ n1_ n2_; (try clear hb); (try clear hb2); (try clear hk); (try clear hi); have hcz30_0 : w29.cell? ⟨gb143, 0, none⟩ = some (.int .i64 0) := (blk_cell BK143.out 0).trans rfl; have hcz30_1 : w29.cell? ⟨gb143, 1, none⟩ = some (.int .i64 a2) := (blk_cell BK143.out 1).trans rfl; have hcz30_2 : w29.cell? ⟨gb143, 2, none⟩ = some (.int .i64 ji19) := (blk_cell BK143.out 2).trans rfl; have hcz30_3 : w29.cell? ⟨gb143, 3, none⟩ = some (.int .i64 0) := (blk_cell BK143.out 3).trans rfl; have hcz30_4 : w29.cell? ⟨gb143, 4, none⟩ = some (.int .u64 0) := (blk_cell BK143.out 4).trans rfl; have hfz30_0 := blk_frozen BK143.out 0; have hfz30_1 := blk_frozen BK143.out 1; have hfz30_2 := blk_frozen BK143.out 2; have hfz30_3 := blk_frozen BK143.out 3; have hfz30_4 := blk_frozen BK143.out 4; have hcz31_0 : w29.cell? ⟨gb142, 0, none⟩ = some (.int .i64 0) := (blk_cell BK142.out 0).trans rfl; have hcz31_1 : w29.cell? ⟨gb142, 1, none⟩ = some (.int .i64 0) := (blk_cell BK142.out 1).trans rfl; have hcz31_2 : w29.cell? ⟨gb142, 2, none⟩ = some (.int .i64 0) := (blk_cell BK142.out 2).trans rfl; have hcz31_3 : w29.cell? ⟨gb142, 3, none⟩ = some (.int .i64 0) := (blk_cell BK142.out 3).trans rfl; have hcz31_4 : w29.cell? ⟨gb142, 4, none⟩ = some (.int .u64 0) := (blk_cell BK142.out 4).trans rfl; have hfz31_0 := blk_frozen BK142.out 0; have hfz31_1 := blk_frozen BK142.out 1; have hfz31_2 := blk_frozen BK142.out 2; have hfz31_3 := blk_frozen BK142.out 3; have hfz31_4 := blk_frozen BK142.out 4))
                  refine bodyPost_ret (results_cell_row rfl _ _ gb142 36 #[.int .i64 (wrap64 (-t148)), .int .i64 a2, .int .i64 ji19, .int .i64 0, .int .u64 0] (0, 0) _ rfl (by (with_reducible repeat (first | refine blk_drewN ?_ _ | refine blk_drew ?_ | refine blk_alloc ?_ _)); refine blk_put (cs := #[.int .i64 (wrap64 (-t148)), .int .i64 a2, .int .i64 ji19, .int .i64 0, .int .u64 0]) ?_ 4 _ rfl; (with_reducible repeat (first | refine blk_drewN ?_ _ | refine blk_drew ?_ | refine blk_alloc ?_ _)); refine blk_put (cs := #[.int .i64 (wrap64 (-t148)), .int .i64 a2, .int .i64 ji19, .int .i64 0, .int .u64 0]) ?_ 3 _ rfl; (with_reducible repeat (first | refine blk_drewN ?_ _ | refine blk_drew ?_ | refine blk_alloc ?_ _)); refine blk_put (cs := #[.int .i64 (wrap64 (-t148)), .int .i64 a2, .int .i64 0, .int .i64 0, .int .u64 0]) ?_ 2 _ rfl; (with_reducible repeat (first | refine blk_drewN ?_ _ | refine blk_drew ?_ | refine blk_alloc ?_ _)); refine blk_put (cs := #[.int .i64 (wrap64 (-t148)), .int .i64 0, .int .i64 0, .int .i64 0, .int .u64 0]) ?_ 1 _ rfl; (with_reducible repeat (first | refine blk_drewN ?_ _ | refine blk_drew ?_ | refine blk_alloc ?_ _)); refine blk_put (cs := #[.int .i64 0, .int .i64 0, .int .i64 0, .int .i64 0, .int .u64 0]) ?_ 0 _ rfl; (with_reducible repeat (first | refine blk_drewN ?_ _ | refine blk_drew ?_ | refine blk_alloc ?_ _)); refine blk_far ?_ NB142_143.out _; (with_reducible repeat (first | refine blk_drewN ?_ _ | refine blk_drew ?_ | refine blk_alloc ?_ _)); exact BK142.out) Try.underlying36 rfl (by kernel_rfl)) rfl ?_
                  exact ⟨by first | rfl | (simp [errW_none, errW_some] <;> rfl) | (simp only [← hji19]; first | rfl | (simp [errW_none, errW_some] <;> rfl)) | (simp [*, errW_none, errW_some] <;> rfl), by repeat (first | (with_reducible first | exact HB.out | apply below_alloc | apply pw_below_drewN | apply below_drew1 | refine below_set ?_ GE142.out | refine below_set ?_ GE143.out) | exact HB.out)⟩
                · rw [if_neg c25] at H
                  have c25b0 : decide (t148 < 0) = false := decide_eq_false c25
                  clear c25
                  replace H := Option.bind_eq_some_iff.mp H
                  obtain ⟨⟨t149, t150, t151, t152, t153, t154, t155, t156, t157, t158⟩, A320, H⟩ := H
                  replace H : (if t148 = 0 then ((spec_l6Walk.f kj6 l0 t157 (wrap64 (a2 - 1)) a3 a4 a5).bind fun bt160 => (some (bt160.1, bt160.2.1, bt160.2.2.1, bt160.2.2.2.1, bt160.2.2.2.2))) else (if a5 = true then (spec_l6Walk.j1 kj6 a3 a4 (wrap64 (256 * t144)) (!t153) 0 a2 ji19 0 0 t149 t150 t151 t152 t153 t154 t155 t156 t157) else (spec_l6Walk.j1 kj6 a3 a4 (wrap64 (256 * t144)) false 0 a2 ji19 0 0 t149 t150 t151 t152 t153 t154 t155 t156 t157))) = some (r1, r2, r3, r4, r5) := H
                  have A32 := Aside0.mk A320
                  clear A320
                  by_cases c33 : t148 = 0
                  · rw [if_pos c33] at H
                    have c33b0 : (t148 == 0) = true := beq_iff_eq.mpr c33
                    have c33b1 : (t148 != 0) = false := bne_eq_false_iff_eq.mpr c33
                    clear c33
                    replace H := Option.bind_eq_some_iff.mp H
                    obtain ⟨⟨t160, t161, t162, t163, t164⟩, A340, H⟩ := H
                    replace H : (some (t160, t161, t162, t163, t164)) = some (r1, r2, r3, r4, r5) := H
                    have A34 := Aside0.mk A340
                    clear A340
                    simp only [Option.some.injEq, Prod.mk.injEq] at H
                    obtain ⟨rfl, rfl, rfl, rfl, rfl⟩ := H
                    go_wp2_with (first | ((with_reducible refine gate_callee (f := 87) rfl ?_); refine goesL_ (some 34) rfl rfl Try.func87 (by kernel_rfl) rfl #[.int .i64 a2] rfl (by (try simp only [List.map_toArray, List.map_cons, List.map_nil]); first | done | rfl | (simp only [List.length_drop, List.length_take]; first | done | rfl)) ?_; (with_reducible refine (spec_l6Pages.calls kj6 a2 t144 _ A17.out).mono ?_); rintro e w' ⟨rfl, ⟨nd, rfl⟩⟩; refine ⟨_, rfl, ?_⟩; (try (rw [drewN_self wc]; generalize hq_ : World.drewN wc _ = wc; have n0_ : Aside0 (wc.heap[gb142]? = some (.cells #[.int .i64 0, .int .i64 0, .int .i64 0, .int .i64 0, .int .u64 0] 36 (0, 0))) := ⟨by rw [← hq_]; exact (by (with_reducible repeat (first | refine blk_drewN ?_ _ | refine blk_drew ?_ | refine blk_alloc ?_ _)); exact BK142.out)⟩; have n1_ : Aside0 (wc.heap[gb143]? = some (.cells #[.int .i64 0, .int .i64 a2, .int .i64 0, .int .i64 0, .int .u64 0] 36 (0, 0))) := ⟨by rw [← hq_]; exact (by (with_reducible repeat (first | refine blk_drewN ?_ _ | refine blk_drew ?_ | refine blk_alloc ?_ _)); exact BK143.out)⟩; have n2_ : Aside0 (Below w.heap.size w wc) := ⟨by rw [← hq_]; exact (by repeat (first | (with_reducible first | exact HB.out | apply below_alloc | apply pw_below_drewN | apply below_drew1 | refine below_set ?_ GE142.out | refine below_set ?_ GE143.out) | exact HB.out))⟩; clear BK142 BK143 HB hq_; have BK142 := n0_; have BK143 := n1_; have HB := n2_; clear n0_ n1_ n2_)); have hnb35 := NB143_142.out; have hnc35 := NB142_143.out; have hcz36_0 : wc.cell? ⟨gb143, 0, none⟩ = some (.int .i64 0) := (blk_cell BK143.out 0).trans rfl; have hcz36_1 : wc.cell? ⟨gb143, 1, none⟩ = some (.int .i64 a2) := (blk_cell BK143.out 1).trans rfl; have hcz36_2 : wc.cell? ⟨gb143, 2, none⟩ = some (.int .i64 0) := (blk_cell BK143.out 2).trans rfl; have hcz36_3 : wc.cell? ⟨gb143, 3, none⟩ = some (.int .i64 0) := (blk_cell BK143.out 3).trans rfl; have hcz36_4 : wc.cell? ⟨gb143, 4, none⟩ = some (.int .u64 0) := (blk_cell BK143.out 4).trans rfl; have hfz36_0 := blk_frozen BK143.out 0; have hfz36_1 := blk_frozen BK143.out 1; have hfz36_2 := blk_frozen BK143.out 2; have hfz36_3 := blk_frozen BK143.out 3; have hfz36_4 := blk_frozen BK143.out 4; obtain ⟨i037, hi037, _, hsz37, _⟩ := info_parts info5; obtain ⟨A37, hcut37, hA37, hC37⟩ := print_mid_of (P := Try.prog) (Value.int .u8) 0 34 5 .i64 .i64 Try.underlying34 hi037 hsz37 A0 c0 l0 (ji19) (wrap64 ((ji19) + 8)) (of_decide_eq_true (by first | (with_reducible assumption) | assumption)) (by first | omega | exact of_decide_eq_true (by first | (with_reducible assumption) | assumption)) (of_decide_eq_true (by first | (with_reducible assumption) | assumption)) HC0.out; have HR145 := Aside0.mk (Kd.C_of_reads (h1 := fun _ => rfl) (hA37 _ (Kd.reads_of_C HR0.out))); have HC145 := Aside0.mk hC37; clear hA37 hC37 hi037 hsz37) | ((with_reducible refine gate_callee (f := 88) rfl ?_); refine goesL_ (some 53) rfl rfl Try.func88 (by kernel_rfl) rfl #[.slice A37 ((l0.take ((wrap64 ((ji19) + 8)) : Int).toNat).drop ((ji19) : Int).toNat).length (c0 - (ji19).toNat), .int .i64 0, .int .i64 8, .bool false] rfl (by (try simp only [List.map_toArray, List.map_cons, List.map_nil]); first | done | (rw [show ((l0.take ((wrap64 ((ji19) + 8)) : Int).toNat).drop ((ji19) : Int).toNat).length = ((wrap64 ((ji19) + 8)).toNat - (ji19).toNat) from (by rw [List.length_drop, List.length_take]; have h_ : ((wrap64 ((ji19) + 8)) : Int) ≤ (l0.length : Int) := of_decide_eq_true (by first | (with_reducible assumption) | assumption); omega)] <;> rfl) | (simp only [hji19]; rfl) | rfl | (simp only [List.length_drop, List.length_take]; first | done | rfl)) ?_; (with_reducible refine (spec_LoadWord.calls kj6 _ _ ((l0.take ((wrap64 ((ji19) + 8)) : Int).toNat).drop ((ji19) : Int).toNat) 0 8 false t146 t147 _ ?side1 ?side2 A23.out).mono ?_); (case side1 => exact Kd.C_below HR145.out (by repeat (first | (with_reducible first | exact HB.out | apply below_alloc | apply pw_below_drewN | apply below_drew1 | refine below_set ?_ GE142.out | refine below_set ?_ GE143.out) | exact HB.out))); (case side2 => exact HC145.out); rintro e w' ⟨rfl, ⟨nd, rfl⟩⟩; refine ⟨_, rfl, ?_⟩) | ((with_reducible refine gate_callee (f := 89) rfl ?_); refine goesL_ (some 58) rfl rfl Try.func89 (by kernel_rfl) rfl #[.int .u64 t146, .int .i64 a2] rfl (by (try simp only [List.map_toArray, List.map_cons, List.map_nil]); first | done | rfl | (simp only [List.length_drop, List.length_take]; first | done | rfl)) ?_; (with_reducible refine (spec_l6Kind.calls kj6 t146 a2 t148 _ A24.out).mono ?_); rintro e w38 ⟨rfl, hb⟩; refine ⟨_, rfl, ?_⟩; have n0_ := Aside0.mk (blk_below (g := gb142) (o := .cells #[.int .i64 0, .int .i64 0, .int .i64 0, .int .i64 0, .int .u64 0] 36 (0, 0)) (by (with_reducible repeat (first | refine blk_drewN ?_ _ | refine blk_drew ?_ | refine blk_alloc ?_ _)); refine blk_far ?_ NB142_143.out _; (with_reducible repeat (first | refine blk_drewN ?_ _ | refine blk_drew ?_ | refine blk_alloc ?_ _)); exact BK142.out) hb); have n1_ := Aside0.mk (blk_below (g := gb143) (o := .cells #[.int .i64 0, .int .i64 a2, .int .i64 ji19, .int .i64 0, .int .u64 0] 36 (0, 0)) (by (with_reducible repeat (first | refine blk_drewN ?_ _ | refine blk_drew ?_ | refine blk_alloc ?_ _)); refine blk_put (cs := #[.int .i64 0, .int .i64 a2, .int .i64 0, .int .i64 0, .int .u64 0]) ?_ 2 _ rfl; (with_reducible repeat (first | refine blk_drewN ?_ _ | refine blk_drew ?_ | refine blk_alloc ?_ _)); exact BK143.out) hb); have n2_ := Aside0.mk (below_step (by repeat (first | (with_reducible first | exact HB.out | apply below_alloc | apply pw_below_drewN | apply below_drew1 | refine below_set ?_ GE142.out | refine below_set ?_ GE143.out) | exact HB.out)) hb); clear BK142; clear BK143; clear HB; have BK142 := n0_; have BK143 := n1_; have HB := n2_; clear n0_ n1_ n2_; (try clear hb); (try clear hb2); (try clear hk); (try clear hi)) | ((with_reducible refine gate_callee (f := 15) rfl ?_); refine goesL_ (some 67) rfl rfl Try.func15 (by kernel_rfl) rfl #[.int .u64 t146] rfl (by (try simp only [List.map_toArray, List.map_cons, List.map_nil]); first | done | rfl | (simp only [List.length_drop, List.length_take]; first | done | rfl)) ?_; (with_reducible refine (spec_GetEntry.calls kj6 t146 t149 t150 t151 t152 t153 t154 t155 t156 t157 t158 _ A32.out).mono ?_); rintro e w39 ⟨rfl, hb⟩; refine ⟨_, rfl, ?_⟩; have n0_ := Aside0.mk (blk_below (g := gb142) (o := .cells #[.int .i64 0, .int .i64 0, .int .i64 0, .int .i64 0, .int .u64 0] 36 (0, 0)) (by (with_reducible repeat (first | refine blk_drewN ?_ _ | refine blk_drew ?_ | refine blk_alloc ?_ _)); exact BK142.out) hb); have n1_ := Aside0.mk (blk_below (g := gb143) (o := .cells #[.int .i64 0, .int .i64 a2, .int .i64 ji19, .int .i64 0, .int .u64 0] 36 (0, 0)) (by (with_reducible repeat (first | refine blk_drewN ?_ _ | refine blk_drew ?_ | refine blk_alloc ?_ _)); exact BK143.out) hb); have n2_ := Aside0.mk (below_step (by repeat (first | (with_reducible first | exact HB.out | apply below_alloc | apply pw_below_drewN | apply below_drew1 | refine below_set ?_ GE142.out | refine below_set ?_ GE143.out) | exact HB.out)) hb); clear BK142; clear BK143; clear HB; have BK142 := n0_; have BK143 := n1_; have HB := n2_; clear n0_ n1_ n2_; (try clear hb); (try clear hb2); (try clear hk); (try clear hi)) | ((with_reducible refine gate_dst (N := 18) rfl ?_); (try (refine gate_guard (by rfl) ?_; dsimp only)); refine box_event ?hg (N := 18) ?hd (cs := #[.bool false, .bool false, .bool false, .bool false, .bool false, .bool false, .bool false, .bool false, .int .i64 0]) (t := 27) ?hr ?_; (case hd => rfl); (case hg => rfl); (case hr => first | (go_simp; done) | (go_simp; rfl)); intro gb159 hg w40 hbox hb; have n0_ := Aside0.mk (blk_below (g := gb142) (o := .cells #[.int .i64 0, .int .i64 0, .int .i64 0, .int .i64 0, .int .u64 0] 36 (0, 0)) (by (with_reducible repeat (first | refine blk_drewN ?_ _ | refine blk_drew ?_ | refine blk_alloc ?_ _)); exact BK142.out) hb); have n1_ := Aside0.mk (blk_below (g := gb143) (o := .cells #[.int .i64 0, .int .i64 a2, .int .i64 ji19, .int .i64 0, .int .u64 0] 36 (0, 0)) (by (with_reducible repeat (first | refine blk_drewN ?_ _ | refine blk_drew ?_ | refine blk_alloc ?_ _)); exact BK143.out) hb); have n2_ := Aside0.mk (below_step (by repeat (first | (with_reducible first | exact HB.out | apply below_alloc | apply pw_below_drewN | apply below_drew1 | refine below_set ?_ GE142.out | refine below_set ?_ GE143.out) | exact HB.out)) hb); have n3_ := Aside0.mk (hbox); have n4_ := Aside0.mk ((by rw [hg]; exact (below_size (by repeat (first | (with_reducible first | exact HB.out | apply below_alloc | apply pw_below_drewN | apply below_drew1 | refine below_set ?_ GE142.out | refine below_set ?_ GE143.out) | exact HB.out))) : w.heap.size ≤ gb159)); have n5_ := Aside0.mk ((by rw [hg]; exact (below_size (by repeat (first | (with_reducible first | exact HB.out | apply below_alloc | apply pw_below_drewN | apply below_drew1 | refine below_set ?_ GE142.out | refine below_set ?_ GE143.out) | exact HB.out))) : w.heap.size ≤ gb159)); have n6_ := Aside0.mk ((by rw [hg]; exact Nat.ne_of_lt (blk_lt (g := gb142) (o := .cells #[.int .i64 0, .int .i64 0, .int .i64 0, .int .i64 0, .int .u64 0] 36 (0, 0)) (by (with_reducible repeat (first | refine blk_drewN ?_ _ | refine blk_drew ?_ | refine blk_alloc ?_ _)); exact BK142.out)) : gb142 ≠ gb159)); have n7_ := Aside0.mk ((by rw [hg]; exact Nat.ne_of_gt (blk_lt (g := gb142) (o := .cells #[.int .i64 0, .int .i64 0, .int .i64 0, .int .i64 0, .int .u64 0] 36 (0, 0)) (by (with_reducible repeat (first | refine blk_drewN ?_ _ | refine blk_drew ?_ | refine blk_alloc ?_ _)); exact BK142.out)) : gb159 ≠ gb142)); have n8_ := Aside0.mk ((by rw [hg]; exact Nat.ne_of_lt (blk_lt (g := gb143) (o := .cells #[.int .i64 0, .int .i64 a2, .int .i64 ji19, .int .i64 0, .int .u64 0] 36 (0, 0)) (by (with_reducible repeat (first | refine blk_drewN ?_ _ | refine blk_drew ?_ | refine blk_alloc ?_ _)); exact BK143.out)) : gb143 ≠ gb159)); have n9_ := Aside0.mk ((by rw [hg]; exact Nat.ne_of_gt (blk_lt (g := gb143) (o := .cells #[.int .i64 0, .int .i64 a2, .int .i64 ji19, .int .i64 0, .int .u64 0] 36 (0, 0)) (by (with_reducible repeat (first | refine blk_drewN ?_ _ | refine blk_drew ?_ | refine blk_alloc ?_ _)); exact BK143.out)) : gb159 ≠ gb143)); clear BK142; clear BK143; clear HB; have BK142 := n0_; have BK143 := n1_; have HB := n2_; have BK159 := n3_; have GW159 := n4_; have GE159 := n5_; have NB142_159 := n6_; have NB159_142 := n7_; have NB143_159 := n8_; have NB159_143 := n9_; clear n0_ n1_ n2_ n3_ n4_ n5_ n6_ n7_ n8_ n9_; clear hb hbox hg; have hnb41 := NB159_142.out; have hnc41 := NB142_159.out; have hnb42 := NB159_143.out; have hnc42 := NB143_159.out; have hcz43_0 : w40.cell? ⟨gb159, 0, none⟩ = some (.bool false) := (blk_cell BK159.out 0).trans rfl; have hcz43_1 : w40.cell? ⟨gb159, 1, none⟩ = some (.bool false) := (blk_cell BK159.out 1).trans rfl; have hcz43_2 : w40.cell? ⟨gb159, 2, none⟩ = some (.bool false) := (blk_cell BK159.out 2).trans rfl; have hcz43_3 : w40.cell? ⟨gb159, 3, none⟩ = some (.bool false) := (blk_cell BK159.out 3).trans rfl; have hcz43_4 : w40.cell? ⟨gb159, 4, none⟩ = some (.bool false) := (blk_cell BK159.out 4).trans rfl; have hcz43_5 : w40.cell? ⟨gb159, 5, none⟩ = some (.bool false) := (blk_cell BK159.out 5).trans rfl; have hcz43_6 : w40.cell? ⟨gb159, 6, none⟩ = some (.bool false) := (blk_cell BK159.out 6).trans rfl; have hcz43_7 : w40.cell? ⟨gb159, 7, none⟩ = some (.bool false) := (blk_cell BK159.out 7).trans rfl; have hcz43_8 : w40.cell? ⟨gb159, 8, none⟩ = some (.int .i64 0) := (blk_cell BK159.out 8).trans rfl; have hfz43_0 := blk_frozen BK159.out 0; have hfz43_1 := blk_frozen BK159.out 1; have hfz43_2 := blk_frozen BK159.out 2; have hfz43_3 := blk_frozen BK159.out 3; have hfz43_4 := blk_frozen BK159.out 4; have hfz43_5 := blk_frozen BK159.out 5; have hfz43_6 := blk_frozen BK159.out 6; have hfz43_7 := blk_frozen BK159.out 7; have hfz43_8 := blk_frozen BK159.out 8) | ((with_reducible refine gate_callee (f := 52) rfl ?_); refine goesL_ (some 80) rfl rfl Try.func52 (by kernel_rfl) rfl #[.slice A0 l0.length c0, .int .i64 t157, .int .i64 (wrap64 (a2 - 1)), .int .i64 a3, .int .i64 a4, .bool a5] rfl (by (try simp only [List.map_toArray, List.map_cons, List.map_nil]); first | done | rfl | (simp only [List.length_drop, List.length_take]; first | done | rfl)) ?_; (with_reducible refine (ih kj6 (by have := HJ6.out; omega) _ _ l0 t157 (wrap64 (a2 - 1)) a3 a4 a5 t160 t161 t162 t163 t164 _ ?side1 ?side2 A34.out).mono ?_); (case side1 => exact Kd.C_below HR0.out (by repeat (first | (with_reducible first | exact HB.out | apply below_alloc | apply pw_below_drewN | apply below_drew1 | refine below_set ?_ GE142.out | refine below_set ?_ GE143.out | refine below_set ?_ GE159.out) | exact HB.out))); (case side2 => exact HC0.out); rintro e w44 ⟨rfl, hb⟩; refine ⟨_, rfl, ?_⟩; have n0_ := Aside0.mk (blk_below (g := gb142) (o := .cells #[.int .i64 0, .int .i64 0, .int .i64 0, .int .i64 0, .int .u64 0] 36 (0, 0)) (by (with_reducible repeat (first | refine blk_drewN ?_ _ | refine blk_drew ?_ | refine blk_alloc ?_ _)); refine blk_far ?_ NB142_159.out _; (with_reducible repeat (first | refine blk_drewN ?_ _ | refine blk_drew ?_ | refine blk_alloc ?_ _)); refine blk_far ?_ NB142_159.out _; (with_reducible repeat (first | refine blk_drewN ?_ _ | refine blk_drew ?_ | refine blk_alloc ?_ _)); refine blk_far ?_ NB142_159.out _; (with_reducible repeat (first | refine blk_drewN ?_ _ | refine blk_drew ?_ | refine blk_alloc ?_ _)); refine blk_far ?_ NB142_159.out _; (with_reducible repeat (first | refine blk_drewN ?_ _ | refine blk_drew ?_ | refine blk_alloc ?_ _)); refine blk_far ?_ NB142_159.out _; (with_reducible repeat (first | refine blk_drewN ?_ _ | refine blk_drew ?_ | refine blk_alloc ?_ _)); refine blk_far ?_ NB142_159.out _; (with_reducible repeat (first | refine blk_drewN ?_ _ | refine blk_drew ?_ | refine blk_alloc ?_ _)); refine blk_far ?_ NB142_159.out _; (with_reducible repeat (first | refine blk_drewN ?_ _ | refine blk_drew ?_ | refine blk_alloc ?_ _)); refine blk_far ?_ NB142_159.out _; (with_reducible repeat (first | refine blk_drewN ?_ _ | refine blk_drew ?_ | refine blk_alloc ?_ _)); refine blk_far ?_ NB142_159.out _; (with_reducible repeat (first | refine blk_drewN ?_ _ | refine blk_drew ?_ | refine blk_alloc ?_ _)); exact BK142.out) hb); have n1_ := Aside0.mk (blk_below (g := gb143) (o := .cells #[.int .i64 0, .int .i64 a2, .int .i64 ji19, .int .i64 0, .int .u64 0] 36 (0, 0)) (by (with_reducible repeat (first | refine blk_drewN ?_ _ | refine blk_drew ?_ | refine blk_alloc ?_ _)); refine blk_far ?_ NB143_159.out _; (with_reducible repeat (first | refine blk_drewN ?_ _ | refine blk_drew ?_ | refine blk_alloc ?_ _)); refine blk_far ?_ NB143_159.out _; (with_reducible repeat (first | refine blk_drewN ?_ _ | refine blk_drew ?_ | refine blk_alloc ?_ _)); refine blk_far ?_ NB143_159.out _; (with_reducible repeat (first | refine blk_drewN ?_ _ | refine blk_drew ?_ | refine blk_alloc ?_ _)); refine blk_far ?_ NB143_159.out _; (with_reducible repeat (first | refine blk_drewN ?_ _ | refine blk_drew ?_ | refine blk_alloc ?_ _)); refine blk_far ?_ NB143_159.out _; (with_reducible repeat (first | refine blk_drewN ?_ _ | refine blk_drew ?_ | refine blk_alloc ?_ _)); refine blk_far ?_ NB143_159.out _; (with_reducible repeat (first | refine blk_drewN ?_ _ | refine blk_drew ?_ | refine blk_alloc ?_ _)); refine blk_far ?_ NB143_159.out _; (with_reducible repeat (first | refine blk_drewN ?_ _ | refine blk_drew ?_ | refine blk_alloc ?_ _)); refine blk_far ?_ NB143_159.out _; (with_reducible repeat (first | refine blk_drewN ?_ _ | refine blk_drew ?_ | refine blk_alloc ?_ _)); refine blk_far ?_ NB143_159.out _; (with_reducible repeat (first | refine blk_drewN ?_ _ | refine blk_drew ?_ | refine blk_alloc ?_ _)); exact BK143.out) hb); have n2_ := Aside0.mk (blk_below (g := gb159) (o := .cells #[.bool t149, .bool t150, .bool t151, .bool t152, .bool t153, .bool t154, .bool t155, .bool t156, .int .i64 t157] 27 (0, 0)) (by (with_reducible repeat (first | refine blk_drewN ?_ _ | refine blk_drew ?_ | refine blk_alloc ?_ _)); refine blk_put (cs := #[.bool t149, .bool t150, .bool t151, .bool t152, .bool t153, .bool t154, .bool t155, .bool t156, .int .i64 0]) ?_ 8 _ rfl; (with_reducible repeat (first | refine blk_drewN ?_ _ | refine blk_drew ?_ | refine blk_alloc ?_ _)); refine blk_put (cs := #[.bool t149, .bool t150, .bool t151, .bool t152, .bool t153, .bool t154, .bool t155, .bool false, .int .i64 0]) ?_ 7 _ rfl; (with_reducible repeat (first | refine blk_drewN ?_ _ | refine blk_drew ?_ | refine blk_alloc ?_ _)); refine blk_put (cs := #[.bool t149, .bool t150, .bool t151, .bool t152, .bool t153, .bool t154, .bool false, .bool false, .int .i64 0]) ?_ 6 _ rfl; (with_reducible repeat (first | refine blk_drewN ?_ _ | refine blk_drew ?_ | refine blk_alloc ?_ _)); refine blk_put (cs := #[.bool t149, .bool t150, .bool t151, .bool t152, .bool t153, .bool false, .bool false, .bool false, .int .i64 0]) ?_ 5 _ rfl; (with_reducible repeat (first | refine blk_drewN ?_ _ | refine blk_drew ?_ | refine blk_alloc ?_ _)); refine blk_put (cs := #[.bool t149, .bool t150, .bool t151, .bool t152, .bool false, .bool false, .bool false, .bool false, .int .i64 0]) ?_ 4 _ rfl; (with_reducible repeat (first | refine blk_drewN ?_ _ | refine blk_drew ?_ | refine blk_alloc ?_ _)); refine blk_put (cs := #[.bool t149, .bool t150, .bool t151, .bool false, .bool false, .bool false, .bool false, .bool false, .int .i64 0]) ?_ 3 _ rfl; (with_reducible repeat (first | refine blk_drewN ?_ _ | refine blk_drew ?_ | refine blk_alloc ?_ _)); refine blk_put (cs := #[.bool t149, .bool t150, .bool false, .bool false, .bool false, .bool false, .bool false, .bool false, .int .i64 0]) ?_ 2 _ rfl; (with_reducible repeat (first | refine blk_drewN ?_ _ | refine blk_drew ?_ | refine blk_alloc ?_ _)); refine blk_put (cs := #[.bool t149, .bool false, .bool false, .bool false, .bool false, .bool false, .bool false, .bool false, .int .i64 0]) ?_ 1 _ rfl; (with_reducible repeat (first | refine blk_drewN ?_ _ | refine blk_drew ?_ | refine blk_alloc ?_ _)); refine blk_put (cs := #[.bool false, .bool false, .bool false, .bool false, .bool false, .bool false, .bool false, .bool false, .int .i64 0]) ?_ 0 _ rfl; (with_reducible repeat (first | refine blk_drewN ?_ _ | refine blk_drew ?_ | refine blk_alloc ?_ _)); exact BK159.out) hb); have n3_ := Aside0.mk (below_step (by repeat (first | (with_reducible first | exact HB.out | apply below_alloc | apply pw_below_drewN | apply below_drew1 | refine below_set ?_ GE142.out | refine below_set ?_ GE143.out | refine below_set ?_ GE159.out) | exact HB.out)) hb); clear BK142; clear BK143; clear BK159; clear HB; have BK142 := n0_; have BK143 := n1_; have BK159 := n2_; have HB := n3_; clear n0_ n1_ n2_ n3_; (try clear hb); (try clear hb2); (try clear hk); (try clear hi); have hcz45_0 : w44.cell? ⟨gb142, 0, none⟩ = some (.int .i64 0) := (blk_cell BK142.out 0).trans rfl; have hcz45_1 : w44.cell? ⟨gb142, 1, none⟩ = some (.int .i64 0) := (blk_cell BK142.out 1).trans rfl; have hcz45_2 : w44.cell? ⟨gb142, 2, none⟩ = some (.int .i64 0) := (blk_cell BK142.out 2).trans rfl; have hcz45_3 : w44.cell? ⟨gb142, 3, none⟩ = some (.int .i64 0) := (blk_cell BK142.out 3).trans rfl; have hcz45_4 : w44.cell? ⟨gb142, 4, none⟩ = some (.int .u64 0) := (blk_cell BK142.out 4).trans rfl; have hfz45_0 := blk_frozen BK142.out 0; have hfz45_1 := blk_frozen BK142.out 1; have hfz45_2 := blk_frozen BK142.out 2; have hfz45_3 := blk_frozen BK142.out 3; have hfz45_4 := blk_frozen BK142.out 4))
                    refine bodyPost_ret (results_cell_row rfl _ _ gb142 36 #[.int .i64 t160, .int .i64 t161, .int .i64 t162, .int .i64 t163, .int .u64 t164] (0, 0) _ rfl (by (with_reducible repeat (first | refine blk_drewN ?_ _ | refine blk_drew ?_ | refine blk_alloc ?_ _)); refine blk_put (cs := #[.int .i64 t160, .int .i64 t161, .int .i64 t162, .int .i64 t163, .int .u64 0]) ?_ 4 _ rfl; (with_reducible repeat (first | refine blk_drewN ?_ _ | refine blk_drew ?_ | refine blk_alloc ?_ _)); refine blk_put (cs := #[.int .i64 t160, .int .i64 t161, .int .i64 t162, .int .i64 0, .int .u64 0]) ?_ 3 _ rfl; (with_reducible repeat (first | refine blk_drewN ?_ _ | refine blk_drew ?_ | refine blk_alloc ?_ _)); refine blk_put (cs := #[.int .i64 t160, .int .i64 t161, .int .i64 0, .int .i64 0, .int .u64 0]) ?_ 2 _ rfl; (with_reducible repeat (first | refine blk_drewN ?_ _ | refine blk_drew ?_ | refine blk_alloc ?_ _)); refine blk_put (cs := #[.int .i64 t160, .int .i64 0, .int .i64 0, .int .i64 0, .int .u64 0]) ?_ 1 _ rfl; (with_reducible repeat (first | refine blk_drewN ?_ _ | refine blk_drew ?_ | refine blk_alloc ?_ _)); refine blk_put (cs := #[.int .i64 0, .int .i64 0, .int .i64 0, .int .i64 0, .int .u64 0]) ?_ 0 _ rfl; (with_reducible repeat (first | refine blk_drewN ?_ _ | refine blk_drew ?_ | refine blk_alloc ?_ _)); exact BK142.out) Try.underlying36 rfl (by kernel_rfl)) rfl ?_
                    exact ⟨by first | rfl | (simp [errW_none, errW_some] <;> rfl) | (simp only [← hji19]; first | rfl | (simp [errW_none, errW_some] <;> rfl)) | (simp [*, errW_none, errW_some] <;> rfl), by repeat (first | (with_reducible first | exact HB.out | apply below_alloc | apply pw_below_drewN | apply below_drew1 | refine below_set ?_ GE142.out | refine below_set ?_ GE143.out | refine below_set ?_ GE159.out) | exact HB.out)⟩
                  · rw [if_neg c33] at H
                    have c33b0 : (t148 == 0) = false := beq_eq_false_iff_ne.mpr c33
                    have c33b1 : (t148 != 0) = true := bne_iff_ne.mpr c33
                    have HC46 := Aside0.mk H
                    clear H
                    go_upto_region 15 with (first | ((with_reducible refine gate_callee (f := 87) rfl ?_); refine goesL_ (some 34) rfl rfl Try.func87 (by kernel_rfl) rfl #[.int .i64 a2] rfl (by (try simp only [List.map_toArray, List.map_cons, List.map_nil]); first | done | rfl | (simp only [List.length_drop, List.length_take]; first | done | rfl)) ?_; (with_reducible refine (spec_l6Pages.calls kj6 a2 t144 _ A17.out).mono ?_); rintro e w' ⟨rfl, ⟨nd, rfl⟩⟩; refine ⟨_, rfl, ?_⟩; (try (rw [drewN_self wc]; generalize hq_ : World.drewN wc _ = wc; have n0_ : Aside0 (wc.heap[gb142]? = some (.cells #[.int .i64 0, .int .i64 0, .int .i64 0, .int .i64 0, .int .u64 0] 36 (0, 0))) := ⟨by rw [← hq_]; exact (by (with_reducible repeat (first | refine blk_drewN ?_ _ | refine blk_drew ?_ | refine blk_alloc ?_ _)); exact BK142.out)⟩; have n1_ : Aside0 (wc.heap[gb143]? = some (.cells #[.int .i64 0, .int .i64 a2, .int .i64 0, .int .i64 0, .int .u64 0] 36 (0, 0))) := ⟨by rw [← hq_]; exact (by (with_reducible repeat (first | refine blk_drewN ?_ _ | refine blk_drew ?_ | refine blk_alloc ?_ _)); exact BK143.out)⟩; have n2_ : Aside0 (Below w.heap.size w wc) := ⟨by rw [← hq_]; exact (by repeat (first | (with_reducible first | exact HB.out | apply below_alloc | apply pw_below_drewN | apply below_drew1 | refine below_set ?_ GE142.out | refine below_set ?_ GE143.out) | exact HB.out))⟩; clear BK142 BK143 HB hq_; have BK142 := n0_; have BK143 := n1_; have HB := n2_; clear n0_ n1_ n2_)); have hnb47 := NB143_142.out; have hnc47 := NB142_143.out; have hcz48_0 : wc.cell? ⟨gb143, 0, none⟩ = some (.int .i64 0) := (blk_cell BK143.out 0).trans rfl; have hcz48_1 : wc.cell? ⟨gb143, 1, none⟩ = some (.int .i64 a2) := (blk_cell BK143.out 1).trans rfl; have hcz48_2 : wc.cell? ⟨gb143, 2, none⟩ = some (.int .i64 0) := (blk_cell BK143.out 2).trans rfl; have hcz48_3 : wc.cell? ⟨gb143, 3, none⟩ = some (.int .i64 0) := (blk_cell BK143.out 3).trans rfl; have hcz48_4 : wc.cell? ⟨gb143, 4, none⟩ = some (.int .u64 0) := (blk_cell BK143.out 4).trans rfl; have hfz48_0 := blk_frozen BK143.out 0; have hfz48_1 := blk_frozen BK143.out 1; have hfz48_2 := blk_frozen BK143.out 2; have hfz48_3 := blk_frozen BK143.out 3; have hfz48_4 := blk_frozen BK143.out 4; obtain ⟨i049, hi049, _, hsz49, _⟩ := info_parts info5; obtain ⟨A49, hcut49, hA49, hC49⟩ := print_mid_of (P := Try.prog) (Value.int .u8) 0 34 5 .i64 .i64 Try.underlying34 hi049 hsz49 A0 c0 l0 (ji19) (wrap64 ((ji19) + 8)) (of_decide_eq_true (by first | (with_reducible assumption) | assumption)) (by first | omega | exact of_decide_eq_true (by first | (with_reducible assumption) | assumption)) (of_decide_eq_true (by first | (with_reducible assumption) | assumption)) HC0.out; have HR145 := Aside0.mk (Kd.C_of_reads (h1 := fun _ => rfl) (hA49 _ (Kd.reads_of_C HR0.out))); have HC145 := Aside0.mk hC49; clear hA49 hC49 hi049 hsz49) | ((with_reducible refine gate_callee (f := 88) rfl ?_); refine goesL_ (some 53) rfl rfl Try.func88 (by kernel_rfl) rfl #[.slice A49 ((l0.take ((wrap64 ((ji19) + 8)) : Int).toNat).drop ((ji19) : Int).toNat).length (c0 - (ji19).toNat), .int .i64 0, .int .i64 8, .bool false] rfl (by (try simp only [List.map_toArray, List.map_cons, List.map_nil]); first | done | (rw [show ((l0.take ((wrap64 ((ji19) + 8)) : Int).toNat).drop ((ji19) : Int).toNat).length = ((wrap64 ((ji19) + 8)).toNat - (ji19).toNat) from (by rw [List.length_drop, List.length_take]; have h_ : ((wrap64 ((ji19) + 8)) : Int) ≤ (l0.length : Int) := of_decide_eq_true (by first | (with_reducible assumption) | assumption); omega)] <;> rfl) | (simp only [hji19]; rfl) | rfl | (simp only [List.length_drop, List.length_take]; first | done | rfl)) ?_; (with_reducible refine (spec_LoadWord.calls kj6 _ _ ((l0.take ((wrap64 ((ji19) + 8)) : Int).toNat).drop ((ji19) : Int).toNat) 0 8 false t146 t147 _ ?side1 ?side2 A23.out).mono ?_); (case side1 => exact Kd.C_below HR145.out (by repeat (first | (with_reducible first | exact HB.out | apply below_alloc | apply pw_below_drewN | apply below_drew1 | refine below_set ?_ GE142.out | refine below_set ?_ GE143.out) | exact HB.out))); (case side2 => exact HC145.out); rintro e w' ⟨rfl, ⟨nd, rfl⟩⟩; refine ⟨_, rfl, ?_⟩) | ((with_reducible refine gate_callee (f := 89) rfl ?_); refine goesL_ (some 58) rfl rfl Try.func89 (by kernel_rfl) rfl #[.int .u64 t146, .int .i64 a2] rfl (by (try simp only [List.map_toArray, List.map_cons, List.map_nil]); first | done | rfl | (simp only [List.length_drop, List.length_take]; first | done | rfl)) ?_; (with_reducible refine (spec_l6Kind.calls kj6 t146 a2 t148 _ A24.out).mono ?_); rintro e w50 ⟨rfl, hb⟩; refine ⟨_, rfl, ?_⟩; have n0_ := Aside0.mk (blk_below (g := gb142) (o := .cells #[.int .i64 0, .int .i64 0, .int .i64 0, .int .i64 0, .int .u64 0] 36 (0, 0)) (by (with_reducible repeat (first | refine blk_drewN ?_ _ | refine blk_drew ?_ | refine blk_alloc ?_ _)); refine blk_far ?_ NB142_143.out _; (with_reducible repeat (first | refine blk_drewN ?_ _ | refine blk_drew ?_ | refine blk_alloc ?_ _)); exact BK142.out) hb); have n1_ := Aside0.mk (blk_below (g := gb143) (o := .cells #[.int .i64 0, .int .i64 a2, .int .i64 ji19, .int .i64 0, .int .u64 0] 36 (0, 0)) (by (with_reducible repeat (first | refine blk_drewN ?_ _ | refine blk_drew ?_ | refine blk_alloc ?_ _)); refine blk_put (cs := #[.int .i64 0, .int .i64 a2, .int .i64 0, .int .i64 0, .int .u64 0]) ?_ 2 _ rfl; (with_reducible repeat (first | refine blk_drewN ?_ _ | refine blk_drew ?_ | refine blk_alloc ?_ _)); exact BK143.out) hb); have n2_ := Aside0.mk (below_step (by repeat (first | (with_reducible first | exact HB.out | apply below_alloc | apply pw_below_drewN | apply below_drew1 | refine below_set ?_ GE142.out | refine below_set ?_ GE143.out) | exact HB.out)) hb); clear BK142; clear BK143; clear HB; have BK142 := n0_; have BK143 := n1_; have HB := n2_; clear n0_ n1_ n2_; (try clear hb); (try clear hb2); (try clear hk); (try clear hi)) | ((with_reducible refine gate_callee (f := 15) rfl ?_); refine goesL_ (some 67) rfl rfl Try.func15 (by kernel_rfl) rfl #[.int .u64 t146] rfl (by (try simp only [List.map_toArray, List.map_cons, List.map_nil]); first | done | rfl | (simp only [List.length_drop, List.length_take]; first | done | rfl)) ?_; (with_reducible refine (spec_GetEntry.calls kj6 t146 t149 t150 t151 t152 t153 t154 t155 t156 t157 t158 _ A32.out).mono ?_); rintro e w51 ⟨rfl, hb⟩; refine ⟨_, rfl, ?_⟩; have n0_ := Aside0.mk (blk_below (g := gb142) (o := .cells #[.int .i64 0, .int .i64 0, .int .i64 0, .int .i64 0, .int .u64 0] 36 (0, 0)) (by (with_reducible repeat (first | refine blk_drewN ?_ _ | refine blk_drew ?_ | refine blk_alloc ?_ _)); exact BK142.out) hb); have n1_ := Aside0.mk (blk_below (g := gb143) (o := .cells #[.int .i64 0, .int .i64 a2, .int .i64 ji19, .int .i64 0, .int .u64 0] 36 (0, 0)) (by (with_reducible repeat (first | refine blk_drewN ?_ _ | refine blk_drew ?_ | refine blk_alloc ?_ _)); exact BK143.out) hb); have n2_ := Aside0.mk (below_step (by repeat (first | (with_reducible first | exact HB.out | apply below_alloc | apply pw_below_drewN | apply below_drew1 | refine below_set ?_ GE142.out | refine below_set ?_ GE143.out) | exact HB.out)) hb); clear BK142; clear BK143; clear HB; have BK142 := n0_; have BK143 := n1_; have HB := n2_; clear n0_ n1_ n2_; (try clear hb); (try clear hb2); (try clear hk); (try clear hi)) | ((with_reducible refine gate_dst (N := 18) rfl ?_); (try (refine gate_guard (by rfl) ?_; dsimp only)); refine box_event ?hg (N := 18) ?hd (cs := #[.bool false, .bool false, .bool false, .bool false, .bool false, .bool false, .bool false, .bool false, .int .i64 0]) (t := 27) ?hr ?_; (case hd => rfl); (case hg => rfl); (case hr => first | (go_simp; done) | (go_simp; rfl)); intro gb159 hg w52 hbox hb; have n0_ := Aside0.mk (blk_below (g := gb142) (o := .cells #[.int .i64 0, .int .i64 0, .int .i64 0, .int .i64 0, .int .u64 0] 36 (0, 0)) (by (with_reducible repeat (first | refine blk_drewN ?_ _ | refine blk_drew ?_ | refine blk_alloc ?_ _)); exact BK142.out) hb); have n1_ := Aside0.mk (blk_below (g := gb143) (o := .cells #[.int .i64 0, .int .i64 a2, .int .i64 ji19, .int .i64 0, .int .u64 0] 36 (0, 0)) (by (with_reducible repeat (first | refine blk_drewN ?_ _ | refine blk_drew ?_ | refine blk_alloc ?_ _)); exact BK143.out) hb); have n2_ := Aside0.mk (below_step (by repeat (first | (with_reducible first | exact HB.out | apply below_alloc | apply pw_below_drewN | apply below_drew1 | refine below_set ?_ GE142.out | refine below_set ?_ GE143.out) | exact HB.out)) hb); have n3_ := Aside0.mk (hbox); have n4_ := Aside0.mk ((by rw [hg]; exact (below_size (by repeat (first | (with_reducible first | exact HB.out | apply below_alloc | apply pw_below_drewN | apply below_drew1 | refine below_set ?_ GE142.out | refine below_set ?_ GE143.out) | exact HB.out))) : w.heap.size ≤ gb159)); have n5_ := Aside0.mk ((by rw [hg]; exact (below_size (by repeat (first | (with_reducible first | exact HB.out | apply below_alloc | apply pw_below_drewN | apply below_drew1 | refine below_set ?_ GE142.out | refine below_set ?_ GE143.out) | exact HB.out))) : w.heap.size ≤ gb159)); have n6_ := Aside0.mk ((by rw [hg]; exact Nat.ne_of_lt (blk_lt (g := gb142) (o := .cells #[.int .i64 0, .int .i64 0, .int .i64 0, .int .i64 0, .int .u64 0] 36 (0, 0)) (by (with_reducible repeat (first | refine blk_drewN ?_ _ | refine blk_drew ?_ | refine blk_alloc ?_ _)); exact BK142.out)) : gb142 ≠ gb159)); have n7_ := Aside0.mk ((by rw [hg]; exact Nat.ne_of_gt (blk_lt (g := gb142) (o := .cells #[.int .i64 0, .int .i64 0, .int .i64 0, .int .i64 0, .int .u64 0] 36 (0, 0)) (by (with_reducible repeat (first | refine blk_drewN ?_ _ | refine blk_drew ?_ | refine blk_alloc ?_ _)); exact BK142.out)) : gb159 ≠ gb142)); have n8_ := Aside0.mk ((by rw [hg]; exact Nat.ne_of_lt (blk_lt (g := gb143) (o := .cells #[.int .i64 0, .int .i64 a2, .int .i64 ji19, .int .i64 0, .int .u64 0] 36 (0, 0)) (by (with_reducible repeat (first | refine blk_drewN ?_ _ | refine blk_drew ?_ | refine blk_alloc ?_ _)); exact BK143.out)) : gb143 ≠ gb159)); have n9_ := Aside0.mk ((by rw [hg]; exact Nat.ne_of_gt (blk_lt (g := gb143) (o := .cells #[.int .i64 0, .int .i64 a2, .int .i64 ji19, .int .i64 0, .int .u64 0] 36 (0, 0)) (by (with_reducible repeat (first | refine blk_drewN ?_ _ | refine blk_drew ?_ | refine blk_alloc ?_ _)); exact BK143.out)) : gb159 ≠ gb143)); clear BK142; clear BK143; clear HB; have BK142 := n0_; have BK143 := n1_; have HB := n2_; have BK159 := n3_; have GW159 := n4_; have GE159 := n5_; have NB142_159 := n6_; have NB159_142 := n7_; have NB143_159 := n8_; have NB159_143 := n9_; clear n0_ n1_ n2_ n3_ n4_ n5_ n6_ n7_ n8_ n9_; clear hb hbox hg; have hnb53 := NB159_142.out; have hnc53 := NB142_159.out; have hnb54 := NB159_143.out; have hnc54 := NB143_159.out; have hcz55_0 : w52.cell? ⟨gb159, 0, none⟩ = some (.bool false) := (blk_cell BK159.out 0).trans rfl; have hcz55_1 : w52.cell? ⟨gb159, 1, none⟩ = some (.bool false) := (blk_cell BK159.out 1).trans rfl; have hcz55_2 : w52.cell? ⟨gb159, 2, none⟩ = some (.bool false) := (blk_cell BK159.out 2).trans rfl; have hcz55_3 : w52.cell? ⟨gb159, 3, none⟩ = some (.bool false) := (blk_cell BK159.out 3).trans rfl; have hcz55_4 : w52.cell? ⟨gb159, 4, none⟩ = some (.bool false) := (blk_cell BK159.out 4).trans rfl; have hcz55_5 : w52.cell? ⟨gb159, 5, none⟩ = some (.bool false) := (blk_cell BK159.out 5).trans rfl; have hcz55_6 : w52.cell? ⟨gb159, 6, none⟩ = some (.bool false) := (blk_cell BK159.out 6).trans rfl; have hcz55_7 : w52.cell? ⟨gb159, 7, none⟩ = some (.bool false) := (blk_cell BK159.out 7).trans rfl; have hcz55_8 : w52.cell? ⟨gb159, 8, none⟩ = some (.int .i64 0) := (blk_cell BK159.out 8).trans rfl; have hfz55_0 := blk_frozen BK159.out 0; have hfz55_1 := blk_frozen BK159.out 1; have hfz55_2 := blk_frozen BK159.out 2; have hfz55_3 := blk_frozen BK159.out 3; have hfz55_4 := blk_frozen BK159.out 4; have hfz55_5 := blk_frozen BK159.out 5; have hfz55_6 := blk_frozen BK159.out 6; have hfz55_7 := blk_frozen BK159.out 7; have hfz55_8 := blk_frozen BK159.out 8))
                    (try simp only [Act.put, List.setIfInBounds_toArray, List.set_cons_zero, List.set_cons_succ])
                    go_cut [86] (fun v86 wc => ∃ (kq : Nat) (x86_45 : Bool), v86 = .bool x86_45 ∧ Aside0 (spec_l6Walk.j1 kq a3 a4 (wrap64 (256 * t144)) x86_45 0 a2 ji19 0 0 t149 t150 t151 t152 t153 t154 t155 t156 t157 = some (r1, r2, r3, r4, r5)) ∧ Aside0 (kq ≤ kj6) ∧ Aside0 (wc.heap[gb142]? = some (.cells #[.int .i64 0, .int .i64 0, .int .i64 0, .int .i64 0, .int .u64 0] 36 (0, 0))) ∧ Aside0 (wc.heap[gb143]? = some (.cells #[.int .i64 0, .int .i64 a2, .int .i64 ji19, .int .i64 0, .int .u64 0] 36 (0, 0))) ∧ Aside0 (wc.heap[gb159]? = some (.cells #[.bool t149, .bool t150, .bool t151, .bool t152, .bool t153, .bool t154, .bool t155, .bool t156, .int .i64 t157] 27 (0, 0))) ∧ Aside0 (Below w.heap.size w wc))
                    case first =>
                      have H := HC46.out
                      clear HC46
                      by_cases c56 : a5 = true
                      · subst c56
                        have H1 : (spec_l6Walk.j1 kj6 a3 a4 (wrap64 (256 * t144)) (!t153) 0 a2 ji19 0 0 t149 t150 t151 t152 t153 t154 t155 t156 t157) = some (r1, r2, r3, r4, r5) := by rw [if_pos rfl] at H; exact H
                        clear H
                        have H := H1
                        clear H1
                        have H' := Aside0.mk H
                        clear H
                        have hnb57 := NB159_142.out
                        have hnc57 := NB142_159.out
                        have hnb58 := NB159_143.out
                        have hnc58 := NB143_159.out
                        have hcz59_0 : w52.cell? ⟨gb159, 0, none⟩ = some (.bool false) := (blk_cell BK159.out 0).trans rfl
                        have hcz59_1 : w52.cell? ⟨gb159, 1, none⟩ = some (.bool false) := (blk_cell BK159.out 1).trans rfl
                        have hcz59_2 : w52.cell? ⟨gb159, 2, none⟩ = some (.bool false) := (blk_cell BK159.out 2).trans rfl
                        have hcz59_3 : w52.cell? ⟨gb159, 3, none⟩ = some (.bool false) := (blk_cell BK159.out 3).trans rfl
                        have hcz59_4 : w52.cell? ⟨gb159, 4, none⟩ = some (.bool false) := (blk_cell BK159.out 4).trans rfl
                        have hcz59_5 : w52.cell? ⟨gb159, 5, none⟩ = some (.bool false) := (blk_cell BK159.out 5).trans rfl
                        have hcz59_6 : w52.cell? ⟨gb159, 6, none⟩ = some (.bool false) := (blk_cell BK159.out 6).trans rfl
                        have hcz59_7 : w52.cell? ⟨gb159, 7, none⟩ = some (.bool false) := (blk_cell BK159.out 7).trans rfl
                        have hcz59_8 : w52.cell? ⟨gb159, 8, none⟩ = some (.int .i64 0) := (blk_cell BK159.out 8).trans rfl
                        have hfz59_0 := blk_frozen BK159.out 0
                        have hfz59_1 := blk_frozen BK159.out 1
                        have hfz59_2 := blk_frozen BK159.out 2
                        have hfz59_3 := blk_frozen BK159.out 3
                        have hfz59_4 := blk_frozen BK159.out 4
                        have hfz59_5 := blk_frozen BK159.out 5
                        have hfz59_6 := blk_frozen BK159.out 6
                        have hfz59_7 := blk_frozen BK159.out 7
                        have hfz59_8 := blk_frozen BK159.out 8
                        go_wp2
                        go_meet
                        case rel => exact ⟨_, (!t153), (by first | rfl | exact congrArg (Value.int .i64) (i64_w _) | (simp; done) | (simp [*]; done)), H', ⟨by have := HJ6.out; first | omega | exact Nat.le_refl _⟩, ⟨by (with_reducible repeat (first | refine blk_drewN ?_ _ | refine blk_drew ?_ | refine blk_alloc ?_ _)); refine blk_far ?_ NB142_159.out _; (with_reducible repeat (first | refine blk_drewN ?_ _ | refine blk_drew ?_ | refine blk_alloc ?_ _)); refine blk_far ?_ NB142_159.out _; (with_reducible repeat (first | refine blk_drewN ?_ _ | refine blk_drew ?_ | refine blk_alloc ?_ _)); refine blk_far ?_ NB142_159.out _; (with_reducible repeat (first | refine blk_drewN ?_ _ | refine blk_drew ?_ | refine blk_alloc ?_ _)); refine blk_far ?_ NB142_159.out _; (with_reducible repeat (first | refine blk_drewN ?_ _ | refine blk_drew ?_ | refine blk_alloc ?_ _)); refine blk_far ?_ NB142_159.out _; (with_reducible repeat (first | refine blk_drewN ?_ _ | refine blk_drew ?_ | refine blk_alloc ?_ _)); refine blk_far ?_ NB142_159.out _; (with_reducible repeat (first | refine blk_drewN ?_ _ | refine blk_drew ?_ | refine blk_alloc ?_ _)); refine blk_far ?_ NB142_159.out _; (with_reducible repeat (first | refine blk_drewN ?_ _ | refine blk_drew ?_ | refine blk_alloc ?_ _)); refine blk_far ?_ NB142_159.out _; (with_reducible repeat (first | refine blk_drewN ?_ _ | refine blk_drew ?_ | refine blk_alloc ?_ _)); refine blk_far ?_ NB142_159.out _; (with_reducible repeat (first | refine blk_drewN ?_ _ | refine blk_drew ?_ | refine blk_alloc ?_ _)); exact BK142.out⟩, ⟨by (with_reducible repeat (first | refine blk_drewN ?_ _ | refine blk_drew ?_ | refine blk_alloc ?_ _)); refine blk_far ?_ NB143_159.out _; (with_reducible repeat (first | refine blk_drewN ?_ _ | refine blk_drew ?_ | refine blk_alloc ?_ _)); refine blk_far ?_ NB143_159.out _; (with_reducible repeat (first | refine blk_drewN ?_ _ | refine blk_drew ?_ | refine blk_alloc ?_ _)); refine blk_far ?_ NB143_159.out _; (with_reducible repeat (first | refine blk_drewN ?_ _ | refine blk_drew ?_ | refine blk_alloc ?_ _)); refine blk_far ?_ NB143_159.out _; (with_reducible repeat (first | refine blk_drewN ?_ _ | refine blk_drew ?_ | refine blk_alloc ?_ _)); refine blk_far ?_ NB143_159.out _; (with_reducible repeat (first | refine blk_drewN ?_ _ | refine blk_drew ?_ | refine blk_alloc ?_ _)); refine blk_far ?_ NB143_159.out _; (with_reducible repeat (first | refine blk_drewN ?_ _ | refine blk_drew ?_ | refine blk_alloc ?_ _)); refine blk_far ?_ NB143_159.out _; (with_reducible repeat (first | refine blk_drewN ?_ _ | refine blk_drew ?_ | refine blk_alloc ?_ _)); refine blk_far ?_ NB143_159.out _; (with_reducible repeat (first | refine blk_drewN ?_ _ | refine blk_drew ?_ | refine blk_alloc ?_ _)); refine blk_far ?_ NB143_159.out _; (with_reducible repeat (first | refine blk_drewN ?_ _ | refine blk_drew ?_ | refine blk_alloc ?_ _)); exact BK143.out⟩, ⟨by (with_reducible repeat (first | refine blk_drewN ?_ _ | refine blk_drew ?_ | refine blk_alloc ?_ _)); refine blk_put (cs := #[.bool t149, .bool t150, .bool t151, .bool t152, .bool t153, .bool t154, .bool t155, .bool t156, .int .i64 0]) ?_ 8 _ rfl; (with_reducible repeat (first | refine blk_drewN ?_ _ | refine blk_drew ?_ | refine blk_alloc ?_ _)); refine blk_put (cs := #[.bool t149, .bool t150, .bool t151, .bool t152, .bool t153, .bool t154, .bool t155, .bool false, .int .i64 0]) ?_ 7 _ rfl; (with_reducible repeat (first | refine blk_drewN ?_ _ | refine blk_drew ?_ | refine blk_alloc ?_ _)); refine blk_put (cs := #[.bool t149, .bool t150, .bool t151, .bool t152, .bool t153, .bool t154, .bool false, .bool false, .int .i64 0]) ?_ 6 _ rfl; (with_reducible repeat (first | refine blk_drewN ?_ _ | refine blk_drew ?_ | refine blk_alloc ?_ _)); refine blk_put (cs := #[.bool t149, .bool t150, .bool t151, .bool t152, .bool t153, .bool false, .bool false, .bool false, .int .i64 0]) ?_ 5 _ rfl; (with_reducible repeat (first | refine blk_drewN ?_ _ | refine blk_drew ?_ | refine blk_alloc ?_ _)); refine blk_put (cs := #[.bool t149, .bool t150, .bool t151, .bool t152, .bool false, .bool false, .bool false, .bool false, .int .i64 0]) ?_ 4 _ rfl; (with_reducible repeat (first | refine blk_drewN ?_ _ | refine blk_drew ?_ | refine blk_alloc ?_ _)); refine blk_put (cs := #[.bool t149, .bool t150, .bool t151, .bool false, .bool false, .bool false, .bool false, .bool false, .int .i64 0]) ?_ 3 _ rfl; (with_reducible repeat (first | refine blk_drewN ?_ _ | refine blk_drew ?_ | refine blk_alloc ?_ _)); refine blk_put (cs := #[.bool t149, .bool t150, .bool false, .bool false, .bool false, .bool false, .bool false, .bool false, .int .i64 0]) ?_ 2 _ rfl; (with_reducible repeat (first | refine blk_drewN ?_ _ | refine blk_drew ?_ | refine blk_alloc ?_ _)); refine blk_put (cs := #[.bool t149, .bool false, .bool false, .bool false, .bool false, .bool false, .bool false, .bool false, .int .i64 0]) ?_ 1 _ rfl; (with_reducible repeat (first | refine blk_drewN ?_ _ | refine blk_drew ?_ | refine blk_alloc ?_ _)); refine blk_put (cs := #[.bool false, .bool false, .bool false, .bool false, .bool false, .bool false, .bool false, .bool false, .int .i64 0]) ?_ 0 _ rfl; (with_reducible repeat (first | refine blk_drewN ?_ _ | refine blk_drew ?_ | refine blk_alloc ?_ _)); exact BK159.out⟩, ⟨by repeat (first | (with_reducible first | exact HB.out | apply below_alloc | apply pw_below_drewN | apply below_drew1 | refine below_set ?_ GE142.out | refine below_set ?_ GE143.out | refine below_set ?_ GE159.out) | exact HB.out)⟩⟩
                      · replace c56 := Bool.eq_false_iff.mpr c56
                        subst c56
                        have H1 : (spec_l6Walk.j1 kj6 a3 a4 (wrap64 (256 * t144)) false 0 a2 ji19 0 0 t149 t150 t151 t152 t153 t154 t155 t156 t157) = some (r1, r2, r3, r4, r5) := by rw [if_neg (show ¬ (false = true) by decide)] at H; exact H
                        clear H
                        have H := H1
                        clear H1
                        have H' := Aside0.mk H
                        clear H
                        go_wp2
                        go_meet
                        case rel => exact ⟨_, (false), (by first | rfl | exact congrArg (Value.int .i64) (i64_w _) | (simp; done) | (simp [*]; done)), H', ⟨by have := HJ6.out; first | omega | exact Nat.le_refl _⟩, ⟨by (with_reducible repeat (first | refine blk_drewN ?_ _ | refine blk_drew ?_ | refine blk_alloc ?_ _)); refine blk_far ?_ NB142_159.out _; (with_reducible repeat (first | refine blk_drewN ?_ _ | refine blk_drew ?_ | refine blk_alloc ?_ _)); refine blk_far ?_ NB142_159.out _; (with_reducible repeat (first | refine blk_drewN ?_ _ | refine blk_drew ?_ | refine blk_alloc ?_ _)); refine blk_far ?_ NB142_159.out _; (with_reducible repeat (first | refine blk_drewN ?_ _ | refine blk_drew ?_ | refine blk_alloc ?_ _)); refine blk_far ?_ NB142_159.out _; (with_reducible repeat (first | refine blk_drewN ?_ _ | refine blk_drew ?_ | refine blk_alloc ?_ _)); refine blk_far ?_ NB142_159.out _; (with_reducible repeat (first | refine blk_drewN ?_ _ | refine blk_drew ?_ | refine blk_alloc ?_ _)); refine blk_far ?_ NB142_159.out _; (with_reducible repeat (first | refine blk_drewN ?_ _ | refine blk_drew ?_ | refine blk_alloc ?_ _)); refine blk_far ?_ NB142_159.out _; (with_reducible repeat (first | refine blk_drewN ?_ _ | refine blk_drew ?_ | refine blk_alloc ?_ _)); refine blk_far ?_ NB142_159.out _; (with_reducible repeat (first | refine blk_drewN ?_ _ | refine blk_drew ?_ | refine blk_alloc ?_ _)); refine blk_far ?_ NB142_159.out _; (with_reducible repeat (first | refine blk_drewN ?_ _ | refine blk_drew ?_ | refine blk_alloc ?_ _)); exact BK142.out⟩, ⟨by (with_reducible repeat (first | refine blk_drewN ?_ _ | refine blk_drew ?_ | refine blk_alloc ?_ _)); refine blk_far ?_ NB143_159.out _; (with_reducible repeat (first | refine blk_drewN ?_ _ | refine blk_drew ?_ | refine blk_alloc ?_ _)); refine blk_far ?_ NB143_159.out _; (with_reducible repeat (first | refine blk_drewN ?_ _ | refine blk_drew ?_ | refine blk_alloc ?_ _)); refine blk_far ?_ NB143_159.out _; (with_reducible repeat (first | refine blk_drewN ?_ _ | refine blk_drew ?_ | refine blk_alloc ?_ _)); refine blk_far ?_ NB143_159.out _; (with_reducible repeat (first | refine blk_drewN ?_ _ | refine blk_drew ?_ | refine blk_alloc ?_ _)); refine blk_far ?_ NB143_159.out _; (with_reducible repeat (first | refine blk_drewN ?_ _ | refine blk_drew ?_ | refine blk_alloc ?_ _)); refine blk_far ?_ NB143_159.out _; (with_reducible repeat (first | refine blk_drewN ?_ _ | refine blk_drew ?_ | refine blk_alloc ?_ _)); refine blk_far ?_ NB143_159.out _; (with_reducible repeat (first | refine blk_drewN ?_ _ | refine blk_drew ?_ | refine blk_alloc ?_ _)); refine blk_far ?_ NB143_159.out _; (with_reducible repeat (first | refine blk_drewN ?_ _ | refine blk_drew ?_ | refine blk_alloc ?_ _)); refine blk_far ?_ NB143_159.out _; (with_reducible repeat (first | refine blk_drewN ?_ _ | refine blk_drew ?_ | refine blk_alloc ?_ _)); exact BK143.out⟩, ⟨by (with_reducible repeat (first | refine blk_drewN ?_ _ | refine blk_drew ?_ | refine blk_alloc ?_ _)); refine blk_put (cs := #[.bool t149, .bool t150, .bool t151, .bool t152, .bool t153, .bool t154, .bool t155, .bool t156, .int .i64 0]) ?_ 8 _ rfl; (with_reducible repeat (first | refine blk_drewN ?_ _ | refine blk_drew ?_ | refine blk_alloc ?_ _)); refine blk_put (cs := #[.bool t149, .bool t150, .bool t151, .bool t152, .bool t153, .bool t154, .bool t155, .bool false, .int .i64 0]) ?_ 7 _ rfl; (with_reducible repeat (first | refine blk_drewN ?_ _ | refine blk_drew ?_ | refine blk_alloc ?_ _)); refine blk_put (cs := #[.bool t149, .bool t150, .bool t151, .bool t152, .bool t153, .bool t154, .bool false, .bool false, .int .i64 0]) ?_ 6 _ rfl; (with_reducible repeat (first | refine blk_drewN ?_ _ | refine blk_drew ?_ | refine blk_alloc ?_ _)); refine blk_put (cs := #[.bool t149, .bool t150, .bool t151, .bool t152, .bool t153, .bool false, .bool false, .bool false, .int .i64 0]) ?_ 5 _ rfl; (with_reducible repeat (first | refine blk_drewN ?_ _ | refine blk_drew ?_ | refine blk_alloc ?_ _)); refine blk_put (cs := #[.bool t149, .bool t150, .bool t151, .bool t152, .bool false, .bool false, .bool false, .bool false, .int .i64 0]) ?_ 4 _ rfl; (with_reducible repeat (first | refine blk_drewN ?_ _ | refine blk_drew ?_ | refine blk_alloc ?_ _)); refine blk_put (cs := #[.bool t149, .bool t150, .bool t151, .bool false, .bool false, .bool false, .bool false, .bool false, .int .i64 0]) ?_ 3 _ rfl; (with_reducible repeat (first | refine blk_drewN ?_ _ | refine blk_drew ?_ | refine blk_alloc ?_ _)); refine blk_put (cs := #[.bool t149, .bool t150, .bool false, .bool false, .bool false, .bool false, .bool false, .bool false, .int .i64 0]) ?_ 2 _ rfl; (with_reducible repeat (first | refine blk_drewN ?_ _ | refine blk_drew ?_ | refine blk_alloc ?_ _)); refine blk_put (cs := #[.bool t149, .bool false, .bool false, .bool false, .bool false, .bool false, .bool false, .bool false, .int .i64 0]) ?_ 1 _ rfl; (with_reducible repeat (first | refine blk_drewN ?_ _ | refine blk_drew ?_ | refine blk_alloc ?_ _)); refine blk_put (cs := #[.bool false, .bool false, .bool false, .bool false, .bool false, .bool false, .bool false, .bool false, .int .i64 0]) ?_ 0 _ rfl; (with_reducible repeat (first | refine blk_drewN ?_ _ | refine blk_drew ?_ | refine blk_alloc ?_ _)); exact BK159.out⟩, ⟨by repeat (first | (with_reducible first | exact HB.out | apply below_alloc | apply pw_below_drewN | apply below_drew1 | refine below_set ?_ GE142.out | refine below_set ?_ GE143.out | refine below_set ?_ GE159.out) | exact HB.out)⟩⟩
                    case rest =>
                      clear HC46
                      try clear c1
                      try clear c2
                      try clear p2
                      try clear c3
                      try clear c4
                      try clear c5
                      try clear p6
                      try clear c8
                      try clear c10
                      try clear c12
                      try clear c12b0
                      try clear c13
                      try clear c14
                      try clear c15
                      try clear c18
                      try clear c18b0
                      try clear c18b1
                      try clear c20
                      try clear c20b0
                      try clear c20b1
                      try clear c21
                      try clear c21b0
                      try clear c21b1
                      try clear c22
                      try clear c22b0
                      try clear c22b1
                      try clear c25
                      try clear c25b0
                      try clear c26
                      try clear c33
                      try clear c33b0
                      try clear c33b1
                      try clear c35
                      try clear c41
                      try clear c42
                      try clear c47
                      try clear c52
                      try clear c53
                      try clear c54
                      try clear c56
                      try clear c57
                      try clear c58
                      try clear hcz11_0
                      try clear hcz11_1
                      try clear hcz11_2
                      try clear hcz11_3
                      try clear hcz11_4
                      try clear hcz15_0
                      try clear hcz15_1
                      try clear hcz15_2
                      try clear hcz15_3
                      try clear hcz15_4
                      try clear hcz16_0
                      try clear hcz16_1
                      try clear hcz16_2
                      try clear hcz16_3
                      try clear hcz16_4
                      try clear hcz27_0
                      try clear hcz27_1
                      try clear hcz27_2
                      try clear hcz27_3
                      try clear hcz27_4
                      try clear hcz30_0
                      try clear hcz30_1
                      try clear hcz30_2
                      try clear hcz30_3
                      try clear hcz30_4
                      try clear hcz31_0
                      try clear hcz31_1
                      try clear hcz31_2
                      try clear hcz31_3
                      try clear hcz31_4
                      try clear hcz36_0
                      try clear hcz36_1
                      try clear hcz36_2
                      try clear hcz36_3
                      try clear hcz36_4
                      try clear hcz43_0
                      try clear hcz43_1
                      try clear hcz43_2
                      try clear hcz43_3
                      try clear hcz43_4
                      try clear hcz43_5
                      try clear hcz43_6
                      try clear hcz43_7
                      try clear hcz43_8
                      try clear hcz45_0
                      try clear hcz45_1
                      try clear hcz45_2
                      try clear hcz45_3
                      try clear hcz45_4
                      try clear hcz48_0
                      try clear hcz48_1
                      try clear hcz48_2
                      try clear hcz48_3
                      try clear hcz48_4
                      try clear hcz55_0
                      try clear hcz55_1
                      try clear hcz55_2
                      try clear hcz55_3
                      try clear hcz55_4
                      try clear hcz55_5
                      try clear hcz55_6
                      try clear hcz55_7
                      try clear hcz55_8
                      try clear hcz59_0
                      try clear hcz59_1
                      try clear hcz59_2
                      try clear hcz59_3
                      try clear hcz59_4
                      try clear hcz59_5
                      try clear hcz59_6
                      try clear hcz59_7
                      try clear hcz59_8
                      try clear hfz11_0
                      try clear hfz11_1
                      try clear hfz11_2
                      try clear hfz11_3
                      try clear hfz11_4
                      try clear hfz15_0
                      try clear hfz15_1
                      try clear hfz15_2
                      try clear hfz15_3
                      try clear hfz15_4
                      try clear hfz16_0
                      try clear hfz16_1
                      try clear hfz16_2
                      try clear hfz16_3
                      try clear hfz16_4
                      try clear hfz27_0
                      try clear hfz27_1
                      try clear hfz27_2
                      try clear hfz27_3
                      try clear hfz27_4
                      try clear hfz30_0
                      try clear hfz30_1
                      try clear hfz30_2
                      try clear hfz30_3
                      try clear hfz30_4
                      try clear hfz31_0
                      try clear hfz31_1
                      try clear hfz31_2
                      try clear hfz31_3
                      try clear hfz31_4
                      try clear hfz36_0
                      try clear hfz36_1
                      try clear hfz36_2
                      try clear hfz36_3
                      try clear hfz36_4
                      try clear hfz43_0
                      try clear hfz43_1
                      try clear hfz43_2
                      try clear hfz43_3
                      try clear hfz43_4
                      try clear hfz43_5
                      try clear hfz43_6
                      try clear hfz43_7
                      try clear hfz43_8
                      try clear hfz45_0
                      try clear hfz45_1
                      try clear hfz45_2
                      try clear hfz45_3
                      try clear hfz45_4
                      try clear hfz48_0
                      try clear hfz48_1
                      try clear hfz48_2
                      try clear hfz48_3
                      try clear hfz48_4
                      try clear hfz55_0
                      try clear hfz55_1
                      try clear hfz55_2
                      try clear hfz55_3
                      try clear hfz55_4
                      try clear hfz55_5
                      try clear hfz55_6
                      try clear hfz55_7
                      try clear hfz55_8
                      try clear hfz59_0
                      try clear hfz59_1
                      try clear hfz59_2
                      try clear hfz59_3
                      try clear hfz59_4
                      try clear hfz59_5
                      try clear hfz59_6
                      try clear hfz59_7
                      try clear hfz59_8
                      try clear p2
                      try clear p6
                      obtain ⟨kq, x86_45, rfl, HA, HJ45, BK142, BK143, BK159, HB⟩ := hcut
                      cases kq with
                      | zero => exact absurd HA.out (by simp [spec_l6Walk.j1])
                      | succ kj45 =>
                        have H := HA.out
                        clear HA
                        simp only [spec_l6Walk.j1] at H
                        by_cases c60 : x86_45 = true
                        · subst c60
                          have H1 : (some (7, a2, ji19, 0, 0)) = some (r1, r2, r3, r4, r5) := by rw [if_pos rfl] at H; exact H
                          clear H
                          have H := H1
                          clear H1
                          simp only [Option.some.injEq, Prod.mk.injEq] at H
                          obtain ⟨rfl, rfl, rfl, rfl, rfl⟩ := H
                          have hnb61 := NB143_142.out
                          have hnc61 := NB142_143.out
                          have hnb62 := NB143_159.out
                          have hnc62 := NB159_143.out
                          have hcz63_0 : wc.cell? ⟨gb143, 0, none⟩ = some (.int .i64 0) := (blk_cell BK143.out 0).trans rfl
                          have hcz63_1 : wc.cell? ⟨gb143, 1, none⟩ = some (.int .i64 a2) := (blk_cell BK143.out 1).trans rfl
                          have hcz63_2 : wc.cell? ⟨gb143, 2, none⟩ = some (.int .i64 ji19) := (blk_cell BK143.out 2).trans rfl
                          have hcz63_3 : wc.cell? ⟨gb143, 3, none⟩ = some (.int .i64 0) := (blk_cell BK143.out 3).trans rfl
                          have hcz63_4 : wc.cell? ⟨gb143, 4, none⟩ = some (.int .u64 0) := (blk_cell BK143.out 4).trans rfl
                          have hfz63_0 := blk_frozen BK143.out 0
                          have hfz63_1 := blk_frozen BK143.out 1
                          have hfz63_2 := blk_frozen BK143.out 2
                          have hfz63_3 := blk_frozen BK143.out 3
                          have hfz63_4 := blk_frozen BK143.out 4
                          have hnb64 := NB142_159.out
                          have hnc64 := NB159_142.out
                          have hcz65_0 : wc.cell? ⟨gb142, 0, none⟩ = some (.int .i64 0) := (blk_cell BK142.out 0).trans rfl
                          have hcz65_1 : wc.cell? ⟨gb142, 1, none⟩ = some (.int .i64 0) := (blk_cell BK142.out 1).trans rfl
                          have hcz65_2 : wc.cell? ⟨gb142, 2, none⟩ = some (.int .i64 0) := (blk_cell BK142.out 2).trans rfl
                          have hcz65_3 : wc.cell? ⟨gb142, 3, none⟩ = some (.int .i64 0) := (blk_cell BK142.out 3).trans rfl
                          have hcz65_4 : wc.cell? ⟨gb142, 4, none⟩ = some (.int .u64 0) := (blk_cell BK142.out 4).trans rfl
                          have hfz65_0 := blk_frozen BK142.out 0
                          have hfz65_1 := blk_frozen BK142.out 1
                          have hfz65_2 := blk_frozen BK142.out 2
                          have hfz65_3 := blk_frozen BK142.out 3
                          have hfz65_4 := blk_frozen BK142.out 4
                          go_wp2
                          refine bodyPost_ret (results_cell_row rfl _ _ gb142 36 #[.int .i64 7, .int .i64 a2, .int .i64 ji19, .int .i64 0, .int .u64 0] (0, 0) _ rfl (by (with_reducible repeat (first | refine blk_drewN ?_ _ | refine blk_drew ?_ | refine blk_alloc ?_ _)); refine blk_put (cs := #[.int .i64 7, .int .i64 a2, .int .i64 ji19, .int .i64 0, .int .u64 0]) ?_ 4 _ rfl; (with_reducible repeat (first | refine blk_drewN ?_ _ | refine blk_drew ?_ | refine blk_alloc ?_ _)); refine blk_put (cs := #[.int .i64 7, .int .i64 a2, .int .i64 ji19, .int .i64 0, .int .u64 0]) ?_ 3 _ rfl; (with_reducible repeat (first | refine blk_drewN ?_ _ | refine blk_drew ?_ | refine blk_alloc ?_ _)); refine blk_put (cs := #[.int .i64 7, .int .i64 a2, .int .i64 0, .int .i64 0, .int .u64 0]) ?_ 2 _ rfl; (with_reducible repeat (first | refine blk_drewN ?_ _ | refine blk_drew ?_ | refine blk_alloc ?_ _)); refine blk_put (cs := #[.int .i64 7, .int .i64 0, .int .i64 0, .int .i64 0, .int .u64 0]) ?_ 1 _ rfl; (with_reducible repeat (first | refine blk_drewN ?_ _ | refine blk_drew ?_ | refine blk_alloc ?_ _)); refine blk_put (cs := #[.int .i64 0, .int .i64 0, .int .i64 0, .int .i64 0, .int .u64 0]) ?_ 0 _ rfl; (with_reducible repeat (first | refine blk_drewN ?_ _ | refine blk_drew ?_ | refine blk_alloc ?_ _)); refine blk_far ?_ NB142_143.out _; (with_reducible repeat (first | refine blk_drewN ?_ _ | refine blk_drew ?_ | refine blk_alloc ?_ _)); exact BK142.out) Try.underlying36 rfl (by kernel_rfl)) rfl ?_
                          exact ⟨by first | rfl | (simp [errW_none, errW_some] <;> rfl) | (simp only [← hji19]; first | rfl | (simp [errW_none, errW_some] <;> rfl)) | (simp [*, errW_none, errW_some] <;> rfl), by repeat (first | (with_reducible first | exact HB.out | apply below_alloc | apply pw_below_drewN | apply below_drew1 | refine below_set ?_ GE142.out | refine below_set ?_ GE143.out | refine below_set ?_ GE159.out) | exact HB.out)⟩
                        · replace c60 := Bool.eq_false_iff.mpr c60
                          subst c60
                          have H1 : (if a4 = 0 then (if t150 = true then (if a4 = 1 then (if t151 = true then (if a4 = 2 then (spec_l6Walk.j2 kj45 a3 a4 (wrap64 (256 * t144)) (!t152) 0 a2 ji19 0 0 t149 t150 t151 t152 t153 t154 t155 t156 t157) else (spec_l6Walk.j2 kj45 a3 a4 (wrap64 (256 * t144)) false 0 a2 ji19 0 0 t149 t150 t151 t152 t153 t154 t155 t156 t157)) else (spec_l6Walk.j2 kj45 a3 a4 (wrap64 (256 * t144)) true 0 a2 ji19 0 0 t149 t150 t151 t152 t153 t154 t155 t156 t157)) else (if a4 = 2 then (spec_l6Walk.j2 kj45 a3 a4 (wrap64 (256 * t144)) (!t152) 0 a2 ji19 0 0 t149 t150 t151 t152 t153 t154 t155 t156 t157) else (spec_l6Walk.j2 kj45 a3 a4 (wrap64 (256 * t144)) false 0 a2 ji19 0 0 t149 t150 t151 t152 t153 t154 t155 t156 t157))) else (spec_l6Walk.j2 kj45 a3 a4 (wrap64 (256 * t144)) true 0 a2 ji19 0 0 t149 t150 t151 t152 t153 t154 t155 t156 t157)) else (if a4 = 1 then (if t151 = true then (if a4 = 2 then (spec_l6Walk.j2 kj45 a3 a4 (wrap64 (256 * t144)) (!t152) 0 a2 ji19 0 0 t149 t150 t151 t152 t153 t154 t155 t156 t157) else (spec_l6Walk.j2 kj45 a3 a4 (wrap64 (256 * t144)) false 0 a2 ji19 0 0 t149 t150 t151 t152 t153 t154 t155 t156 t157)) else (spec_l6Walk.j2 kj45 a3 a4 (wrap64 (256 * t144)) true 0 a2 ji19 0 0 t149 t150 t151 t152 t153 t154 t155 t156 t157)) else (if a4 = 2 then (spec_l6Walk.j2 kj45 a3 a4 (wrap64 (256 * t144)) (!t152) 0 a2 ji19 0 0 t149 t150 t151 t152 t153 t154 t155 t156 t157) else (spec_l6Walk.j2 kj45 a3 a4 (wrap64 (256 * t144)) false 0 a2 ji19 0 0 t149 t150 t151 t152 t153 t154 t155 t156 t157)))) = some (r1, r2, r3, r4, r5) := by rw [if_neg (show ¬ (false = true) by decide)] at H; exact H
                          clear H
                          have H := H1
                          clear H1
                          have HC66 := Aside0.mk H
                          clear H
                          go_upto_region 18 with (fail)
                          go_cut [113] (fun v113 wc => ∃ (kq : Nat) (x113_65 : Bool), v113 = .bool x113_65 ∧ Aside0 (spec_l6Walk.j2 kq a3 a4 (wrap64 (256 * t144)) x113_65 0 a2 ji19 0 0 t149 t150 t151 t152 t153 t154 t155 t156 t157 = some (r1, r2, r3, r4, r5)) ∧ Aside0 (kq ≤ kj45) ∧ Aside0 (wc.heap[gb142]? = some (.cells #[.int .i64 0, .int .i64 0, .int .i64 0, .int .i64 0, .int .u64 0] 36 (0, 0))) ∧ Aside0 (wc.heap[gb143]? = some (.cells #[.int .i64 0, .int .i64 a2, .int .i64 ji19, .int .i64 0, .int .u64 0] 36 (0, 0))) ∧ Aside0 (wc.heap[gb159]? = some (.cells #[.bool t149, .bool t150, .bool t151, .bool t152, .bool t153, .bool t154, .bool t155, .bool t156, .int .i64 t157] 27 (0, 0))) ∧ Aside0 (Below w.heap.size w wc))
                          case first =>
                            have H := HC66.out
                            clear HC66
                            by_cases c67 : a4 = 0
                            · rw [if_pos c67] at H
                              have c67b0 : (a4 == 0) = true := beq_iff_eq.mpr c67
                              have c67b1 : (a4 != 0) = false := bne_eq_false_iff_eq.mpr c67
                              clear c67
                              (first | rw [c67b0] | (simp only [i64_w, i32_w]; rw [c67b0]) | skip)
                              by_cases c68 : t150 = true
                              · subst c68
                                have H1 : (if a4 = 1 then (if t151 = true then (if a4 = 2 then (spec_l6Walk.j2 kj45 a3 a4 (wrap64 (256 * t144)) (!t152) 0 a2 ji19 0 0 t149 true t151 t152 t153 t154 t155 t156 t157) else (spec_l6Walk.j2 kj45 a3 a4 (wrap64 (256 * t144)) false 0 a2 ji19 0 0 t149 true t151 t152 t153 t154 t155 t156 t157)) else (spec_l6Walk.j2 kj45 a3 a4 (wrap64 (256 * t144)) true 0 a2 ji19 0 0 t149 true t151 t152 t153 t154 t155 t156 t157)) else (if a4 = 2 then (spec_l6Walk.j2 kj45 a3 a4 (wrap64 (256 * t144)) (!t152) 0 a2 ji19 0 0 t149 true t151 t152 t153 t154 t155 t156 t157) else (spec_l6Walk.j2 kj45 a3 a4 (wrap64 (256 * t144)) false 0 a2 ji19 0 0 t149 true t151 t152 t153 t154 t155 t156 t157))) = some (r1, r2, r3, r4, r5) := by rw [if_pos rfl] at H; exact H
                                clear H
                                have H := H1
                                clear H1
                                by_cases c69 : a4 = 1
                                · rw [if_pos c69] at H
                                  have c69b0 : (a4 == 1) = true := beq_iff_eq.mpr c69
                                  have c69b1 : (a4 != 1) = false := bne_eq_false_iff_eq.mpr c69
                                  clear c69
                                  by_cases c70 : t151 = true
                                  · subst c70
                                    have H1 : (if a4 = 2 then (spec_l6Walk.j2 kj45 a3 a4 (wrap64 (256 * t144)) (!t152) 0 a2 ji19 0 0 t149 true true t152 t153 t154 t155 t156 t157) else (spec_l6Walk.j2 kj45 a3 a4 (wrap64 (256 * t144)) false 0 a2 ji19 0 0 t149 true true t152 t153 t154 t155 t156 t157)) = some (r1, r2, r3, r4, r5) := by rw [if_pos rfl] at H; exact H
                                    clear H
                                    have H := H1
                                    clear H1
                                    by_cases c71 : a4 = 2
                                    · rw [if_pos c71] at H
                                      have c71b0 : (a4 == 2) = true := beq_iff_eq.mpr c71
                                      have c71b1 : (a4 != 2) = false := bne_eq_false_iff_eq.mpr c71
                                      clear c71
                                      have H' := Aside0.mk H
                                      clear H
                                      have hnb72 := NB159_142.out
                                      have hnc72 := NB142_159.out
                                      have hnb73 := NB159_143.out
                                      have hnc73 := NB143_159.out
                                      have hcz74_0 : wc.cell? ⟨gb159, 0, none⟩ = some (.bool t149) := (blk_cell BK159.out 0).trans rfl
                                      have hcz74_1 : wc.cell? ⟨gb159, 1, none⟩ = some (.bool true) := (blk_cell BK159.out 1).trans rfl
                                      have hcz74_2 : wc.cell? ⟨gb159, 2, none⟩ = some (.bool true) := (blk_cell BK159.out 2).trans rfl
                                      have hcz74_3 : wc.cell? ⟨gb159, 3, none⟩ = some (.bool t152) := (blk_cell BK159.out 3).trans rfl
                                      have hcz74_4 : wc.cell? ⟨gb159, 4, none⟩ = some (.bool t153) := (blk_cell BK159.out 4).trans rfl
                                      have hcz74_5 : wc.cell? ⟨gb159, 5, none⟩ = some (.bool t154) := (blk_cell BK159.out 5).trans rfl
                                      have hcz74_6 : wc.cell? ⟨gb159, 6, none⟩ = some (.bool t155) := (blk_cell BK159.out 6).trans rfl
                                      have hcz74_7 : wc.cell? ⟨gb159, 7, none⟩ = some (.bool t156) := (blk_cell BK159.out 7).trans rfl
                                      have hcz74_8 : wc.cell? ⟨gb159, 8, none⟩ = some (.int .i64 t157) := (blk_cell BK159.out 8).trans rfl
                                      have hfz74_0 := blk_frozen BK159.out 0
                                      have hfz74_1 := blk_frozen BK159.out 1
                                      have hfz74_2 := blk_frozen BK159.out 2
                                      have hfz74_3 := blk_frozen BK159.out 3
                                      have hfz74_4 := blk_frozen BK159.out 4
                                      have hfz74_5 := blk_frozen BK159.out 5
                                      have hfz74_6 := blk_frozen BK159.out 6
                                      have hfz74_7 := blk_frozen BK159.out 7
                                      have hfz74_8 := blk_frozen BK159.out 8
                                      go_wp2
                                      go_meet
                                      case rel => exact ⟨_, (!t152), (by first | rfl | exact congrArg (Value.int .i64) (i64_w _) | (simp; done) | (simp [*]; done)), H', ⟨by have := HJ6.out; have := HJ45.out; first | omega | exact Nat.le_refl _⟩, ⟨by (with_reducible repeat (first | refine blk_drewN ?_ _ | refine blk_drew ?_ | refine blk_alloc ?_ _)); exact BK142.out⟩, ⟨by (with_reducible repeat (first | refine blk_drewN ?_ _ | refine blk_drew ?_ | refine blk_alloc ?_ _)); exact BK143.out⟩, ⟨by (with_reducible repeat (first | refine blk_drewN ?_ _ | refine blk_drew ?_ | refine blk_alloc ?_ _)); exact BK159.out⟩, ⟨by repeat (first | (with_reducible first | exact HB.out | apply below_alloc | apply pw_below_drewN | apply below_drew1 | refine below_set ?_ GE142.out | refine below_set ?_ GE143.out | refine below_set ?_ GE159.out) | exact HB.out)⟩⟩
                                    · rw [if_neg c71] at H
                                      have c71b0 : (a4 == 2) = false := beq_eq_false_iff_ne.mpr c71
                                      have c71b1 : (a4 != 2) = true := bne_iff_ne.mpr c71
                                      have H' := Aside0.mk H
                                      clear H
                                      have hnb75 := NB159_142.out
                                      have hnc75 := NB142_159.out
                                      have hnb76 := NB159_143.out
                                      have hnc76 := NB143_159.out
                                      have hcz77_0 : wc.cell? ⟨gb159, 0, none⟩ = some (.bool t149) := (blk_cell BK159.out 0).trans rfl
                                      have hcz77_1 : wc.cell? ⟨gb159, 1, none⟩ = some (.bool true) := (blk_cell BK159.out 1).trans rfl
                                      have hcz77_2 : wc.cell? ⟨gb159, 2, none⟩ = some (.bool true) := (blk_cell BK159.out 2).trans rfl
                                      have hcz77_3 : wc.cell? ⟨gb159, 3, none⟩ = some (.bool t152) := (blk_cell BK159.out 3).trans rfl
                                      have hcz77_4 : wc.cell? ⟨gb159, 4, none⟩ = some (.bool t153) := (blk_cell BK159.out 4).trans rfl
                                      have hcz77_5 : wc.cell? ⟨gb159, 5, none⟩ = some (.bool t154) := (blk_cell BK159.out 5).trans rfl
                                      have hcz77_6 : wc.cell? ⟨gb159, 6, none⟩ = some (.bool t155) := (blk_cell BK159.out 6).trans rfl
                                      have hcz77_7 : wc.cell? ⟨gb159, 7, none⟩ = some (.bool t156) := (blk_cell BK159.out 7).trans rfl
                                      have hcz77_8 : wc.cell? ⟨gb159, 8, none⟩ = some (.int .i64 t157) := (blk_cell BK159.out 8).trans rfl
                                      have hfz77_0 := blk_frozen BK159.out 0
                                      have hfz77_1 := blk_frozen BK159.out 1
                                      have hfz77_2 := blk_frozen BK159.out 2
                                      have hfz77_3 := blk_frozen BK159.out 3
                                      have hfz77_4 := blk_frozen BK159.out 4
                                      have hfz77_5 := blk_frozen BK159.out 5
                                      have hfz77_6 := blk_frozen BK159.out 6
                                      have hfz77_7 := blk_frozen BK159.out 7
                                      have hfz77_8 := blk_frozen BK159.out 8
                                      go_wp2
                                      go_meet
                                      case rel => exact ⟨_, (false), (by first | rfl | exact congrArg (Value.int .i64) (i64_w _) | (simp; done) | (simp [*]; done)), H', ⟨by have := HJ6.out; have := HJ45.out; first | omega | exact Nat.le_refl _⟩, ⟨by (with_reducible repeat (first | refine blk_drewN ?_ _ | refine blk_drew ?_ | refine blk_alloc ?_ _)); exact BK142.out⟩, ⟨by (with_reducible repeat (first | refine blk_drewN ?_ _ | refine blk_drew ?_ | refine blk_alloc ?_ _)); exact BK143.out⟩, ⟨by (with_reducible repeat (first | refine blk_drewN ?_ _ | refine blk_drew ?_ | refine blk_alloc ?_ _)); exact BK159.out⟩, ⟨by repeat (first | (with_reducible first | exact HB.out | apply below_alloc | apply pw_below_drewN | apply below_drew1 | refine below_set ?_ GE142.out | refine below_set ?_ GE143.out | refine below_set ?_ GE159.out) | exact HB.out)⟩⟩
                                  · replace c70 := Bool.eq_false_iff.mpr c70
                                    subst c70
                                    have H1 : (spec_l6Walk.j2 kj45 a3 a4 (wrap64 (256 * t144)) true 0 a2 ji19 0 0 t149 true false t152 t153 t154 t155 t156 t157) = some (r1, r2, r3, r4, r5) := by rw [if_neg (show ¬ (false = true) by decide)] at H; exact H
                                    clear H
                                    have H := H1
                                    clear H1
                                    have H' := Aside0.mk H
                                    clear H
                                    have hnb78 := NB159_142.out
                                    have hnc78 := NB142_159.out
                                    have hnb79 := NB159_143.out
                                    have hnc79 := NB143_159.out
                                    have hcz80_0 : wc.cell? ⟨gb159, 0, none⟩ = some (.bool t149) := (blk_cell BK159.out 0).trans rfl
                                    have hcz80_1 : wc.cell? ⟨gb159, 1, none⟩ = some (.bool true) := (blk_cell BK159.out 1).trans rfl
                                    have hcz80_2 : wc.cell? ⟨gb159, 2, none⟩ = some (.bool false) := (blk_cell BK159.out 2).trans rfl
                                    have hcz80_3 : wc.cell? ⟨gb159, 3, none⟩ = some (.bool t152) := (blk_cell BK159.out 3).trans rfl
                                    have hcz80_4 : wc.cell? ⟨gb159, 4, none⟩ = some (.bool t153) := (blk_cell BK159.out 4).trans rfl
                                    have hcz80_5 : wc.cell? ⟨gb159, 5, none⟩ = some (.bool t154) := (blk_cell BK159.out 5).trans rfl
                                    have hcz80_6 : wc.cell? ⟨gb159, 6, none⟩ = some (.bool t155) := (blk_cell BK159.out 6).trans rfl
                                    have hcz80_7 : wc.cell? ⟨gb159, 7, none⟩ = some (.bool t156) := (blk_cell BK159.out 7).trans rfl
                                    have hcz80_8 : wc.cell? ⟨gb159, 8, none⟩ = some (.int .i64 t157) := (blk_cell BK159.out 8).trans rfl
                                    have hfz80_0 := blk_frozen BK159.out 0
                                    have hfz80_1 := blk_frozen BK159.out 1
                                    have hfz80_2 := blk_frozen BK159.out 2
                                    have hfz80_3 := blk_frozen BK159.out 3
                                    have hfz80_4 := blk_frozen BK159.out 4
                                    have hfz80_5 := blk_frozen BK159.out 5
                                    have hfz80_6 := blk_frozen BK159.out 6
                                    have hfz80_7 := blk_frozen BK159.out 7
                                    have hfz80_8 := blk_frozen BK159.out 8
                                    go_wp2
                                    go_meet
                                    case rel => exact ⟨_, (true), (by first | rfl | exact congrArg (Value.int .i64) (i64_w _) | (simp; done) | (simp [*]; done)), H', ⟨by have := HJ6.out; have := HJ45.out; first | omega | exact Nat.le_refl _⟩, ⟨by (with_reducible repeat (first | refine blk_drewN ?_ _ | refine blk_drew ?_ | refine blk_alloc ?_ _)); exact BK142.out⟩, ⟨by (with_reducible repeat (first | refine blk_drewN ?_ _ | refine blk_drew ?_ | refine blk_alloc ?_ _)); exact BK143.out⟩, ⟨by (with_reducible repeat (first | refine blk_drewN ?_ _ | refine blk_drew ?_ | refine blk_alloc ?_ _)); exact BK159.out⟩, ⟨by repeat (first | (with_reducible first | exact HB.out | apply below_alloc | apply pw_below_drewN | apply below_drew1 | refine below_set ?_ GE142.out | refine below_set ?_ GE143.out | refine below_set ?_ GE159.out) | exact HB.out)⟩⟩
                                · rw [if_neg c69] at H
                                  have c69b0 : (a4 == 1) = false := beq_eq_false_iff_ne.mpr c69
                                  have c69b1 : (a4 != 1) = true := bne_iff_ne.mpr c69
                                  by_cases c81 : a4 = 2
                                  · rw [if_pos c81] at H
                                    have c81b0 : (a4 == 2) = true := beq_iff_eq.mpr c81
                                    have c81b1 : (a4 != 2) = false := bne_eq_false_iff_eq.mpr c81
                                    clear c81
                                    have H' := Aside0.mk H
                                    clear H
                                    have hnb82 := NB159_142.out
                                    have hnc82 := NB142_159.out
                                    have hnb83 := NB159_143.out
                                    have hnc83 := NB143_159.out
                                    have hcz84_0 : wc.cell? ⟨gb159, 0, none⟩ = some (.bool t149) := (blk_cell BK159.out 0).trans rfl
                                    have hcz84_1 : wc.cell? ⟨gb159, 1, none⟩ = some (.bool true) := (blk_cell BK159.out 1).trans rfl
                                    have hcz84_2 : wc.cell? ⟨gb159, 2, none⟩ = some (.bool t151) := (blk_cell BK159.out 2).trans rfl
                                    have hcz84_3 : wc.cell? ⟨gb159, 3, none⟩ = some (.bool t152) := (blk_cell BK159.out 3).trans rfl
                                    have hcz84_4 : wc.cell? ⟨gb159, 4, none⟩ = some (.bool t153) := (blk_cell BK159.out 4).trans rfl
                                    have hcz84_5 : wc.cell? ⟨gb159, 5, none⟩ = some (.bool t154) := (blk_cell BK159.out 5).trans rfl
                                    have hcz84_6 : wc.cell? ⟨gb159, 6, none⟩ = some (.bool t155) := (blk_cell BK159.out 6).trans rfl
                                    have hcz84_7 : wc.cell? ⟨gb159, 7, none⟩ = some (.bool t156) := (blk_cell BK159.out 7).trans rfl
                                    have hcz84_8 : wc.cell? ⟨gb159, 8, none⟩ = some (.int .i64 t157) := (blk_cell BK159.out 8).trans rfl
                                    have hfz84_0 := blk_frozen BK159.out 0
                                    have hfz84_1 := blk_frozen BK159.out 1
                                    have hfz84_2 := blk_frozen BK159.out 2
                                    have hfz84_3 := blk_frozen BK159.out 3
                                    have hfz84_4 := blk_frozen BK159.out 4
                                    have hfz84_5 := blk_frozen BK159.out 5
                                    have hfz84_6 := blk_frozen BK159.out 6
                                    have hfz84_7 := blk_frozen BK159.out 7
                                    have hfz84_8 := blk_frozen BK159.out 8
                                    go_wp2
                                    go_meet
                                    case rel => exact ⟨_, (!t152), (by first | rfl | exact congrArg (Value.int .i64) (i64_w _) | (simp; done) | (simp [*]; done)), H', ⟨by have := HJ6.out; have := HJ45.out; first | omega | exact Nat.le_refl _⟩, ⟨by (with_reducible repeat (first | refine blk_drewN ?_ _ | refine blk_drew ?_ | refine blk_alloc ?_ _)); exact BK142.out⟩, ⟨by (with_reducible repeat (first | refine blk_drewN ?_ _ | refine blk_drew ?_ | refine blk_alloc ?_ _)); exact BK143.out⟩, ⟨by (with_reducible repeat (first | refine blk_drewN ?_ _ | refine blk_drew ?_ | refine blk_alloc ?_ _)); exact BK159.out⟩, ⟨by repeat (first | (with_reducible first | exact HB.out | apply below_alloc | apply pw_below_drewN | apply below_drew1 | refine below_set ?_ GE142.out | refine below_set ?_ GE143.out | refine below_set ?_ GE159.out) | exact HB.out)⟩⟩
                                  · rw [if_neg c81] at H
                                    have c81b0 : (a4 == 2) = false := beq_eq_false_iff_ne.mpr c81
                                    have c81b1 : (a4 != 2) = true := bne_iff_ne.mpr c81
                                    have H' := Aside0.mk H
                                    clear H
                                    have hnb85 := NB159_142.out
                                    have hnc85 := NB142_159.out
                                    have hnb86 := NB159_143.out
                                    have hnc86 := NB143_159.out
                                    have hcz87_0 : wc.cell? ⟨gb159, 0, none⟩ = some (.bool t149) := (blk_cell BK159.out 0).trans rfl
                                    have hcz87_1 : wc.cell? ⟨gb159, 1, none⟩ = some (.bool true) := (blk_cell BK159.out 1).trans rfl
                                    have hcz87_2 : wc.cell? ⟨gb159, 2, none⟩ = some (.bool t151) := (blk_cell BK159.out 2).trans rfl
                                    have hcz87_3 : wc.cell? ⟨gb159, 3, none⟩ = some (.bool t152) := (blk_cell BK159.out 3).trans rfl
                                    have hcz87_4 : wc.cell? ⟨gb159, 4, none⟩ = some (.bool t153) := (blk_cell BK159.out 4).trans rfl
                                    have hcz87_5 : wc.cell? ⟨gb159, 5, none⟩ = some (.bool t154) := (blk_cell BK159.out 5).trans rfl
                                    have hcz87_6 : wc.cell? ⟨gb159, 6, none⟩ = some (.bool t155) := (blk_cell BK159.out 6).trans rfl
                                    have hcz87_7 : wc.cell? ⟨gb159, 7, none⟩ = some (.bool t156) := (blk_cell BK159.out 7).trans rfl
                                    have hcz87_8 : wc.cell? ⟨gb159, 8, none⟩ = some (.int .i64 t157) := (blk_cell BK159.out 8).trans rfl
                                    have hfz87_0 := blk_frozen BK159.out 0
                                    have hfz87_1 := blk_frozen BK159.out 1
                                    have hfz87_2 := blk_frozen BK159.out 2
                                    have hfz87_3 := blk_frozen BK159.out 3
                                    have hfz87_4 := blk_frozen BK159.out 4
                                    have hfz87_5 := blk_frozen BK159.out 5
                                    have hfz87_6 := blk_frozen BK159.out 6
                                    have hfz87_7 := blk_frozen BK159.out 7
                                    have hfz87_8 := blk_frozen BK159.out 8
                                    go_wp2
                                    go_meet
                                    case rel => exact ⟨_, (false), (by first | rfl | exact congrArg (Value.int .i64) (i64_w _) | (simp; done) | (simp [*]; done)), H', ⟨by have := HJ6.out; have := HJ45.out; first | omega | exact Nat.le_refl _⟩, ⟨by (with_reducible repeat (first | refine blk_drewN ?_ _ | refine blk_drew ?_ | refine blk_alloc ?_ _)); exact BK142.out⟩, ⟨by (with_reducible repeat (first | refine blk_drewN ?_ _ | refine blk_drew ?_ | refine blk_alloc ?_ _)); exact BK143.out⟩, ⟨by (with_reducible repeat (first | refine blk_drewN ?_ _ | refine blk_drew ?_ | refine blk_alloc ?_ _)); exact BK159.out⟩, ⟨by repeat (first | (with_reducible first | exact HB.out | apply below_alloc | apply pw_below_drewN | apply below_drew1 | refine below_set ?_ GE142.out | refine below_set ?_ GE143.out | refine below_set ?_ GE159.out) | exact HB.out)⟩⟩
                              · replace c68 := Bool.eq_false_iff.mpr c68
                                subst c68
                                have H1 : (spec_l6Walk.j2 kj45 a3 a4 (wrap64 (256 * t144)) true 0 a2 ji19 0 0 t149 false t151 t152 t153 t154 t155 t156 t157) = some (r1, r2, r3, r4, r5) := by rw [if_neg (show ¬ (false = true) by decide)] at H; exact H
                                clear H
                                have H := H1
                                clear H1
                                have H' := Aside0.mk H
                                clear H
                                have hnb88 := NB159_142.out
                                have hnc88 := NB142_159.out
                                have hnb89 := NB159_143.out
                                have hnc89 := NB143_159.out
                                have hcz90_0 : wc.cell? ⟨gb159, 0, none⟩ = some (.bool t149) := (blk_cell BK159.out 0).trans rfl
                                have hcz90_1 : wc.cell? ⟨gb159, 1, none⟩ = some (.bool false) := (blk_cell BK159.out 1).trans rfl
                                have hcz90_2 : wc.cell? ⟨gb159, 2, none⟩ = some (.bool t151) := (blk_cell BK159.out 2).trans rfl
                                have hcz90_3 : wc.cell? ⟨gb159, 3, none⟩ = some (.bool t152) := (blk_cell BK159.out 3).trans rfl
                                have hcz90_4 : wc.cell? ⟨gb159, 4, none⟩ = some (.bool t153) := (blk_cell BK159.out 4).trans rfl
                                have hcz90_5 : wc.cell? ⟨gb159, 5, none⟩ = some (.bool t154) := (blk_cell BK159.out 5).trans rfl
                                have hcz90_6 : wc.cell? ⟨gb159, 6, none⟩ = some (.bool t155) := (blk_cell BK159.out 6).trans rfl
                                have hcz90_7 : wc.cell? ⟨gb159, 7, none⟩ = some (.bool t156) := (blk_cell BK159.out 7).trans rfl
                                have hcz90_8 : wc.cell? ⟨gb159, 8, none⟩ = some (.int .i64 t157) := (blk_cell BK159.out 8).trans rfl
                                have hfz90_0 := blk_frozen BK159.out 0
                                have hfz90_1 := blk_frozen BK159.out 1
                                have hfz90_2 := blk_frozen BK159.out 2
                                have hfz90_3 := blk_frozen BK159.out 3
                                have hfz90_4 := blk_frozen BK159.out 4
                                have hfz90_5 := blk_frozen BK159.out 5
                                have hfz90_6 := blk_frozen BK159.out 6
                                have hfz90_7 := blk_frozen BK159.out 7
                                have hfz90_8 := blk_frozen BK159.out 8
                                go_wp2
                                go_meet
                                case rel => exact ⟨_, (true), (by first | rfl | exact congrArg (Value.int .i64) (i64_w _) | (simp; done) | (simp [*]; done)), H', ⟨by have := HJ6.out; have := HJ45.out; first | omega | exact Nat.le_refl _⟩, ⟨by (with_reducible repeat (first | refine blk_drewN ?_ _ | refine blk_drew ?_ | refine blk_alloc ?_ _)); exact BK142.out⟩, ⟨by (with_reducible repeat (first | refine blk_drewN ?_ _ | refine blk_drew ?_ | refine blk_alloc ?_ _)); exact BK143.out⟩, ⟨by (with_reducible repeat (first | refine blk_drewN ?_ _ | refine blk_drew ?_ | refine blk_alloc ?_ _)); exact BK159.out⟩, ⟨by repeat (first | (with_reducible first | exact HB.out | apply below_alloc | apply pw_below_drewN | apply below_drew1 | refine below_set ?_ GE142.out | refine below_set ?_ GE143.out | refine below_set ?_ GE159.out) | exact HB.out)⟩⟩
                            · rw [if_neg c67] at H
                              have c67b0 : (a4 == 0) = false := beq_eq_false_iff_ne.mpr c67
                              have c67b1 : (a4 != 0) = true := bne_iff_ne.mpr c67
                              (first | rw [c67b0] | (simp only [i64_w, i32_w]; rw [c67b0]) | skip)
                              by_cases c91 : a4 = 1
                              · rw [if_pos c91] at H
                                have c91b0 : (a4 == 1) = true := beq_iff_eq.mpr c91
                                have c91b1 : (a4 != 1) = false := bne_eq_false_iff_eq.mpr c91
                                clear c91
                                by_cases c92 : t151 = true
                                · subst c92
                                  have H1 : (if a4 = 2 then (spec_l6Walk.j2 kj45 a3 a4 (wrap64 (256 * t144)) (!t152) 0 a2 ji19 0 0 t149 t150 true t152 t153 t154 t155 t156 t157) else (spec_l6Walk.j2 kj45 a3 a4 (wrap64 (256 * t144)) false 0 a2 ji19 0 0 t149 t150 true t152 t153 t154 t155 t156 t157)) = some (r1, r2, r3, r4, r5) := by rw [if_pos rfl] at H; exact H
                                  clear H
                                  have H := H1
                                  clear H1
                                  by_cases c93 : a4 = 2
                                  · rw [if_pos c93] at H
                                    have c93b0 : (a4 == 2) = true := beq_iff_eq.mpr c93
                                    have c93b1 : (a4 != 2) = false := bne_eq_false_iff_eq.mpr c93
                                    clear c93
                                    have H' := Aside0.mk H
                                    clear H
                                    have hnb94 := NB159_142.out
                                    have hnc94 := NB142_159.out
                                    have hnb95 := NB159_143.out
                                    have hnc95 := NB143_159.out
                                    have hcz96_0 : wc.cell? ⟨gb159, 0, none⟩ = some (.bool t149) := (blk_cell BK159.out 0).trans rfl
                                    have hcz96_1 : wc.cell? ⟨gb159, 1, none⟩ = some (.bool t150) := (blk_cell BK159.out 1).trans rfl
                                    have hcz96_2 : wc.cell? ⟨gb159, 2, none⟩ = some (.bool true) := (blk_cell BK159.out 2).trans rfl
                                    have hcz96_3 : wc.cell? ⟨gb159, 3, none⟩ = some (.bool t152) := (blk_cell BK159.out 3).trans rfl
                                    have hcz96_4 : wc.cell? ⟨gb159, 4, none⟩ = some (.bool t153) := (blk_cell BK159.out 4).trans rfl
                                    have hcz96_5 : wc.cell? ⟨gb159, 5, none⟩ = some (.bool t154) := (blk_cell BK159.out 5).trans rfl
                                    have hcz96_6 : wc.cell? ⟨gb159, 6, none⟩ = some (.bool t155) := (blk_cell BK159.out 6).trans rfl
                                    have hcz96_7 : wc.cell? ⟨gb159, 7, none⟩ = some (.bool t156) := (blk_cell BK159.out 7).trans rfl
                                    have hcz96_8 : wc.cell? ⟨gb159, 8, none⟩ = some (.int .i64 t157) := (blk_cell BK159.out 8).trans rfl
                                    have hfz96_0 := blk_frozen BK159.out 0
                                    have hfz96_1 := blk_frozen BK159.out 1
                                    have hfz96_2 := blk_frozen BK159.out 2
                                    have hfz96_3 := blk_frozen BK159.out 3
                                    have hfz96_4 := blk_frozen BK159.out 4
                                    have hfz96_5 := blk_frozen BK159.out 5
                                    have hfz96_6 := blk_frozen BK159.out 6
                                    have hfz96_7 := blk_frozen BK159.out 7
                                    have hfz96_8 := blk_frozen BK159.out 8
                                    go_wp2
                                    go_meet
                                    case rel => exact ⟨_, (!t152), (by first | rfl | exact congrArg (Value.int .i64) (i64_w _) | (simp; done) | (simp [*]; done)), H', ⟨by have := HJ6.out; have := HJ45.out; first | omega | exact Nat.le_refl _⟩, ⟨by (with_reducible repeat (first | refine blk_drewN ?_ _ | refine blk_drew ?_ | refine blk_alloc ?_ _)); exact BK142.out⟩, ⟨by (with_reducible repeat (first | refine blk_drewN ?_ _ | refine blk_drew ?_ | refine blk_alloc ?_ _)); exact BK143.out⟩, ⟨by (with_reducible repeat (first | refine blk_drewN ?_ _ | refine blk_drew ?_ | refine blk_alloc ?_ _)); exact BK159.out⟩, ⟨by repeat (first | (with_reducible first | exact HB.out | apply below_alloc | apply pw_below_drewN | apply below_drew1 | refine below_set ?_ GE142.out | refine below_set ?_ GE143.out | refine below_set ?_ GE159.out) | exact HB.out)⟩⟩
                                  · rw [if_neg c93] at H
                                    have c93b0 : (a4 == 2) = false := beq_eq_false_iff_ne.mpr c93
                                    have c93b1 : (a4 != 2) = true := bne_iff_ne.mpr c93
                                    have H' := Aside0.mk H
                                    clear H
                                    have hnb97 := NB159_142.out
                                    have hnc97 := NB142_159.out
                                    have hnb98 := NB159_143.out
                                    have hnc98 := NB143_159.out
                                    have hcz99_0 : wc.cell? ⟨gb159, 0, none⟩ = some (.bool t149) := (blk_cell BK159.out 0).trans rfl
                                    have hcz99_1 : wc.cell? ⟨gb159, 1, none⟩ = some (.bool t150) := (blk_cell BK159.out 1).trans rfl
                                    have hcz99_2 : wc.cell? ⟨gb159, 2, none⟩ = some (.bool true) := (blk_cell BK159.out 2).trans rfl
                                    have hcz99_3 : wc.cell? ⟨gb159, 3, none⟩ = some (.bool t152) := (blk_cell BK159.out 3).trans rfl
                                    have hcz99_4 : wc.cell? ⟨gb159, 4, none⟩ = some (.bool t153) := (blk_cell BK159.out 4).trans rfl
                                    have hcz99_5 : wc.cell? ⟨gb159, 5, none⟩ = some (.bool t154) := (blk_cell BK159.out 5).trans rfl
                                    have hcz99_6 : wc.cell? ⟨gb159, 6, none⟩ = some (.bool t155) := (blk_cell BK159.out 6).trans rfl
                                    have hcz99_7 : wc.cell? ⟨gb159, 7, none⟩ = some (.bool t156) := (blk_cell BK159.out 7).trans rfl
                                    have hcz99_8 : wc.cell? ⟨gb159, 8, none⟩ = some (.int .i64 t157) := (blk_cell BK159.out 8).trans rfl
                                    have hfz99_0 := blk_frozen BK159.out 0
                                    have hfz99_1 := blk_frozen BK159.out 1
                                    have hfz99_2 := blk_frozen BK159.out 2
                                    have hfz99_3 := blk_frozen BK159.out 3
                                    have hfz99_4 := blk_frozen BK159.out 4
                                    have hfz99_5 := blk_frozen BK159.out 5
                                    have hfz99_6 := blk_frozen BK159.out 6
                                    have hfz99_7 := blk_frozen BK159.out 7
                                    have hfz99_8 := blk_frozen BK159.out 8
                                    go_wp2
                                    go_meet
                                    case rel => exact ⟨_, (false), (by first | rfl | exact congrArg (Value.int .i64) (i64_w _) | (simp; done) | (simp [*]; done)), H', ⟨by have := HJ6.out; have := HJ45.out; first | omega | exact Nat.le_refl _⟩, ⟨by (with_reducible repeat (first | refine blk_drewN ?_ _ | refine blk_drew ?_ | refine blk_alloc ?_ _)); exact BK142.out⟩, ⟨by (with_reducible repeat (first | refine blk_drewN ?_ _ | refine blk_drew ?_ | refine blk_alloc ?_ _)); exact BK143.out⟩, ⟨by (with_reducible repeat (first | refine blk_drewN ?_ _ | refine blk_drew ?_ | refine blk_alloc ?_ _)); exact BK159.out⟩, ⟨by repeat (first | (with_reducible first | exact HB.out | apply below_alloc | apply pw_below_drewN | apply below_drew1 | refine below_set ?_ GE142.out | refine below_set ?_ GE143.out | refine below_set ?_ GE159.out) | exact HB.out)⟩⟩
                                · replace c92 := Bool.eq_false_iff.mpr c92
                                  subst c92
                                  have H1 : (spec_l6Walk.j2 kj45 a3 a4 (wrap64 (256 * t144)) true 0 a2 ji19 0 0 t149 t150 false t152 t153 t154 t155 t156 t157) = some (r1, r2, r3, r4, r5) := by rw [if_neg (show ¬ (false = true) by decide)] at H; exact H
                                  clear H
                                  have H := H1
                                  clear H1
                                  have H' := Aside0.mk H
                                  clear H
                                  have hnb100 := NB159_142.out
                                  have hnc100 := NB142_159.out
                                  have hnb101 := NB159_143.out
                                  have hnc101 := NB143_159.out
                                  have hcz102_0 : wc.cell? ⟨gb159, 0, none⟩ = some (.bool t149) := (blk_cell BK159.out 0).trans rfl
                                  have hcz102_1 : wc.cell? ⟨gb159, 1, none⟩ = some (.bool t150) := (blk_cell BK159.out 1).trans rfl
                                  have hcz102_2 : wc.cell? ⟨gb159, 2, none⟩ = some (.bool false) := (blk_cell BK159.out 2).trans rfl
                                  have hcz102_3 : wc.cell? ⟨gb159, 3, none⟩ = some (.bool t152) := (blk_cell BK159.out 3).trans rfl
                                  have hcz102_4 : wc.cell? ⟨gb159, 4, none⟩ = some (.bool t153) := (blk_cell BK159.out 4).trans rfl
                                  have hcz102_5 : wc.cell? ⟨gb159, 5, none⟩ = some (.bool t154) := (blk_cell BK159.out 5).trans rfl
                                  have hcz102_6 : wc.cell? ⟨gb159, 6, none⟩ = some (.bool t155) := (blk_cell BK159.out 6).trans rfl
                                  have hcz102_7 : wc.cell? ⟨gb159, 7, none⟩ = some (.bool t156) := (blk_cell BK159.out 7).trans rfl
                                  have hcz102_8 : wc.cell? ⟨gb159, 8, none⟩ = some (.int .i64 t157) := (blk_cell BK159.out 8).trans rfl
                                  have hfz102_0 := blk_frozen BK159.out 0
                                  have hfz102_1 := blk_frozen BK159.out 1
                                  have hfz102_2 := blk_frozen BK159.out 2
                                  have hfz102_3 := blk_frozen BK159.out 3
                                  have hfz102_4 := blk_frozen BK159.out 4
                                  have hfz102_5 := blk_frozen BK159.out 5
                                  have hfz102_6 := blk_frozen BK159.out 6
                                  have hfz102_7 := blk_frozen BK159.out 7
                                  have hfz102_8 := blk_frozen BK159.out 8
                                  go_wp2
                                  go_meet
                                  case rel => exact ⟨_, (true), (by first | rfl | exact congrArg (Value.int .i64) (i64_w _) | (simp; done) | (simp [*]; done)), H', ⟨by have := HJ6.out; have := HJ45.out; first | omega | exact Nat.le_refl _⟩, ⟨by (with_reducible repeat (first | refine blk_drewN ?_ _ | refine blk_drew ?_ | refine blk_alloc ?_ _)); exact BK142.out⟩, ⟨by (with_reducible repeat (first | refine blk_drewN ?_ _ | refine blk_drew ?_ | refine blk_alloc ?_ _)); exact BK143.out⟩, ⟨by (with_reducible repeat (first | refine blk_drewN ?_ _ | refine blk_drew ?_ | refine blk_alloc ?_ _)); exact BK159.out⟩, ⟨by repeat (first | (with_reducible first | exact HB.out | apply below_alloc | apply pw_below_drewN | apply below_drew1 | refine below_set ?_ GE142.out | refine below_set ?_ GE143.out | refine below_set ?_ GE159.out) | exact HB.out)⟩⟩
                              · rw [if_neg c91] at H
                                have c91b0 : (a4 == 1) = false := beq_eq_false_iff_ne.mpr c91
                                have c91b1 : (a4 != 1) = true := bne_iff_ne.mpr c91
                                by_cases c103 : a4 = 2
                                · rw [if_pos c103] at H
                                  have c103b0 : (a4 == 2) = true := beq_iff_eq.mpr c103
                                  have c103b1 : (a4 != 2) = false := bne_eq_false_iff_eq.mpr c103
                                  clear c103
                                  have H' := Aside0.mk H
                                  clear H
                                  have hnb104 := NB159_142.out
                                  have hnc104 := NB142_159.out
                                  have hnb105 := NB159_143.out
                                  have hnc105 := NB143_159.out
                                  have hcz106_0 : wc.cell? ⟨gb159, 0, none⟩ = some (.bool t149) := (blk_cell BK159.out 0).trans rfl
                                  have hcz106_1 : wc.cell? ⟨gb159, 1, none⟩ = some (.bool t150) := (blk_cell BK159.out 1).trans rfl
                                  have hcz106_2 : wc.cell? ⟨gb159, 2, none⟩ = some (.bool t151) := (blk_cell BK159.out 2).trans rfl
                                  have hcz106_3 : wc.cell? ⟨gb159, 3, none⟩ = some (.bool t152) := (blk_cell BK159.out 3).trans rfl
                                  have hcz106_4 : wc.cell? ⟨gb159, 4, none⟩ = some (.bool t153) := (blk_cell BK159.out 4).trans rfl
                                  have hcz106_5 : wc.cell? ⟨gb159, 5, none⟩ = some (.bool t154) := (blk_cell BK159.out 5).trans rfl
                                  have hcz106_6 : wc.cell? ⟨gb159, 6, none⟩ = some (.bool t155) := (blk_cell BK159.out 6).trans rfl
                                  have hcz106_7 : wc.cell? ⟨gb159, 7, none⟩ = some (.bool t156) := (blk_cell BK159.out 7).trans rfl
                                  have hcz106_8 : wc.cell? ⟨gb159, 8, none⟩ = some (.int .i64 t157) := (blk_cell BK159.out 8).trans rfl
                                  have hfz106_0 := blk_frozen BK159.out 0
                                  have hfz106_1 := blk_frozen BK159.out 1
                                  have hfz106_2 := blk_frozen BK159.out 2
                                  have hfz106_3 := blk_frozen BK159.out 3
                                  have hfz106_4 := blk_frozen BK159.out 4
                                  have hfz106_5 := blk_frozen BK159.out 5
                                  have hfz106_6 := blk_frozen BK159.out 6
                                  have hfz106_7 := blk_frozen BK159.out 7
                                  have hfz106_8 := blk_frozen BK159.out 8
                                  go_wp2
                                  go_meet
                                  case rel => exact ⟨_, (!t152), (by first | rfl | exact congrArg (Value.int .i64) (i64_w _) | (simp; done) | (simp [*]; done)), H', ⟨by have := HJ6.out; have := HJ45.out; first | omega | exact Nat.le_refl _⟩, ⟨by (with_reducible repeat (first | refine blk_drewN ?_ _ | refine blk_drew ?_ | refine blk_alloc ?_ _)); exact BK142.out⟩, ⟨by (with_reducible repeat (first | refine blk_drewN ?_ _ | refine blk_drew ?_ | refine blk_alloc ?_ _)); exact BK143.out⟩, ⟨by (with_reducible repeat (first | refine blk_drewN ?_ _ | refine blk_drew ?_ | refine blk_alloc ?_ _)); exact BK159.out⟩, ⟨by repeat (first | (with_reducible first | exact HB.out | apply below_alloc | apply pw_below_drewN | apply below_drew1 | refine below_set ?_ GE142.out | refine below_set ?_ GE143.out | refine below_set ?_ GE159.out) | exact HB.out)⟩⟩
                                · rw [if_neg c103] at H
                                  have c103b0 : (a4 == 2) = false := beq_eq_false_iff_ne.mpr c103
                                  have c103b1 : (a4 != 2) = true := bne_iff_ne.mpr c103
                                  have H' := Aside0.mk H
                                  clear H
                                  go_wp2
                                  go_meet
                                  case rel => exact ⟨_, (false), (by first | rfl | exact congrArg (Value.int .i64) (i64_w _) | (simp; done) | (simp [*]; done)), H', ⟨by have := HJ6.out; have := HJ45.out; first | omega | exact Nat.le_refl _⟩, ⟨by (with_reducible repeat (first | refine blk_drewN ?_ _ | refine blk_drew ?_ | refine blk_alloc ?_ _)); exact BK142.out⟩, ⟨by (with_reducible repeat (first | refine blk_drewN ?_ _ | refine blk_drew ?_ | refine blk_alloc ?_ _)); exact BK143.out⟩, ⟨by (with_reducible repeat (first | refine blk_drewN ?_ _ | refine blk_drew ?_ | refine blk_alloc ?_ _)); exact BK159.out⟩, ⟨by repeat (first | (with_reducible first | exact HB.out | apply below_alloc | apply pw_below_drewN | apply below_drew1 | refine below_set ?_ GE142.out | refine below_set ?_ GE143.out | refine below_set ?_ GE159.out) | exact HB.out)⟩⟩
                          case rest =>
                            clear HC66
                            try clear c1
                            try clear c2
                            try clear p2
                            try clear c3
                            try clear c4
                            try clear c5
                            try clear c6
                            try clear p6
                            try clear c7
                            try clear c8
                            try clear c9
                            try clear c10
                            try clear c18
                            try clear c18b1
                            try clear c20
                            try clear c20b0
                            try clear c20b1
                            try clear c21
                            try clear c21b0
                            try clear c21b1
                            try clear c22
                            try clear c22b0
                            try clear c22b1
                            try clear c25
                            try clear c25b0
                            try clear c26
                            try clear c33
                            try clear c33b0
                            try clear c33b1
                            try clear c35
                            try clear c41
                            try clear c42
                            try clear c47
                            try clear c52
                            try clear c53
                            try clear c54
                            try clear c56
                            try clear c57
                            try clear c58
                            try clear c60
                            try clear c61
                            try clear c62
                            try clear c64
                            try clear p64
                            try clear c67
                            try clear c67b0
                            try clear c67b1
                            try clear c68
                            try clear c69
                            try clear c69b0
                            try clear c69b1
                            try clear c70
                            try clear c71
                            try clear c71b0
                            try clear c71b1
                            try clear c72
                            try clear c73
                            try clear c75
                            try clear c76
                            try clear c78
                            try clear c79
                            try clear c81
                            try clear c81b0
                            try clear c81b1
                            try clear c82
                            try clear c83
                            try clear c85
                            try clear c86
                            try clear c88
                            try clear c89
                            try clear c91
                            try clear c91b0
                            try clear c91b1
                            try clear c92
                            try clear c93
                            try clear c93b0
                            try clear c93b1
                            try clear c94
                            try clear c95
                            try clear c97
                            try clear c98
                            try clear c100
                            try clear c101
                            try clear c103
                            try clear c103b0
                            try clear c103b1
                            try clear c104
                            try clear c105
                            try clear hcz102_0
                            try clear hcz102_1
                            try clear hcz102_2
                            try clear hcz102_3
                            try clear hcz102_4
                            try clear hcz102_5
                            try clear hcz102_6
                            try clear hcz102_7
                            try clear hcz102_8
                            try clear hcz106_0
                            try clear hcz106_1
                            try clear hcz106_2
                            try clear hcz106_3
                            try clear hcz106_4
                            try clear hcz106_5
                            try clear hcz106_6
                            try clear hcz106_7
                            try clear hcz106_8
                            try clear hcz11_0
                            try clear hcz11_1
                            try clear hcz11_2
                            try clear hcz11_3
                            try clear hcz11_4
                            try clear hcz15_0
                            try clear hcz15_1
                            try clear hcz15_2
                            try clear hcz15_3
                            try clear hcz15_4
                            try clear hcz16_0
                            try clear hcz16_1
                            try clear hcz16_2
                            try clear hcz16_3
                            try clear hcz16_4
                            try clear hcz27_0
                            try clear hcz27_1
                            try clear hcz27_2
                            try clear hcz27_3
                            try clear hcz27_4
                            try clear hcz30_0
                            try clear hcz30_1
                            try clear hcz30_2
                            try clear hcz30_3
                            try clear hcz30_4
                            try clear hcz31_0
                            try clear hcz31_1
                            try clear hcz31_2
                            try clear hcz31_3
                            try clear hcz31_4
                            try clear hcz36_0
                            try clear hcz36_1
                            try clear hcz36_2
                            try clear hcz36_3
                            try clear hcz36_4
                            try clear hcz43_0
                            try clear hcz43_1
                            try clear hcz43_2
                            try clear hcz43_3
                            try clear hcz43_4
                            try clear hcz43_5
                            try clear hcz43_6
                            try clear hcz43_7
                            try clear hcz43_8
                            try clear hcz45_0
                            try clear hcz45_1
                            try clear hcz45_2
                            try clear hcz45_3
                            try clear hcz45_4
                            try clear hcz48_0
                            try clear hcz48_1
                            try clear hcz48_2
                            try clear hcz48_3
                            try clear hcz48_4
                            try clear hcz55_0
                            try clear hcz55_1
                            try clear hcz55_2
                            try clear hcz55_3
                            try clear hcz55_4
                            try clear hcz55_5
                            try clear hcz55_6
                            try clear hcz55_7
                            try clear hcz55_8
                            try clear hcz59_0
                            try clear hcz59_1
                            try clear hcz59_2
                            try clear hcz59_3
                            try clear hcz59_4
                            try clear hcz59_5
                            try clear hcz59_6
                            try clear hcz59_7
                            try clear hcz59_8
                            try clear hcz63_0
                            try clear hcz63_1
                            try clear hcz63_2
                            try clear hcz63_3
                            try clear hcz63_4
                            try clear hcz65_0
                            try clear hcz65_1
                            try clear hcz65_2
                            try clear hcz65_3
                            try clear hcz65_4
                            try clear hcz74_0
                            try clear hcz74_1
                            try clear hcz74_2
                            try clear hcz74_3
                            try clear hcz74_4
                            try clear hcz74_5
                            try clear hcz74_6
                            try clear hcz74_7
                            try clear hcz74_8
                            try clear hcz77_0
                            try clear hcz77_1
                            try clear hcz77_2
                            try clear hcz77_3
                            try clear hcz77_4
                            try clear hcz77_5
                            try clear hcz77_6
                            try clear hcz77_7
                            try clear hcz77_8
                            try clear hcz80_0
                            try clear hcz80_1
                            try clear hcz80_2
                            try clear hcz80_3
                            try clear hcz80_4
                            try clear hcz80_5
                            try clear hcz80_6
                            try clear hcz80_7
                            try clear hcz80_8
                            try clear hcz84_0
                            try clear hcz84_1
                            try clear hcz84_2
                            try clear hcz84_3
                            try clear hcz84_4
                            try clear hcz84_5
                            try clear hcz84_6
                            try clear hcz84_7
                            try clear hcz84_8
                            try clear hcz87_0
                            try clear hcz87_1
                            try clear hcz87_2
                            try clear hcz87_3
                            try clear hcz87_4
                            try clear hcz87_5
                            try clear hcz87_6
                            try clear hcz87_7
                            try clear hcz87_8
                            try clear hcz90_0
                            try clear hcz90_1
                            try clear hcz90_2
                            try clear hcz90_3
                            try clear hcz90_4
                            try clear hcz90_5
                            try clear hcz90_6
                            try clear hcz90_7
                            try clear hcz90_8
                            try clear hcz96_0
                            try clear hcz96_1
                            try clear hcz96_2
                            try clear hcz96_3
                            try clear hcz96_4
                            try clear hcz96_5
                            try clear hcz96_6
                            try clear hcz96_7
                            try clear hcz96_8
                            try clear hcz99_0
                            try clear hcz99_1
                            try clear hcz99_2
                            try clear hcz99_3
                            try clear hcz99_4
                            try clear hcz99_5
                            try clear hcz99_6
                            try clear hcz99_7
                            try clear hcz99_8
                            try clear hfz102_0
                            try clear hfz102_1
                            try clear hfz102_2
                            try clear hfz102_3
                            try clear hfz102_4
                            try clear hfz102_5
                            try clear hfz102_6
                            try clear hfz102_7
                            try clear hfz102_8
                            try clear hfz106_0
                            try clear hfz106_1
                            try clear hfz106_2
                            try clear hfz106_3
                            try clear hfz106_4
                            try clear hfz106_5
                            try clear hfz106_6
                            try clear hfz106_7
                            try clear hfz106_8
                            try clear hfz11_0
                            try clear hfz11_1
                            try clear hfz11_2
                            try clear hfz11_3
                            try clear hfz11_4
                            try clear hfz15_0
                            try clear hfz15_1
                            try clear hfz15_2
                            try clear hfz15_3
                            try clear hfz15_4
                            try clear hfz16_0
                            try clear hfz16_1
                            try clear hfz16_2
                            try clear hfz16_3
                            try clear hfz16_4
                            try clear hfz27_0
                            try clear hfz27_1
                            try clear hfz27_2
                            try clear hfz27_3
                            try clear hfz27_4
                            try clear hfz30_0
                            try clear hfz30_1
                            try clear hfz30_2
                            try clear hfz30_3
                            try clear hfz30_4
                            try clear hfz31_0
                            try clear hfz31_1
                            try clear hfz31_2
                            try clear hfz31_3
                            try clear hfz31_4
                            try clear hfz36_0
                            try clear hfz36_1
                            try clear hfz36_2
                            try clear hfz36_3
                            try clear hfz36_4
                            try clear hfz43_0
                            try clear hfz43_1
                            try clear hfz43_2
                            try clear hfz43_3
                            try clear hfz43_4
                            try clear hfz43_5
                            try clear hfz43_6
                            try clear hfz43_7
                            try clear hfz43_8
                            try clear hfz45_0
                            try clear hfz45_1
                            try clear hfz45_2
                            try clear hfz45_3
                            try clear hfz45_4
                            try clear hfz48_0
                            try clear hfz48_1
                            try clear hfz48_2
                            try clear hfz48_3
                            try clear hfz48_4
                            try clear hfz55_0
                            try clear hfz55_1
                            try clear hfz55_2
                            try clear hfz55_3
                            try clear hfz55_4
                            try clear hfz55_5
                            try clear hfz55_6
                            try clear hfz55_7
                            try clear hfz55_8
                            try clear hfz59_0
                            try clear hfz59_1
                            try clear hfz59_2
                            try clear hfz59_3
                            try clear hfz59_4
                            try clear hfz59_5
                            try clear hfz59_6
                            try clear hfz59_7
                            try clear hfz59_8
                            try clear hfz63_0
                            try clear hfz63_1
                            try clear hfz63_2
                            try clear hfz63_3
                            try clear hfz63_4
                            try clear hfz65_0
                            try clear hfz65_1
                            try clear hfz65_2
                            try clear hfz65_3
                            try clear hfz65_4
                            try clear hfz74_0
                            try clear hfz74_1
                            try clear hfz74_2
                            try clear hfz74_3
                            try clear hfz74_4
                            try clear hfz74_5
                            try clear hfz74_6
                            try clear hfz74_7
                            try clear hfz74_8
                            try clear hfz77_0
                            try clear hfz77_1
                            try clear hfz77_2
                            try clear hfz77_3
                            try clear hfz77_4
                            try clear hfz77_5
                            try clear hfz77_6
                            try clear hfz77_7
                            try clear hfz77_8
                            try clear hfz80_0
                            try clear hfz80_1
                            try clear hfz80_2
                            try clear hfz80_3
                            try clear hfz80_4
                            try clear hfz80_5
                            try clear hfz80_6
                            try clear hfz80_7
                            try clear hfz80_8
                            try clear hfz84_0
                            try clear hfz84_1
                            try clear hfz84_2
                            try clear hfz84_3
                            try clear hfz84_4
                            try clear hfz84_5
                            try clear hfz84_6
                            try clear hfz84_7
                            try clear hfz84_8
                            try clear hfz87_0
                            try clear hfz87_1
                            try clear hfz87_2
                            try clear hfz87_3
                            try clear hfz87_4
                            try clear hfz87_5
                            try clear hfz87_6
                            try clear hfz87_7
                            try clear hfz87_8
                            try clear hfz90_0
                            try clear hfz90_1
                            try clear hfz90_2
                            try clear hfz90_3
                            try clear hfz90_4
                            try clear hfz90_5
                            try clear hfz90_6
                            try clear hfz90_7
                            try clear hfz90_8
                            try clear hfz96_0
                            try clear hfz96_1
                            try clear hfz96_2
                            try clear hfz96_3
                            try clear hfz96_4
                            try clear hfz96_5
                            try clear hfz96_6
                            try clear hfz96_7
                            try clear hfz96_8
                            try clear hfz99_0
                            try clear hfz99_1
                            try clear hfz99_2
                            try clear hfz99_3
                            try clear hfz99_4
                            try clear hfz99_5
                            try clear hfz99_6
                            try clear hfz99_7
                            try clear hfz99_8
                            try clear p2
                            try clear p6
                            obtain ⟨kq, x113_65, rfl, HA, HJ65, BK142, BK143, BK159, HB⟩ := hcut
                            cases kq with
                            | zero => exact absurd HA.out (by simp [spec_l6Walk.j2])
                            | succ kj65 =>
                              have H := HA.out
                              clear HA
                              simp only [spec_l6Walk.j2] at H
                              by_cases c107 : x113_65 = true
                              · subst c107
                                have H1 : (some (8, a2, ji19, 0, 0)) = some (r1, r2, r3, r4, r5) := by rw [if_pos rfl] at H; exact H
                                clear H
                                have H := H1
                                clear H1
                                simp only [Option.some.injEq, Prod.mk.injEq] at H
                                obtain ⟨rfl, rfl, rfl, rfl, rfl⟩ := H
                                have hnb108 := NB143_142.out
                                have hnc108 := NB142_143.out
                                have hnb109 := NB143_159.out
                                have hnc109 := NB159_143.out
                                have hcz110_0 : wc.cell? ⟨gb143, 0, none⟩ = some (.int .i64 0) := (blk_cell BK143.out 0).trans rfl
                                have hcz110_1 : wc.cell? ⟨gb143, 1, none⟩ = some (.int .i64 a2) := (blk_cell BK143.out 1).trans rfl
                                have hcz110_2 : wc.cell? ⟨gb143, 2, none⟩ = some (.int .i64 ji19) := (blk_cell BK143.out 2).trans rfl
                                have hcz110_3 : wc.cell? ⟨gb143, 3, none⟩ = some (.int .i64 0) := (blk_cell BK143.out 3).trans rfl
                                have hcz110_4 : wc.cell? ⟨gb143, 4, none⟩ = some (.int .u64 0) := (blk_cell BK143.out 4).trans rfl
                                have hfz110_0 := blk_frozen BK143.out 0
                                have hfz110_1 := blk_frozen BK143.out 1
                                have hfz110_2 := blk_frozen BK143.out 2
                                have hfz110_3 := blk_frozen BK143.out 3
                                have hfz110_4 := blk_frozen BK143.out 4
                                have hnb111 := NB142_159.out
                                have hnc111 := NB159_142.out
                                have hcz112_0 : wc.cell? ⟨gb142, 0, none⟩ = some (.int .i64 0) := (blk_cell BK142.out 0).trans rfl
                                have hcz112_1 : wc.cell? ⟨gb142, 1, none⟩ = some (.int .i64 0) := (blk_cell BK142.out 1).trans rfl
                                have hcz112_2 : wc.cell? ⟨gb142, 2, none⟩ = some (.int .i64 0) := (blk_cell BK142.out 2).trans rfl
                                have hcz112_3 : wc.cell? ⟨gb142, 3, none⟩ = some (.int .i64 0) := (blk_cell BK142.out 3).trans rfl
                                have hcz112_4 : wc.cell? ⟨gb142, 4, none⟩ = some (.int .u64 0) := (blk_cell BK142.out 4).trans rfl
                                have hfz112_0 := blk_frozen BK142.out 0
                                have hfz112_1 := blk_frozen BK142.out 1
                                have hfz112_2 := blk_frozen BK142.out 2
                                have hfz112_3 := blk_frozen BK142.out 3
                                have hfz112_4 := blk_frozen BK142.out 4
                                go_wp2
                                refine bodyPost_ret (results_cell_row rfl _ _ gb142 36 #[.int .i64 8, .int .i64 a2, .int .i64 ji19, .int .i64 0, .int .u64 0] (0, 0) _ rfl (by (with_reducible repeat (first | refine blk_drewN ?_ _ | refine blk_drew ?_ | refine blk_alloc ?_ _)); refine blk_put (cs := #[.int .i64 8, .int .i64 a2, .int .i64 ji19, .int .i64 0, .int .u64 0]) ?_ 4 _ rfl; (with_reducible repeat (first | refine blk_drewN ?_ _ | refine blk_drew ?_ | refine blk_alloc ?_ _)); refine blk_put (cs := #[.int .i64 8, .int .i64 a2, .int .i64 ji19, .int .i64 0, .int .u64 0]) ?_ 3 _ rfl; (with_reducible repeat (first | refine blk_drewN ?_ _ | refine blk_drew ?_ | refine blk_alloc ?_ _)); refine blk_put (cs := #[.int .i64 8, .int .i64 a2, .int .i64 0, .int .i64 0, .int .u64 0]) ?_ 2 _ rfl; (with_reducible repeat (first | refine blk_drewN ?_ _ | refine blk_drew ?_ | refine blk_alloc ?_ _)); refine blk_put (cs := #[.int .i64 8, .int .i64 0, .int .i64 0, .int .i64 0, .int .u64 0]) ?_ 1 _ rfl; (with_reducible repeat (first | refine blk_drewN ?_ _ | refine blk_drew ?_ | refine blk_alloc ?_ _)); refine blk_put (cs := #[.int .i64 0, .int .i64 0, .int .i64 0, .int .i64 0, .int .u64 0]) ?_ 0 _ rfl; (with_reducible repeat (first | refine blk_drewN ?_ _ | refine blk_drew ?_ | refine blk_alloc ?_ _)); refine blk_far ?_ NB142_143.out _; (with_reducible repeat (first | refine blk_drewN ?_ _ | refine blk_drew ?_ | refine blk_alloc ?_ _)); exact BK142.out) Try.underlying36 rfl (by kernel_rfl)) rfl ?_
                                exact ⟨by first | rfl | (simp [errW_none, errW_some] <;> rfl) | (simp only [← hji19]; first | rfl | (simp [errW_none, errW_some] <;> rfl)) | (simp [*, errW_none, errW_some] <;> rfl), by repeat (first | (with_reducible first | exact HB.out | apply below_alloc | apply pw_below_drewN | apply below_drew1 | refine below_set ?_ GE142.out | refine below_set ?_ GE143.out | refine below_set ?_ GE159.out) | exact HB.out)⟩
                              · replace c107 := Bool.eq_false_iff.mpr c107
                                subst c107
                                have H1 : (if a4 = 1 then ((spec_PutEntry.f kj65 t149 t150 t151 t152 t153 true true t156 t157).bind fun bt165 => (if (wrap64 (256 * t144)) = 0 then (none) else (some (0, a2, ji19, wrap64 ((wrap64 (t157 * 256)) + (Int.tmod a3 (wrap64 (256 * t144)))), bt165.1)))) else ((spec_PutEntry.f kj65 t149 t150 t151 t152 t153 true t155 t156 t157).bind fun bt167 => (if (wrap64 (256 * t144)) = 0 then (none) else (some (0, a2, ji19, wrap64 ((wrap64 (t157 * 256)) + (Int.tmod a3 (wrap64 (256 * t144)))), bt167.1))))) = some (r1, r2, r3, r4, r5) := by rw [if_neg (show ¬ (false = true) by decide)] at H; exact H
                                clear H
                                have H := H1
                                clear H1
                                by_cases c113 : a4 = 1
                                · rw [if_pos c113] at H
                                  have c113b0 : (a4 == 1) = true := beq_iff_eq.mpr c113
                                  have c113b1 : (a4 != 1) = false := bne_eq_false_iff_eq.mpr c113
                                  clear c113
                                  replace H := Option.bind_eq_some_iff.mp H
                                  obtain ⟨⟨t165, t166⟩, A1140, H⟩ := H
                                  replace H : (if (wrap64 (256 * t144)) = 0 then (none) else (some (0, a2, ji19, wrap64 ((wrap64 (t157 * 256)) + (Int.tmod a3 (wrap64 (256 * t144)))), t165))) = some (r1, r2, r3, r4, r5) := H
                                  have A114 := Aside0.mk A1140
                                  clear A1140
                                  by_cases c115 : (wrap64 (256 * t144)) = 0
                                  · rw [if_pos c115] at H
                                    exact absurd H (by simp)
                                  · rw [if_neg c115] at H
                                    have c115b0 : ((wrap64 (256 * t144)) == 0) = false := beq_eq_false_iff_ne.mpr c115
                                    have c115b1 : ((wrap64 (256 * t144)) != 0) = true := bne_iff_ne.mpr c115
                                    simp only [Option.some.injEq, Prod.mk.injEq] at H
                                    obtain ⟨rfl, rfl, rfl, rfl, rfl⟩ := H
                                    have hnb116 := NB159_142.out
                                    have hnc116 := NB142_159.out
                                    have hnb117 := NB159_143.out
                                    have hnc117 := NB143_159.out
                                    have hcz118_0 : wc.cell? ⟨gb159, 0, none⟩ = some (.bool t149) := (blk_cell BK159.out 0).trans rfl
                                    have hcz118_1 : wc.cell? ⟨gb159, 1, none⟩ = some (.bool t150) := (blk_cell BK159.out 1).trans rfl
                                    have hcz118_2 : wc.cell? ⟨gb159, 2, none⟩ = some (.bool t151) := (blk_cell BK159.out 2).trans rfl
                                    have hcz118_3 : wc.cell? ⟨gb159, 3, none⟩ = some (.bool t152) := (blk_cell BK159.out 3).trans rfl
                                    have hcz118_4 : wc.cell? ⟨gb159, 4, none⟩ = some (.bool t153) := (blk_cell BK159.out 4).trans rfl
                                    have hcz118_5 : wc.cell? ⟨gb159, 5, none⟩ = some (.bool t154) := (blk_cell BK159.out 5).trans rfl
                                    have hcz118_6 : wc.cell? ⟨gb159, 6, none⟩ = some (.bool t155) := (blk_cell BK159.out 6).trans rfl
                                    have hcz118_7 : wc.cell? ⟨gb159, 7, none⟩ = some (.bool t156) := (blk_cell BK159.out 7).trans rfl
                                    have hcz118_8 : wc.cell? ⟨gb159, 8, none⟩ = some (.int .i64 t157) := (blk_cell BK159.out 8).trans rfl
                                    have hfz118_0 := blk_frozen BK159.out 0
                                    have hfz118_1 := blk_frozen BK159.out 1
                                    have hfz118_2 := blk_frozen BK159.out 2
                                    have hfz118_3 := blk_frozen BK159.out 3
                                    have hfz118_4 := blk_frozen BK159.out 4
                                    have hfz118_5 := blk_frozen BK159.out 5
                                    have hfz118_6 := blk_frozen BK159.out 6
                                    have hfz118_7 := blk_frozen BK159.out 7
                                    have hfz118_8 := blk_frozen BK159.out 8
                                    try go_wp2_with (first | ((with_reducible refine gate_callee (f := 12) rfl ?_); refine goesL_ (some 122) rfl rfl Try.func12 (by kernel_rfl) rfl #[.agg #[.bool t149, .bool t150, .bool t151, .bool t152, .bool t153, .bool true, .bool true, .bool t156, .int .i64 t157]] rfl (by (try simp only [List.map_toArray, List.map_cons, List.map_nil]); first | done | rfl | (simp only [List.length_drop, List.length_take]; first | done | rfl)) ?_; (with_reducible refine (spec_PutEntry.calls kj65 t149 t150 t151 t152 t153 true true t156 t157 t165 t166 _ A114.out).mono ?_); rintro e w119 ⟨rfl, hb⟩; refine ⟨_, rfl, ?_⟩; have n0_ := Aside0.mk (blk_below (g := gb142) (o := .cells #[.int .i64 0, .int .i64 0, .int .i64 0, .int .i64 0, .int .u64 0] 36 (0, 0)) (by (with_reducible repeat (first | refine blk_drewN ?_ _ | refine blk_drew ?_ | refine blk_alloc ?_ _)); refine blk_far ?_ NB142_159.out _; (with_reducible repeat (first | refine blk_drewN ?_ _ | refine blk_drew ?_ | refine blk_alloc ?_ _)); refine blk_far ?_ NB142_159.out _; (with_reducible repeat (first | refine blk_drewN ?_ _ | refine blk_drew ?_ | refine blk_alloc ?_ _)); exact BK142.out) hb); have n1_ := Aside0.mk (blk_below (g := gb143) (o := .cells #[.int .i64 0, .int .i64 a2, .int .i64 ji19, .int .i64 0, .int .u64 0] 36 (0, 0)) (by (with_reducible repeat (first | refine blk_drewN ?_ _ | refine blk_drew ?_ | refine blk_alloc ?_ _)); refine blk_far ?_ NB143_159.out _; (with_reducible repeat (first | refine blk_drewN ?_ _ | refine blk_drew ?_ | refine blk_alloc ?_ _)); refine blk_far ?_ NB143_159.out _; (with_reducible repeat (first | refine blk_drewN ?_ _ | refine blk_drew ?_ | refine blk_alloc ?_ _)); exact BK143.out) hb); have n2_ := Aside0.mk (blk_below (g := gb159) (o := .cells #[.bool t149, .bool t150, .bool t151, .bool t152, .bool t153, .bool true, .bool true, .bool t156, .int .i64 t157] 27 (0, 0)) (by (with_reducible repeat (first | refine blk_drewN ?_ _ | refine blk_drew ?_ | refine blk_alloc ?_ _)); refine blk_put (cs := #[.bool t149, .bool t150, .bool t151, .bool t152, .bool t153, .bool true, .bool t155, .bool t156, .int .i64 t157]) ?_ 6 _ rfl; (with_reducible repeat (first | refine blk_drewN ?_ _ | refine blk_drew ?_ | refine blk_alloc ?_ _)); refine blk_put (cs := #[.bool t149, .bool t150, .bool t151, .bool t152, .bool t153, .bool t154, .bool t155, .bool t156, .int .i64 t157]) ?_ 5 _ rfl; (with_reducible repeat (first | refine blk_drewN ?_ _ | refine blk_drew ?_ | refine blk_alloc ?_ _)); exact BK159.out) hb); have n3_ := Aside0.mk (below_step (by repeat (first | (with_reducible first | exact HB.out | apply below_alloc | apply pw_below_drewN | apply below_drew1 | refine below_set ?_ GE142.out | refine below_set ?_ GE143.out | refine below_set ?_ GE159.out) | exact HB.out)) hb); clear BK142; clear BK143; clear BK159; clear HB; have BK142 := n0_; have BK143 := n1_; have BK159 := n2_; have HB := n3_; clear n0_ n1_ n2_ n3_; (try clear hb); (try clear hb2); (try clear hk); (try clear hi); have hnb120 := NB143_142.out; have hnc120 := NB142_143.out; have hcz121_0 : w119.cell? ⟨gb143, 0, none⟩ = some (.int .i64 0) := (blk_cell BK143.out 0).trans rfl; have hcz121_1 : w119.cell? ⟨gb143, 1, none⟩ = some (.int .i64 a2) := (blk_cell BK143.out 1).trans rfl; have hcz121_2 : w119.cell? ⟨gb143, 2, none⟩ = some (.int .i64 ji19) := (blk_cell BK143.out 2).trans rfl; have hcz121_3 : w119.cell? ⟨gb143, 3, none⟩ = some (.int .i64 0) := (blk_cell BK143.out 3).trans rfl; have hcz121_4 : w119.cell? ⟨gb143, 4, none⟩ = some (.int .u64 0) := (blk_cell BK143.out 4).trans rfl; have hfz121_0 := blk_frozen BK143.out 0; have hfz121_1 := blk_frozen BK143.out 1; have hfz121_2 := blk_frozen BK143.out 2; have hfz121_3 := blk_frozen BK143.out 3; have hfz121_4 := blk_frozen BK143.out 4))
                                    have n0_ : Aside0 ((w119.setCell ⟨gb143, 4, none⟩ (.int .u64 t165)).heap[gb142]? = some (.cells #[.int .i64 0, .int .i64 0, .int .i64 0, .int .i64 0, .int .u64 0] 36 (0, 0))) := ⟨by (with_reducible repeat (first | refine blk_drewN ?_ _ | refine blk_drew ?_ | refine blk_alloc ?_ _)); refine blk_far ?_ NB142_143.out _; (with_reducible repeat (first | refine blk_drewN ?_ _ | refine blk_drew ?_ | refine blk_alloc ?_ _)); exact BK142.out⟩
                                    have n1_ : Aside0 ((w119.setCell ⟨gb143, 4, none⟩ (.int .u64 t165)).heap[gb143]? = some (.cells #[.int .i64 0, .int .i64 a2, .int .i64 ji19, .int .i64 0, .int .u64 t165] 36 (0, 0))) := ⟨by (with_reducible repeat (first | refine blk_drewN ?_ _ | refine blk_drew ?_ | refine blk_alloc ?_ _)); refine blk_put (cs := #[.int .i64 0, .int .i64 a2, .int .i64 ji19, .int .i64 0, .int .u64 0]) ?_ 4 _ rfl; (with_reducible repeat (first | refine blk_drewN ?_ _ | refine blk_drew ?_ | refine blk_alloc ?_ _)); exact BK143.out⟩
                                    have n2_ : Aside0 ((w119.setCell ⟨gb143, 4, none⟩ (.int .u64 t165)).heap[gb159]? = some (.cells #[.bool t149, .bool t150, .bool t151, .bool t152, .bool t153, .bool true, .bool true, .bool t156, .int .i64 t157] 27 (0, 0))) := ⟨by (with_reducible repeat (first | refine blk_drewN ?_ _ | refine blk_drew ?_ | refine blk_alloc ?_ _)); refine blk_far ?_ NB159_143.out _; (with_reducible repeat (first | refine blk_drewN ?_ _ | refine blk_drew ?_ | refine blk_alloc ?_ _)); exact BK159.out⟩
                                    have n3_ : Aside0 (Below w.heap.size w (w119.setCell ⟨gb143, 4, none⟩ (.int .u64 t165))) := ⟨by repeat (first | (with_reducible first | exact HB.out | apply below_alloc | apply pw_below_drewN | apply below_drew1 | refine below_set ?_ GE142.out | refine below_set ?_ GE143.out | refine below_set ?_ GE159.out) | exact HB.out)⟩
                                    (try clear BK142)
                                    (try clear BK143)
                                    (try clear BK159)
                                    (try clear HB)
                                    generalize (w119.setCell ⟨gb143, 4, none⟩ (.int .u64 t165)) = w122 at n0_ n1_ n2_ n3_ ⊢
                                    have BK142 := n0_
                                    have BK143 := n1_
                                    have BK159 := n2_
                                    have HB := n3_
                                    clear n0_ n1_ n2_ n3_
                                    have n0_ := Aside0.mk (blk_drew BK142.out)
                                    have n1_ := Aside0.mk (blk_drew BK143.out)
                                    have n2_ := Aside0.mk (blk_drew BK159.out)
                                    have n3_ := Aside0.mk (below_drew1 HB.out)
                                    clear BK142
                                    clear BK143
                                    clear BK159
                                    clear HB
                                    have BK142 := n0_
                                    have BK143 := n1_
                                    have BK159 := n2_
                                    have HB := n3_
                                    clear n0_ n1_ n2_ n3_
                                    refine start_ (n := 9) (S := fun w' => w'.cell? ⟨gb159, 0, none⟩ = some (.bool t149) ∧ w'.cell? ⟨gb159, 1, none⟩ = some (.bool t150) ∧ w'.cell? ⟨gb159, 2, none⟩ = some (.bool t151) ∧ w'.cell? ⟨gb159, 3, none⟩ = some (.bool t152) ∧ w'.cell? ⟨gb159, 4, none⟩ = some (.bool t153) ∧ w'.cell? ⟨gb159, 5, none⟩ = some (.bool true) ∧ w'.cell? ⟨gb159, 6, none⟩ = some (.bool true) ∧ w'.cell? ⟨gb159, 7, none⟩ = some (.bool t156) ∧ w'.cell? ⟨gb159, 8, none⟩ = some (.int .i64 t157)) (ds := []) #[false, false, false, false, false, false, false, false, false] (by kernel_rfl) rfl rfl ⟨(blk_cell BK159.out 0).trans rfl, (blk_cell BK159.out 1).trans rfl, (blk_cell BK159.out 2).trans rfl, (blk_cell BK159.out 3).trans rfl, (blk_cell BK159.out 4).trans rfl, (blk_cell BK159.out 5).trans rfl, (blk_cell BK159.out 6).trans rfl, (blk_cell BK159.out 7).trans rfl, (blk_cell BK159.out 8).trans rfl⟩ (fun hHeld => ?_); refine with_tabW spec_l6Walk.tab25 spec_l6Walk.bits25 (fun HT_ HW_ => ?_)
                                    generalize w122.drew = w123 at BK142 BK143 BK159 HB hHeld ⊢
                                    refine pure_ (i := 0) (N := some 126) (v := ?_) (a' := ?_) #[true, false, false, false, false, false, false, false, false] rfl rfl (any_of HT_.out (by kernel_rfl)) (fun _ _ _ h => h) (Or.inl ⟨by rfl, ?_⟩) ?_ ?_
                                    rotate_left
                                    · intro w'
                                      go_simp
                                      with_reducible rfl
                                    rotate_left
                                    · simp only [Act.put, List.setIfInBounds_toArray, List.set_cons_zero, List.set_cons_succ, i64_w, i32_w]
                                      rfl
                                    refine pure_ (i := 3) (N := some 129) (v := ?_) (a' := ?_) #[true, false, false, true, false, false, false, false, false] rfl rfl (any_of HT_.out (by kernel_rfl)) (fun _ _ _ h => h) (Or.inl ⟨by rfl, ?_⟩) ?_ ?_
                                    rotate_left
                                    · intro w'
                                      go_simp
                                      with_reducible rfl
                                    rotate_left
                                    · simp only [Act.put, List.setIfInBounds_toArray, List.set_cons_zero, List.set_cons_succ, i64_w, i32_w]
                                      rfl
                                    refine pure_ (i := 4) (N := some 130) (v := ?_) (a' := ?_) #[true, false, false, true, true, false, false, false, false] rfl rfl (any_of HT_.out (by kernel_rfl)) (fun _ _ _ h => h) (Or.inl ⟨by rfl, ?_⟩) ?_ ?_
                                    rotate_left
                                    · intro w'
                                      go_simp
                                      with_reducible rfl
                                    rotate_left
                                    · simp only [Act.put, List.setIfInBounds_toArray, List.set_cons_zero, List.set_cons_succ, i64_w, i32_w]
                                      rfl
                                    refine pure_ (i := 5) (N := some 131) (v := ?_) (a' := ?_) #[true, false, false, true, true, true, false, false, false] rfl rfl (any_of HT_.out (by kernel_rfl)) (fun _ _ _ h => h) (Or.inl ⟨by rfl, ?_⟩) ?_ ?_
                                    rotate_left
                                    · intro w'
                                      go_simp
                                      with_reducible rfl
                                    rotate_left
                                    · simp only [Act.put, List.setIfInBounds_toArray, List.set_cons_zero, List.set_cons_succ, i64_w, i32_w]
                                      rfl
                                    refine take_ (i := 1) (N := some 127) (v := ?_) (a' := ?_) #[true, true, false, true, true, true, false, false, false] rfl rfl (take_ofW HT_.out HW_.out (by kernel_rfl)) (fun _ _ _ h => h) (Or.inl ⟨by rfl, ?_⟩) hHeld ?_ ?_
                                    rotate_left
                                    · rintro w' ⟨s0, s1, s2, s3, s4, s5, s6, s7, s8⟩
                                      go_simp
                                      with_reducible rfl
                                    rotate_left
                                    · simp only [Act.put, List.setIfInBounds_toArray, List.set_cons_zero, List.set_cons_succ, i64_w, i32_w]
                                      rfl
                                    refine pure_ (i := 2) (N := some 128) (v := ?_) (a' := ?_) #[true, true, true, true, true, true, false, false, false] rfl rfl (any_of HT_.out (by kernel_rfl)) (fun _ _ _ h => h) (Or.inl ⟨by rfl, ?_⟩) ?_ ?_
                                    rotate_left
                                    · intro w'
                                      go_simp
                                      with_reducible rfl
                                    rotate_left
                                    · simp only [Act.put, List.setIfInBounds_toArray, List.set_cons_zero, List.set_cons_succ, i64_w, i32_w]
                                      rfl
                                    refine pure_ (i := 6) (N := some 132) (v := ?_) (a' := ?_) #[true, true, true, true, true, true, true, false, false] rfl rfl (any_of HT_.out (by kernel_rfl)) (fun _ _ _ h => h) (Or.inl ⟨by rfl, ?_⟩) ?_ ?_
                                    rotate_left
                                    · intro w'
                                      go_simp
                                      with_reducible rfl
                                    rotate_left
                                    · simp only [Act.put, List.setIfInBounds_toArray, List.set_cons_zero, List.set_cons_succ, i64_w, i32_w]
                                      rfl
                                    refine pure_ (i := 7) (N := some 133) (v := ?_) (a' := ?_) #[true, true, true, true, true, true, true, true, false] rfl rfl (any_of HT_.out (by kernel_rfl)) (fun _ _ _ h => h) (Or.inl ⟨by rfl, ?_⟩) ?_ ?_
                                    rotate_left
                                    · intro w'
                                      go_simp
                                      with_reducible rfl
                                    rotate_left
                                    · simp only [Act.put, List.setIfInBounds_toArray, List.set_cons_zero, List.set_cons_succ, i64_w, i32_w]
                                      rfl
                                    refine one_ (i := 8) (N := none) #[true, true, true, true, true, true, true, true, true] rfl rfl (one_of HT_.out (by kernel_rfl)) (by decide) (fun K hK => ?_)
                                    have hs124 : w123.cell? ⟨gb143, 3, none⟩ = some (.int .i64 0) := (blk_cell BK143.out 3).trans rfl
                                    have hfs124 := blk_frozen BK143.out 3
                                    have hns124_0 := NB142_143.out
                                    have hns124_2 := NB159_143.out
                                    have hms124_0 := NB143_142.out
                                    have hms124_2 := NB143_159.out
                                    refine skip_ (w1 := ?_) (by rfl) rfl ?_ ?_
                                    rotate_left
                                    · go_simp
                                      rfl
                                    refine hK.out _ _ ⟨((cell_far (p := ⟨gb143, _, none⟩) NB159_143.out _).trans (hHeld.1)), ((cell_far (p := ⟨gb143, _, none⟩) NB159_143.out _).trans (hHeld.2.1)), ((cell_far (p := ⟨gb143, _, none⟩) NB159_143.out _).trans (hHeld.2.2.1)), ((cell_far (p := ⟨gb143, _, none⟩) NB159_143.out _).trans (hHeld.2.2.2.1)), ((cell_far (p := ⟨gb143, _, none⟩) NB159_143.out _).trans (hHeld.2.2.2.2.1)), ((cell_far (p := ⟨gb143, _, none⟩) NB159_143.out _).trans (hHeld.2.2.2.2.2.1)), ((cell_far (p := ⟨gb143, _, none⟩) NB159_143.out _).trans (hHeld.2.2.2.2.2.2.1)), ((cell_far (p := ⟨gb143, _, none⟩) NB159_143.out _).trans (hHeld.2.2.2.2.2.2.2.1)), ((cell_far (p := ⟨gb143, _, none⟩) NB159_143.out _).trans (hHeld.2.2.2.2.2.2.2.2))⟩ (fun hHeld => ?_)
                                    clear hK K
                                    refine done_ (done_of HT_.out (by kernel_rfl)) ?_
                                    have hcz125_0 : w123.cell? ⟨gb143, 0, none⟩ = some (.int .i64 0) := (blk_cell BK143.out 0).trans rfl
                                    have hcz125_1 : w123.cell? ⟨gb143, 1, none⟩ = some (.int .i64 a2) := (blk_cell BK143.out 1).trans rfl
                                    have hcz125_2 : w123.cell? ⟨gb143, 2, none⟩ = some (.int .i64 ji19) := (blk_cell BK143.out 2).trans rfl
                                    have hcz125_3 : w123.cell? ⟨gb143, 3, none⟩ = some (.int .i64 0) := (blk_cell BK143.out 3).trans rfl
                                    have hcz125_4 : w123.cell? ⟨gb143, 4, none⟩ = some (.int .u64 t165) := (blk_cell BK143.out 4).trans rfl
                                    have hfz125_0 := blk_frozen BK143.out 0
                                    have hfz125_1 := blk_frozen BK143.out 1
                                    have hfz125_2 := blk_frozen BK143.out 2
                                    have hfz125_3 := blk_frozen BK143.out 3
                                    have hfz125_4 := blk_frozen BK143.out 4
                                    have hcz126_0 : w123.cell? ⟨gb142, 0, none⟩ = some (.int .i64 0) := (blk_cell BK142.out 0).trans rfl
                                    have hcz126_1 : w123.cell? ⟨gb142, 1, none⟩ = some (.int .i64 0) := (blk_cell BK142.out 1).trans rfl
                                    have hcz126_2 : w123.cell? ⟨gb142, 2, none⟩ = some (.int .i64 0) := (blk_cell BK142.out 2).trans rfl
                                    have hcz126_3 : w123.cell? ⟨gb142, 3, none⟩ = some (.int .i64 0) := (blk_cell BK142.out 3).trans rfl
                                    have hcz126_4 : w123.cell? ⟨gb142, 4, none⟩ = some (.int .u64 0) := (blk_cell BK142.out 4).trans rfl
                                    have hfz126_0 := blk_frozen BK142.out 0
                                    have hfz126_1 := blk_frozen BK142.out 1
                                    have hfz126_2 := blk_frozen BK142.out 2
                                    have hfz126_3 := blk_frozen BK142.out 3
                                    have hfz126_4 := blk_frozen BK142.out 4
                                    try go_wp2
                                    refine bodyPost_ret (results_cell_row rfl _ _ gb142 36 #[.int .i64 0, .int .i64 a2, .int .i64 ji19, .int .i64 (wrap64 ((wrap64 (t157 * 256)) + (Int.tmod a3 (wrap64 (256 * t144))))), .int .u64 t165] (0, 0) _ rfl (by (with_reducible repeat (first | refine blk_drewN ?_ _ | refine blk_drew ?_ | refine blk_alloc ?_ _)); refine blk_put (cs := #[.int .i64 0, .int .i64 a2, .int .i64 ji19, .int .i64 (wrap64 ((wrap64 (t157 * 256)) + (Int.tmod a3 (wrap64 (256 * t144))))), .int .u64 0]) ?_ 4 _ rfl; (with_reducible repeat (first | refine blk_drewN ?_ _ | refine blk_drew ?_ | refine blk_alloc ?_ _)); refine blk_put (cs := #[.int .i64 0, .int .i64 a2, .int .i64 ji19, .int .i64 0, .int .u64 0]) ?_ 3 _ rfl; (with_reducible repeat (first | refine blk_drewN ?_ _ | refine blk_drew ?_ | refine blk_alloc ?_ _)); refine blk_put (cs := #[.int .i64 0, .int .i64 a2, .int .i64 0, .int .i64 0, .int .u64 0]) ?_ 2 _ rfl; (with_reducible repeat (first | refine blk_drewN ?_ _ | refine blk_drew ?_ | refine blk_alloc ?_ _)); refine blk_put (cs := #[.int .i64 0, .int .i64 0, .int .i64 0, .int .i64 0, .int .u64 0]) ?_ 1 _ rfl; (with_reducible repeat (first | refine blk_drewN ?_ _ | refine blk_drew ?_ | refine blk_alloc ?_ _)); refine blk_put (cs := #[.int .i64 0, .int .i64 0, .int .i64 0, .int .i64 0, .int .u64 0]) ?_ 0 _ rfl; (with_reducible repeat (first | refine blk_drewN ?_ _ | refine blk_drew ?_ | refine blk_alloc ?_ _)); refine blk_far ?_ NB142_143.out _; (with_reducible repeat (first | refine blk_drewN ?_ _ | refine blk_drew ?_ | refine blk_alloc ?_ _)); exact BK142.out) Try.underlying36 rfl (by kernel_rfl)) rfl ?_
                                    exact ⟨by first | rfl | (simp [errW_none, errW_some] <;> rfl) | (simp only [← hji19]; first | rfl | (simp [errW_none, errW_some] <;> rfl)) | (simp [*, errW_none, errW_some] <;> rfl), by repeat (first | (with_reducible first | exact HB.out | apply below_alloc | apply pw_below_drewN | apply below_drew1 | refine below_set ?_ GE142.out | refine below_set ?_ GE143.out | refine below_set ?_ GE159.out) | exact HB.out)⟩
                                · rw [if_neg c113] at H
                                  have c113b0 : (a4 == 1) = false := beq_eq_false_iff_ne.mpr c113
                                  have c113b1 : (a4 != 1) = true := bne_iff_ne.mpr c113
                                  replace H := Option.bind_eq_some_iff.mp H
                                  obtain ⟨⟨t167, t168⟩, A1270, H⟩ := H
                                  replace H : (if (wrap64 (256 * t144)) = 0 then (none) else (some (0, a2, ji19, wrap64 ((wrap64 (t157 * 256)) + (Int.tmod a3 (wrap64 (256 * t144)))), t167))) = some (r1, r2, r3, r4, r5) := H
                                  have A127 := Aside0.mk A1270
                                  clear A1270
                                  by_cases c128 : (wrap64 (256 * t144)) = 0
                                  · rw [if_pos c128] at H
                                    exact absurd H (by simp)
                                  · rw [if_neg c128] at H
                                    have c128b0 : ((wrap64 (256 * t144)) == 0) = false := beq_eq_false_iff_ne.mpr c128
                                    have c128b1 : ((wrap64 (256 * t144)) != 0) = true := bne_iff_ne.mpr c128
                                    simp only [Option.some.injEq, Prod.mk.injEq] at H
                                    obtain ⟨rfl, rfl, rfl, rfl, rfl⟩ := H
                                    have hnb129 := NB159_142.out
                                    have hnc129 := NB142_159.out
                                    have hnb130 := NB159_143.out
                                    have hnc130 := NB143_159.out
                                    have hcz131_0 : wc.cell? ⟨gb159, 0, none⟩ = some (.bool t149) := (blk_cell BK159.out 0).trans rfl
                                    have hcz131_1 : wc.cell? ⟨gb159, 1, none⟩ = some (.bool t150) := (blk_cell BK159.out 1).trans rfl
                                    have hcz131_2 : wc.cell? ⟨gb159, 2, none⟩ = some (.bool t151) := (blk_cell BK159.out 2).trans rfl
                                    have hcz131_3 : wc.cell? ⟨gb159, 3, none⟩ = some (.bool t152) := (blk_cell BK159.out 3).trans rfl
                                    have hcz131_4 : wc.cell? ⟨gb159, 4, none⟩ = some (.bool t153) := (blk_cell BK159.out 4).trans rfl
                                    have hcz131_5 : wc.cell? ⟨gb159, 5, none⟩ = some (.bool t154) := (blk_cell BK159.out 5).trans rfl
                                    have hcz131_6 : wc.cell? ⟨gb159, 6, none⟩ = some (.bool t155) := (blk_cell BK159.out 6).trans rfl
                                    have hcz131_7 : wc.cell? ⟨gb159, 7, none⟩ = some (.bool t156) := (blk_cell BK159.out 7).trans rfl
                                    have hcz131_8 : wc.cell? ⟨gb159, 8, none⟩ = some (.int .i64 t157) := (blk_cell BK159.out 8).trans rfl
                                    have hfz131_0 := blk_frozen BK159.out 0
                                    have hfz131_1 := blk_frozen BK159.out 1
                                    have hfz131_2 := blk_frozen BK159.out 2
                                    have hfz131_3 := blk_frozen BK159.out 3
                                    have hfz131_4 := blk_frozen BK159.out 4
                                    have hfz131_5 := blk_frozen BK159.out 5
                                    have hfz131_6 := blk_frozen BK159.out 6
                                    have hfz131_7 := blk_frozen BK159.out 7
                                    have hfz131_8 := blk_frozen BK159.out 8
                                    try go_wp2_with (first | ((with_reducible refine gate_callee (f := 12) rfl ?_); refine goesL_ (some 122) rfl rfl Try.func12 (by kernel_rfl) rfl #[.agg #[.bool t149, .bool t150, .bool t151, .bool t152, .bool t153, .bool true, .bool t155, .bool t156, .int .i64 t157]] rfl (by (try simp only [List.map_toArray, List.map_cons, List.map_nil]); first | done | rfl | (simp only [List.length_drop, List.length_take]; first | done | rfl)) ?_; (with_reducible refine (spec_PutEntry.calls kj65 t149 t150 t151 t152 t153 true t155 t156 t157 t167 t168 _ A127.out).mono ?_); rintro e w132 ⟨rfl, hb⟩; refine ⟨_, rfl, ?_⟩; have n0_ := Aside0.mk (blk_below (g := gb142) (o := .cells #[.int .i64 0, .int .i64 0, .int .i64 0, .int .i64 0, .int .u64 0] 36 (0, 0)) (by (with_reducible repeat (first | refine blk_drewN ?_ _ | refine blk_drew ?_ | refine blk_alloc ?_ _)); refine blk_far ?_ NB142_159.out _; (with_reducible repeat (first | refine blk_drewN ?_ _ | refine blk_drew ?_ | refine blk_alloc ?_ _)); exact BK142.out) hb); have n1_ := Aside0.mk (blk_below (g := gb143) (o := .cells #[.int .i64 0, .int .i64 a2, .int .i64 ji19, .int .i64 0, .int .u64 0] 36 (0, 0)) (by (with_reducible repeat (first | refine blk_drewN ?_ _ | refine blk_drew ?_ | refine blk_alloc ?_ _)); refine blk_far ?_ NB143_159.out _; (with_reducible repeat (first | refine blk_drewN ?_ _ | refine blk_drew ?_ | refine blk_alloc ?_ _)); exact BK143.out) hb); have n2_ := Aside0.mk (blk_below (g := gb159) (o := .cells #[.bool t149, .bool t150, .bool t151, .bool t152, .bool t153, .bool true, .bool t155, .bool t156, .int .i64 t157] 27 (0, 0)) (by (with_reducible repeat (first | refine blk_drewN ?_ _ | refine blk_drew ?_ | refine blk_alloc ?_ _)); refine blk_put (cs := #[.bool t149, .bool t150, .bool t151, .bool t152, .bool t153, .bool t154, .bool t155, .bool t156, .int .i64 t157]) ?_ 5 _ rfl; (with_reducible repeat (first | refine blk_drewN ?_ _ | refine blk_drew ?_ | refine blk_alloc ?_ _)); exact BK159.out) hb); have n3_ := Aside0.mk (below_step (by repeat (first | (with_reducible first | exact HB.out | apply below_alloc | apply pw_below_drewN | apply below_drew1 | refine below_set ?_ GE142.out | refine below_set ?_ GE143.out | refine below_set ?_ GE159.out) | exact HB.out)) hb); clear BK142; clear BK143; clear BK159; clear HB; have BK142 := n0_; have BK143 := n1_; have BK159 := n2_; have HB := n3_; clear n0_ n1_ n2_ n3_; (try clear hb); (try clear hb2); (try clear hk); (try clear hi); have hnb133 := NB143_142.out; have hnc133 := NB142_143.out; have hcz134_0 : w132.cell? ⟨gb143, 0, none⟩ = some (.int .i64 0) := (blk_cell BK143.out 0).trans rfl; have hcz134_1 : w132.cell? ⟨gb143, 1, none⟩ = some (.int .i64 a2) := (blk_cell BK143.out 1).trans rfl; have hcz134_2 : w132.cell? ⟨gb143, 2, none⟩ = some (.int .i64 ji19) := (blk_cell BK143.out 2).trans rfl; have hcz134_3 : w132.cell? ⟨gb143, 3, none⟩ = some (.int .i64 0) := (blk_cell BK143.out 3).trans rfl; have hcz134_4 : w132.cell? ⟨gb143, 4, none⟩ = some (.int .u64 0) := (blk_cell BK143.out 4).trans rfl; have hfz134_0 := blk_frozen BK143.out 0; have hfz134_1 := blk_frozen BK143.out 1; have hfz134_2 := blk_frozen BK143.out 2; have hfz134_3 := blk_frozen BK143.out 3; have hfz134_4 := blk_frozen BK143.out 4))
                                    have n0_ : Aside0 ((w132.setCell ⟨gb143, 4, none⟩ (.int .u64 t167)).heap[gb142]? = some (.cells #[.int .i64 0, .int .i64 0, .int .i64 0, .int .i64 0, .int .u64 0] 36 (0, 0))) := ⟨by (with_reducible repeat (first | refine blk_drewN ?_ _ | refine blk_drew ?_ | refine blk_alloc ?_ _)); refine blk_far ?_ NB142_143.out _; (with_reducible repeat (first | refine blk_drewN ?_ _ | refine blk_drew ?_ | refine blk_alloc ?_ _)); exact BK142.out⟩
                                    have n1_ : Aside0 ((w132.setCell ⟨gb143, 4, none⟩ (.int .u64 t167)).heap[gb143]? = some (.cells #[.int .i64 0, .int .i64 a2, .int .i64 ji19, .int .i64 0, .int .u64 t167] 36 (0, 0))) := ⟨by (with_reducible repeat (first | refine blk_drewN ?_ _ | refine blk_drew ?_ | refine blk_alloc ?_ _)); refine blk_put (cs := #[.int .i64 0, .int .i64 a2, .int .i64 ji19, .int .i64 0, .int .u64 0]) ?_ 4 _ rfl; (with_reducible repeat (first | refine blk_drewN ?_ _ | refine blk_drew ?_ | refine blk_alloc ?_ _)); exact BK143.out⟩
                                    have n2_ : Aside0 ((w132.setCell ⟨gb143, 4, none⟩ (.int .u64 t167)).heap[gb159]? = some (.cells #[.bool t149, .bool t150, .bool t151, .bool t152, .bool t153, .bool true, .bool t155, .bool t156, .int .i64 t157] 27 (0, 0))) := ⟨by (with_reducible repeat (first | refine blk_drewN ?_ _ | refine blk_drew ?_ | refine blk_alloc ?_ _)); refine blk_far ?_ NB159_143.out _; (with_reducible repeat (first | refine blk_drewN ?_ _ | refine blk_drew ?_ | refine blk_alloc ?_ _)); exact BK159.out⟩
                                    have n3_ : Aside0 (Below w.heap.size w (w132.setCell ⟨gb143, 4, none⟩ (.int .u64 t167))) := ⟨by repeat (first | (with_reducible first | exact HB.out | apply below_alloc | apply pw_below_drewN | apply below_drew1 | refine below_set ?_ GE142.out | refine below_set ?_ GE143.out | refine below_set ?_ GE159.out) | exact HB.out)⟩
                                    (try clear BK142)
                                    (try clear BK143)
                                    (try clear BK159)
                                    (try clear HB)
                                    generalize (w132.setCell ⟨gb143, 4, none⟩ (.int .u64 t167)) = w135 at n0_ n1_ n2_ n3_ ⊢
                                    have BK142 := n0_
                                    have BK143 := n1_
                                    have BK159 := n2_
                                    have HB := n3_
                                    clear n0_ n1_ n2_ n3_
                                    have n0_ := Aside0.mk (blk_drew BK142.out)
                                    have n1_ := Aside0.mk (blk_drew BK143.out)
                                    have n2_ := Aside0.mk (blk_drew BK159.out)
                                    have n3_ := Aside0.mk (below_drew1 HB.out)
                                    clear BK142
                                    clear BK143
                                    clear BK159
                                    clear HB
                                    have BK142 := n0_
                                    have BK143 := n1_
                                    have BK159 := n2_
                                    have HB := n3_
                                    clear n0_ n1_ n2_ n3_
                                    refine start_ (n := 9) (S := fun w' => w'.cell? ⟨gb159, 0, none⟩ = some (.bool t149) ∧ w'.cell? ⟨gb159, 1, none⟩ = some (.bool t150) ∧ w'.cell? ⟨gb159, 2, none⟩ = some (.bool t151) ∧ w'.cell? ⟨gb159, 3, none⟩ = some (.bool t152) ∧ w'.cell? ⟨gb159, 4, none⟩ = some (.bool t153) ∧ w'.cell? ⟨gb159, 5, none⟩ = some (.bool true) ∧ w'.cell? ⟨gb159, 6, none⟩ = some (.bool t155) ∧ w'.cell? ⟨gb159, 7, none⟩ = some (.bool t156) ∧ w'.cell? ⟨gb159, 8, none⟩ = some (.int .i64 t157)) (ds := []) #[false, false, false, false, false, false, false, false, false] (by kernel_rfl) rfl rfl ⟨(blk_cell BK159.out 0).trans rfl, (blk_cell BK159.out 1).trans rfl, (blk_cell BK159.out 2).trans rfl, (blk_cell BK159.out 3).trans rfl, (blk_cell BK159.out 4).trans rfl, (blk_cell BK159.out 5).trans rfl, (blk_cell BK159.out 6).trans rfl, (blk_cell BK159.out 7).trans rfl, (blk_cell BK159.out 8).trans rfl⟩ (fun hHeld => ?_); refine with_tabW spec_l6Walk.tab25 spec_l6Walk.bits25 (fun HT_ HW_ => ?_)
                                    generalize w135.drew = w136 at BK142 BK143 BK159 HB hHeld ⊢
                                    refine pure_ (i := 0) (N := some 126) (v := ?_) (a' := ?_) #[true, false, false, false, false, false, false, false, false] rfl rfl (any_of HT_.out (by kernel_rfl)) (fun _ _ _ h => h) (Or.inl ⟨by rfl, ?_⟩) ?_ ?_
                                    rotate_left
                                    · intro w'
                                      go_simp
                                      with_reducible rfl
                                    rotate_left
                                    · simp only [Act.put, List.setIfInBounds_toArray, List.set_cons_zero, List.set_cons_succ, i64_w, i32_w]
                                      rfl
                                    refine pure_ (i := 3) (N := some 129) (v := ?_) (a' := ?_) #[true, false, false, true, false, false, false, false, false] rfl rfl (any_of HT_.out (by kernel_rfl)) (fun _ _ _ h => h) (Or.inl ⟨by rfl, ?_⟩) ?_ ?_
                                    rotate_left
                                    · intro w'
                                      go_simp
                                      with_reducible rfl
                                    rotate_left
                                    · simp only [Act.put, List.setIfInBounds_toArray, List.set_cons_zero, List.set_cons_succ, i64_w, i32_w]
                                      rfl
                                    refine pure_ (i := 4) (N := some 130) (v := ?_) (a' := ?_) #[true, false, false, true, true, false, false, false, false] rfl rfl (any_of HT_.out (by kernel_rfl)) (fun _ _ _ h => h) (Or.inl ⟨by rfl, ?_⟩) ?_ ?_
                                    rotate_left
                                    · intro w'
                                      go_simp
                                      with_reducible rfl
                                    rotate_left
                                    · simp only [Act.put, List.setIfInBounds_toArray, List.set_cons_zero, List.set_cons_succ, i64_w, i32_w]
                                      rfl
                                    refine pure_ (i := 5) (N := some 131) (v := ?_) (a' := ?_) #[true, false, false, true, true, true, false, false, false] rfl rfl (any_of HT_.out (by kernel_rfl)) (fun _ _ _ h => h) (Or.inl ⟨by rfl, ?_⟩) ?_ ?_
                                    rotate_left
                                    · intro w'
                                      go_simp
                                      with_reducible rfl
                                    rotate_left
                                    · simp only [Act.put, List.setIfInBounds_toArray, List.set_cons_zero, List.set_cons_succ, i64_w, i32_w]
                                      rfl
                                    refine take_ (i := 1) (N := some 127) (v := ?_) (a' := ?_) #[true, true, false, true, true, true, false, false, false] rfl rfl (take_ofW HT_.out HW_.out (by kernel_rfl)) (fun _ _ _ h => h) (Or.inl ⟨by rfl, ?_⟩) hHeld ?_ ?_
                                    rotate_left
                                    · rintro w' ⟨s0, s1, s2, s3, s4, s5, s6, s7, s8⟩
                                      go_simp
                                      with_reducible rfl
                                    rotate_left
                                    · simp only [Act.put, List.setIfInBounds_toArray, List.set_cons_zero, List.set_cons_succ, i64_w, i32_w]
                                      rfl
                                    refine pure_ (i := 2) (N := some 128) (v := ?_) (a' := ?_) #[true, true, true, true, true, true, false, false, false] rfl rfl (any_of HT_.out (by kernel_rfl)) (fun _ _ _ h => h) (Or.inl ⟨by rfl, ?_⟩) ?_ ?_
                                    rotate_left
                                    · intro w'
                                      go_simp
                                      with_reducible rfl
                                    rotate_left
                                    · simp only [Act.put, List.setIfInBounds_toArray, List.set_cons_zero, List.set_cons_succ, i64_w, i32_w]
                                      rfl
                                    refine pure_ (i := 6) (N := some 132) (v := ?_) (a' := ?_) #[true, true, true, true, true, true, true, false, false] rfl rfl (any_of HT_.out (by kernel_rfl)) (fun _ _ _ h => h) (Or.inl ⟨by rfl, ?_⟩) ?_ ?_
                                    rotate_left
                                    · intro w'
                                      go_simp
                                      with_reducible rfl
                                    rotate_left
                                    · simp only [Act.put, List.setIfInBounds_toArray, List.set_cons_zero, List.set_cons_succ, i64_w, i32_w]
                                      rfl
                                    refine pure_ (i := 7) (N := some 133) (v := ?_) (a' := ?_) #[true, true, true, true, true, true, true, true, false] rfl rfl (any_of HT_.out (by kernel_rfl)) (fun _ _ _ h => h) (Or.inl ⟨by rfl, ?_⟩) ?_ ?_
                                    rotate_left
                                    · intro w'
                                      go_simp
                                      with_reducible rfl
                                    rotate_left
                                    · simp only [Act.put, List.setIfInBounds_toArray, List.set_cons_zero, List.set_cons_succ, i64_w, i32_w]
                                      rfl
                                    refine one_ (i := 8) (N := none) #[true, true, true, true, true, true, true, true, true] rfl rfl (one_of HT_.out (by kernel_rfl)) (by decide) (fun K hK => ?_)
                                    have hs137 : w136.cell? ⟨gb143, 3, none⟩ = some (.int .i64 0) := (blk_cell BK143.out 3).trans rfl
                                    have hfs137 := blk_frozen BK143.out 3
                                    have hns137_0 := NB142_143.out
                                    have hns137_2 := NB159_143.out
                                    have hms137_0 := NB143_142.out
                                    have hms137_2 := NB143_159.out
                                    refine skip_ (w1 := ?_) (by rfl) rfl ?_ ?_
                                    rotate_left
                                    · go_simp
                                      rfl
                                    refine hK.out _ _ ⟨((cell_far (p := ⟨gb143, _, none⟩) NB159_143.out _).trans (hHeld.1)), ((cell_far (p := ⟨gb143, _, none⟩) NB159_143.out _).trans (hHeld.2.1)), ((cell_far (p := ⟨gb143, _, none⟩) NB159_143.out _).trans (hHeld.2.2.1)), ((cell_far (p := ⟨gb143, _, none⟩) NB159_143.out _).trans (hHeld.2.2.2.1)), ((cell_far (p := ⟨gb143, _, none⟩) NB159_143.out _).trans (hHeld.2.2.2.2.1)), ((cell_far (p := ⟨gb143, _, none⟩) NB159_143.out _).trans (hHeld.2.2.2.2.2.1)), ((cell_far (p := ⟨gb143, _, none⟩) NB159_143.out _).trans (hHeld.2.2.2.2.2.2.1)), ((cell_far (p := ⟨gb143, _, none⟩) NB159_143.out _).trans (hHeld.2.2.2.2.2.2.2.1)), ((cell_far (p := ⟨gb143, _, none⟩) NB159_143.out _).trans (hHeld.2.2.2.2.2.2.2.2))⟩ (fun hHeld => ?_)
                                    clear hK K
                                    refine done_ (done_of HT_.out (by kernel_rfl)) ?_
                                    have hcz138_0 : w136.cell? ⟨gb143, 0, none⟩ = some (.int .i64 0) := (blk_cell BK143.out 0).trans rfl
                                    have hcz138_1 : w136.cell? ⟨gb143, 1, none⟩ = some (.int .i64 a2) := (blk_cell BK143.out 1).trans rfl
                                    have hcz138_2 : w136.cell? ⟨gb143, 2, none⟩ = some (.int .i64 ji19) := (blk_cell BK143.out 2).trans rfl
                                    have hcz138_3 : w136.cell? ⟨gb143, 3, none⟩ = some (.int .i64 0) := (blk_cell BK143.out 3).trans rfl
                                    have hcz138_4 : w136.cell? ⟨gb143, 4, none⟩ = some (.int .u64 t167) := (blk_cell BK143.out 4).trans rfl
                                    have hfz138_0 := blk_frozen BK143.out 0
                                    have hfz138_1 := blk_frozen BK143.out 1
                                    have hfz138_2 := blk_frozen BK143.out 2
                                    have hfz138_3 := blk_frozen BK143.out 3
                                    have hfz138_4 := blk_frozen BK143.out 4
                                    have hcz139_0 : w136.cell? ⟨gb142, 0, none⟩ = some (.int .i64 0) := (blk_cell BK142.out 0).trans rfl
                                    have hcz139_1 : w136.cell? ⟨gb142, 1, none⟩ = some (.int .i64 0) := (blk_cell BK142.out 1).trans rfl
                                    have hcz139_2 : w136.cell? ⟨gb142, 2, none⟩ = some (.int .i64 0) := (blk_cell BK142.out 2).trans rfl
                                    have hcz139_3 : w136.cell? ⟨gb142, 3, none⟩ = some (.int .i64 0) := (blk_cell BK142.out 3).trans rfl
                                    have hcz139_4 : w136.cell? ⟨gb142, 4, none⟩ = some (.int .u64 0) := (blk_cell BK142.out 4).trans rfl
                                    have hfz139_0 := blk_frozen BK142.out 0
                                    have hfz139_1 := blk_frozen BK142.out 1
                                    have hfz139_2 := blk_frozen BK142.out 2
                                    have hfz139_3 := blk_frozen BK142.out 3
                                    have hfz139_4 := blk_frozen BK142.out 4
                                    try go_wp2
                                    refine bodyPost_ret (results_cell_row rfl _ _ gb142 36 #[.int .i64 0, .int .i64 a2, .int .i64 ji19, .int .i64 (wrap64 ((wrap64 (t157 * 256)) + (Int.tmod a3 (wrap64 (256 * t144))))), .int .u64 t167] (0, 0) _ rfl (by (with_reducible repeat (first | refine blk_drewN ?_ _ | refine blk_drew ?_ | refine blk_alloc ?_ _)); refine blk_put (cs := #[.int .i64 0, .int .i64 a2, .int .i64 ji19, .int .i64 (wrap64 ((wrap64 (t157 * 256)) + (Int.tmod a3 (wrap64 (256 * t144))))), .int .u64 0]) ?_ 4 _ rfl; (with_reducible repeat (first | refine blk_drewN ?_ _ | refine blk_drew ?_ | refine blk_alloc ?_ _)); refine blk_put (cs := #[.int .i64 0, .int .i64 a2, .int .i64 ji19, .int .i64 0, .int .u64 0]) ?_ 3 _ rfl; (with_reducible repeat (first | refine blk_drewN ?_ _ | refine blk_drew ?_ | refine blk_alloc ?_ _)); refine blk_put (cs := #[.int .i64 0, .int .i64 a2, .int .i64 0, .int .i64 0, .int .u64 0]) ?_ 2 _ rfl; (with_reducible repeat (first | refine blk_drewN ?_ _ | refine blk_drew ?_ | refine blk_alloc ?_ _)); refine blk_put (cs := #[.int .i64 0, .int .i64 0, .int .i64 0, .int .i64 0, .int .u64 0]) ?_ 1 _ rfl; (with_reducible repeat (first | refine blk_drewN ?_ _ | refine blk_drew ?_ | refine blk_alloc ?_ _)); refine blk_put (cs := #[.int .i64 0, .int .i64 0, .int .i64 0, .int .i64 0, .int .u64 0]) ?_ 0 _ rfl; (with_reducible repeat (first | refine blk_drewN ?_ _ | refine blk_drew ?_ | refine blk_alloc ?_ _)); refine blk_far ?_ NB142_143.out _; (with_reducible repeat (first | refine blk_drewN ?_ _ | refine blk_drew ?_ | refine blk_alloc ?_ _)); exact BK142.out) Try.underlying36 rfl (by kernel_rfl)) rfl ?_
                                    exact ⟨by first | rfl | (simp [errW_none, errW_some] <;> rfl) | (simp only [← hji19]; first | rfl | (simp [errW_none, errW_some] <;> rfl)) | (simp [*, errW_none, errW_some] <;> rfl), by repeat (first | (with_reducible first | exact HB.out | apply below_alloc | apply pw_below_drewN | apply below_drew1 | refine below_set ?_ GE142.out | refine below_set ?_ GE143.out | refine below_set ?_ GE159.out) | exact HB.out)⟩
              · rw [if_neg c22] at H
                exact absurd H (by simp)
            · rw [if_neg c21] at H
              exact absurd H (by simp)
          · rw [if_neg c20] at H
            exact absurd H (by simp)

end Go.Proofs.Ytdhafphhkokniaa.PFnExactTranslate
