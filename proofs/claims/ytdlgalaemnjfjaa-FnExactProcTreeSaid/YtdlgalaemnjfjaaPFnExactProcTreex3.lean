-- Written by a program of this session out of the translation. Not trusted: Lean checks it.
import Derived.Test.YtdlgalaemnjfjaaPFnExactProcTreex0
import Derived.Test.YtdlgalaemnjfjaaPFnExactProcTreex2
namespace Go.Proofs.Ytdlgalaemnjfjaa.PFnExactProcTree
open Go.RowKit Go.Proofs.YtdlgalaemnjfjaaW.PrintWords Go.Proofs.YtdlgalaemnjfjaaW.PrintLast Go.Proofs.YtdlgalaemnjfjaaW.PrintMore
attribute [local go_sem] max2_int min2_int max_two min_two max_three min_three max_four min_four   -- for this text's walks alone
set_option linter.unusedVariables false
set_option linter.unusedSimpArgs false

/-! ### spec_l16One: function 52 -/
mutual
def spec_l16One.j0 : Nat → Bool → Int → Int → Int → Int → Int → Int → Int → Int → Int → Int → Option (Bool)
  | 0, _, _, _, _, _, _, _, _, _, _, _ => none
  | k + 1, x55, x157000, x157001, x157002, x157003, x157004, x157005, x157006, x157007, x157008, x157009 => if x55 = true then (some false) else (if x157004 < 1 then (spec_l16One.j1 k true x157000 x157001 x157002 x157003 x157004 x157005 x157006 x157007 x157008 x157009) else (if x157004 > 3 then (spec_l16One.j1 k true x157000 x157001 x157002 x157003 x157004 x157005 x157006 x157007 x157008 x157009) else (if x157005 < 0 then (spec_l16One.j1 k true x157000 x157001 x157002 x157003 x157004 x157005 x157006 x157007 x157008 x157009) else (if x157005 > 255 then (spec_l16One.j1 k true x157000 x157001 x157002 x157003 x157004 x157005 x157006 x157007 x157008 x157009) else (if x157004 = 3 then (spec_l16One.j1 k false x157000 x157001 x157002 x157003 x157004 x157005 x157006 x157007 x157008 x157009) else (spec_l16One.j1 k (x157005 != 0) x157000 x157001 x157002 x157003 x157004 x157005 x157006 x157007 x157008 x157009))))))
def spec_l16One.j1 : Nat → Bool → Int → Int → Int → Int → Int → Int → Int → Int → Int → Int → Option (Bool)
  | 0, _, _, _, _, _, _, _, _, _, _, _ => none
  | k + 1, x83, x157000, x157001, x157002, x157003, x157004, x157005, x157006, x157007, x157008, x157009 => if x83 = true then (some false) else ((spec_l16Set.f k x157006).bind fun t158 => (if t158 = true then ((spec_l16Soft.f k x157007).bind fun t159 => (if t159 = true then ((spec_l16Soft.f k x157008).bind fun t160 => (if t160 = true then ((spec_l16Soft.f k x157009).bind fun t161 => (spec_l16One.j2 k (!t161) x157000 x157001 x157002 x157003 x157004 x157005 x157006 x157007 x157008 x157009)) else (spec_l16One.j2 k true x157000 x157001 x157002 x157003 x157004 x157005 x157006 x157007 x157008 x157009))) else (spec_l16One.j2 k true x157000 x157001 x157002 x157003 x157004 x157005 x157006 x157007 x157008 x157009))) else (spec_l16One.j2 k true x157000 x157001 x157002 x157003 x157004 x157005 x157006 x157007 x157008 x157009)))
def spec_l16One.j2 : Nat → Bool → Int → Int → Int → Int → Int → Int → Int → Int → Int → Int → Option (Bool)
  | 0, _, _, _, _, _, _, _, _, _, _, _ => none
  | k + 1, x105, x157000, x157001, x157002, x157003, x157004, x157005, x157006, x157007, x157008, x157009 => if x105 = true then (some false) else (spec_l16One.l0 k 1 x157000 x157001 x157002 x157003 x157004 x157005 x157006 x157007 x157008 x157009)
def spec_l16One.l0 : Nat → Int → Int → Int → Int → Int → Int → Int → Int → Int → Int → Int → Option (Bool)
  | 0, _, _, _, _, _, _, _, _, _, _, _ => none
  | k + 1, x6, x157000, x157001, x157002, x157003, x157004, x157005, x157006, x157007, x157008, x157009 => if x6 ≤ 15 then ((spec_l16Has.f k x157008 x6).bind fun t162 => (if t162 = true then ((spec_l16Has.f k x157009 x6).bind fun t163 => (if t163 = true then (some false) else (spec_l16One.l0 k (wrap64 (x6 + 1)) x157000 x157001 x157002 x157003 x157004 x157005 x157006 x157007 x157008 x157009))) else (spec_l16One.l0 k (wrap64 (x6 + 1)) x157000 x157001 x157002 x157003 x157004 x157005 x157006 x157007 x157008 x157009))) else (if x157004 = 3 then (some ((wrap64 ((wrap64 ((wrap64 (x157006 + x157007)) + x157008)) + x157009)) == 0)) else (some true))
end
def spec_l16One.f (k : Nat) (l0_0 : List (S87)) (a1 : Int) : Option (Bool) := if 0 ≤ a1 then (if a1 < (l0_0.length : Int) then (if ((rd_T87 l0_0 a1).f0) < 1 then (spec_l16One.j0 k true ((rd_T87 l0_0 a1).f0) ((rd_T87 l0_0 a1).f1) ((rd_T87 l0_0 a1).f2) ((rd_T87 l0_0 a1).f3) ((rd_T87 l0_0 a1).f4) ((rd_T87 l0_0 a1).f5) ((rd_T87 l0_0 a1).f6) ((rd_T87 l0_0 a1).f7) ((rd_T87 l0_0 a1).f8) ((rd_T87 l0_0 a1).f9)) else (if ((rd_T87 l0_0 a1).f0) > 32 then (spec_l16One.j0 k true ((rd_T87 l0_0 a1).f0) ((rd_T87 l0_0 a1).f1) ((rd_T87 l0_0 a1).f2) ((rd_T87 l0_0 a1).f3) ((rd_T87 l0_0 a1).f4) ((rd_T87 l0_0 a1).f5) ((rd_T87 l0_0 a1).f6) ((rd_T87 l0_0 a1).f7) ((rd_T87 l0_0 a1).f8) ((rd_T87 l0_0 a1).f9)) else (if a1 > 0 then (if 0 ≤ (wrap64 (a1 - 1)) then (if (wrap64 (a1 - 1)) < (l0_0.length : Int) then (if ((rd_T87 l0_0 (wrap64 (a1 - 1))).f0) ≥ ((rd_T87 l0_0 a1).f0) then (spec_l16One.j0 k true ((rd_T87 l0_0 a1).f0) ((rd_T87 l0_0 a1).f1) ((rd_T87 l0_0 a1).f2) ((rd_T87 l0_0 a1).f3) ((rd_T87 l0_0 a1).f4) ((rd_T87 l0_0 a1).f5) ((rd_T87 l0_0 a1).f6) ((rd_T87 l0_0 a1).f7) ((rd_T87 l0_0 a1).f8) ((rd_T87 l0_0 a1).f9)) else (if ((rd_T87 l0_0 a1).f2) < 1 then (spec_l16One.j0 k true ((rd_T87 l0_0 a1).f0) ((rd_T87 l0_0 a1).f1) ((rd_T87 l0_0 a1).f2) ((rd_T87 l0_0 a1).f3) ((rd_T87 l0_0 a1).f4) ((rd_T87 l0_0 a1).f5) ((rd_T87 l0_0 a1).f6) ((rd_T87 l0_0 a1).f7) ((rd_T87 l0_0 a1).f8) ((rd_T87 l0_0 a1).f9)) else (if ((rd_T87 l0_0 a1).f2) > 32 then (spec_l16One.j0 k true ((rd_T87 l0_0 a1).f0) ((rd_T87 l0_0 a1).f1) ((rd_T87 l0_0 a1).f2) ((rd_T87 l0_0 a1).f3) ((rd_T87 l0_0 a1).f4) ((rd_T87 l0_0 a1).f5) ((rd_T87 l0_0 a1).f6) ((rd_T87 l0_0 a1).f7) ((rd_T87 l0_0 a1).f8) ((rd_T87 l0_0 a1).f9)) else (if ((rd_T87 l0_0 a1).f3) < 0 then (spec_l16One.j0 k true ((rd_T87 l0_0 a1).f0) ((rd_T87 l0_0 a1).f1) ((rd_T87 l0_0 a1).f2) ((rd_T87 l0_0 a1).f3) ((rd_T87 l0_0 a1).f4) ((rd_T87 l0_0 a1).f5) ((rd_T87 l0_0 a1).f6) ((rd_T87 l0_0 a1).f7) ((rd_T87 l0_0 a1).f8) ((rd_T87 l0_0 a1).f9)) else (spec_l16One.j0 k (decide (((rd_T87 l0_0 a1).f3) > 255)) ((rd_T87 l0_0 a1).f0) ((rd_T87 l0_0 a1).f1) ((rd_T87 l0_0 a1).f2) ((rd_T87 l0_0 a1).f3) ((rd_T87 l0_0 a1).f4) ((rd_T87 l0_0 a1).f5) ((rd_T87 l0_0 a1).f6) ((rd_T87 l0_0 a1).f7) ((rd_T87 l0_0 a1).f8) ((rd_T87 l0_0 a1).f9)))))) else (none)) else (none)) else (if ((rd_T87 l0_0 a1).f2) < 1 then (spec_l16One.j0 k true ((rd_T87 l0_0 a1).f0) ((rd_T87 l0_0 a1).f1) ((rd_T87 l0_0 a1).f2) ((rd_T87 l0_0 a1).f3) ((rd_T87 l0_0 a1).f4) ((rd_T87 l0_0 a1).f5) ((rd_T87 l0_0 a1).f6) ((rd_T87 l0_0 a1).f7) ((rd_T87 l0_0 a1).f8) ((rd_T87 l0_0 a1).f9)) else (if ((rd_T87 l0_0 a1).f2) > 32 then (spec_l16One.j0 k true ((rd_T87 l0_0 a1).f0) ((rd_T87 l0_0 a1).f1) ((rd_T87 l0_0 a1).f2) ((rd_T87 l0_0 a1).f3) ((rd_T87 l0_0 a1).f4) ((rd_T87 l0_0 a1).f5) ((rd_T87 l0_0 a1).f6) ((rd_T87 l0_0 a1).f7) ((rd_T87 l0_0 a1).f8) ((rd_T87 l0_0 a1).f9)) else (if ((rd_T87 l0_0 a1).f3) < 0 then (spec_l16One.j0 k true ((rd_T87 l0_0 a1).f0) ((rd_T87 l0_0 a1).f1) ((rd_T87 l0_0 a1).f2) ((rd_T87 l0_0 a1).f3) ((rd_T87 l0_0 a1).f4) ((rd_T87 l0_0 a1).f5) ((rd_T87 l0_0 a1).f6) ((rd_T87 l0_0 a1).f7) ((rd_T87 l0_0 a1).f8) ((rd_T87 l0_0 a1).f9)) else (spec_l16One.j0 k (decide (((rd_T87 l0_0 a1).f3) > 255)) ((rd_T87 l0_0 a1).f0) ((rd_T87 l0_0 a1).f1) ((rd_T87 l0_0 a1).f2) ((rd_T87 l0_0 a1).f3) ((rd_T87 l0_0 a1).f4) ((rd_T87 l0_0 a1).f5) ((rd_T87 l0_0 a1).f6) ((rd_T87 l0_0 a1).f7) ((rd_T87 l0_0 a1).f8) ((rd_T87 l0_0 a1).f9)))))))) else (none)) else (none)
theorem spec_l16One.mono_l : ∀ k, (∀ y0 y1 y2 y3 y4 y5 y6 y7 y8 y9 y10, LeO (spec_l16One.j0 k y0 y1 y2 y3 y4 y5 y6 y7 y8 y9 y10) (spec_l16One.j0 (k + 1) y0 y1 y2 y3 y4 y5 y6 y7 y8 y9 y10)) ∧ (∀ y0 y1 y2 y3 y4 y5 y6 y7 y8 y9 y10, LeO (spec_l16One.j1 k y0 y1 y2 y3 y4 y5 y6 y7 y8 y9 y10) (spec_l16One.j1 (k + 1) y0 y1 y2 y3 y4 y5 y6 y7 y8 y9 y10)) ∧ (∀ y0 y1 y2 y3 y4 y5 y6 y7 y8 y9 y10, LeO (spec_l16One.j2 k y0 y1 y2 y3 y4 y5 y6 y7 y8 y9 y10) (spec_l16One.j2 (k + 1) y0 y1 y2 y3 y4 y5 y6 y7 y8 y9 y10)) ∧ (∀ y0 y1 y2 y3 y4 y5 y6 y7 y8 y9 y10, LeO (spec_l16One.l0 k y0 y1 y2 y3 y4 y5 y6 y7 y8 y9 y10) (spec_l16One.l0 (k + 1) y0 y1 y2 y3 y4 y5 y6 y7 y8 y9 y10))
  | 0 => ⟨fun _ _ _ _ _ _ _ _ _ _ _ r h => by simp [spec_l16One.j0] at h, fun _ _ _ _ _ _ _ _ _ _ _ r h => by simp [spec_l16One.j1] at h, fun _ _ _ _ _ _ _ _ _ _ _ r h => by simp [spec_l16One.j2] at h, fun _ _ _ _ _ _ _ _ _ _ _ r h => by simp [spec_l16One.l0] at h⟩
  | k + 1 => by
    obtain ⟨ih0, ih1, ih2, ih3⟩ := spec_l16One.mono_l k
    refine ⟨?_, ?_, ?_, ?_⟩
    · intro y0 y1 y2 y3 y4 y5 y6 y7 y8 y9 y10
      unfold spec_l16One.j0
      repeat' first
      | (with_reducible exact ih0 _ _ _ _ _ _ _ _ _ _ _)
      | (with_reducible exact ih1 _ _ _ _ _ _ _ _ _ _ _)
      | (with_reducible exact ih2 _ _ _ _ _ _ _ _ _ _ _)
      | (with_reducible exact ih3 _ _ _ _ _ _ _ _ _ _ _)
      | (with_reducible exact spec_l16Has.mono _ _ _)
      | (with_reducible exact spec_l16Set.mono _ _)
      | (with_reducible exact spec_l16Soft.mono _ _)
      | (with_reducible exact LeO.refl _)
      | (with_reducible exact LeO.none _)
      | (with_reducible refine LeO.ite ?_ ?_)
      | (with_reducible refine LeO.bind ?_ (fun _ => ?_))
      | exact ih0 _ _ _ _ _ _ _ _ _ _ _
      | exact ih1 _ _ _ _ _ _ _ _ _ _ _
      | exact ih2 _ _ _ _ _ _ _ _ _ _ _
      | exact ih3 _ _ _ _ _ _ _ _ _ _ _
      | exact spec_l16Has.mono _ _ _
      | exact spec_l16Set.mono _ _
      | exact spec_l16Soft.mono _ _
      | exact LeO.none _
      | refine LeO.ite ?_ ?_
      | refine LeO.bind ?_ (fun _ => ?_)
    · intro y0 y1 y2 y3 y4 y5 y6 y7 y8 y9 y10
      unfold spec_l16One.j1
      repeat' first
      | (with_reducible exact ih0 _ _ _ _ _ _ _ _ _ _ _)
      | (with_reducible exact ih1 _ _ _ _ _ _ _ _ _ _ _)
      | (with_reducible exact ih2 _ _ _ _ _ _ _ _ _ _ _)
      | (with_reducible exact ih3 _ _ _ _ _ _ _ _ _ _ _)
      | (with_reducible exact spec_l16Has.mono _ _ _)
      | (with_reducible exact spec_l16Set.mono _ _)
      | (with_reducible exact spec_l16Soft.mono _ _)
      | (with_reducible exact LeO.refl _)
      | (with_reducible exact LeO.none _)
      | (with_reducible refine LeO.ite ?_ ?_)
      | (with_reducible refine LeO.bind ?_ (fun _ => ?_))
      | exact ih0 _ _ _ _ _ _ _ _ _ _ _
      | exact ih1 _ _ _ _ _ _ _ _ _ _ _
      | exact ih2 _ _ _ _ _ _ _ _ _ _ _
      | exact ih3 _ _ _ _ _ _ _ _ _ _ _
      | exact spec_l16Has.mono _ _ _
      | exact spec_l16Set.mono _ _
      | exact spec_l16Soft.mono _ _
      | exact LeO.none _
      | refine LeO.ite ?_ ?_
      | refine LeO.bind ?_ (fun _ => ?_)
    · intro y0 y1 y2 y3 y4 y5 y6 y7 y8 y9 y10
      unfold spec_l16One.j2
      repeat' first
      | (with_reducible exact ih0 _ _ _ _ _ _ _ _ _ _ _)
      | (with_reducible exact ih1 _ _ _ _ _ _ _ _ _ _ _)
      | (with_reducible exact ih2 _ _ _ _ _ _ _ _ _ _ _)
      | (with_reducible exact ih3 _ _ _ _ _ _ _ _ _ _ _)
      | (with_reducible exact spec_l16Has.mono _ _ _)
      | (with_reducible exact spec_l16Set.mono _ _)
      | (with_reducible exact spec_l16Soft.mono _ _)
      | (with_reducible exact LeO.refl _)
      | (with_reducible exact LeO.none _)
      | (with_reducible refine LeO.ite ?_ ?_)
      | (with_reducible refine LeO.bind ?_ (fun _ => ?_))
      | exact ih0 _ _ _ _ _ _ _ _ _ _ _
      | exact ih1 _ _ _ _ _ _ _ _ _ _ _
      | exact ih2 _ _ _ _ _ _ _ _ _ _ _
      | exact ih3 _ _ _ _ _ _ _ _ _ _ _
      | exact spec_l16Has.mono _ _ _
      | exact spec_l16Set.mono _ _
      | exact spec_l16Soft.mono _ _
      | exact LeO.none _
      | refine LeO.ite ?_ ?_
      | refine LeO.bind ?_ (fun _ => ?_)
    · intro y0 y1 y2 y3 y4 y5 y6 y7 y8 y9 y10
      unfold spec_l16One.l0
      repeat' first
      | (with_reducible exact ih0 _ _ _ _ _ _ _ _ _ _ _)
      | (with_reducible exact ih1 _ _ _ _ _ _ _ _ _ _ _)
      | (with_reducible exact ih2 _ _ _ _ _ _ _ _ _ _ _)
      | (with_reducible exact ih3 _ _ _ _ _ _ _ _ _ _ _)
      | (with_reducible exact spec_l16Has.mono _ _ _)
      | (with_reducible exact spec_l16Set.mono _ _)
      | (with_reducible exact spec_l16Soft.mono _ _)
      | (with_reducible exact LeO.refl _)
      | (with_reducible exact LeO.none _)
      | (with_reducible refine LeO.ite ?_ ?_)
      | (with_reducible refine LeO.bind ?_ (fun _ => ?_))
      | exact ih0 _ _ _ _ _ _ _ _ _ _ _
      | exact ih1 _ _ _ _ _ _ _ _ _ _ _
      | exact ih2 _ _ _ _ _ _ _ _ _ _ _
      | exact ih3 _ _ _ _ _ _ _ _ _ _ _
      | exact spec_l16Has.mono _ _ _
      | exact spec_l16Set.mono _ _
      | exact spec_l16Soft.mono _ _
      | exact LeO.none _
      | refine LeO.ite ?_ ?_
      | refine LeO.bind ?_ (fun _ => ?_)
theorem spec_l16One.mono : ∀ a0 a1 k, LeO (spec_l16One.f k a0 a1) (spec_l16One.f (k + 1) a0 a1) := by
  intro a0 a1 k
  obtain ⟨ih0, ih1, ih2, ih3⟩ := spec_l16One.mono_l k
  unfold spec_l16One.f
  repeat' first
      | (with_reducible exact ih0 _ _ _ _ _ _ _ _ _ _ _)
      | (with_reducible exact ih1 _ _ _ _ _ _ _ _ _ _ _)
      | (with_reducible exact ih2 _ _ _ _ _ _ _ _ _ _ _)
      | (with_reducible exact ih3 _ _ _ _ _ _ _ _ _ _ _)
      | (with_reducible exact spec_l16Has.mono _ _ _)
      | (with_reducible exact spec_l16Set.mono _ _)
      | (with_reducible exact spec_l16Soft.mono _ _)
      | (with_reducible exact LeO.refl _)
      | (with_reducible exact LeO.none _)
      | (with_reducible refine LeO.ite ?_ ?_)
      | (with_reducible refine LeO.bind ?_ (fun _ => ?_))
      | exact ih0 _ _ _ _ _ _ _ _ _ _ _
      | exact ih1 _ _ _ _ _ _ _ _ _ _ _
      | exact ih2 _ _ _ _ _ _ _ _ _ _ _
      | exact ih3 _ _ _ _ _ _ _ _ _ _ _
      | exact spec_l16Has.mono _ _ _
      | exact spec_l16Set.mono _ _
      | exact spec_l16Soft.mono _ _
      | exact LeO.none _
      | refine LeO.ite ?_ ?_
      | refine LeO.bind ?_ (fun _ => ?_)
set_option maxHeartbeats 8000000 in
set_option maxRecDepth 100000 in
theorem spec_l16One.calls (k : Nat) (A0_0 : Option Addr) (c0_0 : Nat) (l0_0 : List (S87)) (a1 : Int) (r : Bool) (w : World) (hr0_0 : Kd.C k87 w A0_0 l0_0.length l0_0) (hc0_0 : l0_0.length ≤ c0_0) (h : spec_l16One.f k l0_0 a1 = some r) :
    Calls Try.prog 52 #[.agg #[.slice A0_0 l0_0.length c0_0], .int .i64 a1] w fun e w' => e = .returned (.bool r) ∧ Below w.heap.size w w' := by
  have hu48 := Try.underlying48
  have hu87 := Try.underlying87
  have HR0_0 := Aside0.mk hr0_0
  have HC0_0 := Aside0.mk hc0_0
  clear hr0_0 hc0_0
  have HB := Aside0.mk (Below.refl w.heap.size w)
  have H : (if 0 ≤ a1 then (if a1 < (l0_0.length : Int) then (if ((rd_T87 l0_0 a1).f0) < 1 then (spec_l16One.j0 k true ((rd_T87 l0_0 a1).f0) ((rd_T87 l0_0 a1).f1) ((rd_T87 l0_0 a1).f2) ((rd_T87 l0_0 a1).f3) ((rd_T87 l0_0 a1).f4) ((rd_T87 l0_0 a1).f5) ((rd_T87 l0_0 a1).f6) ((rd_T87 l0_0 a1).f7) ((rd_T87 l0_0 a1).f8) ((rd_T87 l0_0 a1).f9)) else (if ((rd_T87 l0_0 a1).f0) > 32 then (spec_l16One.j0 k true ((rd_T87 l0_0 a1).f0) ((rd_T87 l0_0 a1).f1) ((rd_T87 l0_0 a1).f2) ((rd_T87 l0_0 a1).f3) ((rd_T87 l0_0 a1).f4) ((rd_T87 l0_0 a1).f5) ((rd_T87 l0_0 a1).f6) ((rd_T87 l0_0 a1).f7) ((rd_T87 l0_0 a1).f8) ((rd_T87 l0_0 a1).f9)) else (if a1 > 0 then (if 0 ≤ (wrap64 (a1 - 1)) then (if (wrap64 (a1 - 1)) < (l0_0.length : Int) then (if ((rd_T87 l0_0 (wrap64 (a1 - 1))).f0) ≥ ((rd_T87 l0_0 a1).f0) then (spec_l16One.j0 k true ((rd_T87 l0_0 a1).f0) ((rd_T87 l0_0 a1).f1) ((rd_T87 l0_0 a1).f2) ((rd_T87 l0_0 a1).f3) ((rd_T87 l0_0 a1).f4) ((rd_T87 l0_0 a1).f5) ((rd_T87 l0_0 a1).f6) ((rd_T87 l0_0 a1).f7) ((rd_T87 l0_0 a1).f8) ((rd_T87 l0_0 a1).f9)) else (if ((rd_T87 l0_0 a1).f2) < 1 then (spec_l16One.j0 k true ((rd_T87 l0_0 a1).f0) ((rd_T87 l0_0 a1).f1) ((rd_T87 l0_0 a1).f2) ((rd_T87 l0_0 a1).f3) ((rd_T87 l0_0 a1).f4) ((rd_T87 l0_0 a1).f5) ((rd_T87 l0_0 a1).f6) ((rd_T87 l0_0 a1).f7) ((rd_T87 l0_0 a1).f8) ((rd_T87 l0_0 a1).f9)) else (if ((rd_T87 l0_0 a1).f2) > 32 then (spec_l16One.j0 k true ((rd_T87 l0_0 a1).f0) ((rd_T87 l0_0 a1).f1) ((rd_T87 l0_0 a1).f2) ((rd_T87 l0_0 a1).f3) ((rd_T87 l0_0 a1).f4) ((rd_T87 l0_0 a1).f5) ((rd_T87 l0_0 a1).f6) ((rd_T87 l0_0 a1).f7) ((rd_T87 l0_0 a1).f8) ((rd_T87 l0_0 a1).f9)) else (if ((rd_T87 l0_0 a1).f3) < 0 then (spec_l16One.j0 k true ((rd_T87 l0_0 a1).f0) ((rd_T87 l0_0 a1).f1) ((rd_T87 l0_0 a1).f2) ((rd_T87 l0_0 a1).f3) ((rd_T87 l0_0 a1).f4) ((rd_T87 l0_0 a1).f5) ((rd_T87 l0_0 a1).f6) ((rd_T87 l0_0 a1).f7) ((rd_T87 l0_0 a1).f8) ((rd_T87 l0_0 a1).f9)) else (spec_l16One.j0 k (decide (((rd_T87 l0_0 a1).f3) > 255)) ((rd_T87 l0_0 a1).f0) ((rd_T87 l0_0 a1).f1) ((rd_T87 l0_0 a1).f2) ((rd_T87 l0_0 a1).f3) ((rd_T87 l0_0 a1).f4) ((rd_T87 l0_0 a1).f5) ((rd_T87 l0_0 a1).f6) ((rd_T87 l0_0 a1).f7) ((rd_T87 l0_0 a1).f8) ((rd_T87 l0_0 a1).f9)))))) else (none)) else (none)) else (if ((rd_T87 l0_0 a1).f2) < 1 then (spec_l16One.j0 k true ((rd_T87 l0_0 a1).f0) ((rd_T87 l0_0 a1).f1) ((rd_T87 l0_0 a1).f2) ((rd_T87 l0_0 a1).f3) ((rd_T87 l0_0 a1).f4) ((rd_T87 l0_0 a1).f5) ((rd_T87 l0_0 a1).f6) ((rd_T87 l0_0 a1).f7) ((rd_T87 l0_0 a1).f8) ((rd_T87 l0_0 a1).f9)) else (if ((rd_T87 l0_0 a1).f2) > 32 then (spec_l16One.j0 k true ((rd_T87 l0_0 a1).f0) ((rd_T87 l0_0 a1).f1) ((rd_T87 l0_0 a1).f2) ((rd_T87 l0_0 a1).f3) ((rd_T87 l0_0 a1).f4) ((rd_T87 l0_0 a1).f5) ((rd_T87 l0_0 a1).f6) ((rd_T87 l0_0 a1).f7) ((rd_T87 l0_0 a1).f8) ((rd_T87 l0_0 a1).f9)) else (if ((rd_T87 l0_0 a1).f3) < 0 then (spec_l16One.j0 k true ((rd_T87 l0_0 a1).f0) ((rd_T87 l0_0 a1).f1) ((rd_T87 l0_0 a1).f2) ((rd_T87 l0_0 a1).f3) ((rd_T87 l0_0 a1).f4) ((rd_T87 l0_0 a1).f5) ((rd_T87 l0_0 a1).f6) ((rd_T87 l0_0 a1).f7) ((rd_T87 l0_0 a1).f8) ((rd_T87 l0_0 a1).f9)) else (spec_l16One.j0 k (decide (((rd_T87 l0_0 a1).f3) > 255)) ((rd_T87 l0_0 a1).f0) ((rd_T87 l0_0 a1).f1) ((rd_T87 l0_0 a1).f2) ((rd_T87 l0_0 a1).f3) ((rd_T87 l0_0 a1).f4) ((rd_T87 l0_0 a1).f5) ((rd_T87 l0_0 a1).f6) ((rd_T87 l0_0 a1).f7) ((rd_T87 l0_0 a1).f8) ((rd_T87 l0_0 a1).f9)))))))) else (none)) else (none)) = some r := h
  clear h
  by_cases c3 : 0 ≤ a1
  · rw [if_pos c3] at H
    have c3b0 : decide (0 ≤ a1) = true := decide_eq_true c3
    clear c3
    by_cases c4 : a1 < (l0_0.length : Int)
    · rw [if_pos c4] at H
      have c4b0 : decide (a1 < (l0_0.length : Int)) = true := decide_eq_true c4
      clear c4
      have HC5 := Aside0.mk H
      clear H
      go_enter Try.func52, Try.ntmps52
      go_upto_region 2 with (first | ((with_reducible refine gate_dst (N := 2) rfl ?_); refine box_event ?hg (N := 2) ?hd (cs := #[.slice A0_0 l0_0.length c0_0]) (t := 48) ?hr ?_; (case hd => rfl); (case hg => rfl); (case hr => first | (go_simp; done) | (go_simp; rfl)); intro gb154 hg w6 hbox hb; have n0_ := Aside0.mk (below_step (by repeat (first | (with_reducible first | exact HB.out | apply below_alloc | apply pw_below_drewN | apply below_drew1) | exact HB.out)) hb); have n1_ := Aside0.mk (hbox); have n2_ := Aside0.mk ((by rw [hg]; exact (below_size (by repeat (first | (with_reducible first | exact HB.out | apply below_alloc | apply pw_below_drewN | apply below_drew1) | exact HB.out))) : w.heap.size ≤ gb154)); have n3_ := Aside0.mk ((by rw [hg]; exact (below_size (by repeat (first | (with_reducible first | exact HB.out | apply below_alloc | apply pw_below_drewN | apply below_drew1) | exact HB.out))) : w.heap.size ≤ gb154)); clear HB; have HB := n0_; have BK154 := n1_; have GW154 := n2_; have GE154 := n3_; clear n0_ n1_ n2_ n3_; clear hb hbox hg; have hcz7_0 : w6.cell? ⟨gb154, 0, none⟩ = some (.slice A0_0 l0_0.length c0_0) := (blk_cell BK154.out 0).trans rfl; have hfz7_0 := blk_frozen BK154.out 0; have p155 : 0 ≤ (a1 : Int) := of_decide_eq_true (by first | (with_reducible assumption) | assumption); have q155 : a1 < (l0_0.length : Int) := of_decide_eq_true (by first | (with_reducible assumption) | assumption); obtain ⟨ad155, e155, hx155_0, hx155_1, hx155_2, hx155_3, hx155_4, hx155_5, hx155_6, hx155_7, hx155_8, hx155_9⟩ := at_T87 HR0_0.out a1 p155 q155; cases e155; replace hx155_0 := (HB.out.cell (World.block_lt_of_cell? w _ hx155_0)).trans hx155_0; replace hx155_1 := (HB.out.cell (World.block_lt_of_cell? w _ hx155_1)).trans hx155_1; replace hx155_2 := (HB.out.cell (World.block_lt_of_cell? w _ hx155_2)).trans hx155_2; replace hx155_3 := (HB.out.cell (World.block_lt_of_cell? w _ hx155_3)).trans hx155_3; replace hx155_4 := (HB.out.cell (World.block_lt_of_cell? w _ hx155_4)).trans hx155_4; replace hx155_5 := (HB.out.cell (World.block_lt_of_cell? w _ hx155_5)).trans hx155_5; replace hx155_6 := (HB.out.cell (World.block_lt_of_cell? w _ hx155_6)).trans hx155_6; replace hx155_7 := (HB.out.cell (World.block_lt_of_cell? w _ hx155_7)).trans hx155_7; replace hx155_8 := (HB.out.cell (World.block_lt_of_cell? w _ hx155_8)).trans hx155_8; replace hx155_9 := (HB.out.cell (World.block_lt_of_cell? w _ hx155_9)).trans hx155_9; replace p155 := eq_true p155; replace q155 := eq_true q155) | ((with_reducible refine gate_dst (N := 5) rfl ?_); refine box_event ?hg (N := 5) ?hd (cs := #[.int .i64 0, .int .i64 0, .int .i64 0, .int .i64 0, .int .i64 0, .int .i64 0, .int .i64 0, .int .i64 0, .int .i64 0, .int .i64 0]) (t := 87) ?hr ?_; (case hd => rfl); (case hg => rfl); (case hr => first | (go_simp; done) | (go_simp; rfl)); intro gb156 hg w8 hbox hb; have n0_ := Aside0.mk (blk_below (g := gb154) (o := .cells #[.slice (some ad155) l0_0.length c0_0] 48 (0, 0)) (by (with_reducible repeat (first | refine blk_drewN ?_ _ | refine blk_drew ?_ | refine blk_alloc ?_ _)); exact BK154.out) hb); have n1_ := Aside0.mk (below_step (by repeat (first | (with_reducible first | exact HB.out | apply below_alloc | apply pw_below_drewN | apply below_drew1 | refine below_set ?_ GE154.out) | exact HB.out)) hb); have n2_ := Aside0.mk (hbox); have n3_ := Aside0.mk ((by rw [hg]; exact (below_size (by repeat (first | (with_reducible first | exact HB.out | apply below_alloc | apply pw_below_drewN | apply below_drew1 | refine below_set ?_ GE154.out) | exact HB.out))) : w.heap.size ≤ gb156)); have n4_ := Aside0.mk ((by rw [hg]; exact (below_size (by repeat (first | (with_reducible first | exact HB.out | apply below_alloc | apply pw_below_drewN | apply below_drew1 | refine below_set ?_ GE154.out) | exact HB.out))) : w.heap.size ≤ gb156)); have n5_ := Aside0.mk ((by rw [hg]; exact Nat.ne_of_lt (blk_lt (g := gb154) (o := .cells #[.slice (some ad155) l0_0.length c0_0] 48 (0, 0)) (by (with_reducible repeat (first | refine blk_drewN ?_ _ | refine blk_drew ?_ | refine blk_alloc ?_ _)); exact BK154.out)) : gb154 ≠ gb156)); have n6_ := Aside0.mk ((by rw [hg]; exact Nat.ne_of_gt (blk_lt (g := gb154) (o := .cells #[.slice (some ad155) l0_0.length c0_0] 48 (0, 0)) (by (with_reducible repeat (first | refine blk_drewN ?_ _ | refine blk_drew ?_ | refine blk_alloc ?_ _)); exact BK154.out)) : gb156 ≠ gb154)); clear BK154; clear HB; have BK154 := n0_; have HB := n1_; have BK156 := n2_; have GW156 := n3_; have GE156 := n4_; have NB154_156 := n5_; have NB156_154 := n6_; clear n0_ n1_ n2_ n3_ n4_ n5_ n6_; clear hb hbox hg; have hnb9 := NB156_154.out; have hnc9 := NB154_156.out; have hcz10_0 : w8.cell? ⟨gb156, 0, none⟩ = some (.int .i64 0) := (blk_cell BK156.out 0).trans rfl; have hcz10_1 : w8.cell? ⟨gb156, 1, none⟩ = some (.int .i64 0) := (blk_cell BK156.out 1).trans rfl; have hcz10_2 : w8.cell? ⟨gb156, 2, none⟩ = some (.int .i64 0) := (blk_cell BK156.out 2).trans rfl; have hcz10_3 : w8.cell? ⟨gb156, 3, none⟩ = some (.int .i64 0) := (blk_cell BK156.out 3).trans rfl; have hcz10_4 : w8.cell? ⟨gb156, 4, none⟩ = some (.int .i64 0) := (blk_cell BK156.out 4).trans rfl; have hcz10_5 : w8.cell? ⟨gb156, 5, none⟩ = some (.int .i64 0) := (blk_cell BK156.out 5).trans rfl; have hcz10_6 : w8.cell? ⟨gb156, 6, none⟩ = some (.int .i64 0) := (blk_cell BK156.out 6).trans rfl; have hcz10_7 : w8.cell? ⟨gb156, 7, none⟩ = some (.int .i64 0) := (blk_cell BK156.out 7).trans rfl; have hcz10_8 : w8.cell? ⟨gb156, 8, none⟩ = some (.int .i64 0) := (blk_cell BK156.out 8).trans rfl; have hcz10_9 : w8.cell? ⟨gb156, 9, none⟩ = some (.int .i64 0) := (blk_cell BK156.out 9).trans rfl; have hfz10_0 := blk_frozen BK156.out 0; have hfz10_1 := blk_frozen BK156.out 1; have hfz10_2 := blk_frozen BK156.out 2; have hfz10_3 := blk_frozen BK156.out 3; have hfz10_4 := blk_frozen BK156.out 4; have hfz10_5 := blk_frozen BK156.out 5; have hfz10_6 := blk_frozen BK156.out 6; have hfz10_7 := blk_frozen BK156.out 7; have hfz10_8 := blk_frozen BK156.out 8; have hfz10_9 := blk_frozen BK156.out 9) | ((with_reducible refine gate_store (t := 87) (p := 5) rfl ?_); (try (rw [drewN_self w8]; generalize hq_ : World.drewN w8 _ = w8; have n0_ := Aside0.mk (blk_at hq_ BK154.out); have n1_ := Aside0.mk (blk_at hq_ BK156.out); have n2_ := Aside0.mk (below_at hq_ HB.out); clear hq_ BK154 BK156 HB; have BK154 := n0_; have BK156 := n1_; have HB := n2_; clear n0_ n1_ n2_)); refine store_event (t := 87) (p := 5) (v := ?vo_w11) (w1 := ((((((((((w8.setCell ⟨gb156, 0, none⟩ (.int .i64 ((rd_T87 l0_0 a1).f0))).setCell ⟨gb156, 1, none⟩ (.int .i64 ((rd_T87 l0_0 a1).f1))).setCell ⟨gb156, 2, none⟩ (.int .i64 ((rd_T87 l0_0 a1).f2))).setCell ⟨gb156, 3, none⟩ (.int .i64 ((rd_T87 l0_0 a1).f3))).setCell ⟨gb156, 4, none⟩ (.int .i64 ((rd_T87 l0_0 a1).f4))).setCell ⟨gb156, 5, none⟩ (.int .i64 ((rd_T87 l0_0 a1).f5))).setCell ⟨gb156, 6, none⟩ (.int .i64 ((rd_T87 l0_0 a1).f6))).setCell ⟨gb156, 7, none⟩ (.int .i64 ((rd_T87 l0_0 a1).f7))).setCell ⟨gb156, 8, none⟩ (.int .i64 ((rd_T87 l0_0 a1).f8))).setCell ⟨gb156, 9, none⟩ (.int .i64 ((rd_T87 l0_0 a1).f9)))) ?hg ?ho ?hn ?hr ?_; (case ho => rfl); (case hg => rfl); (case hn => rfl); (case hr => first | (go_simp; done) | (go_simp; rfl)); intro w11 hw; have n0_ : Aside0 (w11.heap[gb154]? = some (.cells #[.slice (some ad155) l0_0.length c0_0] 48 (0, 0))) := ⟨(by rw [hw]; exact (by (with_reducible repeat (first | refine blk_drewN ?_ _ | refine blk_drew ?_ | refine blk_alloc ?_ _)); refine blk_far ?_ NB154_156.out _; (with_reducible repeat (first | refine blk_drewN ?_ _ | refine blk_drew ?_ | refine blk_alloc ?_ _)); refine blk_far ?_ NB154_156.out _; (with_reducible repeat (first | refine blk_drewN ?_ _ | refine blk_drew ?_ | refine blk_alloc ?_ _)); refine blk_far ?_ NB154_156.out _; (with_reducible repeat (first | refine blk_drewN ?_ _ | refine blk_drew ?_ | refine blk_alloc ?_ _)); refine blk_far ?_ NB154_156.out _; (with_reducible repeat (first | refine blk_drewN ?_ _ | refine blk_drew ?_ | refine blk_alloc ?_ _)); refine blk_far ?_ NB154_156.out _; (with_reducible repeat (first | refine blk_drewN ?_ _ | refine blk_drew ?_ | refine blk_alloc ?_ _)); refine blk_far ?_ NB154_156.out _; (with_reducible repeat (first | refine blk_drewN ?_ _ | refine blk_drew ?_ | refine blk_alloc ?_ _)); refine blk_far ?_ NB154_156.out _; (with_reducible repeat (first | refine blk_drewN ?_ _ | refine blk_drew ?_ | refine blk_alloc ?_ _)); refine blk_far ?_ NB154_156.out _; (with_reducible repeat (first | refine blk_drewN ?_ _ | refine blk_drew ?_ | refine blk_alloc ?_ _)); refine blk_far ?_ NB154_156.out _; (with_reducible repeat (first | refine blk_drewN ?_ _ | refine blk_drew ?_ | refine blk_alloc ?_ _)); refine blk_far ?_ NB154_156.out _; (with_reducible repeat (first | refine blk_drewN ?_ _ | refine blk_drew ?_ | refine blk_alloc ?_ _)); exact BK154.out))⟩; have n1_ : Aside0 (w11.heap[gb156]? = some (.cells #[.int .i64 ((rd_T87 l0_0 a1).f0), .int .i64 ((rd_T87 l0_0 a1).f1), .int .i64 ((rd_T87 l0_0 a1).f2), .int .i64 ((rd_T87 l0_0 a1).f3), .int .i64 ((rd_T87 l0_0 a1).f4), .int .i64 ((rd_T87 l0_0 a1).f5), .int .i64 ((rd_T87 l0_0 a1).f6), .int .i64 ((rd_T87 l0_0 a1).f7), .int .i64 ((rd_T87 l0_0 a1).f8), .int .i64 ((rd_T87 l0_0 a1).f9)] 87 (0, 0))) := ⟨(by rw [hw]; exact (by (with_reducible repeat (first | refine blk_drewN ?_ _ | refine blk_drew ?_ | refine blk_alloc ?_ _)); refine blk_put (cs := #[.int .i64 ((rd_T87 l0_0 a1).f0), .int .i64 ((rd_T87 l0_0 a1).f1), .int .i64 ((rd_T87 l0_0 a1).f2), .int .i64 ((rd_T87 l0_0 a1).f3), .int .i64 ((rd_T87 l0_0 a1).f4), .int .i64 ((rd_T87 l0_0 a1).f5), .int .i64 ((rd_T87 l0_0 a1).f6), .int .i64 ((rd_T87 l0_0 a1).f7), .int .i64 ((rd_T87 l0_0 a1).f8), .int .i64 0]) ?_ 9 _ rfl; (with_reducible repeat (first | refine blk_drewN ?_ _ | refine blk_drew ?_ | refine blk_alloc ?_ _)); refine blk_put (cs := #[.int .i64 ((rd_T87 l0_0 a1).f0), .int .i64 ((rd_T87 l0_0 a1).f1), .int .i64 ((rd_T87 l0_0 a1).f2), .int .i64 ((rd_T87 l0_0 a1).f3), .int .i64 ((rd_T87 l0_0 a1).f4), .int .i64 ((rd_T87 l0_0 a1).f5), .int .i64 ((rd_T87 l0_0 a1).f6), .int .i64 ((rd_T87 l0_0 a1).f7), .int .i64 0, .int .i64 0]) ?_ 8 _ rfl; (with_reducible repeat (first | refine blk_drewN ?_ _ | refine blk_drew ?_ | refine blk_alloc ?_ _)); refine blk_put (cs := #[.int .i64 ((rd_T87 l0_0 a1).f0), .int .i64 ((rd_T87 l0_0 a1).f1), .int .i64 ((rd_T87 l0_0 a1).f2), .int .i64 ((rd_T87 l0_0 a1).f3), .int .i64 ((rd_T87 l0_0 a1).f4), .int .i64 ((rd_T87 l0_0 a1).f5), .int .i64 ((rd_T87 l0_0 a1).f6), .int .i64 0, .int .i64 0, .int .i64 0]) ?_ 7 _ rfl; (with_reducible repeat (first | refine blk_drewN ?_ _ | refine blk_drew ?_ | refine blk_alloc ?_ _)); refine blk_put (cs := #[.int .i64 ((rd_T87 l0_0 a1).f0), .int .i64 ((rd_T87 l0_0 a1).f1), .int .i64 ((rd_T87 l0_0 a1).f2), .int .i64 ((rd_T87 l0_0 a1).f3), .int .i64 ((rd_T87 l0_0 a1).f4), .int .i64 ((rd_T87 l0_0 a1).f5), .int .i64 0, .int .i64 0, .int .i64 0, .int .i64 0]) ?_ 6 _ rfl; (with_reducible repeat (first | refine blk_drewN ?_ _ | refine blk_drew ?_ | refine blk_alloc ?_ _)); refine blk_put (cs := #[.int .i64 ((rd_T87 l0_0 a1).f0), .int .i64 ((rd_T87 l0_0 a1).f1), .int .i64 ((rd_T87 l0_0 a1).f2), .int .i64 ((rd_T87 l0_0 a1).f3), .int .i64 ((rd_T87 l0_0 a1).f4), .int .i64 0, .int .i64 0, .int .i64 0, .int .i64 0, .int .i64 0]) ?_ 5 _ rfl; (with_reducible repeat (first | refine blk_drewN ?_ _ | refine blk_drew ?_ | refine blk_alloc ?_ _)); refine blk_put (cs := #[.int .i64 ((rd_T87 l0_0 a1).f0), .int .i64 ((rd_T87 l0_0 a1).f1), .int .i64 ((rd_T87 l0_0 a1).f2), .int .i64 ((rd_T87 l0_0 a1).f3), .int .i64 0, .int .i64 0, .int .i64 0, .int .i64 0, .int .i64 0, .int .i64 0]) ?_ 4 _ rfl; (with_reducible repeat (first | refine blk_drewN ?_ _ | refine blk_drew ?_ | refine blk_alloc ?_ _)); refine blk_put (cs := #[.int .i64 ((rd_T87 l0_0 a1).f0), .int .i64 ((rd_T87 l0_0 a1).f1), .int .i64 ((rd_T87 l0_0 a1).f2), .int .i64 0, .int .i64 0, .int .i64 0, .int .i64 0, .int .i64 0, .int .i64 0, .int .i64 0]) ?_ 3 _ rfl; (with_reducible repeat (first | refine blk_drewN ?_ _ | refine blk_drew ?_ | refine blk_alloc ?_ _)); refine blk_put (cs := #[.int .i64 ((rd_T87 l0_0 a1).f0), .int .i64 ((rd_T87 l0_0 a1).f1), .int .i64 0, .int .i64 0, .int .i64 0, .int .i64 0, .int .i64 0, .int .i64 0, .int .i64 0, .int .i64 0]) ?_ 2 _ rfl; (with_reducible repeat (first | refine blk_drewN ?_ _ | refine blk_drew ?_ | refine blk_alloc ?_ _)); refine blk_put (cs := #[.int .i64 ((rd_T87 l0_0 a1).f0), .int .i64 0, .int .i64 0, .int .i64 0, .int .i64 0, .int .i64 0, .int .i64 0, .int .i64 0, .int .i64 0, .int .i64 0]) ?_ 1 _ rfl; (with_reducible repeat (first | refine blk_drewN ?_ _ | refine blk_drew ?_ | refine blk_alloc ?_ _)); refine blk_put (cs := #[.int .i64 0, .int .i64 0, .int .i64 0, .int .i64 0, .int .i64 0, .int .i64 0, .int .i64 0, .int .i64 0, .int .i64 0, .int .i64 0]) ?_ 0 _ rfl; (with_reducible repeat (first | refine blk_drewN ?_ _ | refine blk_drew ?_ | refine blk_alloc ?_ _)); exact BK156.out))⟩; have n2_ : Aside0 (Below w.heap.size w w11) := ⟨(by rw [hw]; exact (by repeat (first | (with_reducible first | exact HB.out | apply below_alloc | apply pw_below_drewN | apply below_drew1 | refine below_set ?_ GE154.out | refine below_set ?_ GE156.out) | exact HB.out)))⟩; clear hw; clear BK154; clear BK156; clear HB; have BK154 := n0_; have BK156 := n1_; have HB := n2_; clear n0_ n1_ n2_))
      repeat (go_quiet (first | ((with_reducible refine gate_dst (N := 2) rfl ?_); refine box_event ?hg (N := 2) ?hd (cs := #[.slice A0_0 l0_0.length c0_0]) (t := 48) ?hr ?_; (case hd => rfl); (case hg => rfl); (case hr => first | (go_simp; done) | (go_simp; rfl)); intro gb154 hg w6 hbox hb; have n0_ := Aside0.mk (below_step (by repeat (first | (with_reducible first | exact HB.out | apply below_alloc | apply pw_below_drewN | apply below_drew1) | exact HB.out)) hb); have n1_ := Aside0.mk (hbox); have n2_ := Aside0.mk ((by rw [hg]; exact (below_size (by repeat (first | (with_reducible first | exact HB.out | apply below_alloc | apply pw_below_drewN | apply below_drew1) | exact HB.out))) : w.heap.size ≤ gb154)); have n3_ := Aside0.mk ((by rw [hg]; exact (below_size (by repeat (first | (with_reducible first | exact HB.out | apply below_alloc | apply pw_below_drewN | apply below_drew1) | exact HB.out))) : w.heap.size ≤ gb154)); clear HB; have HB := n0_; have BK154 := n1_; have GW154 := n2_; have GE154 := n3_; clear n0_ n1_ n2_ n3_; clear hb hbox hg; have hcz7_0 : w6.cell? ⟨gb154, 0, none⟩ = some (.slice A0_0 l0_0.length c0_0) := (blk_cell BK154.out 0).trans rfl; have hfz7_0 := blk_frozen BK154.out 0; have p155 : 0 ≤ (a1 : Int) := of_decide_eq_true (by first | (with_reducible assumption) | assumption); have q155 : a1 < (l0_0.length : Int) := of_decide_eq_true (by first | (with_reducible assumption) | assumption); obtain ⟨ad155, e155, hx155_0, hx155_1, hx155_2, hx155_3, hx155_4, hx155_5, hx155_6, hx155_7, hx155_8, hx155_9⟩ := at_T87 HR0_0.out a1 p155 q155; cases e155; replace hx155_0 := (HB.out.cell (World.block_lt_of_cell? w _ hx155_0)).trans hx155_0; replace hx155_1 := (HB.out.cell (World.block_lt_of_cell? w _ hx155_1)).trans hx155_1; replace hx155_2 := (HB.out.cell (World.block_lt_of_cell? w _ hx155_2)).trans hx155_2; replace hx155_3 := (HB.out.cell (World.block_lt_of_cell? w _ hx155_3)).trans hx155_3; replace hx155_4 := (HB.out.cell (World.block_lt_of_cell? w _ hx155_4)).trans hx155_4; replace hx155_5 := (HB.out.cell (World.block_lt_of_cell? w _ hx155_5)).trans hx155_5; replace hx155_6 := (HB.out.cell (World.block_lt_of_cell? w _ hx155_6)).trans hx155_6; replace hx155_7 := (HB.out.cell (World.block_lt_of_cell? w _ hx155_7)).trans hx155_7; replace hx155_8 := (HB.out.cell (World.block_lt_of_cell? w _ hx155_8)).trans hx155_8; replace hx155_9 := (HB.out.cell (World.block_lt_of_cell? w _ hx155_9)).trans hx155_9; replace p155 := eq_true p155; replace q155 := eq_true q155) | ((with_reducible refine gate_dst (N := 5) rfl ?_); refine box_event ?hg (N := 5) ?hd (cs := #[.int .i64 0, .int .i64 0, .int .i64 0, .int .i64 0, .int .i64 0, .int .i64 0, .int .i64 0, .int .i64 0, .int .i64 0, .int .i64 0]) (t := 87) ?hr ?_; (case hd => rfl); (case hg => rfl); (case hr => first | (go_simp; done) | (go_simp; rfl)); intro gb156 hg w8 hbox hb; have n0_ := Aside0.mk (blk_below (g := gb154) (o := .cells #[.slice (some ad155) l0_0.length c0_0] 48 (0, 0)) (by (with_reducible repeat (first | refine blk_drewN ?_ _ | refine blk_drew ?_ | refine blk_alloc ?_ _)); exact BK154.out) hb); have n1_ := Aside0.mk (below_step (by repeat (first | (with_reducible first | exact HB.out | apply below_alloc | apply pw_below_drewN | apply below_drew1 | refine below_set ?_ GE154.out) | exact HB.out)) hb); have n2_ := Aside0.mk (hbox); have n3_ := Aside0.mk ((by rw [hg]; exact (below_size (by repeat (first | (with_reducible first | exact HB.out | apply below_alloc | apply pw_below_drewN | apply below_drew1 | refine below_set ?_ GE154.out) | exact HB.out))) : w.heap.size ≤ gb156)); have n4_ := Aside0.mk ((by rw [hg]; exact (below_size (by repeat (first | (with_reducible first | exact HB.out | apply below_alloc | apply pw_below_drewN | apply below_drew1 | refine below_set ?_ GE154.out) | exact HB.out))) : w.heap.size ≤ gb156)); have n5_ := Aside0.mk ((by rw [hg]; exact Nat.ne_of_lt (blk_lt (g := gb154) (o := .cells #[.slice (some ad155) l0_0.length c0_0] 48 (0, 0)) (by (with_reducible repeat (first | refine blk_drewN ?_ _ | refine blk_drew ?_ | refine blk_alloc ?_ _)); exact BK154.out)) : gb154 ≠ gb156)); have n6_ := Aside0.mk ((by rw [hg]; exact Nat.ne_of_gt (blk_lt (g := gb154) (o := .cells #[.slice (some ad155) l0_0.length c0_0] 48 (0, 0)) (by (with_reducible repeat (first | refine blk_drewN ?_ _ | refine blk_drew ?_ | refine blk_alloc ?_ _)); exact BK154.out)) : gb156 ≠ gb154)); clear BK154; clear HB; have BK154 := n0_; have HB := n1_; have BK156 := n2_; have GW156 := n3_; have GE156 := n4_; have NB154_156 := n5_; have NB156_154 := n6_; clear n0_ n1_ n2_ n3_ n4_ n5_ n6_; clear hb hbox hg; have hnb9 := NB156_154.out; have hnc9 := NB154_156.out; have hcz10_0 : w8.cell? ⟨gb156, 0, none⟩ = some (.int .i64 0) := (blk_cell BK156.out 0).trans rfl; have hcz10_1 : w8.cell? ⟨gb156, 1, none⟩ = some (.int .i64 0) := (blk_cell BK156.out 1).trans rfl; have hcz10_2 : w8.cell? ⟨gb156, 2, none⟩ = some (.int .i64 0) := (blk_cell BK156.out 2).trans rfl; have hcz10_3 : w8.cell? ⟨gb156, 3, none⟩ = some (.int .i64 0) := (blk_cell BK156.out 3).trans rfl; have hcz10_4 : w8.cell? ⟨gb156, 4, none⟩ = some (.int .i64 0) := (blk_cell BK156.out 4).trans rfl; have hcz10_5 : w8.cell? ⟨gb156, 5, none⟩ = some (.int .i64 0) := (blk_cell BK156.out 5).trans rfl; have hcz10_6 : w8.cell? ⟨gb156, 6, none⟩ = some (.int .i64 0) := (blk_cell BK156.out 6).trans rfl; have hcz10_7 : w8.cell? ⟨gb156, 7, none⟩ = some (.int .i64 0) := (blk_cell BK156.out 7).trans rfl; have hcz10_8 : w8.cell? ⟨gb156, 8, none⟩ = some (.int .i64 0) := (blk_cell BK156.out 8).trans rfl; have hcz10_9 : w8.cell? ⟨gb156, 9, none⟩ = some (.int .i64 0) := (blk_cell BK156.out 9).trans rfl; have hfz10_0 := blk_frozen BK156.out 0; have hfz10_1 := blk_frozen BK156.out 1; have hfz10_2 := blk_frozen BK156.out 2; have hfz10_3 := blk_frozen BK156.out 3; have hfz10_4 := blk_frozen BK156.out 4; have hfz10_5 := blk_frozen BK156.out 5; have hfz10_6 := blk_frozen BK156.out 6; have hfz10_7 := blk_frozen BK156.out 7; have hfz10_8 := blk_frozen BK156.out 8; have hfz10_9 := blk_frozen BK156.out 9) | ((with_reducible refine gate_store (t := 87) (p := 5) rfl ?_); (try (rw [drewN_self w8]; generalize hq_ : World.drewN w8 _ = w8; have n0_ := Aside0.mk (blk_at hq_ BK154.out); have n1_ := Aside0.mk (blk_at hq_ BK156.out); have n2_ := Aside0.mk (below_at hq_ HB.out); clear hq_ BK154 BK156 HB; have BK154 := n0_; have BK156 := n1_; have HB := n2_; clear n0_ n1_ n2_)); refine store_event (t := 87) (p := 5) (v := ?vo_w11) (w1 := ((((((((((w8.setCell ⟨gb156, 0, none⟩ (.int .i64 ((rd_T87 l0_0 a1).f0))).setCell ⟨gb156, 1, none⟩ (.int .i64 ((rd_T87 l0_0 a1).f1))).setCell ⟨gb156, 2, none⟩ (.int .i64 ((rd_T87 l0_0 a1).f2))).setCell ⟨gb156, 3, none⟩ (.int .i64 ((rd_T87 l0_0 a1).f3))).setCell ⟨gb156, 4, none⟩ (.int .i64 ((rd_T87 l0_0 a1).f4))).setCell ⟨gb156, 5, none⟩ (.int .i64 ((rd_T87 l0_0 a1).f5))).setCell ⟨gb156, 6, none⟩ (.int .i64 ((rd_T87 l0_0 a1).f6))).setCell ⟨gb156, 7, none⟩ (.int .i64 ((rd_T87 l0_0 a1).f7))).setCell ⟨gb156, 8, none⟩ (.int .i64 ((rd_T87 l0_0 a1).f8))).setCell ⟨gb156, 9, none⟩ (.int .i64 ((rd_T87 l0_0 a1).f9)))) ?hg ?ho ?hn ?hr ?_; (case ho => rfl); (case hg => rfl); (case hn => rfl); (case hr => first | (go_simp; done) | (go_simp; rfl)); intro w11 hw; have n0_ : Aside0 (w11.heap[gb154]? = some (.cells #[.slice (some ad155) l0_0.length c0_0] 48 (0, 0))) := ⟨(by rw [hw]; exact (by (with_reducible repeat (first | refine blk_drewN ?_ _ | refine blk_drew ?_ | refine blk_alloc ?_ _)); refine blk_far ?_ NB154_156.out _; (with_reducible repeat (first | refine blk_drewN ?_ _ | refine blk_drew ?_ | refine blk_alloc ?_ _)); refine blk_far ?_ NB154_156.out _; (with_reducible repeat (first | refine blk_drewN ?_ _ | refine blk_drew ?_ | refine blk_alloc ?_ _)); refine blk_far ?_ NB154_156.out _; (with_reducible repeat (first | refine blk_drewN ?_ _ | refine blk_drew ?_ | refine blk_alloc ?_ _)); refine blk_far ?_ NB154_156.out _; (with_reducible repeat (first | refine blk_drewN ?_ _ | refine blk_drew ?_ | refine blk_alloc ?_ _)); refine blk_far ?_ NB154_156.out _; (with_reducible repeat (first | refine blk_drewN ?_ _ | refine blk_drew ?_ | refine blk_alloc ?_ _)); refine blk_far ?_ NB154_156.out _; (with_reducible repeat (first | refine blk_drewN ?_ _ | refine blk_drew ?_ | refine blk_alloc ?_ _)); refine blk_far ?_ NB154_156.out _; (with_reducible repeat (first | refine blk_drewN ?_ _ | refine blk_drew ?_ | refine blk_alloc ?_ _)); refine blk_far ?_ NB154_156.out _; (with_reducible repeat (first | refine blk_drewN ?_ _ | refine blk_drew ?_ | refine blk_alloc ?_ _)); refine blk_far ?_ NB154_156.out _; (with_reducible repeat (first | refine blk_drewN ?_ _ | refine blk_drew ?_ | refine blk_alloc ?_ _)); refine blk_far ?_ NB154_156.out _; (with_reducible repeat (first | refine blk_drewN ?_ _ | refine blk_drew ?_ | refine blk_alloc ?_ _)); exact BK154.out))⟩; have n1_ : Aside0 (w11.heap[gb156]? = some (.cells #[.int .i64 ((rd_T87 l0_0 a1).f0), .int .i64 ((rd_T87 l0_0 a1).f1), .int .i64 ((rd_T87 l0_0 a1).f2), .int .i64 ((rd_T87 l0_0 a1).f3), .int .i64 ((rd_T87 l0_0 a1).f4), .int .i64 ((rd_T87 l0_0 a1).f5), .int .i64 ((rd_T87 l0_0 a1).f6), .int .i64 ((rd_T87 l0_0 a1).f7), .int .i64 ((rd_T87 l0_0 a1).f8), .int .i64 ((rd_T87 l0_0 a1).f9)] 87 (0, 0))) := ⟨(by rw [hw]; exact (by (with_reducible repeat (first | refine blk_drewN ?_ _ | refine blk_drew ?_ | refine blk_alloc ?_ _)); refine blk_put (cs := #[.int .i64 ((rd_T87 l0_0 a1).f0), .int .i64 ((rd_T87 l0_0 a1).f1), .int .i64 ((rd_T87 l0_0 a1).f2), .int .i64 ((rd_T87 l0_0 a1).f3), .int .i64 ((rd_T87 l0_0 a1).f4), .int .i64 ((rd_T87 l0_0 a1).f5), .int .i64 ((rd_T87 l0_0 a1).f6), .int .i64 ((rd_T87 l0_0 a1).f7), .int .i64 ((rd_T87 l0_0 a1).f8), .int .i64 0]) ?_ 9 _ rfl; (with_reducible repeat (first | refine blk_drewN ?_ _ | refine blk_drew ?_ | refine blk_alloc ?_ _)); refine blk_put (cs := #[.int .i64 ((rd_T87 l0_0 a1).f0), .int .i64 ((rd_T87 l0_0 a1).f1), .int .i64 ((rd_T87 l0_0 a1).f2), .int .i64 ((rd_T87 l0_0 a1).f3), .int .i64 ((rd_T87 l0_0 a1).f4), .int .i64 ((rd_T87 l0_0 a1).f5), .int .i64 ((rd_T87 l0_0 a1).f6), .int .i64 ((rd_T87 l0_0 a1).f7), .int .i64 0, .int .i64 0]) ?_ 8 _ rfl; (with_reducible repeat (first | refine blk_drewN ?_ _ | refine blk_drew ?_ | refine blk_alloc ?_ _)); refine blk_put (cs := #[.int .i64 ((rd_T87 l0_0 a1).f0), .int .i64 ((rd_T87 l0_0 a1).f1), .int .i64 ((rd_T87 l0_0 a1).f2), .int .i64 ((rd_T87 l0_0 a1).f3), .int .i64 ((rd_T87 l0_0 a1).f4), .int .i64 ((rd_T87 l0_0 a1).f5), .int .i64 ((rd_T87 l0_0 a1).f6), .int .i64 0, .int .i64 0, .int .i64 0]) ?_ 7 _ rfl; (with_reducible repeat (first | refine blk_drewN ?_ _ | refine blk_drew ?_ | refine blk_alloc ?_ _)); refine blk_put (cs := #[.int .i64 ((rd_T87 l0_0 a1).f0), .int .i64 ((rd_T87 l0_0 a1).f1), .int .i64 ((rd_T87 l0_0 a1).f2), .int .i64 ((rd_T87 l0_0 a1).f3), .int .i64 ((rd_T87 l0_0 a1).f4), .int .i64 ((rd_T87 l0_0 a1).f5), .int .i64 0, .int .i64 0, .int .i64 0, .int .i64 0]) ?_ 6 _ rfl; (with_reducible repeat (first | refine blk_drewN ?_ _ | refine blk_drew ?_ | refine blk_alloc ?_ _)); refine blk_put (cs := #[.int .i64 ((rd_T87 l0_0 a1).f0), .int .i64 ((rd_T87 l0_0 a1).f1), .int .i64 ((rd_T87 l0_0 a1).f2), .int .i64 ((rd_T87 l0_0 a1).f3), .int .i64 ((rd_T87 l0_0 a1).f4), .int .i64 0, .int .i64 0, .int .i64 0, .int .i64 0, .int .i64 0]) ?_ 5 _ rfl; (with_reducible repeat (first | refine blk_drewN ?_ _ | refine blk_drew ?_ | refine blk_alloc ?_ _)); refine blk_put (cs := #[.int .i64 ((rd_T87 l0_0 a1).f0), .int .i64 ((rd_T87 l0_0 a1).f1), .int .i64 ((rd_T87 l0_0 a1).f2), .int .i64 ((rd_T87 l0_0 a1).f3), .int .i64 0, .int .i64 0, .int .i64 0, .int .i64 0, .int .i64 0, .int .i64 0]) ?_ 4 _ rfl; (with_reducible repeat (first | refine blk_drewN ?_ _ | refine blk_drew ?_ | refine blk_alloc ?_ _)); refine blk_put (cs := #[.int .i64 ((rd_T87 l0_0 a1).f0), .int .i64 ((rd_T87 l0_0 a1).f1), .int .i64 ((rd_T87 l0_0 a1).f2), .int .i64 0, .int .i64 0, .int .i64 0, .int .i64 0, .int .i64 0, .int .i64 0, .int .i64 0]) ?_ 3 _ rfl; (with_reducible repeat (first | refine blk_drewN ?_ _ | refine blk_drew ?_ | refine blk_alloc ?_ _)); refine blk_put (cs := #[.int .i64 ((rd_T87 l0_0 a1).f0), .int .i64 ((rd_T87 l0_0 a1).f1), .int .i64 0, .int .i64 0, .int .i64 0, .int .i64 0, .int .i64 0, .int .i64 0, .int .i64 0, .int .i64 0]) ?_ 2 _ rfl; (with_reducible repeat (first | refine blk_drewN ?_ _ | refine blk_drew ?_ | refine blk_alloc ?_ _)); refine blk_put (cs := #[.int .i64 ((rd_T87 l0_0 a1).f0), .int .i64 0, .int .i64 0, .int .i64 0, .int .i64 0, .int .i64 0, .int .i64 0, .int .i64 0, .int .i64 0, .int .i64 0]) ?_ 1 _ rfl; (with_reducible repeat (first | refine blk_drewN ?_ _ | refine blk_drew ?_ | refine blk_alloc ?_ _)); refine blk_put (cs := #[.int .i64 0, .int .i64 0, .int .i64 0, .int .i64 0, .int .i64 0, .int .i64 0, .int .i64 0, .int .i64 0, .int .i64 0, .int .i64 0]) ?_ 0 _ rfl; (with_reducible repeat (first | refine blk_drewN ?_ _ | refine blk_drew ?_ | refine blk_alloc ?_ _)); exact BK156.out))⟩; have n2_ : Aside0 (Below w.heap.size w w11) := ⟨(by rw [hw]; exact (by repeat (first | (with_reducible first | exact HB.out | apply below_alloc | apply pw_below_drewN | apply below_drew1 | refine below_set ?_ GE154.out | refine below_set ?_ GE156.out) | exact HB.out)))⟩; clear hw; clear BK154; clear BK156; clear HB; have BK154 := n0_; have BK156 := n1_; have HB := n2_; clear n0_ n1_ n2_)); go_upto_region 2 with (first | ((with_reducible refine gate_dst (N := 2) rfl ?_); refine box_event ?hg (N := 2) ?hd (cs := #[.slice A0_0 l0_0.length c0_0]) (t := 48) ?hr ?_; (case hd => rfl); (case hg => rfl); (case hr => first | (go_simp; done) | (go_simp; rfl)); intro gb154 hg w6 hbox hb; have n0_ := Aside0.mk (below_step (by repeat (first | (with_reducible first | exact HB.out | apply below_alloc | apply pw_below_drewN | apply below_drew1) | exact HB.out)) hb); have n1_ := Aside0.mk (hbox); have n2_ := Aside0.mk ((by rw [hg]; exact (below_size (by repeat (first | (with_reducible first | exact HB.out | apply below_alloc | apply pw_below_drewN | apply below_drew1) | exact HB.out))) : w.heap.size ≤ gb154)); have n3_ := Aside0.mk ((by rw [hg]; exact (below_size (by repeat (first | (with_reducible first | exact HB.out | apply below_alloc | apply pw_below_drewN | apply below_drew1) | exact HB.out))) : w.heap.size ≤ gb154)); clear HB; have HB := n0_; have BK154 := n1_; have GW154 := n2_; have GE154 := n3_; clear n0_ n1_ n2_ n3_; clear hb hbox hg; have hcz7_0 : w6.cell? ⟨gb154, 0, none⟩ = some (.slice A0_0 l0_0.length c0_0) := (blk_cell BK154.out 0).trans rfl; have hfz7_0 := blk_frozen BK154.out 0; have p155 : 0 ≤ (a1 : Int) := of_decide_eq_true (by first | (with_reducible assumption) | assumption); have q155 : a1 < (l0_0.length : Int) := of_decide_eq_true (by first | (with_reducible assumption) | assumption); obtain ⟨ad155, e155, hx155_0, hx155_1, hx155_2, hx155_3, hx155_4, hx155_5, hx155_6, hx155_7, hx155_8, hx155_9⟩ := at_T87 HR0_0.out a1 p155 q155; cases e155; replace hx155_0 := (HB.out.cell (World.block_lt_of_cell? w _ hx155_0)).trans hx155_0; replace hx155_1 := (HB.out.cell (World.block_lt_of_cell? w _ hx155_1)).trans hx155_1; replace hx155_2 := (HB.out.cell (World.block_lt_of_cell? w _ hx155_2)).trans hx155_2; replace hx155_3 := (HB.out.cell (World.block_lt_of_cell? w _ hx155_3)).trans hx155_3; replace hx155_4 := (HB.out.cell (World.block_lt_of_cell? w _ hx155_4)).trans hx155_4; replace hx155_5 := (HB.out.cell (World.block_lt_of_cell? w _ hx155_5)).trans hx155_5; replace hx155_6 := (HB.out.cell (World.block_lt_of_cell? w _ hx155_6)).trans hx155_6; replace hx155_7 := (HB.out.cell (World.block_lt_of_cell? w _ hx155_7)).trans hx155_7; replace hx155_8 := (HB.out.cell (World.block_lt_of_cell? w _ hx155_8)).trans hx155_8; replace hx155_9 := (HB.out.cell (World.block_lt_of_cell? w _ hx155_9)).trans hx155_9; replace p155 := eq_true p155; replace q155 := eq_true q155) | ((with_reducible refine gate_dst (N := 5) rfl ?_); refine box_event ?hg (N := 5) ?hd (cs := #[.int .i64 0, .int .i64 0, .int .i64 0, .int .i64 0, .int .i64 0, .int .i64 0, .int .i64 0, .int .i64 0, .int .i64 0, .int .i64 0]) (t := 87) ?hr ?_; (case hd => rfl); (case hg => rfl); (case hr => first | (go_simp; done) | (go_simp; rfl)); intro gb156 hg w8 hbox hb; have n0_ := Aside0.mk (blk_below (g := gb154) (o := .cells #[.slice (some ad155) l0_0.length c0_0] 48 (0, 0)) (by (with_reducible repeat (first | refine blk_drewN ?_ _ | refine blk_drew ?_ | refine blk_alloc ?_ _)); exact BK154.out) hb); have n1_ := Aside0.mk (below_step (by repeat (first | (with_reducible first | exact HB.out | apply below_alloc | apply pw_below_drewN | apply below_drew1 | refine below_set ?_ GE154.out) | exact HB.out)) hb); have n2_ := Aside0.mk (hbox); have n3_ := Aside0.mk ((by rw [hg]; exact (below_size (by repeat (first | (with_reducible first | exact HB.out | apply below_alloc | apply pw_below_drewN | apply below_drew1 | refine below_set ?_ GE154.out) | exact HB.out))) : w.heap.size ≤ gb156)); have n4_ := Aside0.mk ((by rw [hg]; exact (below_size (by repeat (first | (with_reducible first | exact HB.out | apply below_alloc | apply pw_below_drewN | apply below_drew1 | refine below_set ?_ GE154.out) | exact HB.out))) : w.heap.size ≤ gb156)); have n5_ := Aside0.mk ((by rw [hg]; exact Nat.ne_of_lt (blk_lt (g := gb154) (o := .cells #[.slice (some ad155) l0_0.length c0_0] 48 (0, 0)) (by (with_reducible repeat (first | refine blk_drewN ?_ _ | refine blk_drew ?_ | refine blk_alloc ?_ _)); exact BK154.out)) : gb154 ≠ gb156)); have n6_ := Aside0.mk ((by rw [hg]; exact Nat.ne_of_gt (blk_lt (g := gb154) (o := .cells #[.slice (some ad155) l0_0.length c0_0] 48 (0, 0)) (by (with_reducible repeat (first | refine blk_drewN ?_ _ | refine blk_drew ?_ | refine blk_alloc ?_ _)); exact BK154.out)) : gb156 ≠ gb154)); clear BK154; clear HB; have BK154 := n0_; have HB := n1_; have BK156 := n2_; have GW156 := n3_; have GE156 := n4_; have NB154_156 := n5_; have NB156_154 := n6_; clear n0_ n1_ n2_ n3_ n4_ n5_ n6_; clear hb hbox hg; have hnb9 := NB156_154.out; have hnc9 := NB154_156.out; have hcz10_0 : w8.cell? ⟨gb156, 0, none⟩ = some (.int .i64 0) := (blk_cell BK156.out 0).trans rfl; have hcz10_1 : w8.cell? ⟨gb156, 1, none⟩ = some (.int .i64 0) := (blk_cell BK156.out 1).trans rfl; have hcz10_2 : w8.cell? ⟨gb156, 2, none⟩ = some (.int .i64 0) := (blk_cell BK156.out 2).trans rfl; have hcz10_3 : w8.cell? ⟨gb156, 3, none⟩ = some (.int .i64 0) := (blk_cell BK156.out 3).trans rfl; have hcz10_4 : w8.cell? ⟨gb156, 4, none⟩ = some (.int .i64 0) := (blk_cell BK156.out 4).trans rfl; have hcz10_5 : w8.cell? ⟨gb156, 5, none⟩ = some (.int .i64 0) := (blk_cell BK156.out 5).trans rfl; have hcz10_6 : w8.cell? ⟨gb156, 6, none⟩ = some (.int .i64 0) := (blk_cell BK156.out 6).trans rfl; have hcz10_7 : w8.cell? ⟨gb156, 7, none⟩ = some (.int .i64 0) := (blk_cell BK156.out 7).trans rfl; have hcz10_8 : w8.cell? ⟨gb156, 8, none⟩ = some (.int .i64 0) := (blk_cell BK156.out 8).trans rfl; have hcz10_9 : w8.cell? ⟨gb156, 9, none⟩ = some (.int .i64 0) := (blk_cell BK156.out 9).trans rfl; have hfz10_0 := blk_frozen BK156.out 0; have hfz10_1 := blk_frozen BK156.out 1; have hfz10_2 := blk_frozen BK156.out 2; have hfz10_3 := blk_frozen BK156.out 3; have hfz10_4 := blk_frozen BK156.out 4; have hfz10_5 := blk_frozen BK156.out 5; have hfz10_6 := blk_frozen BK156.out 6; have hfz10_7 := blk_frozen BK156.out 7; have hfz10_8 := blk_frozen BK156.out 8; have hfz10_9 := blk_frozen BK156.out 9) | ((with_reducible refine gate_store (t := 87) (p := 5) rfl ?_); (try (rw [drewN_self w8]; generalize hq_ : World.drewN w8 _ = w8; have n0_ := Aside0.mk (blk_at hq_ BK154.out); have n1_ := Aside0.mk (blk_at hq_ BK156.out); have n2_ := Aside0.mk (below_at hq_ HB.out); clear hq_ BK154 BK156 HB; have BK154 := n0_; have BK156 := n1_; have HB := n2_; clear n0_ n1_ n2_)); refine store_event (t := 87) (p := 5) (v := ?vo_w11) (w1 := ((((((((((w8.setCell ⟨gb156, 0, none⟩ (.int .i64 ((rd_T87 l0_0 a1).f0))).setCell ⟨gb156, 1, none⟩ (.int .i64 ((rd_T87 l0_0 a1).f1))).setCell ⟨gb156, 2, none⟩ (.int .i64 ((rd_T87 l0_0 a1).f2))).setCell ⟨gb156, 3, none⟩ (.int .i64 ((rd_T87 l0_0 a1).f3))).setCell ⟨gb156, 4, none⟩ (.int .i64 ((rd_T87 l0_0 a1).f4))).setCell ⟨gb156, 5, none⟩ (.int .i64 ((rd_T87 l0_0 a1).f5))).setCell ⟨gb156, 6, none⟩ (.int .i64 ((rd_T87 l0_0 a1).f6))).setCell ⟨gb156, 7, none⟩ (.int .i64 ((rd_T87 l0_0 a1).f7))).setCell ⟨gb156, 8, none⟩ (.int .i64 ((rd_T87 l0_0 a1).f8))).setCell ⟨gb156, 9, none⟩ (.int .i64 ((rd_T87 l0_0 a1).f9)))) ?hg ?ho ?hn ?hr ?_; (case ho => rfl); (case hg => rfl); (case hn => rfl); (case hr => first | (go_simp; done) | (go_simp; rfl)); intro w11 hw; have n0_ : Aside0 (w11.heap[gb154]? = some (.cells #[.slice (some ad155) l0_0.length c0_0] 48 (0, 0))) := ⟨(by rw [hw]; exact (by (with_reducible repeat (first | refine blk_drewN ?_ _ | refine blk_drew ?_ | refine blk_alloc ?_ _)); refine blk_far ?_ NB154_156.out _; (with_reducible repeat (first | refine blk_drewN ?_ _ | refine blk_drew ?_ | refine blk_alloc ?_ _)); refine blk_far ?_ NB154_156.out _; (with_reducible repeat (first | refine blk_drewN ?_ _ | refine blk_drew ?_ | refine blk_alloc ?_ _)); refine blk_far ?_ NB154_156.out _; (with_reducible repeat (first | refine blk_drewN ?_ _ | refine blk_drew ?_ | refine blk_alloc ?_ _)); refine blk_far ?_ NB154_156.out _; (with_reducible repeat (first | refine blk_drewN ?_ _ | refine blk_drew ?_ | refine blk_alloc ?_ _)); refine blk_far ?_ NB154_156.out _; (with_reducible repeat (first | refine blk_drewN ?_ _ | refine blk_drew ?_ | refine blk_alloc ?_ _)); refine blk_far ?_ NB154_156.out _; (with_reducible repeat (first | refine blk_drewN ?_ _ | refine blk_drew ?_ | refine blk_alloc ?_ _)); refine blk_far ?_ NB154_156.out _; (with_reducible repeat (first | refine blk_drewN ?_ _ | refine blk_drew ?_ | refine blk_alloc ?_ _)); refine blk_far ?_ NB154_156.out _; (with_reducible repeat (first | refine blk_drewN ?_ _ | refine blk_drew ?_ | refine blk_alloc ?_ _)); refine blk_far ?_ NB154_156.out _; (with_reducible repeat (first | refine blk_drewN ?_ _ | refine blk_drew ?_ | refine blk_alloc ?_ _)); refine blk_far ?_ NB154_156.out _; (with_reducible repeat (first | refine blk_drewN ?_ _ | refine blk_drew ?_ | refine blk_alloc ?_ _)); exact BK154.out))⟩; have n1_ : Aside0 (w11.heap[gb156]? = some (.cells #[.int .i64 ((rd_T87 l0_0 a1).f0), .int .i64 ((rd_T87 l0_0 a1).f1), .int .i64 ((rd_T87 l0_0 a1).f2), .int .i64 ((rd_T87 l0_0 a1).f3), .int .i64 ((rd_T87 l0_0 a1).f4), .int .i64 ((rd_T87 l0_0 a1).f5), .int .i64 ((rd_T87 l0_0 a1).f6), .int .i64 ((rd_T87 l0_0 a1).f7), .int .i64 ((rd_T87 l0_0 a1).f8), .int .i64 ((rd_T87 l0_0 a1).f9)] 87 (0, 0))) := ⟨(by rw [hw]; exact (by (with_reducible repeat (first | refine blk_drewN ?_ _ | refine blk_drew ?_ | refine blk_alloc ?_ _)); refine blk_put (cs := #[.int .i64 ((rd_T87 l0_0 a1).f0), .int .i64 ((rd_T87 l0_0 a1).f1), .int .i64 ((rd_T87 l0_0 a1).f2), .int .i64 ((rd_T87 l0_0 a1).f3), .int .i64 ((rd_T87 l0_0 a1).f4), .int .i64 ((rd_T87 l0_0 a1).f5), .int .i64 ((rd_T87 l0_0 a1).f6), .int .i64 ((rd_T87 l0_0 a1).f7), .int .i64 ((rd_T87 l0_0 a1).f8), .int .i64 0]) ?_ 9 _ rfl; (with_reducible repeat (first | refine blk_drewN ?_ _ | refine blk_drew ?_ | refine blk_alloc ?_ _)); refine blk_put (cs := #[.int .i64 ((rd_T87 l0_0 a1).f0), .int .i64 ((rd_T87 l0_0 a1).f1), .int .i64 ((rd_T87 l0_0 a1).f2), .int .i64 ((rd_T87 l0_0 a1).f3), .int .i64 ((rd_T87 l0_0 a1).f4), .int .i64 ((rd_T87 l0_0 a1).f5), .int .i64 ((rd_T87 l0_0 a1).f6), .int .i64 ((rd_T87 l0_0 a1).f7), .int .i64 0, .int .i64 0]) ?_ 8 _ rfl; (with_reducible repeat (first | refine blk_drewN ?_ _ | refine blk_drew ?_ | refine blk_alloc ?_ _)); refine blk_put (cs := #[.int .i64 ((rd_T87 l0_0 a1).f0), .int .i64 ((rd_T87 l0_0 a1).f1), .int .i64 ((rd_T87 l0_0 a1).f2), .int .i64 ((rd_T87 l0_0 a1).f3), .int .i64 ((rd_T87 l0_0 a1).f4), .int .i64 ((rd_T87 l0_0 a1).f5), .int .i64 ((rd_T87 l0_0 a1).f6), .int .i64 0, .int .i64 0, .int .i64 0]) ?_ 7 _ rfl; (with_reducible repeat (first | refine blk_drewN ?_ _ | refine blk_drew ?_ | refine blk_alloc ?_ _)); refine blk_put (cs := #[.int .i64 ((rd_T87 l0_0 a1).f0), .int .i64 ((rd_T87 l0_0 a1).f1), .int .i64 ((rd_T87 l0_0 a1).f2), .int .i64 ((rd_T87 l0_0 a1).f3), .int .i64 ((rd_T87 l0_0 a1).f4), .int .i64 ((rd_T87 l0_0 a1).f5), .int .i64 0, .int .i64 0, .int .i64 0, .int .i64 0]) ?_ 6 _ rfl; (with_reducible repeat (first | refine blk_drewN ?_ _ | refine blk_drew ?_ | refine blk_alloc ?_ _)); refine blk_put (cs := #[.int .i64 ((rd_T87 l0_0 a1).f0), .int .i64 ((rd_T87 l0_0 a1).f1), .int .i64 ((rd_T87 l0_0 a1).f2), .int .i64 ((rd_T87 l0_0 a1).f3), .int .i64 ((rd_T87 l0_0 a1).f4), .int .i64 0, .int .i64 0, .int .i64 0, .int .i64 0, .int .i64 0]) ?_ 5 _ rfl; (with_reducible repeat (first | refine blk_drewN ?_ _ | refine blk_drew ?_ | refine blk_alloc ?_ _)); refine blk_put (cs := #[.int .i64 ((rd_T87 l0_0 a1).f0), .int .i64 ((rd_T87 l0_0 a1).f1), .int .i64 ((rd_T87 l0_0 a1).f2), .int .i64 ((rd_T87 l0_0 a1).f3), .int .i64 0, .int .i64 0, .int .i64 0, .int .i64 0, .int .i64 0, .int .i64 0]) ?_ 4 _ rfl; (with_reducible repeat (first | refine blk_drewN ?_ _ | refine blk_drew ?_ | refine blk_alloc ?_ _)); refine blk_put (cs := #[.int .i64 ((rd_T87 l0_0 a1).f0), .int .i64 ((rd_T87 l0_0 a1).f1), .int .i64 ((rd_T87 l0_0 a1).f2), .int .i64 0, .int .i64 0, .int .i64 0, .int .i64 0, .int .i64 0, .int .i64 0, .int .i64 0]) ?_ 3 _ rfl; (with_reducible repeat (first | refine blk_drewN ?_ _ | refine blk_drew ?_ | refine blk_alloc ?_ _)); refine blk_put (cs := #[.int .i64 ((rd_T87 l0_0 a1).f0), .int .i64 ((rd_T87 l0_0 a1).f1), .int .i64 0, .int .i64 0, .int .i64 0, .int .i64 0, .int .i64 0, .int .i64 0, .int .i64 0, .int .i64 0]) ?_ 2 _ rfl; (with_reducible repeat (first | refine blk_drewN ?_ _ | refine blk_drew ?_ | refine blk_alloc ?_ _)); refine blk_put (cs := #[.int .i64 ((rd_T87 l0_0 a1).f0), .int .i64 0, .int .i64 0, .int .i64 0, .int .i64 0, .int .i64 0, .int .i64 0, .int .i64 0, .int .i64 0, .int .i64 0]) ?_ 1 _ rfl; (with_reducible repeat (first | refine blk_drewN ?_ _ | refine blk_drew ?_ | refine blk_alloc ?_ _)); refine blk_put (cs := #[.int .i64 0, .int .i64 0, .int .i64 0, .int .i64 0, .int .i64 0, .int .i64 0, .int .i64 0, .int .i64 0, .int .i64 0, .int .i64 0]) ?_ 0 _ rfl; (with_reducible repeat (first | refine blk_drewN ?_ _ | refine blk_drew ?_ | refine blk_alloc ?_ _)); exact BK156.out))⟩; have n2_ : Aside0 (Below w.heap.size w w11) := ⟨(by rw [hw]; exact (by repeat (first | (with_reducible first | exact HB.out | apply below_alloc | apply pw_below_drewN | apply below_drew1 | refine below_set ?_ GE154.out | refine below_set ?_ GE156.out) | exact HB.out)))⟩; clear hw; clear BK154; clear BK156; clear HB; have BK154 := n0_; have BK156 := n1_; have HB := n2_; clear n0_ n1_ n2_)))
      (try simp only [Act.put, List.setIfInBounds_toArray, List.set_cons_zero, List.set_cons_succ])
      go_cut [55] (fun v55 wc => ∃ (kq : Nat) (x55_4 : Bool), v55 = .bool x55_4 ∧ Aside0 (spec_l16One.j0 kq x55_4 ((rd_T87 l0_0 a1).f0) ((rd_T87 l0_0 a1).f1) ((rd_T87 l0_0 a1).f2) ((rd_T87 l0_0 a1).f3) ((rd_T87 l0_0 a1).f4) ((rd_T87 l0_0 a1).f5) ((rd_T87 l0_0 a1).f6) ((rd_T87 l0_0 a1).f7) ((rd_T87 l0_0 a1).f8) ((rd_T87 l0_0 a1).f9) = some r) ∧ Aside0 (kq ≤ k) ∧ Aside0 (wc.heap[gb154]? = some (.cells #[(.slice (some ad155) l0_0.length c0_0)] 48 (0, 0))) ∧ Aside0 (wc.heap[gb156]? = some (.cells #[.int .i64 ((rd_T87 l0_0 a1).f0), .int .i64 ((rd_T87 l0_0 a1).f1), .int .i64 ((rd_T87 l0_0 a1).f2), .int .i64 ((rd_T87 l0_0 a1).f3), .int .i64 ((rd_T87 l0_0 a1).f4), .int .i64 ((rd_T87 l0_0 a1).f5), .int .i64 ((rd_T87 l0_0 a1).f6), .int .i64 ((rd_T87 l0_0 a1).f7), .int .i64 ((rd_T87 l0_0 a1).f8), .int .i64 ((rd_T87 l0_0 a1).f9)] 87 (0, 0))) ∧ Aside0 (Below w.heap.size w wc))
      case first =>
        have H := HC5.out
        clear HC5
        by_cases c12 : ((rd_T87 l0_0 a1).f0) < 1
        · rw [if_pos c12] at H
          have c12b0 : decide (((rd_T87 l0_0 a1).f0) < 1) = true := decide_eq_true c12
          clear c12
          (first | rw [c12b0] | (simp only [i64_w, i32_w]; rw [c12b0]) | skip)
          have H' := Aside0.mk H
          clear H
          have hnb13 := NB156_154.out
          have hnc13 := NB154_156.out
          have hcz14_0 : w11.cell? ⟨gb156, 0, none⟩ = some (.int .i64 ((rd_T87 l0_0 a1).f0)) := (blk_cell BK156.out 0).trans rfl
          have hcz14_1 : w11.cell? ⟨gb156, 1, none⟩ = some (.int .i64 ((rd_T87 l0_0 a1).f1)) := (blk_cell BK156.out 1).trans rfl
          have hcz14_2 : w11.cell? ⟨gb156, 2, none⟩ = some (.int .i64 ((rd_T87 l0_0 a1).f2)) := (blk_cell BK156.out 2).trans rfl
          have hcz14_3 : w11.cell? ⟨gb156, 3, none⟩ = some (.int .i64 ((rd_T87 l0_0 a1).f3)) := (blk_cell BK156.out 3).trans rfl
          have hcz14_4 : w11.cell? ⟨gb156, 4, none⟩ = some (.int .i64 ((rd_T87 l0_0 a1).f4)) := (blk_cell BK156.out 4).trans rfl
          have hcz14_5 : w11.cell? ⟨gb156, 5, none⟩ = some (.int .i64 ((rd_T87 l0_0 a1).f5)) := (blk_cell BK156.out 5).trans rfl
          have hcz14_6 : w11.cell? ⟨gb156, 6, none⟩ = some (.int .i64 ((rd_T87 l0_0 a1).f6)) := (blk_cell BK156.out 6).trans rfl
          have hcz14_7 : w11.cell? ⟨gb156, 7, none⟩ = some (.int .i64 ((rd_T87 l0_0 a1).f7)) := (blk_cell BK156.out 7).trans rfl
          have hcz14_8 : w11.cell? ⟨gb156, 8, none⟩ = some (.int .i64 ((rd_T87 l0_0 a1).f8)) := (blk_cell BK156.out 8).trans rfl
          have hcz14_9 : w11.cell? ⟨gb156, 9, none⟩ = some (.int .i64 ((rd_T87 l0_0 a1).f9)) := (blk_cell BK156.out 9).trans rfl
          have hfz14_0 := blk_frozen BK156.out 0
          have hfz14_1 := blk_frozen BK156.out 1
          have hfz14_2 := blk_frozen BK156.out 2
          have hfz14_3 := blk_frozen BK156.out 3
          have hfz14_4 := blk_frozen BK156.out 4
          have hfz14_5 := blk_frozen BK156.out 5
          have hfz14_6 := blk_frozen BK156.out 6
          have hfz14_7 := blk_frozen BK156.out 7
          have hfz14_8 := blk_frozen BK156.out 8
          have hfz14_9 := blk_frozen BK156.out 9
          go_wp2
          repeat (go_quiet (fail); try go_wp2)
          go_meet
          case rel => exact ⟨_, (true), (by first | rfl | exact congrArg (Value.int .i64) (i64_w _) | (simp; done) | (simp [*]; done)), H', ⟨by first | omega | exact Nat.le_refl _⟩, ⟨by (with_reducible repeat (first | refine blk_drewN ?_ _ | refine blk_drew ?_ | refine blk_alloc ?_ _)); exact BK154.out⟩, ⟨by (with_reducible repeat (first | refine blk_drewN ?_ _ | refine blk_drew ?_ | refine blk_alloc ?_ _)); exact BK156.out⟩, ⟨by repeat (first | (with_reducible first | exact HB.out | apply below_alloc | apply pw_below_drewN | apply below_drew1 | refine below_set ?_ GE154.out | refine below_set ?_ GE156.out) | exact HB.out)⟩⟩
        · rw [if_neg c12] at H
          have c12b0 : decide (((rd_T87 l0_0 a1).f0) < 1) = false := decide_eq_false c12
          clear c12
          (first | rw [c12b0] | (simp only [i64_w, i32_w]; rw [c12b0]) | skip)
          by_cases c15 : ((rd_T87 l0_0 a1).f0) > 32
          · rw [if_pos c15] at H
            have c15b0 : decide (32 < ((rd_T87 l0_0 a1).f0)) = true := decide_eq_true c15
            clear c15
            have H' := Aside0.mk H
            clear H
            have hnb16 := NB156_154.out
            have hnc16 := NB154_156.out
            have hcz17_0 : w11.cell? ⟨gb156, 0, none⟩ = some (.int .i64 ((rd_T87 l0_0 a1).f0)) := (blk_cell BK156.out 0).trans rfl
            have hcz17_1 : w11.cell? ⟨gb156, 1, none⟩ = some (.int .i64 ((rd_T87 l0_0 a1).f1)) := (blk_cell BK156.out 1).trans rfl
            have hcz17_2 : w11.cell? ⟨gb156, 2, none⟩ = some (.int .i64 ((rd_T87 l0_0 a1).f2)) := (blk_cell BK156.out 2).trans rfl
            have hcz17_3 : w11.cell? ⟨gb156, 3, none⟩ = some (.int .i64 ((rd_T87 l0_0 a1).f3)) := (blk_cell BK156.out 3).trans rfl
            have hcz17_4 : w11.cell? ⟨gb156, 4, none⟩ = some (.int .i64 ((rd_T87 l0_0 a1).f4)) := (blk_cell BK156.out 4).trans rfl
            have hcz17_5 : w11.cell? ⟨gb156, 5, none⟩ = some (.int .i64 ((rd_T87 l0_0 a1).f5)) := (blk_cell BK156.out 5).trans rfl
            have hcz17_6 : w11.cell? ⟨gb156, 6, none⟩ = some (.int .i64 ((rd_T87 l0_0 a1).f6)) := (blk_cell BK156.out 6).trans rfl
            have hcz17_7 : w11.cell? ⟨gb156, 7, none⟩ = some (.int .i64 ((rd_T87 l0_0 a1).f7)) := (blk_cell BK156.out 7).trans rfl
            have hcz17_8 : w11.cell? ⟨gb156, 8, none⟩ = some (.int .i64 ((rd_T87 l0_0 a1).f8)) := (blk_cell BK156.out 8).trans rfl
            have hcz17_9 : w11.cell? ⟨gb156, 9, none⟩ = some (.int .i64 ((rd_T87 l0_0 a1).f9)) := (blk_cell BK156.out 9).trans rfl
            have hfz17_0 := blk_frozen BK156.out 0
            have hfz17_1 := blk_frozen BK156.out 1
            have hfz17_2 := blk_frozen BK156.out 2
            have hfz17_3 := blk_frozen BK156.out 3
            have hfz17_4 := blk_frozen BK156.out 4
            have hfz17_5 := blk_frozen BK156.out 5
            have hfz17_6 := blk_frozen BK156.out 6
            have hfz17_7 := blk_frozen BK156.out 7
            have hfz17_8 := blk_frozen BK156.out 8
            have hfz17_9 := blk_frozen BK156.out 9
            go_wp2
            repeat (go_quiet (fail); try go_wp2)
            go_meet
            case rel => exact ⟨_, (true), (by first | rfl | exact congrArg (Value.int .i64) (i64_w _) | (simp; done) | (simp [*]; done)), H', ⟨by first | omega | exact Nat.le_refl _⟩, ⟨by (with_reducible repeat (first | refine blk_drewN ?_ _ | refine blk_drew ?_ | refine blk_alloc ?_ _)); exact BK154.out⟩, ⟨by (with_reducible repeat (first | refine blk_drewN ?_ _ | refine blk_drew ?_ | refine blk_alloc ?_ _)); exact BK156.out⟩, ⟨by repeat (first | (with_reducible first | exact HB.out | apply below_alloc | apply pw_below_drewN | apply below_drew1 | refine below_set ?_ GE154.out | refine below_set ?_ GE156.out) | exact HB.out)⟩⟩
          · rw [if_neg c15] at H
            have c15b0 : decide (32 < ((rd_T87 l0_0 a1).f0)) = false := decide_eq_false c15
            clear c15
            by_cases c18 : a1 > 0
            · rw [if_pos c18] at H
              have c18b0 : decide (0 < a1) = true := decide_eq_true c18
              clear c18
              obtain ⟨ji19, hji19⟩ : ∃ j_ : Int, (wrap64 (a1 - 1)) = j_ := ⟨_, rfl⟩
              replace H : (if 0 ≤ (ji19) then (if (ji19) < (l0_0.length : Int) then (if ((rd_T87 l0_0 (ji19)).f0) ≥ ((rd_T87 l0_0 a1).f0) then (spec_l16One.j0 k true ((rd_T87 l0_0 a1).f0) ((rd_T87 l0_0 a1).f1) ((rd_T87 l0_0 a1).f2) ((rd_T87 l0_0 a1).f3) ((rd_T87 l0_0 a1).f4) ((rd_T87 l0_0 a1).f5) ((rd_T87 l0_0 a1).f6) ((rd_T87 l0_0 a1).f7) ((rd_T87 l0_0 a1).f8) ((rd_T87 l0_0 a1).f9)) else (if ((rd_T87 l0_0 a1).f2) < 1 then (spec_l16One.j0 k true ((rd_T87 l0_0 a1).f0) ((rd_T87 l0_0 a1).f1) ((rd_T87 l0_0 a1).f2) ((rd_T87 l0_0 a1).f3) ((rd_T87 l0_0 a1).f4) ((rd_T87 l0_0 a1).f5) ((rd_T87 l0_0 a1).f6) ((rd_T87 l0_0 a1).f7) ((rd_T87 l0_0 a1).f8) ((rd_T87 l0_0 a1).f9)) else (if ((rd_T87 l0_0 a1).f2) > 32 then (spec_l16One.j0 k true ((rd_T87 l0_0 a1).f0) ((rd_T87 l0_0 a1).f1) ((rd_T87 l0_0 a1).f2) ((rd_T87 l0_0 a1).f3) ((rd_T87 l0_0 a1).f4) ((rd_T87 l0_0 a1).f5) ((rd_T87 l0_0 a1).f6) ((rd_T87 l0_0 a1).f7) ((rd_T87 l0_0 a1).f8) ((rd_T87 l0_0 a1).f9)) else (if ((rd_T87 l0_0 a1).f3) < 0 then (spec_l16One.j0 k true ((rd_T87 l0_0 a1).f0) ((rd_T87 l0_0 a1).f1) ((rd_T87 l0_0 a1).f2) ((rd_T87 l0_0 a1).f3) ((rd_T87 l0_0 a1).f4) ((rd_T87 l0_0 a1).f5) ((rd_T87 l0_0 a1).f6) ((rd_T87 l0_0 a1).f7) ((rd_T87 l0_0 a1).f8) ((rd_T87 l0_0 a1).f9)) else (spec_l16One.j0 k (decide (((rd_T87 l0_0 a1).f3) > 255)) ((rd_T87 l0_0 a1).f0) ((rd_T87 l0_0 a1).f1) ((rd_T87 l0_0 a1).f2) ((rd_T87 l0_0 a1).f3) ((rd_T87 l0_0 a1).f4) ((rd_T87 l0_0 a1).f5) ((rd_T87 l0_0 a1).f6) ((rd_T87 l0_0 a1).f7) ((rd_T87 l0_0 a1).f8) ((rd_T87 l0_0 a1).f9)))))) else (none)) else (none)) = some r := by first | (rw [hji19] at H; exact H) | (simp only [hji19] at H ⊢; exact H)
              have hji19w : (IntKind.i64.wrap (a1 - 1)) = ji19 := (i64_w _).trans hji19
              by_cases c20 : 0 ≤ (ji19)
              · rw [if_pos c20] at H
                have c20b0 : decide (0 ≤ (ji19)) = true := decide_eq_true c20
                clear c20
                by_cases c21 : (ji19) < (l0_0.length : Int)
                · rw [if_pos c21] at H
                  have c21b0 : decide ((ji19) < (l0_0.length : Int)) = true := decide_eq_true c21
                  clear c21
                  by_cases c22 : ((rd_T87 l0_0 (ji19)).f0) ≥ ((rd_T87 l0_0 a1).f0)
                  · rw [if_pos c22] at H
                    have c22b0 : decide (((rd_T87 l0_0 a1).f0) ≤ ((rd_T87 l0_0 (ji19)).f0)) = true := decide_eq_true c22
                    clear c22
                    have H' := Aside0.mk H
                    clear H
                    have hnb23 := NB156_154.out
                    have hnc23 := NB154_156.out
                    have hcz24_0 : w11.cell? ⟨gb156, 0, none⟩ = some (.int .i64 ((rd_T87 l0_0 a1).f0)) := (blk_cell BK156.out 0).trans rfl
                    have hcz24_1 : w11.cell? ⟨gb156, 1, none⟩ = some (.int .i64 ((rd_T87 l0_0 a1).f1)) := (blk_cell BK156.out 1).trans rfl
                    have hcz24_2 : w11.cell? ⟨gb156, 2, none⟩ = some (.int .i64 ((rd_T87 l0_0 a1).f2)) := (blk_cell BK156.out 2).trans rfl
                    have hcz24_3 : w11.cell? ⟨gb156, 3, none⟩ = some (.int .i64 ((rd_T87 l0_0 a1).f3)) := (blk_cell BK156.out 3).trans rfl
                    have hcz24_4 : w11.cell? ⟨gb156, 4, none⟩ = some (.int .i64 ((rd_T87 l0_0 a1).f4)) := (blk_cell BK156.out 4).trans rfl
                    have hcz24_5 : w11.cell? ⟨gb156, 5, none⟩ = some (.int .i64 ((rd_T87 l0_0 a1).f5)) := (blk_cell BK156.out 5).trans rfl
                    have hcz24_6 : w11.cell? ⟨gb156, 6, none⟩ = some (.int .i64 ((rd_T87 l0_0 a1).f6)) := (blk_cell BK156.out 6).trans rfl
                    have hcz24_7 : w11.cell? ⟨gb156, 7, none⟩ = some (.int .i64 ((rd_T87 l0_0 a1).f7)) := (blk_cell BK156.out 7).trans rfl
                    have hcz24_8 : w11.cell? ⟨gb156, 8, none⟩ = some (.int .i64 ((rd_T87 l0_0 a1).f8)) := (blk_cell BK156.out 8).trans rfl
                    have hcz24_9 : w11.cell? ⟨gb156, 9, none⟩ = some (.int .i64 ((rd_T87 l0_0 a1).f9)) := (blk_cell BK156.out 9).trans rfl
                    have hfz24_0 := blk_frozen BK156.out 0
                    have hfz24_1 := blk_frozen BK156.out 1
                    have hfz24_2 := blk_frozen BK156.out 2
                    have hfz24_3 := blk_frozen BK156.out 3
                    have hfz24_4 := blk_frozen BK156.out 4
                    have hfz24_5 := blk_frozen BK156.out 5
                    have hfz24_6 := blk_frozen BK156.out 6
                    have hfz24_7 := blk_frozen BK156.out 7
                    have hfz24_8 := blk_frozen BK156.out 8
                    have hfz24_9 := blk_frozen BK156.out 9
                    have hcz25_0 : w11.cell? ⟨gb154, 0, none⟩ = some (.slice (some ad155) l0_0.length c0_0) := (blk_cell BK154.out 0).trans rfl
                    have hfz25_0 := blk_frozen BK154.out 0
                    have p157 : 0 ≤ ((ji19) : Int) := of_decide_eq_true (by first | (with_reducible assumption) | assumption)
                    have q157 : (ji19) < (l0_0.length : Int) := of_decide_eq_true (by first | (with_reducible assumption) | assumption)
                    obtain ⟨ad157, e157, hx157_0, hx157_1, hx157_2, hx157_3, hx157_4, hx157_5, hx157_6, hx157_7, hx157_8, hx157_9⟩ := at_T87 HR0_0.out (ji19) p157 q157
                    obtain rfl : ad155 = ad157 := (by injection e157)
                    replace hx157_0 := (HB.out.cell (World.block_lt_of_cell? w _ hx157_0)).trans hx157_0
                    replace hx157_1 := (HB.out.cell (World.block_lt_of_cell? w _ hx157_1)).trans hx157_1
                    replace hx157_2 := (HB.out.cell (World.block_lt_of_cell? w _ hx157_2)).trans hx157_2
                    replace hx157_3 := (HB.out.cell (World.block_lt_of_cell? w _ hx157_3)).trans hx157_3
                    replace hx157_4 := (HB.out.cell (World.block_lt_of_cell? w _ hx157_4)).trans hx157_4
                    replace hx157_5 := (HB.out.cell (World.block_lt_of_cell? w _ hx157_5)).trans hx157_5
                    replace hx157_6 := (HB.out.cell (World.block_lt_of_cell? w _ hx157_6)).trans hx157_6
                    replace hx157_7 := (HB.out.cell (World.block_lt_of_cell? w _ hx157_7)).trans hx157_7
                    replace hx157_8 := (HB.out.cell (World.block_lt_of_cell? w _ hx157_8)).trans hx157_8
                    replace hx157_9 := (HB.out.cell (World.block_lt_of_cell? w _ hx157_9)).trans hx157_9
                    replace p157 := eq_true p157
                    replace q157 := eq_true q157
                    go_wp2
                    repeat (go_quiet (fail); try go_wp2)
                    go_meet
                    case rel => exact ⟨_, (true), (by first | rfl | exact congrArg (Value.int .i64) (i64_w _) | (simp; done) | (simp [*]; done)), H', ⟨by first | omega | exact Nat.le_refl _⟩, ⟨by (with_reducible repeat (first | refine blk_drewN ?_ _ | refine blk_drew ?_ | refine blk_alloc ?_ _)); exact BK154.out⟩, ⟨by (with_reducible repeat (first | refine blk_drewN ?_ _ | refine blk_drew ?_ | refine blk_alloc ?_ _)); exact BK156.out⟩, ⟨by repeat (first | (with_reducible first | exact HB.out | apply below_alloc | apply pw_below_drewN | apply below_drew1 | refine below_set ?_ GE154.out | refine below_set ?_ GE156.out) | exact HB.out)⟩⟩
                  · rw [if_neg c22] at H
                    have c22b0 : decide (((rd_T87 l0_0 a1).f0) ≤ ((rd_T87 l0_0 (ji19)).f0)) = false := decide_eq_false c22
                    clear c22
                    by_cases c26 : ((rd_T87 l0_0 a1).f2) < 1
                    · rw [if_pos c26] at H
                      have c26b0 : decide (((rd_T87 l0_0 a1).f2) < 1) = true := decide_eq_true c26
                      clear c26
                      have H' := Aside0.mk H
                      clear H
                      have hnb27 := NB156_154.out
                      have hnc27 := NB154_156.out
                      have hcz28_0 : w11.cell? ⟨gb156, 0, none⟩ = some (.int .i64 ((rd_T87 l0_0 a1).f0)) := (blk_cell BK156.out 0).trans rfl
                      have hcz28_1 : w11.cell? ⟨gb156, 1, none⟩ = some (.int .i64 ((rd_T87 l0_0 a1).f1)) := (blk_cell BK156.out 1).trans rfl
                      have hcz28_2 : w11.cell? ⟨gb156, 2, none⟩ = some (.int .i64 ((rd_T87 l0_0 a1).f2)) := (blk_cell BK156.out 2).trans rfl
                      have hcz28_3 : w11.cell? ⟨gb156, 3, none⟩ = some (.int .i64 ((rd_T87 l0_0 a1).f3)) := (blk_cell BK156.out 3).trans rfl
                      have hcz28_4 : w11.cell? ⟨gb156, 4, none⟩ = some (.int .i64 ((rd_T87 l0_0 a1).f4)) := (blk_cell BK156.out 4).trans rfl
                      have hcz28_5 : w11.cell? ⟨gb156, 5, none⟩ = some (.int .i64 ((rd_T87 l0_0 a1).f5)) := (blk_cell BK156.out 5).trans rfl
                      have hcz28_6 : w11.cell? ⟨gb156, 6, none⟩ = some (.int .i64 ((rd_T87 l0_0 a1).f6)) := (blk_cell BK156.out 6).trans rfl
                      have hcz28_7 : w11.cell? ⟨gb156, 7, none⟩ = some (.int .i64 ((rd_T87 l0_0 a1).f7)) := (blk_cell BK156.out 7).trans rfl
                      have hcz28_8 : w11.cell? ⟨gb156, 8, none⟩ = some (.int .i64 ((rd_T87 l0_0 a1).f8)) := (blk_cell BK156.out 8).trans rfl
                      have hcz28_9 : w11.cell? ⟨gb156, 9, none⟩ = some (.int .i64 ((rd_T87 l0_0 a1).f9)) := (blk_cell BK156.out 9).trans rfl
                      have hfz28_0 := blk_frozen BK156.out 0
                      have hfz28_1 := blk_frozen BK156.out 1
                      have hfz28_2 := blk_frozen BK156.out 2
                      have hfz28_3 := blk_frozen BK156.out 3
                      have hfz28_4 := blk_frozen BK156.out 4
                      have hfz28_5 := blk_frozen BK156.out 5
                      have hfz28_6 := blk_frozen BK156.out 6
                      have hfz28_7 := blk_frozen BK156.out 7
                      have hfz28_8 := blk_frozen BK156.out 8
                      have hfz28_9 := blk_frozen BK156.out 9
                      have hcz29_0 : w11.cell? ⟨gb154, 0, none⟩ = some (.slice (some ad155) l0_0.length c0_0) := (blk_cell BK154.out 0).trans rfl
                      have hfz29_0 := blk_frozen BK154.out 0
                      have p157 : 0 ≤ ((ji19) : Int) := of_decide_eq_true (by first | (with_reducible assumption) | assumption)
                      have q157 : (ji19) < (l0_0.length : Int) := of_decide_eq_true (by first | (with_reducible assumption) | assumption)
                      obtain ⟨ad157, e157, hx157_0, hx157_1, hx157_2, hx157_3, hx157_4, hx157_5, hx157_6, hx157_7, hx157_8, hx157_9⟩ := at_T87 HR0_0.out (ji19) p157 q157
                      obtain rfl : ad155 = ad157 := (by injection e157)
                      replace hx157_0 := (HB.out.cell (World.block_lt_of_cell? w _ hx157_0)).trans hx157_0
                      replace hx157_1 := (HB.out.cell (World.block_lt_of_cell? w _ hx157_1)).trans hx157_1
                      replace hx157_2 := (HB.out.cell (World.block_lt_of_cell? w _ hx157_2)).trans hx157_2
                      replace hx157_3 := (HB.out.cell (World.block_lt_of_cell? w _ hx157_3)).trans hx157_3
                      replace hx157_4 := (HB.out.cell (World.block_lt_of_cell? w _ hx157_4)).trans hx157_4
                      replace hx157_5 := (HB.out.cell (World.block_lt_of_cell? w _ hx157_5)).trans hx157_5
                      replace hx157_6 := (HB.out.cell (World.block_lt_of_cell? w _ hx157_6)).trans hx157_6
                      replace hx157_7 := (HB.out.cell (World.block_lt_of_cell? w _ hx157_7)).trans hx157_7
                      replace hx157_8 := (HB.out.cell (World.block_lt_of_cell? w _ hx157_8)).trans hx157_8
                      replace hx157_9 := (HB.out.cell (World.block_lt_of_cell? w _ hx157_9)).trans hx157_9
                      replace p157 := eq_true p157
                      replace q157 := eq_true q157
                      go_wp2
                      repeat (go_quiet (fail); try go_wp2)
                      go_meet
                      case rel => exact ⟨_, (true), (by first | rfl | exact congrArg (Value.int .i64) (i64_w _) | (simp; done) | (simp [*]; done)), H', ⟨by first | omega | exact Nat.le_refl _⟩, ⟨by (with_reducible repeat (first | refine blk_drewN ?_ _ | refine blk_drew ?_ | refine blk_alloc ?_ _)); exact BK154.out⟩, ⟨by (with_reducible repeat (first | refine blk_drewN ?_ _ | refine blk_drew ?_ | refine blk_alloc ?_ _)); exact BK156.out⟩, ⟨by repeat (first | (with_reducible first | exact HB.out | apply below_alloc | apply pw_below_drewN | apply below_drew1 | refine below_set ?_ GE154.out | refine below_set ?_ GE156.out) | exact HB.out)⟩⟩
                    · rw [if_neg c26] at H
                      have c26b0 : decide (((rd_T87 l0_0 a1).f2) < 1) = false := decide_eq_false c26
                      clear c26
                      by_cases c30 : ((rd_T87 l0_0 a1).f2) > 32
                      · rw [if_pos c30] at H
                        have c30b0 : decide (32 < ((rd_T87 l0_0 a1).f2)) = true := decide_eq_true c30
                        clear c30
                        have H' := Aside0.mk H
                        clear H
                        have hnb31 := NB156_154.out
                        have hnc31 := NB154_156.out
                        have hcz32_0 : w11.cell? ⟨gb156, 0, none⟩ = some (.int .i64 ((rd_T87 l0_0 a1).f0)) := (blk_cell BK156.out 0).trans rfl
                        have hcz32_1 : w11.cell? ⟨gb156, 1, none⟩ = some (.int .i64 ((rd_T87 l0_0 a1).f1)) := (blk_cell BK156.out 1).trans rfl
                        have hcz32_2 : w11.cell? ⟨gb156, 2, none⟩ = some (.int .i64 ((rd_T87 l0_0 a1).f2)) := (blk_cell BK156.out 2).trans rfl
                        have hcz32_3 : w11.cell? ⟨gb156, 3, none⟩ = some (.int .i64 ((rd_T87 l0_0 a1).f3)) := (blk_cell BK156.out 3).trans rfl
                        have hcz32_4 : w11.cell? ⟨gb156, 4, none⟩ = some (.int .i64 ((rd_T87 l0_0 a1).f4)) := (blk_cell BK156.out 4).trans rfl
                        have hcz32_5 : w11.cell? ⟨gb156, 5, none⟩ = some (.int .i64 ((rd_T87 l0_0 a1).f5)) := (blk_cell BK156.out 5).trans rfl
                        have hcz32_6 : w11.cell? ⟨gb156, 6, none⟩ = some (.int .i64 ((rd_T87 l0_0 a1).f6)) := (blk_cell BK156.out 6).trans rfl
                        have hcz32_7 : w11.cell? ⟨gb156, 7, none⟩ = some (.int .i64 ((rd_T87 l0_0 a1).f7)) := (blk_cell BK156.out 7).trans rfl
                        have hcz32_8 : w11.cell? ⟨gb156, 8, none⟩ = some (.int .i64 ((rd_T87 l0_0 a1).f8)) := (blk_cell BK156.out 8).trans rfl
                        have hcz32_9 : w11.cell? ⟨gb156, 9, none⟩ = some (.int .i64 ((rd_T87 l0_0 a1).f9)) := (blk_cell BK156.out 9).trans rfl
                        have hfz32_0 := blk_frozen BK156.out 0
                        have hfz32_1 := blk_frozen BK156.out 1
                        have hfz32_2 := blk_frozen BK156.out 2
                        have hfz32_3 := blk_frozen BK156.out 3
                        have hfz32_4 := blk_frozen BK156.out 4
                        have hfz32_5 := blk_frozen BK156.out 5
                        have hfz32_6 := blk_frozen BK156.out 6
                        have hfz32_7 := blk_frozen BK156.out 7
                        have hfz32_8 := blk_frozen BK156.out 8
                        have hfz32_9 := blk_frozen BK156.out 9
                        have hcz33_0 : w11.cell? ⟨gb154, 0, none⟩ = some (.slice (some ad155) l0_0.length c0_0) := (blk_cell BK154.out 0).trans rfl
                        have hfz33_0 := blk_frozen BK154.out 0
                        have p157 : 0 ≤ ((ji19) : Int) := of_decide_eq_true (by first | (with_reducible assumption) | assumption)
                        have q157 : (ji19) < (l0_0.length : Int) := of_decide_eq_true (by first | (with_reducible assumption) | assumption)
                        obtain ⟨ad157, e157, hx157_0, hx157_1, hx157_2, hx157_3, hx157_4, hx157_5, hx157_6, hx157_7, hx157_8, hx157_9⟩ := at_T87 HR0_0.out (ji19) p157 q157
                        obtain rfl : ad155 = ad157 := (by injection e157)
                        replace hx157_0 := (HB.out.cell (World.block_lt_of_cell? w _ hx157_0)).trans hx157_0
                        replace hx157_1 := (HB.out.cell (World.block_lt_of_cell? w _ hx157_1)).trans hx157_1
                        replace hx157_2 := (HB.out.cell (World.block_lt_of_cell? w _ hx157_2)).trans hx157_2
                        replace hx157_3 := (HB.out.cell (World.block_lt_of_cell? w _ hx157_3)).trans hx157_3
                        replace hx157_4 := (HB.out.cell (World.block_lt_of_cell? w _ hx157_4)).trans hx157_4
                        replace hx157_5 := (HB.out.cell (World.block_lt_of_cell? w _ hx157_5)).trans hx157_5
                        replace hx157_6 := (HB.out.cell (World.block_lt_of_cell? w _ hx157_6)).trans hx157_6
                        replace hx157_7 := (HB.out.cell (World.block_lt_of_cell? w _ hx157_7)).trans hx157_7
                        replace hx157_8 := (HB.out.cell (World.block_lt_of_cell? w _ hx157_8)).trans hx157_8
                        replace hx157_9 := (HB.out.cell (World.block_lt_of_cell? w _ hx157_9)).trans hx157_9
                        replace p157 := eq_true p157
                        replace q157 := eq_true q157
                        go_wp2
                        repeat (go_quiet (fail); try go_wp2)
                        go_meet
                        case rel => exact ⟨_, (true), (by first | rfl | exact congrArg (Value.int .i64) (i64_w _) | (simp; done) | (simp [*]; done)), H', ⟨by first | omega | exact Nat.le_refl _⟩, ⟨by (with_reducible repeat (first | refine blk_drewN ?_ _ | refine blk_drew ?_ | refine blk_alloc ?_ _)); exact BK154.out⟩, ⟨by (with_reducible repeat (first | refine blk_drewN ?_ _ | refine blk_drew ?_ | refine blk_alloc ?_ _)); exact BK156.out⟩, ⟨by repeat (first | (with_reducible first | exact HB.out | apply below_alloc | apply pw_below_drewN | apply below_drew1 | refine below_set ?_ GE154.out | refine below_set ?_ GE156.out) | exact HB.out)⟩⟩
                      · rw [if_neg c30] at H
                        have c30b0 : decide (32 < ((rd_T87 l0_0 a1).f2)) = false := decide_eq_false c30
                        clear c30
                        by_cases c34 : ((rd_T87 l0_0 a1).f3) < 0
                        · rw [if_pos c34] at H
                          have c34b0 : decide (((rd_T87 l0_0 a1).f3) < 0) = true := decide_eq_true c34
                          clear c34
                          have H' := Aside0.mk H
                          clear H
                          have hnb35 := NB156_154.out
                          have hnc35 := NB154_156.out
                          have hcz36_0 : w11.cell? ⟨gb156, 0, none⟩ = some (.int .i64 ((rd_T87 l0_0 a1).f0)) := (blk_cell BK156.out 0).trans rfl
                          have hcz36_1 : w11.cell? ⟨gb156, 1, none⟩ = some (.int .i64 ((rd_T87 l0_0 a1).f1)) := (blk_cell BK156.out 1).trans rfl
                          have hcz36_2 : w11.cell? ⟨gb156, 2, none⟩ = some (.int .i64 ((rd_T87 l0_0 a1).f2)) := (blk_cell BK156.out 2).trans rfl
                          have hcz36_3 : w11.cell? ⟨gb156, 3, none⟩ = some (.int .i64 ((rd_T87 l0_0 a1).f3)) := (blk_cell BK156.out 3).trans rfl
                          have hcz36_4 : w11.cell? ⟨gb156, 4, none⟩ = some (.int .i64 ((rd_T87 l0_0 a1).f4)) := (blk_cell BK156.out 4).trans rfl
                          have hcz36_5 : w11.cell? ⟨gb156, 5, none⟩ = some (.int .i64 ((rd_T87 l0_0 a1).f5)) := (blk_cell BK156.out 5).trans rfl
                          have hcz36_6 : w11.cell? ⟨gb156, 6, none⟩ = some (.int .i64 ((rd_T87 l0_0 a1).f6)) := (blk_cell BK156.out 6).trans rfl
                          have hcz36_7 : w11.cell? ⟨gb156, 7, none⟩ = some (.int .i64 ((rd_T87 l0_0 a1).f7)) := (blk_cell BK156.out 7).trans rfl
                          have hcz36_8 : w11.cell? ⟨gb156, 8, none⟩ = some (.int .i64 ((rd_T87 l0_0 a1).f8)) := (blk_cell BK156.out 8).trans rfl
                          have hcz36_9 : w11.cell? ⟨gb156, 9, none⟩ = some (.int .i64 ((rd_T87 l0_0 a1).f9)) := (blk_cell BK156.out 9).trans rfl
                          have hfz36_0 := blk_frozen BK156.out 0
                          have hfz36_1 := blk_frozen BK156.out 1
                          have hfz36_2 := blk_frozen BK156.out 2
                          have hfz36_3 := blk_frozen BK156.out 3
                          have hfz36_4 := blk_frozen BK156.out 4
                          have hfz36_5 := blk_frozen BK156.out 5
                          have hfz36_6 := blk_frozen BK156.out 6
                          have hfz36_7 := blk_frozen BK156.out 7
                          have hfz36_8 := blk_frozen BK156.out 8
                          have hfz36_9 := blk_frozen BK156.out 9
                          have hcz37_0 : w11.cell? ⟨gb154, 0, none⟩ = some (.slice (some ad155) l0_0.length c0_0) := (blk_cell BK154.out 0).trans rfl
                          have hfz37_0 := blk_frozen BK154.out 0
                          have p157 : 0 ≤ ((ji19) : Int) := of_decide_eq_true (by first | (with_reducible assumption) | assumption)
                          have q157 : (ji19) < (l0_0.length : Int) := of_decide_eq_true (by first | (with_reducible assumption) | assumption)
                          obtain ⟨ad157, e157, hx157_0, hx157_1, hx157_2, hx157_3, hx157_4, hx157_5, hx157_6, hx157_7, hx157_8, hx157_9⟩ := at_T87 HR0_0.out (ji19) p157 q157
                          obtain rfl : ad155 = ad157 := (by injection e157)
                          replace hx157_0 := (HB.out.cell (World.block_lt_of_cell? w _ hx157_0)).trans hx157_0
                          replace hx157_1 := (HB.out.cell (World.block_lt_of_cell? w _ hx157_1)).trans hx157_1
                          replace hx157_2 := (HB.out.cell (World.block_lt_of_cell? w _ hx157_2)).trans hx157_2
                          replace hx157_3 := (HB.out.cell (World.block_lt_of_cell? w _ hx157_3)).trans hx157_3
                          replace hx157_4 := (HB.out.cell (World.block_lt_of_cell? w _ hx157_4)).trans hx157_4
                          replace hx157_5 := (HB.out.cell (World.block_lt_of_cell? w _ hx157_5)).trans hx157_5
                          replace hx157_6 := (HB.out.cell (World.block_lt_of_cell? w _ hx157_6)).trans hx157_6
                          replace hx157_7 := (HB.out.cell (World.block_lt_of_cell? w _ hx157_7)).trans hx157_7
                          replace hx157_8 := (HB.out.cell (World.block_lt_of_cell? w _ hx157_8)).trans hx157_8
                          replace hx157_9 := (HB.out.cell (World.block_lt_of_cell? w _ hx157_9)).trans hx157_9
                          replace p157 := eq_true p157
                          replace q157 := eq_true q157
                          go_wp2
                          repeat (go_quiet (fail); try go_wp2)
                          go_meet
                          case rel => exact ⟨_, (true), (by first | rfl | exact congrArg (Value.int .i64) (i64_w _) | (simp; done) | (simp [*]; done)), H', ⟨by first | omega | exact Nat.le_refl _⟩, ⟨by (with_reducible repeat (first | refine blk_drewN ?_ _ | refine blk_drew ?_ | refine blk_alloc ?_ _)); exact BK154.out⟩, ⟨by (with_reducible repeat (first | refine blk_drewN ?_ _ | refine blk_drew ?_ | refine blk_alloc ?_ _)); exact BK156.out⟩, ⟨by repeat (first | (with_reducible first | exact HB.out | apply below_alloc | apply pw_below_drewN | apply below_drew1 | refine below_set ?_ GE154.out | refine below_set ?_ GE156.out) | exact HB.out)⟩⟩
                        · rw [if_neg c34] at H
                          have c34b0 : decide (((rd_T87 l0_0 a1).f3) < 0) = false := decide_eq_false c34
                          clear c34
                          have H' := Aside0.mk H
                          clear H
                          have hnb38 := NB156_154.out
                          have hnc38 := NB154_156.out
                          have hcz39_0 : w11.cell? ⟨gb156, 0, none⟩ = some (.int .i64 ((rd_T87 l0_0 a1).f0)) := (blk_cell BK156.out 0).trans rfl
                          have hcz39_1 : w11.cell? ⟨gb156, 1, none⟩ = some (.int .i64 ((rd_T87 l0_0 a1).f1)) := (blk_cell BK156.out 1).trans rfl
                          have hcz39_2 : w11.cell? ⟨gb156, 2, none⟩ = some (.int .i64 ((rd_T87 l0_0 a1).f2)) := (blk_cell BK156.out 2).trans rfl
                          have hcz39_3 : w11.cell? ⟨gb156, 3, none⟩ = some (.int .i64 ((rd_T87 l0_0 a1).f3)) := (blk_cell BK156.out 3).trans rfl
                          have hcz39_4 : w11.cell? ⟨gb156, 4, none⟩ = some (.int .i64 ((rd_T87 l0_0 a1).f4)) := (blk_cell BK156.out 4).trans rfl
                          have hcz39_5 : w11.cell? ⟨gb156, 5, none⟩ = some (.int .i64 ((rd_T87 l0_0 a1).f5)) := (blk_cell BK156.out 5).trans rfl
                          have hcz39_6 : w11.cell? ⟨gb156, 6, none⟩ = some (.int .i64 ((rd_T87 l0_0 a1).f6)) := (blk_cell BK156.out 6).trans rfl
                          have hcz39_7 : w11.cell? ⟨gb156, 7, none⟩ = some (.int .i64 ((rd_T87 l0_0 a1).f7)) := (blk_cell BK156.out 7).trans rfl
                          have hcz39_8 : w11.cell? ⟨gb156, 8, none⟩ = some (.int .i64 ((rd_T87 l0_0 a1).f8)) := (blk_cell BK156.out 8).trans rfl
                          have hcz39_9 : w11.cell? ⟨gb156, 9, none⟩ = some (.int .i64 ((rd_T87 l0_0 a1).f9)) := (blk_cell BK156.out 9).trans rfl
                          have hfz39_0 := blk_frozen BK156.out 0
                          have hfz39_1 := blk_frozen BK156.out 1
                          have hfz39_2 := blk_frozen BK156.out 2
                          have hfz39_3 := blk_frozen BK156.out 3
                          have hfz39_4 := blk_frozen BK156.out 4
                          have hfz39_5 := blk_frozen BK156.out 5
                          have hfz39_6 := blk_frozen BK156.out 6
                          have hfz39_7 := blk_frozen BK156.out 7
                          have hfz39_8 := blk_frozen BK156.out 8
                          have hfz39_9 := blk_frozen BK156.out 9
                          have hcz40_0 : w11.cell? ⟨gb154, 0, none⟩ = some (.slice (some ad155) l0_0.length c0_0) := (blk_cell BK154.out 0).trans rfl
                          have hfz40_0 := blk_frozen BK154.out 0
                          have p157 : 0 ≤ ((ji19) : Int) := of_decide_eq_true (by first | (with_reducible assumption) | assumption)
                          have q157 : (ji19) < (l0_0.length : Int) := of_decide_eq_true (by first | (with_reducible assumption) | assumption)
                          obtain ⟨ad157, e157, hx157_0, hx157_1, hx157_2, hx157_3, hx157_4, hx157_5, hx157_6, hx157_7, hx157_8, hx157_9⟩ := at_T87 HR0_0.out (ji19) p157 q157
                          obtain rfl : ad155 = ad157 := (by injection e157)
                          replace hx157_0 := (HB.out.cell (World.block_lt_of_cell? w _ hx157_0)).trans hx157_0
                          replace hx157_1 := (HB.out.cell (World.block_lt_of_cell? w _ hx157_1)).trans hx157_1
                          replace hx157_2 := (HB.out.cell (World.block_lt_of_cell? w _ hx157_2)).trans hx157_2
                          replace hx157_3 := (HB.out.cell (World.block_lt_of_cell? w _ hx157_3)).trans hx157_3
                          replace hx157_4 := (HB.out.cell (World.block_lt_of_cell? w _ hx157_4)).trans hx157_4
                          replace hx157_5 := (HB.out.cell (World.block_lt_of_cell? w _ hx157_5)).trans hx157_5
                          replace hx157_6 := (HB.out.cell (World.block_lt_of_cell? w _ hx157_6)).trans hx157_6
                          replace hx157_7 := (HB.out.cell (World.block_lt_of_cell? w _ hx157_7)).trans hx157_7
                          replace hx157_8 := (HB.out.cell (World.block_lt_of_cell? w _ hx157_8)).trans hx157_8
                          replace hx157_9 := (HB.out.cell (World.block_lt_of_cell? w _ hx157_9)).trans hx157_9
                          replace p157 := eq_true p157
                          replace q157 := eq_true q157
                          go_wp2
                          repeat (go_quiet (fail); try go_wp2)
                          go_meet
                          case rel => exact ⟨_, (decide (((rd_T87 l0_0 a1).f3) > 255)), (by first | rfl | exact congrArg (Value.int .i64) (i64_w _) | (simp; done) | (simp [*]; done)), H', ⟨by first | omega | exact Nat.le_refl _⟩, ⟨by (with_reducible repeat (first | refine blk_drewN ?_ _ | refine blk_drew ?_ | refine blk_alloc ?_ _)); exact BK154.out⟩, ⟨by (with_reducible repeat (first | refine blk_drewN ?_ _ | refine blk_drew ?_ | refine blk_alloc ?_ _)); exact BK156.out⟩, ⟨by repeat (first | (with_reducible first | exact HB.out | apply below_alloc | apply pw_below_drewN | apply below_drew1 | refine below_set ?_ GE154.out | refine below_set ?_ GE156.out) | exact HB.out)⟩⟩
                · rw [if_neg c21] at H
                  exact absurd H (by simp)
              · rw [if_neg c20] at H
                exact absurd H (by simp)
            · rw [if_neg c18] at H
              have c18b0 : decide (0 < a1) = false := decide_eq_false c18
              clear c18
              by_cases c41 : ((rd_T87 l0_0 a1).f2) < 1
              · rw [if_pos c41] at H
                have c41b0 : decide (((rd_T87 l0_0 a1).f2) < 1) = true := decide_eq_true c41
                clear c41
                have H' := Aside0.mk H
                clear H
                have hnb42 := NB156_154.out
                have hnc42 := NB154_156.out
                have hcz43_0 : w11.cell? ⟨gb156, 0, none⟩ = some (.int .i64 ((rd_T87 l0_0 a1).f0)) := (blk_cell BK156.out 0).trans rfl
                have hcz43_1 : w11.cell? ⟨gb156, 1, none⟩ = some (.int .i64 ((rd_T87 l0_0 a1).f1)) := (blk_cell BK156.out 1).trans rfl
                have hcz43_2 : w11.cell? ⟨gb156, 2, none⟩ = some (.int .i64 ((rd_T87 l0_0 a1).f2)) := (blk_cell BK156.out 2).trans rfl
                have hcz43_3 : w11.cell? ⟨gb156, 3, none⟩ = some (.int .i64 ((rd_T87 l0_0 a1).f3)) := (blk_cell BK156.out 3).trans rfl
                have hcz43_4 : w11.cell? ⟨gb156, 4, none⟩ = some (.int .i64 ((rd_T87 l0_0 a1).f4)) := (blk_cell BK156.out 4).trans rfl
                have hcz43_5 : w11.cell? ⟨gb156, 5, none⟩ = some (.int .i64 ((rd_T87 l0_0 a1).f5)) := (blk_cell BK156.out 5).trans rfl
                have hcz43_6 : w11.cell? ⟨gb156, 6, none⟩ = some (.int .i64 ((rd_T87 l0_0 a1).f6)) := (blk_cell BK156.out 6).trans rfl
                have hcz43_7 : w11.cell? ⟨gb156, 7, none⟩ = some (.int .i64 ((rd_T87 l0_0 a1).f7)) := (blk_cell BK156.out 7).trans rfl
                have hcz43_8 : w11.cell? ⟨gb156, 8, none⟩ = some (.int .i64 ((rd_T87 l0_0 a1).f8)) := (blk_cell BK156.out 8).trans rfl
                have hcz43_9 : w11.cell? ⟨gb156, 9, none⟩ = some (.int .i64 ((rd_T87 l0_0 a1).f9)) := (blk_cell BK156.out 9).trans rfl
                have hfz43_0 := blk_frozen BK156.out 0
                have hfz43_1 := blk_frozen BK156.out 1
                have hfz43_2 := blk_frozen BK156.out 2
                have hfz43_3 := blk_frozen BK156.out 3
                have hfz43_4 := blk_frozen BK156.out 4
                have hfz43_5 := blk_frozen BK156.out 5
                have hfz43_6 := blk_frozen BK156.out 6
                have hfz43_7 := blk_frozen BK156.out 7
                have hfz43_8 := blk_frozen BK156.out 8
                have hfz43_9 := blk_frozen BK156.out 9
                go_wp2
                repeat (go_quiet (fail); try go_wp2)
                go_meet
                case rel => exact ⟨_, (true), (by first | rfl | exact congrArg (Value.int .i64) (i64_w _) | (simp; done) | (simp [*]; done)), H', ⟨by first | omega | exact Nat.le_refl _⟩, ⟨by (with_reducible repeat (first | refine blk_drewN ?_ _ | refine blk_drew ?_ | refine blk_alloc ?_ _)); exact BK154.out⟩, ⟨by (with_reducible repeat (first | refine blk_drewN ?_ _ | refine blk_drew ?_ | refine blk_alloc ?_ _)); exact BK156.out⟩, ⟨by repeat (first | (with_reducible first | exact HB.out | apply below_alloc | apply pw_below_drewN | apply below_drew1 | refine below_set ?_ GE154.out | refine below_set ?_ GE156.out) | exact HB.out)⟩⟩
              · rw [if_neg c41] at H
                have c41b0 : decide (((rd_T87 l0_0 a1).f2) < 1) = false := decide_eq_false c41
                clear c41
                by_cases c44 : ((rd_T87 l0_0 a1).f2) > 32
                · rw [if_pos c44] at H
                  have c44b0 : decide (32 < ((rd_T87 l0_0 a1).f2)) = true := decide_eq_true c44
                  clear c44
                  have H' := Aside0.mk H
                  clear H
                  have hnb45 := NB156_154.out
                  have hnc45 := NB154_156.out
                  have hcz46_0 : w11.cell? ⟨gb156, 0, none⟩ = some (.int .i64 ((rd_T87 l0_0 a1).f0)) := (blk_cell BK156.out 0).trans rfl
                  have hcz46_1 : w11.cell? ⟨gb156, 1, none⟩ = some (.int .i64 ((rd_T87 l0_0 a1).f1)) := (blk_cell BK156.out 1).trans rfl
                  have hcz46_2 : w11.cell? ⟨gb156, 2, none⟩ = some (.int .i64 ((rd_T87 l0_0 a1).f2)) := (blk_cell BK156.out 2).trans rfl
                  have hcz46_3 : w11.cell? ⟨gb156, 3, none⟩ = some (.int .i64 ((rd_T87 l0_0 a1).f3)) := (blk_cell BK156.out 3).trans rfl
                  have hcz46_4 : w11.cell? ⟨gb156, 4, none⟩ = some (.int .i64 ((rd_T87 l0_0 a1).f4)) := (blk_cell BK156.out 4).trans rfl
                  have hcz46_5 : w11.cell? ⟨gb156, 5, none⟩ = some (.int .i64 ((rd_T87 l0_0 a1).f5)) := (blk_cell BK156.out 5).trans rfl
                  have hcz46_6 : w11.cell? ⟨gb156, 6, none⟩ = some (.int .i64 ((rd_T87 l0_0 a1).f6)) := (blk_cell BK156.out 6).trans rfl
                  have hcz46_7 : w11.cell? ⟨gb156, 7, none⟩ = some (.int .i64 ((rd_T87 l0_0 a1).f7)) := (blk_cell BK156.out 7).trans rfl
                  have hcz46_8 : w11.cell? ⟨gb156, 8, none⟩ = some (.int .i64 ((rd_T87 l0_0 a1).f8)) := (blk_cell BK156.out 8).trans rfl
                  have hcz46_9 : w11.cell? ⟨gb156, 9, none⟩ = some (.int .i64 ((rd_T87 l0_0 a1).f9)) := (blk_cell BK156.out 9).trans rfl
                  have hfz46_0 := blk_frozen BK156.out 0
                  have hfz46_1 := blk_frozen BK156.out 1
                  have hfz46_2 := blk_frozen BK156.out 2
                  have hfz46_3 := blk_frozen BK156.out 3
                  have hfz46_4 := blk_frozen BK156.out 4
                  have hfz46_5 := blk_frozen BK156.out 5
                  have hfz46_6 := blk_frozen BK156.out 6
                  have hfz46_7 := blk_frozen BK156.out 7
                  have hfz46_8 := blk_frozen BK156.out 8
                  have hfz46_9 := blk_frozen BK156.out 9
                  go_wp2
                  repeat (go_quiet (fail); try go_wp2)
                  go_meet
                  case rel => exact ⟨_, (true), (by first | rfl | exact congrArg (Value.int .i64) (i64_w _) | (simp; done) | (simp [*]; done)), H', ⟨by first | omega | exact Nat.le_refl _⟩, ⟨by (with_reducible repeat (first | refine blk_drewN ?_ _ | refine blk_drew ?_ | refine blk_alloc ?_ _)); exact BK154.out⟩, ⟨by (with_reducible repeat (first | refine blk_drewN ?_ _ | refine blk_drew ?_ | refine blk_alloc ?_ _)); exact BK156.out⟩, ⟨by repeat (first | (with_reducible first | exact HB.out | apply below_alloc | apply pw_below_drewN | apply below_drew1 | refine below_set ?_ GE154.out | refine below_set ?_ GE156.out) | exact HB.out)⟩⟩
                · rw [if_neg c44] at H
                  have c44b0 : decide (32 < ((rd_T87 l0_0 a1).f2)) = false := decide_eq_false c44
                  clear c44
                  by_cases c47 : ((rd_T87 l0_0 a1).f3) < 0
                  · rw [if_pos c47] at H
                    have c47b0 : decide (((rd_T87 l0_0 a1).f3) < 0) = true := decide_eq_true c47
                    clear c47
                    have H' := Aside0.mk H
                    clear H
                    have hnb48 := NB156_154.out
                    have hnc48 := NB154_156.out
                    have hcz49_0 : w11.cell? ⟨gb156, 0, none⟩ = some (.int .i64 ((rd_T87 l0_0 a1).f0)) := (blk_cell BK156.out 0).trans rfl
                    have hcz49_1 : w11.cell? ⟨gb156, 1, none⟩ = some (.int .i64 ((rd_T87 l0_0 a1).f1)) := (blk_cell BK156.out 1).trans rfl
                    have hcz49_2 : w11.cell? ⟨gb156, 2, none⟩ = some (.int .i64 ((rd_T87 l0_0 a1).f2)) := (blk_cell BK156.out 2).trans rfl
                    have hcz49_3 : w11.cell? ⟨gb156, 3, none⟩ = some (.int .i64 ((rd_T87 l0_0 a1).f3)) := (blk_cell BK156.out 3).trans rfl
                    have hcz49_4 : w11.cell? ⟨gb156, 4, none⟩ = some (.int .i64 ((rd_T87 l0_0 a1).f4)) := (blk_cell BK156.out 4).trans rfl
                    have hcz49_5 : w11.cell? ⟨gb156, 5, none⟩ = some (.int .i64 ((rd_T87 l0_0 a1).f5)) := (blk_cell BK156.out 5).trans rfl
                    have hcz49_6 : w11.cell? ⟨gb156, 6, none⟩ = some (.int .i64 ((rd_T87 l0_0 a1).f6)) := (blk_cell BK156.out 6).trans rfl
                    have hcz49_7 : w11.cell? ⟨gb156, 7, none⟩ = some (.int .i64 ((rd_T87 l0_0 a1).f7)) := (blk_cell BK156.out 7).trans rfl
                    have hcz49_8 : w11.cell? ⟨gb156, 8, none⟩ = some (.int .i64 ((rd_T87 l0_0 a1).f8)) := (blk_cell BK156.out 8).trans rfl
                    have hcz49_9 : w11.cell? ⟨gb156, 9, none⟩ = some (.int .i64 ((rd_T87 l0_0 a1).f9)) := (blk_cell BK156.out 9).trans rfl
                    have hfz49_0 := blk_frozen BK156.out 0
                    have hfz49_1 := blk_frozen BK156.out 1
                    have hfz49_2 := blk_frozen BK156.out 2
                    have hfz49_3 := blk_frozen BK156.out 3
                    have hfz49_4 := blk_frozen BK156.out 4
                    have hfz49_5 := blk_frozen BK156.out 5
                    have hfz49_6 := blk_frozen BK156.out 6
                    have hfz49_7 := blk_frozen BK156.out 7
                    have hfz49_8 := blk_frozen BK156.out 8
                    have hfz49_9 := blk_frozen BK156.out 9
                    go_wp2
                    repeat (go_quiet (fail); try go_wp2)
                    go_meet
                    case rel => exact ⟨_, (true), (by first | rfl | exact congrArg (Value.int .i64) (i64_w _) | (simp; done) | (simp [*]; done)), H', ⟨by first | omega | exact Nat.le_refl _⟩, ⟨by (with_reducible repeat (first | refine blk_drewN ?_ _ | refine blk_drew ?_ | refine blk_alloc ?_ _)); exact BK154.out⟩, ⟨by (with_reducible repeat (first | refine blk_drewN ?_ _ | refine blk_drew ?_ | refine blk_alloc ?_ _)); exact BK156.out⟩, ⟨by repeat (first | (with_reducible first | exact HB.out | apply below_alloc | apply pw_below_drewN | apply below_drew1 | refine below_set ?_ GE154.out | refine below_set ?_ GE156.out) | exact HB.out)⟩⟩
                  · rw [if_neg c47] at H
                    have c47b0 : decide (((rd_T87 l0_0 a1).f3) < 0) = false := decide_eq_false c47
                    clear c47
                    have H' := Aside0.mk H
                    clear H
                    have hnb50 := NB156_154.out
                    have hnc50 := NB154_156.out
                    have hcz51_0 : w11.cell? ⟨gb156, 0, none⟩ = some (.int .i64 ((rd_T87 l0_0 a1).f0)) := (blk_cell BK156.out 0).trans rfl
                    have hcz51_1 : w11.cell? ⟨gb156, 1, none⟩ = some (.int .i64 ((rd_T87 l0_0 a1).f1)) := (blk_cell BK156.out 1).trans rfl
                    have hcz51_2 : w11.cell? ⟨gb156, 2, none⟩ = some (.int .i64 ((rd_T87 l0_0 a1).f2)) := (blk_cell BK156.out 2).trans rfl
                    have hcz51_3 : w11.cell? ⟨gb156, 3, none⟩ = some (.int .i64 ((rd_T87 l0_0 a1).f3)) := (blk_cell BK156.out 3).trans rfl
                    have hcz51_4 : w11.cell? ⟨gb156, 4, none⟩ = some (.int .i64 ((rd_T87 l0_0 a1).f4)) := (blk_cell BK156.out 4).trans rfl
                    have hcz51_5 : w11.cell? ⟨gb156, 5, none⟩ = some (.int .i64 ((rd_T87 l0_0 a1).f5)) := (blk_cell BK156.out 5).trans rfl
                    have hcz51_6 : w11.cell? ⟨gb156, 6, none⟩ = some (.int .i64 ((rd_T87 l0_0 a1).f6)) := (blk_cell BK156.out 6).trans rfl
                    have hcz51_7 : w11.cell? ⟨gb156, 7, none⟩ = some (.int .i64 ((rd_T87 l0_0 a1).f7)) := (blk_cell BK156.out 7).trans rfl
                    have hcz51_8 : w11.cell? ⟨gb156, 8, none⟩ = some (.int .i64 ((rd_T87 l0_0 a1).f8)) := (blk_cell BK156.out 8).trans rfl
                    have hcz51_9 : w11.cell? ⟨gb156, 9, none⟩ = some (.int .i64 ((rd_T87 l0_0 a1).f9)) := (blk_cell BK156.out 9).trans rfl
                    have hfz51_0 := blk_frozen BK156.out 0
                    have hfz51_1 := blk_frozen BK156.out 1
                    have hfz51_2 := blk_frozen BK156.out 2
                    have hfz51_3 := blk_frozen BK156.out 3
                    have hfz51_4 := blk_frozen BK156.out 4
                    have hfz51_5 := blk_frozen BK156.out 5
                    have hfz51_6 := blk_frozen BK156.out 6
                    have hfz51_7 := blk_frozen BK156.out 7
                    have hfz51_8 := blk_frozen BK156.out 8
                    have hfz51_9 := blk_frozen BK156.out 9
                    go_wp2
                    repeat (go_quiet (fail); try go_wp2)
                    go_meet
                    case rel => exact ⟨_, (decide (((rd_T87 l0_0 a1).f3) > 255)), (by first | rfl | exact congrArg (Value.int .i64) (i64_w _) | (simp; done) | (simp [*]; done)), H', ⟨by first | omega | exact Nat.le_refl _⟩, ⟨by (with_reducible repeat (first | refine blk_drewN ?_ _ | refine blk_drew ?_ | refine blk_alloc ?_ _)); exact BK154.out⟩, ⟨by (with_reducible repeat (first | refine blk_drewN ?_ _ | refine blk_drew ?_ | refine blk_alloc ?_ _)); exact BK156.out⟩, ⟨by repeat (first | (with_reducible first | exact HB.out | apply below_alloc | apply pw_below_drewN | apply below_drew1 | refine below_set ?_ GE154.out | refine below_set ?_ GE156.out) | exact HB.out)⟩⟩
      case rest =>
        clear HC5
        try clear c1
        try clear p1
        try clear q1
        try clear hx1
        try clear c2
        try clear p2
        try clear c3
        try clear c3b0
        try clear c4
        try clear c4b0
        try clear c5
        try clear p6
        try clear c9
        try clear c12
        try clear c12b0
        try clear c13
        try clear c15
        try clear c15b0
        try clear p15
        try clear q15
        try clear hx15
        try clear c16
        try clear c18
        try clear c18b0
        try clear c20
        try clear c20b0
        try clear c21
        try clear c21b0
        try clear c22
        try clear c22b0
        try clear c23
        try clear c26
        try clear c26b0
        try clear c27
        try clear c30
        try clear c30b0
        try clear c31
        try clear c34
        try clear c34b0
        try clear c35
        try clear c38
        try clear c41
        try clear c41b0
        try clear c42
        try clear c44
        try clear c44b0
        try clear c45
        try clear c47
        try clear c47b0
        try clear c48
        try clear c50
        try clear hcz10_0
        try clear hcz10_1
        try clear hcz10_2
        try clear hcz10_3
        try clear hcz10_4
        try clear hcz10_5
        try clear hcz10_6
        try clear hcz10_7
        try clear hcz10_8
        try clear hcz10_9
        try clear hcz14_0
        try clear hcz14_1
        try clear hcz14_2
        try clear hcz14_3
        try clear hcz14_4
        try clear hcz14_5
        try clear hcz14_6
        try clear hcz14_7
        try clear hcz14_8
        try clear hcz14_9
        try clear hcz17_0
        try clear hcz17_1
        try clear hcz17_2
        try clear hcz17_3
        try clear hcz17_4
        try clear hcz17_5
        try clear hcz17_6
        try clear hcz17_7
        try clear hcz17_8
        try clear hcz17_9
        try clear hcz24_0
        try clear hcz24_1
        try clear hcz24_2
        try clear hcz24_3
        try clear hcz24_4
        try clear hcz24_5
        try clear hcz24_6
        try clear hcz24_7
        try clear hcz24_8
        try clear hcz24_9
        try clear hcz25_0
        try clear hcz28_0
        try clear hcz28_1
        try clear hcz28_2
        try clear hcz28_3
        try clear hcz28_4
        try clear hcz28_5
        try clear hcz28_6
        try clear hcz28_7
        try clear hcz28_8
        try clear hcz28_9
        try clear hcz29_0
        try clear hcz32_0
        try clear hcz32_1
        try clear hcz32_2
        try clear hcz32_3
        try clear hcz32_4
        try clear hcz32_5
        try clear hcz32_6
        try clear hcz32_7
        try clear hcz32_8
        try clear hcz32_9
        try clear hcz33_0
        try clear hcz36_0
        try clear hcz36_1
        try clear hcz36_2
        try clear hcz36_3
        try clear hcz36_4
        try clear hcz36_5
        try clear hcz36_6
        try clear hcz36_7
        try clear hcz36_8
        try clear hcz36_9
        try clear hcz37_0
        try clear hcz39_0
        try clear hcz39_1
        try clear hcz39_2
        try clear hcz39_3
        try clear hcz39_4
        try clear hcz39_5
        try clear hcz39_6
        try clear hcz39_7
        try clear hcz39_8
        try clear hcz39_9
        try clear hcz40_0
        try clear hcz43_0
        try clear hcz43_1
        try clear hcz43_2
        try clear hcz43_3
        try clear hcz43_4
        try clear hcz43_5
        try clear hcz43_6
        try clear hcz43_7
        try clear hcz43_8
        try clear hcz43_9
        try clear hcz46_0
        try clear hcz46_1
        try clear hcz46_2
        try clear hcz46_3
        try clear hcz46_4
        try clear hcz46_5
        try clear hcz46_6
        try clear hcz46_7
        try clear hcz46_8
        try clear hcz46_9
        try clear hcz49_0
        try clear hcz49_1
        try clear hcz49_2
        try clear hcz49_3
        try clear hcz49_4
        try clear hcz49_5
        try clear hcz49_6
        try clear hcz49_7
        try clear hcz49_8
        try clear hcz49_9
        try clear hcz51_0
        try clear hcz51_1
        try clear hcz51_2
        try clear hcz51_3
        try clear hcz51_4
        try clear hcz51_5
        try clear hcz51_6
        try clear hcz51_7
        try clear hcz51_8
        try clear hcz51_9
        try clear hcz7_0
        try clear hfz10_0
        try clear hfz10_1
        try clear hfz10_2
        try clear hfz10_3
        try clear hfz10_4
        try clear hfz10_5
        try clear hfz10_6
        try clear hfz10_7
        try clear hfz10_8
        try clear hfz10_9
        try clear hfz14_0
        try clear hfz14_1
        try clear hfz14_2
        try clear hfz14_3
        try clear hfz14_4
        try clear hfz14_5
        try clear hfz14_6
        try clear hfz14_7
        try clear hfz14_8
        try clear hfz14_9
        try clear hfz17_0
        try clear hfz17_1
        try clear hfz17_2
        try clear hfz17_3
        try clear hfz17_4
        try clear hfz17_5
        try clear hfz17_6
        try clear hfz17_7
        try clear hfz17_8
        try clear hfz17_9
        try clear hfz24_0
        try clear hfz24_1
        try clear hfz24_2
        try clear hfz24_3
        try clear hfz24_4
        try clear hfz24_5
        try clear hfz24_6
        try clear hfz24_7
        try clear hfz24_8
        try clear hfz24_9
        try clear hfz25_0
        try clear hfz28_0
        try clear hfz28_1
        try clear hfz28_2
        try clear hfz28_3
        try clear hfz28_4
        try clear hfz28_5
        try clear hfz28_6
        try clear hfz28_7
        try clear hfz28_8
        try clear hfz28_9
        try clear hfz29_0
        try clear hfz32_0
        try clear hfz32_1
        try clear hfz32_2
        try clear hfz32_3
        try clear hfz32_4
        try clear hfz32_5
        try clear hfz32_6
        try clear hfz32_7
        try clear hfz32_8
        try clear hfz32_9
        try clear hfz33_0
        try clear hfz36_0
        try clear hfz36_1
        try clear hfz36_2
        try clear hfz36_3
        try clear hfz36_4
        try clear hfz36_5
        try clear hfz36_6
        try clear hfz36_7
        try clear hfz36_8
        try clear hfz36_9
        try clear hfz37_0
        try clear hfz39_0
        try clear hfz39_1
        try clear hfz39_2
        try clear hfz39_3
        try clear hfz39_4
        try clear hfz39_5
        try clear hfz39_6
        try clear hfz39_7
        try clear hfz39_8
        try clear hfz39_9
        try clear hfz40_0
        try clear hfz43_0
        try clear hfz43_1
        try clear hfz43_2
        try clear hfz43_3
        try clear hfz43_4
        try clear hfz43_5
        try clear hfz43_6
        try clear hfz43_7
        try clear hfz43_8
        try clear hfz43_9
        try clear hfz46_0
        try clear hfz46_1
        try clear hfz46_2
        try clear hfz46_3
        try clear hfz46_4
        try clear hfz46_5
        try clear hfz46_6
        try clear hfz46_7
        try clear hfz46_8
        try clear hfz46_9
        try clear hfz49_0
        try clear hfz49_1
        try clear hfz49_2
        try clear hfz49_3
        try clear hfz49_4
        try clear hfz49_5
        try clear hfz49_6
        try clear hfz49_7
        try clear hfz49_8
        try clear hfz49_9
        try clear hfz51_0
        try clear hfz51_1
        try clear hfz51_2
        try clear hfz51_3
        try clear hfz51_4
        try clear hfz51_5
        try clear hfz51_6
        try clear hfz51_7
        try clear hfz51_8
        try clear hfz51_9
        try clear hfz7_0
        try clear hx155_0
        try clear hx155_1
        try clear hx155_2
        try clear hx155_3
        try clear hx155_4
        try clear hx155_5
        try clear hx155_6
        try clear hx155_7
        try clear hx155_8
        try clear hx155_9
        try clear hx157_0
        try clear hx157_1
        try clear hx157_2
        try clear hx157_3
        try clear hx157_4
        try clear hx157_5
        try clear hx157_6
        try clear hx157_7
        try clear hx157_8
        try clear hx157_9
        try clear p155
        try clear p157
        try clear q155
        try clear q157
        obtain ⟨kq, x55_4, rfl, HA, HJ4, BK154, BK156, HB⟩ := hcut
        cases kq with
        | zero => exact absurd HA.out (by simp [spec_l16One.j0])
        | succ kj4 =>
          have H := HA.out
          clear HA
          simp only [spec_l16One.j0] at H
          by_cases c52 : x55_4 = true
          · subst c52
            have H1 : (some false) = some r := by rw [if_pos rfl] at H; exact H
            clear H
            have H := H1
            clear H1
            obtain rfl := Option.some.inj H
            go_wp2
            repeat (go_quiet (fail); try go_wp2)
            go_ret
            exact ⟨by first | rfl | (simp [errW_none, errW_some] <;> rfl) | (simp [*, errW_none, errW_some] <;> rfl), by repeat (first | (with_reducible first | exact HB.out | apply below_alloc | apply pw_below_drewN | apply below_drew1 | refine below_set ?_ GE154.out | refine below_set ?_ GE156.out) | exact HB.out)⟩
          · replace c52 := Bool.eq_false_iff.mpr c52
            subst c52
            have H1 : (if ((rd_T87 l0_0 a1).f4) < 1 then (spec_l16One.j1 kj4 true ((rd_T87 l0_0 a1).f0) ((rd_T87 l0_0 a1).f1) ((rd_T87 l0_0 a1).f2) ((rd_T87 l0_0 a1).f3) ((rd_T87 l0_0 a1).f4) ((rd_T87 l0_0 a1).f5) ((rd_T87 l0_0 a1).f6) ((rd_T87 l0_0 a1).f7) ((rd_T87 l0_0 a1).f8) ((rd_T87 l0_0 a1).f9)) else (if ((rd_T87 l0_0 a1).f4) > 3 then (spec_l16One.j1 kj4 true ((rd_T87 l0_0 a1).f0) ((rd_T87 l0_0 a1).f1) ((rd_T87 l0_0 a1).f2) ((rd_T87 l0_0 a1).f3) ((rd_T87 l0_0 a1).f4) ((rd_T87 l0_0 a1).f5) ((rd_T87 l0_0 a1).f6) ((rd_T87 l0_0 a1).f7) ((rd_T87 l0_0 a1).f8) ((rd_T87 l0_0 a1).f9)) else (if ((rd_T87 l0_0 a1).f5) < 0 then (spec_l16One.j1 kj4 true ((rd_T87 l0_0 a1).f0) ((rd_T87 l0_0 a1).f1) ((rd_T87 l0_0 a1).f2) ((rd_T87 l0_0 a1).f3) ((rd_T87 l0_0 a1).f4) ((rd_T87 l0_0 a1).f5) ((rd_T87 l0_0 a1).f6) ((rd_T87 l0_0 a1).f7) ((rd_T87 l0_0 a1).f8) ((rd_T87 l0_0 a1).f9)) else (if ((rd_T87 l0_0 a1).f5) > 255 then (spec_l16One.j1 kj4 true ((rd_T87 l0_0 a1).f0) ((rd_T87 l0_0 a1).f1) ((rd_T87 l0_0 a1).f2) ((rd_T87 l0_0 a1).f3) ((rd_T87 l0_0 a1).f4) ((rd_T87 l0_0 a1).f5) ((rd_T87 l0_0 a1).f6) ((rd_T87 l0_0 a1).f7) ((rd_T87 l0_0 a1).f8) ((rd_T87 l0_0 a1).f9)) else (if ((rd_T87 l0_0 a1).f4) = 3 then (spec_l16One.j1 kj4 false ((rd_T87 l0_0 a1).f0) ((rd_T87 l0_0 a1).f1) ((rd_T87 l0_0 a1).f2) ((rd_T87 l0_0 a1).f3) ((rd_T87 l0_0 a1).f4) ((rd_T87 l0_0 a1).f5) ((rd_T87 l0_0 a1).f6) ((rd_T87 l0_0 a1).f7) ((rd_T87 l0_0 a1).f8) ((rd_T87 l0_0 a1).f9)) else (spec_l16One.j1 kj4 (((rd_T87 l0_0 a1).f5) != 0) ((rd_T87 l0_0 a1).f0) ((rd_T87 l0_0 a1).f1) ((rd_T87 l0_0 a1).f2) ((rd_T87 l0_0 a1).f3) ((rd_T87 l0_0 a1).f4) ((rd_T87 l0_0 a1).f5) ((rd_T87 l0_0 a1).f6) ((rd_T87 l0_0 a1).f7) ((rd_T87 l0_0 a1).f8) ((rd_T87 l0_0 a1).f9))))))) = some r := by rw [if_neg (show ¬ (false = true) by decide)] at H; exact H
            clear H
            have H := H1
            clear H1
            have HC53 := Aside0.mk H
            clear H
            go_upto_region 4 with (fail)
            repeat (go_quiet (fail); go_upto_region 4 with (fail))
            go_cut [83] (fun v83 wc => ∃ (kq : Nat) (x83_52 : Bool), v83 = .bool x83_52 ∧ Aside0 (spec_l16One.j1 kq x83_52 ((rd_T87 l0_0 a1).f0) ((rd_T87 l0_0 a1).f1) ((rd_T87 l0_0 a1).f2) ((rd_T87 l0_0 a1).f3) ((rd_T87 l0_0 a1).f4) ((rd_T87 l0_0 a1).f5) ((rd_T87 l0_0 a1).f6) ((rd_T87 l0_0 a1).f7) ((rd_T87 l0_0 a1).f8) ((rd_T87 l0_0 a1).f9) = some r) ∧ Aside0 (kq ≤ kj4) ∧ Aside0 (wc.heap[gb154]? = some (.cells #[(.slice (some ad155) l0_0.length c0_0)] 48 (0, 0))) ∧ Aside0 (wc.heap[gb156]? = some (.cells #[.int .i64 ((rd_T87 l0_0 a1).f0), .int .i64 ((rd_T87 l0_0 a1).f1), .int .i64 ((rd_T87 l0_0 a1).f2), .int .i64 ((rd_T87 l0_0 a1).f3), .int .i64 ((rd_T87 l0_0 a1).f4), .int .i64 ((rd_T87 l0_0 a1).f5), .int .i64 ((rd_T87 l0_0 a1).f6), .int .i64 ((rd_T87 l0_0 a1).f7), .int .i64 ((rd_T87 l0_0 a1).f8), .int .i64 ((rd_T87 l0_0 a1).f9)] 87 (0, 0))) ∧ Aside0 (Below w.heap.size w wc))
            case first =>
              have H := HC53.out
              clear HC53
              by_cases c54 : ((rd_T87 l0_0 a1).f4) < 1
              · rw [if_pos c54] at H
                have c54b0 : decide (((rd_T87 l0_0 a1).f4) < 1) = true := decide_eq_true c54
                clear c54
                (first | rw [c54b0] | (simp only [i64_w, i32_w]; rw [c54b0]) | skip)
                have H' := Aside0.mk H
                clear H
                have hnb55 := NB156_154.out
                have hnc55 := NB154_156.out
                have hcz56_0 : wc.cell? ⟨gb156, 0, none⟩ = some (.int .i64 ((rd_T87 l0_0 a1).f0)) := (blk_cell BK156.out 0).trans rfl
                have hcz56_1 : wc.cell? ⟨gb156, 1, none⟩ = some (.int .i64 ((rd_T87 l0_0 a1).f1)) := (blk_cell BK156.out 1).trans rfl
                have hcz56_2 : wc.cell? ⟨gb156, 2, none⟩ = some (.int .i64 ((rd_T87 l0_0 a1).f2)) := (blk_cell BK156.out 2).trans rfl
                have hcz56_3 : wc.cell? ⟨gb156, 3, none⟩ = some (.int .i64 ((rd_T87 l0_0 a1).f3)) := (blk_cell BK156.out 3).trans rfl
                have hcz56_4 : wc.cell? ⟨gb156, 4, none⟩ = some (.int .i64 ((rd_T87 l0_0 a1).f4)) := (blk_cell BK156.out 4).trans rfl
                have hcz56_5 : wc.cell? ⟨gb156, 5, none⟩ = some (.int .i64 ((rd_T87 l0_0 a1).f5)) := (blk_cell BK156.out 5).trans rfl
                have hcz56_6 : wc.cell? ⟨gb156, 6, none⟩ = some (.int .i64 ((rd_T87 l0_0 a1).f6)) := (blk_cell BK156.out 6).trans rfl
                have hcz56_7 : wc.cell? ⟨gb156, 7, none⟩ = some (.int .i64 ((rd_T87 l0_0 a1).f7)) := (blk_cell BK156.out 7).trans rfl
                have hcz56_8 : wc.cell? ⟨gb156, 8, none⟩ = some (.int .i64 ((rd_T87 l0_0 a1).f8)) := (blk_cell BK156.out 8).trans rfl
                have hcz56_9 : wc.cell? ⟨gb156, 9, none⟩ = some (.int .i64 ((rd_T87 l0_0 a1).f9)) := (blk_cell BK156.out 9).trans rfl
                have hfz56_0 := blk_frozen BK156.out 0
                have hfz56_1 := blk_frozen BK156.out 1
                have hfz56_2 := blk_frozen BK156.out 2
                have hfz56_3 := blk_frozen BK156.out 3
                have hfz56_4 := blk_frozen BK156.out 4
                have hfz56_5 := blk_frozen BK156.out 5
                have hfz56_6 := blk_frozen BK156.out 6
                have hfz56_7 := blk_frozen BK156.out 7
                have hfz56_8 := blk_frozen BK156.out 8
                have hfz56_9 := blk_frozen BK156.out 9
                go_wp2
                repeat (go_quiet (fail); try go_wp2)
                go_meet
                case rel => exact ⟨_, (true), (by first | rfl | exact congrArg (Value.int .i64) (i64_w _) | (simp; done) | (simp [*]; done)), H', ⟨by have := HJ4.out; first | omega | exact Nat.le_refl _⟩, ⟨by (with_reducible repeat (first | refine blk_drewN ?_ _ | refine blk_drew ?_ | refine blk_alloc ?_ _)); exact BK154.out⟩, ⟨by (with_reducible repeat (first | refine blk_drewN ?_ _ | refine blk_drew ?_ | refine blk_alloc ?_ _)); exact BK156.out⟩, ⟨by repeat (first | (with_reducible first | exact HB.out | apply below_alloc | apply pw_below_drewN | apply below_drew1 | refine below_set ?_ GE154.out | refine below_set ?_ GE156.out) | exact HB.out)⟩⟩
              · rw [if_neg c54] at H
                have c54b0 : decide (((rd_T87 l0_0 a1).f4) < 1) = false := decide_eq_false c54
                clear c54
                (first | rw [c54b0] | (simp only [i64_w, i32_w]; rw [c54b0]) | skip)
                by_cases c57 : ((rd_T87 l0_0 a1).f4) > 3
                · rw [if_pos c57] at H
                  have c57b0 : decide (3 < ((rd_T87 l0_0 a1).f4)) = true := decide_eq_true c57
                  clear c57
                  have H' := Aside0.mk H
                  clear H
                  have hnb58 := NB156_154.out
                  have hnc58 := NB154_156.out
                  have hcz59_0 : wc.cell? ⟨gb156, 0, none⟩ = some (.int .i64 ((rd_T87 l0_0 a1).f0)) := (blk_cell BK156.out 0).trans rfl
                  have hcz59_1 : wc.cell? ⟨gb156, 1, none⟩ = some (.int .i64 ((rd_T87 l0_0 a1).f1)) := (blk_cell BK156.out 1).trans rfl
                  have hcz59_2 : wc.cell? ⟨gb156, 2, none⟩ = some (.int .i64 ((rd_T87 l0_0 a1).f2)) := (blk_cell BK156.out 2).trans rfl
                  have hcz59_3 : wc.cell? ⟨gb156, 3, none⟩ = some (.int .i64 ((rd_T87 l0_0 a1).f3)) := (blk_cell BK156.out 3).trans rfl
                  have hcz59_4 : wc.cell? ⟨gb156, 4, none⟩ = some (.int .i64 ((rd_T87 l0_0 a1).f4)) := (blk_cell BK156.out 4).trans rfl
                  have hcz59_5 : wc.cell? ⟨gb156, 5, none⟩ = some (.int .i64 ((rd_T87 l0_0 a1).f5)) := (blk_cell BK156.out 5).trans rfl
                  have hcz59_6 : wc.cell? ⟨gb156, 6, none⟩ = some (.int .i64 ((rd_T87 l0_0 a1).f6)) := (blk_cell BK156.out 6).trans rfl
                  have hcz59_7 : wc.cell? ⟨gb156, 7, none⟩ = some (.int .i64 ((rd_T87 l0_0 a1).f7)) := (blk_cell BK156.out 7).trans rfl
                  have hcz59_8 : wc.cell? ⟨gb156, 8, none⟩ = some (.int .i64 ((rd_T87 l0_0 a1).f8)) := (blk_cell BK156.out 8).trans rfl
                  have hcz59_9 : wc.cell? ⟨gb156, 9, none⟩ = some (.int .i64 ((rd_T87 l0_0 a1).f9)) := (blk_cell BK156.out 9).trans rfl
                  have hfz59_0 := blk_frozen BK156.out 0
                  have hfz59_1 := blk_frozen BK156.out 1
                  have hfz59_2 := blk_frozen BK156.out 2
                  have hfz59_3 := blk_frozen BK156.out 3
                  have hfz59_4 := blk_frozen BK156.out 4
                  have hfz59_5 := blk_frozen BK156.out 5
                  have hfz59_6 := blk_frozen BK156.out 6
                  have hfz59_7 := blk_frozen BK156.out 7
                  have hfz59_8 := blk_frozen BK156.out 8
                  have hfz59_9 := blk_frozen BK156.out 9
                  go_wp2
                  repeat (go_quiet (fail); try go_wp2)
                  go_meet
                  case rel => exact ⟨_, (true), (by first | rfl | exact congrArg (Value.int .i64) (i64_w _) | (simp; done) | (simp [*]; done)), H', ⟨by have := HJ4.out; first | omega | exact Nat.le_refl _⟩, ⟨by (with_reducible repeat (first | refine blk_drewN ?_ _ | refine blk_drew ?_ | refine blk_alloc ?_ _)); exact BK154.out⟩, ⟨by (with_reducible repeat (first | refine blk_drewN ?_ _ | refine blk_drew ?_ | refine blk_alloc ?_ _)); exact BK156.out⟩, ⟨by repeat (first | (with_reducible first | exact HB.out | apply below_alloc | apply pw_below_drewN | apply below_drew1 | refine below_set ?_ GE154.out | refine below_set ?_ GE156.out) | exact HB.out)⟩⟩
                · rw [if_neg c57] at H
                  have c57b0 : decide (3 < ((rd_T87 l0_0 a1).f4)) = false := decide_eq_false c57
                  clear c57
                  by_cases c60 : ((rd_T87 l0_0 a1).f5) < 0
                  · rw [if_pos c60] at H
                    have c60b0 : decide (((rd_T87 l0_0 a1).f5) < 0) = true := decide_eq_true c60
                    clear c60
                    have H' := Aside0.mk H
                    clear H
                    have hnb61 := NB156_154.out
                    have hnc61 := NB154_156.out
                    have hcz62_0 : wc.cell? ⟨gb156, 0, none⟩ = some (.int .i64 ((rd_T87 l0_0 a1).f0)) := (blk_cell BK156.out 0).trans rfl
                    have hcz62_1 : wc.cell? ⟨gb156, 1, none⟩ = some (.int .i64 ((rd_T87 l0_0 a1).f1)) := (blk_cell BK156.out 1).trans rfl
                    have hcz62_2 : wc.cell? ⟨gb156, 2, none⟩ = some (.int .i64 ((rd_T87 l0_0 a1).f2)) := (blk_cell BK156.out 2).trans rfl
                    have hcz62_3 : wc.cell? ⟨gb156, 3, none⟩ = some (.int .i64 ((rd_T87 l0_0 a1).f3)) := (blk_cell BK156.out 3).trans rfl
                    have hcz62_4 : wc.cell? ⟨gb156, 4, none⟩ = some (.int .i64 ((rd_T87 l0_0 a1).f4)) := (blk_cell BK156.out 4).trans rfl
                    have hcz62_5 : wc.cell? ⟨gb156, 5, none⟩ = some (.int .i64 ((rd_T87 l0_0 a1).f5)) := (blk_cell BK156.out 5).trans rfl
                    have hcz62_6 : wc.cell? ⟨gb156, 6, none⟩ = some (.int .i64 ((rd_T87 l0_0 a1).f6)) := (blk_cell BK156.out 6).trans rfl
                    have hcz62_7 : wc.cell? ⟨gb156, 7, none⟩ = some (.int .i64 ((rd_T87 l0_0 a1).f7)) := (blk_cell BK156.out 7).trans rfl
                    have hcz62_8 : wc.cell? ⟨gb156, 8, none⟩ = some (.int .i64 ((rd_T87 l0_0 a1).f8)) := (blk_cell BK156.out 8).trans rfl
                    have hcz62_9 : wc.cell? ⟨gb156, 9, none⟩ = some (.int .i64 ((rd_T87 l0_0 a1).f9)) := (blk_cell BK156.out 9).trans rfl
                    have hfz62_0 := blk_frozen BK156.out 0
                    have hfz62_1 := blk_frozen BK156.out 1
                    have hfz62_2 := blk_frozen BK156.out 2
                    have hfz62_3 := blk_frozen BK156.out 3
                    have hfz62_4 := blk_frozen BK156.out 4
                    have hfz62_5 := blk_frozen BK156.out 5
                    have hfz62_6 := blk_frozen BK156.out 6
                    have hfz62_7 := blk_frozen BK156.out 7
                    have hfz62_8 := blk_frozen BK156.out 8
                    have hfz62_9 := blk_frozen BK156.out 9
                    go_wp2
                    repeat (go_quiet (fail); try go_wp2)
                    go_meet
                    case rel => exact ⟨_, (true), (by first | rfl | exact congrArg (Value.int .i64) (i64_w _) | (simp; done) | (simp [*]; done)), H', ⟨by have := HJ4.out; first | omega | exact Nat.le_refl _⟩, ⟨by (with_reducible repeat (first | refine blk_drewN ?_ _ | refine blk_drew ?_ | refine blk_alloc ?_ _)); exact BK154.out⟩, ⟨by (with_reducible repeat (first | refine blk_drewN ?_ _ | refine blk_drew ?_ | refine blk_alloc ?_ _)); exact BK156.out⟩, ⟨by repeat (first | (with_reducible first | exact HB.out | apply below_alloc | apply pw_below_drewN | apply below_drew1 | refine below_set ?_ GE154.out | refine below_set ?_ GE156.out) | exact HB.out)⟩⟩
                  · rw [if_neg c60] at H
                    have c60b0 : decide (((rd_T87 l0_0 a1).f5) < 0) = false := decide_eq_false c60
                    clear c60
                    by_cases c63 : ((rd_T87 l0_0 a1).f5) > 255
                    · rw [if_pos c63] at H
                      have c63b0 : decide (255 < ((rd_T87 l0_0 a1).f5)) = true := decide_eq_true c63
                      clear c63
                      have H' := Aside0.mk H
                      clear H
                      have hnb64 := NB156_154.out
                      have hnc64 := NB154_156.out
                      have hcz65_0 : wc.cell? ⟨gb156, 0, none⟩ = some (.int .i64 ((rd_T87 l0_0 a1).f0)) := (blk_cell BK156.out 0).trans rfl
                      have hcz65_1 : wc.cell? ⟨gb156, 1, none⟩ = some (.int .i64 ((rd_T87 l0_0 a1).f1)) := (blk_cell BK156.out 1).trans rfl
                      have hcz65_2 : wc.cell? ⟨gb156, 2, none⟩ = some (.int .i64 ((rd_T87 l0_0 a1).f2)) := (blk_cell BK156.out 2).trans rfl
                      have hcz65_3 : wc.cell? ⟨gb156, 3, none⟩ = some (.int .i64 ((rd_T87 l0_0 a1).f3)) := (blk_cell BK156.out 3).trans rfl
                      have hcz65_4 : wc.cell? ⟨gb156, 4, none⟩ = some (.int .i64 ((rd_T87 l0_0 a1).f4)) := (blk_cell BK156.out 4).trans rfl
                      have hcz65_5 : wc.cell? ⟨gb156, 5, none⟩ = some (.int .i64 ((rd_T87 l0_0 a1).f5)) := (blk_cell BK156.out 5).trans rfl
                      have hcz65_6 : wc.cell? ⟨gb156, 6, none⟩ = some (.int .i64 ((rd_T87 l0_0 a1).f6)) := (blk_cell BK156.out 6).trans rfl
                      have hcz65_7 : wc.cell? ⟨gb156, 7, none⟩ = some (.int .i64 ((rd_T87 l0_0 a1).f7)) := (blk_cell BK156.out 7).trans rfl
                      have hcz65_8 : wc.cell? ⟨gb156, 8, none⟩ = some (.int .i64 ((rd_T87 l0_0 a1).f8)) := (blk_cell BK156.out 8).trans rfl
                      have hcz65_9 : wc.cell? ⟨gb156, 9, none⟩ = some (.int .i64 ((rd_T87 l0_0 a1).f9)) := (blk_cell BK156.out 9).trans rfl
                      have hfz65_0 := blk_frozen BK156.out 0
                      have hfz65_1 := blk_frozen BK156.out 1
                      have hfz65_2 := blk_frozen BK156.out 2
                      have hfz65_3 := blk_frozen BK156.out 3
                      have hfz65_4 := blk_frozen BK156.out 4
                      have hfz65_5 := blk_frozen BK156.out 5
                      have hfz65_6 := blk_frozen BK156.out 6
                      have hfz65_7 := blk_frozen BK156.out 7
                      have hfz65_8 := blk_frozen BK156.out 8
                      have hfz65_9 := blk_frozen BK156.out 9
                      go_wp2
                      repeat (go_quiet (fail); try go_wp2)
                      go_meet
                      case rel => exact ⟨_, (true), (by first | rfl | exact congrArg (Value.int .i64) (i64_w _) | (simp; done) | (simp [*]; done)), H', ⟨by have := HJ4.out; first | omega | exact Nat.le_refl _⟩, ⟨by (with_reducible repeat (first | refine blk_drewN ?_ _ | refine blk_drew ?_ | refine blk_alloc ?_ _)); exact BK154.out⟩, ⟨by (with_reducible repeat (first | refine blk_drewN ?_ _ | refine blk_drew ?_ | refine blk_alloc ?_ _)); exact BK156.out⟩, ⟨by repeat (first | (with_reducible first | exact HB.out | apply below_alloc | apply pw_below_drewN | apply below_drew1 | refine below_set ?_ GE154.out | refine below_set ?_ GE156.out) | exact HB.out)⟩⟩
                    · rw [if_neg c63] at H
                      have c63b0 : decide (255 < ((rd_T87 l0_0 a1).f5)) = false := decide_eq_false c63
                      clear c63
                      by_cases c66 : ((rd_T87 l0_0 a1).f4) = 3
                      · rw [if_pos c66] at H
                        have c66b0 : (((rd_T87 l0_0 a1).f4) == 3) = true := beq_iff_eq.mpr c66
                        have c66b1 : (((rd_T87 l0_0 a1).f4) != 3) = false := bne_eq_false_iff_eq.mpr c66
                        clear c66
                        have H' := Aside0.mk H
                        clear H
                        have hnb67 := NB156_154.out
                        have hnc67 := NB154_156.out
                        have hcz68_0 : wc.cell? ⟨gb156, 0, none⟩ = some (.int .i64 ((rd_T87 l0_0 a1).f0)) := (blk_cell BK156.out 0).trans rfl
                        have hcz68_1 : wc.cell? ⟨gb156, 1, none⟩ = some (.int .i64 ((rd_T87 l0_0 a1).f1)) := (blk_cell BK156.out 1).trans rfl
                        have hcz68_2 : wc.cell? ⟨gb156, 2, none⟩ = some (.int .i64 ((rd_T87 l0_0 a1).f2)) := (blk_cell BK156.out 2).trans rfl
                        have hcz68_3 : wc.cell? ⟨gb156, 3, none⟩ = some (.int .i64 ((rd_T87 l0_0 a1).f3)) := (blk_cell BK156.out 3).trans rfl
                        have hcz68_4 : wc.cell? ⟨gb156, 4, none⟩ = some (.int .i64 ((rd_T87 l0_0 a1).f4)) := (blk_cell BK156.out 4).trans rfl
                        have hcz68_5 : wc.cell? ⟨gb156, 5, none⟩ = some (.int .i64 ((rd_T87 l0_0 a1).f5)) := (blk_cell BK156.out 5).trans rfl
                        have hcz68_6 : wc.cell? ⟨gb156, 6, none⟩ = some (.int .i64 ((rd_T87 l0_0 a1).f6)) := (blk_cell BK156.out 6).trans rfl
                        have hcz68_7 : wc.cell? ⟨gb156, 7, none⟩ = some (.int .i64 ((rd_T87 l0_0 a1).f7)) := (blk_cell BK156.out 7).trans rfl
                        have hcz68_8 : wc.cell? ⟨gb156, 8, none⟩ = some (.int .i64 ((rd_T87 l0_0 a1).f8)) := (blk_cell BK156.out 8).trans rfl
                        have hcz68_9 : wc.cell? ⟨gb156, 9, none⟩ = some (.int .i64 ((rd_T87 l0_0 a1).f9)) := (blk_cell BK156.out 9).trans rfl
                        have hfz68_0 := blk_frozen BK156.out 0
                        have hfz68_1 := blk_frozen BK156.out 1
                        have hfz68_2 := blk_frozen BK156.out 2
                        have hfz68_3 := blk_frozen BK156.out 3
                        have hfz68_4 := blk_frozen BK156.out 4
                        have hfz68_5 := blk_frozen BK156.out 5
                        have hfz68_6 := blk_frozen BK156.out 6
                        have hfz68_7 := blk_frozen BK156.out 7
                        have hfz68_8 := blk_frozen BK156.out 8
                        have hfz68_9 := blk_frozen BK156.out 9
                        go_wp2
                        repeat (go_quiet (fail); try go_wp2)
                        go_meet
                        case rel => exact ⟨_, (false), (by first | rfl | exact congrArg (Value.int .i64) (i64_w _) | (simp; done) | (simp [*]; done)), H', ⟨by have := HJ4.out; first | omega | exact Nat.le_refl _⟩, ⟨by (with_reducible repeat (first | refine blk_drewN ?_ _ | refine blk_drew ?_ | refine blk_alloc ?_ _)); exact BK154.out⟩, ⟨by (with_reducible repeat (first | refine blk_drewN ?_ _ | refine blk_drew ?_ | refine blk_alloc ?_ _)); exact BK156.out⟩, ⟨by repeat (first | (with_reducible first | exact HB.out | apply below_alloc | apply pw_below_drewN | apply below_drew1 | refine below_set ?_ GE154.out | refine below_set ?_ GE156.out) | exact HB.out)⟩⟩
                      · rw [if_neg c66] at H
                        have c66b0 : (((rd_T87 l0_0 a1).f4) == 3) = false := beq_eq_false_iff_ne.mpr c66
                        have c66b1 : (((rd_T87 l0_0 a1).f4) != 3) = true := bne_iff_ne.mpr c66
                        have H' := Aside0.mk H
                        clear H
                        have hnb69 := NB156_154.out
                        have hnc69 := NB154_156.out
                        have hcz70_0 : wc.cell? ⟨gb156, 0, none⟩ = some (.int .i64 ((rd_T87 l0_0 a1).f0)) := (blk_cell BK156.out 0).trans rfl
                        have hcz70_1 : wc.cell? ⟨gb156, 1, none⟩ = some (.int .i64 ((rd_T87 l0_0 a1).f1)) := (blk_cell BK156.out 1).trans rfl
                        have hcz70_2 : wc.cell? ⟨gb156, 2, none⟩ = some (.int .i64 ((rd_T87 l0_0 a1).f2)) := (blk_cell BK156.out 2).trans rfl
                        have hcz70_3 : wc.cell? ⟨gb156, 3, none⟩ = some (.int .i64 ((rd_T87 l0_0 a1).f3)) := (blk_cell BK156.out 3).trans rfl
                        have hcz70_4 : wc.cell? ⟨gb156, 4, none⟩ = some (.int .i64 ((rd_T87 l0_0 a1).f4)) := (blk_cell BK156.out 4).trans rfl
                        have hcz70_5 : wc.cell? ⟨gb156, 5, none⟩ = some (.int .i64 ((rd_T87 l0_0 a1).f5)) := (blk_cell BK156.out 5).trans rfl
                        have hcz70_6 : wc.cell? ⟨gb156, 6, none⟩ = some (.int .i64 ((rd_T87 l0_0 a1).f6)) := (blk_cell BK156.out 6).trans rfl
                        have hcz70_7 : wc.cell? ⟨gb156, 7, none⟩ = some (.int .i64 ((rd_T87 l0_0 a1).f7)) := (blk_cell BK156.out 7).trans rfl
                        have hcz70_8 : wc.cell? ⟨gb156, 8, none⟩ = some (.int .i64 ((rd_T87 l0_0 a1).f8)) := (blk_cell BK156.out 8).trans rfl
                        have hcz70_9 : wc.cell? ⟨gb156, 9, none⟩ = some (.int .i64 ((rd_T87 l0_0 a1).f9)) := (blk_cell BK156.out 9).trans rfl
                        have hfz70_0 := blk_frozen BK156.out 0
                        have hfz70_1 := blk_frozen BK156.out 1
                        have hfz70_2 := blk_frozen BK156.out 2
                        have hfz70_3 := blk_frozen BK156.out 3
                        have hfz70_4 := blk_frozen BK156.out 4
                        have hfz70_5 := blk_frozen BK156.out 5
                        have hfz70_6 := blk_frozen BK156.out 6
                        have hfz70_7 := blk_frozen BK156.out 7
                        have hfz70_8 := blk_frozen BK156.out 8
                        have hfz70_9 := blk_frozen BK156.out 9
                        go_wp2
                        repeat (go_quiet (fail); try go_wp2)
                        go_meet
                        case rel => exact ⟨_, ((((rd_T87 l0_0 a1).f5) != 0)), (by first | rfl | exact congrArg (Value.int .i64) (i64_w _) | (simp; done) | (simp [*]; done)), H', ⟨by have := HJ4.out; first | omega | exact Nat.le_refl _⟩, ⟨by (with_reducible repeat (first | refine blk_drewN ?_ _ | refine blk_drew ?_ | refine blk_alloc ?_ _)); exact BK154.out⟩, ⟨by (with_reducible repeat (first | refine blk_drewN ?_ _ | refine blk_drew ?_ | refine blk_alloc ?_ _)); exact BK156.out⟩, ⟨by repeat (first | (with_reducible first | exact HB.out | apply below_alloc | apply pw_below_drewN | apply below_drew1 | refine below_set ?_ GE154.out | refine below_set ?_ GE156.out) | exact HB.out)⟩⟩
            case rest =>
              clear HC53
              try clear c1
              try clear p1
              try clear q1
              try clear hx1
              try clear c2
              try clear p2
              try clear c3
              try clear c3b0
              try clear c4
              try clear c4b0
              try clear c5
              try clear c6
              try clear p6
              try clear c9
              try clear c12
              try clear c12b0
              try clear c13
              try clear c15
              try clear c15b0
              try clear p15
              try clear q15
              try clear hx15
              try clear c16
              try clear c18
              try clear c18b0
              try clear c20
              try clear c20b0
              try clear c21
              try clear c21b0
              try clear c22
              try clear c22b0
              try clear c23
              try clear c26
              try clear c26b0
              try clear c27
              try clear c30
              try clear c30b0
              try clear c31
              try clear c34
              try clear c34b0
              try clear c35
              try clear c38
              try clear c41
              try clear c41b0
              try clear c42
              try clear c44
              try clear c44b0
              try clear c45
              try clear c47
              try clear c47b0
              try clear c48
              try clear c50
              try clear c52
              try clear c54
              try clear c54b0
              try clear c55
              try clear c57
              try clear c57b0
              try clear c58
              try clear c60
              try clear c60b0
              try clear c61
              try clear c63
              try clear c63b0
              try clear c64
              try clear c66
              try clear c66b0
              try clear c66b1
              try clear c67
              try clear c69
              try clear hcz10_0
              try clear hcz10_1
              try clear hcz10_2
              try clear hcz10_3
              try clear hcz10_4
              try clear hcz10_5
              try clear hcz10_6
              try clear hcz10_7
              try clear hcz10_8
              try clear hcz10_9
              try clear hcz14_0
              try clear hcz14_1
              try clear hcz14_2
              try clear hcz14_3
              try clear hcz14_4
              try clear hcz14_5
              try clear hcz14_6
              try clear hcz14_7
              try clear hcz14_8
              try clear hcz14_9
              try clear hcz17_0
              try clear hcz17_1
              try clear hcz17_2
              try clear hcz17_3
              try clear hcz17_4
              try clear hcz17_5
              try clear hcz17_6
              try clear hcz17_7
              try clear hcz17_8
              try clear hcz17_9
              try clear hcz24_0
              try clear hcz24_1
              try clear hcz24_2
              try clear hcz24_3
              try clear hcz24_4
              try clear hcz24_5
              try clear hcz24_6
              try clear hcz24_7
              try clear hcz24_8
              try clear hcz24_9
              try clear hcz25_0
              try clear hcz28_0
              try clear hcz28_1
              try clear hcz28_2
              try clear hcz28_3
              try clear hcz28_4
              try clear hcz28_5
              try clear hcz28_6
              try clear hcz28_7
              try clear hcz28_8
              try clear hcz28_9
              try clear hcz29_0
              try clear hcz32_0
              try clear hcz32_1
              try clear hcz32_2
              try clear hcz32_3
              try clear hcz32_4
              try clear hcz32_5
              try clear hcz32_6
              try clear hcz32_7
              try clear hcz32_8
              try clear hcz32_9
              try clear hcz33_0
              try clear hcz36_0
              try clear hcz36_1
              try clear hcz36_2
              try clear hcz36_3
              try clear hcz36_4
              try clear hcz36_5
              try clear hcz36_6
              try clear hcz36_7
              try clear hcz36_8
              try clear hcz36_9
              try clear hcz37_0
              try clear hcz39_0
              try clear hcz39_1
              try clear hcz39_2
              try clear hcz39_3
              try clear hcz39_4
              try clear hcz39_5
              try clear hcz39_6
              try clear hcz39_7
              try clear hcz39_8
              try clear hcz39_9
              try clear hcz40_0
              try clear hcz43_0
              try clear hcz43_1
              try clear hcz43_2
              try clear hcz43_3
              try clear hcz43_4
              try clear hcz43_5
              try clear hcz43_6
              try clear hcz43_7
              try clear hcz43_8
              try clear hcz43_9
              try clear hcz46_0
              try clear hcz46_1
              try clear hcz46_2
              try clear hcz46_3
              try clear hcz46_4
              try clear hcz46_5
              try clear hcz46_6
              try clear hcz46_7
              try clear hcz46_8
              try clear hcz46_9
              try clear hcz49_0
              try clear hcz49_1
              try clear hcz49_2
              try clear hcz49_3
              try clear hcz49_4
              try clear hcz49_5
              try clear hcz49_6
              try clear hcz49_7
              try clear hcz49_8
              try clear hcz49_9
              try clear hcz51_0
              try clear hcz51_1
              try clear hcz51_2
              try clear hcz51_3
              try clear hcz51_4
              try clear hcz51_5
              try clear hcz51_6
              try clear hcz51_7
              try clear hcz51_8
              try clear hcz51_9
              try clear hcz56_0
              try clear hcz56_1
              try clear hcz56_2
              try clear hcz56_3
              try clear hcz56_4
              try clear hcz56_5
              try clear hcz56_6
              try clear hcz56_7
              try clear hcz56_8
              try clear hcz56_9
              try clear hcz59_0
              try clear hcz59_1
              try clear hcz59_2
              try clear hcz59_3
              try clear hcz59_4
              try clear hcz59_5
              try clear hcz59_6
              try clear hcz59_7
              try clear hcz59_8
              try clear hcz59_9
              try clear hcz62_0
              try clear hcz62_1
              try clear hcz62_2
              try clear hcz62_3
              try clear hcz62_4
              try clear hcz62_5
              try clear hcz62_6
              try clear hcz62_7
              try clear hcz62_8
              try clear hcz62_9
              try clear hcz65_0
              try clear hcz65_1
              try clear hcz65_2
              try clear hcz65_3
              try clear hcz65_4
              try clear hcz65_5
              try clear hcz65_6
              try clear hcz65_7
              try clear hcz65_8
              try clear hcz65_9
              try clear hcz68_0
              try clear hcz68_1
              try clear hcz68_2
              try clear hcz68_3
              try clear hcz68_4
              try clear hcz68_5
              try clear hcz68_6
              try clear hcz68_7
              try clear hcz68_8
              try clear hcz68_9
              try clear hcz70_0
              try clear hcz70_1
              try clear hcz70_2
              try clear hcz70_3
              try clear hcz70_4
              try clear hcz70_5
              try clear hcz70_6
              try clear hcz70_7
              try clear hcz70_8
              try clear hcz70_9
              try clear hcz7_0
              try clear hfz10_0
              try clear hfz10_1
              try clear hfz10_2
              try clear hfz10_3
              try clear hfz10_4
              try clear hfz10_5
              try clear hfz10_6
              try clear hfz10_7
              try clear hfz10_8
              try clear hfz10_9
              try clear hfz14_0
              try clear hfz14_1
              try clear hfz14_2
              try clear hfz14_3
              try clear hfz14_4
              try clear hfz14_5
              try clear hfz14_6
              try clear hfz14_7
              try clear hfz14_8
              try clear hfz14_9
              try clear hfz17_0
              try clear hfz17_1
              try clear hfz17_2
              try clear hfz17_3
              try clear hfz17_4
              try clear hfz17_5
              try clear hfz17_6
              try clear hfz17_7
              try clear hfz17_8
              try clear hfz17_9
              try clear hfz24_0
              try clear hfz24_1
              try clear hfz24_2
              try clear hfz24_3
              try clear hfz24_4
              try clear hfz24_5
              try clear hfz24_6
              try clear hfz24_7
              try clear hfz24_8
              try clear hfz24_9
              try clear hfz25_0
              try clear hfz28_0
              try clear hfz28_1
              try clear hfz28_2
              try clear hfz28_3
              try clear hfz28_4
              try clear hfz28_5
              try clear hfz28_6
              try clear hfz28_7
              try clear hfz28_8
              try clear hfz28_9
              try clear hfz29_0
              try clear hfz32_0
              try clear hfz32_1
              try clear hfz32_2
              try clear hfz32_3
              try clear hfz32_4
              try clear hfz32_5
              try clear hfz32_6
              try clear hfz32_7
              try clear hfz32_8
              try clear hfz32_9
              try clear hfz33_0
              try clear hfz36_0
              try clear hfz36_1
              try clear hfz36_2
              try clear hfz36_3
              try clear hfz36_4
              try clear hfz36_5
              try clear hfz36_6
              try clear hfz36_7
              try clear hfz36_8
              try clear hfz36_9
              try clear hfz37_0
              try clear hfz39_0
              try clear hfz39_1
              try clear hfz39_2
              try clear hfz39_3
              try clear hfz39_4
              try clear hfz39_5
              try clear hfz39_6
              try clear hfz39_7
              try clear hfz39_8
              try clear hfz39_9
              try clear hfz40_0
              try clear hfz43_0
              try clear hfz43_1
              try clear hfz43_2
              try clear hfz43_3
              try clear hfz43_4
              try clear hfz43_5
              try clear hfz43_6
              try clear hfz43_7
              try clear hfz43_8
              try clear hfz43_9
              try clear hfz46_0
              try clear hfz46_1
              try clear hfz46_2
              try clear hfz46_3
              try clear hfz46_4
              try clear hfz46_5
              try clear hfz46_6
              try clear hfz46_7
              try clear hfz46_8
              try clear hfz46_9
              try clear hfz49_0
              try clear hfz49_1
              try clear hfz49_2
              try clear hfz49_3
              try clear hfz49_4
              try clear hfz49_5
              try clear hfz49_6
              try clear hfz49_7
              try clear hfz49_8
              try clear hfz49_9
              try clear hfz51_0
              try clear hfz51_1
              try clear hfz51_2
              try clear hfz51_3
              try clear hfz51_4
              try clear hfz51_5
              try clear hfz51_6
              try clear hfz51_7
              try clear hfz51_8
              try clear hfz51_9
              try clear hfz56_0
              try clear hfz56_1
              try clear hfz56_2
              try clear hfz56_3
              try clear hfz56_4
              try clear hfz56_5
              try clear hfz56_6
              try clear hfz56_7
              try clear hfz56_8
              try clear hfz56_9
              try clear hfz59_0
              try clear hfz59_1
              try clear hfz59_2
              try clear hfz59_3
              try clear hfz59_4
              try clear hfz59_5
              try clear hfz59_6
              try clear hfz59_7
              try clear hfz59_8
              try clear hfz59_9
              try clear hfz62_0
              try clear hfz62_1
              try clear hfz62_2
              try clear hfz62_3
              try clear hfz62_4
              try clear hfz62_5
              try clear hfz62_6
              try clear hfz62_7
              try clear hfz62_8
              try clear hfz62_9
              try clear hfz65_0
              try clear hfz65_1
              try clear hfz65_2
              try clear hfz65_3
              try clear hfz65_4
              try clear hfz65_5
              try clear hfz65_6
              try clear hfz65_7
              try clear hfz65_8
              try clear hfz65_9
              try clear hfz68_0
              try clear hfz68_1
              try clear hfz68_2
              try clear hfz68_3
              try clear hfz68_4
              try clear hfz68_5
              try clear hfz68_6
              try clear hfz68_7
              try clear hfz68_8
              try clear hfz68_9
              try clear hfz70_0
              try clear hfz70_1
              try clear hfz70_2
              try clear hfz70_3
              try clear hfz70_4
              try clear hfz70_5
              try clear hfz70_6
              try clear hfz70_7
              try clear hfz70_8
              try clear hfz70_9
              try clear hfz7_0
              try clear hx155_0
              try clear hx155_1
              try clear hx155_2
              try clear hx155_3
              try clear hx155_4
              try clear hx155_5
              try clear hx155_6
              try clear hx155_7
              try clear hx155_8
              try clear hx155_9
              try clear hx157_0
              try clear hx157_1
              try clear hx157_2
              try clear hx157_3
              try clear hx157_4
              try clear hx157_5
              try clear hx157_6
              try clear hx157_7
              try clear hx157_8
              try clear hx157_9
              try clear p1
              try clear p15
              try clear p155
              try clear p157
              try clear p2
              try clear p6
              try clear q1
              try clear q15
              try clear q155
              try clear q157
              obtain ⟨kq, x83_52, rfl, HA, HJ52, BK154, BK156, HB⟩ := hcut
              cases kq with
              | zero => exact absurd HA.out (by simp [spec_l16One.j1])
              | succ kj52 =>
                have H := HA.out
                clear HA
                simp only [spec_l16One.j1] at H
                by_cases c71 : x83_52 = true
                · subst c71
                  have H1 : (some false) = some r := by rw [if_pos rfl] at H; exact H
                  clear H
                  have H := H1
                  clear H1
                  obtain rfl := Option.some.inj H
                  go_wp2
                  repeat (go_quiet (fail); try go_wp2)
                  go_ret
                  exact ⟨by first | rfl | (simp [errW_none, errW_some] <;> rfl) | (simp [*, errW_none, errW_some] <;> rfl), by repeat (first | (with_reducible first | exact HB.out | apply below_alloc | apply pw_below_drewN | apply below_drew1 | refine below_set ?_ GE154.out | refine below_set ?_ GE156.out) | exact HB.out)⟩
                · replace c71 := Bool.eq_false_iff.mpr c71
                  subst c71
                  have H1 : ((spec_l16Set.f kj52 ((rd_T87 l0_0 a1).f6)).bind fun t158 => (if t158 = true then ((spec_l16Soft.f kj52 ((rd_T87 l0_0 a1).f7)).bind fun t159 => (if t159 = true then ((spec_l16Soft.f kj52 ((rd_T87 l0_0 a1).f8)).bind fun t160 => (if t160 = true then ((spec_l16Soft.f kj52 ((rd_T87 l0_0 a1).f9)).bind fun t161 => (spec_l16One.j2 kj52 (!t161) ((rd_T87 l0_0 a1).f0) ((rd_T87 l0_0 a1).f1) ((rd_T87 l0_0 a1).f2) ((rd_T87 l0_0 a1).f3) ((rd_T87 l0_0 a1).f4) ((rd_T87 l0_0 a1).f5) ((rd_T87 l0_0 a1).f6) ((rd_T87 l0_0 a1).f7) ((rd_T87 l0_0 a1).f8) ((rd_T87 l0_0 a1).f9))) else (spec_l16One.j2 kj52 true ((rd_T87 l0_0 a1).f0) ((rd_T87 l0_0 a1).f1) ((rd_T87 l0_0 a1).f2) ((rd_T87 l0_0 a1).f3) ((rd_T87 l0_0 a1).f4) ((rd_T87 l0_0 a1).f5) ((rd_T87 l0_0 a1).f6) ((rd_T87 l0_0 a1).f7) ((rd_T87 l0_0 a1).f8) ((rd_T87 l0_0 a1).f9)))) else (spec_l16One.j2 kj52 true ((rd_T87 l0_0 a1).f0) ((rd_T87 l0_0 a1).f1) ((rd_T87 l0_0 a1).f2) ((rd_T87 l0_0 a1).f3) ((rd_T87 l0_0 a1).f4) ((rd_T87 l0_0 a1).f5) ((rd_T87 l0_0 a1).f6) ((rd_T87 l0_0 a1).f7) ((rd_T87 l0_0 a1).f8) ((rd_T87 l0_0 a1).f9)))) else (spec_l16One.j2 kj52 true ((rd_T87 l0_0 a1).f0) ((rd_T87 l0_0 a1).f1) ((rd_T87 l0_0 a1).f2) ((rd_T87 l0_0 a1).f3) ((rd_T87 l0_0 a1).f4) ((rd_T87 l0_0 a1).f5) ((rd_T87 l0_0 a1).f6) ((rd_T87 l0_0 a1).f7) ((rd_T87 l0_0 a1).f8) ((rd_T87 l0_0 a1).f9)))) = some r := by rw [if_neg (show ¬ (false = true) by decide)] at H; exact H
                  clear H
                  have H := H1
                  clear H1
                  have HC72 := Aside0.mk H
                  clear H
                  go_upto_region 6 with (fail)
                  repeat (go_quiet (fail); go_upto_region 6 with (fail))
                  go_cut [105] (fun v105 wc => ∃ (kq : Nat) (x105_71 : Bool), v105 = .bool x105_71 ∧ Aside0 (spec_l16One.j2 kq x105_71 ((rd_T87 l0_0 a1).f0) ((rd_T87 l0_0 a1).f1) ((rd_T87 l0_0 a1).f2) ((rd_T87 l0_0 a1).f3) ((rd_T87 l0_0 a1).f4) ((rd_T87 l0_0 a1).f5) ((rd_T87 l0_0 a1).f6) ((rd_T87 l0_0 a1).f7) ((rd_T87 l0_0 a1).f8) ((rd_T87 l0_0 a1).f9) = some r) ∧ Aside0 (kq ≤ kj52) ∧ Aside0 (wc.heap[gb154]? = some (.cells #[(.slice (some ad155) l0_0.length c0_0)] 48 (0, 0))) ∧ Aside0 (wc.heap[gb156]? = some (.cells #[.int .i64 ((rd_T87 l0_0 a1).f0), .int .i64 ((rd_T87 l0_0 a1).f1), .int .i64 ((rd_T87 l0_0 a1).f2), .int .i64 ((rd_T87 l0_0 a1).f3), .int .i64 ((rd_T87 l0_0 a1).f4), .int .i64 ((rd_T87 l0_0 a1).f5), .int .i64 ((rd_T87 l0_0 a1).f6), .int .i64 ((rd_T87 l0_0 a1).f7), .int .i64 ((rd_T87 l0_0 a1).f8), .int .i64 ((rd_T87 l0_0 a1).f9)] 87 (0, 0))) ∧ Aside0 (Below w.heap.size w wc))
                  case first =>
                    have H := HC72.out
                    clear HC72
                    replace H := Option.bind_eq_some_iff.mp H
                    obtain ⟨t158, A730, H⟩ := H
                    replace H : (if t158 = true then ((spec_l16Soft.f kj52 ((rd_T87 l0_0 a1).f7)).bind fun t159 => (if t159 = true then ((spec_l16Soft.f kj52 ((rd_T87 l0_0 a1).f8)).bind fun t160 => (if t160 = true then ((spec_l16Soft.f kj52 ((rd_T87 l0_0 a1).f9)).bind fun t161 => (spec_l16One.j2 kj52 (!t161) ((rd_T87 l0_0 a1).f0) ((rd_T87 l0_0 a1).f1) ((rd_T87 l0_0 a1).f2) ((rd_T87 l0_0 a1).f3) ((rd_T87 l0_0 a1).f4) ((rd_T87 l0_0 a1).f5) ((rd_T87 l0_0 a1).f6) ((rd_T87 l0_0 a1).f7) ((rd_T87 l0_0 a1).f8) ((rd_T87 l0_0 a1).f9))) else (spec_l16One.j2 kj52 true ((rd_T87 l0_0 a1).f0) ((rd_T87 l0_0 a1).f1) ((rd_T87 l0_0 a1).f2) ((rd_T87 l0_0 a1).f3) ((rd_T87 l0_0 a1).f4) ((rd_T87 l0_0 a1).f5) ((rd_T87 l0_0 a1).f6) ((rd_T87 l0_0 a1).f7) ((rd_T87 l0_0 a1).f8) ((rd_T87 l0_0 a1).f9)))) else (spec_l16One.j2 kj52 true ((rd_T87 l0_0 a1).f0) ((rd_T87 l0_0 a1).f1) ((rd_T87 l0_0 a1).f2) ((rd_T87 l0_0 a1).f3) ((rd_T87 l0_0 a1).f4) ((rd_T87 l0_0 a1).f5) ((rd_T87 l0_0 a1).f6) ((rd_T87 l0_0 a1).f7) ((rd_T87 l0_0 a1).f8) ((rd_T87 l0_0 a1).f9)))) else (spec_l16One.j2 kj52 true ((rd_T87 l0_0 a1).f0) ((rd_T87 l0_0 a1).f1) ((rd_T87 l0_0 a1).f2) ((rd_T87 l0_0 a1).f3) ((rd_T87 l0_0 a1).f4) ((rd_T87 l0_0 a1).f5) ((rd_T87 l0_0 a1).f6) ((rd_T87 l0_0 a1).f7) ((rd_T87 l0_0 a1).f8) ((rd_T87 l0_0 a1).f9))) = some r := H
                    have A73 := Aside0.mk A730
                    clear A730
                    by_cases c74 : t158 = true
                    · subst c74
                      have H1 : ((spec_l16Soft.f kj52 ((rd_T87 l0_0 a1).f7)).bind fun t159 => (if t159 = true then ((spec_l16Soft.f kj52 ((rd_T87 l0_0 a1).f8)).bind fun t160 => (if t160 = true then ((spec_l16Soft.f kj52 ((rd_T87 l0_0 a1).f9)).bind fun t161 => (spec_l16One.j2 kj52 (!t161) ((rd_T87 l0_0 a1).f0) ((rd_T87 l0_0 a1).f1) ((rd_T87 l0_0 a1).f2) ((rd_T87 l0_0 a1).f3) ((rd_T87 l0_0 a1).f4) ((rd_T87 l0_0 a1).f5) ((rd_T87 l0_0 a1).f6) ((rd_T87 l0_0 a1).f7) ((rd_T87 l0_0 a1).f8) ((rd_T87 l0_0 a1).f9))) else (spec_l16One.j2 kj52 true ((rd_T87 l0_0 a1).f0) ((rd_T87 l0_0 a1).f1) ((rd_T87 l0_0 a1).f2) ((rd_T87 l0_0 a1).f3) ((rd_T87 l0_0 a1).f4) ((rd_T87 l0_0 a1).f5) ((rd_T87 l0_0 a1).f6) ((rd_T87 l0_0 a1).f7) ((rd_T87 l0_0 a1).f8) ((rd_T87 l0_0 a1).f9)))) else (spec_l16One.j2 kj52 true ((rd_T87 l0_0 a1).f0) ((rd_T87 l0_0 a1).f1) ((rd_T87 l0_0 a1).f2) ((rd_T87 l0_0 a1).f3) ((rd_T87 l0_0 a1).f4) ((rd_T87 l0_0 a1).f5) ((rd_T87 l0_0 a1).f6) ((rd_T87 l0_0 a1).f7) ((rd_T87 l0_0 a1).f8) ((rd_T87 l0_0 a1).f9)))) = some r := by rw [if_pos rfl] at H; exact H
                      clear H
                      have H := H1
                      clear H1
                      replace H := Option.bind_eq_some_iff.mp H
                      obtain ⟨t159, A750, H⟩ := H
                      replace H : (if t159 = true then ((spec_l16Soft.f kj52 ((rd_T87 l0_0 a1).f8)).bind fun t160 => (if t160 = true then ((spec_l16Soft.f kj52 ((rd_T87 l0_0 a1).f9)).bind fun t161 => (spec_l16One.j2 kj52 (!t161) ((rd_T87 l0_0 a1).f0) ((rd_T87 l0_0 a1).f1) ((rd_T87 l0_0 a1).f2) ((rd_T87 l0_0 a1).f3) ((rd_T87 l0_0 a1).f4) ((rd_T87 l0_0 a1).f5) ((rd_T87 l0_0 a1).f6) ((rd_T87 l0_0 a1).f7) ((rd_T87 l0_0 a1).f8) ((rd_T87 l0_0 a1).f9))) else (spec_l16One.j2 kj52 true ((rd_T87 l0_0 a1).f0) ((rd_T87 l0_0 a1).f1) ((rd_T87 l0_0 a1).f2) ((rd_T87 l0_0 a1).f3) ((rd_T87 l0_0 a1).f4) ((rd_T87 l0_0 a1).f5) ((rd_T87 l0_0 a1).f6) ((rd_T87 l0_0 a1).f7) ((rd_T87 l0_0 a1).f8) ((rd_T87 l0_0 a1).f9)))) else (spec_l16One.j2 kj52 true ((rd_T87 l0_0 a1).f0) ((rd_T87 l0_0 a1).f1) ((rd_T87 l0_0 a1).f2) ((rd_T87 l0_0 a1).f3) ((rd_T87 l0_0 a1).f4) ((rd_T87 l0_0 a1).f5) ((rd_T87 l0_0 a1).f6) ((rd_T87 l0_0 a1).f7) ((rd_T87 l0_0 a1).f8) ((rd_T87 l0_0 a1).f9))) = some r := H
                      have A75 := Aside0.mk A750
                      clear A750
                      by_cases c76 : t159 = true
                      · subst c76
                        have H1 : ((spec_l16Soft.f kj52 ((rd_T87 l0_0 a1).f8)).bind fun t160 => (if t160 = true then ((spec_l16Soft.f kj52 ((rd_T87 l0_0 a1).f9)).bind fun t161 => (spec_l16One.j2 kj52 (!t161) ((rd_T87 l0_0 a1).f0) ((rd_T87 l0_0 a1).f1) ((rd_T87 l0_0 a1).f2) ((rd_T87 l0_0 a1).f3) ((rd_T87 l0_0 a1).f4) ((rd_T87 l0_0 a1).f5) ((rd_T87 l0_0 a1).f6) ((rd_T87 l0_0 a1).f7) ((rd_T87 l0_0 a1).f8) ((rd_T87 l0_0 a1).f9))) else (spec_l16One.j2 kj52 true ((rd_T87 l0_0 a1).f0) ((rd_T87 l0_0 a1).f1) ((rd_T87 l0_0 a1).f2) ((rd_T87 l0_0 a1).f3) ((rd_T87 l0_0 a1).f4) ((rd_T87 l0_0 a1).f5) ((rd_T87 l0_0 a1).f6) ((rd_T87 l0_0 a1).f7) ((rd_T87 l0_0 a1).f8) ((rd_T87 l0_0 a1).f9)))) = some r := by rw [if_pos rfl] at H; exact H
                        clear H
                        have H := H1
                        clear H1
                        replace H := Option.bind_eq_some_iff.mp H
                        obtain ⟨t160, A770, H⟩ := H
                        replace H : (if t160 = true then ((spec_l16Soft.f kj52 ((rd_T87 l0_0 a1).f9)).bind fun t161 => (spec_l16One.j2 kj52 (!t161) ((rd_T87 l0_0 a1).f0) ((rd_T87 l0_0 a1).f1) ((rd_T87 l0_0 a1).f2) ((rd_T87 l0_0 a1).f3) ((rd_T87 l0_0 a1).f4) ((rd_T87 l0_0 a1).f5) ((rd_T87 l0_0 a1).f6) ((rd_T87 l0_0 a1).f7) ((rd_T87 l0_0 a1).f8) ((rd_T87 l0_0 a1).f9))) else (spec_l16One.j2 kj52 true ((rd_T87 l0_0 a1).f0) ((rd_T87 l0_0 a1).f1) ((rd_T87 l0_0 a1).f2) ((rd_T87 l0_0 a1).f3) ((rd_T87 l0_0 a1).f4) ((rd_T87 l0_0 a1).f5) ((rd_T87 l0_0 a1).f6) ((rd_T87 l0_0 a1).f7) ((rd_T87 l0_0 a1).f8) ((rd_T87 l0_0 a1).f9))) = some r := H
                        have A77 := Aside0.mk A770
                        clear A770
                        by_cases c78 : t160 = true
                        · subst c78
                          have H1 : ((spec_l16Soft.f kj52 ((rd_T87 l0_0 a1).f9)).bind fun t161 => (spec_l16One.j2 kj52 (!t161) ((rd_T87 l0_0 a1).f0) ((rd_T87 l0_0 a1).f1) ((rd_T87 l0_0 a1).f2) ((rd_T87 l0_0 a1).f3) ((rd_T87 l0_0 a1).f4) ((rd_T87 l0_0 a1).f5) ((rd_T87 l0_0 a1).f6) ((rd_T87 l0_0 a1).f7) ((rd_T87 l0_0 a1).f8) ((rd_T87 l0_0 a1).f9))) = some r := by rw [if_pos rfl] at H; exact H
                          clear H
                          have H := H1
                          clear H1
                          replace H := Option.bind_eq_some_iff.mp H
                          obtain ⟨t161, A790, H⟩ := H
                          replace H : (spec_l16One.j2 kj52 (!t161) ((rd_T87 l0_0 a1).f0) ((rd_T87 l0_0 a1).f1) ((rd_T87 l0_0 a1).f2) ((rd_T87 l0_0 a1).f3) ((rd_T87 l0_0 a1).f4) ((rd_T87 l0_0 a1).f5) ((rd_T87 l0_0 a1).f6) ((rd_T87 l0_0 a1).f7) ((rd_T87 l0_0 a1).f8) ((rd_T87 l0_0 a1).f9)) = some r := H
                          have A79 := Aside0.mk A790
                          clear A790
                          have H' := Aside0.mk H
                          clear H
                          have hnb80 := NB156_154.out
                          have hnc80 := NB154_156.out
                          have hcz81_0 : wc.cell? ⟨gb156, 0, none⟩ = some (.int .i64 ((rd_T87 l0_0 a1).f0)) := (blk_cell BK156.out 0).trans rfl
                          have hcz81_1 : wc.cell? ⟨gb156, 1, none⟩ = some (.int .i64 ((rd_T87 l0_0 a1).f1)) := (blk_cell BK156.out 1).trans rfl
                          have hcz81_2 : wc.cell? ⟨gb156, 2, none⟩ = some (.int .i64 ((rd_T87 l0_0 a1).f2)) := (blk_cell BK156.out 2).trans rfl
                          have hcz81_3 : wc.cell? ⟨gb156, 3, none⟩ = some (.int .i64 ((rd_T87 l0_0 a1).f3)) := (blk_cell BK156.out 3).trans rfl
                          have hcz81_4 : wc.cell? ⟨gb156, 4, none⟩ = some (.int .i64 ((rd_T87 l0_0 a1).f4)) := (blk_cell BK156.out 4).trans rfl
                          have hcz81_5 : wc.cell? ⟨gb156, 5, none⟩ = some (.int .i64 ((rd_T87 l0_0 a1).f5)) := (blk_cell BK156.out 5).trans rfl
                          have hcz81_6 : wc.cell? ⟨gb156, 6, none⟩ = some (.int .i64 ((rd_T87 l0_0 a1).f6)) := (blk_cell BK156.out 6).trans rfl
                          have hcz81_7 : wc.cell? ⟨gb156, 7, none⟩ = some (.int .i64 ((rd_T87 l0_0 a1).f7)) := (blk_cell BK156.out 7).trans rfl
                          have hcz81_8 : wc.cell? ⟨gb156, 8, none⟩ = some (.int .i64 ((rd_T87 l0_0 a1).f8)) := (blk_cell BK156.out 8).trans rfl
                          have hcz81_9 : wc.cell? ⟨gb156, 9, none⟩ = some (.int .i64 ((rd_T87 l0_0 a1).f9)) := (blk_cell BK156.out 9).trans rfl
                          have hfz81_0 := blk_frozen BK156.out 0
                          have hfz81_1 := blk_frozen BK156.out 1
                          have hfz81_2 := blk_frozen BK156.out 2
                          have hfz81_3 := blk_frozen BK156.out 3
                          have hfz81_4 := blk_frozen BK156.out 4
                          have hfz81_5 := blk_frozen BK156.out 5
                          have hfz81_6 := blk_frozen BK156.out 6
                          have hfz81_7 := blk_frozen BK156.out 7
                          have hfz81_8 := blk_frozen BK156.out 8
                          have hfz81_9 := blk_frozen BK156.out 9
                          go_wp2_with (first | (go_at_call 69; (with_reducible refine (spec_l16Set.calls kj52 ((rd_T87 l0_0 a1).f6) true _ A73.out).mono ?_); rintro e w' ⟨rfl, ⟨nd, rfl⟩⟩; (try first | exact ⟨rfl, _, World.drewN_drewN _ _ _⟩ | exact ⟨rfl, _, Eq.trans (World.drewN_drewN _ _ _) (congrArg (World.drewN _) (Nat.add_assoc _ _ _))⟩)) | (go_at_call 70; (with_reducible refine (spec_l16Soft.calls kj52 ((rd_T87 l0_0 a1).f7) true _ A75.out).mono ?_); rintro e w' ⟨rfl, ⟨nd, rfl⟩⟩; (try first | exact ⟨rfl, _, World.drewN_drewN _ _ _⟩ | exact ⟨rfl, _, Eq.trans (World.drewN_drewN _ _ _) (congrArg (World.drewN _) (Nat.add_assoc _ _ _))⟩)) | (go_at_call 70; (with_reducible refine (spec_l16Soft.calls kj52 ((rd_T87 l0_0 a1).f8) true _ A77.out).mono ?_); rintro e w' ⟨rfl, ⟨nd, rfl⟩⟩; (try first | exact ⟨rfl, _, World.drewN_drewN _ _ _⟩ | exact ⟨rfl, _, Eq.trans (World.drewN_drewN _ _ _) (congrArg (World.drewN _) (Nat.add_assoc _ _ _))⟩)) | (go_at_call 70; (with_reducible refine (spec_l16Soft.calls kj52 ((rd_T87 l0_0 a1).f9) t161 _ A79.out).mono ?_); rintro e w' ⟨rfl, ⟨nd, rfl⟩⟩; (try first | exact ⟨rfl, _, World.drewN_drewN _ _ _⟩ | exact ⟨rfl, _, Eq.trans (World.drewN_drewN _ _ _) (congrArg (World.drewN _) (Nat.add_assoc _ _ _))⟩)))
                          repeat (go_quiet (first | (go_at_call 69; (with_reducible refine (spec_l16Set.calls kj52 ((rd_T87 l0_0 a1).f6) true _ A73.out).mono ?_); rintro e w' ⟨rfl, ⟨nd, rfl⟩⟩; (try first | exact ⟨rfl, _, World.drewN_drewN _ _ _⟩ | exact ⟨rfl, _, Eq.trans (World.drewN_drewN _ _ _) (congrArg (World.drewN _) (Nat.add_assoc _ _ _))⟩)) | (go_at_call 70; (with_reducible refine (spec_l16Soft.calls kj52 ((rd_T87 l0_0 a1).f7) true _ A75.out).mono ?_); rintro e w' ⟨rfl, ⟨nd, rfl⟩⟩; (try first | exact ⟨rfl, _, World.drewN_drewN _ _ _⟩ | exact ⟨rfl, _, Eq.trans (World.drewN_drewN _ _ _) (congrArg (World.drewN _) (Nat.add_assoc _ _ _))⟩)) | (go_at_call 70; (with_reducible refine (spec_l16Soft.calls kj52 ((rd_T87 l0_0 a1).f8) true _ A77.out).mono ?_); rintro e w' ⟨rfl, ⟨nd, rfl⟩⟩; (try first | exact ⟨rfl, _, World.drewN_drewN _ _ _⟩ | exact ⟨rfl, _, Eq.trans (World.drewN_drewN _ _ _) (congrArg (World.drewN _) (Nat.add_assoc _ _ _))⟩)) | (go_at_call 70; (with_reducible refine (spec_l16Soft.calls kj52 ((rd_T87 l0_0 a1).f9) t161 _ A79.out).mono ?_); rintro e w' ⟨rfl, ⟨nd, rfl⟩⟩; (try first | exact ⟨rfl, _, World.drewN_drewN _ _ _⟩ | exact ⟨rfl, _, Eq.trans (World.drewN_drewN _ _ _) (congrArg (World.drewN _) (Nat.add_assoc _ _ _))⟩))); try go_wp2_with (first | (go_at_call 69; (with_reducible refine (spec_l16Set.calls kj52 ((rd_T87 l0_0 a1).f6) true _ A73.out).mono ?_); rintro e w' ⟨rfl, ⟨nd, rfl⟩⟩; (try first | exact ⟨rfl, _, World.drewN_drewN _ _ _⟩ | exact ⟨rfl, _, Eq.trans (World.drewN_drewN _ _ _) (congrArg (World.drewN _) (Nat.add_assoc _ _ _))⟩)) | (go_at_call 70; (with_reducible refine (spec_l16Soft.calls kj52 ((rd_T87 l0_0 a1).f7) true _ A75.out).mono ?_); rintro e w' ⟨rfl, ⟨nd, rfl⟩⟩; (try first | exact ⟨rfl, _, World.drewN_drewN _ _ _⟩ | exact ⟨rfl, _, Eq.trans (World.drewN_drewN _ _ _) (congrArg (World.drewN _) (Nat.add_assoc _ _ _))⟩)) | (go_at_call 70; (with_reducible refine (spec_l16Soft.calls kj52 ((rd_T87 l0_0 a1).f8) true _ A77.out).mono ?_); rintro e w' ⟨rfl, ⟨nd, rfl⟩⟩; (try first | exact ⟨rfl, _, World.drewN_drewN _ _ _⟩ | exact ⟨rfl, _, Eq.trans (World.drewN_drewN _ _ _) (congrArg (World.drewN _) (Nat.add_assoc _ _ _))⟩)) | (go_at_call 70; (with_reducible refine (spec_l16Soft.calls kj52 ((rd_T87 l0_0 a1).f9) t161 _ A79.out).mono ?_); rintro e w' ⟨rfl, ⟨nd, rfl⟩⟩; (try first | exact ⟨rfl, _, World.drewN_drewN _ _ _⟩ | exact ⟨rfl, _, Eq.trans (World.drewN_drewN _ _ _) (congrArg (World.drewN _) (Nat.add_assoc _ _ _))⟩))))
                          go_meet
                          case rel => exact ⟨_, (!t161), (by first | rfl | exact congrArg (Value.int .i64) (i64_w _) | (simp; done) | (simp [*]; done)), H', ⟨by have := HJ4.out; have := HJ52.out; first | omega | exact Nat.le_refl _⟩, ⟨by (with_reducible repeat (first | refine blk_drewN ?_ _ | refine blk_drew ?_ | refine blk_alloc ?_ _)); exact BK154.out⟩, ⟨by (with_reducible repeat (first | refine blk_drewN ?_ _ | refine blk_drew ?_ | refine blk_alloc ?_ _)); exact BK156.out⟩, ⟨by repeat (first | (with_reducible first | exact HB.out | apply below_alloc | apply pw_below_drewN | apply below_drew1 | refine below_set ?_ GE154.out | refine below_set ?_ GE156.out) | exact HB.out)⟩⟩
                        · replace c78 := Bool.eq_false_iff.mpr c78
                          subst c78
                          have H1 : (spec_l16One.j2 kj52 true ((rd_T87 l0_0 a1).f0) ((rd_T87 l0_0 a1).f1) ((rd_T87 l0_0 a1).f2) ((rd_T87 l0_0 a1).f3) ((rd_T87 l0_0 a1).f4) ((rd_T87 l0_0 a1).f5) ((rd_T87 l0_0 a1).f6) ((rd_T87 l0_0 a1).f7) ((rd_T87 l0_0 a1).f8) ((rd_T87 l0_0 a1).f9)) = some r := by rw [if_neg (show ¬ (false = true) by decide)] at H; exact H
                          clear H
                          have H := H1
                          clear H1
                          have H' := Aside0.mk H
                          clear H
                          have hnb82 := NB156_154.out
                          have hnc82 := NB154_156.out
                          have hcz83_0 : wc.cell? ⟨gb156, 0, none⟩ = some (.int .i64 ((rd_T87 l0_0 a1).f0)) := (blk_cell BK156.out 0).trans rfl
                          have hcz83_1 : wc.cell? ⟨gb156, 1, none⟩ = some (.int .i64 ((rd_T87 l0_0 a1).f1)) := (blk_cell BK156.out 1).trans rfl
                          have hcz83_2 : wc.cell? ⟨gb156, 2, none⟩ = some (.int .i64 ((rd_T87 l0_0 a1).f2)) := (blk_cell BK156.out 2).trans rfl
                          have hcz83_3 : wc.cell? ⟨gb156, 3, none⟩ = some (.int .i64 ((rd_T87 l0_0 a1).f3)) := (blk_cell BK156.out 3).trans rfl
                          have hcz83_4 : wc.cell? ⟨gb156, 4, none⟩ = some (.int .i64 ((rd_T87 l0_0 a1).f4)) := (blk_cell BK156.out 4).trans rfl
                          have hcz83_5 : wc.cell? ⟨gb156, 5, none⟩ = some (.int .i64 ((rd_T87 l0_0 a1).f5)) := (blk_cell BK156.out 5).trans rfl
                          have hcz83_6 : wc.cell? ⟨gb156, 6, none⟩ = some (.int .i64 ((rd_T87 l0_0 a1).f6)) := (blk_cell BK156.out 6).trans rfl
                          have hcz83_7 : wc.cell? ⟨gb156, 7, none⟩ = some (.int .i64 ((rd_T87 l0_0 a1).f7)) := (blk_cell BK156.out 7).trans rfl
                          have hcz83_8 : wc.cell? ⟨gb156, 8, none⟩ = some (.int .i64 ((rd_T87 l0_0 a1).f8)) := (blk_cell BK156.out 8).trans rfl
                          have hcz83_9 : wc.cell? ⟨gb156, 9, none⟩ = some (.int .i64 ((rd_T87 l0_0 a1).f9)) := (blk_cell BK156.out 9).trans rfl
                          have hfz83_0 := blk_frozen BK156.out 0
                          have hfz83_1 := blk_frozen BK156.out 1
                          have hfz83_2 := blk_frozen BK156.out 2
                          have hfz83_3 := blk_frozen BK156.out 3
                          have hfz83_4 := blk_frozen BK156.out 4
                          have hfz83_5 := blk_frozen BK156.out 5
                          have hfz83_6 := blk_frozen BK156.out 6
                          have hfz83_7 := blk_frozen BK156.out 7
                          have hfz83_8 := blk_frozen BK156.out 8
                          have hfz83_9 := blk_frozen BK156.out 9
                          go_wp2_with (first | (go_at_call 69; (with_reducible refine (spec_l16Set.calls kj52 ((rd_T87 l0_0 a1).f6) true _ A73.out).mono ?_); rintro e w' ⟨rfl, ⟨nd, rfl⟩⟩; (try first | exact ⟨rfl, _, World.drewN_drewN _ _ _⟩ | exact ⟨rfl, _, Eq.trans (World.drewN_drewN _ _ _) (congrArg (World.drewN _) (Nat.add_assoc _ _ _))⟩)) | (go_at_call 70; (with_reducible refine (spec_l16Soft.calls kj52 ((rd_T87 l0_0 a1).f7) true _ A75.out).mono ?_); rintro e w' ⟨rfl, ⟨nd, rfl⟩⟩; (try first | exact ⟨rfl, _, World.drewN_drewN _ _ _⟩ | exact ⟨rfl, _, Eq.trans (World.drewN_drewN _ _ _) (congrArg (World.drewN _) (Nat.add_assoc _ _ _))⟩)) | (go_at_call 70; (with_reducible refine (spec_l16Soft.calls kj52 ((rd_T87 l0_0 a1).f8) false _ A77.out).mono ?_); rintro e w' ⟨rfl, ⟨nd, rfl⟩⟩; (try first | exact ⟨rfl, _, World.drewN_drewN _ _ _⟩ | exact ⟨rfl, _, Eq.trans (World.drewN_drewN _ _ _) (congrArg (World.drewN _) (Nat.add_assoc _ _ _))⟩)))
                          repeat (go_quiet (first | (go_at_call 69; (with_reducible refine (spec_l16Set.calls kj52 ((rd_T87 l0_0 a1).f6) true _ A73.out).mono ?_); rintro e w' ⟨rfl, ⟨nd, rfl⟩⟩; (try first | exact ⟨rfl, _, World.drewN_drewN _ _ _⟩ | exact ⟨rfl, _, Eq.trans (World.drewN_drewN _ _ _) (congrArg (World.drewN _) (Nat.add_assoc _ _ _))⟩)) | (go_at_call 70; (with_reducible refine (spec_l16Soft.calls kj52 ((rd_T87 l0_0 a1).f7) true _ A75.out).mono ?_); rintro e w' ⟨rfl, ⟨nd, rfl⟩⟩; (try first | exact ⟨rfl, _, World.drewN_drewN _ _ _⟩ | exact ⟨rfl, _, Eq.trans (World.drewN_drewN _ _ _) (congrArg (World.drewN _) (Nat.add_assoc _ _ _))⟩)) | (go_at_call 70; (with_reducible refine (spec_l16Soft.calls kj52 ((rd_T87 l0_0 a1).f8) false _ A77.out).mono ?_); rintro e w' ⟨rfl, ⟨nd, rfl⟩⟩; (try first | exact ⟨rfl, _, World.drewN_drewN _ _ _⟩ | exact ⟨rfl, _, Eq.trans (World.drewN_drewN _ _ _) (congrArg (World.drewN _) (Nat.add_assoc _ _ _))⟩))); try go_wp2_with (first | (go_at_call 69; (with_reducible refine (spec_l16Set.calls kj52 ((rd_T87 l0_0 a1).f6) true _ A73.out).mono ?_); rintro e w' ⟨rfl, ⟨nd, rfl⟩⟩; (try first | exact ⟨rfl, _, World.drewN_drewN _ _ _⟩ | exact ⟨rfl, _, Eq.trans (World.drewN_drewN _ _ _) (congrArg (World.drewN _) (Nat.add_assoc _ _ _))⟩)) | (go_at_call 70; (with_reducible refine (spec_l16Soft.calls kj52 ((rd_T87 l0_0 a1).f7) true _ A75.out).mono ?_); rintro e w' ⟨rfl, ⟨nd, rfl⟩⟩; (try first | exact ⟨rfl, _, World.drewN_drewN _ _ _⟩ | exact ⟨rfl, _, Eq.trans (World.drewN_drewN _ _ _) (congrArg (World.drewN _) (Nat.add_assoc _ _ _))⟩)) | (go_at_call 70; (with_reducible refine (spec_l16Soft.calls kj52 ((rd_T87 l0_0 a1).f8) false _ A77.out).mono ?_); rintro e w' ⟨rfl, ⟨nd, rfl⟩⟩; (try first | exact ⟨rfl, _, World.drewN_drewN _ _ _⟩ | exact ⟨rfl, _, Eq.trans (World.drewN_drewN _ _ _) (congrArg (World.drewN _) (Nat.add_assoc _ _ _))⟩))))
                          go_meet
                          case rel => exact ⟨_, (true), (by first | rfl | exact congrArg (Value.int .i64) (i64_w _) | (simp; done) | (simp [*]; done)), H', ⟨by have := HJ4.out; have := HJ52.out; first | omega | exact Nat.le_refl _⟩, ⟨by (with_reducible repeat (first | refine blk_drewN ?_ _ | refine blk_drew ?_ | refine blk_alloc ?_ _)); exact BK154.out⟩, ⟨by (with_reducible repeat (first | refine blk_drewN ?_ _ | refine blk_drew ?_ | refine blk_alloc ?_ _)); exact BK156.out⟩, ⟨by repeat (first | (with_reducible first | exact HB.out | apply below_alloc | apply pw_below_drewN | apply below_drew1 | refine below_set ?_ GE154.out | refine below_set ?_ GE156.out) | exact HB.out)⟩⟩
                      · replace c76 := Bool.eq_false_iff.mpr c76
                        subst c76
                        have H1 : (spec_l16One.j2 kj52 true ((rd_T87 l0_0 a1).f0) ((rd_T87 l0_0 a1).f1) ((rd_T87 l0_0 a1).f2) ((rd_T87 l0_0 a1).f3) ((rd_T87 l0_0 a1).f4) ((rd_T87 l0_0 a1).f5) ((rd_T87 l0_0 a1).f6) ((rd_T87 l0_0 a1).f7) ((rd_T87 l0_0 a1).f8) ((rd_T87 l0_0 a1).f9)) = some r := by rw [if_neg (show ¬ (false = true) by decide)] at H; exact H
                        clear H
                        have H := H1
                        clear H1
                        have H' := Aside0.mk H
                        clear H
                        have hnb84 := NB156_154.out
                        have hnc84 := NB154_156.out
                        have hcz85_0 : wc.cell? ⟨gb156, 0, none⟩ = some (.int .i64 ((rd_T87 l0_0 a1).f0)) := (blk_cell BK156.out 0).trans rfl
                        have hcz85_1 : wc.cell? ⟨gb156, 1, none⟩ = some (.int .i64 ((rd_T87 l0_0 a1).f1)) := (blk_cell BK156.out 1).trans rfl
                        have hcz85_2 : wc.cell? ⟨gb156, 2, none⟩ = some (.int .i64 ((rd_T87 l0_0 a1).f2)) := (blk_cell BK156.out 2).trans rfl
                        have hcz85_3 : wc.cell? ⟨gb156, 3, none⟩ = some (.int .i64 ((rd_T87 l0_0 a1).f3)) := (blk_cell BK156.out 3).trans rfl
                        have hcz85_4 : wc.cell? ⟨gb156, 4, none⟩ = some (.int .i64 ((rd_T87 l0_0 a1).f4)) := (blk_cell BK156.out 4).trans rfl
                        have hcz85_5 : wc.cell? ⟨gb156, 5, none⟩ = some (.int .i64 ((rd_T87 l0_0 a1).f5)) := (blk_cell BK156.out 5).trans rfl
                        have hcz85_6 : wc.cell? ⟨gb156, 6, none⟩ = some (.int .i64 ((rd_T87 l0_0 a1).f6)) := (blk_cell BK156.out 6).trans rfl
                        have hcz85_7 : wc.cell? ⟨gb156, 7, none⟩ = some (.int .i64 ((rd_T87 l0_0 a1).f7)) := (blk_cell BK156.out 7).trans rfl
                        have hcz85_8 : wc.cell? ⟨gb156, 8, none⟩ = some (.int .i64 ((rd_T87 l0_0 a1).f8)) := (blk_cell BK156.out 8).trans rfl
                        have hcz85_9 : wc.cell? ⟨gb156, 9, none⟩ = some (.int .i64 ((rd_T87 l0_0 a1).f9)) := (blk_cell BK156.out 9).trans rfl
                        have hfz85_0 := blk_frozen BK156.out 0
                        have hfz85_1 := blk_frozen BK156.out 1
                        have hfz85_2 := blk_frozen BK156.out 2
                        have hfz85_3 := blk_frozen BK156.out 3
                        have hfz85_4 := blk_frozen BK156.out 4
                        have hfz85_5 := blk_frozen BK156.out 5
                        have hfz85_6 := blk_frozen BK156.out 6
                        have hfz85_7 := blk_frozen BK156.out 7
                        have hfz85_8 := blk_frozen BK156.out 8
                        have hfz85_9 := blk_frozen BK156.out 9
                        go_wp2_with (first | (go_at_call 69; (with_reducible refine (spec_l16Set.calls kj52 ((rd_T87 l0_0 a1).f6) true _ A73.out).mono ?_); rintro e w' ⟨rfl, ⟨nd, rfl⟩⟩; (try first | exact ⟨rfl, _, World.drewN_drewN _ _ _⟩ | exact ⟨rfl, _, Eq.trans (World.drewN_drewN _ _ _) (congrArg (World.drewN _) (Nat.add_assoc _ _ _))⟩)) | (go_at_call 70; (with_reducible refine (spec_l16Soft.calls kj52 ((rd_T87 l0_0 a1).f7) false _ A75.out).mono ?_); rintro e w' ⟨rfl, ⟨nd, rfl⟩⟩; (try first | exact ⟨rfl, _, World.drewN_drewN _ _ _⟩ | exact ⟨rfl, _, Eq.trans (World.drewN_drewN _ _ _) (congrArg (World.drewN _) (Nat.add_assoc _ _ _))⟩)))
                        repeat (go_quiet (first | (go_at_call 69; (with_reducible refine (spec_l16Set.calls kj52 ((rd_T87 l0_0 a1).f6) true _ A73.out).mono ?_); rintro e w' ⟨rfl, ⟨nd, rfl⟩⟩; (try first | exact ⟨rfl, _, World.drewN_drewN _ _ _⟩ | exact ⟨rfl, _, Eq.trans (World.drewN_drewN _ _ _) (congrArg (World.drewN _) (Nat.add_assoc _ _ _))⟩)) | (go_at_call 70; (with_reducible refine (spec_l16Soft.calls kj52 ((rd_T87 l0_0 a1).f7) false _ A75.out).mono ?_); rintro e w' ⟨rfl, ⟨nd, rfl⟩⟩; (try first | exact ⟨rfl, _, World.drewN_drewN _ _ _⟩ | exact ⟨rfl, _, Eq.trans (World.drewN_drewN _ _ _) (congrArg (World.drewN _) (Nat.add_assoc _ _ _))⟩))); try go_wp2_with (first | (go_at_call 69; (with_reducible refine (spec_l16Set.calls kj52 ((rd_T87 l0_0 a1).f6) true _ A73.out).mono ?_); rintro e w' ⟨rfl, ⟨nd, rfl⟩⟩; (try first | exact ⟨rfl, _, World.drewN_drewN _ _ _⟩ | exact ⟨rfl, _, Eq.trans (World.drewN_drewN _ _ _) (congrArg (World.drewN _) (Nat.add_assoc _ _ _))⟩)) | (go_at_call 70; (with_reducible refine (spec_l16Soft.calls kj52 ((rd_T87 l0_0 a1).f7) false _ A75.out).mono ?_); rintro e w' ⟨rfl, ⟨nd, rfl⟩⟩; (try first | exact ⟨rfl, _, World.drewN_drewN _ _ _⟩ | exact ⟨rfl, _, Eq.trans (World.drewN_drewN _ _ _) (congrArg (World.drewN _) (Nat.add_assoc _ _ _))⟩))))
                        go_meet
                        case rel => exact ⟨_, (true), (by first | rfl | exact congrArg (Value.int .i64) (i64_w _) | (simp; done) | (simp [*]; done)), H', ⟨by have := HJ4.out; have := HJ52.out; first | omega | exact Nat.le_refl _⟩, ⟨by (with_reducible repeat (first | refine blk_drewN ?_ _ | refine blk_drew ?_ | refine blk_alloc ?_ _)); exact BK154.out⟩, ⟨by (with_reducible repeat (first | refine blk_drewN ?_ _ | refine blk_drew ?_ | refine blk_alloc ?_ _)); exact BK156.out⟩, ⟨by repeat (first | (with_reducible first | exact HB.out | apply below_alloc | apply pw_below_drewN | apply below_drew1 | refine below_set ?_ GE154.out | refine below_set ?_ GE156.out) | exact HB.out)⟩⟩
                    · replace c74 := Bool.eq_false_iff.mpr c74
                      subst c74
                      have H1 : (spec_l16One.j2 kj52 true ((rd_T87 l0_0 a1).f0) ((rd_T87 l0_0 a1).f1) ((rd_T87 l0_0 a1).f2) ((rd_T87 l0_0 a1).f3) ((rd_T87 l0_0 a1).f4) ((rd_T87 l0_0 a1).f5) ((rd_T87 l0_0 a1).f6) ((rd_T87 l0_0 a1).f7) ((rd_T87 l0_0 a1).f8) ((rd_T87 l0_0 a1).f9)) = some r := by rw [if_neg (show ¬ (false = true) by decide)] at H; exact H
                      clear H
                      have H := H1
                      clear H1
                      have H' := Aside0.mk H
                      clear H
                      have hnb86 := NB156_154.out
                      have hnc86 := NB154_156.out
                      have hcz87_0 : wc.cell? ⟨gb156, 0, none⟩ = some (.int .i64 ((rd_T87 l0_0 a1).f0)) := (blk_cell BK156.out 0).trans rfl
                      have hcz87_1 : wc.cell? ⟨gb156, 1, none⟩ = some (.int .i64 ((rd_T87 l0_0 a1).f1)) := (blk_cell BK156.out 1).trans rfl
                      have hcz87_2 : wc.cell? ⟨gb156, 2, none⟩ = some (.int .i64 ((rd_T87 l0_0 a1).f2)) := (blk_cell BK156.out 2).trans rfl
                      have hcz87_3 : wc.cell? ⟨gb156, 3, none⟩ = some (.int .i64 ((rd_T87 l0_0 a1).f3)) := (blk_cell BK156.out 3).trans rfl
                      have hcz87_4 : wc.cell? ⟨gb156, 4, none⟩ = some (.int .i64 ((rd_T87 l0_0 a1).f4)) := (blk_cell BK156.out 4).trans rfl
                      have hcz87_5 : wc.cell? ⟨gb156, 5, none⟩ = some (.int .i64 ((rd_T87 l0_0 a1).f5)) := (blk_cell BK156.out 5).trans rfl
                      have hcz87_6 : wc.cell? ⟨gb156, 6, none⟩ = some (.int .i64 ((rd_T87 l0_0 a1).f6)) := (blk_cell BK156.out 6).trans rfl
                      have hcz87_7 : wc.cell? ⟨gb156, 7, none⟩ = some (.int .i64 ((rd_T87 l0_0 a1).f7)) := (blk_cell BK156.out 7).trans rfl
                      have hcz87_8 : wc.cell? ⟨gb156, 8, none⟩ = some (.int .i64 ((rd_T87 l0_0 a1).f8)) := (blk_cell BK156.out 8).trans rfl
                      have hcz87_9 : wc.cell? ⟨gb156, 9, none⟩ = some (.int .i64 ((rd_T87 l0_0 a1).f9)) := (blk_cell BK156.out 9).trans rfl
                      have hfz87_0 := blk_frozen BK156.out 0
                      have hfz87_1 := blk_frozen BK156.out 1
                      have hfz87_2 := blk_frozen BK156.out 2
                      have hfz87_3 := blk_frozen BK156.out 3
                      have hfz87_4 := blk_frozen BK156.out 4
                      have hfz87_5 := blk_frozen BK156.out 5
                      have hfz87_6 := blk_frozen BK156.out 6
                      have hfz87_7 := blk_frozen BK156.out 7
                      have hfz87_8 := blk_frozen BK156.out 8
                      have hfz87_9 := blk_frozen BK156.out 9
                      go_wp2_with (first | (go_at_call 69; (with_reducible refine (spec_l16Set.calls kj52 ((rd_T87 l0_0 a1).f6) false _ A73.out).mono ?_); rintro e w' ⟨rfl, ⟨nd, rfl⟩⟩; (try first | exact ⟨rfl, _, World.drewN_drewN _ _ _⟩ | exact ⟨rfl, _, Eq.trans (World.drewN_drewN _ _ _) (congrArg (World.drewN _) (Nat.add_assoc _ _ _))⟩)))
                      repeat (go_quiet (first | (go_at_call 69; (with_reducible refine (spec_l16Set.calls kj52 ((rd_T87 l0_0 a1).f6) false _ A73.out).mono ?_); rintro e w' ⟨rfl, ⟨nd, rfl⟩⟩; (try first | exact ⟨rfl, _, World.drewN_drewN _ _ _⟩ | exact ⟨rfl, _, Eq.trans (World.drewN_drewN _ _ _) (congrArg (World.drewN _) (Nat.add_assoc _ _ _))⟩))); try go_wp2_with (first | (go_at_call 69; (with_reducible refine (spec_l16Set.calls kj52 ((rd_T87 l0_0 a1).f6) false _ A73.out).mono ?_); rintro e w' ⟨rfl, ⟨nd, rfl⟩⟩; (try first | exact ⟨rfl, _, World.drewN_drewN _ _ _⟩ | exact ⟨rfl, _, Eq.trans (World.drewN_drewN _ _ _) (congrArg (World.drewN _) (Nat.add_assoc _ _ _))⟩))))
                      go_meet
                      case rel => exact ⟨_, (true), (by first | rfl | exact congrArg (Value.int .i64) (i64_w _) | (simp; done) | (simp [*]; done)), H', ⟨by have := HJ4.out; have := HJ52.out; first | omega | exact Nat.le_refl _⟩, ⟨by (with_reducible repeat (first | refine blk_drewN ?_ _ | refine blk_drew ?_ | refine blk_alloc ?_ _)); exact BK154.out⟩, ⟨by (with_reducible repeat (first | refine blk_drewN ?_ _ | refine blk_drew ?_ | refine blk_alloc ?_ _)); exact BK156.out⟩, ⟨by repeat (first | (with_reducible first | exact HB.out | apply below_alloc | apply pw_below_drewN | apply below_drew1 | refine below_set ?_ GE154.out | refine below_set ?_ GE156.out) | exact HB.out)⟩⟩
                  case rest =>
                    clear HC72
                    try clear p1
                    try clear q1
                    try clear hx1
                    try clear p2
                    try clear p6
                    try clear c7
                    try clear c8
                    try clear p15
                    try clear q15
                    try clear hx15
                    try clear c71
                    try clear c74
                    try clear c76
                    try clear c78
                    try clear c80
                    try clear c82
                    try clear c84
                    try clear c86
                    try clear hcz10_4
                    try clear hcz10_5
                    try clear hcz10_6
                    try clear hcz10_7
                    try clear hcz10_8
                    try clear hcz10_9
                    try clear hcz14_0
                    try clear hcz14_1
                    try clear hcz14_2
                    try clear hcz14_3
                    try clear hcz14_4
                    try clear hcz14_5
                    try clear hcz14_6
                    try clear hcz14_7
                    try clear hcz14_8
                    try clear hcz14_9
                    try clear hcz17_0
                    try clear hcz17_1
                    try clear hcz17_2
                    try clear hcz17_3
                    try clear hcz17_4
                    try clear hcz17_5
                    try clear hcz17_6
                    try clear hcz17_7
                    try clear hcz17_8
                    try clear hcz17_9
                    try clear hcz24_0
                    try clear hcz24_1
                    try clear hcz24_2
                    try clear hcz24_3
                    try clear hcz24_4
                    try clear hcz24_5
                    try clear hcz24_6
                    try clear hcz24_7
                    try clear hcz24_8
                    try clear hcz24_9
                    try clear hcz25_0
                    try clear hcz28_0
                    try clear hcz28_1
                    try clear hcz28_2
                    try clear hcz28_3
                    try clear hcz28_4
                    try clear hcz28_5
                    try clear hcz28_6
                    try clear hcz28_7
                    try clear hcz28_8
                    try clear hcz28_9
                    try clear hcz29_0
                    try clear hcz32_0
                    try clear hcz32_1
                    try clear hcz32_2
                    try clear hcz32_3
                    try clear hcz32_4
                    try clear hcz32_5
                    try clear hcz32_6
                    try clear hcz32_7
                    try clear hcz32_8
                    try clear hcz32_9
                    try clear hcz33_0
                    try clear hcz36_0
                    try clear hcz36_1
                    try clear hcz36_2
                    try clear hcz36_3
                    try clear hcz36_4
                    try clear hcz36_5
                    try clear hcz36_6
                    try clear hcz36_7
                    try clear hcz36_8
                    try clear hcz36_9
                    try clear hcz37_0
                    try clear hcz39_0
                    try clear hcz39_1
                    try clear hcz39_2
                    try clear hcz39_3
                    try clear hcz39_4
                    try clear hcz39_5
                    try clear hcz39_6
                    try clear hcz39_7
                    try clear hcz39_8
                    try clear hcz39_9
                    try clear hcz40_0
                    try clear hcz43_0
                    try clear hcz43_1
                    try clear hcz43_2
                    try clear hcz43_3
                    try clear hcz43_4
                    try clear hcz43_5
                    try clear hcz43_6
                    try clear hcz43_7
                    try clear hcz43_8
                    try clear hcz43_9
                    try clear hcz46_0
                    try clear hcz46_1
                    try clear hcz46_2
                    try clear hcz46_3
                    try clear hcz46_4
                    try clear hcz46_5
                    try clear hcz46_6
                    try clear hcz46_7
                    try clear hcz46_8
                    try clear hcz46_9
                    try clear hcz49_0
                    try clear hcz49_1
                    try clear hcz49_2
                    try clear hcz49_3
                    try clear hcz49_4
                    try clear hcz49_5
                    try clear hcz49_6
                    try clear hcz49_7
                    try clear hcz49_8
                    try clear hcz49_9
                    try clear hcz51_0
                    try clear hcz51_1
                    try clear hcz51_2
                    try clear hcz51_3
                    try clear hcz51_4
                    try clear hcz51_5
                    try clear hcz51_6
                    try clear hcz51_7
                    try clear hcz51_8
                    try clear hcz51_9
                    try clear hcz56_0
                    try clear hcz56_1
                    try clear hcz56_2
                    try clear hcz56_3
                    try clear hcz56_4
                    try clear hcz56_5
                    try clear hcz56_6
                    try clear hcz56_7
                    try clear hcz56_8
                    try clear hcz56_9
                    try clear hcz59_0
                    try clear hcz59_1
                    try clear hcz59_2
                    try clear hcz59_3
                    try clear hcz59_4
                    try clear hcz59_5
                    try clear hcz59_6
                    try clear hcz59_7
                    try clear hcz59_8
                    try clear hcz59_9
                    try clear hcz62_0
                    try clear hcz62_1
                    try clear hcz62_2
                    try clear hcz62_3
                    try clear hcz62_4
                    try clear hcz62_5
                    try clear hcz62_6
                    try clear hcz62_7
                    try clear hcz62_8
                    try clear hcz62_9
                    try clear hcz65_0
                    try clear hcz65_1
                    try clear hcz65_2
                    try clear hcz65_3
                    try clear hcz65_4
                    try clear hcz65_5
                    try clear hcz65_6
                    try clear hcz65_7
                    try clear hcz65_8
                    try clear hcz65_9
                    try clear hcz68_0
                    try clear hcz68_1
                    try clear hcz68_2
                    try clear hcz68_3
                    try clear hcz68_4
                    try clear hcz68_5
                    try clear hcz68_6
                    try clear hcz68_7
                    try clear hcz68_8
                    try clear hcz68_9
                    try clear hcz70_0
                    try clear hcz70_1
                    try clear hcz70_2
                    try clear hcz70_3
                    try clear hcz70_4
                    try clear hcz70_5
                    try clear hcz70_6
                    try clear hcz70_7
                    try clear hcz70_8
                    try clear hcz70_9
                    try clear hcz7_0
                    try clear hcz81_0
                    try clear hcz81_1
                    try clear hcz81_2
                    try clear hcz81_3
                    try clear hcz81_4
                    try clear hcz81_5
                    try clear hcz81_6
                    try clear hcz81_7
                    try clear hcz81_8
                    try clear hcz81_9
                    try clear hcz83_0
                    try clear hcz83_1
                    try clear hcz83_2
                    try clear hcz83_3
                    try clear hcz83_4
                    try clear hcz83_5
                    try clear hcz83_6
                    try clear hcz83_7
                    try clear hcz83_8
                    try clear hcz83_9
                    try clear hcz85_0
                    try clear hcz85_1
                    try clear hcz85_2
                    try clear hcz85_3
                    try clear hcz85_4
                    try clear hcz85_5
                    try clear hcz85_6
                    try clear hcz85_7
                    try clear hcz85_8
                    try clear hcz85_9
                    try clear hcz87_0
                    try clear hcz87_1
                    try clear hcz87_2
                    try clear hcz87_3
                    try clear hcz87_4
                    try clear hcz87_5
                    try clear hcz87_6
                    try clear hcz87_7
                    try clear hcz87_8
                    try clear hcz87_9
                    try clear hfz10_0
                    try clear hfz10_1
                    try clear hfz10_2
                    try clear hfz10_3
                    try clear hfz10_4
                    try clear hfz10_5
                    try clear hfz10_6
                    try clear hfz10_7
                    try clear hfz10_8
                    try clear hfz10_9
                    try clear hfz14_0
                    try clear hfz14_1
                    try clear hfz14_2
                    try clear hfz14_3
                    try clear hfz14_4
                    try clear hfz14_5
                    try clear hfz14_6
                    try clear hfz14_7
                    try clear hfz14_8
                    try clear hfz14_9
                    try clear hfz17_0
                    try clear hfz17_1
                    try clear hfz17_2
                    try clear hfz17_3
                    try clear hfz17_4
                    try clear hfz17_5
                    try clear hfz17_6
                    try clear hfz17_7
                    try clear hfz17_8
                    try clear hfz17_9
                    try clear hfz24_0
                    try clear hfz24_1
                    try clear hfz24_2
                    try clear hfz24_3
                    try clear hfz24_4
                    try clear hfz24_5
                    try clear hfz24_6
                    try clear hfz24_7
                    try clear hfz24_8
                    try clear hfz24_9
                    try clear hfz25_0
                    try clear hfz28_0
                    try clear hfz28_1
                    try clear hfz28_2
                    try clear hfz28_3
                    try clear hfz28_4
                    try clear hfz28_5
                    try clear hfz28_6
                    try clear hfz28_7
                    try clear hfz28_8
                    try clear hfz28_9
                    try clear hfz29_0
                    try clear hfz32_0
                    try clear hfz32_1
                    try clear hfz32_2
                    try clear hfz32_3
                    try clear hfz32_4
                    try clear hfz32_5
                    try clear hfz32_6
                    try clear hfz32_7
                    try clear hfz32_8
                    try clear hfz32_9
                    try clear hfz33_0
                    try clear hfz36_0
                    try clear hfz36_1
                    try clear hfz36_2
                    try clear hfz36_3
                    try clear hfz36_4
                    try clear hfz36_5
                    try clear hfz36_6
                    try clear hfz36_7
                    try clear hfz36_8
                    try clear hfz36_9
                    try clear hfz37_0
                    try clear hfz39_0
                    try clear hfz39_1
                    try clear hfz39_2
                    try clear hfz39_3
                    try clear hfz39_4
                    try clear hfz39_5
                    try clear hfz39_6
                    try clear hfz39_7
                    try clear hfz39_8
                    try clear hfz39_9
                    try clear hfz40_0
                    try clear hfz43_0
                    try clear hfz43_1
                    try clear hfz43_2
                    try clear hfz43_3
                    try clear hfz43_4
                    try clear hfz43_5
                    try clear hfz43_6
                    try clear hfz43_7
                    try clear hfz43_8
                    try clear hfz43_9
                    try clear hfz46_0
                    try clear hfz46_1
                    try clear hfz46_2
                    try clear hfz46_3
                    try clear hfz46_4
                    try clear hfz46_5
                    try clear hfz46_6
                    try clear hfz46_7
                    try clear hfz46_8
                    try clear hfz46_9
                    try clear hfz49_0
                    try clear hfz49_1
                    try clear hfz49_2
                    try clear hfz49_3
                    try clear hfz49_4
                    try clear hfz49_5
                    try clear hfz49_6
                    try clear hfz49_7
                    try clear hfz49_8
                    try clear hfz49_9
                    try clear hfz51_0
                    try clear hfz51_1
                    try clear hfz51_2
                    try clear hfz51_3
                    try clear hfz51_4
                    try clear hfz51_5
                    try clear hfz51_6
                    try clear hfz51_7
                    try clear hfz51_8
                    try clear hfz51_9
                    try clear hfz56_0
                    try clear hfz56_1
                    try clear hfz56_2
                    try clear hfz56_3
                    try clear hfz56_4
                    try clear hfz56_5
                    try clear hfz56_6
                    try clear hfz56_7
                    try clear hfz56_8
                    try clear hfz56_9
                    try clear hfz59_0
                    try clear hfz59_1
                    try clear hfz59_2
                    try clear hfz59_3
                    try clear hfz59_4
                    try clear hfz59_5
                    try clear hfz59_6
                    try clear hfz59_7
                    try clear hfz59_8
                    try clear hfz59_9
                    try clear hfz62_0
                    try clear hfz62_1
                    try clear hfz62_2
                    try clear hfz62_3
                    try clear hfz62_4
                    try clear hfz62_5
                    try clear hfz62_6
                    try clear hfz62_7
                    try clear hfz62_8
                    try clear hfz62_9
                    try clear hfz65_0
                    try clear hfz65_1
                    try clear hfz65_2
                    try clear hfz65_3
                    try clear hfz65_4
                    try clear hfz65_5
                    try clear hfz65_6
                    try clear hfz65_7
                    try clear hfz65_8
                    try clear hfz65_9
                    try clear hfz68_0
                    try clear hfz68_1
                    try clear hfz68_2
                    try clear hfz68_3
                    try clear hfz68_4
                    try clear hfz68_5
                    try clear hfz68_6
                    try clear hfz68_7
                    try clear hfz68_8
                    try clear hfz68_9
                    try clear hfz70_0
                    try clear hfz70_1
                    try clear hfz70_2
                    try clear hfz70_3
                    try clear hfz70_4
                    try clear hfz70_5
                    try clear hfz70_6
                    try clear hfz70_7
                    try clear hfz70_8
                    try clear hfz70_9
                    try clear hfz7_0
                    try clear hfz81_0
                    try clear hfz81_1
                    try clear hfz81_2
                    try clear hfz81_3
                    try clear hfz81_4
                    try clear hfz81_5
                    try clear hfz81_6
                    try clear hfz81_7
                    try clear hfz81_8
                    try clear hfz81_9
                    try clear hfz83_0
                    try clear hfz83_1
                    try clear hfz83_2
                    try clear hfz83_3
                    try clear hfz83_4
                    try clear hfz83_5
                    try clear hfz83_6
                    try clear hfz83_7
                    try clear hfz83_8
                    try clear hfz83_9
                    try clear hfz85_0
                    try clear hfz85_1
                    try clear hfz85_2
                    try clear hfz85_3
                    try clear hfz85_4
                    try clear hfz85_5
                    try clear hfz85_6
                    try clear hfz85_7
                    try clear hfz85_8
                    try clear hfz85_9
                    try clear hfz87_0
                    try clear hfz87_1
                    try clear hfz87_2
                    try clear hfz87_3
                    try clear hfz87_4
                    try clear hfz87_5
                    try clear hfz87_6
                    try clear hfz87_7
                    try clear hfz87_8
                    try clear hfz87_9
                    try clear hx155_0
                    try clear hx155_1
                    try clear hx155_2
                    try clear hx155_3
                    try clear hx155_4
                    try clear hx155_5
                    try clear hx155_6
                    try clear hx155_7
                    try clear hx155_8
                    try clear hx155_9
                    try clear hx157_0
                    try clear hx157_1
                    try clear hx157_2
                    try clear hx157_3
                    try clear hx157_4
                    try clear hx157_5
                    try clear hx157_6
                    try clear hx157_7
                    try clear hx157_8
                    try clear hx157_9
                    try clear p1
                    try clear p15
                    try clear p155
                    try clear p157
                    try clear p2
                    try clear p6
                    try clear q1
                    try clear q15
                    try clear q155
                    try clear q157
                    obtain ⟨kq, x105_71, rfl, HA, HJ71, BK154, BK156, HB⟩ := hcut
                    cases kq with
                    | zero => exact absurd HA.out (by simp [spec_l16One.j2])
                    | succ kj71 =>
                      have H := HA.out
                      clear HA
                      simp only [spec_l16One.j2] at H
                      by_cases c88 : x105_71 = true
                      · subst c88
                        have H1 : (some false) = some r := by rw [if_pos rfl] at H; exact H
                        clear H
                        have H := H1
                        clear H1
                        obtain rfl := Option.some.inj H
                        go_wp2
                        repeat (go_quiet (fail); try go_wp2)
                        go_ret
                        exact ⟨by first | rfl | (simp [errW_none, errW_some] <;> rfl) | (simp [*, errW_none, errW_some] <;> rfl), by repeat (first | (with_reducible first | exact HB.out | apply below_alloc | apply pw_below_drewN | apply below_drew1 | refine below_set ?_ GE154.out | refine below_set ?_ GE156.out) | exact HB.out)⟩
                      · replace c88 := Bool.eq_false_iff.mpr c88
                        subst c88
                        have H1 : (spec_l16One.l0 kj71 1 ((rd_T87 l0_0 a1).f0) ((rd_T87 l0_0 a1).f1) ((rd_T87 l0_0 a1).f2) ((rd_T87 l0_0 a1).f3) ((rd_T87 l0_0 a1).f4) ((rd_T87 l0_0 a1).f5) ((rd_T87 l0_0 a1).f6) ((rd_T87 l0_0 a1).f7) ((rd_T87 l0_0 a1).f8) ((rd_T87 l0_0 a1).f9)) = some r := by rw [if_neg (show ¬ (false = true) by decide)] at H; exact H
                        clear H
                        have H := H1
                        clear H1
                        have H' := Aside0.mk H
                        clear H
                        go_wp2
                        repeat (go_quiet (fail); try go_wp2)
                        go_loopg [6] kj71 (fun kq v6 w' => ∃ (x6_4 : Int), v6 = .int .i64 x6_4 ∧ Aside0 (spec_l16One.l0 kq x6_4 ((rd_T87 l0_0 a1).f0) ((rd_T87 l0_0 a1).f1) ((rd_T87 l0_0 a1).f2) ((rd_T87 l0_0 a1).f3) ((rd_T87 l0_0 a1).f4) ((rd_T87 l0_0 a1).f5) ((rd_T87 l0_0 a1).f6) ((rd_T87 l0_0 a1).f7) ((rd_T87 l0_0 a1).f8) ((rd_T87 l0_0 a1).f9) = some r) ∧ Aside0 (kq ≤ kj71) ∧ Aside0 (w'.heap[gb154]? = some (.cells #[(.slice (some ad155) l0_0.length c0_0)] 48 (0, 0))) ∧ Aside0 (w'.heap[gb156]? = some (.cells #[.int .i64 ((rd_T87 l0_0 a1).f0), .int .i64 ((rd_T87 l0_0 a1).f1), .int .i64 ((rd_T87 l0_0 a1).f2), .int .i64 ((rd_T87 l0_0 a1).f3), .int .i64 ((rd_T87 l0_0 a1).f4), .int .i64 ((rd_T87 l0_0 a1).f5), .int .i64 ((rd_T87 l0_0 a1).f6), .int .i64 ((rd_T87 l0_0 a1).f7), .int .i64 ((rd_T87 l0_0 a1).f8), .int .i64 ((rd_T87 l0_0 a1).f9)] 87 (0, 0))) ∧ Aside0 (Below w.heap.size w w'))
                        case atStart => exact ⟨(1), (by first | rfl | exact congrArg (Value.int .i64) (i64_w _) | (simp; done) | (simp [*]; done)), H', ⟨Nat.le_refl _⟩, ⟨by (with_reducible repeat (first | refine blk_drewN ?_ _ | refine blk_drew ?_ | refine blk_alloc ?_ _)); exact BK154.out⟩, ⟨by (with_reducible repeat (first | refine blk_drewN ?_ _ | refine blk_drew ?_ | refine blk_alloc ?_ _)); exact BK156.out⟩, ⟨by repeat (first | (with_reducible first | exact HB.out | apply below_alloc | apply pw_below_drewN | apply below_drew1 | refine below_set ?_ GE154.out | refine below_set ?_ GE156.out) | exact HB.out)⟩⟩
                        case round =>
                          clear H'
                          try clear p1
                          try clear q1
                          try clear hx1
                          try clear p2
                          try clear p6
                          try clear c7
                          try clear c8
                          try clear p15
                          try clear q15
                          try clear hx15
                          try clear c71
                          try clear c74
                          try clear c76
                          try clear c78
                          try clear c80
                          try clear c82
                          try clear c84
                          try clear c86
                          try clear c88
                          try clear hcz10_4
                          try clear hcz10_5
                          try clear hcz10_6
                          try clear hcz10_7
                          try clear hcz10_8
                          try clear hcz10_9
                          try clear hcz14_0
                          try clear hcz14_1
                          try clear hcz14_2
                          try clear hcz14_3
                          try clear hcz14_4
                          try clear hcz14_5
                          try clear hcz14_6
                          try clear hcz14_7
                          try clear hcz14_8
                          try clear hcz14_9
                          try clear hcz17_0
                          try clear hcz17_1
                          try clear hcz17_2
                          try clear hcz17_3
                          try clear hcz17_4
                          try clear hcz17_5
                          try clear hcz17_6
                          try clear hcz17_7
                          try clear hcz17_8
                          try clear hcz17_9
                          try clear hcz24_0
                          try clear hcz24_1
                          try clear hcz24_2
                          try clear hcz24_3
                          try clear hcz24_4
                          try clear hcz24_5
                          try clear hcz24_6
                          try clear hcz24_7
                          try clear hcz24_8
                          try clear hcz24_9
                          try clear hcz25_0
                          try clear hcz28_0
                          try clear hcz28_1
                          try clear hcz28_2
                          try clear hcz28_3
                          try clear hcz28_4
                          try clear hcz28_5
                          try clear hcz28_6
                          try clear hcz28_7
                          try clear hcz28_8
                          try clear hcz28_9
                          try clear hcz29_0
                          try clear hcz32_0
                          try clear hcz32_1
                          try clear hcz32_2
                          try clear hcz32_3
                          try clear hcz32_4
                          try clear hcz32_5
                          try clear hcz32_6
                          try clear hcz32_7
                          try clear hcz32_8
                          try clear hcz32_9
                          try clear hcz33_0
                          try clear hcz36_0
                          try clear hcz36_1
                          try clear hcz36_2
                          try clear hcz36_3
                          try clear hcz36_4
                          try clear hcz36_5
                          try clear hcz36_6
                          try clear hcz36_7
                          try clear hcz36_8
                          try clear hcz36_9
                          try clear hcz37_0
                          try clear hcz39_0
                          try clear hcz39_1
                          try clear hcz39_2
                          try clear hcz39_3
                          try clear hcz39_4
                          try clear hcz39_5
                          try clear hcz39_6
                          try clear hcz39_7
                          try clear hcz39_8
                          try clear hcz39_9
                          try clear hcz40_0
                          try clear hcz43_0
                          try clear hcz43_1
                          try clear hcz43_2
                          try clear hcz43_3
                          try clear hcz43_4
                          try clear hcz43_5
                          try clear hcz43_6
                          try clear hcz43_7
                          try clear hcz43_8
                          try clear hcz43_9
                          try clear hcz46_0
                          try clear hcz46_1
                          try clear hcz46_2
                          try clear hcz46_3
                          try clear hcz46_4
                          try clear hcz46_5
                          try clear hcz46_6
                          try clear hcz46_7
                          try clear hcz46_8
                          try clear hcz46_9
                          try clear hcz49_0
                          try clear hcz49_1
                          try clear hcz49_2
                          try clear hcz49_3
                          try clear hcz49_4
                          try clear hcz49_5
                          try clear hcz49_6
                          try clear hcz49_7
                          try clear hcz49_8
                          try clear hcz49_9
                          try clear hcz51_0
                          try clear hcz51_1
                          try clear hcz51_2
                          try clear hcz51_3
                          try clear hcz51_4
                          try clear hcz51_5
                          try clear hcz51_6
                          try clear hcz51_7
                          try clear hcz51_8
                          try clear hcz51_9
                          try clear hcz56_0
                          try clear hcz56_1
                          try clear hcz56_2
                          try clear hcz56_3
                          try clear hcz56_4
                          try clear hcz56_5
                          try clear hcz56_6
                          try clear hcz56_7
                          try clear hcz56_8
                          try clear hcz56_9
                          try clear hcz59_0
                          try clear hcz59_1
                          try clear hcz59_2
                          try clear hcz59_3
                          try clear hcz59_4
                          try clear hcz59_5
                          try clear hcz59_6
                          try clear hcz59_7
                          try clear hcz59_8
                          try clear hcz59_9
                          try clear hcz62_0
                          try clear hcz62_1
                          try clear hcz62_2
                          try clear hcz62_3
                          try clear hcz62_4
                          try clear hcz62_5
                          try clear hcz62_6
                          try clear hcz62_7
                          try clear hcz62_8
                          try clear hcz62_9
                          try clear hcz65_0
                          try clear hcz65_1
                          try clear hcz65_2
                          try clear hcz65_3
                          try clear hcz65_4
                          try clear hcz65_5
                          try clear hcz65_6
                          try clear hcz65_7
                          try clear hcz65_8
                          try clear hcz65_9
                          try clear hcz68_0
                          try clear hcz68_1
                          try clear hcz68_2
                          try clear hcz68_3
                          try clear hcz68_4
                          try clear hcz68_5
                          try clear hcz68_6
                          try clear hcz68_7
                          try clear hcz68_8
                          try clear hcz68_9
                          try clear hcz70_0
                          try clear hcz70_1
                          try clear hcz70_2
                          try clear hcz70_3
                          try clear hcz70_4
                          try clear hcz70_5
                          try clear hcz70_6
                          try clear hcz70_7
                          try clear hcz70_8
                          try clear hcz70_9
                          try clear hcz7_0
                          try clear hcz81_0
                          try clear hcz81_1
                          try clear hcz81_2
                          try clear hcz81_3
                          try clear hcz81_4
                          try clear hcz81_5
                          try clear hcz81_6
                          try clear hcz81_7
                          try clear hcz81_8
                          try clear hcz81_9
                          try clear hcz83_0
                          try clear hcz83_1
                          try clear hcz83_2
                          try clear hcz83_3
                          try clear hcz83_4
                          try clear hcz83_5
                          try clear hcz83_6
                          try clear hcz83_7
                          try clear hcz83_8
                          try clear hcz83_9
                          try clear hcz85_0
                          try clear hcz85_1
                          try clear hcz85_2
                          try clear hcz85_3
                          try clear hcz85_4
                          try clear hcz85_5
                          try clear hcz85_6
                          try clear hcz85_7
                          try clear hcz85_8
                          try clear hcz85_9
                          try clear hcz87_0
                          try clear hcz87_1
                          try clear hcz87_2
                          try clear hcz87_3
                          try clear hcz87_4
                          try clear hcz87_5
                          try clear hcz87_6
                          try clear hcz87_7
                          try clear hcz87_8
                          try clear hcz87_9
                          try clear hfz10_0
                          try clear hfz10_1
                          try clear hfz10_2
                          try clear hfz10_3
                          try clear hfz10_4
                          try clear hfz10_5
                          try clear hfz10_6
                          try clear hfz10_7
                          try clear hfz10_8
                          try clear hfz10_9
                          try clear hfz14_0
                          try clear hfz14_1
                          try clear hfz14_2
                          try clear hfz14_3
                          try clear hfz14_4
                          try clear hfz14_5
                          try clear hfz14_6
                          try clear hfz14_7
                          try clear hfz14_8
                          try clear hfz14_9
                          try clear hfz17_0
                          try clear hfz17_1
                          try clear hfz17_2
                          try clear hfz17_3
                          try clear hfz17_4
                          try clear hfz17_5
                          try clear hfz17_6
                          try clear hfz17_7
                          try clear hfz17_8
                          try clear hfz17_9
                          try clear hfz24_0
                          try clear hfz24_1
                          try clear hfz24_2
                          try clear hfz24_3
                          try clear hfz24_4
                          try clear hfz24_5
                          try clear hfz24_6
                          try clear hfz24_7
                          try clear hfz24_8
                          try clear hfz24_9
                          try clear hfz25_0
                          try clear hfz28_0
                          try clear hfz28_1
                          try clear hfz28_2
                          try clear hfz28_3
                          try clear hfz28_4
                          try clear hfz28_5
                          try clear hfz28_6
                          try clear hfz28_7
                          try clear hfz28_8
                          try clear hfz28_9
                          try clear hfz29_0
                          try clear hfz32_0
                          try clear hfz32_1
                          try clear hfz32_2
                          try clear hfz32_3
                          try clear hfz32_4
                          try clear hfz32_5
                          try clear hfz32_6
                          try clear hfz32_7
                          try clear hfz32_8
                          try clear hfz32_9
                          try clear hfz33_0
                          try clear hfz36_0
                          try clear hfz36_1
                          try clear hfz36_2
                          try clear hfz36_3
                          try clear hfz36_4
                          try clear hfz36_5
                          try clear hfz36_6
                          try clear hfz36_7
                          try clear hfz36_8
                          try clear hfz36_9
                          try clear hfz37_0
                          try clear hfz39_0
                          try clear hfz39_1
                          try clear hfz39_2
                          try clear hfz39_3
                          try clear hfz39_4
                          try clear hfz39_5
                          try clear hfz39_6
                          try clear hfz39_7
                          try clear hfz39_8
                          try clear hfz39_9
                          try clear hfz40_0
                          try clear hfz43_0
                          try clear hfz43_1
                          try clear hfz43_2
                          try clear hfz43_3
                          try clear hfz43_4
                          try clear hfz43_5
                          try clear hfz43_6
                          try clear hfz43_7
                          try clear hfz43_8
                          try clear hfz43_9
                          try clear hfz46_0
                          try clear hfz46_1
                          try clear hfz46_2
                          try clear hfz46_3
                          try clear hfz46_4
                          try clear hfz46_5
                          try clear hfz46_6
                          try clear hfz46_7
                          try clear hfz46_8
                          try clear hfz46_9
                          try clear hfz49_0
                          try clear hfz49_1
                          try clear hfz49_2
                          try clear hfz49_3
                          try clear hfz49_4
                          try clear hfz49_5
                          try clear hfz49_6
                          try clear hfz49_7
                          try clear hfz49_8
                          try clear hfz49_9
                          try clear hfz51_0
                          try clear hfz51_1
                          try clear hfz51_2
                          try clear hfz51_3
                          try clear hfz51_4
                          try clear hfz51_5
                          try clear hfz51_6
                          try clear hfz51_7
                          try clear hfz51_8
                          try clear hfz51_9
                          try clear hfz56_0
                          try clear hfz56_1
                          try clear hfz56_2
                          try clear hfz56_3
                          try clear hfz56_4
                          try clear hfz56_5
                          try clear hfz56_6
                          try clear hfz56_7
                          try clear hfz56_8
                          try clear hfz56_9
                          try clear hfz59_0
                          try clear hfz59_1
                          try clear hfz59_2
                          try clear hfz59_3
                          try clear hfz59_4
                          try clear hfz59_5
                          try clear hfz59_6
                          try clear hfz59_7
                          try clear hfz59_8
                          try clear hfz59_9
                          try clear hfz62_0
                          try clear hfz62_1
                          try clear hfz62_2
                          try clear hfz62_3
                          try clear hfz62_4
                          try clear hfz62_5
                          try clear hfz62_6
                          try clear hfz62_7
                          try clear hfz62_8
                          try clear hfz62_9
                          try clear hfz65_0
                          try clear hfz65_1
                          try clear hfz65_2
                          try clear hfz65_3
                          try clear hfz65_4
                          try clear hfz65_5
                          try clear hfz65_6
                          try clear hfz65_7
                          try clear hfz65_8
                          try clear hfz65_9
                          try clear hfz68_0
                          try clear hfz68_1
                          try clear hfz68_2
                          try clear hfz68_3
                          try clear hfz68_4
                          try clear hfz68_5
                          try clear hfz68_6
                          try clear hfz68_7
                          try clear hfz68_8
                          try clear hfz68_9
                          try clear hfz70_0
                          try clear hfz70_1
                          try clear hfz70_2
                          try clear hfz70_3
                          try clear hfz70_4
                          try clear hfz70_5
                          try clear hfz70_6
                          try clear hfz70_7
                          try clear hfz70_8
                          try clear hfz70_9
                          try clear hfz7_0
                          try clear hfz81_0
                          try clear hfz81_1
                          try clear hfz81_2
                          try clear hfz81_3
                          try clear hfz81_4
                          try clear hfz81_5
                          try clear hfz81_6
                          try clear hfz81_7
                          try clear hfz81_8
                          try clear hfz81_9
                          try clear hfz83_0
                          try clear hfz83_1
                          try clear hfz83_2
                          try clear hfz83_3
                          try clear hfz83_4
                          try clear hfz83_5
                          try clear hfz83_6
                          try clear hfz83_7
                          try clear hfz83_8
                          try clear hfz83_9
                          try clear hfz85_0
                          try clear hfz85_1
                          try clear hfz85_2
                          try clear hfz85_3
                          try clear hfz85_4
                          try clear hfz85_5
                          try clear hfz85_6
                          try clear hfz85_7
                          try clear hfz85_8
                          try clear hfz85_9
                          try clear hfz87_0
                          try clear hfz87_1
                          try clear hfz87_2
                          try clear hfz87_3
                          try clear hfz87_4
                          try clear hfz87_5
                          try clear hfz87_6
                          try clear hfz87_7
                          try clear hfz87_8
                          try clear hfz87_9
                          try clear hx155_0
                          try clear hx155_1
                          try clear hx155_2
                          try clear hx155_3
                          try clear hx155_4
                          try clear hx155_5
                          try clear hx155_6
                          try clear hx155_7
                          try clear hx155_8
                          try clear hx155_9
                          try clear hx157_0
                          try clear hx157_1
                          try clear hx157_2
                          try clear hx157_3
                          try clear hx157_4
                          try clear hx157_5
                          try clear hx157_6
                          try clear hx157_7
                          try clear hx157_8
                          try clear hx157_9
                          try clear p1
                          try clear p15
                          try clear p155
                          try clear p157
                          try clear p2
                          try clear p6
                          try clear q1
                          try clear q15
                          try clear q155
                          try clear q157
                          obtain ⟨x6_4, rfl, HA, HK4, BK154, BK156, HB⟩ := hrel
                          cases gk with
                          | zero => exact absurd HA.out (by simp [spec_l16One.l0])
                          | succ k4 =>
                            have H := HA.out
                            clear HA
                            simp only [spec_l16One.l0] at H
                            by_cases c89 : x6_4 ≤ 15
                            · rw [if_pos c89] at H
                              have c89b0 : decide (x6_4 ≤ 15) = true := decide_eq_true c89
                              clear c89
                              replace H := Option.bind_eq_some_iff.mp H
                              obtain ⟨t162, A900, H⟩ := H
                              replace H : (if t162 = true then ((spec_l16Has.f k4 ((rd_T87 l0_0 a1).f9) x6_4).bind fun t163 => (if t163 = true then (some false) else (spec_l16One.l0 k4 (wrap64 (x6_4 + 1)) ((rd_T87 l0_0 a1).f0) ((rd_T87 l0_0 a1).f1) ((rd_T87 l0_0 a1).f2) ((rd_T87 l0_0 a1).f3) ((rd_T87 l0_0 a1).f4) ((rd_T87 l0_0 a1).f5) ((rd_T87 l0_0 a1).f6) ((rd_T87 l0_0 a1).f7) ((rd_T87 l0_0 a1).f8) ((rd_T87 l0_0 a1).f9)))) else (spec_l16One.l0 k4 (wrap64 (x6_4 + 1)) ((rd_T87 l0_0 a1).f0) ((rd_T87 l0_0 a1).f1) ((rd_T87 l0_0 a1).f2) ((rd_T87 l0_0 a1).f3) ((rd_T87 l0_0 a1).f4) ((rd_T87 l0_0 a1).f5) ((rd_T87 l0_0 a1).f6) ((rd_T87 l0_0 a1).f7) ((rd_T87 l0_0 a1).f8) ((rd_T87 l0_0 a1).f9))) = some r := H
                              have A90 := Aside0.mk A900
                              clear A900
                              by_cases c91 : t162 = true
                              · subst c91
                                have H1 : ((spec_l16Has.f k4 ((rd_T87 l0_0 a1).f9) x6_4).bind fun t163 => (if t163 = true then (some false) else (spec_l16One.l0 k4 (wrap64 (x6_4 + 1)) ((rd_T87 l0_0 a1).f0) ((rd_T87 l0_0 a1).f1) ((rd_T87 l0_0 a1).f2) ((rd_T87 l0_0 a1).f3) ((rd_T87 l0_0 a1).f4) ((rd_T87 l0_0 a1).f5) ((rd_T87 l0_0 a1).f6) ((rd_T87 l0_0 a1).f7) ((rd_T87 l0_0 a1).f8) ((rd_T87 l0_0 a1).f9)))) = some r := by rw [if_pos rfl] at H; exact H
                                clear H
                                have H := H1
                                clear H1
                                replace H := Option.bind_eq_some_iff.mp H
                                obtain ⟨t163, A920, H⟩ := H
                                replace H : (if t163 = true then (some false) else (spec_l16One.l0 k4 (wrap64 (x6_4 + 1)) ((rd_T87 l0_0 a1).f0) ((rd_T87 l0_0 a1).f1) ((rd_T87 l0_0 a1).f2) ((rd_T87 l0_0 a1).f3) ((rd_T87 l0_0 a1).f4) ((rd_T87 l0_0 a1).f5) ((rd_T87 l0_0 a1).f6) ((rd_T87 l0_0 a1).f7) ((rd_T87 l0_0 a1).f8) ((rd_T87 l0_0 a1).f9))) = some r := H
                                have A92 := Aside0.mk A920
                                clear A920
                                by_cases c93 : t163 = true
                                · subst c93
                                  have H1 : (some false) = some r := by rw [if_pos rfl] at H; exact H
                                  clear H
                                  have H := H1
                                  clear H1
                                  obtain rfl := Option.some.inj H
                                  have hnb94 := NB156_154.out
                                  have hnc94 := NB154_156.out
                                  have hcz95_0 : wr.cell? ⟨gb156, 0, none⟩ = some (.int .i64 ((rd_T87 l0_0 a1).f0)) := (blk_cell BK156.out 0).trans rfl
                                  have hcz95_1 : wr.cell? ⟨gb156, 1, none⟩ = some (.int .i64 ((rd_T87 l0_0 a1).f1)) := (blk_cell BK156.out 1).trans rfl
                                  have hcz95_2 : wr.cell? ⟨gb156, 2, none⟩ = some (.int .i64 ((rd_T87 l0_0 a1).f2)) := (blk_cell BK156.out 2).trans rfl
                                  have hcz95_3 : wr.cell? ⟨gb156, 3, none⟩ = some (.int .i64 ((rd_T87 l0_0 a1).f3)) := (blk_cell BK156.out 3).trans rfl
                                  have hcz95_4 : wr.cell? ⟨gb156, 4, none⟩ = some (.int .i64 ((rd_T87 l0_0 a1).f4)) := (blk_cell BK156.out 4).trans rfl
                                  have hcz95_5 : wr.cell? ⟨gb156, 5, none⟩ = some (.int .i64 ((rd_T87 l0_0 a1).f5)) := (blk_cell BK156.out 5).trans rfl
                                  have hcz95_6 : wr.cell? ⟨gb156, 6, none⟩ = some (.int .i64 ((rd_T87 l0_0 a1).f6)) := (blk_cell BK156.out 6).trans rfl
                                  have hcz95_7 : wr.cell? ⟨gb156, 7, none⟩ = some (.int .i64 ((rd_T87 l0_0 a1).f7)) := (blk_cell BK156.out 7).trans rfl
                                  have hcz95_8 : wr.cell? ⟨gb156, 8, none⟩ = some (.int .i64 ((rd_T87 l0_0 a1).f8)) := (blk_cell BK156.out 8).trans rfl
                                  have hcz95_9 : wr.cell? ⟨gb156, 9, none⟩ = some (.int .i64 ((rd_T87 l0_0 a1).f9)) := (blk_cell BK156.out 9).trans rfl
                                  have hfz95_0 := blk_frozen BK156.out 0
                                  have hfz95_1 := blk_frozen BK156.out 1
                                  have hfz95_2 := blk_frozen BK156.out 2
                                  have hfz95_3 := blk_frozen BK156.out 3
                                  have hfz95_4 := blk_frozen BK156.out 4
                                  have hfz95_5 := blk_frozen BK156.out 5
                                  have hfz95_6 := blk_frozen BK156.out 6
                                  have hfz95_7 := blk_frozen BK156.out 7
                                  have hfz95_8 := blk_frozen BK156.out 8
                                  have hfz95_9 := blk_frozen BK156.out 9
                                  go_wp2_with (first | (go_at_call 71; (with_reducible refine (spec_l16Has.calls k4 ((rd_T87 l0_0 a1).f8) x6_4 true _ A90.out).mono ?_); rintro e w' ⟨rfl, ⟨nd, rfl⟩⟩; (try first | exact ⟨rfl, _, World.drewN_drewN _ _ _⟩ | exact ⟨rfl, _, Eq.trans (World.drewN_drewN _ _ _) (congrArg (World.drewN _) (Nat.add_assoc _ _ _))⟩)) | (go_at_call 71; (with_reducible refine (spec_l16Has.calls k4 ((rd_T87 l0_0 a1).f9) x6_4 true _ A92.out).mono ?_); rintro e w' ⟨rfl, ⟨nd, rfl⟩⟩; (try first | exact ⟨rfl, _, World.drewN_drewN _ _ _⟩ | exact ⟨rfl, _, Eq.trans (World.drewN_drewN _ _ _) (congrArg (World.drewN _) (Nat.add_assoc _ _ _))⟩)))
                                  repeat (go_quiet (first | (go_at_call 71; (with_reducible refine (spec_l16Has.calls k4 ((rd_T87 l0_0 a1).f8) x6_4 true _ A90.out).mono ?_); rintro e w' ⟨rfl, ⟨nd, rfl⟩⟩; (try first | exact ⟨rfl, _, World.drewN_drewN _ _ _⟩ | exact ⟨rfl, _, Eq.trans (World.drewN_drewN _ _ _) (congrArg (World.drewN _) (Nat.add_assoc _ _ _))⟩)) | (go_at_call 71; (with_reducible refine (spec_l16Has.calls k4 ((rd_T87 l0_0 a1).f9) x6_4 true _ A92.out).mono ?_); rintro e w' ⟨rfl, ⟨nd, rfl⟩⟩; (try first | exact ⟨rfl, _, World.drewN_drewN _ _ _⟩ | exact ⟨rfl, _, Eq.trans (World.drewN_drewN _ _ _) (congrArg (World.drewN _) (Nat.add_assoc _ _ _))⟩))); try go_wp2_with (first | (go_at_call 71; (with_reducible refine (spec_l16Has.calls k4 ((rd_T87 l0_0 a1).f8) x6_4 true _ A90.out).mono ?_); rintro e w' ⟨rfl, ⟨nd, rfl⟩⟩; (try first | exact ⟨rfl, _, World.drewN_drewN _ _ _⟩ | exact ⟨rfl, _, Eq.trans (World.drewN_drewN _ _ _) (congrArg (World.drewN _) (Nat.add_assoc _ _ _))⟩)) | (go_at_call 71; (with_reducible refine (spec_l16Has.calls k4 ((rd_T87 l0_0 a1).f9) x6_4 true _ A92.out).mono ?_); rintro e w' ⟨rfl, ⟨nd, rfl⟩⟩; (try first | exact ⟨rfl, _, World.drewN_drewN _ _ _⟩ | exact ⟨rfl, _, Eq.trans (World.drewN_drewN _ _ _) (congrArg (World.drewN _) (Nat.add_assoc _ _ _))⟩))))
                                  go_ret
                                  exact ⟨by first | rfl | (simp [errW_none, errW_some] <;> rfl) | (simp [*, errW_none, errW_some] <;> rfl), by repeat (first | (with_reducible first | exact HB.out | apply below_alloc | apply pw_below_drewN | apply below_drew1 | refine below_set ?_ GE154.out | refine below_set ?_ GE156.out) | exact HB.out)⟩
                                · replace c93 := Bool.eq_false_iff.mpr c93
                                  subst c93
                                  have H1 : (spec_l16One.l0 k4 (wrap64 (x6_4 + 1)) ((rd_T87 l0_0 a1).f0) ((rd_T87 l0_0 a1).f1) ((rd_T87 l0_0 a1).f2) ((rd_T87 l0_0 a1).f3) ((rd_T87 l0_0 a1).f4) ((rd_T87 l0_0 a1).f5) ((rd_T87 l0_0 a1).f6) ((rd_T87 l0_0 a1).f7) ((rd_T87 l0_0 a1).f8) ((rd_T87 l0_0 a1).f9)) = some r := by rw [if_neg (show ¬ (false = true) by decide)] at H; exact H
                                  clear H
                                  have H := H1
                                  clear H1
                                  have H' := Aside0.mk H
                                  clear H
                                  have hnb96 := NB156_154.out
                                  have hnc96 := NB154_156.out
                                  have hcz97_0 : wr.cell? ⟨gb156, 0, none⟩ = some (.int .i64 ((rd_T87 l0_0 a1).f0)) := (blk_cell BK156.out 0).trans rfl
                                  have hcz97_1 : wr.cell? ⟨gb156, 1, none⟩ = some (.int .i64 ((rd_T87 l0_0 a1).f1)) := (blk_cell BK156.out 1).trans rfl
                                  have hcz97_2 : wr.cell? ⟨gb156, 2, none⟩ = some (.int .i64 ((rd_T87 l0_0 a1).f2)) := (blk_cell BK156.out 2).trans rfl
                                  have hcz97_3 : wr.cell? ⟨gb156, 3, none⟩ = some (.int .i64 ((rd_T87 l0_0 a1).f3)) := (blk_cell BK156.out 3).trans rfl
                                  have hcz97_4 : wr.cell? ⟨gb156, 4, none⟩ = some (.int .i64 ((rd_T87 l0_0 a1).f4)) := (blk_cell BK156.out 4).trans rfl
                                  have hcz97_5 : wr.cell? ⟨gb156, 5, none⟩ = some (.int .i64 ((rd_T87 l0_0 a1).f5)) := (blk_cell BK156.out 5).trans rfl
                                  have hcz97_6 : wr.cell? ⟨gb156, 6, none⟩ = some (.int .i64 ((rd_T87 l0_0 a1).f6)) := (blk_cell BK156.out 6).trans rfl
                                  have hcz97_7 : wr.cell? ⟨gb156, 7, none⟩ = some (.int .i64 ((rd_T87 l0_0 a1).f7)) := (blk_cell BK156.out 7).trans rfl
                                  have hcz97_8 : wr.cell? ⟨gb156, 8, none⟩ = some (.int .i64 ((rd_T87 l0_0 a1).f8)) := (blk_cell BK156.out 8).trans rfl
                                  have hcz97_9 : wr.cell? ⟨gb156, 9, none⟩ = some (.int .i64 ((rd_T87 l0_0 a1).f9)) := (blk_cell BK156.out 9).trans rfl
                                  have hfz97_0 := blk_frozen BK156.out 0
                                  have hfz97_1 := blk_frozen BK156.out 1
                                  have hfz97_2 := blk_frozen BK156.out 2
                                  have hfz97_3 := blk_frozen BK156.out 3
                                  have hfz97_4 := blk_frozen BK156.out 4
                                  have hfz97_5 := blk_frozen BK156.out 5
                                  have hfz97_6 := blk_frozen BK156.out 6
                                  have hfz97_7 := blk_frozen BK156.out 7
                                  have hfz97_8 := blk_frozen BK156.out 8
                                  have hfz97_9 := blk_frozen BK156.out 9
                                  go_wp2_with (first | (go_at_call 71; (with_reducible refine (spec_l16Has.calls k4 ((rd_T87 l0_0 a1).f8) x6_4 true _ A90.out).mono ?_); rintro e w' ⟨rfl, ⟨nd, rfl⟩⟩; (try first | exact ⟨rfl, _, World.drewN_drewN _ _ _⟩ | exact ⟨rfl, _, Eq.trans (World.drewN_drewN _ _ _) (congrArg (World.drewN _) (Nat.add_assoc _ _ _))⟩)) | (go_at_call 71; (with_reducible refine (spec_l16Has.calls k4 ((rd_T87 l0_0 a1).f9) x6_4 false _ A92.out).mono ?_); rintro e w' ⟨rfl, ⟨nd, rfl⟩⟩; (try first | exact ⟨rfl, _, World.drewN_drewN _ _ _⟩ | exact ⟨rfl, _, Eq.trans (World.drewN_drewN _ _ _) (congrArg (World.drewN _) (Nat.add_assoc _ _ _))⟩)))
                                  repeat (go_quiet (first | (go_at_call 71; (with_reducible refine (spec_l16Has.calls k4 ((rd_T87 l0_0 a1).f8) x6_4 true _ A90.out).mono ?_); rintro e w' ⟨rfl, ⟨nd, rfl⟩⟩; (try first | exact ⟨rfl, _, World.drewN_drewN _ _ _⟩ | exact ⟨rfl, _, Eq.trans (World.drewN_drewN _ _ _) (congrArg (World.drewN _) (Nat.add_assoc _ _ _))⟩)) | (go_at_call 71; (with_reducible refine (spec_l16Has.calls k4 ((rd_T87 l0_0 a1).f9) x6_4 false _ A92.out).mono ?_); rintro e w' ⟨rfl, ⟨nd, rfl⟩⟩; (try first | exact ⟨rfl, _, World.drewN_drewN _ _ _⟩ | exact ⟨rfl, _, Eq.trans (World.drewN_drewN _ _ _) (congrArg (World.drewN _) (Nat.add_assoc _ _ _))⟩))); try go_wp2_with (first | (go_at_call 71; (with_reducible refine (spec_l16Has.calls k4 ((rd_T87 l0_0 a1).f8) x6_4 true _ A90.out).mono ?_); rintro e w' ⟨rfl, ⟨nd, rfl⟩⟩; (try first | exact ⟨rfl, _, World.drewN_drewN _ _ _⟩ | exact ⟨rfl, _, Eq.trans (World.drewN_drewN _ _ _) (congrArg (World.drewN _) (Nat.add_assoc _ _ _))⟩)) | (go_at_call 71; (with_reducible refine (spec_l16Has.calls k4 ((rd_T87 l0_0 a1).f9) x6_4 false _ A92.out).mono ?_); rintro e w' ⟨rfl, ⟨nd, rfl⟩⟩; (try first | exact ⟨rfl, _, World.drewN_drewN _ _ _⟩ | exact ⟨rfl, _, Eq.trans (World.drewN_drewN _ _ _) (congrArg (World.drewN _) (Nat.add_assoc _ _ _))⟩))))
                                  go_roundg k4
                                  case measure => have := HJ4.out; have := HJ52.out; have := HJ71.out; have := HK4.out; omega
                                  case rel => exact ⟨(wrap64 (x6_4 + 1)), (by first | rfl | exact congrArg (Value.int .i64) (i64_w _) | (simp; done) | (simp [*]; done)), H', ⟨by have := HJ4.out; have := HJ52.out; have := HJ71.out; have := HK4.out; omega⟩, ⟨by (with_reducible repeat (first | refine blk_drewN ?_ _ | refine blk_drew ?_ | refine blk_alloc ?_ _)); exact BK154.out⟩, ⟨by (with_reducible repeat (first | refine blk_drewN ?_ _ | refine blk_drew ?_ | refine blk_alloc ?_ _)); exact BK156.out⟩, ⟨by repeat (first | (with_reducible first | exact HB.out | apply below_alloc | apply pw_below_drewN | apply below_drew1 | refine below_set ?_ GE154.out | refine below_set ?_ GE156.out) | exact HB.out)⟩⟩
                              · replace c91 := Bool.eq_false_iff.mpr c91
                                subst c91
                                have H1 : (spec_l16One.l0 k4 (wrap64 (x6_4 + 1)) ((rd_T87 l0_0 a1).f0) ((rd_T87 l0_0 a1).f1) ((rd_T87 l0_0 a1).f2) ((rd_T87 l0_0 a1).f3) ((rd_T87 l0_0 a1).f4) ((rd_T87 l0_0 a1).f5) ((rd_T87 l0_0 a1).f6) ((rd_T87 l0_0 a1).f7) ((rd_T87 l0_0 a1).f8) ((rd_T87 l0_0 a1).f9)) = some r := by rw [if_neg (show ¬ (false = true) by decide)] at H; exact H
                                clear H
                                have H := H1
                                clear H1
                                have H' := Aside0.mk H
                                clear H
                                have hnb98 := NB156_154.out
                                have hnc98 := NB154_156.out
                                have hcz99_0 : wr.cell? ⟨gb156, 0, none⟩ = some (.int .i64 ((rd_T87 l0_0 a1).f0)) := (blk_cell BK156.out 0).trans rfl
                                have hcz99_1 : wr.cell? ⟨gb156, 1, none⟩ = some (.int .i64 ((rd_T87 l0_0 a1).f1)) := (blk_cell BK156.out 1).trans rfl
                                have hcz99_2 : wr.cell? ⟨gb156, 2, none⟩ = some (.int .i64 ((rd_T87 l0_0 a1).f2)) := (blk_cell BK156.out 2).trans rfl
                                have hcz99_3 : wr.cell? ⟨gb156, 3, none⟩ = some (.int .i64 ((rd_T87 l0_0 a1).f3)) := (blk_cell BK156.out 3).trans rfl
                                have hcz99_4 : wr.cell? ⟨gb156, 4, none⟩ = some (.int .i64 ((rd_T87 l0_0 a1).f4)) := (blk_cell BK156.out 4).trans rfl
                                have hcz99_5 : wr.cell? ⟨gb156, 5, none⟩ = some (.int .i64 ((rd_T87 l0_0 a1).f5)) := (blk_cell BK156.out 5).trans rfl
                                have hcz99_6 : wr.cell? ⟨gb156, 6, none⟩ = some (.int .i64 ((rd_T87 l0_0 a1).f6)) := (blk_cell BK156.out 6).trans rfl
                                have hcz99_7 : wr.cell? ⟨gb156, 7, none⟩ = some (.int .i64 ((rd_T87 l0_0 a1).f7)) := (blk_cell BK156.out 7).trans rfl
                                have hcz99_8 : wr.cell? ⟨gb156, 8, none⟩ = some (.int .i64 ((rd_T87 l0_0 a1).f8)) := (blk_cell BK156.out 8).trans rfl
                                have hcz99_9 : wr.cell? ⟨gb156, 9, none⟩ = some (.int .i64 ((rd_T87 l0_0 a1).f9)) := (blk_cell BK156.out 9).trans rfl
                                have hfz99_0 := blk_frozen BK156.out 0
                                have hfz99_1 := blk_frozen BK156.out 1
                                have hfz99_2 := blk_frozen BK156.out 2
                                have hfz99_3 := blk_frozen BK156.out 3
                                have hfz99_4 := blk_frozen BK156.out 4
                                have hfz99_5 := blk_frozen BK156.out 5
                                have hfz99_6 := blk_frozen BK156.out 6
                                have hfz99_7 := blk_frozen BK156.out 7
                                have hfz99_8 := blk_frozen BK156.out 8
                                have hfz99_9 := blk_frozen BK156.out 9
                                go_wp2_with (first | (go_at_call 71; (with_reducible refine (spec_l16Has.calls k4 ((rd_T87 l0_0 a1).f8) x6_4 false _ A90.out).mono ?_); rintro e w' ⟨rfl, ⟨nd, rfl⟩⟩; (try first | exact ⟨rfl, _, World.drewN_drewN _ _ _⟩ | exact ⟨rfl, _, Eq.trans (World.drewN_drewN _ _ _) (congrArg (World.drewN _) (Nat.add_assoc _ _ _))⟩)))
                                repeat (go_quiet (first | (go_at_call 71; (with_reducible refine (spec_l16Has.calls k4 ((rd_T87 l0_0 a1).f8) x6_4 false _ A90.out).mono ?_); rintro e w' ⟨rfl, ⟨nd, rfl⟩⟩; (try first | exact ⟨rfl, _, World.drewN_drewN _ _ _⟩ | exact ⟨rfl, _, Eq.trans (World.drewN_drewN _ _ _) (congrArg (World.drewN _) (Nat.add_assoc _ _ _))⟩))); try go_wp2_with (first | (go_at_call 71; (with_reducible refine (spec_l16Has.calls k4 ((rd_T87 l0_0 a1).f8) x6_4 false _ A90.out).mono ?_); rintro e w' ⟨rfl, ⟨nd, rfl⟩⟩; (try first | exact ⟨rfl, _, World.drewN_drewN _ _ _⟩ | exact ⟨rfl, _, Eq.trans (World.drewN_drewN _ _ _) (congrArg (World.drewN _) (Nat.add_assoc _ _ _))⟩))))
                                go_roundg k4
                                case measure => have := HJ4.out; have := HJ52.out; have := HJ71.out; have := HK4.out; omega
                                case rel => exact ⟨(wrap64 (x6_4 + 1)), (by first | rfl | exact congrArg (Value.int .i64) (i64_w _) | (simp; done) | (simp [*]; done)), H', ⟨by have := HJ4.out; have := HJ52.out; have := HJ71.out; have := HK4.out; omega⟩, ⟨by (with_reducible repeat (first | refine blk_drewN ?_ _ | refine blk_drew ?_ | refine blk_alloc ?_ _)); exact BK154.out⟩, ⟨by (with_reducible repeat (first | refine blk_drewN ?_ _ | refine blk_drew ?_ | refine blk_alloc ?_ _)); exact BK156.out⟩, ⟨by repeat (first | (with_reducible first | exact HB.out | apply below_alloc | apply pw_below_drewN | apply below_drew1 | refine below_set ?_ GE154.out | refine below_set ?_ GE156.out) | exact HB.out)⟩⟩
                            · rw [if_neg c89] at H
                              have c89b0 : decide (x6_4 ≤ 15) = false := decide_eq_false c89
                              clear c89
                              by_cases c100 : ((rd_T87 l0_0 a1).f4) = 3
                              · rw [if_pos c100] at H
                                have c100b0 : (((rd_T87 l0_0 a1).f4) == 3) = true := beq_iff_eq.mpr c100
                                have c100b1 : (((rd_T87 l0_0 a1).f4) != 3) = false := bne_eq_false_iff_eq.mpr c100
                                clear c100
                                obtain rfl := Option.some.inj H
                                have hnb101 := NB156_154.out
                                have hnc101 := NB154_156.out
                                have hcz102_0 : wr.cell? ⟨gb156, 0, none⟩ = some (.int .i64 ((rd_T87 l0_0 a1).f0)) := (blk_cell BK156.out 0).trans rfl
                                have hcz102_1 : wr.cell? ⟨gb156, 1, none⟩ = some (.int .i64 ((rd_T87 l0_0 a1).f1)) := (blk_cell BK156.out 1).trans rfl
                                have hcz102_2 : wr.cell? ⟨gb156, 2, none⟩ = some (.int .i64 ((rd_T87 l0_0 a1).f2)) := (blk_cell BK156.out 2).trans rfl
                                have hcz102_3 : wr.cell? ⟨gb156, 3, none⟩ = some (.int .i64 ((rd_T87 l0_0 a1).f3)) := (blk_cell BK156.out 3).trans rfl
                                have hcz102_4 : wr.cell? ⟨gb156, 4, none⟩ = some (.int .i64 ((rd_T87 l0_0 a1).f4)) := (blk_cell BK156.out 4).trans rfl
                                have hcz102_5 : wr.cell? ⟨gb156, 5, none⟩ = some (.int .i64 ((rd_T87 l0_0 a1).f5)) := (blk_cell BK156.out 5).trans rfl
                                have hcz102_6 : wr.cell? ⟨gb156, 6, none⟩ = some (.int .i64 ((rd_T87 l0_0 a1).f6)) := (blk_cell BK156.out 6).trans rfl
                                have hcz102_7 : wr.cell? ⟨gb156, 7, none⟩ = some (.int .i64 ((rd_T87 l0_0 a1).f7)) := (blk_cell BK156.out 7).trans rfl
                                have hcz102_8 : wr.cell? ⟨gb156, 8, none⟩ = some (.int .i64 ((rd_T87 l0_0 a1).f8)) := (blk_cell BK156.out 8).trans rfl
                                have hcz102_9 : wr.cell? ⟨gb156, 9, none⟩ = some (.int .i64 ((rd_T87 l0_0 a1).f9)) := (blk_cell BK156.out 9).trans rfl
                                have hfz102_0 := blk_frozen BK156.out 0
                                have hfz102_1 := blk_frozen BK156.out 1
                                have hfz102_2 := blk_frozen BK156.out 2
                                have hfz102_3 := blk_frozen BK156.out 3
                                have hfz102_4 := blk_frozen BK156.out 4
                                have hfz102_5 := blk_frozen BK156.out 5
                                have hfz102_6 := blk_frozen BK156.out 6
                                have hfz102_7 := blk_frozen BK156.out 7
                                have hfz102_8 := blk_frozen BK156.out 8
                                have hfz102_9 := blk_frozen BK156.out 9
                                go_wp2
                                repeat (go_quiet (fail); try go_wp2)
                                go_ret
                                exact ⟨by first | rfl | (simp [errW_none, errW_some] <;> rfl) | (simp [*, errW_none, errW_some] <;> rfl), by repeat (first | (with_reducible first | exact HB.out | apply below_alloc | apply pw_below_drewN | apply below_drew1 | refine below_set ?_ GE154.out | refine below_set ?_ GE156.out) | exact HB.out)⟩
                              · rw [if_neg c100] at H
                                have c100b0 : (((rd_T87 l0_0 a1).f4) == 3) = false := beq_eq_false_iff_ne.mpr c100
                                have c100b1 : (((rd_T87 l0_0 a1).f4) != 3) = true := bne_iff_ne.mpr c100
                                obtain rfl := Option.some.inj H
                                have hnb103 := NB156_154.out
                                have hnc103 := NB154_156.out
                                have hcz104_0 : wr.cell? ⟨gb156, 0, none⟩ = some (.int .i64 ((rd_T87 l0_0 a1).f0)) := (blk_cell BK156.out 0).trans rfl
                                have hcz104_1 : wr.cell? ⟨gb156, 1, none⟩ = some (.int .i64 ((rd_T87 l0_0 a1).f1)) := (blk_cell BK156.out 1).trans rfl
                                have hcz104_2 : wr.cell? ⟨gb156, 2, none⟩ = some (.int .i64 ((rd_T87 l0_0 a1).f2)) := (blk_cell BK156.out 2).trans rfl
                                have hcz104_3 : wr.cell? ⟨gb156, 3, none⟩ = some (.int .i64 ((rd_T87 l0_0 a1).f3)) := (blk_cell BK156.out 3).trans rfl
                                have hcz104_4 : wr.cell? ⟨gb156, 4, none⟩ = some (.int .i64 ((rd_T87 l0_0 a1).f4)) := (blk_cell BK156.out 4).trans rfl
                                have hcz104_5 : wr.cell? ⟨gb156, 5, none⟩ = some (.int .i64 ((rd_T87 l0_0 a1).f5)) := (blk_cell BK156.out 5).trans rfl
                                have hcz104_6 : wr.cell? ⟨gb156, 6, none⟩ = some (.int .i64 ((rd_T87 l0_0 a1).f6)) := (blk_cell BK156.out 6).trans rfl
                                have hcz104_7 : wr.cell? ⟨gb156, 7, none⟩ = some (.int .i64 ((rd_T87 l0_0 a1).f7)) := (blk_cell BK156.out 7).trans rfl
                                have hcz104_8 : wr.cell? ⟨gb156, 8, none⟩ = some (.int .i64 ((rd_T87 l0_0 a1).f8)) := (blk_cell BK156.out 8).trans rfl
                                have hcz104_9 : wr.cell? ⟨gb156, 9, none⟩ = some (.int .i64 ((rd_T87 l0_0 a1).f9)) := (blk_cell BK156.out 9).trans rfl
                                have hfz104_0 := blk_frozen BK156.out 0
                                have hfz104_1 := blk_frozen BK156.out 1
                                have hfz104_2 := blk_frozen BK156.out 2
                                have hfz104_3 := blk_frozen BK156.out 3
                                have hfz104_4 := blk_frozen BK156.out 4
                                have hfz104_5 := blk_frozen BK156.out 5
                                have hfz104_6 := blk_frozen BK156.out 6
                                have hfz104_7 := blk_frozen BK156.out 7
                                have hfz104_8 := blk_frozen BK156.out 8
                                have hfz104_9 := blk_frozen BK156.out 9
                                go_wp2
                                repeat (go_quiet (fail); try go_wp2)
                                go_ret
                                exact ⟨by first | rfl | (simp [errW_none, errW_some] <;> rfl) | (simp [*, errW_none, errW_some] <;> rfl), by repeat (first | (with_reducible first | exact HB.out | apply below_alloc | apply pw_below_drewN | apply below_drew1 | refine below_set ?_ GE154.out | refine below_set ?_ GE156.out) | exact HB.out)⟩
    · rw [if_neg c4] at H
      exact absurd H (by simp)
  · rw [if_neg c3] at H
    exact absurd H (by simp)

end Go.Proofs.Ytdlgalaemnjfjaa.PFnExactProcTree
