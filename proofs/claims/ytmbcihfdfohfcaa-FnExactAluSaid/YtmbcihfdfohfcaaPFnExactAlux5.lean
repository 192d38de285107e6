-- Written by a program of this session out of the translation. Not trusted: Lean checks it.
import Derived.Test.YtmbcihfdfohfcaaPFnExactAlux0
import Derived.Test.YtmbcihfdfohfcaaPFnExactAlux4
namespace Go.Proofs.Ytmbcihfdfohfcaa.PFnExactAlu
open Go.RowKit Go.Proofs.YtmbcihfdfohfcaaW.PrintWords Go.Proofs.YtmbcihfdfohfcaaW.PrintLast Go.Proofs.YtmbcihfdfohfcaaW.PrintMore
attribute [local go_sem] max2_int min2_int max_two min_two max_three min_three max_four min_four   -- for this text's walks alone
set_option linter.unusedVariables false
set_option linter.unusedSimpArgs false

/-- A call of a closure that captures nothing, through the slot that holds it. -/
theorem goesV_ {P : Program} {ops : Array Oper} {Q : Exit → Act → World → Prop} {rest : List Oper} {oi : Oper} {a : Act} {w : World} (N : Option Tmp) (hd : oi.dst = N) (hg : oi.guard = none) {f : FuncId} {fn : Func} {t : Tmp} {xs : Array Operand} {ts : Array TypeId} (hf : P.funcs[f]? = some fn) (hname : (fn.name == "runtime.NumGoroutine") = false) (hb : fn.body.isSome = true) (args : Array Value)
    (hop : oi.op = .call { callee := .value (.tmp t), args := xs, argTypes := ts }) (hv : a.eval (.tmp t) = a.eval (.func f)) (hargs : xs.map a.eval = args)
    (h : Calls P f args w fun e w' => ∃ v, e = .returned v ∧ wpList P ops Q rest (a.put N v) w') : wpList P ops Q (oi :: rest) a w := by
  refine wpList_plain hg fun K hK => ?_
  have he := enters_ hf hname hb args w
  have hrun : (execOp a.eval oi).run P w = .ok (.enter f args) w := by
    unfold execOp
    simp only [hop, resolve, hv]
    simp [Deferred.ofValue, invoke, Act.eval, hargs, he]
  unfold Oper.wp
  rw [hrun, Oper.upon_enter]
  refine h.mono fun e w'' hh => ?_
  obtain ⟨v, rfl, hk⟩ := hh
  subst hd
  exact hK _ _ hk

/-! ### impl_Alu: function 8 -/
mutual
def impl_Alu.j0 : Nat → Int → Int → Int → Bool → Option (Int × Bool)
  | 0, _, _, _, _ => none
  | k + 1, x0, x1, x2, x22 => if x22 = true then ((some (([1, 3, 4, 5, 6, 7, 8, 9, 10, 18] : List Int) : List Int)).bind fun y201 => (if 0 ≤ (wrap64 (x0 - 32)) then (if (wrap64 (x0 - 32)) < (y201.length : Int) then (impl_Alu.j1 k (rd y201 (wrap64 (x0 - 32))) x1 x2) else (none)) else (none))) else (impl_Alu.j1 k x0 x1 x2)
def impl_Alu.j1 : Nat → Int → Int → Int → Option (Int × Bool)
  | 0, _, _, _ => none
  | k + 1, x0, x1, x2 => if x0 = 1 then (some (IntKind.u64.wrap (x1 + x2), true)) else (if x0 = 2 then (some (IntKind.u64.wrap (x1 - x2), true)) else (if x0 = 3 then (some (Go.bits .and .u64 x1 x2, true)) else (if x0 = 4 then (some (Go.bits .or .u64 x1 x2, true)) else (if x0 = 5 then (some (Go.bits .xor .u64 x1 x2, true)) else (if x0 = 6 then (if 0 ≤ (Go.bits .and .u64 x2 63) then (some (shl .u64 x1 (Go.bits .and .u64 x2 63), true)) else (none)) else (if x0 = 7 then (if 0 ≤ (Go.bits .and .u64 x2 63) then (some (shr .u64 x1 (Go.bits .and .u64 x2 63), true)) else (none)) else (if x0 = 8 then (if 0 ≤ (Go.bits .and .u64 x2 63) then (some (IntKind.u64.wrap (shr .i64 (wrap64 (x1)) (Go.bits .and .u64 x2 63)), true)) else (none)) else (if x0 = 9 then ((impl_one.f (decide ((wrap64 (x1)) < (wrap64 (x2))))).bind fun t205 => (some (t205, true))) else (if x0 = 10 then ((impl_one.f (decide (x1 < x2))).bind fun t206 => (some (t206, true))) else (if x0 = 11 then (some (IntKind.u64.wrap (x1 * x2), true)) else (if x0 = 12 then ((bits_Mul64.f x1 x2).bind fun bt207 => (if (wrap64 (x1)) < 0 then (if (wrap64 (x2)) < 0 then (some (IntKind.u64.wrap ((IntKind.u64.wrap (bt207.1 - x2)) - x1), true)) else (some (IntKind.u64.wrap (bt207.1 - x2), true))) else (if (wrap64 (x2)) < 0 then (some (IntKind.u64.wrap (bt207.1 - x1), true)) else (some (bt207.1, true))))) else (if x0 = 13 then ((bits_Mul64.f x1 x2).bind fun bt209 => (some (bt209.1, true))) else (if x0 = 14 then (impl_Alu.j2 k x0 x1 x2 (wrap64 (x1)) (wrap64 (x2)) (wrap32 (x1)) (wrap32 (x2)) x0 (x0 == 14)) else (impl_Alu.j2 k x0 x1 x2 (wrap64 (x1)) (wrap64 (x2)) (wrap32 (x1)) (wrap32 (x2)) x0 (x0 == 16)))))))))))))))
def impl_Alu.j2 : Nat → Int → Int → Int → Int → Int → Int → Int → Int → Bool → Option (Int × Bool)
  | 0, _, _, _, _, _, _, _, _, _ => none
  | k + 1, x0, x1, x2, x8, x9, x10, x11, x36, x126 => if x126 = true then (if x9 = 0 then (impl_Alu.j3 k x0 x1 x8 x9 (x0 == 14)) else (impl_Alu.j3 k x0 x1 x8 x9 false)) else (if x36 = 15 then (impl_Alu.j5 k x0 x1 x2 x10 x11 x36 (x36 == 15)) else (impl_Alu.j5 k x0 x1 x2 x10 x11 x36 (x36 == 17)))
def impl_Alu.j3 : Nat → Int → Int → Int → Int → Bool → Option (Int × Bool)
  | 0, _, _, _, _, _ => none
  | k + 1, x0, x1, x8, x9, x129 => if x129 = true then (some (18446744073709551615, true)) else (if x9 = 0 then (some (x1, true)) else (if x9 = (-1) then (impl_Alu.j4 k x0 x1 x8 x9 (x0 == 14)) else (impl_Alu.j4 k x0 x1 x8 x9 false)))
def impl_Alu.j4 : Nat → Int → Int → Int → Int → Bool → Option (Int × Bool)
  | 0, _, _, _, _, _ => none
  | k + 1, x0, x1, x8, x9, x140 => if x140 = true then (some (IntKind.u64.wrap (-x1), true)) else (if x9 = (-1) then (some (0, true)) else (if x0 = 14 then (if x9 = 0 then (none) else (some (IntKind.u64.wrap (wrap64 (Int.tdiv x8 x9)), true))) else (if x9 = 0 then (none) else (some (IntKind.u64.wrap (Int.tmod x8 x9), true)))))
def impl_Alu.j5 : Nat → Int → Int → Int → Int → Int → Int → Bool → Option (Int × Bool)
  | 0, _, _, _, _, _, _, _ => none
  | k + 1, x0, x1, x2, x10, x11, x36, x163 => if x163 = true then (if x2 = 0 then (impl_Alu.j6 k x0 x1 x2 (x0 == 15)) else (impl_Alu.j6 k x0 x1 x2 false)) else (if x36 = 18 then ((impl_Alu_1.f (wrap32 (x10 + x11))).bind fun bt211 => (some (bt211.1, bt211.2))) else (if x36 = 19 then ((impl_Alu_1.f (wrap32 (x10 - x11))).bind fun bt213 => (some (bt213.1, bt213.2))) else (if x36 = 20 then ((impl_Alu_1.f (wrap32 (x10 * x11))).bind fun bt215 => (some (bt215.1, bt215.2))) else (if x36 = 21 then (if x11 = 0 then (some (18446744073709551615, true)) else (if x11 = (-1) then ((impl_Alu_1.f (wrap32 (-x10))).bind fun bt217 => (some (bt217.1, bt217.2))) else ((impl_Alu_1.f (wrap32 (Int.tdiv x10 x11))).bind fun bt219 => (some (bt219.1, bt219.2))))) else (if x36 = 22 then (if x11 = 0 then ((impl_Alu_1.f x10).bind fun bt221 => (some (bt221.1, bt221.2))) else (if x11 = (-1) then (some (0, true)) else ((impl_Alu_1.f (Int.tmod x10 x11)).bind fun bt223 => (some (bt223.1, bt223.2))))) else (if x36 = 23 then (if 0 ≤ (Go.bits .and .u64 x2 31) then ((impl_Alu_1.f (shl .i32 x10 (Go.bits .and .u64 x2 31))).bind fun bt225 => (some (bt225.1, bt225.2))) else (none)) else (if x36 = 24 then (if 0 ≤ (Go.bits .and .u64 x2 31) then ((impl_Alu_1.f (wrap32 (shr .u32 ((x1) % 4294967296) (Go.bits .and .u64 x2 31)))).bind fun bt227 => (some (bt227.1, bt227.2))) else (none)) else (if x36 = 25 then (if 0 ≤ (Go.bits .and .u64 x2 31) then ((impl_Alu_1.f (shr .i32 x10 (Go.bits .and .u64 x2 31))).bind fun bt229 => (some (bt229.1, bt229.2))) else (none)) else (some (0, false))))))))))
def impl_Alu.j6 : Nat → Int → Int → Int → Bool → Option (Int × Bool)
  | 0, _, _, _, _ => none
  | k + 1, x0, x1, x2, x166 => if x166 = true then (some (18446744073709551615, true)) else (if x2 = 0 then (some (x1, true)) else (if x0 = 15 then (some (IntKind.u64.wrap (Int.tdiv x1 x2), true)) else (some (Int.tmod x1 x2, true))))
end
def impl_Alu.f (k : Nat) (a0 : Int) (a1 : Int) (a2 : Int) : Option (Int × Bool) := if a0 ≥ 32 then (impl_Alu.j0 k a0 a1 a2 (decide (a0 ≤ 41))) else (impl_Alu.j0 k a0 a1 a2 false)
theorem impl_Alu.mono_l : ∀ k, (∀ y0 y1 y2 y3, LeO (impl_Alu.j0 k y0 y1 y2 y3) (impl_Alu.j0 (k + 1) y0 y1 y2 y3)) ∧ (∀ y0 y1 y2, LeO (impl_Alu.j1 k y0 y1 y2) (impl_Alu.j1 (k + 1) y0 y1 y2)) ∧ (∀ y0 y1 y2 y3 y4 y5 y6 y7 y8, LeO (impl_Alu.j2 k y0 y1 y2 y3 y4 y5 y6 y7 y8) (impl_Alu.j2 (k + 1) y0 y1 y2 y3 y4 y5 y6 y7 y8)) ∧ (∀ y0 y1 y2 y3 y4, LeO (impl_Alu.j3 k y0 y1 y2 y3 y4) (impl_Alu.j3 (k + 1) y0 y1 y2 y3 y4)) ∧ (∀ y0 y1 y2 y3 y4, LeO (impl_Alu.j4 k y0 y1 y2 y3 y4) (impl_Alu.j4 (k + 1) y0 y1 y2 y3 y4)) ∧ (∀ y0 y1 y2 y3 y4 y5 y6, LeO (impl_Alu.j5 k y0 y1 y2 y3 y4 y5 y6) (impl_Alu.j5 (k + 1) y0 y1 y2 y3 y4 y5 y6)) ∧ (∀ y0 y1 y2 y3, LeO (impl_Alu.j6 k y0 y1 y2 y3) (impl_Alu.j6 (k + 1) y0 y1 y2 y3))
  | 0 => ⟨fun _ _ _ _ r h => by simp [impl_Alu.j0] at h, fun _ _ _ r h => by simp [impl_Alu.j1] at h, fun _ _ _ _ _ _ _ _ _ r h => by simp [impl_Alu.j2] at h, fun _ _ _ _ _ r h => by simp [impl_Alu.j3] at h, fun _ _ _ _ _ r h => by simp [impl_Alu.j4] at h, fun _ _ _ _ _ _ _ r h => by simp [impl_Alu.j5] at h, fun _ _ _ _ r h => by simp [impl_Alu.j6] at h⟩
  | k + 1 => by
    obtain ⟨ih0, ih1, ih2, ih3, ih4, ih5, ih6⟩ := impl_Alu.mono_l k
    refine ⟨?_, ?_, ?_, ?_, ?_, ?_, ?_⟩
    · intro y0 y1 y2 y3
      unfold impl_Alu.j0
      repeat' first
      | (with_reducible exact ih0 _ _ _ _)
      | (with_reducible exact ih1 _ _ _)
      | (with_reducible exact ih2 _ _ _ _ _ _ _ _ _)
      | (with_reducible exact ih3 _ _ _ _ _)
      | (with_reducible exact ih4 _ _ _ _ _)
      | (with_reducible exact ih5 _ _ _ _ _ _ _)
      | (with_reducible exact ih6 _ _ _ _)
      | (with_reducible exact LeO.refl _)
      | (with_reducible exact LeO.none _)
      | (with_reducible refine LeO.ite ?_ ?_)
      | (with_reducible refine LeO.bind ?_ (fun _ => ?_))
      | exact ih0 _ _ _ _
      | exact ih1 _ _ _
      | exact ih2 _ _ _ _ _ _ _ _ _
      | exact ih3 _ _ _ _ _
      | exact ih4 _ _ _ _ _
      | exact ih5 _ _ _ _ _ _ _
      | exact ih6 _ _ _ _
      | exact LeO.none _
      | refine LeO.ite ?_ ?_
      | refine LeO.bind ?_ (fun _ => ?_)
    · intro y0 y1 y2
      unfold impl_Alu.j1
      repeat' first
      | (with_reducible exact ih0 _ _ _ _)
      | (with_reducible exact ih1 _ _ _)
      | (with_reducible exact ih2 _ _ _ _ _ _ _ _ _)
      | (with_reducible exact ih3 _ _ _ _ _)
      | (with_reducible exact ih4 _ _ _ _ _)
      | (with_reducible exact ih5 _ _ _ _ _ _ _)
      | (with_reducible exact ih6 _ _ _ _)
      | (with_reducible exact LeO.refl _)
      | (with_reducible exact LeO.none _)
      | (with_reducible refine LeO.ite ?_ ?_)
      | (with_reducible refine LeO.bind ?_ (fun _ => ?_))
      | exact ih0 _ _ _ _
      | exact ih1 _ _ _
      | exact ih2 _ _ _ _ _ _ _ _ _
      | exact ih3 _ _ _ _ _
      | exact ih4 _ _ _ _ _
      | exact ih5 _ _ _ _ _ _ _
      | exact ih6 _ _ _ _
      | exact LeO.none _
      | refine LeO.ite ?_ ?_
      | refine LeO.bind ?_ (fun _ => ?_)
    · intro y0 y1 y2 y3 y4 y5 y6 y7 y8
      unfold impl_Alu.j2
      repeat' first
      | (with_reducible exact ih0 _ _ _ _)
      | (with_reducible exact ih1 _ _ _)
      | (with_reducible exact ih2 _ _ _ _ _ _ _ _ _)
      | (with_reducible exact ih3 _ _ _ _ _)
      | (with_reducible exact ih4 _ _ _ _ _)
      | (with_reducible exact ih5 _ _ _ _ _ _ _)
      | (with_reducible exact ih6 _ _ _ _)
      | (with_reducible exact LeO.refl _)
      | (with_reducible exact LeO.none _)
      | (with_reducible refine LeO.ite ?_ ?_)
      | (with_reducible refine LeO.bind ?_ (fun _ => ?_))
      | exact ih0 _ _ _ _
      | exact ih1 _ _ _
      | exact ih2 _ _ _ _ _ _ _ _ _
      | exact ih3 _ _ _ _ _
      | exact ih4 _ _ _ _ _
      | exact ih5 _ _ _ _ _ _ _
      | exact ih6 _ _ _ _
      | exact LeO.none _
      | refine LeO.ite ?_ ?_
      | refine LeO.bind ?_ (fun _ => ?_)
    · intro y0 y1 y2 y3 y4
      unfold impl_Alu.j3
      repeat' first
      | (with_reducible exact ih0 _ _ _ _)
      | (with_reducible exact ih1 _ _ _)
      | (with_reducible exact ih2 _ _ _ _ _ _ _ _ _)
      | (with_reducible exact ih3 _ _ _ _ _)
      | (with_reducible exact ih4 _ _ _ _ _)
      | (with_reducible exact ih5 _ _ _ _ _ _ _)
      | (with_reducible exact ih6 _ _ _ _)
      | (with_reducible exact LeO.refl _)
      | (with_reducible exact LeO.none _)
      | (with_reducible refine LeO.ite ?_ ?_)
      | (with_reducible refine LeO.bind ?_ (fun _ => ?_))
      | exact ih0 _ _ _ _
      | exact ih1 _ _ _
      | exact ih2 _ _ _ _ _ _ _ _ _
      | exact ih3 _ _ _ _ _
      | exact ih4 _ _ _ _ _
      | exact ih5 _ _ _ _ _ _ _
      | exact ih6 _ _ _ _
      | exact LeO.none _
      | refine LeO.ite ?_ ?_
      | refine LeO.bind ?_ (fun _ => ?_)
    · intro y0 y1 y2 y3 y4
      unfold impl_Alu.j4
      repeat' first
      | (with_reducible exact ih0 _ _ _ _)
      | (with_reducible exact ih1 _ _ _)
      | (with_reducible exact ih2 _ _ _ _ _ _ _ _ _)
      | (with_reducible exact ih3 _ _ _ _ _)
      | (with_reducible exact ih4 _ _ _ _ _)
      | (with_reducible exact ih5 _ _ _ _ _ _ _)
      | (with_reducible exact ih6 _ _ _ _)
      | (with_reducible exact LeO.refl _)
      | (with_reducible exact LeO.none _)
      | (with_reducible refine LeO.ite ?_ ?_)
      | (with_reducible refine LeO.bind ?_ (fun _ => ?_))
      | exact ih0 _ _ _ _
      | exact ih1 _ _ _
      | exact ih2 _ _ _ _ _ _ _ _ _
      | exact ih3 _ _ _ _ _
      | exact ih4 _ _ _ _ _
      | exact ih5 _ _ _ _ _ _ _
      | exact ih6 _ _ _ _
      | exact LeO.none _
      | refine LeO.ite ?_ ?_
      | refine LeO.bind ?_ (fun _ => ?_)
    · intro y0 y1 y2 y3 y4 y5 y6
      unfold impl_Alu.j5
      repeat' first
      | (with_reducible exact ih0 _ _ _ _)
      | (with_reducible exact ih1 _ _ _)
      | (with_reducible exact ih2 _ _ _ _ _ _ _ _ _)
      | (with_reducible exact ih3 _ _ _ _ _)
      | (with_reducible exact ih4 _ _ _ _ _)
      | (with_reducible exact ih5 _ _ _ _ _ _ _)
      | (with_reducible exact ih6 _ _ _ _)
      | (with_reducible exact LeO.refl _)
      | (with_reducible exact LeO.none _)
      | (with_reducible refine LeO.ite ?_ ?_)
      | (with_reducible refine LeO.bind ?_ (fun _ => ?_))
      | exact ih0 _ _ _ _
      | exact ih1 _ _ _
      | exact ih2 _ _ _ _ _ _ _ _ _
      | exact ih3 _ _ _ _ _
      | exact ih4 _ _ _ _ _
      | exact ih5 _ _ _ _ _ _ _
      | exact ih6 _ _ _ _
      | exact LeO.none _
      | refine LeO.ite ?_ ?_
      | refine LeO.bind ?_ (fun _ => ?_)
    · intro y0 y1 y2 y3
      unfold impl_Alu.j6
      repeat' first
      | (with_reducible exact ih0 _ _ _ _)
      | (with_reducible exact ih1 _ _ _)
      | (with_reducible exact ih2 _ _ _ _ _ _ _ _ _)
      | (with_reducible exact ih3 _ _ _ _ _)
      | (with_reducible exact ih4 _ _ _ _ _)
      | (with_reducible exact ih5 _ _ _ _ _ _ _)
      | (with_reducible exact ih6 _ _ _ _)
      | (with_reducible exact LeO.refl _)
      | (with_reducible exact LeO.none _)
      | (with_reducible refine LeO.ite ?_ ?_)
      | (with_reducible refine LeO.bind ?_ (fun _ => ?_))
      | exact ih0 _ _ _ _
      | exact ih1 _ _ _
      | exact ih2 _ _ _ _ _ _ _ _ _
      | exact ih3 _ _ _ _ _
      | exact ih4 _ _ _ _ _
      | exact ih5 _ _ _ _ _ _ _
      | exact ih6 _ _ _ _
      | exact LeO.none _
      | refine LeO.ite ?_ ?_
      | refine LeO.bind ?_ (fun _ => ?_)
theorem impl_Alu.mono : ∀ a0 a1 a2 k, LeO (impl_Alu.f k a0 a1 a2) (impl_Alu.f (k + 1) a0 a1 a2) := by
  intro a0 a1 a2 k
  obtain ⟨ih0, ih1, ih2, ih3, ih4, ih5, ih6⟩ := impl_Alu.mono_l k
  unfold impl_Alu.f
  repeat' first
      | (with_reducible exact ih0 _ _ _ _)
      | (with_reducible exact ih1 _ _ _)
      | (with_reducible exact ih2 _ _ _ _ _ _ _ _ _)
      | (with_reducible exact ih3 _ _ _ _ _)
      | (with_reducible exact ih4 _ _ _ _ _)
      | (with_reducible exact ih5 _ _ _ _ _ _ _)
      | (with_reducible exact ih6 _ _ _ _)
      | (with_reducible exact LeO.refl _)
      | (with_reducible exact LeO.none _)
      | (with_reducible refine LeO.ite ?_ ?_)
      | (with_reducible refine LeO.bind ?_ (fun _ => ?_))
      | exact ih0 _ _ _ _
      | exact ih1 _ _ _
      | exact ih2 _ _ _ _ _ _ _ _ _
      | exact ih3 _ _ _ _ _
      | exact ih4 _ _ _ _ _
      | exact ih5 _ _ _ _ _ _ _
      | exact ih6 _ _ _ _
      | exact LeO.none _
      | refine LeO.ite ?_ ?_
      | refine LeO.bind ?_ (fun _ => ?_)
/-- The operation that the switch sees. -/
def impl_Alu.op0 (a0 : Int) : Int := if 32 ≤ a0 ∧ a0 ≤ 41 then rd ([1, 3, 4, 5, 6, 7, 8, 9, 10, 18] : List Int) (wrap64 (a0 - 32)) else a0

end Go.Proofs.Ytmbcihfdfohfcaa.PFnExactAlu
