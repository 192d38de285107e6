-- Written by a program of this session out of the translation. Not trusted: Lean checks it.
import Derived.Test.YtmbcihfdfohfcaaPFnExactPlainx0
import Derived.Test.YtmbcihfdfohfcaaPFnExactPlainx4
namespace Go.Proofs.Ytmbcihfdfohfcaa.PFnExactPlain
open Go.RowKit Go.Proofs.YtmbcihfdfohfcaaW.PrintWords Go.Proofs.YtmbcihfdfohfcaaW.PrintLast Go.Proofs.YtmbcihfdfohfcaaW.PrintMore
attribute [local go_sem] max2_int min2_int max_two min_two max_three min_three max_four min_four   -- for this text's walks alone
set_option linter.unusedVariables false
set_option linter.unusedSimpArgs false

/-! ### impl_command: function 38 -/
theorem impl_command.nil_beq (l : List UInt8) : (l == ([] : List UInt8)) = l.isEmpty := by cases l <;> rfl
mutual
def impl_command.l0 : Nat → ByteArray → List ByteArray → ByteArray → Int → Int → Option (List ByteArray × ByteArray × Bool)
  | 0, _, _, _, _, _ => none
  | k + 1, x0, x2, x3, x5, x6 => if x6 ≤ (x0.size : Int) then (if x6 = (x0.size : Int) then (impl_command.j1 k x0 x2 x3 x5 x6 true) else (if 0 ≤ x6 then (if x6 < (x0.size : Int) then (impl_command.j1 k x0 x2 x3 x5 x6 ((bt x0 x6) == 32)) else (none)) else (none))) else (if (x2.length : Int) ≥ 2 then (if 0 ≤ (wrap64 ((x2.length : Int) - 2)) then (if (wrap64 ((x2.length : Int) - 2)) < (x2.length : Int) then (impl_command.j2 k x2 x3 (x2.length : Int) ((rdOf ByteArray.empty x2 (wrap64 ((x2.length : Int) - 2))).toList == ([62] : List UInt8))) else (none)) else (none)) else (impl_command.j2 k x2 x3 (x2.length : Int) false))
def impl_command.j1 : Nat → ByteArray → List ByteArray → ByteArray → Int → Int → Bool → Option (List ByteArray × ByteArray × Bool)
  | 0, _, _, _, _, _, _ => none
  | k + 1, x0, x2, x3, x5, x6, x30 => if x30 = true then (if x6 > x5 then (if 0 ≤ x5 then (if x5 ≤ x6 then (if x6 ≤ (x0.size : Int) then (if x2.length < 8796093022208 then (impl_command.l0 k x0 (x2 ++ [x0.extract (x5 : Int).toNat (x6 : Int).toNat]) x3 (wrap64 (x6 + 1)) (wrap64 (x6 + 1))) else (none)) else (none)) else (none)) else (none)) else (impl_command.l0 k x0 x2 x3 (wrap64 (x6 + 1)) (wrap64 (x6 + 1)))) else (impl_command.l0 k x0 x2 x3 x5 (wrap64 (x6 + 1)))
def impl_command.j2 : Nat → List ByteArray → ByteArray → Int → Bool → Option (List ByteArray × ByteArray × Bool)
  | 0, _, _, _, _ => none
  | k + 1, x2, x3, x7, x54 => if x54 = true then (if 0 ≤ (wrap64 (x7 - 1)) then (if (wrap64 (x7 - 1)) < (x2.length : Int) then (if 0 ≤ (wrap64 (x7 - 2)) then (if (wrap64 (x7 - 2)) ≤ (x2.length : Int) then (impl_command.j3 k (x2.take ((wrap64 (x7 - 2)) : Int).toNat) (rdOf ByteArray.empty x2 (wrap64 (x7 - 1)))) else (none)) else (none)) else (none)) else (none)) else (impl_command.j3 k x2 x3)
def impl_command.j3 : Nat → List ByteArray → ByteArray → Option (List ByteArray × ByteArray × Bool)
  | 0, _, _ => none
  | k + 1, x2, x3 => if ([] : List ByteArray).length + x2.length < 8796093022208 then ((some (([] : List ByteArray) ++ x2 : List ByteArray)).bind fun y154 => ((impl_b2i.f (x3.toList == ([] : List UInt8))).bind fun t157 => (if 0 ≤ t157 then (if t157 ≤ 1 then (if x3.size + ((⟨#[97]⟩ : ByteArray).extract 0 (t157 : Int).toNat).size ≤ 9223372036854775807 then (if y154.length < 8796093022208 then ((some (y154 ++ [x3 ++ ((⟨#[97]⟩ : ByteArray).extract 0 (t157 : Int).toNat)] : List ByteArray)).bind fun y158 => (impl_command.l1 k x2 x3 y158 (y158.length : Int) 0)) else (none)) else (none)) else (none)) else (none)))) else (none)
def impl_command.l1 : Nat → List ByteArray → ByteArray → List ByteArray → Int → Int → Option (List ByteArray × ByteArray × Bool)
  | 0, _, _, _, _, _ => none
  | k + 1, x2, x3, x73, x74, x75 => if x75 < x74 then (if 0 ≤ x75 then (if x75 < (x73.length : Int) then (if ((rdOf ByteArray.empty x73 x75).size : Int) > 20 then (some (([] : List ByteArray), (⟨#[]⟩ : ByteArray), false)) else (impl_command.l2 k x2 x3 (rdOf ByteArray.empty x73 x75) x73 x74 x75 ((rdOf ByteArray.empty x73 x75).size : Int) 0)) else (none)) else (none)) else (if (x2.length : Int) = 0 then (some (([] : List ByteArray), (⟨#[]⟩ : ByteArray), (x3.toList == ([] : List UInt8)))) else (if 0 < (x2.length : Int) then (if (rdOf ByteArray.empty x2 0).toList = ([101, 99, 104, 111] : List UInt8) then (some (x2, x3, decide ((wrap64 ((x2.length : Int) - 1)) ≤ 8))) else (if (rdOf ByteArray.empty x2 0).toList = ([99, 97, 116] : List UInt8) then (if (wrap64 ((x2.length : Int) - 1)) ≥ 1 then (impl_command.j6 k x2 x3 (decide ((wrap64 ((x2.length : Int) - 1)) ≤ 4))) else (impl_command.j6 k x2 x3 false)) else (if (rdOf ByteArray.empty x2 0).toList = ([108, 115] : List UInt8) then (some (x2, x3, decide ((wrap64 ((x2.length : Int) - 1)) ≤ 1))) else (if (rdOf ByteArray.empty x2 0).toList = ([109, 107, 100, 105, 114] : List UInt8) then (impl_command.j8 k x2 x3 (wrap64 ((x2.length : Int) - 1)) (rdOf ByteArray.empty x2 0) ((rdOf ByteArray.empty x2 0).toList == ([109, 107, 100, 105, 114] : List UInt8))) else (impl_command.j8 k x2 x3 (wrap64 ((x2.length : Int) - 1)) (rdOf ByteArray.empty x2 0) ((rdOf ByteArray.empty x2 0).toList == ([114, 109] : List UInt8))))))) else (none)))
def impl_command.l2 : Nat → List ByteArray → ByteArray → ByteArray → List ByteArray → Int → Int → Int → Int → Option (List ByteArray × ByteArray × Bool)
  | 0, _, _, _, _, _, _, _, _ => none
  | k + 1, x2, x3, x9, x73, x74, x75, x83, x84 => if x84 < x83 then (if 0 ≤ x84 then (if x84 < (x9.size : Int) then (if (bt x9 x84) ≥ 97 then (if (bt x9 x84) ≤ 122 then (impl_command.l2 k x2 x3 x9 x73 x74 x75 x83 (wrap64 (x84 + 1))) else (if (bt x9 x84) ≥ 48 then (if (bt x9 x84) ≤ 57 then (impl_command.l2 k x2 x3 x9 x73 x74 x75 x83 (wrap64 (x84 + 1))) else (if (bt x9 x84) = 46 then (impl_command.l2 k x2 x3 x9 x73 x74 x75 x83 (wrap64 (x84 + 1))) else (if (bt x9 x84) = 95 then (impl_command.l2 k x2 x3 x9 x73 x74 x75 x83 (wrap64 (x84 + 1))) else (if (bt x9 x84) = 45 then (impl_command.l2 k x2 x3 x9 x73 x74 x75 x83 (wrap64 (x84 + 1))) else (if ((bt x9 x84) = 47) then (impl_command.l2 k x2 x3 x9 x73 x74 x75 x83 (wrap64 (x84 + 1))) else (some (([] : List ByteArray), (⟨#[]⟩ : ByteArray), false))))))) else (if (bt x9 x84) = 46 then (impl_command.l2 k x2 x3 x9 x73 x74 x75 x83 (wrap64 (x84 + 1))) else (if (bt x9 x84) = 95 then (impl_command.l2 k x2 x3 x9 x73 x74 x75 x83 (wrap64 (x84 + 1))) else (if (bt x9 x84) = 45 then (impl_command.l2 k x2 x3 x9 x73 x74 x75 x83 (wrap64 (x84 + 1))) else (if ((bt x9 x84) = 47) then (impl_command.l2 k x2 x3 x9 x73 x74 x75 x83 (wrap64 (x84 + 1))) else (some (([] : List ByteArray), (⟨#[]⟩ : ByteArray), false)))))))) else (if (bt x9 x84) ≥ 48 then (if (bt x9 x84) ≤ 57 then (impl_command.l2 k x2 x3 x9 x73 x74 x75 x83 (wrap64 (x84 + 1))) else (if (bt x9 x84) = 46 then (impl_command.l2 k x2 x3 x9 x73 x74 x75 x83 (wrap64 (x84 + 1))) else (if (bt x9 x84) = 95 then (impl_command.l2 k x2 x3 x9 x73 x74 x75 x83 (wrap64 (x84 + 1))) else (if (bt x9 x84) = 45 then (impl_command.l2 k x2 x3 x9 x73 x74 x75 x83 (wrap64 (x84 + 1))) else (if ((bt x9 x84) = 47) then (impl_command.l2 k x2 x3 x9 x73 x74 x75 x83 (wrap64 (x84 + 1))) else (some (([] : List ByteArray), (⟨#[]⟩ : ByteArray), false))))))) else (if (bt x9 x84) = 46 then (impl_command.l2 k x2 x3 x9 x73 x74 x75 x83 (wrap64 (x84 + 1))) else (if (bt x9 x84) = 95 then (impl_command.l2 k x2 x3 x9 x73 x74 x75 x83 (wrap64 (x84 + 1))) else (if (bt x9 x84) = 45 then (impl_command.l2 k x2 x3 x9 x73 x74 x75 x83 (wrap64 (x84 + 1))) else (if ((bt x9 x84) = 47) then (impl_command.l2 k x2 x3 x9 x73 x74 x75 x83 (wrap64 (x84 + 1))) else (some (([] : List ByteArray), (⟨#[]⟩ : ByteArray), false)))))))) else (none)) else (none)) else (impl_command.l1 k x2 x3 x73 x74 (wrap64 (x75 + 1)))
def impl_command.j6 : Nat → List ByteArray → ByteArray → Bool → Option (List ByteArray × ByteArray × Bool)
  | 0, _, _, _ => none
  | k + 1, x2, x3, x4 => if 1 ≤ (x2.length : Int) then ((some (x2.drop 1 : List ByteArray)).bind fun y163 => (impl_command.l3 k x2 x3 x4 y163 (y163.length : Int) 0)) else (none)
def impl_command.l3 : Nat → List ByteArray → ByteArray → Bool → List ByteArray → Int → Int → Option (List ByteArray × ByteArray × Bool)
  | 0, _, _, _, _, _, _ => none
  | k + 1, x2, x3, x4, x156, x157, x158 => if x158 < x157 then (if 0 ≤ x158 then (if x158 < (x156.length : Int) then (if x4 = true then (impl_command.l3 k x2 x3 ((rdOf ByteArray.empty x156 x158).toList != x3.toList) x156 x157 (wrap64 (x158 + 1))) else (impl_command.l3 k x2 x3 false x156 x157 (wrap64 (x158 + 1)))) else (none)) else (none)) else (some (x2, x3, x4))
def impl_command.j8 : Nat → List ByteArray → ByteArray → Int → ByteArray → Bool → Option (List ByteArray × ByteArray × Bool)
  | 0, _, _, _, _, _ => none
  | k + 1, x2, x3, x12, x133, x173 => if x173 = true then (if x12 = 1 then (some (x2, x3, (x3.toList == ([] : List UInt8)))) else (some (x2, x3, false))) else (if x133.toList = ([109, 118] : List UInt8) then (if x12 = 2 then (some (x2, x3, (x3.toList == ([] : List UInt8)))) else (some (x2, x3, false))) else (if x12 = 0 then (if 0 < (x2.length : Int) then (if 0 < ((rdOf ByteArray.empty x2 0).size : Int) then (some (x2, x3, ((bt (rdOf ByteArray.empty x2 0) 0) == 122))) else (none)) else (none)) else (some (x2, x3, false))))
end
def impl_command.f (k : Nat) (a0 : ByteArray) : Option (List ByteArray × ByteArray × Bool) := impl_command.l0 k a0 ([] : List ByteArray) (⟨#[]⟩ : ByteArray) 0 0
theorem impl_command.mono_l : ∀ k, (∀ y0 y1 y2 y3 y4, LeO (impl_command.l0 k y0 y1 y2 y3 y4) (impl_command.l0 (k + 1) y0 y1 y2 y3 y4)) ∧ (∀ y0 y1 y2 y3 y4 y5, LeO (impl_command.j1 k y0 y1 y2 y3 y4 y5) (impl_command.j1 (k + 1) y0 y1 y2 y3 y4 y5)) ∧ (∀ y0 y1 y2 y3, LeO (impl_command.j2 k y0 y1 y2 y3) (impl_command.j2 (k + 1) y0 y1 y2 y3)) ∧ (∀ y0 y1, LeO (impl_command.j3 k y0 y1) (impl_command.j3 (k + 1) y0 y1)) ∧ (∀ y0 y1 y2 y3 y4, LeO (impl_command.l1 k y0 y1 y2 y3 y4) (impl_command.l1 (k + 1) y0 y1 y2 y3 y4)) ∧ (∀ y0 y1 y2 y3 y4 y5 y6 y7, LeO (impl_command.l2 k y0 y1 y2 y3 y4 y5 y6 y7) (impl_command.l2 (k + 1) y0 y1 y2 y3 y4 y5 y6 y7)) ∧ (∀ y0 y1 y2, LeO (impl_command.j6 k y0 y1 y2) (impl_command.j6 (k + 1) y0 y1 y2)) ∧ (∀ y0 y1 y2 y3 y4 y5, LeO (impl_command.l3 k y0 y1 y2 y3 y4 y5) (impl_command.l3 (k + 1) y0 y1 y2 y3 y4 y5)) ∧ (∀ y0 y1 y2 y3 y4, LeO (impl_command.j8 k y0 y1 y2 y3 y4) (impl_command.j8 (k + 1) y0 y1 y2 y3 y4))
  | 0 => ⟨fun _ _ _ _ _ r h => by simp [impl_command.l0] at h, fun _ _ _ _ _ _ r h => by simp [impl_command.j1] at h, fun _ _ _ _ r h => by simp [impl_command.j2] at h, fun _ _ r h => by simp [impl_command.j3] at h, fun _ _ _ _ _ r h => by simp [impl_command.l1] at h, fun _ _ _ _ _ _ _ _ r h => by simp [impl_command.l2] at h, fun _ _ _ r h => by simp [impl_command.j6] at h, fun _ _ _ _ _ _ r h => by simp [impl_command.l3] at h, fun _ _ _ _ _ r h => by simp [impl_command.j8] at h⟩
  | k + 1 => by
    obtain ⟨ih0, ih1, ih2, ih3, ih4, ih5, ih6, ih7, ih8⟩ := impl_command.mono_l k
    refine ⟨?_, ?_, ?_, ?_, ?_, ?_, ?_, ?_, ?_⟩
    · intro y0 y1 y2 y3 y4
      unfold impl_command.l0
      repeat' first
      | (with_reducible exact ih0 _ _ _ _ _)
      | (with_reducible exact ih1 _ _ _ _ _ _)
      | (with_reducible exact ih2 _ _ _ _)
      | (with_reducible exact ih3 _ _)
      | (with_reducible exact ih4 _ _ _ _ _)
      | (with_reducible exact ih5 _ _ _ _ _ _ _ _)
      | (with_reducible exact ih6 _ _ _)
      | (with_reducible exact ih7 _ _ _ _ _ _)
      | (with_reducible exact ih8 _ _ _ _ _)
      | (with_reducible exact LeO.refl _)
      | (with_reducible exact LeO.none _)
      | (with_reducible refine LeO.ite ?_ ?_)
      | (with_reducible refine LeO.bind ?_ (fun _ => ?_))
      | exact ih0 _ _ _ _ _
      | exact ih1 _ _ _ _ _ _
      | exact ih2 _ _ _ _
      | exact ih3 _ _
      | exact ih4 _ _ _ _ _
      | exact ih5 _ _ _ _ _ _ _ _
      | exact ih6 _ _ _
      | exact ih7 _ _ _ _ _ _
      | exact ih8 _ _ _ _ _
      | exact LeO.none _
      | refine LeO.ite ?_ ?_
      | refine LeO.bind ?_ (fun _ => ?_)
    · intro y0 y1 y2 y3 y4 y5
      unfold impl_command.j1
      repeat' first
      | (with_reducible exact ih0 _ _ _ _ _)
      | (with_reducible exact ih1 _ _ _ _ _ _)
      | (with_reducible exact ih2 _ _ _ _)
      | (with_reducible exact ih3 _ _)
      | (with_reducible exact ih4 _ _ _ _ _)
      | (with_reducible exact ih5 _ _ _ _ _ _ _ _)
      | (with_reducible exact ih6 _ _ _)
      | (with_reducible exact ih7 _ _ _ _ _ _)
      | (with_reducible exact ih8 _ _ _ _ _)
      | (with_reducible exact LeO.refl _)
      | (with_reducible exact LeO.none _)
      | (with_reducible refine LeO.ite ?_ ?_)
      | (with_reducible refine LeO.bind ?_ (fun _ => ?_))
      | exact ih0 _ _ _ _ _
      | exact ih1 _ _ _ _ _ _
      | exact ih2 _ _ _ _
      | exact ih3 _ _
      | exact ih4 _ _ _ _ _
      | exact ih5 _ _ _ _ _ _ _ _
      | exact ih6 _ _ _
      | exact ih7 _ _ _ _ _ _
      | exact ih8 _ _ _ _ _
      | exact LeO.none _
      | refine LeO.ite ?_ ?_
      | refine LeO.bind ?_ (fun _ => ?_)
    · intro y0 y1 y2 y3
      unfold impl_command.j2
      repeat' first
      | (with_reducible exact ih0 _ _ _ _ _)
      | (with_reducible exact ih1 _ _ _ _ _ _)
      | (with_reducible exact ih2 _ _ _ _)
      | (with_reducible exact ih3 _ _)
      | (with_reducible exact ih4 _ _ _ _ _)
      | (with_reducible exact ih5 _ _ _ _ _ _ _ _)
      | (with_reducible exact ih6 _ _ _)
      | (with_reducible exact ih7 _ _ _ _ _ _)
      | (with_reducible exact ih8 _ _ _ _ _)
      | (with_reducible exact LeO.refl _)
      | (with_reducible exact LeO.none _)
      | (with_reducible refine LeO.ite ?_ ?_)
      | (with_reducible refine LeO.bind ?_ (fun _ => ?_))
      | exact ih0 _ _ _ _ _
      | exact ih1 _ _ _ _ _ _
      | exact ih2 _ _ _ _
      | exact ih3 _ _
      | exact ih4 _ _ _ _ _
      | exact ih5 _ _ _ _ _ _ _ _
      | exact ih6 _ _ _
      | exact ih7 _ _ _ _ _ _
      | exact ih8 _ _ _ _ _
      | exact LeO.none _
      | refine LeO.ite ?_ ?_
      | refine LeO.bind ?_ (fun _ => ?_)
    · intro y0 y1
      unfold impl_command.j3
      repeat' first
      | (with_reducible exact ih0 _ _ _ _ _)
      | (with_reducible exact ih1 _ _ _ _ _ _)
      | (with_reducible exact ih2 _ _ _ _)
      | (with_reducible exact ih3 _ _)
      | (with_reducible exact ih4 _ _ _ _ _)
      | (with_reducible exact ih5 _ _ _ _ _ _ _ _)
      | (with_reducible exact ih6 _ _ _)
      | (with_reducible exact ih7 _ _ _ _ _ _)
      | (with_reducible exact ih8 _ _ _ _ _)
      | (with_reducible exact LeO.refl _)
      | (with_reducible exact LeO.none _)
      | (with_reducible refine LeO.ite ?_ ?_)
      | (with_reducible refine LeO.bind ?_ (fun _ => ?_))
      | exact ih0 _ _ _ _ _
      | exact ih1 _ _ _ _ _ _
      | exact ih2 _ _ _ _
      | exact ih3 _ _
      | exact ih4 _ _ _ _ _
      | exact ih5 _ _ _ _ _ _ _ _
      | exact ih6 _ _ _
      | exact ih7 _ _ _ _ _ _
      | exact ih8 _ _ _ _ _
      | exact LeO.none _
      | refine LeO.ite ?_ ?_
      | refine LeO.bind ?_ (fun _ => ?_)
    · intro y0 y1 y2 y3 y4
      unfold impl_command.l1
      repeat' first
      | (with_reducible exact ih0 _ _ _ _ _)
      | (with_reducible exact ih1 _ _ _ _ _ _)
      | (with_reducible exact ih2 _ _ _ _)
      | (with_reducible exact ih3 _ _)
      | (with_reducible exact ih4 _ _ _ _ _)
      | (with_reducible exact ih5 _ _ _ _ _ _ _ _)
      | (with_reducible exact ih6 _ _ _)
      | (with_reducible exact ih7 _ _ _ _ _ _)
      | (with_reducible exact ih8 _ _ _ _ _)
      | (with_reducible exact LeO.refl _)
      | (with_reducible exact LeO.none _)
      | (with_reducible refine LeO.ite ?_ ?_)
      | (with_reducible refine LeO.bind ?_ (fun _ => ?_))
      | exact ih0 _ _ _ _ _
      | exact ih1 _ _ _ _ _ _
      | exact ih2 _ _ _ _
      | exact ih3 _ _
      | exact ih4 _ _ _ _ _
      | exact ih5 _ _ _ _ _ _ _ _
      | exact ih6 _ _ _
      | exact ih7 _ _ _ _ _ _
      | exact ih8 _ _ _ _ _
      | exact LeO.none _
      | refine LeO.ite ?_ ?_
      | refine LeO.bind ?_ (fun _ => ?_)
    · intro y0 y1 y2 y3 y4 y5 y6 y7
      unfold impl_command.l2
      repeat' first
      | (with_reducible exact ih0 _ _ _ _ _)
      | (with_reducible exact ih1 _ _ _ _ _ _)
      | (with_reducible exact ih2 _ _ _ _)
      | (with_reducible exact ih3 _ _)
      | (with_reducible exact ih4 _ _ _ _ _)
      | (with_reducible exact ih5 _ _ _ _ _ _ _ _)
      | (with_reducible exact ih6 _ _ _)
      | (with_reducible exact ih7 _ _ _ _ _ _)
      | (with_reducible exact ih8 _ _ _ _ _)
      | (with_reducible exact LeO.refl _)
      | (with_reducible exact LeO.none _)
      | (with_reducible refine LeO.ite ?_ ?_)
      | (with_reducible refine LeO.bind ?_ (fun _ => ?_))
      | exact ih0 _ _ _ _ _
      | exact ih1 _ _ _ _ _ _
      | exact ih2 _ _ _ _
      | exact ih3 _ _
      | exact ih4 _ _ _ _ _
      | exact ih5 _ _ _ _ _ _ _ _
      | exact ih6 _ _ _
      | exact ih7 _ _ _ _ _ _
      | exact ih8 _ _ _ _ _
      | exact LeO.none _
      | refine LeO.ite ?_ ?_
      | refine LeO.bind ?_ (fun _ => ?_)
    · intro y0 y1 y2
      unfold impl_command.j6
      repeat' first
      | (with_reducible exact ih0 _ _ _ _ _)
      | (with_reducible exact ih1 _ _ _ _ _ _)
      | (with_reducible exact ih2 _ _ _ _)
      | (with_reducible exact ih3 _ _)
      | (with_reducible exact ih4 _ _ _ _ _)
      | (with_reducible exact ih5 _ _ _ _ _ _ _ _)
      | (with_reducible exact ih6 _ _ _)
      | (with_reducible exact ih7 _ _ _ _ _ _)
      | (with_reducible exact ih8 _ _ _ _ _)
      | (with_reducible exact LeO.refl _)
      | (with_reducible exact LeO.none _)
      | (with_reducible refine LeO.ite ?_ ?_)
      | (with_reducible refine LeO.bind ?_ (fun _ => ?_))
      | exact ih0 _ _ _ _ _
      | exact ih1 _ _ _ _ _ _
      | exact ih2 _ _ _ _
      | exact ih3 _ _
      | exact ih4 _ _ _ _ _
      | exact ih5 _ _ _ _ _ _ _ _
      | exact ih6 _ _ _
      | exact ih7 _ _ _ _ _ _
      | exact ih8 _ _ _ _ _
      | exact LeO.none _
      | refine LeO.ite ?_ ?_
      | refine LeO.bind ?_ (fun _ => ?_)
    · intro y0 y1 y2 y3 y4 y5
      unfold impl_command.l3
      repeat' first
      | (with_reducible exact ih0 _ _ _ _ _)
      | (with_reducible exact ih1 _ _ _ _ _ _)
      | (with_reducible exact ih2 _ _ _ _)
      | (with_reducible exact ih3 _ _)
      | (with_reducible exact ih4 _ _ _ _ _)
      | (with_reducible exact ih5 _ _ _ _ _ _ _ _)
      | (with_reducible exact ih6 _ _ _)
      | (with_reducible exact ih7 _ _ _ _ _ _)
      | (with_reducible exact ih8 _ _ _ _ _)
      | (with_reducible exact LeO.refl _)
      | (with_reducible exact LeO.none _)
      | (with_reducible refine LeO.ite ?_ ?_)
      | (with_reducible refine LeO.bind ?_ (fun _ => ?_))
      | exact ih0 _ _ _ _ _
      | exact ih1 _ _ _ _ _ _
      | exact ih2 _ _ _ _
      | exact ih3 _ _
      | exact ih4 _ _ _ _ _
      | exact ih5 _ _ _ _ _ _ _ _
      | exact ih6 _ _ _
      | exact ih7 _ _ _ _ _ _
      | exact ih8 _ _ _ _ _
      | exact LeO.none _
      | refine LeO.ite ?_ ?_
      | refine LeO.bind ?_ (fun _ => ?_)
    · intro y0 y1 y2 y3 y4
      unfold impl_command.j8
      repeat' first
      | (with_reducible exact ih0 _ _ _ _ _)
      | (with_reducible exact ih1 _ _ _ _ _ _)
      | (with_reducible exact ih2 _ _ _ _)
      | (with_reducible exact ih3 _ _)
      | (with_reducible exact ih4 _ _ _ _ _)
      | (with_reducible exact ih5 _ _ _ _ _ _ _ _)
      | (with_reducible exact ih6 _ _ _)
      | (with_reducible exact ih7 _ _ _ _ _ _)
      | (with_reducible exact ih8 _ _ _ _ _)
      | (with_reducible exact LeO.refl _)
      | (with_reducible exact LeO.none _)
      | (with_reducible refine LeO.ite ?_ ?_)
      | (with_reducible refine LeO.bind ?_ (fun _ => ?_))
      | exact ih0 _ _ _ _ _
      | exact ih1 _ _ _ _ _ _
      | exact ih2 _ _ _ _
      | exact ih3 _ _
      | exact ih4 _ _ _ _ _
      | exact ih5 _ _ _ _ _ _ _ _
      | exact ih6 _ _ _
      | exact ih7 _ _ _ _ _ _
      | exact ih8 _ _ _ _ _
      | exact LeO.none _
      | refine LeO.ite ?_ ?_
      | refine LeO.bind ?_ (fun _ => ?_)
theorem impl_command.mono : ∀ a0 k, LeO (impl_command.f k a0) (impl_command.f (k + 1) a0) := by
  intro a0 k
  obtain ⟨ih0, ih1, ih2, ih3, ih4, ih5, ih6, ih7, ih8⟩ := impl_command.mono_l k
  unfold impl_command.f
  repeat' first
      | (with_reducible exact ih0 _ _ _ _ _)
      | (with_reducible exact ih1 _ _ _ _ _ _)
      | (with_reducible exact ih2 _ _ _ _)
      | (with_reducible exact ih3 _ _)
      | (with_reducible exact ih4 _ _ _ _ _)
      | (with_reducible exact ih5 _ _ _ _ _ _ _ _)
      | (with_reducible exact ih6 _ _ _)
      | (with_reducible exact ih7 _ _ _ _ _ _)
      | (with_reducible exact ih8 _ _ _ _ _)
      | (with_reducible exact LeO.refl _)
      | (with_reducible exact LeO.none _)
      | (with_reducible refine LeO.ite ?_ ?_)
      | (with_reducible refine LeO.bind ?_ (fun _ => ?_))
      | exact ih0 _ _ _ _ _
      | exact ih1 _ _ _ _ _ _
      | exact ih2 _ _ _ _
      | exact ih3 _ _
      | exact ih4 _ _ _ _ _
      | exact ih5 _ _ _ _ _ _ _ _
      | exact ih6 _ _ _
      | exact ih7 _ _ _ _ _ _
      | exact ih8 _ _ _ _ _
      | exact LeO.none _
      | refine LeO.ite ?_ ?_
      | refine LeO.bind ?_ (fun _ => ?_)
set_option maxHeartbeats 8000000 in
set_option maxRecDepth 100000 in
theorem impl_command.calls (k : Nat) (a0 : ByteArray) (r1 : List ByteArray) (r2 : ByteArray) (r3 : Bool) (w : World) (h : impl_command.f k a0 = some (r1, r2, r3)) :
    Calls Try.prog 38 #[.string a0] w fun e w' => ∃ v0_ : Value, e = .returned (.tuple #[v0_, .string r2, .bool r3]) ∧ Kd.R Kd.string 9 w' w.heap.size (fun _ => True) v0_ r1 ∧ Below w.heap.size w w' := by
  have HB := Aside0.mk (Below.refl w.heap.size w)
  have H : (impl_command.l0 k a0 ([] : List ByteArray) (⟨#[]⟩ : ByteArray) 0 0) = some (r1, r2, r3) := h
  clear h
  have H' := Aside0.mk H
  clear H
  go_enter Try.func38, Try.ntmps38
  go_wp2
  go_loopg [2, 5, 6] k (fun kq v2 v5 v6 w' => ∃ (x2_1 : List ByteArray) (x5_1 : Int) (x6_1 : Int), v5 = .int .i64 x5_1 ∧ v6 = .int .i64 x6_1 ∧ Aside0 (impl_command.l0 kq a0 x2_1 (⟨#[]⟩ : ByteArray) x5_1 x6_1 = some (r1, r2, r3)) ∧ Aside0 (kq ≤ k) ∧ Aside0 (Kd.R Kd.string 9 w' w.heap.size (fun _ => True) v2 x2_1) ∧ Aside0 (Below w.heap.size w w'))
  case atStart => exact ⟨(([] : List ByteArray)), (0), (0), (by first | rfl | exact congrArg (Value.int .i64) (i64_w _) | (simp; done) | (simp [*]; done)), (by first | rfl | exact congrArg (Value.int .i64) (i64_w _) | (simp; done) | (simp [*]; done)), H', ⟨Nat.le_refl _⟩, ⟨by first | exact Kd.R_nil _ _ _ _ _ | exact Kd.N_nil _ _ _ _ _ | exact Kd.V_nil _ _ _ _ _ | exact Kd.Q_nil _ _ _ _ _ | exact Kd.S_nil _ _ _ _ _⟩, ⟨by repeat (first | (with_reducible first | exact HB.out | apply below_alloc | apply pw_below_drewN | apply below_drew1) | exact HB.out)⟩⟩
  case round =>
    clear H'
    obtain ⟨x2_1, x5_1, x6_1, rfl, rfl, HA, HK1, HO_2, HB⟩ := hrel
    cases gk with
    | zero => exact absurd HA.out (by simp [impl_command.l0])
    | succ k1 =>
      have H := HA.out
      clear HA
      simp only [impl_command.l0] at H
      by_cases c2 : x6_1 ≤ (a0.size : Int)
      · rw [if_pos c2] at H
        have c2b0 : decide (x6_1 ≤ (a0.size : Int)) = true := decide_eq_true c2
        clear c2
        have HC3 := Aside0.mk H
        clear H
        go_upto_region 5 with (fail)
        go_cut [30] (fun v30 wc => ∃ (kq : Nat) (x30_2 : Bool), v30 = .bool x30_2 ∧ Aside0 (impl_command.j1 kq a0 x2_1 (⟨#[]⟩ : ByteArray) x5_1 x6_1 x30_2 = some (r1, r2, r3)) ∧ Aside0 (kq ≤ k1) ∧ Aside0 (Kd.R Kd.string 9 wc w.heap.size (fun _ => True) u2 x2_1) ∧ Aside0 (Below w.heap.size w wc))
        case first =>
          have H := HC3.out
          clear HC3
          by_cases c4 : x6_1 = (a0.size : Int)
          · rw [if_pos c4] at H
            have c4b0 : (x6_1 == (a0.size : Int)) = true := beq_iff_eq.mpr c4
            have c4b1 : (x6_1 != (a0.size : Int)) = false := bne_eq_false_iff_eq.mpr c4
            clear c4
            (first | rw [c4b0] | (simp only [i64_w, i32_w]; rw [c4b0]) | skip)
            have H' := Aside0.mk H
            clear H
            go_wp2
            go_meet
            case rel => exact ⟨_, (true), (by first | rfl | exact congrArg (Value.int .i64) (i64_w _) | (simp; done) | (simp [*]; done)), H', ⟨by have := HK1.out; first | omega | exact Nat.le_refl _⟩, ⟨by (with_reducible repeat (first | apply Kd.R_alloc | apply Kd.R_drewN | apply Kd.R_drew)); exact HO_2.out⟩, ⟨by repeat (first | (with_reducible first | exact HB.out | apply below_alloc | apply pw_below_drewN | apply below_drew1) | exact HB.out)⟩⟩
          · rw [if_neg c4] at H
            have c4b0 : (x6_1 == (a0.size : Int)) = false := beq_eq_false_iff_ne.mpr c4
            have c4b1 : (x6_1 != (a0.size : Int)) = true := bne_iff_ne.mpr c4
            (first | rw [c4b0] | (simp only [i64_w, i32_w]; rw [c4b0]) | skip)
            by_cases c5 : 0 ≤ x6_1
            · rw [if_pos c5] at H
              have c5b0 : decide (0 ≤ x6_1) = true := decide_eq_true c5
              clear c5
              by_cases c6 : x6_1 < (a0.size : Int)
              · rw [if_pos c6] at H
                have c6b0 : decide (x6_1 < (a0.size : Int)) = true := decide_eq_true c6
                clear c6
                have H' := Aside0.mk H
                clear H
                have p7 : 0 ≤ (x6_1 : Int) := of_decide_eq_true (by first | (with_reducible assumption) | assumption)
                have q7 : x6_1 < (a0.size : Int) := of_decide_eq_true (by first | (with_reducible assumption) | assumption)
                have hx7 := bt_at a0 x6_1
                replace p7 := eq_true p7
                replace q7 := eq_true q7
                go_wp2
                go_meet
                case rel => exact ⟨_, (((bt a0 x6_1) == 32)), (by first | rfl | exact congrArg (Value.int .i64) (i64_w _) | (simp; done) | (simp [*]; done)), H', ⟨by have := HK1.out; first | omega | exact Nat.le_refl _⟩, ⟨by (with_reducible repeat (first | apply Kd.R_alloc | apply Kd.R_drewN | apply Kd.R_drew)); exact HO_2.out⟩, ⟨by repeat (first | (with_reducible first | exact HB.out | apply below_alloc | apply pw_below_drewN | apply below_drew1) | exact HB.out)⟩⟩
              · rw [if_neg c6] at H
                exact absurd H (by simp)
            · rw [if_neg c5] at H
              exact absurd H (by simp)
        case rest =>
          clear HC3
          try clear c2
          try clear c2b0
          try clear p2
          try clear c3
          try clear c4
          try clear c4b0
          try clear c4b1
          try clear c5
          try clear c5b0
          try clear c6
          try clear c6b0
          try clear p7
          try clear q7
          try clear hx7
          try clear p7
          try clear q7
          obtain ⟨kq, x30_2, rfl, HA, HJ2, HO_2, HB⟩ := hcut
          cases kq with
          | zero => exact absurd HA.out (by simp [impl_command.j1])
          | succ kj2 =>
            have H := HA.out
            clear HA
            simp only [impl_command.j1] at H
            by_cases c8 : x30_2 = true
            · subst c8
              have H1 : (if x6_1 > x5_1 then (if 0 ≤ x5_1 then (if x5_1 ≤ x6_1 then (if x6_1 ≤ (a0.size : Int) then (if x2_1.length < 8796093022208 then (impl_command.l0 kj2 a0 (x2_1 ++ [a0.extract (x5_1 : Int).toNat (x6_1 : Int).toNat]) (⟨#[]⟩ : ByteArray) (wrap64 (x6_1 + 1)) (wrap64 (x6_1 + 1))) else (none)) else (none)) else (none)) else (none)) else (impl_command.l0 kj2 a0 x2_1 (⟨#[]⟩ : ByteArray) (wrap64 (x6_1 + 1)) (wrap64 (x6_1 + 1)))) = some (r1, r2, r3) := by rw [if_pos rfl] at H; exact H
              clear H
              have H := H1
              clear H1
              by_cases c9 : x6_1 > x5_1
              · rw [if_pos c9] at H
                have c9b0 : decide (x5_1 < x6_1) = true := decide_eq_true c9
                clear c9
                by_cases c10 : 0 ≤ x5_1
                · rw [if_pos c10] at H
                  have c10b0 := eq_true c10
                  have c10b1 : decide (0 ≤ x5_1) = true := decide_eq_true c10
                  clear c10
                  by_cases c11 : x5_1 ≤ x6_1
                  · rw [if_pos c11] at H
                    have c11b0 := eq_true c11
                    have c11b1 : decide (x5_1 ≤ x6_1) = true := decide_eq_true c11
                    clear c11
                    by_cases c12 : x6_1 ≤ (a0.size : Int)
                    · rw [if_pos c12] at H
                      have c12b0 := eq_true c12
                      have c12b1 : decide (x6_1 ≤ (a0.size : Int)) = true := decide_eq_true c12
                      clear c12
                      by_cases c13 : x2_1.length < 8796093022208
                      · rw [if_pos c13] at H
                        have LMc13 := Aside0.mk c13
                        clear c13
                        obtain ⟨y146, hy146⟩ : ∃ y_ : List ByteArray, y_ = (x2_1 ++ [a0.extract (x5_1 : Int).toNat (x6_1 : Int).toNat]) := ⟨_, rfl⟩
                        replace H : (impl_command.l0 kj2 a0 y146 (⟨#[]⟩ : ByteArray) (wrap64 (x6_1 + 1)) (wrap64 (x6_1 + 1))) = some (r1, r2, r3) := by first | (rw [hy146]; with_reducible exact H) | (have H2_ := (Option.bind_some _ _).symm.trans H; rw [hy146]; with_reducible exact H2_) | (have H2_ := (Option.bind_some _ _).symm.trans H; with_reducible exact H2_) | with_reducible exact H | (rw [hy146]; exact H) | exact H
                        have Ny146 := Aside0.mk hy146
                        clear hy146
                        have H' := Aside0.mk H
                        clear H
                        go_wp2_with (first | ((with_reducible refine gate_builtin (b := .append) (xs := #[.tmp 34, .tmp 39]) rfl ?_); at_builtin; refine Kd.R_append Kd.string (w0 := w) w.heap.size rfl (.tmp 34) (.tmp 39) 61 9 (.string ⟨#[]⟩) 16 rfl Try.underlying61 info9 rfl (by decide) (by omega) u2 x2_1 (a0.extract (x5_1 : Int).toNat (x6_1 : Int).toNat) [.string (a0.extract (x5_1 : Int).toNat (x6_1 : Int).toNat)] (fun _ => True) (fun _ => False) rfl rfl ?aP (fun _ hk => hk.elim) ?aF ?aO ?aB ?aS ?aL ?_; (case aP => exact rfl); (case aB => exact (by repeat (first | (with_reducible first | exact HB.out | apply below_alloc | apply pw_below_drewN | apply below_drew1) | exact HB.out))); (case aF => exact (fun _ _ => trivial)); (case aO => exact (by (with_reducible repeat (first | apply Kd.R_alloc | apply Kd.R_drewN | apply Kd.R_drew)); exact HO_2.out)); (case aS => exact (below_size (by repeat (first | (with_reducible first | exact HB.out | apply below_alloc | apply pw_below_drewN | apply below_drew1) | exact HB.out)))); (case aL => have := LMc13.out; omega); intro v147 w14 ho hb hg hat; rw [← Ny146.out] at ho; have n0_ := Aside0.mk (hb); have n1_ := Aside0.mk (ho); clear HB; clear HO_2; have HB := n0_; have HO148 := n1_; clear n0_ n1_; clear ho hb hg hat))
                        go_roundg kj2
                        case measure => have := HK1.out; have := HJ2.out; omega
                        case rel => exact ⟨(y146), (wrap64 (x6_1 + 1)), (wrap64 (x6_1 + 1)), (by first | rfl | exact congrArg (Value.int .i64) (i64_w _) | (simp; done) | (simp [*]; done)), (by first | rfl | exact congrArg (Value.int .i64) (i64_w _) | (simp; done) | (simp [*]; done)), H', ⟨by have := HK1.out; have := HJ2.out; omega⟩, ⟨by (with_reducible repeat (first | apply Kd.R_alloc | apply Kd.R_drewN | apply Kd.R_drew)); exact HO148.out⟩, ⟨by repeat (first | (with_reducible first | exact HB.out | apply below_alloc | apply pw_below_drewN | apply below_drew1) | exact HB.out)⟩⟩
                      · rw [if_neg c13] at H
                        exact absurd H (by simp)
                    · rw [if_neg c12] at H
                      exact absurd H (by simp)
                  · rw [if_neg c11] at H
                    exact absurd H (by simp)
                · rw [if_neg c10] at H
                  exact absurd H (by simp)
              · rw [if_neg c9] at H
                have c9b0 : decide (x5_1 < x6_1) = false := decide_eq_false c9
                clear c9
                have H' := Aside0.mk H
                clear H
                go_wp2
                go_roundg kj2
                case measure => have := HK1.out; have := HJ2.out; omega
                case rel => exact ⟨(x2_1), (wrap64 (x6_1 + 1)), (wrap64 (x6_1 + 1)), (by first | rfl | exact congrArg (Value.int .i64) (i64_w _) | (simp; done) | (simp [*]; done)), (by first | rfl | exact congrArg (Value.int .i64) (i64_w _) | (simp; done) | (simp [*]; done)), H', ⟨by have := HK1.out; have := HJ2.out; omega⟩, ⟨by (with_reducible repeat (first | apply Kd.R_alloc | apply Kd.R_drewN | apply Kd.R_drew)); exact HO_2.out⟩, ⟨by repeat (first | (with_reducible first | exact HB.out | apply below_alloc | apply pw_below_drewN | apply below_drew1) | exact HB.out)⟩⟩
            · replace c8 := Bool.eq_false_iff.mpr c8
              subst c8
              have H1 : (impl_command.l0 kj2 a0 x2_1 (⟨#[]⟩ : ByteArray) x5_1 (wrap64 (x6_1 + 1))) = some (r1, r2, r3) := by rw [if_neg (show ¬ (false = true) by decide)] at H; exact H
              clear H
              have H := H1
              clear H1
              have H' := Aside0.mk H
              clear H
              go_wp2
              go_roundg kj2
              case measure => have := HK1.out; have := HJ2.out; omega
              case rel => exact ⟨(x2_1), (x5_1), (wrap64 (x6_1 + 1)), (by first | rfl | exact congrArg (Value.int .i64) (i64_w _) | (simp; done) | (simp [*]; done)), (by first | rfl | exact congrArg (Value.int .i64) (i64_w _) | (simp; done) | (simp [*]; done)), H', ⟨by have := HK1.out; have := HJ2.out; omega⟩, ⟨by (with_reducible repeat (first | apply Kd.R_alloc | apply Kd.R_drewN | apply Kd.R_drew)); exact HO_2.out⟩, ⟨by repeat (first | (with_reducible first | exact HB.out | apply below_alloc | apply pw_below_drewN | apply below_drew1) | exact HB.out)⟩⟩
      · rw [if_neg c2] at H
        have c2b0 : decide (x6_1 ≤ (a0.size : Int)) = false := decide_eq_false c2
        clear c2
        have HC15 := Aside0.mk H
        clear H
        obtain ⟨Ao16, co16, eo16⟩ := Kd.R_slice HO_2.out
        subst eo16
        go_upto_region 10 with (fail)
        go_cut [54] (fun v54 wc => ∃ (kq : Nat) (x54_14 : Bool), v54 = .bool x54_14 ∧ Aside0 (impl_command.j2 kq x2_1 (⟨#[]⟩ : ByteArray) (x2_1.length : Int) x54_14 = some (r1, r2, r3)) ∧ Aside0 (kq ≤ k1) ∧ Aside0 (Kd.R Kd.string 9 wc w.heap.size (fun _ => True) (.slice Ao16 x2_1.length co16) x2_1) ∧ Aside0 (Below w.heap.size w wc))
        case first =>
          have H := HC15.out
          clear HC15
          by_cases c17 : (x2_1.length : Int) ≥ 2
          · rw [if_pos c17] at H
            have c17b0 : decide (2 ≤ (x2_1.length : Int)) = true := decide_eq_true c17
            have c17b1 : decide (2 ≤ x2_1.length) = true := decide_eq_true (by omega)
            clear c17
            (first | rw [c17b0] | (simp only [i64_w, i32_w]; rw [c17b0]) | skip)
            obtain ⟨ji18, hji18⟩ : ∃ j_ : Int, (wrap64 ((x2_1.length : Int) - 2)) = j_ := ⟨_, rfl⟩
            replace H : (if 0 ≤ (ji18) then (if (ji18) < (x2_1.length : Int) then (impl_command.j2 k1 x2_1 (⟨#[]⟩ : ByteArray) (x2_1.length : Int) ((rdOf ByteArray.empty x2_1 (ji18)).toList == ([62] : List UInt8))) else (none)) else (none)) = some (r1, r2, r3) := by first | (rw [hji18] at H; exact H) | (simp only [hji18] at H ⊢; exact H)
            have hji18w : (IntKind.i64.wrap ((x2_1.length : Int) - 2)) = ji18 := (i64_w _).trans hji18
            by_cases c19 : 0 ≤ (ji18)
            · rw [if_pos c19] at H
              have c19b0 : decide (0 ≤ (ji18)) = true := decide_eq_true c19
              clear c19
              by_cases c20 : (ji18) < (x2_1.length : Int)
              · rw [if_pos c20] at H
                have c20b0 : decide ((ji18) < (x2_1.length : Int)) = true := decide_eq_true c20
                clear c20
                have H' := Aside0.mk H
                clear H
                have p149 : 0 ≤ ((ji18) : Int) := of_decide_eq_true (by first | (with_reducible assumption) | assumption)
                have q149 : (ji18) < (x2_1.length : Int) := of_decide_eq_true (by first | (with_reducible assumption) | assumption)
                obtain ⟨ad149, e149, hx149_0⟩ := Kd.at_string (Kd.R_reads' HO_2.out).2.2 (ji18) p149 q149
                cases e149
                replace p149 := eq_true p149
                replace q149 := eq_true q149
                go_wp2
                go_meet
                case rel => exact ⟨_, (((rdOf ByteArray.empty x2_1 (ji18)).toList == ([62] : List UInt8))), (by first | rfl | (simp; done) | (simp only [← hji18] <;> (first | rfl | simp)) | (simp [*]; done)), H', ⟨by have := HK1.out; first | omega | exact Nat.le_refl _⟩, ⟨by (with_reducible repeat (first | apply Kd.R_alloc | apply Kd.R_drewN | apply Kd.R_drew)); exact HO_2.out⟩, ⟨by repeat (first | (with_reducible first | exact HB.out | apply below_alloc | apply pw_below_drewN | apply below_drew1) | exact HB.out)⟩⟩
              · rw [if_neg c20] at H
                exact absurd H (by simp)
            · rw [if_neg c19] at H
              exact absurd H (by simp)
          · rw [if_neg c17] at H
            have c17b0 : decide (2 ≤ (x2_1.length : Int)) = false := decide_eq_false c17
            have c17b1 : decide (2 ≤ x2_1.length) = false := decide_eq_false (by omega)
            clear c17
            (first | rw [c17b0] | (simp only [i64_w, i32_w]; rw [c17b0]) | skip)
            have H' := Aside0.mk H
            clear H
            go_wp2
            go_meet
            case rel => exact ⟨_, (false), (by first | rfl | exact congrArg (Value.int .i64) (i64_w _) | (simp; done) | (simp [*]; done)), H', ⟨by have := HK1.out; first | omega | exact Nat.le_refl _⟩, ⟨by (with_reducible repeat (first | apply Kd.R_alloc | apply Kd.R_drewN | apply Kd.R_drew)); exact HO_2.out⟩, ⟨by repeat (first | (with_reducible first | exact HB.out | apply below_alloc | apply pw_below_drewN | apply below_drew1) | exact HB.out)⟩⟩
        case rest =>
          clear HC15
          try clear c1
          try clear p1
          try clear q1
          try clear hx1
          try clear c2
          try clear c2b0
          try clear p2
          try clear c3
          try clear c4
          try clear c4b0
          try clear c4b1
          try clear c5
          try clear c5b0
          try clear c6
          try clear c6b0
          try clear p6
          try clear p7
          try clear q7
          try clear hx7
          try clear c8
          try clear c9
          try clear c9b0
          try clear c10
          try clear c10b0
          try clear c10b1
          try clear c11
          try clear c11b0
          try clear c11b1
          try clear c12
          try clear c12b0
          try clear c12b1
          try clear c13
          try clear p14
          try clear q14
          try clear hx14
          try clear c17
          try clear c17b0
          try clear c17b1
          try clear c19
          try clear c19b0
          try clear c20
          try clear c20b0
          try clear hx149_0
          try clear p149
          try clear p2
          try clear p7
          try clear q149
          try clear q7
          obtain ⟨kq, x54_14, rfl, HA, HJ14, HO_2, HB⟩ := hcut
          cases kq with
          | zero => exact absurd HA.out (by simp [impl_command.j2])
          | succ kj14 =>
            have H := HA.out
            clear HA
            simp only [impl_command.j2] at H
            have HC21 := Aside0.mk H
            clear H
            go_upto_if 54 with (fail)
            go_cut [2, 3] (fun v2 v3 wc => ∃ (kq : Nat) (x2_20 : List ByteArray) (x3_20 : ByteArray), v3 = .string x3_20 ∧ Aside0 (impl_command.j3 kq x2_20 x3_20 = some (r1, r2, r3)) ∧ Aside0 (kq ≤ kj14) ∧ Aside0 (Kd.R Kd.string 9 wc w.heap.size (fun _ => True) v2 x2_20) ∧ Aside0 (Below w.heap.size w wc))
            case first => as_aux_lemma =>
              have H := HC21.out
              clear HC21
              by_cases c22 : x54_14 = true
              · subst c22
                have H1 : (if 0 ≤ (wrap64 ((x2_1.length : Int) - 1)) then (if (wrap64 ((x2_1.length : Int) - 1)) < (x2_1.length : Int) then (if 0 ≤ (wrap64 ((x2_1.length : Int) - 2)) then (if (wrap64 ((x2_1.length : Int) - 2)) ≤ (x2_1.length : Int) then (impl_command.j3 kj14 (x2_1.take ((wrap64 ((x2_1.length : Int) - 2)) : Int).toNat) (rdOf ByteArray.empty x2_1 (wrap64 ((x2_1.length : Int) - 1)))) else (none)) else (none)) else (none)) else (none)) = some (r1, r2, r3) := by rw [if_pos rfl] at H; exact H
                clear H
                have H := H1
                clear H1
                obtain ⟨ji23, hji23⟩ : ∃ j_ : Int, (wrap64 ((x2_1.length : Int) - 1)) = j_ := ⟨_, rfl⟩
                replace H : (if 0 ≤ (ji23) then (if (ji23) < (x2_1.length : Int) then (if 0 ≤ (wrap64 ((x2_1.length : Int) - 2)) then (if (wrap64 ((x2_1.length : Int) - 2)) ≤ (x2_1.length : Int) then (impl_command.j3 kj14 (x2_1.take ((wrap64 ((x2_1.length : Int) - 2)) : Int).toNat) (rdOf ByteArray.empty x2_1 (ji23))) else (none)) else (none)) else (none)) else (none)) = some (r1, r2, r3) := by first | (rw [hji23] at H; exact H) | (simp only [hji23] at H ⊢; exact H)
                have hji23w : (IntKind.i64.wrap ((x2_1.length : Int) - 1)) = ji23 := (i64_w _).trans hji23
                by_cases c24 : 0 ≤ (ji23)
                · rw [if_pos c24] at H
                  have c24b0 : decide (0 ≤ (ji23)) = true := decide_eq_true c24
                  clear c24
                  (first | rw [c24b0] | (simp only [i64_w, i32_w]; rw [c24b0]) | skip)
                  by_cases c25 : (ji23) < (x2_1.length : Int)
                  · rw [if_pos c25] at H
                    have c25b0 : decide ((ji23) < (x2_1.length : Int)) = true := decide_eq_true c25
                    clear c25
                    obtain ⟨ji26, hji26⟩ : ∃ j_ : Int, (wrap64 ((x2_1.length : Int) - 2)) = j_ := ⟨_, rfl⟩
                    replace H : (if 0 ≤ (ji26) then (if (ji26) ≤ (x2_1.length : Int) then (impl_command.j3 kj14 (x2_1.take ((ji26) : Int).toNat) (rdOf ByteArray.empty x2_1 (ji23))) else (none)) else (none)) = some (r1, r2, r3) := by first | (rw [hji26] at H; exact H) | (simp only [hji26] at H ⊢; exact H)
                    have hji26w : (IntKind.i64.wrap ((x2_1.length : Int) - 2)) = ji26 := (i64_w _).trans hji26
                    by_cases c27 : 0 ≤ (ji26)
                    · rw [if_pos c27] at H
                      have c27b0 := eq_true c27
                      have c27b1 : decide (0 ≤ (ji26)) = true := decide_eq_true c27
                      clear c27
                      by_cases c28 : (ji26) ≤ (x2_1.length : Int)
                      · rw [if_pos c28] at H
                        have c28b0 := eq_true c28
                        have c28b1 : decide ((ji26) ≤ (x2_1.length : Int)) = true := decide_eq_true c28
                        clear c28
                        obtain ⟨y151, hy151⟩ : ∃ y_ : List ByteArray, y_ = (x2_1.take ((ji26) : Int).toNat) := ⟨_, rfl⟩
                        replace H : (impl_command.j3 kj14 y151 (rdOf ByteArray.empty x2_1 (ji23))) = some (r1, r2, r3) := by first | (rw [hy151]; with_reducible exact H) | (have H2_ := (Option.bind_some _ _).symm.trans H; rw [hy151]; with_reducible exact H2_) | (have H2_ := (Option.bind_some _ _).symm.trans H; with_reducible exact H2_) | with_reducible exact H | (rw [hy151]; exact H) | exact H
                        have Ny151 := Aside0.mk hy151
                        clear hy151
                        have H' := Aside0.mk H
                        clear H
                        have p150 : 0 ≤ ((ji23) : Int) := of_decide_eq_true (by first | (with_reducible assumption) | assumption)
                        have q150 : (ji23) < (x2_1.length : Int) := of_decide_eq_true (by first | (with_reducible assumption) | assumption)
                        obtain ⟨ad150, e150, hx150_0⟩ := Kd.at_string (Kd.R_reads' HO_2.out).2.2 (ji23) p150 q150
                        cases e150
                        replace p150 := eq_true p150
                        replace q150 := eq_true q150
                        have q29 : ((ji26) : Int) ≤ ((x2_1.length : Int) : Int) := of_decide_eq_true (by first | (with_reducible assumption) | assumption)
                        obtain ⟨i029, hi029, _, hsz29, _⟩ := info_parts info9
                        have hcut29 := cut_to (P := Try.prog) 61 9 .i64 Try.underlying61 hi029 (some ad150) x2_1.length co16 (ji26) (of_decide_eq_true (by first | (with_reducible assumption) | assumption)) q29 (Kd.R_reads' HO_2.out).2.1
                        have hr29 := Kd.R_take (m := ((ji26) : Int).toNat) HO_2.out (by omega)
                        have hy29 : y151.length = ((ji26) : Int).toNat := (by rw [Ny151.out, List.length_take]; omega)
                        rw [← Ny151.out] at hr29
                        rw [← hy29] at hr29 hcut29
                        clear hy29 hi029 hsz29 HO_2
                        have HO153 := Aside0.mk hr29
                        clear hr29
                        replace q29 := eq_true q29
                        go_wp2
                        go_meet
                        case rel => exact ⟨_, (y151), (rdOf ByteArray.empty x2_1 (ji23)), (by first | rfl | (simp; done) | (simp only [← hji23] <;> (first | rfl | simp)) | (simp [*]; done)), H', ⟨by have := HK1.out; have := HJ14.out; first | omega | exact Nat.le_refl _⟩, ⟨by (with_reducible repeat (first | apply Kd.R_alloc | apply Kd.R_drewN | apply Kd.R_drew)); exact HO153.out⟩, ⟨by repeat (first | (with_reducible first | exact HB.out | apply below_alloc | apply pw_below_drewN | apply below_drew1) | exact HB.out)⟩⟩
                      · rw [if_neg c28] at H
                        exact absurd H (by simp)
                    · rw [if_neg c27] at H
                      exact absurd H (by simp)
                  · rw [if_neg c25] at H
                    exact absurd H (by simp)
                · rw [if_neg c24] at H
                  exact absurd H (by simp)
              · replace c22 := Bool.eq_false_iff.mpr c22
                subst c22
                have H1 : (impl_command.j3 kj14 x2_1 (⟨#[]⟩ : ByteArray)) = some (r1, r2, r3) := by rw [if_neg (show ¬ (false = true) by decide)] at H; exact H
                clear H
                have H := H1
                clear H1
                have H' := Aside0.mk H
                clear H
                go_wp2
                go_meet
                case rel => exact ⟨_, (x2_1), ((⟨#[]⟩ : ByteArray)), (by first | rfl | exact congrArg (Value.int .i64) (i64_w _) | (simp; done) | (simp [*]; done)), H', ⟨by have := HK1.out; have := HJ14.out; first | omega | exact Nat.le_refl _⟩, ⟨by (with_reducible repeat (first | apply Kd.R_alloc | apply Kd.R_drewN | apply Kd.R_drew)); exact HO_2.out⟩, ⟨by repeat (first | (with_reducible first | exact HB.out | apply below_alloc | apply pw_below_drewN | apply below_drew1) | exact HB.out)⟩⟩
            case rest => as_aux_lemma =>
              clear HC21
              try clear c1
              try clear p1
              try clear q1
              try clear hx1
              try clear c2
              try clear c2b0
              try clear p2
              try clear q2
              try clear c3
              try clear c4
              try clear c4b0
              try clear c4b1
              try clear c5
              try clear c5b0
              try clear c6
              try clear c6b0
              try clear p6
              try clear p7
              try clear q7
              try clear hx7
              try clear c8
              try clear c9
              try clear c9b0
              try clear c10
              try clear c10b0
              try clear c10b1
              try clear c11
              try clear c11b0
              try clear c11b1
              try clear c12
              try clear c12b0
              try clear c12b1
              try clear c13
              try clear p14
              try clear q14
              try clear hx14
              try clear p15
              try clear q15
              try clear hx15
              try clear c17
              try clear c17b0
              try clear c17b1
              try clear c19
              try clear c19b0
              try clear c20
              try clear c20b0
              try clear c22
              try clear c24
              try clear c24b0
              try clear c25
              try clear c25b0
              try clear c27
              try clear c27b0
              try clear c27b1
              try clear c28
              try clear c28b0
              try clear c28b1
              try clear q29
              try clear hx149_0
              try clear hx150_0
              try clear p1
              try clear p14
              try clear p149
              try clear p150
              try clear p2
              try clear p6
              try clear p7
              try clear q1
              try clear q14
              try clear q149
              try clear q150
              try clear q29
              try clear q7
              obtain ⟨kq, x2_20, x3_20, rfl, HA, HJ20, HO_2, HB⟩ := hcut
              cases kq with
              | zero => exact absurd HA.out (by simp [impl_command.j3])
              | succ kj20 =>
                have H := HA.out
                clear HA
                simp only [impl_command.j3] at H
                by_cases c30 : ([] : List ByteArray).length + x2_20.length < 8796093022208
                · rw [if_pos c30] at H
                  have LMc30 := Aside0.mk c30
                  clear c30
                  obtain ⟨y154, hy154⟩ : ∃ y_ : List ByteArray, y_ = (([] : List ByteArray) ++ x2_20) := ⟨_, rfl⟩
                  replace H : ((impl_b2i.f (x3_20.toList == ([] : List UInt8))).bind fun t157 => (if 0 ≤ t157 then (if t157 ≤ 1 then (if x3_20.size + ((⟨#[97]⟩ : ByteArray).extract 0 (t157 : Int).toNat).size ≤ 9223372036854775807 then (if y154.length < 8796093022208 then ((some (y154 ++ [x3_20 ++ ((⟨#[97]⟩ : ByteArray).extract 0 (t157 : Int).toNat)] : List ByteArray)).bind fun y158 => (impl_command.l1 kj20 x2_20 x3_20 y158 (y158.length : Int) 0)) else (none)) else (none)) else (none)) else (none))) = some (r1, r2, r3) := by first | (rw [hy154]; with_reducible exact H) | (have H2_ := (Option.bind_some _ _).symm.trans H; rw [hy154]; with_reducible exact H2_) | (have H2_ := (Option.bind_some _ _).symm.trans H; with_reducible exact H2_) | with_reducible exact H | (rw [hy154]; exact H) | exact H
                  have Ny154 := Aside0.mk hy154
                  clear hy154
                  replace H := Option.bind_eq_some_iff.mp H
                  obtain ⟨t157, A310, H⟩ := H
                  replace H : (if 0 ≤ t157 then (if t157 ≤ 1 then (if x3_20.size + ((⟨#[97]⟩ : ByteArray).extract 0 (t157 : Int).toNat).size ≤ 9223372036854775807 then (if y154.length < 8796093022208 then ((some (y154 ++ [x3_20 ++ ((⟨#[97]⟩ : ByteArray).extract 0 (t157 : Int).toNat)] : List ByteArray)).bind fun y158 => (impl_command.l1 kj20 x2_20 x3_20 y158 (y158.length : Int) 0)) else (none)) else (none)) else (none)) else (none)) = some (r1, r2, r3) := H
                  have A31 := Aside0.mk A310
                  clear A310
                  by_cases c32 : 0 ≤ t157
                  · rw [if_pos c32] at H
                    have c32b0 := eq_true c32
                    have c32b1 : decide (0 ≤ t157) = true := decide_eq_true c32
                    clear c32
                    by_cases c33 : t157 ≤ 1
                    · rw [if_pos c33] at H
                      have c33b0 := eq_true c33
                      have c33b1 : decide (t157 ≤ 1) = true := decide_eq_true c33
                      clear c33
                      by_cases c34 : x3_20.size + ((⟨#[97]⟩ : ByteArray).extract 0 (t157 : Int).toNat).size ≤ 9223372036854775807
                      · rw [if_pos c34] at H
                        have c34b0 := eq_true c34
                        have c34b1 : decide (x3_20.size + ((⟨#[97]⟩ : ByteArray).extract 0 (t157 : Int).toNat).size ≤ 9223372036854775807) = true := decide_eq_true c34
                        try have c34b2 : (9223372036854775807 < x3_20.size + ((⟨#[97]⟩ : ByteArray).extract 0 (t157 : Int).toNat).size) = False := eq_false (Nat.not_lt.2 c34)
                        by_cases c35 : y154.length < 8796093022208
                        · rw [if_pos c35] at H
                          have LMc35 := Aside0.mk c35
                          clear c35
                          obtain ⟨y158, hy158⟩ : ∃ y_ : List ByteArray, y_ = (y154 ++ [x3_20 ++ ((⟨#[97]⟩ : ByteArray).extract 0 (t157 : Int).toNat)]) := ⟨_, rfl⟩
                          replace H : (impl_command.l1 kj20 x2_20 x3_20 y158 (y158.length : Int) 0) = some (r1, r2, r3) := by first | (rw [hy158]; with_reducible exact H) | (have H2_ := (Option.bind_some _ _).symm.trans H; rw [hy158]; with_reducible exact H2_) | (have H2_ := (Option.bind_some _ _).symm.trans H; with_reducible exact H2_) | with_reducible exact H | (rw [hy158]; exact H) | exact H
                          have Ny158 := Aside0.mk hy158
                          clear hy158
                          have H' := Aside0.mk H
                          clear H
                          obtain ⟨Ao37, co37, eo37⟩ := Kd.R_slice HO_2.out
                          subst eo37
                          go_wp2_with (first | ((with_reducible refine gate_builtin (b := .append) (xs := #[.const (.slice none 0 0), .tmp 64]) rfl ?_); at_builtin; refine Kd.R_append_rows Kd.string (w0 := w) w.heap.size rfl (.const (.slice none 0 0)) (.tmp 64) 61 9 (.string ⟨#[]⟩) 16 rfl Try.underlying61 info9 rfl (by decide) (by omega) (.slice none 0 0) ([] : List ByteArray) x2_20 _ _ _ (fun k_ => some k_ ≠ (.slice Ao37 x2_20.length co37 : Value).ownBlock) (fun _ => False) rfl rfl ?aO ?aR (fun _ _ h => h) (fun _ h => h.elim) ?aF ?aB ?aS ?aL ?_; (case aR => repeat (first | exact (Kd.R_reads' HO_2.out).2.2 | (with_reducible refine Kd.C_alloc ?_ _) | (with_reducible refine Kd.C_drewN ?_ _) | (with_reducible refine Kd.C_drew ?_))); (case aB => exact (by repeat (first | (with_reducible first | exact HB.out | apply below_alloc | apply pw_below_drewN | apply below_drew1) | exact HB.out))); (case aF => exact (fun k_ hk => Kd.fresh' (Kd.R_lt (by (with_reducible repeat (first | apply Kd.R_alloc | apply Kd.R_drewN | apply Kd.R_drew)); exact HO_2.out)) k_ hk)); (case aO => exact ((Kd.R_nil _ _ _ _ (fun k_ => some k_ ≠ (.slice Ao37 x2_20.length co37 : Value).ownBlock)))); (case aS => exact (below_size (by repeat (first | (with_reducible first | exact HB.out | apply below_alloc | apply pw_below_drewN | apply below_drew1) | exact HB.out)))); (case aL => have := LMc30.out; omega); intro v155 w36 ho hb hg hat; rw [← Ny154.out] at ho; have n0_ := Aside0.mk (Kd.R_after (Kd.R_apart_nil (by (with_reducible repeat (first | apply Kd.R_alloc | apply Kd.R_drewN | apply Kd.R_drew)); exact HO_2.out)) hg hat); have n1_ := Aside0.mk (hb); have n2_ := Aside0.mk (ho); clear HO_2; clear HB; have HO_2 := n0_; have HB := n1_; have HO156 := n2_; clear n0_ n1_ n2_; clear ho hb hg hat) | ((with_reducible refine gate_callee (f := 54) rfl ?_); refine goesL_ (some 69) rfl rfl Try.func54 (by kernel_rfl) rfl #[.bool x3_20.toList.isEmpty] rfl (by (try simp only [List.map_toArray, List.map_cons, List.map_nil]); first | done | rfl | (simp only [List.length_drop, List.length_take]; rfl)) ?_; (with_reducible refine (impl_b2i.calls (x3_20.toList.isEmpty) t157 _ (by have h_ := A31.out; rwa [impl_command.nil_beq] at h_)).mono ?_); rintro e w' ⟨rfl, ⟨nd, rfl⟩⟩; refine ⟨_, rfl, ?_⟩) | ((with_reducible refine gate_builtin (b := .append) (xs := #[.tmp 65, .tmp 72]) rfl ?_); at_builtin; refine Kd.R_append Kd.string (w0 := w) w.heap.size rfl (.tmp 65) (.tmp 72) 61 9 (.string ⟨#[]⟩) 16 rfl Try.underlying61 info9 rfl (by decide) (by omega) v155 y154 (x3_20 ++ ((⟨#[97]⟩ : ByteArray).extract 0 (t157 : Int).toNat)) [.string (x3_20 ++ ((⟨#[97]⟩ : ByteArray).extract 0 (t157 : Int).toNat))] (fun k_ => some k_ ≠ (.slice Ao37 x2_20.length co37 : Value).ownBlock) (fun _ => False) rfl rfl ?aP (fun _ hk => hk.elim) ?aF ?aO ?aB ?aS ?aL ?_; (case aP => exact rfl); (case aB => exact (by repeat (first | (with_reducible first | exact HB.out | apply below_alloc | apply pw_below_drewN | apply below_drew1) | exact HB.out))); (case aF => exact (fun k_ hk => Kd.fresh' (Kd.R_lt (by (with_reducible repeat (first | apply Kd.R_alloc | apply Kd.R_drewN | apply Kd.R_drew)); exact HO_2.out)) k_ hk)); (case aO => exact (by (with_reducible repeat (first | apply Kd.R_alloc | apply Kd.R_drewN | apply Kd.R_drew)); exact HO156.out)); (case aS => exact (below_size (by repeat (first | (with_reducible first | exact HB.out | apply below_alloc | apply pw_below_drewN | apply below_drew1) | exact HB.out)))); (case aL => have := LMc35.out; omega); intro v159 w38 ho hb hg hat; rw [← Ny158.out] at ho; have n0_ := Aside0.mk (Kd.R_after (ok := (fun _ => True)) (by (with_reducible repeat (first | apply Kd.R_alloc | apply Kd.R_drewN | apply Kd.R_drew)); exact HO_2.out) hg hat); have n1_ := Aside0.mk (hb); have n2_ := Aside0.mk (ho); clear HO_2; clear HB; clear HO156; have HO_2 := n0_; have HB := n1_; have HO160 := n2_; clear n0_ n1_ n2_; clear ho hb hg hat; obtain ⟨Ao39, co39, eo39⟩ := Kd.R_slice HO160.out; subst eo39))
                          go_loopg [2, 3, 75] kj20 (fun kq v2 v3 v75 w' => ∃ (x2_4 : List ByteArray) (x3_4 : ByteArray) (x75_4 : Int), v3 = .string x3_4 ∧ v75 = .int .i64 x75_4 ∧ Aside0 (impl_command.l1 kq x2_4 x3_4 y158 (y158.length : Int) x75_4 = some (r1, r2, r3)) ∧ Aside0 (kq ≤ kj20) ∧ Aside0 (Kd.R Kd.string 9 w' w.heap.size (fun k_ => some k_ ≠ ((.slice Ao39 y158.length co39) : Value).ownBlock) v2 x2_4) ∧ Aside0 (Kd.R Kd.string 9 w' w.heap.size (fun k_ => some k_ ≠ (v2 : Value).ownBlock) (.slice Ao39 y158.length co39) y158) ∧ Aside0 (Below w.heap.size w w'))
                          case atStart => exact ⟨(x2_20), (x3_20), (0), (by first | rfl | exact congrArg (Value.int .i64) (i64_w _) | (simp; done) | (simp [*]; done)), (by first | rfl | exact congrArg (Value.int .i64) (i64_w _) | (simp; done) | (simp [*]; done)), H', ⟨Nat.le_refl _⟩, ⟨by (with_reducible repeat (first | apply Kd.R_alloc | apply Kd.R_drewN | apply Kd.R_drew)); exact Kd.R_mono HO_2.out (fun _ hk => hk.2)⟩, ⟨by (with_reducible repeat (first | apply Kd.R_alloc | apply Kd.R_drewN | apply Kd.R_drew)); exact HO160.out⟩, ⟨by repeat (first | (with_reducible first | exact HB.out | apply below_alloc | apply pw_below_drewN | apply below_drew1) | exact HB.out)⟩⟩
                          case round =>
                            clear H'
                            try clear c1
                            try clear p1
                            try clear q1
                            try clear hx1
                            try clear c2
                            try clear c2b0
                            try clear p2
                            try clear q2
                            try clear c3
                            try clear c4
                            try clear c4b0
                            try clear c4b1
                            try clear c5
                            try clear c5b0
                            try clear c6
                            try clear c6b0
                            try clear p6
                            try clear p7
                            try clear q7
                            try clear hx7
                            try clear c8
                            try clear c9
                            try clear c9b0
                            try clear c10
                            try clear c10b0
                            try clear c10b1
                            try clear c11
                            try clear c11b0
                            try clear c11b1
                            try clear c12
                            try clear c12b0
                            try clear c12b1
                            try clear c13
                            try clear p14
                            try clear q14
                            try clear hx14
                            try clear p15
                            try clear q15
                            try clear hx15
                            try clear c17
                            try clear c17b0
                            try clear c17b1
                            try clear c19
                            try clear c19b0
                            try clear c20
                            try clear c20b0
                            try clear c22
                            try clear c24
                            try clear c24b0
                            try clear c25
                            try clear c25b0
                            try clear c27
                            try clear c27b0
                            try clear c27b1
                            try clear c28
                            try clear c28b0
                            try clear c28b1
                            try clear q29
                            try clear c30
                            try clear c32
                            try clear c32b0
                            try clear c32b1
                            try clear c33
                            try clear c33b0
                            try clear c33b1
                            try clear c34
                            try clear c34b0
                            try clear c34b1
                            try clear c34b2
                            try clear c35
                            try clear c38
                            try clear hx149_0
                            try clear hx150_0
                            try clear p1
                            try clear p14
                            try clear p149
                            try clear p15
                            try clear p150
                            try clear p2
                            try clear p6
                            try clear p7
                            try clear q1
                            try clear q14
                            try clear q149
                            try clear q15
                            try clear q150
                            try clear q2
                            try clear q29
                            try clear q7
                            obtain ⟨x2_4, x3_4, x75_4, rfl, rfl, HA, HK4, HO_2, HO_73, HB⟩ := hrel
                            cases gk with
                            | zero => exact absurd HA.out (by simp [impl_command.l1])
                            | succ k4 =>
                              have H := HA.out
                              clear HA
                              simp only [impl_command.l1] at H
                              by_cases c40 : x75_4 < (y158.length : Int)
                              · rw [if_pos c40] at H
                                have c40b0 : decide (x75_4 < (y158.length : Int)) = true := decide_eq_true c40
                                clear c40
                                by_cases c41 : 0 ≤ x75_4
                                · rw [if_pos c41] at H
                                  have c41b0 : decide (0 ≤ x75_4) = true := decide_eq_true c41
                                  clear c41
                                  by_cases c42 : x75_4 < (y158.length : Int)
                                  · rw [if_pos c42] at H
                                    have c42b0 : decide (x75_4 < (y158.length : Int)) = true := decide_eq_true c42
                                    clear c42
                                    by_cases c43 : ((rdOf ByteArray.empty y158 x75_4).size : Int) > 20
                                    · rw [if_pos c43] at H
                                      have c43b0 : decide (20 < ((rdOf ByteArray.empty y158 x75_4).size : Int)) = true := decide_eq_true c43
                                      have c43b1 : decide (20 < (rdOf ByteArray.empty y158 x75_4).size) = true := decide_eq_true (by omega)
                                      clear c43
                                      simp only [Option.some.injEq, Prod.mk.injEq] at H
                                      obtain ⟨rfl, rfl, rfl⟩ := H
                                      have p161 : 0 ≤ (x75_4 : Int) := of_decide_eq_true (by first | (with_reducible assumption) | assumption)
                                      have q161 : x75_4 < (y158.length : Int) := of_decide_eq_true (by first | (with_reducible assumption) | assumption)
                                      obtain ⟨ad161, e161, hx161_0⟩ := Kd.at_string (Kd.R_reads' HO_73.out).2.2 x75_4 p161 q161
                                      cases e161
                                      replace p161 := eq_true p161
                                      replace q161 := eq_true q161
                                      go_wp2
                                      go_ret3
                                      exact ⟨_, by first | rfl | (simp [errW_none, errW_some] <;> rfl) | (simp [*, errW_none, errW_some] <;> rfl), by first | exact Kd.R_nil _ _ _ _ _ | exact Kd.N_nil _ _ _ _ _ | exact Kd.V_nil _ _ _ _ _ | exact Kd.Q_nil _ _ _ _ _ | exact Kd.S_nil _ _ _ _ _, by repeat (first | (with_reducible first | exact HB.out | apply below_alloc | apply pw_below_drewN | apply below_drew1) | exact HB.out)⟩
                                    · rw [if_neg c43] at H
                                      have c43b0 : decide (20 < ((rdOf ByteArray.empty y158 x75_4).size : Int)) = false := decide_eq_false c43
                                      have c43b1 : decide (20 < (rdOf ByteArray.empty y158 x75_4).size) = false := decide_eq_false (by omega)
                                      clear c43
                                      have H' := Aside0.mk H
                                      clear H
                                      have p161 : 0 ≤ (x75_4 : Int) := of_decide_eq_true (by first | (with_reducible assumption) | assumption)
                                      have q161 : x75_4 < (y158.length : Int) := of_decide_eq_true (by first | (with_reducible assumption) | assumption)
                                      obtain ⟨ad161, e161, hx161_0⟩ := Kd.at_string (Kd.R_reads' HO_73.out).2.2 x75_4 p161 q161
                                      cases e161
                                      replace p161 := eq_true p161
                                      replace q161 := eq_true q161
                                      go_wp2
                                      go_loopg [2, 3, 84] k4 (fun kq v2 v3 v84 w' => ∃ (x2_5 : List ByteArray) (x3_5 : ByteArray) (x84_5 : Int), v3 = .string x3_5 ∧ v84 = .int .i64 x84_5 ∧ Aside0 (impl_command.l2 kq x2_5 x3_5 (rdOf ByteArray.empty y158 x75_4) y158 (y158.length : Int) x75_4 ((rdOf ByteArray.empty y158 x75_4).size : Int) x84_5 = some (r1, r2, r3)) ∧ Aside0 (kq ≤ k4) ∧ Aside0 (Kd.R Kd.string 9 w' w.heap.size (fun k_ => some k_ ≠ ((.slice (some ad161) y158.length co39) : Value).ownBlock) v2 x2_5) ∧ Aside0 (Kd.R Kd.string 9 w' w.heap.size (fun k_ => some k_ ≠ (v2 : Value).ownBlock) (.slice (some ad161) y158.length co39) y158) ∧ Aside0 (Below w.heap.size w w'))
                                      case atStart => exact ⟨(x2_4), (x3_4), (0), (by first | rfl | exact congrArg (Value.int .i64) (i64_w _) | (simp; done) | (simp [*]; done)), (by first | rfl | exact congrArg (Value.int .i64) (i64_w _) | (simp; done) | (simp [*]; done)), H', ⟨Nat.le_refl _⟩, ⟨by (with_reducible repeat (first | apply Kd.R_alloc | apply Kd.R_drewN | apply Kd.R_drew)); exact HO_2.out⟩, ⟨by (with_reducible repeat (first | apply Kd.R_alloc | apply Kd.R_drewN | apply Kd.R_drew)); exact HO_73.out⟩, ⟨by repeat (first | (with_reducible first | exact HB.out | apply below_alloc | apply pw_below_drewN | apply below_drew1) | exact HB.out)⟩⟩
                                      case round =>
                                        clear H'
                                        try clear c1
                                        try clear p1
                                        try clear q1
                                        try clear hx1
                                        try clear c2
                                        try clear c2b0
                                        try clear p2
                                        try clear q2
                                        try clear c3
                                        try clear c4
                                        try clear c4b0
                                        try clear c4b1
                                        try clear c5
                                        try clear c5b0
                                        try clear c6
                                        try clear c6b0
                                        try clear p6
                                        try clear p7
                                        try clear q7
                                        try clear hx7
                                        try clear c8
                                        try clear c9
                                        try clear c9b0
                                        try clear c10
                                        try clear c10b0
                                        try clear c10b1
                                        try clear c11
                                        try clear c11b0
                                        try clear c11b1
                                        try clear c12
                                        try clear c12b0
                                        try clear c12b1
                                        try clear c13
                                        try clear p14
                                        try clear q14
                                        try clear hx14
                                        try clear p15
                                        try clear q15
                                        try clear hx15
                                        try clear p16
                                        try clear q16
                                        try clear hx16
                                        try clear c17
                                        try clear c17b0
                                        try clear c17b1
                                        try clear c19
                                        try clear c19b0
                                        try clear c20
                                        try clear c20b0
                                        try clear c22
                                        try clear c24
                                        try clear c24b0
                                        try clear c25
                                        try clear c25b0
                                        try clear c27
                                        try clear c27b0
                                        try clear c27b1
                                        try clear c28
                                        try clear c28b0
                                        try clear c28b1
                                        try clear q29
                                        try clear c30
                                        try clear c32
                                        try clear c32b0
                                        try clear c32b1
                                        try clear c33
                                        try clear c33b0
                                        try clear c33b1
                                        try clear c34
                                        try clear c34b0
                                        try clear c34b1
                                        try clear c34b2
                                        try clear c35
                                        try clear c38
                                        try clear c40
                                        try clear c40b0
                                        try clear c41
                                        try clear c41b0
                                        try clear c42
                                        try clear c42b0
                                        try clear c43
                                        try clear c43b0
                                        try clear c43b1
                                        try clear hx149_0
                                        try clear hx150_0
                                        try clear hx161_0
                                        try clear p1
                                        try clear p14
                                        try clear p149
                                        try clear p15
                                        try clear p150
                                        try clear p161
                                        try clear p2
                                        try clear p6
                                        try clear p7
                                        try clear q1
                                        try clear q14
                                        try clear q149
                                        try clear q15
                                        try clear q150
                                        try clear q161
                                        try clear q2
                                        try clear q29
                                        try clear q7
                                        obtain ⟨x2_5, x3_5, x84_5, rfl, rfl, HA, HK5, HO_2, HO_73, HB⟩ := hrel
                                        cases gk with
                                        | zero => exact absurd HA.out (by simp [impl_command.l2])
                                        | succ k5 =>
                                          have H := HA.out
                                          clear HA
                                          simp only [impl_command.l2] at H
                                          by_cases c44 : x84_5 < ((rdOf ByteArray.empty y158 x75_4).size : Int)
                                          · rw [if_pos c44] at H
                                            have c44b0 : decide (x84_5 < ((rdOf ByteArray.empty y158 x75_4).size : Int)) = true := decide_eq_true c44
                                            clear c44
                                            by_cases c45 : 0 ≤ x84_5
                                            · rw [if_pos c45] at H
                                              have c45b0 : decide (0 ≤ x84_5) = true := decide_eq_true c45
                                              clear c45
                                              by_cases c46 : x84_5 < ((rdOf ByteArray.empty y158 x75_4).size : Int)
                                              · rw [if_pos c46] at H
                                                have c46b0 : decide (x84_5 < ((rdOf ByteArray.empty y158 x75_4).size : Int)) = true := decide_eq_true c46
                                                clear c46
                                                by_cases c48 : (bt (rdOf ByteArray.empty y158 x75_4) x84_5) ≥ 97
                                                · rw [if_pos c48] at H
                                                  have c48b0 : decide (97 ≤ (bt (rdOf ByteArray.empty y158 x75_4) x84_5)) = true := decide_eq_true c48
                                                  clear c48
                                                  by_cases c49 : (bt (rdOf ByteArray.empty y158 x75_4) x84_5) ≤ 122
                                                  · rw [if_pos c49] at H
                                                    have c49b0 : decide ((bt (rdOf ByteArray.empty y158 x75_4) x84_5) ≤ 122) = true := decide_eq_true c49
                                                    clear c49
                                                    have H' := Aside0.mk H
                                                    clear H
                                                    have p47 : 0 ≤ (x84_5 : Int) := of_decide_eq_true (by first | (with_reducible assumption) | assumption)
                                                    have q47 : x84_5 < ((rdOf ByteArray.empty y158 x75_4).size : Int) := of_decide_eq_true (by first | (with_reducible assumption) | assumption)
                                                    have hx47 := bt_at (rdOf ByteArray.empty y158 x75_4) x84_5
                                                    replace p47 := eq_true p47
                                                    replace q47 := eq_true q47
                                                    go_wp2
                                                    go_roundg k5
                                                    case measure => have := HK1.out; have := HJ14.out; have := HJ20.out; have := HK4.out; have := HK5.out; omega
                                                    case rel => exact ⟨(x2_5), (x3_5), (wrap64 (x84_5 + 1)), (by first | rfl | exact congrArg (Value.int .i64) (i64_w _) | (simp; done) | (simp [*]; done)), (by first | rfl | exact congrArg (Value.int .i64) (i64_w _) | (simp; done) | (simp [*]; done)), H', ⟨by have := HK1.out; have := HJ14.out; have := HJ20.out; have := HK4.out; have := HK5.out; omega⟩, ⟨by (with_reducible repeat (first | apply Kd.R_alloc | apply Kd.R_drewN | apply Kd.R_drew)); exact HO_2.out⟩, ⟨by (with_reducible repeat (first | apply Kd.R_alloc | apply Kd.R_drewN | apply Kd.R_drew)); exact HO_73.out⟩, ⟨by repeat (first | (with_reducible first | exact HB.out | apply below_alloc | apply pw_below_drewN | apply below_drew1) | exact HB.out)⟩⟩
                                                  · rw [if_neg c49] at H
                                                    have c49b0 : decide ((bt (rdOf ByteArray.empty y158 x75_4) x84_5) ≤ 122) = false := decide_eq_false c49
                                                    clear c49
                                                    by_cases c50 : (bt (rdOf ByteArray.empty y158 x75_4) x84_5) ≥ 48
                                                    · rw [if_pos c50] at H
                                                      have c50b0 : decide (48 ≤ (bt (rdOf ByteArray.empty y158 x75_4) x84_5)) = true := decide_eq_true c50
                                                      clear c50
                                                      by_cases c51 : (bt (rdOf ByteArray.empty y158 x75_4) x84_5) ≤ 57
                                                      · rw [if_pos c51] at H
                                                        have c51b0 : decide ((bt (rdOf ByteArray.empty y158 x75_4) x84_5) ≤ 57) = true := decide_eq_true c51
                                                        clear c51
                                                        have H' := Aside0.mk H
                                                        clear H
                                                        have p47 : 0 ≤ (x84_5 : Int) := of_decide_eq_true (by first | (with_reducible assumption) | assumption)
                                                        have q47 : x84_5 < ((rdOf ByteArray.empty y158 x75_4).size : Int) := of_decide_eq_true (by first | (with_reducible assumption) | assumption)
                                                        have hx47 := bt_at (rdOf ByteArray.empty y158 x75_4) x84_5
                                                        replace p47 := eq_true p47
                                                        replace q47 := eq_true q47
                                                        go_wp2
                                                        go_roundg k5
                                                        case measure => have := HK1.out; have := HJ14.out; have := HJ20.out; have := HK4.out; have := HK5.out; omega
                                                        case rel => exact ⟨(x2_5), (x3_5), (wrap64 (x84_5 + 1)), (by first | rfl | exact congrArg (Value.int .i64) (i64_w _) | (simp; done) | (simp [*]; done)), (by first | rfl | exact congrArg (Value.int .i64) (i64_w _) | (simp; done) | (simp [*]; done)), H', ⟨by have := HK1.out; have := HJ14.out; have := HJ20.out; have := HK4.out; have := HK5.out; omega⟩, ⟨by (with_reducible repeat (first | apply Kd.R_alloc | apply Kd.R_drewN | apply Kd.R_drew)); exact HO_2.out⟩, ⟨by (with_reducible repeat (first | apply Kd.R_alloc | apply Kd.R_drewN | apply Kd.R_drew)); exact HO_73.out⟩, ⟨by repeat (first | (with_reducible first | exact HB.out | apply below_alloc | apply pw_below_drewN | apply below_drew1) | exact HB.out)⟩⟩
                                                      · rw [if_neg c51] at H
                                                        have c51b0 : decide ((bt (rdOf ByteArray.empty y158 x75_4) x84_5) ≤ 57) = false := decide_eq_false c51
                                                        clear c51
                                                        by_cases c52 : (bt (rdOf ByteArray.empty y158 x75_4) x84_5) = 46
                                                        · rw [if_pos c52] at H
                                                          have c52b0 : ((bt (rdOf ByteArray.empty y158 x75_4) x84_5) == 46) = true := beq_iff_eq.mpr c52
                                                          have c52b1 : ((bt (rdOf ByteArray.empty y158 x75_4) x84_5) != 46) = false := bne_eq_false_iff_eq.mpr c52
                                                          clear c52
                                                          have H' := Aside0.mk H
                                                          clear H
                                                          have p47 : 0 ≤ (x84_5 : Int) := of_decide_eq_true (by first | (with_reducible assumption) | assumption)
                                                          have q47 : x84_5 < ((rdOf ByteArray.empty y158 x75_4).size : Int) := of_decide_eq_true (by first | (with_reducible assumption) | assumption)
                                                          have hx47 := bt_at (rdOf ByteArray.empty y158 x75_4) x84_5
                                                          replace p47 := eq_true p47
                                                          replace q47 := eq_true q47
                                                          go_wp2
                                                          go_roundg k5
                                                          case measure => have := HK1.out; have := HJ14.out; have := HJ20.out; have := HK4.out; have := HK5.out; omega
                                                          case rel => exact ⟨(x2_5), (x3_5), (wrap64 (x84_5 + 1)), (by first | rfl | exact congrArg (Value.int .i64) (i64_w _) | (simp; done) | (simp [*]; done)), (by first | rfl | exact congrArg (Value.int .i64) (i64_w _) | (simp; done) | (simp [*]; done)), H', ⟨by have := HK1.out; have := HJ14.out; have := HJ20.out; have := HK4.out; have := HK5.out; omega⟩, ⟨by (with_reducible repeat (first | apply Kd.R_alloc | apply Kd.R_drewN | apply Kd.R_drew)); exact HO_2.out⟩, ⟨by (with_reducible repeat (first | apply Kd.R_alloc | apply Kd.R_drewN | apply Kd.R_drew)); exact HO_73.out⟩, ⟨by repeat (first | (with_reducible first | exact HB.out | apply below_alloc | apply pw_below_drewN | apply below_drew1) | exact HB.out)⟩⟩
                                                        · rw [if_neg c52] at H
                                                          have c52b0 : ((bt (rdOf ByteArray.empty y158 x75_4) x84_5) == 46) = false := beq_eq_false_iff_ne.mpr c52
                                                          have c52b1 : ((bt (rdOf ByteArray.empty y158 x75_4) x84_5) != 46) = true := bne_iff_ne.mpr c52
                                                          by_cases c53 : (bt (rdOf ByteArray.empty y158 x75_4) x84_5) = 95
                                                          · rw [if_pos c53] at H
                                                            have c53b0 : ((bt (rdOf ByteArray.empty y158 x75_4) x84_5) == 95) = true := beq_iff_eq.mpr c53
                                                            have c53b1 : ((bt (rdOf ByteArray.empty y158 x75_4) x84_5) != 95) = false := bne_eq_false_iff_eq.mpr c53
                                                            clear c53
                                                            have H' := Aside0.mk H
                                                            clear H
                                                            have p47 : 0 ≤ (x84_5 : Int) := of_decide_eq_true (by first | (with_reducible assumption) | assumption)
                                                            have q47 : x84_5 < ((rdOf ByteArray.empty y158 x75_4).size : Int) := of_decide_eq_true (by first | (with_reducible assumption) | assumption)
                                                            have hx47 := bt_at (rdOf ByteArray.empty y158 x75_4) x84_5
                                                            replace p47 := eq_true p47
                                                            replace q47 := eq_true q47
                                                            go_wp2
                                                            go_roundg k5
                                                            case measure => have := HK1.out; have := HJ14.out; have := HJ20.out; have := HK4.out; have := HK5.out; omega
                                                            case rel => exact ⟨(x2_5), (x3_5), (wrap64 (x84_5 + 1)), (by first | rfl | exact congrArg (Value.int .i64) (i64_w _) | (simp; done) | (simp [*]; done)), (by first | rfl | exact congrArg (Value.int .i64) (i64_w _) | (simp; done) | (simp [*]; done)), H', ⟨by have := HK1.out; have := HJ14.out; have := HJ20.out; have := HK4.out; have := HK5.out; omega⟩, ⟨by (with_reducible repeat (first | apply Kd.R_alloc | apply Kd.R_drewN | apply Kd.R_drew)); exact HO_2.out⟩, ⟨by (with_reducible repeat (first | apply Kd.R_alloc | apply Kd.R_drewN | apply Kd.R_drew)); exact HO_73.out⟩, ⟨by repeat (first | (with_reducible first | exact HB.out | apply below_alloc | apply pw_below_drewN | apply below_drew1) | exact HB.out)⟩⟩
                                                          · rw [if_neg c53] at H
                                                            have c53b0 : ((bt (rdOf ByteArray.empty y158 x75_4) x84_5) == 95) = false := beq_eq_false_iff_ne.mpr c53
                                                            have c53b1 : ((bt (rdOf ByteArray.empty y158 x75_4) x84_5) != 95) = true := bne_iff_ne.mpr c53
                                                            by_cases c54 : (bt (rdOf ByteArray.empty y158 x75_4) x84_5) = 45
                                                            · rw [if_pos c54] at H
                                                              have c54b0 : ((bt (rdOf ByteArray.empty y158 x75_4) x84_5) == 45) = true := beq_iff_eq.mpr c54
                                                              have c54b1 : ((bt (rdOf ByteArray.empty y158 x75_4) x84_5) != 45) = false := bne_eq_false_iff_eq.mpr c54
                                                              clear c54
                                                              have H' := Aside0.mk H
                                                              clear H
                                                              have p47 : 0 ≤ (x84_5 : Int) := of_decide_eq_true (by first | (with_reducible assumption) | assumption)
                                                              have q47 : x84_5 < ((rdOf ByteArray.empty y158 x75_4).size : Int) := of_decide_eq_true (by first | (with_reducible assumption) | assumption)
                                                              have hx47 := bt_at (rdOf ByteArray.empty y158 x75_4) x84_5
                                                              replace p47 := eq_true p47
                                                              replace q47 := eq_true q47
                                                              go_wp2
                                                              go_roundg k5
                                                              case measure => have := HK1.out; have := HJ14.out; have := HJ20.out; have := HK4.out; have := HK5.out; omega
                                                              case rel => exact ⟨(x2_5), (x3_5), (wrap64 (x84_5 + 1)), (by first | rfl | exact congrArg (Value.int .i64) (i64_w _) | (simp; done) | (simp [*]; done)), (by first | rfl | exact congrArg (Value.int .i64) (i64_w _) | (simp; done) | (simp [*]; done)), H', ⟨by have := HK1.out; have := HJ14.out; have := HJ20.out; have := HK4.out; have := HK5.out; omega⟩, ⟨by (with_reducible repeat (first | apply Kd.R_alloc | apply Kd.R_drewN | apply Kd.R_drew)); exact HO_2.out⟩, ⟨by (with_reducible repeat (first | apply Kd.R_alloc | apply Kd.R_drewN | apply Kd.R_drew)); exact HO_73.out⟩, ⟨by repeat (first | (with_reducible first | exact HB.out | apply below_alloc | apply pw_below_drewN | apply below_drew1) | exact HB.out)⟩⟩
                                                            · rw [if_neg c54] at H
                                                              have c54b0 : ((bt (rdOf ByteArray.empty y158 x75_4) x84_5) == 45) = false := beq_eq_false_iff_ne.mpr c54
                                                              have c54b1 : ((bt (rdOf ByteArray.empty y158 x75_4) x84_5) != 45) = true := bne_iff_ne.mpr c54
                                                              by_cases c55 : ((bt (rdOf ByteArray.empty y158 x75_4) x84_5) = 47)
                                                              · rw [if_pos c55] at H
                                                                have c55b0 : ((bt (rdOf ByteArray.empty y158 x75_4) x84_5) == 47) = true := beq_iff_eq.mpr c55
                                                                have c55b1 : ((bt (rdOf ByteArray.empty y158 x75_4) x84_5) != 47) = false := bne_eq_false_iff_eq.mpr c55
                                                                clear c55
                                                                have H' := Aside0.mk H
                                                                clear H
                                                                have p47 : 0 ≤ (x84_5 : Int) := of_decide_eq_true (by first | (with_reducible assumption) | assumption)
                                                                have q47 : x84_5 < ((rdOf ByteArray.empty y158 x75_4).size : Int) := of_decide_eq_true (by first | (with_reducible assumption) | assumption)
                                                                have hx47 := bt_at (rdOf ByteArray.empty y158 x75_4) x84_5
                                                                replace p47 := eq_true p47
                                                                replace q47 := eq_true q47
                                                                go_wp2
                                                                go_roundg k5
                                                                case measure => have := HK1.out; have := HJ14.out; have := HJ20.out; have := HK4.out; have := HK5.out; omega
                                                                case rel => exact ⟨(x2_5), (x3_5), (wrap64 (x84_5 + 1)), (by first | rfl | exact congrArg (Value.int .i64) (i64_w _) | (simp; done) | (simp [*]; done)), (by first | rfl | exact congrArg (Value.int .i64) (i64_w _) | (simp; done) | (simp [*]; done)), H', ⟨by have := HK1.out; have := HJ14.out; have := HJ20.out; have := HK4.out; have := HK5.out; omega⟩, ⟨by (with_reducible repeat (first | apply Kd.R_alloc | apply Kd.R_drewN | apply Kd.R_drew)); exact HO_2.out⟩, ⟨by (with_reducible repeat (first | apply Kd.R_alloc | apply Kd.R_drewN | apply Kd.R_drew)); exact HO_73.out⟩, ⟨by repeat (first | (with_reducible first | exact HB.out | apply below_alloc | apply pw_below_drewN | apply below_drew1) | exact HB.out)⟩⟩
                                                              · rw [if_neg c55] at H
                                                                have c55b0 : ((bt (rdOf ByteArray.empty y158 x75_4) x84_5) == 47) = false := beq_eq_false_iff_ne.mpr c55
                                                                have c55b1 : ((bt (rdOf ByteArray.empty y158 x75_4) x84_5) != 47) = true := bne_iff_ne.mpr c55
                                                                simp only [Option.some.injEq, Prod.mk.injEq] at H
                                                                obtain ⟨rfl, rfl, rfl⟩ := H
                                                                have p47 : 0 ≤ (x84_5 : Int) := of_decide_eq_true (by first | (with_reducible assumption) | assumption)
                                                                have q47 : x84_5 < ((rdOf ByteArray.empty y158 x75_4).size : Int) := of_decide_eq_true (by first | (with_reducible assumption) | assumption)
                                                                have hx47 := bt_at (rdOf ByteArray.empty y158 x75_4) x84_5
                                                                replace p47 := eq_true p47
                                                                replace q47 := eq_true q47
                                                                go_wp2
                                                                go_ret3
                                                                exact ⟨_, by first | rfl | (simp [errW_none, errW_some] <;> rfl) | (simp [*, errW_none, errW_some] <;> rfl), by first | exact Kd.R_nil _ _ _ _ _ | exact Kd.N_nil _ _ _ _ _ | exact Kd.V_nil _ _ _ _ _ | exact Kd.Q_nil _ _ _ _ _ | exact Kd.S_nil _ _ _ _ _, by repeat (first | (with_reducible first | exact HB.out | apply below_alloc | apply pw_below_drewN | apply below_drew1) | exact HB.out)⟩
                                                    · rw [if_neg c50] at H
                                                      have c50b0 : decide (48 ≤ (bt (rdOf ByteArray.empty y158 x75_4) x84_5)) = false := decide_eq_false c50
                                                      clear c50
                                                      by_cases c56 : (bt (rdOf ByteArray.empty y158 x75_4) x84_5) = 46
                                                      · rw [if_pos c56] at H
                                                        have c56b0 : ((bt (rdOf ByteArray.empty y158 x75_4) x84_5) == 46) = true := beq_iff_eq.mpr c56
                                                        have c56b1 : ((bt (rdOf ByteArray.empty y158 x75_4) x84_5) != 46) = false := bne_eq_false_iff_eq.mpr c56
                                                        clear c56
                                                        have H' := Aside0.mk H
                                                        clear H
                                                        have p47 : 0 ≤ (x84_5 : Int) := of_decide_eq_true (by first | (with_reducible assumption) | assumption)
                                                        have q47 : x84_5 < ((rdOf ByteArray.empty y158 x75_4).size : Int) := of_decide_eq_true (by first | (with_reducible assumption) | assumption)
                                                        have hx47 := bt_at (rdOf ByteArray.empty y158 x75_4) x84_5
                                                        replace p47 := eq_true p47
                                                        replace q47 := eq_true q47
                                                        go_wp2
                                                        go_roundg k5
                                                        case measure => have := HK1.out; have := HJ14.out; have := HJ20.out; have := HK4.out; have := HK5.out; omega
                                                        case rel => exact ⟨(x2_5), (x3_5), (wrap64 (x84_5 + 1)), (by first | rfl | exact congrArg (Value.int .i64) (i64_w _) | (simp; done) | (simp [*]; done)), (by first | rfl | exact congrArg (Value.int .i64) (i64_w _) | (simp; done) | (simp [*]; done)), H', ⟨by have := HK1.out; have := HJ14.out; have := HJ20.out; have := HK4.out; have := HK5.out; omega⟩, ⟨by (with_reducible repeat (first | apply Kd.R_alloc | apply Kd.R_drewN | apply Kd.R_drew)); exact HO_2.out⟩, ⟨by (with_reducible repeat (first | apply Kd.R_alloc | apply Kd.R_drewN | apply Kd.R_drew)); exact HO_73.out⟩, ⟨by repeat (first | (with_reducible first | exact HB.out | apply below_alloc | apply pw_below_drewN | apply below_drew1) | exact HB.out)⟩⟩
                                                      · rw [if_neg c56] at H
                                                        have c56b0 : ((bt (rdOf ByteArray.empty y158 x75_4) x84_5) == 46) = false := beq_eq_false_iff_ne.mpr c56
                                                        have c56b1 : ((bt (rdOf ByteArray.empty y158 x75_4) x84_5) != 46) = true := bne_iff_ne.mpr c56
                                                        by_cases c57 : (bt (rdOf ByteArray.empty y158 x75_4) x84_5) = 95
                                                        · rw [if_pos c57] at H
                                                          have c57b0 : ((bt (rdOf ByteArray.empty y158 x75_4) x84_5) == 95) = true := beq_iff_eq.mpr c57
                                                          have c57b1 : ((bt (rdOf ByteArray.empty y158 x75_4) x84_5) != 95) = false := bne_eq_false_iff_eq.mpr c57
                                                          clear c57
                                                          have H' := Aside0.mk H
                                                          clear H
                                                          have p47 : 0 ≤ (x84_5 : Int) := of_decide_eq_true (by first | (with_reducible assumption) | assumption)
                                                          have q47 : x84_5 < ((rdOf ByteArray.empty y158 x75_4).size : Int) := of_decide_eq_true (by first | (with_reducible assumption) | assumption)
                                                          have hx47 := bt_at (rdOf ByteArray.empty y158 x75_4) x84_5
                                                          replace p47 := eq_true p47
                                                          replace q47 := eq_true q47
                                                          go_wp2
                                                          go_roundg k5
                                                          case measure => have := HK1.out; have := HJ14.out; have := HJ20.out; have := HK4.out; have := HK5.out; omega
                                                          case rel => exact ⟨(x2_5), (x3_5), (wrap64 (x84_5 + 1)), (by first | rfl | exact congrArg (Value.int .i64) (i64_w _) | (simp; done) | (simp [*]; done)), (by first | rfl | exact congrArg (Value.int .i64) (i64_w _) | (simp; done) | (simp [*]; done)), H', ⟨by have := HK1.out; have := HJ14.out; have := HJ20.out; have := HK4.out; have := HK5.out; omega⟩, ⟨by (with_reducible repeat (first | apply Kd.R_alloc | apply Kd.R_drewN | apply Kd.R_drew)); exact HO_2.out⟩, ⟨by (with_reducible repeat (first | apply Kd.R_alloc | apply Kd.R_drewN | apply Kd.R_drew)); exact HO_73.out⟩, ⟨by repeat (first | (with_reducible first | exact HB.out | apply below_alloc | apply pw_below_drewN | apply below_drew1) | exact HB.out)⟩⟩
                                                        · rw [if_neg c57] at H
                                                          have c57b0 : ((bt (rdOf ByteArray.empty y158 x75_4) x84_5) == 95) = false := beq_eq_false_iff_ne.mpr c57
                                                          have c57b1 : ((bt (rdOf ByteArray.empty y158 x75_4) x84_5) != 95) = true := bne_iff_ne.mpr c57
                                                          by_cases c58 : (bt (rdOf ByteArray.empty y158 x75_4) x84_5) = 45
                                                          · rw [if_pos c58] at H
                                                            have c58b0 : ((bt (rdOf ByteArray.empty y158 x75_4) x84_5) == 45) = true := beq_iff_eq.mpr c58
                                                            have c58b1 : ((bt (rdOf ByteArray.empty y158 x75_4) x84_5) != 45) = false := bne_eq_false_iff_eq.mpr c58
                                                            clear c58
                                                            have H' := Aside0.mk H
                                                            clear H
                                                            have p47 : 0 ≤ (x84_5 : Int) := of_decide_eq_true (by first | (with_reducible assumption) | assumption)
                                                            have q47 : x84_5 < ((rdOf ByteArray.empty y158 x75_4).size : Int) := of_decide_eq_true (by first | (with_reducible assumption) | assumption)
                                                            have hx47 := bt_at (rdOf ByteArray.empty y158 x75_4) x84_5
                                                            replace p47 := eq_true p47
                                                            replace q47 := eq_true q47
                                                            go_wp2
                                                            go_roundg k5
                                                            case measure => have := HK1.out; have := HJ14.out; have := HJ20.out; have := HK4.out; have := HK5.out; omega
                                                            case rel => exact ⟨(x2_5), (x3_5), (wrap64 (x84_5 + 1)), (by first | rfl | exact congrArg (Value.int .i64) (i64_w _) | (simp; done) | (simp [*]; done)), (by first | rfl | exact congrArg (Value.int .i64) (i64_w _) | (simp; done) | (simp [*]; done)), H', ⟨by have := HK1.out; have := HJ14.out; have := HJ20.out; have := HK4.out; have := HK5.out; omega⟩, ⟨by (with_reducible repeat (first | apply Kd.R_alloc | apply Kd.R_drewN | apply Kd.R_drew)); exact HO_2.out⟩, ⟨by (with_reducible repeat (first | apply Kd.R_alloc | apply Kd.R_drewN | apply Kd.R_drew)); exact HO_73.out⟩, ⟨by repeat (first | (with_reducible first | exact HB.out | apply below_alloc | apply pw_below_drewN | apply below_drew1) | exact HB.out)⟩⟩
                                                          · rw [if_neg c58] at H
                                                            have c58b0 : ((bt (rdOf ByteArray.empty y158 x75_4) x84_5) == 45) = false := beq_eq_false_iff_ne.mpr c58
                                                            have c58b1 : ((bt (rdOf ByteArray.empty y158 x75_4) x84_5) != 45) = true := bne_iff_ne.mpr c58
                                                            by_cases c59 : ((bt (rdOf ByteArray.empty y158 x75_4) x84_5) = 47)
                                                            · rw [if_pos c59] at H
                                                              have c59b0 : ((bt (rdOf ByteArray.empty y158 x75_4) x84_5) == 47) = true := beq_iff_eq.mpr c59
                                                              have c59b1 : ((bt (rdOf ByteArray.empty y158 x75_4) x84_5) != 47) = false := bne_eq_false_iff_eq.mpr c59
                                                              clear c59
                                                              have H' := Aside0.mk H
                                                              clear H
                                                              have p47 : 0 ≤ (x84_5 : Int) := of_decide_eq_true (by first | (with_reducible assumption) | assumption)
                                                              have q47 : x84_5 < ((rdOf ByteArray.empty y158 x75_4).size : Int) := of_decide_eq_true (by first | (with_reducible assumption) | assumption)
                                                              have hx47 := bt_at (rdOf ByteArray.empty y158 x75_4) x84_5
                                                              replace p47 := eq_true p47
                                                              replace q47 := eq_true q47
                                                              go_wp2
                                                              go_roundg k5
                                                              case measure => have := HK1.out; have := HJ14.out; have := HJ20.out; have := HK4.out; have := HK5.out; omega
                                                              case rel => exact ⟨(x2_5), (x3_5), (wrap64 (x84_5 + 1)), (by first | rfl | exact congrArg (Value.int .i64) (i64_w _) | (simp; done) | (simp [*]; done)), (by first | rfl | exact congrArg (Value.int .i64) (i64_w _) | (simp; done) | (simp [*]; done)), H', ⟨by have := HK1.out; have := HJ14.out; have := HJ20.out; have := HK4.out; have := HK5.out; omega⟩, ⟨by (with_reducible repeat (first | apply Kd.R_alloc | apply Kd.R_drewN | apply Kd.R_drew)); exact HO_2.out⟩, ⟨by (with_reducible repeat (first | apply Kd.R_alloc | apply Kd.R_drewN | apply Kd.R_drew)); exact HO_73.out⟩, ⟨by repeat (first | (with_reducible first | exact HB.out | apply below_alloc | apply pw_below_drewN | apply below_drew1) | exact HB.out)⟩⟩
                                                            · rw [if_neg c59] at H
                                                              have c59b0 : ((bt (rdOf ByteArray.empty y158 x75_4) x84_5) == 47) = false := beq_eq_false_iff_ne.mpr c59
                                                              have c59b1 : ((bt (rdOf ByteArray.empty y158 x75_4) x84_5) != 47) = true := bne_iff_ne.mpr c59
                                                              simp only [Option.some.injEq, Prod.mk.injEq] at H
                                                              obtain ⟨rfl, rfl, rfl⟩ := H
                                                              have p47 : 0 ≤ (x84_5 : Int) := of_decide_eq_true (by first | (with_reducible assumption) | assumption)
                                                              have q47 : x84_5 < ((rdOf ByteArray.empty y158 x75_4).size : Int) := of_decide_eq_true (by first | (with_reducible assumption) | assumption)
                                                              have hx47 := bt_at (rdOf ByteArray.empty y158 x75_4) x84_5
                                                              replace p47 := eq_true p47
                                                              replace q47 := eq_true q47
                                                              go_wp2
                                                              go_ret3
                                                              exact ⟨_, by first | rfl | (simp [errW_none, errW_some] <;> rfl) | (simp [*, errW_none, errW_some] <;> rfl), by first | exact Kd.R_nil _ _ _ _ _ | exact Kd.N_nil _ _ _ _ _ | exact Kd.V_nil _ _ _ _ _ | exact Kd.Q_nil _ _ _ _ _ | exact Kd.S_nil _ _ _ _ _, by repeat (first | (with_reducible first | exact HB.out | apply below_alloc | apply pw_below_drewN | apply below_drew1) | exact HB.out)⟩
                                                · rw [if_neg c48] at H
                                                  have c48b0 : decide (97 ≤ (bt (rdOf ByteArray.empty y158 x75_4) x84_5)) = false := decide_eq_false c48
                                                  clear c48
                                                  by_cases c60 : (bt (rdOf ByteArray.empty y158 x75_4) x84_5) ≥ 48
                                                  · rw [if_pos c60] at H
                                                    have c60b0 : decide (48 ≤ (bt (rdOf ByteArray.empty y158 x75_4) x84_5)) = true := decide_eq_true c60
                                                    clear c60
                                                    by_cases c61 : (bt (rdOf ByteArray.empty y158 x75_4) x84_5) ≤ 57
                                                    · rw [if_pos c61] at H
                                                      have c61b0 : decide ((bt (rdOf ByteArray.empty y158 x75_4) x84_5) ≤ 57) = true := decide_eq_true c61
                                                      clear c61
                                                      have H' := Aside0.mk H
                                                      clear H
                                                      have p47 : 0 ≤ (x84_5 : Int) := of_decide_eq_true (by first | (with_reducible assumption) | assumption)
                                                      have q47 : x84_5 < ((rdOf ByteArray.empty y158 x75_4).size : Int) := of_decide_eq_true (by first | (with_reducible assumption) | assumption)
                                                      have hx47 := bt_at (rdOf ByteArray.empty y158 x75_4) x84_5
                                                      replace p47 := eq_true p47
                                                      replace q47 := eq_true q47
                                                      go_wp2
                                                      go_roundg k5
                                                      case measure => have := HK1.out; have := HJ14.out; have := HJ20.out; have := HK4.out; have := HK5.out; omega
                                                      case rel => exact ⟨(x2_5), (x3_5), (wrap64 (x84_5 + 1)), (by first | rfl | exact congrArg (Value.int .i64) (i64_w _) | (simp; done) | (simp [*]; done)), (by first | rfl | exact congrArg (Value.int .i64) (i64_w _) | (simp; done) | (simp [*]; done)), H', ⟨by have := HK1.out; have := HJ14.out; have := HJ20.out; have := HK4.out; have := HK5.out; omega⟩, ⟨by (with_reducible repeat (first | apply Kd.R_alloc | apply Kd.R_drewN | apply Kd.R_drew)); exact HO_2.out⟩, ⟨by (with_reducible repeat (first | apply Kd.R_alloc | apply Kd.R_drewN | apply Kd.R_drew)); exact HO_73.out⟩, ⟨by repeat (first | (with_reducible first | exact HB.out | apply below_alloc | apply pw_below_drewN | apply below_drew1) | exact HB.out)⟩⟩
                                                    · rw [if_neg c61] at H
                                                      have c61b0 : decide ((bt (rdOf ByteArray.empty y158 x75_4) x84_5) ≤ 57) = false := decide_eq_false c61
                                                      clear c61
                                                      by_cases c62 : (bt (rdOf ByteArray.empty y158 x75_4) x84_5) = 46
                                                      · rw [if_pos c62] at H
                                                        have c62b0 : ((bt (rdOf ByteArray.empty y158 x75_4) x84_5) == 46) = true := beq_iff_eq.mpr c62
                                                        have c62b1 : ((bt (rdOf ByteArray.empty y158 x75_4) x84_5) != 46) = false := bne_eq_false_iff_eq.mpr c62
                                                        clear c62
                                                        have H' := Aside0.mk H
                                                        clear H
                                                        have p47 : 0 ≤ (x84_5 : Int) := of_decide_eq_true (by first | (with_reducible assumption) | assumption)
                                                        have q47 : x84_5 < ((rdOf ByteArray.empty y158 x75_4).size : Int) := of_decide_eq_true (by first | (with_reducible assumption) | assumption)
                                                        have hx47 := bt_at (rdOf ByteArray.empty y158 x75_4) x84_5
                                                        replace p47 := eq_true p47
                                                        replace q47 := eq_true q47
                                                        go_wp2
                                                        go_roundg k5
                                                        case measure => have := HK1.out; have := HJ14.out; have := HJ20.out; have := HK4.out; have := HK5.out; omega
                                                        case rel => exact ⟨(x2_5), (x3_5), (wrap64 (x84_5 + 1)), (by first | rfl | exact congrArg (Value.int .i64) (i64_w _) | (simp; done) | (simp [*]; done)), (by first | rfl | exact congrArg (Value.int .i64) (i64_w _) | (simp; done) | (simp [*]; done)), H', ⟨by have := HK1.out; have := HJ14.out; have := HJ20.out; have := HK4.out; have := HK5.out; omega⟩, ⟨by (with_reducible repeat (first | apply Kd.R_alloc | apply Kd.R_drewN | apply Kd.R_drew)); exact HO_2.out⟩, ⟨by (with_reducible repeat (first | apply Kd.R_alloc | apply Kd.R_drewN | apply Kd.R_drew)); exact HO_73.out⟩, ⟨by repeat (first | (with_reducible first | exact HB.out | apply below_alloc | apply pw_below_drewN | apply below_drew1) | exact HB.out)⟩⟩
                                                      · rw [if_neg c62] at H
                                                        have c62b0 : ((bt (rdOf ByteArray.empty y158 x75_4) x84_5) == 46) = false := beq_eq_false_iff_ne.mpr c62
                                                        have c62b1 : ((bt (rdOf ByteArray.empty y158 x75_4) x84_5) != 46) = true := bne_iff_ne.mpr c62
                                                        by_cases c63 : (bt (rdOf ByteArray.empty y158 x75_4) x84_5) = 95
                                                        · rw [if_pos c63] at H
                                                          have c63b0 : ((bt (rdOf ByteArray.empty y158 x75_4) x84_5) == 95) = true := beq_iff_eq.mpr c63
                                                          have c63b1 : ((bt (rdOf ByteArray.empty y158 x75_4) x84_5) != 95) = false := bne_eq_false_iff_eq.mpr c63
                                                          clear c63
                                                          have H' := Aside0.mk H
                                                          clear H
                                                          have p47 : 0 ≤ (x84_5 : Int) := of_decide_eq_true (by first | (with_reducible assumption) | assumption)
                                                          have q47 : x84_5 < ((rdOf ByteArray.empty y158 x75_4).size : Int) := of_decide_eq_true (by first | (with_reducible assumption) | assumption)
                                                          have hx47 := bt_at (rdOf ByteArray.empty y158 x75_4) x84_5
                                                          replace p47 := eq_true p47
                                                          replace q47 := eq_true q47
                                                          go_wp2
                                                          go_roundg k5
                                                          case measure => have := HK1.out; have := HJ14.out; have := HJ20.out; have := HK4.out; have := HK5.out; omega
                                                          case rel => exact ⟨(x2_5), (x3_5), (wrap64 (x84_5 + 1)), (by first | rfl | exact congrArg (Value.int .i64) (i64_w _) | (simp; done) | (simp [*]; done)), (by first | rfl | exact congrArg (Value.int .i64) (i64_w _) | (simp; done) | (simp [*]; done)), H', ⟨by have := HK1.out; have := HJ14.out; have := HJ20.out; have := HK4.out; have := HK5.out; omega⟩, ⟨by (with_reducible repeat (first | apply Kd.R_alloc | apply Kd.R_drewN | apply Kd.R_drew)); exact HO_2.out⟩, ⟨by (with_reducible repeat (first | apply Kd.R_alloc | apply Kd.R_drewN | apply Kd.R_drew)); exact HO_73.out⟩, ⟨by repeat (first | (with_reducible first | exact HB.out | apply below_alloc | apply pw_below_drewN | apply below_drew1) | exact HB.out)⟩⟩
                                                        · rw [if_neg c63] at H
                                                          have c63b0 : ((bt (rdOf ByteArray.empty y158 x75_4) x84_5) == 95) = false := beq_eq_false_iff_ne.mpr c63
                                                          have c63b1 : ((bt (rdOf ByteArray.empty y158 x75_4) x84_5) != 95) = true := bne_iff_ne.mpr c63
                                                          by_cases c64 : (bt (rdOf ByteArray.empty y158 x75_4) x84_5) = 45
                                                          · rw [if_pos c64] at H
                                                            have c64b0 : ((bt (rdOf ByteArray.empty y158 x75_4) x84_5) == 45) = true := beq_iff_eq.mpr c64
                                                            have c64b1 : ((bt (rdOf ByteArray.empty y158 x75_4) x84_5) != 45) = false := bne_eq_false_iff_eq.mpr c64
                                                            clear c64
                                                            have H' := Aside0.mk H
                                                            clear H
                                                            have p47 : 0 ≤ (x84_5 : Int) := of_decide_eq_true (by first | (with_reducible assumption) | assumption)
                                                            have q47 : x84_5 < ((rdOf ByteArray.empty y158 x75_4).size : Int) := of_decide_eq_true (by first | (with_reducible assumption) | assumption)
                                                            have hx47 := bt_at (rdOf ByteArray.empty y158 x75_4) x84_5
                                                            replace p47 := eq_true p47
                                                            replace q47 := eq_true q47
                                                            go_wp2
                                                            go_roundg k5
                                                            case measure => have := HK1.out; have := HJ14.out; have := HJ20.out; have := HK4.out; have := HK5.out; omega
                                                            case rel => exact ⟨(x2_5), (x3_5), (wrap64 (x84_5 + 1)), (by first | rfl | exact congrArg (Value.int .i64) (i64_w _) | (simp; done) | (simp [*]; done)), (by first | rfl | exact congrArg (Value.int .i64) (i64_w _) | (simp; done) | (simp [*]; done)), H', ⟨by have := HK1.out; have := HJ14.out; have := HJ20.out; have := HK4.out; have := HK5.out; omega⟩, ⟨by (with_reducible repeat (first | apply Kd.R_alloc | apply Kd.R_drewN | apply Kd.R_drew)); exact HO_2.out⟩, ⟨by (with_reducible repeat (first | apply Kd.R_alloc | apply Kd.R_drewN | apply Kd.R_drew)); exact HO_73.out⟩, ⟨by repeat (first | (with_reducible first | exact HB.out | apply below_alloc | apply pw_below_drewN | apply below_drew1) | exact HB.out)⟩⟩
                                                          · rw [if_neg c64] at H
                                                            have c64b0 : ((bt (rdOf ByteArray.empty y158 x75_4) x84_5) == 45) = false := beq_eq_false_iff_ne.mpr c64
                                                            have c64b1 : ((bt (rdOf ByteArray.empty y158 x75_4) x84_5) != 45) = true := bne_iff_ne.mpr c64
                                                            by_cases c65 : ((bt (rdOf ByteArray.empty y158 x75_4) x84_5) = 47)
                                                            · rw [if_pos c65] at H
                                                              have c65b0 : ((bt (rdOf ByteArray.empty y158 x75_4) x84_5) == 47) = true := beq_iff_eq.mpr c65
                                                              have c65b1 : ((bt (rdOf ByteArray.empty y158 x75_4) x84_5) != 47) = false := bne_eq_false_iff_eq.mpr c65
                                                              clear c65
                                                              have H' := Aside0.mk H
                                                              clear H
                                                              have p47 : 0 ≤ (x84_5 : Int) := of_decide_eq_true (by first | (with_reducible assumption) | assumption)
                                                              have q47 : x84_5 < ((rdOf ByteArray.empty y158 x75_4).size : Int) := of_decide_eq_true (by first | (with_reducible assumption) | assumption)
                                                              have hx47 := bt_at (rdOf ByteArray.empty y158 x75_4) x84_5
                                                              replace p47 := eq_true p47
                                                              replace q47 := eq_true q47
                                                              go_wp2
                                                              go_roundg k5
                                                              case measure => have := HK1.out; have := HJ14.out; have := HJ20.out; have := HK4.out; have := HK5.out; omega
                                                              case rel => exact ⟨(x2_5), (x3_5), (wrap64 (x84_5 + 1)), (by first | rfl | exact congrArg (Value.int .i64) (i64_w _) | (simp; done) | (simp [*]; done)), (by first | rfl | exact congrArg (Value.int .i64) (i64_w _) | (simp; done) | (simp [*]; done)), H', ⟨by have := HK1.out; have := HJ14.out; have := HJ20.out; have := HK4.out; have := HK5.out; omega⟩, ⟨by (with_reducible repeat (first | apply Kd.R_alloc | apply Kd.R_drewN | apply Kd.R_drew)); exact HO_2.out⟩, ⟨by (with_reducible repeat (first | apply Kd.R_alloc | apply Kd.R_drewN | apply Kd.R_drew)); exact HO_73.out⟩, ⟨by repeat (first | (with_reducible first | exact HB.out | apply below_alloc | apply pw_below_drewN | apply below_drew1) | exact HB.out)⟩⟩
                                                            · rw [if_neg c65] at H
                                                              have c65b0 : ((bt (rdOf ByteArray.empty y158 x75_4) x84_5) == 47) = false := beq_eq_false_iff_ne.mpr c65
                                                              have c65b1 : ((bt (rdOf ByteArray.empty y158 x75_4) x84_5) != 47) = true := bne_iff_ne.mpr c65
                                                              simp only [Option.some.injEq, Prod.mk.injEq] at H
                                                              obtain ⟨rfl, rfl, rfl⟩ := H
                                                              have p47 : 0 ≤ (x84_5 : Int) := of_decide_eq_true (by first | (with_reducible assumption) | assumption)
                                                              have q47 : x84_5 < ((rdOf ByteArray.empty y158 x75_4).size : Int) := of_decide_eq_true (by first | (with_reducible assumption) | assumption)
                                                              have hx47 := bt_at (rdOf ByteArray.empty y158 x75_4) x84_5
                                                              replace p47 := eq_true p47
                                                              replace q47 := eq_true q47
                                                              go_wp2
                                                              go_ret3
                                                              exact ⟨_, by first | rfl | (simp [errW_none, errW_some] <;> rfl) | (simp [*, errW_none, errW_some] <;> rfl), by first | exact Kd.R_nil _ _ _ _ _ | exact Kd.N_nil _ _ _ _ _ | exact Kd.V_nil _ _ _ _ _ | exact Kd.Q_nil _ _ _ _ _ | exact Kd.S_nil _ _ _ _ _, by repeat (first | (with_reducible first | exact HB.out | apply below_alloc | apply pw_below_drewN | apply below_drew1) | exact HB.out)⟩
                                                  · rw [if_neg c60] at H
                                                    have c60b0 : decide (48 ≤ (bt (rdOf ByteArray.empty y158 x75_4) x84_5)) = false := decide_eq_false c60
                                                    clear c60
                                                    by_cases c66 : (bt (rdOf ByteArray.empty y158 x75_4) x84_5) = 46
                                                    · rw [if_pos c66] at H
                                                      have c66b0 : ((bt (rdOf ByteArray.empty y158 x75_4) x84_5) == 46) = true := beq_iff_eq.mpr c66
                                                      have c66b1 : ((bt (rdOf ByteArray.empty y158 x75_4) x84_5) != 46) = false := bne_eq_false_iff_eq.mpr c66
                                                      clear c66
                                                      have H' := Aside0.mk H
                                                      clear H
                                                      have p47 : 0 ≤ (x84_5 : Int) := of_decide_eq_true (by first | (with_reducible assumption) | assumption)
                                                      have q47 : x84_5 < ((rdOf ByteArray.empty y158 x75_4).size : Int) := of_decide_eq_true (by first | (with_reducible assumption) | assumption)
                                                      have hx47 := bt_at (rdOf ByteArray.empty y158 x75_4) x84_5
                                                      replace p47 := eq_true p47
                                                      replace q47 := eq_true q47
                                                      go_wp2
                                                      go_roundg k5
                                                      case measure => have := HK1.out; have := HJ14.out; have := HJ20.out; have := HK4.out; have := HK5.out; omega
                                                      case rel => exact ⟨(x2_5), (x3_5), (wrap64 (x84_5 + 1)), (by first | rfl | exact congrArg (Value.int .i64) (i64_w _) | (simp; done) | (simp [*]; done)), (by first | rfl | exact congrArg (Value.int .i64) (i64_w _) | (simp; done) | (simp [*]; done)), H', ⟨by have := HK1.out; have := HJ14.out; have := HJ20.out; have := HK4.out; have := HK5.out; omega⟩, ⟨by (with_reducible repeat (first | apply Kd.R_alloc | apply Kd.R_drewN | apply Kd.R_drew)); exact HO_2.out⟩, ⟨by (with_reducible repeat (first | apply Kd.R_alloc | apply Kd.R_drewN | apply Kd.R_drew)); exact HO_73.out⟩, ⟨by repeat (first | (with_reducible first | exact HB.out | apply below_alloc | apply pw_below_drewN | apply below_drew1) | exact HB.out)⟩⟩
                                                    · rw [if_neg c66] at H
                                                      have c66b0 : ((bt (rdOf ByteArray.empty y158 x75_4) x84_5) == 46) = false := beq_eq_false_iff_ne.mpr c66
                                                      have c66b1 : ((bt (rdOf ByteArray.empty y158 x75_4) x84_5) != 46) = true := bne_iff_ne.mpr c66
                                                      by_cases c67 : (bt (rdOf ByteArray.empty y158 x75_4) x84_5) = 95
                                                      · rw [if_pos c67] at H
                                                        have c67b0 : ((bt (rdOf ByteArray.empty y158 x75_4) x84_5) == 95) = true := beq_iff_eq.mpr c67
                                                        have c67b1 : ((bt (rdOf ByteArray.empty y158 x75_4) x84_5) != 95) = false := bne_eq_false_iff_eq.mpr c67
                                                        clear c67
                                                        have H' := Aside0.mk H
                                                        clear H
                                                        have p47 : 0 ≤ (x84_5 : Int) := of_decide_eq_true (by first | (with_reducible assumption) | assumption)
                                                        have q47 : x84_5 < ((rdOf ByteArray.empty y158 x75_4).size : Int) := of_decide_eq_true (by first | (with_reducible assumption) | assumption)
                                                        have hx47 := bt_at (rdOf ByteArray.empty y158 x75_4) x84_5
                                                        replace p47 := eq_true p47
                                                        replace q47 := eq_true q47
                                                        go_wp2
                                                        go_roundg k5
                                                        case measure => have := HK1.out; have := HJ14.out; have := HJ20.out; have := HK4.out; have := HK5.out; omega
                                                        case rel => exact ⟨(x2_5), (x3_5), (wrap64 (x84_5 + 1)), (by first | rfl | exact congrArg (Value.int .i64) (i64_w _) | (simp; done) | (simp [*]; done)), (by first | rfl | exact congrArg (Value.int .i64) (i64_w _) | (simp; done) | (simp [*]; done)), H', ⟨by have := HK1.out; have := HJ14.out; have := HJ20.out; have := HK4.out; have := HK5.out; omega⟩, ⟨by (with_reducible repeat (first | apply Kd.R_alloc | apply Kd.R_drewN | apply Kd.R_drew)); exact HO_2.out⟩, ⟨by (with_reducible repeat (first | apply Kd.R_alloc | apply Kd.R_drewN | apply Kd.R_drew)); exact HO_73.out⟩, ⟨by repeat (first | (with_reducible first | exact HB.out | apply below_alloc | apply pw_below_drewN | apply below_drew1) | exact HB.out)⟩⟩
                                                      · rw [if_neg c67] at H
                                                        have c67b0 : ((bt (rdOf ByteArray.empty y158 x75_4) x84_5) == 95) = false := beq_eq_false_iff_ne.mpr c67
                                                        have c67b1 : ((bt (rdOf ByteArray.empty y158 x75_4) x84_5) != 95) = true := bne_iff_ne.mpr c67
                                                        by_cases c68 : (bt (rdOf ByteArray.empty y158 x75_4) x84_5) = 45
                                                        · rw [if_pos c68] at H
                                                          have c68b0 : ((bt (rdOf ByteArray.empty y158 x75_4) x84_5) == 45) = true := beq_iff_eq.mpr c68
                                                          have c68b1 : ((bt (rdOf ByteArray.empty y158 x75_4) x84_5) != 45) = false := bne_eq_false_iff_eq.mpr c68
                                                          clear c68
                                                          have H' := Aside0.mk H
                                                          clear H
                                                          have p47 : 0 ≤ (x84_5 : Int) := of_decide_eq_true (by first | (with_reducible assumption) | assumption)
                                                          have q47 : x84_5 < ((rdOf ByteArray.empty y158 x75_4).size : Int) := of_decide_eq_true (by first | (with_reducible assumption) | assumption)
                                                          have hx47 := bt_at (rdOf ByteArray.empty y158 x75_4) x84_5
                                                          replace p47 := eq_true p47
                                                          replace q47 := eq_true q47
                                                          go_wp2
                                                          go_roundg k5
                                                          case measure => have := HK1.out; have := HJ14.out; have := HJ20.out; have := HK4.out; have := HK5.out; omega
                                                          case rel => exact ⟨(x2_5), (x3_5), (wrap64 (x84_5 + 1)), (by first | rfl | exact congrArg (Value.int .i64) (i64_w _) | (simp; done) | (simp [*]; done)), (by first | rfl | exact congrArg (Value.int .i64) (i64_w _) | (simp; done) | (simp [*]; done)), H', ⟨by have := HK1.out; have := HJ14.out; have := HJ20.out; have := HK4.out; have := HK5.out; omega⟩, ⟨by (with_reducible repeat (first | apply Kd.R_alloc | apply Kd.R_drewN | apply Kd.R_drew)); exact HO_2.out⟩, ⟨by (with_reducible repeat (first | apply Kd.R_alloc | apply Kd.R_drewN | apply Kd.R_drew)); exact HO_73.out⟩, ⟨by repeat (first | (with_reducible first | exact HB.out | apply below_alloc | apply pw_below_drewN | apply below_drew1) | exact HB.out)⟩⟩
                                                        · rw [if_neg c68] at H
                                                          have c68b0 : ((bt (rdOf ByteArray.empty y158 x75_4) x84_5) == 45) = false := beq_eq_false_iff_ne.mpr c68
                                                          have c68b1 : ((bt (rdOf ByteArray.empty y158 x75_4) x84_5) != 45) = true := bne_iff_ne.mpr c68
                                                          by_cases c69 : ((bt (rdOf ByteArray.empty y158 x75_4) x84_5) = 47)
                                                          · rw [if_pos c69] at H
                                                            have c69b0 : ((bt (rdOf ByteArray.empty y158 x75_4) x84_5) == 47) = true := beq_iff_eq.mpr c69
                                                            have c69b1 : ((bt (rdOf ByteArray.empty y158 x75_4) x84_5) != 47) = false := bne_eq_false_iff_eq.mpr c69
                                                            clear c69
                                                            have H' := Aside0.mk H
                                                            clear H
                                                            have p47 : 0 ≤ (x84_5 : Int) := of_decide_eq_true (by first | (with_reducible assumption) | assumption)
                                                            have q47 : x84_5 < ((rdOf ByteArray.empty y158 x75_4).size : Int) := of_decide_eq_true (by first | (with_reducible assumption) | assumption)
                                                            have hx47 := bt_at (rdOf ByteArray.empty y158 x75_4) x84_5
                                                            replace p47 := eq_true p47
                                                            replace q47 := eq_true q47
                                                            go_wp2
                                                            go_roundg k5
                                                            case measure => have := HK1.out; have := HJ14.out; have := HJ20.out; have := HK4.out; have := HK5.out; omega
                                                            case rel => exact ⟨(x2_5), (x3_5), (wrap64 (x84_5 + 1)), (by first | rfl | exact congrArg (Value.int .i64) (i64_w _) | (simp; done) | (simp [*]; done)), (by first | rfl | exact congrArg (Value.int .i64) (i64_w _) | (simp; done) | (simp [*]; done)), H', ⟨by have := HK1.out; have := HJ14.out; have := HJ20.out; have := HK4.out; have := HK5.out; omega⟩, ⟨by (with_reducible repeat (first | apply Kd.R_alloc | apply Kd.R_drewN | apply Kd.R_drew)); exact HO_2.out⟩, ⟨by (with_reducible repeat (first | apply Kd.R_alloc | apply Kd.R_drewN | apply Kd.R_drew)); exact HO_73.out⟩, ⟨by repeat (first | (with_reducible first | exact HB.out | apply below_alloc | apply pw_below_drewN | apply below_drew1) | exact HB.out)⟩⟩
                                                          · rw [if_neg c69] at H
                                                            have c69b0 : ((bt (rdOf ByteArray.empty y158 x75_4) x84_5) == 47) = false := beq_eq_false_iff_ne.mpr c69
                                                            have c69b1 : ((bt (rdOf ByteArray.empty y158 x75_4) x84_5) != 47) = true := bne_iff_ne.mpr c69
                                                            simp only [Option.some.injEq, Prod.mk.injEq] at H
                                                            obtain ⟨rfl, rfl, rfl⟩ := H
                                                            have p47 : 0 ≤ (x84_5 : Int) := of_decide_eq_true (by first | (with_reducible assumption) | assumption)
                                                            have q47 : x84_5 < ((rdOf ByteArray.empty y158 x75_4).size : Int) := of_decide_eq_true (by first | (with_reducible assumption) | assumption)
                                                            have hx47 := bt_at (rdOf ByteArray.empty y158 x75_4) x84_5
                                                            replace p47 := eq_true p47
                                                            replace q47 := eq_true q47
                                                            go_wp2
                                                            go_ret3
                                                            exact ⟨_, by first | rfl | (simp [errW_none, errW_some] <;> rfl) | (simp [*, errW_none, errW_some] <;> rfl), by first | exact Kd.R_nil _ _ _ _ _ | exact Kd.N_nil _ _ _ _ _ | exact Kd.V_nil _ _ _ _ _ | exact Kd.Q_nil _ _ _ _ _ | exact Kd.S_nil _ _ _ _ _, by repeat (first | (with_reducible first | exact HB.out | apply below_alloc | apply pw_below_drewN | apply below_drew1) | exact HB.out)⟩
                                              · rw [if_neg c46] at H
                                                exact absurd H (by simp)
                                            · rw [if_neg c45] at H
                                              exact absurd H (by simp)
                                          · rw [if_neg c44] at H
                                            have c44b0 : decide (x84_5 < ((rdOf ByteArray.empty y158 x75_4).size : Int)) = false := decide_eq_false c44
                                            clear c44
                                            have H' := Aside0.mk H
                                            clear H
                                            go_wp2
                                            go_roundg k5
                                            case measure => have := HK1.out; have := HJ14.out; have := HJ20.out; have := HK4.out; have := HK5.out; omega
                                            case rel => exact ⟨(x2_5), (x3_5), (wrap64 (x75_4 + 1)), (by first | rfl | exact congrArg (Value.int .i64) (i64_w _) | (simp; done) | (simp [*]; done)), (by first | rfl | exact congrArg (Value.int .i64) (i64_w _) | (simp; done) | (simp [*]; done)), H', ⟨by have := HK1.out; have := HJ14.out; have := HJ20.out; have := HK4.out; have := HK5.out; omega⟩, ⟨by (with_reducible repeat (first | apply Kd.R_alloc | apply Kd.R_drewN | apply Kd.R_drew)); exact HO_2.out⟩, ⟨by (with_reducible repeat (first | apply Kd.R_alloc | apply Kd.R_drewN | apply Kd.R_drew)); exact HO_73.out⟩, ⟨by repeat (first | (with_reducible first | exact HB.out | apply below_alloc | apply pw_below_drewN | apply below_drew1) | exact HB.out)⟩⟩
                                  · rw [if_neg c42] at H
                                    exact absurd H (by simp)
                                · rw [if_neg c41] at H
                                  exact absurd H (by simp)
                              · rw [if_neg c40] at H
                                have c40b0 : decide (x75_4 < (y158.length : Int)) = false := decide_eq_false c40
                                clear c40
                                by_cases c70 : (x2_4.length : Int) = 0
                                · rw [if_pos c70] at H
                                  have c70b0 : ((x2_4.length : Int) == 0) = true := beq_iff_eq.mpr c70
                                  have c70b1 : ((x2_4.length : Int) != 0) = false := bne_eq_false_iff_eq.mpr c70
                                  clear c70
                                  simp only [Option.some.injEq, Prod.mk.injEq] at H
                                  obtain ⟨rfl, rfl, rfl⟩ := H
                                  obtain ⟨Ao71, co71, eo71⟩ := Kd.R_slice HO_2.out
                                  subst eo71
                                  go_wp2
                                  go_ret3
                                  exact ⟨_, by first | rfl | (simp [errW_none, errW_some] <;> rfl) | (simp [*, errW_none, errW_some] <;> rfl), by first | exact Kd.R_nil _ _ _ _ _ | exact Kd.N_nil _ _ _ _ _ | exact Kd.V_nil _ _ _ _ _ | exact Kd.Q_nil _ _ _ _ _ | exact Kd.S_nil _ _ _ _ _, by repeat (first | (with_reducible first | exact HB.out | apply below_alloc | apply pw_below_drewN | apply below_drew1) | exact HB.out)⟩
                                · rw [if_neg c70] at H
                                  have c70b0 : ((x2_4.length : Int) == 0) = false := beq_eq_false_iff_ne.mpr c70
                                  have c70b1 : ((x2_4.length : Int) != 0) = true := bne_iff_ne.mpr c70
                                  have c70b2 : ¬ (x2_4 = []) := fun h_ => c70 (by rw [h_]; rfl)
                                  by_cases c72 : 0 < (x2_4.length : Int)
                                  · rw [if_pos c72] at H
                                    have c72b0 : decide (0 < (x2_4.length : Int)) = true := decide_eq_true c72
                                    have c72b1 : decide (0 < x2_4.length) = true := decide_eq_true (by omega)
                                    clear c72
                                    by_cases c73 : (rdOf ByteArray.empty x2_4 0).toList = ([101, 99, 104, 111] : List UInt8)
                                    · rw [if_pos c73] at H
                                      have c73b0 : ((rdOf ByteArray.empty x2_4 0).toList == ([101, 99, 104, 111] : List UInt8)) = true := beq_iff_eq.mpr c73
                                      have c73b1 : ((rdOf ByteArray.empty x2_4 0).toList != ([101, 99, 104, 111] : List UInt8)) = false := bne_eq_false_iff_eq.mpr c73
                                      clear c73
                                      simp only [Option.some.injEq, Prod.mk.injEq] at H
                                      obtain ⟨rfl, rfl, rfl⟩ := H
                                      obtain ⟨Ao74, co74, eo74⟩ := Kd.R_slice HO_2.out
                                      subst eo74
                                      have p162 : 0 ≤ (0 : Int) := (by omega)
                                      have q162 : 0 < (x2_4.length : Int) := of_decide_eq_true (by first | (with_reducible assumption) | assumption)
                                      obtain ⟨ad162, e162, hx162_0⟩ := Kd.at_string (Kd.R_reads' HO_2.out).2.2 0 p162 q162
                                      cases e162
                                      have qi162 : (0 < x2_4.length) = True := eq_true (by omega)
                                      (try rw [show ((0 : Int)).toNat = 0 from rfl] at hx162_0)
                                      (try rw [Addr.add_zero'] at hx162_0)
                                      replace p162 := eq_true p162
                                      replace q162 := eq_true q162
                                      go_wp2
                                      go_ret3
                                      exact ⟨_, by first | rfl | (simp [errW_none, errW_some] <;> rfl) | (simp [*, errW_none, errW_some] <;> rfl), by (with_reducible repeat (first | apply Kd.R_alloc | apply Kd.R_drewN | apply Kd.R_drew)); exact Kd.R_mono HO_2.out (fun _ hk => trivial), by repeat (first | (with_reducible first | exact HB.out | apply below_alloc | apply pw_below_drewN | apply below_drew1) | exact HB.out)⟩
                                    · rw [if_neg c73] at H
                                      have c73b0 : ((rdOf ByteArray.empty x2_4 0).toList == ([101, 99, 104, 111] : List UInt8)) = false := beq_eq_false_iff_ne.mpr c73
                                      have c73b1 : ((rdOf ByteArray.empty x2_4 0).toList != ([101, 99, 104, 111] : List UInt8)) = true := bne_iff_ne.mpr c73
                                      by_cases c75 : (rdOf ByteArray.empty x2_4 0).toList = ([99, 97, 116] : List UInt8)
                                      · rw [if_pos c75] at H
                                        have c75b0 : ((rdOf ByteArray.empty x2_4 0).toList == ([99, 97, 116] : List UInt8)) = true := beq_iff_eq.mpr c75
                                        have c75b1 : ((rdOf ByteArray.empty x2_4 0).toList != ([99, 97, 116] : List UInt8)) = false := bne_eq_false_iff_eq.mpr c75
                                        clear c75
                                        have HC76 := Aside0.mk H
                                        clear H
                                        obtain ⟨Ao77, co77, eo77⟩ := Kd.R_slice HO_2.out
                                        subst eo77
                                        have p162 : 0 ≤ (0 : Int) := (by omega)
                                        have q162 : 0 < (x2_4.length : Int) := of_decide_eq_true (by first | (with_reducible assumption) | assumption)
                                        obtain ⟨ad162, e162, hx162_0⟩ := Kd.at_string (Kd.R_reads' HO_2.out).2.2 0 p162 q162
                                        cases e162
                                        have qi162 : (0 < x2_4.length) = True := eq_true (by omega)
                                        (try rw [show ((0 : Int)).toNat = 0 from rfl] at hx162_0)
                                        (try rw [Addr.add_zero'] at hx162_0)
                                        replace p162 := eq_true p162
                                        replace q162 := eq_true q162
                                        go_upto_region 34 with (fail)
                                        go_cut [4] (fun v4 wc => ∃ (kq : Nat) (x4_75 : Bool), v4 = .bool x4_75 ∧ Aside0 (impl_command.j6 kq x2_4 x3_4 x4_75 = some (r1, r2, r3)) ∧ Aside0 (kq ≤ k4) ∧ Aside0 (Kd.R Kd.string 9 wc w.heap.size (fun _ => True) (.slice (some ad162) x2_4.length co77) x2_4) ∧ Aside0 (Below w.heap.size w wc))
                                        case first => as_aux_lemma =>
                                          have H := HC76.out
                                          clear HC76
                                          by_cases c78 : (wrap64 ((x2_4.length : Int) - 1)) ≥ 1
                                          · rw [if_pos c78] at H
                                            have c78b0 : decide (1 ≤ (wrap64 ((x2_4.length : Int) - 1))) = true := decide_eq_true c78
                                            clear c78
                                            (first | rw [c78b0] | (simp only [i64_w, i32_w]; rw [c78b0]) | skip)
                                            have H' := Aside0.mk H
                                            clear H
                                            go_wp2
                                            go_meet
                                            case rel => exact ⟨_, (decide ((wrap64 ((x2_4.length : Int) - 1)) ≤ 4)), (by first | rfl | exact congrArg (Value.int .i64) (i64_w _) | (simp; done) | (simp [*]; done)), H', ⟨by have := HK1.out; have := HJ14.out; have := HJ20.out; have := HK4.out; first | omega | exact Nat.le_refl _⟩, ⟨by (with_reducible repeat (first | apply Kd.R_alloc | apply Kd.R_drewN | apply Kd.R_drew)); exact Kd.R_mono HO_2.out (fun _ hk => trivial)⟩, ⟨by repeat (first | (with_reducible first | exact HB.out | apply below_alloc | apply pw_below_drewN | apply below_drew1) | exact HB.out)⟩⟩
                                          · rw [if_neg c78] at H
                                            have c78b0 : decide (1 ≤ (wrap64 ((x2_4.length : Int) - 1))) = false := decide_eq_false c78
                                            clear c78
                                            (first | rw [c78b0] | (simp only [i64_w, i32_w]; rw [c78b0]) | skip)
                                            have H' := Aside0.mk H
                                            clear H
                                            go_wp2
                                            go_meet
                                            case rel => exact ⟨_, (false), (by first | rfl | exact congrArg (Value.int .i64) (i64_w _) | (simp; done) | (simp [*]; done)), H', ⟨by have := HK1.out; have := HJ14.out; have := HJ20.out; have := HK4.out; first | omega | exact Nat.le_refl _⟩, ⟨by (with_reducible repeat (first | apply Kd.R_alloc | apply Kd.R_drewN | apply Kd.R_drew)); exact Kd.R_mono HO_2.out (fun _ hk => trivial)⟩, ⟨by repeat (first | (with_reducible first | exact HB.out | apply below_alloc | apply pw_below_drewN | apply below_drew1) | exact HB.out)⟩⟩
                                        case rest => as_aux_lemma =>
                                          clear HC76
                                          try clear p1
                                          try clear q1
                                          try clear hx1
                                          try clear qi1
                                          try clear c2
                                          try clear p2
                                          try clear q2
                                          try clear c3
                                          try clear c4
                                          try clear p4
                                          try clear q4
                                          try clear hx4
                                          try clear c5
                                          try clear c6
                                          try clear p6
                                          try clear c7
                                          try clear p7
                                          try clear q7
                                          try clear p14
                                          try clear q14
                                          try clear hx14
                                          try clear p15
                                          try clear q15
                                          try clear hx15
                                          try clear p16
                                          try clear q16
                                          try clear hx16
                                          try clear qi16
                                          try clear c24
                                          try clear c24b0
                                          try clear c25
                                          try clear c25b0
                                          try clear c27
                                          try clear c27b0
                                          try clear c27b1
                                          try clear c28
                                          try clear c28b0
                                          try clear c28b1
                                          try clear q29
                                          try clear c30
                                          try clear c32
                                          try clear c32b0
                                          try clear c32b1
                                          try clear c33
                                          try clear c33b0
                                          try clear c33b1
                                          try clear c34
                                          try clear c34b0
                                          try clear c34b1
                                          try clear c34b2
                                          try clear c35
                                          try clear c38
                                          try clear c40
                                          try clear c40b0
                                          try clear c41
                                          try clear c41b0
                                          try clear c42
                                          try clear c42b0
                                          try clear c43
                                          try clear c43b0
                                          try clear c43b1
                                          try clear c44
                                          try clear c44b0
                                          try clear c45
                                          try clear c45b0
                                          try clear c46
                                          try clear c46b0
                                          try clear p47
                                          try clear q47
                                          try clear hx47
                                          try clear c48
                                          try clear c48b0
                                          try clear c49
                                          try clear c49b0
                                          try clear c50
                                          try clear c50b0
                                          try clear c51
                                          try clear c51b0
                                          try clear c52
                                          try clear c52b0
                                          try clear c52b1
                                          try clear c53
                                          try clear c53b0
                                          try clear c53b1
                                          try clear c54
                                          try clear c54b0
                                          try clear c54b1
                                          try clear c55
                                          try clear c55b0
                                          try clear c55b1
                                          try clear c56
                                          try clear c56b0
                                          try clear c56b1
                                          try clear c57
                                          try clear c57b0
                                          try clear c57b1
                                          try clear c58
                                          try clear c58b0
                                          try clear c58b1
                                          try clear c59
                                          try clear c59b0
                                          try clear c59b1
                                          try clear c60
                                          try clear c60b0
                                          try clear c61
                                          try clear c61b0
                                          try clear c62
                                          try clear c62b0
                                          try clear c62b1
                                          try clear c63
                                          try clear c63b0
                                          try clear c63b1
                                          try clear c64
                                          try clear c64b0
                                          try clear c64b1
                                          try clear p64
                                          try clear c65
                                          try clear c65b0
                                          try clear c65b1
                                          try clear c66
                                          try clear c66b0
                                          try clear c66b1
                                          try clear c67
                                          try clear c67b0
                                          try clear c67b1
                                          try clear c68
                                          try clear c68b0
                                          try clear c68b1
                                          try clear c69
                                          try clear c69b0
                                          try clear c69b1
                                          try clear c70
                                          try clear c70b0
                                          try clear c70b1
                                          try clear c70b2
                                          try clear c72
                                          try clear c72b0
                                          try clear c72b1
                                          try clear c73
                                          try clear c73b0
                                          try clear c73b1
                                          try clear c75
                                          try clear c75b0
                                          try clear c75b1
                                          try clear c78
                                          try clear c78b0
                                          try clear hx149_0
                                          try clear hx150_0
                                          try clear hx161_0
                                          try clear hx162_0
                                          try clear p1
                                          try clear p14
                                          try clear p149
                                          try clear p15
                                          try clear p150
                                          try clear p161
                                          try clear p162
                                          try clear p2
                                          try clear p47
                                          try clear p6
                                          try clear p7
                                          try clear q1
                                          try clear q14
                                          try clear q149
                                          try clear q15
                                          try clear q150
                                          try clear q161
                                          try clear q162
                                          try clear q2
                                          try clear q29
                                          try clear q47
                                          try clear q7
                                          obtain ⟨kq, x4_75, rfl, HA, HJ75, HO_2, HB⟩ := hcut
                                          cases kq with
                                          | zero => exact absurd HA.out (by simp [impl_command.j6])
                                          | succ kj75 =>
                                            have H := HA.out
                                            clear HA
                                            simp only [impl_command.j6] at H
                                            by_cases c79 : 1 ≤ (x2_4.length : Int)
                                            · rw [if_pos c79] at H
                                              have c79b0 := eq_true c79
                                              have c79b1 : decide (1 ≤ (x2_4.length : Int)) = true := decide_eq_true c79
                                              clear c79
                                              obtain ⟨y163, hy163⟩ : ∃ y_ : List ByteArray, y_ = (x2_4.drop 1) := ⟨_, rfl⟩
                                              replace H : (impl_command.l3 kj75 x2_4 x3_4 x4_75 y163 (y163.length : Int) 0) = some (r1, r2, r3) := by first | (rw [hy163]; with_reducible exact H) | (have H2_ := (Option.bind_some _ _).symm.trans H; rw [hy163]; with_reducible exact H2_) | (have H2_ := (Option.bind_some _ _).symm.trans H; with_reducible exact H2_) | with_reducible exact H | (rw [hy163]; exact H) | exact H
                                              have Ny163 := Aside0.mk hy163
                                              clear hy163
                                              have H' := Aside0.mk H
                                              clear H
                                              have q80 : (1 : Int) ≤ ((x2_4.length : Int) : Int) := of_decide_eq_true (by first | (with_reducible assumption) | assumption)
                                              obtain ⟨i080, hi080, _, hsz80, _⟩ := info_parts info9
                                              have hroom80 : x2_4.length ≤ co77 := (Kd.R_reads' HO_2.out).2.1
                                              have hC80 : Kd.C Kd.string _ (some ad162) x2_4.length x2_4 := (Kd.R_reads' HO_2.out).2.2
                                              have hcut80 := cut_from (P := Try.prog) 61 9 .i64 Try.underlying61 hi080 1 hsz80 (some ad162) x2_4.length co77 1 (by omega) q80
                                              have hr80 := Kd.C_drop (m := (1 : Int).toNat) (c := co77) hC80 (by omega) hroom80
                                              obtain ⟨A80, hA80⟩ : ∃ A1, A1 = (if co77 = (1 : Int).toNat then (some ad162) else ((some ad162) : Option Addr).map (·.add ((1 : Int).toNat * 1))) := ⟨_, rfl⟩
                                              obtain ⟨c80, hc80⟩ : ∃ c1, c1 = co77 - (1 : Int).toNat := ⟨_, rfl⟩
                                              have hy80 : y163.length = x2_4.length - (1 : Int).toNat := (by rw [Ny163.out, List.length_drop] <;> omega)
                                              rw [show (x2_4).drop (1 : Int).toNat = y163 from Ny163.out.symm] at hr80
                                              replace hr80 : Kd.C Kd.string _ A80 y163.length y163 := (by rw [hA80]; exact hr80)
                                              rw [← hy80, ← hA80, ← hc80] at hcut80
                                              have HR166 := Aside0.mk hr80
                                              have HC166 := Aside0.mk (show y163.length ≤ c80 from by rw [hy80, hc80]; exact Nat.sub_le_sub_right hroom80 _)
                                              clear hr80 hC80 hroom80 hi080 hsz80 hc80
                                              have KY80 := Aside0.mk hy80
                                              have KA80 := Aside0.mk hA80
                                              clear hy80 hA80
                                              have KL80 := Aside0.mk (show 1 ≤ x2_4.length from by omega)
                                              replace q80 := eq_true q80
                                              go_wp2
                                              go_loopg [4, 158] kj75 (fun kq v4 v158 w' => ∃ (x4_6 : Bool) (x158_6 : Int), v4 = .bool x4_6 ∧ v158 = .int .i64 x158_6 ∧ Aside0 (impl_command.l3 kq x2_4 x3_4 x4_6 y163 (y163.length : Int) x158_6 = some (r1, r2, r3)) ∧ Aside0 (kq ≤ kj75) ∧ Aside0 (Kd.R Kd.string 9 w' w.heap.size (fun _ => True) (.slice (some ad162) x2_4.length co77) x2_4) ∧ Aside0 (Kd.C Kd.string w' A80 y163.length y163) ∧ Aside0 (Below w.heap.size w w'))
                                              case atStart => exact ⟨(x4_75), (0), (by first | rfl | exact congrArg (Value.int .i64) (i64_w _) | (simp; done) | (simp [*]; done)), (by first | rfl | exact congrArg (Value.int .i64) (i64_w _) | (simp; done) | (simp [*]; done)), H', ⟨Nat.le_refl _⟩, ⟨by (with_reducible repeat (first | apply Kd.R_alloc | apply Kd.R_drewN | apply Kd.R_drew)); exact HO_2.out⟩, ⟨by repeat (first | (with_reducible exact HR166.out) | (with_reducible refine Kd.C_alloc ?_ _) | (with_reducible refine Kd.C_drewN ?_ _) | (with_reducible refine Kd.C_drew ?_) | exact HR166.out)⟩, ⟨by repeat (first | (with_reducible first | exact HB.out | apply below_alloc | apply pw_below_drewN | apply below_drew1) | exact HB.out)⟩⟩
                                              case round =>
                                                clear H'
                                                try clear c1
                                                try clear p1
                                                try clear q1
                                                try clear hx1
                                                try clear qi1
                                                try clear c2
                                                try clear p2
                                                try clear q2
                                                try clear c3
                                                try clear c4
                                                try clear p4
                                                try clear q4
                                                try clear hx4
                                                try clear c5
                                                try clear c6
                                                try clear p6
                                                try clear c7
                                                try clear p7
                                                try clear q7
                                                try clear c8
                                                try clear q8
                                                try clear p14
                                                try clear q14
                                                try clear hx14
                                                try clear p15
                                                try clear q15
                                                try clear hx15
                                                try clear p16
                                                try clear q16
                                                try clear hx16
                                                try clear qi16
                                                try clear c24
                                                try clear c24b0
                                                try clear c25
                                                try clear c25b0
                                                try clear c27
                                                try clear c27b0
                                                try clear c27b1
                                                try clear c28
                                                try clear c28b0
                                                try clear c28b1
                                                try clear q29
                                                try clear c30
                                                try clear c32
                                                try clear c32b0
                                                try clear c32b1
                                                try clear c33
                                                try clear c33b0
                                                try clear c33b1
                                                try clear c34
                                                try clear c34b0
                                                try clear c34b1
                                                try clear c34b2
                                                try clear c35
                                                try clear c38
                                                try clear c40
                                                try clear c40b0
                                                try clear c41
                                                try clear c41b0
                                                try clear c42
                                                try clear c42b0
                                                try clear c43
                                                try clear c43b0
                                                try clear c43b1
                                                try clear c44
                                                try clear c44b0
                                                try clear c45
                                                try clear c45b0
                                                try clear c46
                                                try clear c46b0
                                                try clear p47
                                                try clear q47
                                                try clear hx47
                                                try clear c48
                                                try clear c48b0
                                                try clear c49
                                                try clear c49b0
                                                try clear c50
                                                try clear c50b0
                                                try clear c51
                                                try clear c51b0
                                                try clear c52
                                                try clear c52b0
                                                try clear c52b1
                                                try clear c53
                                                try clear c53b0
                                                try clear c53b1
                                                try clear c54
                                                try clear c54b0
                                                try clear c54b1
                                                try clear c55
                                                try clear c55b0
                                                try clear c55b1
                                                try clear c56
                                                try clear c56b0
                                                try clear c56b1
                                                try clear c57
                                                try clear c57b0
                                                try clear c57b1
                                                try clear c58
                                                try clear c58b0
                                                try clear c58b1
                                                try clear c59
                                                try clear c59b0
                                                try clear c59b1
                                                try clear c60
                                                try clear c60b0
                                                try clear c61
                                                try clear c61b0
                                                try clear c62
                                                try clear c62b0
                                                try clear c62b1
                                                try clear c63
                                                try clear c63b0
                                                try clear c63b1
                                                try clear c64
                                                try clear c64b0
                                                try clear c64b1
                                                try clear p64
                                                try clear c65
                                                try clear c65b0
                                                try clear c65b1
                                                try clear c66
                                                try clear c66b0
                                                try clear c66b1
                                                try clear c67
                                                try clear c67b0
                                                try clear c67b1
                                                try clear c68
                                                try clear c68b0
                                                try clear c68b1
                                                try clear c69
                                                try clear c69b0
                                                try clear c69b1
                                                try clear c70
                                                try clear c70b0
                                                try clear c70b1
                                                try clear c70b2
                                                try clear c72
                                                try clear c72b0
                                                try clear c72b1
                                                try clear c73
                                                try clear c73b0
                                                try clear c73b1
                                                try clear c75
                                                try clear c75b0
                                                try clear c75b1
                                                try clear c78
                                                try clear c78b0
                                                try clear c79
                                                try clear c79b0
                                                try clear c79b1
                                                try clear c80
                                                try clear q80
                                                try clear hx149_0
                                                try clear hx150_0
                                                try clear hx161_0
                                                try clear hx162_0
                                                try clear p1
                                                try clear p14
                                                try clear p149
                                                try clear p15
                                                try clear p150
                                                try clear p16
                                                try clear p161
                                                try clear p162
                                                try clear p2
                                                try clear p4
                                                try clear p47
                                                try clear p6
                                                try clear p64
                                                try clear p7
                                                try clear q1
                                                try clear q14
                                                try clear q149
                                                try clear q15
                                                try clear q150
                                                try clear q16
                                                try clear q161
                                                try clear q162
                                                try clear q2
                                                try clear q29
                                                try clear q4
                                                try clear q47
                                                try clear q7
                                                try clear q80
                                                obtain ⟨x4_6, x158_6, rfl, rfl, HA, HK6, HO_2, HR166, HB⟩ := hrel
                                                cases gk with
                                                | zero => exact absurd HA.out (by simp [impl_command.l3])
                                                | succ k6 =>
                                                  have H := HA.out
                                                  clear HA
                                                  simp only [impl_command.l3] at H
                                                  by_cases c81 : x158_6 < (y163.length : Int)
                                                  · rw [if_pos c81] at H
                                                    have c81b0 : decide (x158_6 < (y163.length : Int)) = true := decide_eq_true c81
                                                    clear c81
                                                    by_cases c82 : 0 ≤ x158_6
                                                    · rw [if_pos c82] at H
                                                      have c82b0 : decide (0 ≤ x158_6) = true := decide_eq_true c82
                                                      clear c82
                                                      by_cases c83 : x158_6 < (y163.length : Int)
                                                      · rw [if_pos c83] at H
                                                        have c83b0 : decide (x158_6 < (y163.length : Int)) = true := decide_eq_true c83
                                                        clear c83
                                                        by_cases c84 : x4_6 = true
                                                        · subst c84
                                                          have H1 : (impl_command.l3 k6 x2_4 x3_4 ((rdOf ByteArray.empty y163 x158_6).toList != x3_4.toList) y163 (y163.length : Int) (wrap64 (x158_6 + 1))) = some (r1, r2, r3) := by rw [if_pos rfl] at H; exact H
                                                          clear H
                                                          have H := H1
                                                          clear H1
                                                          have H' := Aside0.mk H
                                                          clear H
                                                          have p167 : 0 ≤ (x158_6 : Int) := of_decide_eq_true (by first | (with_reducible assumption) | assumption)
                                                          have q167 : x158_6 < (y163.length : Int) := of_decide_eq_true (by first | (with_reducible assumption) | assumption)
                                                          obtain ⟨ad167, e167, hx167_0⟩ := Kd.at_string HR166.out x158_6 p167 q167
                                                          cases e167
                                                          try (replace hx167_0 := (HB.out.cell (World.block_lt_of_cell? w _ hx167_0)).trans hx167_0)
                                                          replace p167 := eq_true p167
                                                          replace q167 := eq_true q167
                                                          go_wp2
                                                          go_roundg k6
                                                          case measure => have := HK1.out; have := HJ14.out; have := HJ20.out; have := HK4.out; have := HJ75.out; have := HK6.out; omega
                                                          case rel => exact ⟨(((rdOf ByteArray.empty y163 x158_6).toList != x3_4.toList)), (wrap64 (x158_6 + 1)), (by first | rfl | exact congrArg (Value.int .i64) (i64_w _) | (simp; done) | (simp [*]; done)), (by first | rfl | exact congrArg (Value.int .i64) (i64_w _) | (simp; done) | (simp [*]; done)), H', ⟨by have := HK1.out; have := HJ14.out; have := HJ20.out; have := HK4.out; have := HJ75.out; have := HK6.out; omega⟩, ⟨by (with_reducible repeat (first | apply Kd.R_alloc | apply Kd.R_drewN | apply Kd.R_drew)); exact HO_2.out⟩, ⟨by repeat (first | (with_reducible exact HR166.out) | (with_reducible refine Kd.C_alloc ?_ _) | (with_reducible refine Kd.C_drewN ?_ _) | (with_reducible refine Kd.C_drew ?_) | exact HR166.out)⟩, ⟨by repeat (first | (with_reducible first | exact HB.out | apply below_alloc | apply pw_below_drewN | apply below_drew1) | exact HB.out)⟩⟩
                                                        · replace c84 := Bool.eq_false_iff.mpr c84
                                                          subst c84
                                                          have H1 : (impl_command.l3 k6 x2_4 x3_4 false y163 (y163.length : Int) (wrap64 (x158_6 + 1))) = some (r1, r2, r3) := by rw [if_neg (show ¬ (false = true) by decide)] at H; exact H
                                                          clear H
                                                          have H := H1
                                                          clear H1
                                                          have H' := Aside0.mk H
                                                          clear H
                                                          have p167 : 0 ≤ (x158_6 : Int) := of_decide_eq_true (by first | (with_reducible assumption) | assumption)
                                                          have q167 : x158_6 < (y163.length : Int) := of_decide_eq_true (by first | (with_reducible assumption) | assumption)
                                                          obtain ⟨ad167, e167, hx167_0⟩ := Kd.at_string HR166.out x158_6 p167 q167
                                                          cases e167
                                                          try (replace hx167_0 := (HB.out.cell (World.block_lt_of_cell? w _ hx167_0)).trans hx167_0)
                                                          replace p167 := eq_true p167
                                                          replace q167 := eq_true q167
                                                          go_wp2
                                                          go_roundg k6
                                                          case measure => have := HK1.out; have := HJ14.out; have := HJ20.out; have := HK4.out; have := HJ75.out; have := HK6.out; omega
                                                          case rel => exact ⟨(false), (wrap64 (x158_6 + 1)), (by first | rfl | exact congrArg (Value.int .i64) (i64_w _) | (simp; done) | (simp [*]; done)), (by first | rfl | exact congrArg (Value.int .i64) (i64_w _) | (simp; done) | (simp [*]; done)), H', ⟨by have := HK1.out; have := HJ14.out; have := HJ20.out; have := HK4.out; have := HJ75.out; have := HK6.out; omega⟩, ⟨by (with_reducible repeat (first | apply Kd.R_alloc | apply Kd.R_drewN | apply Kd.R_drew)); exact HO_2.out⟩, ⟨by repeat (first | (with_reducible exact HR166.out) | (with_reducible refine Kd.C_alloc ?_ _) | (with_reducible refine Kd.C_drewN ?_ _) | (with_reducible refine Kd.C_drew ?_) | exact HR166.out)⟩, ⟨by repeat (first | (with_reducible first | exact HB.out | apply below_alloc | apply pw_below_drewN | apply below_drew1) | exact HB.out)⟩⟩
                                                      · rw [if_neg c83] at H
                                                        exact absurd H (by simp)
                                                    · rw [if_neg c82] at H
                                                      exact absurd H (by simp)
                                                  · rw [if_neg c81] at H
                                                    have c81b0 : decide (x158_6 < (y163.length : Int)) = false := decide_eq_false c81
                                                    clear c81
                                                    simp only [Option.some.injEq, Prod.mk.injEq] at H
                                                    obtain ⟨rfl, rfl, rfl⟩ := H
                                                    go_wp2
                                                    go_ret3
                                                    exact ⟨_, by first | rfl | (simp [errW_none, errW_some] <;> rfl) | (simp [*, errW_none, errW_some] <;> rfl), by (with_reducible repeat (first | apply Kd.R_alloc | apply Kd.R_drewN | apply Kd.R_drew)); exact HO_2.out, by repeat (first | (with_reducible first | exact HB.out | apply below_alloc | apply pw_below_drewN | apply below_drew1) | exact HB.out)⟩
                                            · rw [if_neg c79] at H
                                              exact absurd H (by simp)
                                      · rw [if_neg c75] at H
                                        have c75b0 : ((rdOf ByteArray.empty x2_4 0).toList == ([99, 97, 116] : List UInt8)) = false := beq_eq_false_iff_ne.mpr c75
                                        have c75b1 : ((rdOf ByteArray.empty x2_4 0).toList != ([99, 97, 116] : List UInt8)) = true := bne_iff_ne.mpr c75
                                        by_cases c85 : (rdOf ByteArray.empty x2_4 0).toList = ([108, 115] : List UInt8)
                                        · rw [if_pos c85] at H
                                          have c85b0 : ((rdOf ByteArray.empty x2_4 0).toList == ([108, 115] : List UInt8)) = true := beq_iff_eq.mpr c85
                                          have c85b1 : ((rdOf ByteArray.empty x2_4 0).toList != ([108, 115] : List UInt8)) = false := bne_eq_false_iff_eq.mpr c85
                                          clear c85
                                          simp only [Option.some.injEq, Prod.mk.injEq] at H
                                          obtain ⟨rfl, rfl, rfl⟩ := H
                                          obtain ⟨Ao86, co86, eo86⟩ := Kd.R_slice HO_2.out
                                          subst eo86
                                          have p162 : 0 ≤ (0 : Int) := (by omega)
                                          have q162 : 0 < (x2_4.length : Int) := of_decide_eq_true (by first | (with_reducible assumption) | assumption)
                                          obtain ⟨ad162, e162, hx162_0⟩ := Kd.at_string (Kd.R_reads' HO_2.out).2.2 0 p162 q162
                                          cases e162
                                          have qi162 : (0 < x2_4.length) = True := eq_true (by omega)
                                          (try rw [show ((0 : Int)).toNat = 0 from rfl] at hx162_0)
                                          (try rw [Addr.add_zero'] at hx162_0)
                                          replace p162 := eq_true p162
                                          replace q162 := eq_true q162
                                          go_wp2
                                          go_ret3
                                          exact ⟨_, by first | rfl | (simp [errW_none, errW_some] <;> rfl) | (simp [*, errW_none, errW_some] <;> rfl), by (with_reducible repeat (first | apply Kd.R_alloc | apply Kd.R_drewN | apply Kd.R_drew)); exact Kd.R_mono HO_2.out (fun _ hk => trivial), by repeat (first | (with_reducible first | exact HB.out | apply below_alloc | apply pw_below_drewN | apply below_drew1) | exact HB.out)⟩
                                        · rw [if_neg c85] at H
                                          have c85b0 : ((rdOf ByteArray.empty x2_4 0).toList == ([108, 115] : List UInt8)) = false := beq_eq_false_iff_ne.mpr c85
                                          have c85b1 : ((rdOf ByteArray.empty x2_4 0).toList != ([108, 115] : List UInt8)) = true := bne_iff_ne.mpr c85
                                          have HC87 := Aside0.mk H
                                          clear H
                                          obtain ⟨Ao88, co88, eo88⟩ := Kd.R_slice HO_2.out
                                          subst eo88
                                          have p162 : 0 ≤ (0 : Int) := (by omega)
                                          have q162 : 0 < (x2_4.length : Int) := of_decide_eq_true (by first | (with_reducible assumption) | assumption)
                                          obtain ⟨ad162, e162, hx162_0⟩ := Kd.at_string (Kd.R_reads' HO_2.out).2.2 0 p162 q162
                                          cases e162
                                          have qi162 : (0 < x2_4.length) = True := eq_true (by omega)
                                          (try rw [show ((0 : Int)).toNat = 0 from rfl] at hx162_0)
                                          (try rw [Addr.add_zero'] at hx162_0)
                                          replace p162 := eq_true p162
                                          replace q162 := eq_true q162
                                          go_upto_if 173 with (fail)
                                          go_cut [173] (fun v173 wc => ∃ (kq : Nat) (x173_86 : Bool), v173 = .bool x173_86 ∧ Aside0 (impl_command.j8 kq x2_4 x3_4 (wrap64 ((x2_4.length : Int) - 1)) (rdOf ByteArray.empty x2_4 0) x173_86 = some (r1, r2, r3)) ∧ Aside0 (kq ≤ k4) ∧ Aside0 (Kd.R Kd.string 9 wc w.heap.size (fun _ => True) (.slice (some ad162) x2_4.length co88) x2_4) ∧ Aside0 (Below w.heap.size w wc))
                                          case first => as_aux_lemma =>
                                            have H := HC87.out
                                            clear HC87
                                            by_cases c89 : (rdOf ByteArray.empty x2_4 0).toList = ([109, 107, 100, 105, 114] : List UInt8)
                                            · rw [if_pos c89] at H
                                              have c89b0 : ((rdOf ByteArray.empty x2_4 0).toList == ([109, 107, 100, 105, 114] : List UInt8)) = true := beq_iff_eq.mpr c89
                                              have c89b1 : ((rdOf ByteArray.empty x2_4 0).toList != ([109, 107, 100, 105, 114] : List UInt8)) = false := bne_eq_false_iff_eq.mpr c89
                                              clear c89
                                              (first | rw [c89b0] | (simp only [i64_w, i32_w]; rw [c89b0]) | skip)
                                              have H' := Aside0.mk H
                                              clear H
                                              go_wp2
                                              go_meet
                                              case rel => exact ⟨_, (((rdOf ByteArray.empty x2_4 0).toList == ([109, 107, 100, 105, 114] : List UInt8))), (by first | rfl | exact congrArg (Value.int .i64) (i64_w _) | (simp; done) | (simp [*]; done)), H', ⟨by have := HK1.out; have := HJ14.out; have := HJ20.out; have := HK4.out; first | omega | exact Nat.le_refl _⟩, ⟨by (with_reducible repeat (first | apply Kd.R_alloc | apply Kd.R_drewN | apply Kd.R_drew)); exact Kd.R_mono HO_2.out (fun _ hk => trivial)⟩, ⟨by repeat (first | (with_reducible first | exact HB.out | apply below_alloc | apply pw_below_drewN | apply below_drew1) | exact HB.out)⟩⟩
                                            · rw [if_neg c89] at H
                                              have c89b0 : ((rdOf ByteArray.empty x2_4 0).toList == ([109, 107, 100, 105, 114] : List UInt8)) = false := beq_eq_false_iff_ne.mpr c89
                                              have c89b1 : ((rdOf ByteArray.empty x2_4 0).toList != ([109, 107, 100, 105, 114] : List UInt8)) = true := bne_iff_ne.mpr c89
                                              (first | rw [c89b0] | (simp only [i64_w, i32_w]; rw [c89b0]) | skip)
                                              have H' := Aside0.mk H
                                              clear H
                                              go_wp2
                                              go_meet
                                              case rel => exact ⟨_, (((rdOf ByteArray.empty x2_4 0).toList == ([114, 109] : List UInt8))), (by first | rfl | exact congrArg (Value.int .i64) (i64_w _) | (simp; done) | (simp [*]; done)), H', ⟨by have := HK1.out; have := HJ14.out; have := HJ20.out; have := HK4.out; first | omega | exact Nat.le_refl _⟩, ⟨by (with_reducible repeat (first | apply Kd.R_alloc | apply Kd.R_drewN | apply Kd.R_drew)); exact Kd.R_mono HO_2.out (fun _ hk => trivial)⟩, ⟨by repeat (first | (with_reducible first | exact HB.out | apply below_alloc | apply pw_below_drewN | apply below_drew1) | exact HB.out)⟩⟩
                                          case rest => as_aux_lemma =>
                                            clear HC87
                                            try clear c1
                                            try clear p1
                                            try clear q1
                                            try clear hx1
                                            try clear qi1
                                            try clear c2
                                            try clear p2
                                            try clear q2
                                            try clear c3
                                            try clear c4
                                            try clear p4
                                            try clear q4
                                            try clear hx4
                                            try clear c5
                                            try clear c6
                                            try clear p6
                                            try clear c7
                                            try clear p7
                                            try clear q7
                                            try clear c8
                                            try clear q8
                                            try clear p14
                                            try clear q14
                                            try clear hx14
                                            try clear p15
                                            try clear q15
                                            try clear hx15
                                            try clear p16
                                            try clear q16
                                            try clear hx16
                                            try clear qi16
                                            try clear c24
                                            try clear c24b0
                                            try clear c25
                                            try clear c25b0
                                            try clear c27
                                            try clear c27b0
                                            try clear c27b1
                                            try clear c28
                                            try clear c28b0
                                            try clear c28b1
                                            try clear q29
                                            try clear c30
                                            try clear c32
                                            try clear c32b0
                                            try clear c32b1
                                            try clear c33
                                            try clear c33b0
                                            try clear c33b1
                                            try clear c34
                                            try clear c34b0
                                            try clear c34b1
                                            try clear c34b2
                                            try clear c35
                                            try clear c38
                                            try clear c40
                                            try clear c40b0
                                            try clear c41
                                            try clear c41b0
                                            try clear c42
                                            try clear c42b0
                                            try clear c43
                                            try clear c43b0
                                            try clear c43b1
                                            try clear c44
                                            try clear c44b0
                                            try clear c45
                                            try clear c45b0
                                            try clear c46
                                            try clear c46b0
                                            try clear p47
                                            try clear q47
                                            try clear hx47
                                            try clear c48
                                            try clear c48b0
                                            try clear c49
                                            try clear c49b0
                                            try clear c50
                                            try clear c50b0
                                            try clear c51
                                            try clear c51b0
                                            try clear c52
                                            try clear c52b0
                                            try clear c52b1
                                            try clear c53
                                            try clear c53b0
                                            try clear c53b1
                                            try clear c54
                                            try clear c54b0
                                            try clear c54b1
                                            try clear c55
                                            try clear c55b0
                                            try clear c55b1
                                            try clear c56
                                            try clear c56b0
                                            try clear c56b1
                                            try clear c57
                                            try clear c57b0
                                            try clear c57b1
                                            try clear c58
                                            try clear c58b0
                                            try clear c58b1
                                            try clear c59
                                            try clear c59b0
                                            try clear c59b1
                                            try clear c60
                                            try clear c60b0
                                            try clear c61
                                            try clear c61b0
                                            try clear c62
                                            try clear c62b0
                                            try clear c62b1
                                            try clear c63
                                            try clear c63b0
                                            try clear c63b1
                                            try clear c64
                                            try clear c64b0
                                            try clear c64b1
                                            try clear p64
                                            try clear c65
                                            try clear c65b0
                                            try clear c65b1
                                            try clear c66
                                            try clear c66b0
                                            try clear c66b1
                                            try clear c67
                                            try clear c67b0
                                            try clear c67b1
                                            try clear c68
                                            try clear c68b0
                                            try clear c68b1
                                            try clear c69
                                            try clear c69b0
                                            try clear c69b1
                                            try clear c70
                                            try clear c70b0
                                            try clear c70b1
                                            try clear c70b2
                                            try clear c72
                                            try clear c72b0
                                            try clear c72b1
                                            try clear c73
                                            try clear c73b0
                                            try clear c73b1
                                            try clear c75
                                            try clear c75b0
                                            try clear c75b1
                                            try clear c78
                                            try clear c78b0
                                            try clear c79
                                            try clear c79b0
                                            try clear c79b1
                                            try clear c80
                                            try clear q80
                                            try clear c81
                                            try clear c81b0
                                            try clear c82
                                            try clear c82b0
                                            try clear c83
                                            try clear c83b0
                                            try clear c84
                                            try clear c85
                                            try clear c85b0
                                            try clear c85b1
                                            try clear c89
                                            try clear c89b0
                                            try clear c89b1
                                            try clear hx149_0
                                            try clear hx150_0
                                            try clear hx161_0
                                            try clear hx162_0
                                            try clear hx167_0
                                            try clear p1
                                            try clear p14
                                            try clear p149
                                            try clear p15
                                            try clear p150
                                            try clear p16
                                            try clear p161
                                            try clear p162
                                            try clear p167
                                            try clear p2
                                            try clear p4
                                            try clear p47
                                            try clear p6
                                            try clear p64
                                            try clear p7
                                            try clear q1
                                            try clear q14
                                            try clear q149
                                            try clear q15
                                            try clear q150
                                            try clear q16
                                            try clear q161
                                            try clear q162
                                            try clear q167
                                            try clear q2
                                            try clear q29
                                            try clear q4
                                            try clear q47
                                            try clear q7
                                            try clear q8
                                            try clear q80
                                            obtain ⟨kq, x173_86, rfl, HA, HJ86, HO_2, HB⟩ := hcut
                                            cases kq with
                                            | zero => exact absurd HA.out (by simp [impl_command.j8])
                                            | succ kj86 =>
                                              have H := HA.out
                                              clear HA
                                              simp only [impl_command.j8] at H
                                              by_cases c90 : x173_86 = true
                                              · subst c90
                                                have H1 : (if (wrap64 ((x2_4.length : Int) - 1)) = 1 then (some (x2_4, x3_4, (x3_4.toList == ([] : List UInt8)))) else (some (x2_4, x3_4, false))) = some (r1, r2, r3) := by rw [if_pos rfl] at H; exact H
                                                clear H
                                                have H := H1
                                                clear H1
                                                by_cases c91 : (wrap64 ((x2_4.length : Int) - 1)) = 1
                                                · rw [if_pos c91] at H
                                                  have c91b0 : ((wrap64 ((x2_4.length : Int) - 1)) == 1) = true := beq_iff_eq.mpr c91
                                                  have c91b1 : ((wrap64 ((x2_4.length : Int) - 1)) != 1) = false := bne_eq_false_iff_eq.mpr c91
                                                  clear c91
                                                  simp only [Option.some.injEq, Prod.mk.injEq] at H
                                                  obtain ⟨rfl, rfl, rfl⟩ := H
                                                  go_wp2
                                                  go_ret3
                                                  exact ⟨_, by first | rfl | (simp [errW_none, errW_some] <;> rfl) | (simp [*, errW_none, errW_some] <;> rfl), by (with_reducible repeat (first | apply Kd.R_alloc | apply Kd.R_drewN | apply Kd.R_drew)); exact HO_2.out, by repeat (first | (with_reducible first | exact HB.out | apply below_alloc | apply pw_below_drewN | apply below_drew1) | exact HB.out)⟩
                                                · rw [if_neg c91] at H
                                                  have c91b0 : ((wrap64 ((x2_4.length : Int) - 1)) == 1) = false := beq_eq_false_iff_ne.mpr c91
                                                  have c91b1 : ((wrap64 ((x2_4.length : Int) - 1)) != 1) = true := bne_iff_ne.mpr c91
                                                  simp only [Option.some.injEq, Prod.mk.injEq] at H
                                                  obtain ⟨rfl, rfl, rfl⟩ := H
                                                  go_wp2
                                                  go_ret3
                                                  exact ⟨_, by first | rfl | (simp [errW_none, errW_some] <;> rfl) | (simp [*, errW_none, errW_some] <;> rfl), by (with_reducible repeat (first | apply Kd.R_alloc | apply Kd.R_drewN | apply Kd.R_drew)); exact HO_2.out, by repeat (first | (with_reducible first | exact HB.out | apply below_alloc | apply pw_below_drewN | apply below_drew1) | exact HB.out)⟩
                                              · replace c90 := Bool.eq_false_iff.mpr c90
                                                subst c90
                                                have H1 : (if (rdOf ByteArray.empty x2_4 0).toList = ([109, 118] : List UInt8) then (if (wrap64 ((x2_4.length : Int) - 1)) = 2 then (some (x2_4, x3_4, (x3_4.toList == ([] : List UInt8)))) else (some (x2_4, x3_4, false))) else (if (wrap64 ((x2_4.length : Int) - 1)) = 0 then (if 0 < (x2_4.length : Int) then (if 0 < ((rdOf ByteArray.empty x2_4 0).size : Int) then (some (x2_4, x3_4, ((bt (rdOf ByteArray.empty x2_4 0) 0) == 122))) else (none)) else (none)) else (some (x2_4, x3_4, false)))) = some (r1, r2, r3) := by rw [if_neg (show ¬ (false = true) by decide)] at H; exact H
                                                clear H
                                                have H := H1
                                                clear H1
                                                by_cases c92 : (rdOf ByteArray.empty x2_4 0).toList = ([109, 118] : List UInt8)
                                                · rw [if_pos c92] at H
                                                  have c92b0 : ((rdOf ByteArray.empty x2_4 0).toList == ([109, 118] : List UInt8)) = true := beq_iff_eq.mpr c92
                                                  have c92b1 : ((rdOf ByteArray.empty x2_4 0).toList != ([109, 118] : List UInt8)) = false := bne_eq_false_iff_eq.mpr c92
                                                  clear c92
                                                  by_cases c93 : (wrap64 ((x2_4.length : Int) - 1)) = 2
                                                  · rw [if_pos c93] at H
                                                    have c93b0 : ((wrap64 ((x2_4.length : Int) - 1)) == 2) = true := beq_iff_eq.mpr c93
                                                    have c93b1 : ((wrap64 ((x2_4.length : Int) - 1)) != 2) = false := bne_eq_false_iff_eq.mpr c93
                                                    clear c93
                                                    simp only [Option.some.injEq, Prod.mk.injEq] at H
                                                    obtain ⟨rfl, rfl, rfl⟩ := H
                                                    go_wp2
                                                    go_ret3
                                                    exact ⟨_, by first | rfl | (simp [errW_none, errW_some] <;> rfl) | (simp [*, errW_none, errW_some] <;> rfl), by (with_reducible repeat (first | apply Kd.R_alloc | apply Kd.R_drewN | apply Kd.R_drew)); exact HO_2.out, by repeat (first | (with_reducible first | exact HB.out | apply below_alloc | apply pw_below_drewN | apply below_drew1) | exact HB.out)⟩
                                                  · rw [if_neg c93] at H
                                                    have c93b0 : ((wrap64 ((x2_4.length : Int) - 1)) == 2) = false := beq_eq_false_iff_ne.mpr c93
                                                    have c93b1 : ((wrap64 ((x2_4.length : Int) - 1)) != 2) = true := bne_iff_ne.mpr c93
                                                    simp only [Option.some.injEq, Prod.mk.injEq] at H
                                                    obtain ⟨rfl, rfl, rfl⟩ := H
                                                    go_wp2
                                                    go_ret3
                                                    exact ⟨_, by first | rfl | (simp [errW_none, errW_some] <;> rfl) | (simp [*, errW_none, errW_some] <;> rfl), by (with_reducible repeat (first | apply Kd.R_alloc | apply Kd.R_drewN | apply Kd.R_drew)); exact HO_2.out, by repeat (first | (with_reducible first | exact HB.out | apply below_alloc | apply pw_below_drewN | apply below_drew1) | exact HB.out)⟩
                                                · rw [if_neg c92] at H
                                                  have c92b0 : ((rdOf ByteArray.empty x2_4 0).toList == ([109, 118] : List UInt8)) = false := beq_eq_false_iff_ne.mpr c92
                                                  have c92b1 : ((rdOf ByteArray.empty x2_4 0).toList != ([109, 118] : List UInt8)) = true := bne_iff_ne.mpr c92
                                                  by_cases c94 : (wrap64 ((x2_4.length : Int) - 1)) = 0
                                                  · rw [if_pos c94] at H
                                                    have c94b0 : ((wrap64 ((x2_4.length : Int) - 1)) == 0) = true := beq_iff_eq.mpr c94
                                                    have c94b1 : ((wrap64 ((x2_4.length : Int) - 1)) != 0) = false := bne_eq_false_iff_eq.mpr c94
                                                    clear c94
                                                    by_cases c95 : 0 < (x2_4.length : Int)
                                                    · rw [if_pos c95] at H
                                                      have c95b0 : decide (0 < (x2_4.length : Int)) = true := decide_eq_true c95
                                                      have c95b1 : decide (0 < x2_4.length) = true := decide_eq_true (by omega)
                                                      clear c95
                                                      by_cases c96 : 0 < ((rdOf ByteArray.empty x2_4 0).size : Int)
                                                      · rw [if_pos c96] at H
                                                        have c96b0 : decide (0 < ((rdOf ByteArray.empty x2_4 0).size : Int)) = true := decide_eq_true c96
                                                        have c96b1 : decide (0 < (rdOf ByteArray.empty x2_4 0).size) = true := decide_eq_true (by omega)
                                                        clear c96
                                                        simp only [Option.some.injEq, Prod.mk.injEq] at H
                                                        obtain ⟨rfl, rfl, rfl⟩ := H
                                                        have p168 : 0 ≤ (0 : Int) := (by omega)
                                                        have q168 : 0 < (x2_4.length : Int) := of_decide_eq_true (by first | (with_reducible assumption) | assumption)
                                                        obtain ⟨ad168, e168, hx168_0⟩ := Kd.at_string (Kd.R_reads' HO_2.out).2.2 0 p168 q168
                                                        obtain rfl : ad162 = ad168 := (by injection e168)
                                                        have qi168 : (0 < x2_4.length) = True := eq_true (by omega)
                                                        (try rw [show ((0 : Int)).toNat = 0 from rfl] at hx168_0)
                                                        (try rw [Addr.add_zero'] at hx168_0)
                                                        replace p168 := eq_true p168
                                                        replace q168 := eq_true q168
                                                        have p97 : 0 ≤ (0 : Int) := (by omega)
                                                        have q97 : 0 < (rdOf ByteArray.empty x2_4 0).size := (by have : (0 : Int) < ((rdOf ByteArray.empty x2_4 0).size : Int) := of_decide_eq_true (by first | (with_reducible assumption) | assumption); omega)
                                                        have hx97 : ∀ h : 0 < (rdOf ByteArray.empty x2_4 0).size, (((rdOf ByteArray.empty x2_4 0)[0]'h).toNat : Int) = bt (rdOf ByteArray.empty x2_4 0) 0 := bt_at (rdOf ByteArray.empty x2_4 0) 0
                                                        clear p97
                                                        have qi97 : (0 < ((rdOf ByteArray.empty x2_4 0).size : Int)) = True := eq_true (of_decide_eq_true (by first | (with_reducible assumption) | assumption))
                                                        replace q97 := eq_true q97
                                                        go_wp2
                                                        go_ret3
                                                        exact ⟨_, by first | rfl | (simp [errW_none, errW_some] <;> rfl) | (simp [*, errW_none, errW_some] <;> rfl), by (with_reducible repeat (first | apply Kd.R_alloc | apply Kd.R_drewN | apply Kd.R_drew)); exact HO_2.out, by repeat (first | (with_reducible first | exact HB.out | apply below_alloc | apply pw_below_drewN | apply below_drew1) | exact HB.out)⟩
                                                      · rw [if_neg c96] at H
                                                        exact absurd H (by simp)
                                                    · rw [if_neg c95] at H
                                                      exact absurd H (by simp)
                                                  · rw [if_neg c94] at H
                                                    have c94b0 : ((wrap64 ((x2_4.length : Int) - 1)) == 0) = false := beq_eq_false_iff_ne.mpr c94
                                                    have c94b1 : ((wrap64 ((x2_4.length : Int) - 1)) != 0) = true := bne_iff_ne.mpr c94
                                                    simp only [Option.some.injEq, Prod.mk.injEq] at H
                                                    obtain ⟨rfl, rfl, rfl⟩ := H
                                                    go_wp2
                                                    go_ret3
                                                    exact ⟨_, by first | rfl | (simp [errW_none, errW_some] <;> rfl) | (simp [*, errW_none, errW_some] <;> rfl), by (with_reducible repeat (first | apply Kd.R_alloc | apply Kd.R_drewN | apply Kd.R_drew)); exact HO_2.out, by repeat (first | (with_reducible first | exact HB.out | apply below_alloc | apply pw_below_drewN | apply below_drew1) | exact HB.out)⟩
                                  · rw [if_neg c72] at H
                                    exact absurd H (by simp)
                        · rw [if_neg c35] at H
                          exact absurd H (by simp)
                      · rw [if_neg c34] at H
                        exact absurd H (by simp)
                    · rw [if_neg c33] at H
                      exact absurd H (by simp)
                  · rw [if_neg c32] at H
                    exact absurd H (by simp)
                · rw [if_neg c30] at H
                  exact absurd H (by simp)

end Go.Proofs.Ytmbcihfdfohfcaa.PFnExactPlain
