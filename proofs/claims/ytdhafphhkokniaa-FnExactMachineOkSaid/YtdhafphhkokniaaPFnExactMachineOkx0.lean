-- Written by a program of this session out of the translation. Not trusted: Lean checks it.
import Derived.Test.YtdhafphhkokniaaProg
import Derived.Below
import Derived.Deep.Draws
import Derived.Deep.AppendLies
import Derived.Maps.AppendAt
import Derived.OwnWalk
import Derived.Laws.BytesArg
import Derived.Laws.MakeOwn
import Derived.Laws.OwnMore
import Derived.Deep.OwnRows
import Derived.Tactics
import Derived.Lib.ConvBytes
import Derived.Laws.Slices
import Derived.WalkKit
import Derived.KernelRfl
import Derived.RowKit3
import Derived.Deep.LoopGhost
import Derived.Deep.QuietTactic
import Derived.BigQuiet
import Derived.WideLaws
import Derived.Deep.DeepCutAuto
import Derived.Deep.CutBlock
import Derived.Deep.RegionHeld3
import Derived.Laws.Rows
import Derived.Lib.AppendStr
import Derived.ArgAppend
import Derived.Laws.IdiomCopy
import Derived.OrdersHeld
import Derived.Laws.BitsLemmas
import Derived.RowKit
import Derived.StillTailTactics
import Derived.Laws.Externs
import Derived.Test.YtdhafphhkokniaaWWords
import Derived.Test.YtdhafphhkokniaaWLast
import Derived.Test.YtdhafphhkokniaaWTab
import Derived.Test.YtdhafphhkokniaaWFour
import Derived.Test.YtdhafphhkokniaaWQPut
import Derived.Test.YtdhafphhkokniaaWApart
import Derived.Test.YtdhafphhkokniaaWArr
import Derived.Test.YtdhafphhkokniaaWZeros
import Derived.Test.YtdhafphhkokniaaWFoot
import Derived.Test.YtdhafphhkokniaaWKept
import Derived.Test.YtdhafphhkokniaaWShare
import Derived.Test.YtdhafphhkokniaaWN
import Derived.Test.YtdhafphhkokniaaWFootNe
import Derived.Test.YtdhafphhkokniaaWAt
import Derived.Test.YtdhafphhkokniaaWEqStruct
import Derived.Test.YtdhafphhkokniaaWRepsOne
import Derived.Test.YtdhafphhkokniaaWInv
import Derived.Test.YtdhafphhkokniaaWInvWords
import Derived.Test.YtdhafphhkokniaaWGuard
import Derived.Test.YtdhafphhkokniaaWNEv
import Derived.Test.YtdhafphhkokniaaWMore
namespace Go.Proofs.Ytdhafphhkokniaa.PFnExactMachineOk
open Go.RowKit Go.Proofs.YtdhafphhkokniaaW.PrintWords Go.Proofs.YtdhafphhkokniaaW.PrintLast Go.Proofs.YtdhafphhkokniaaW.PrintMore
attribute [local go_sem] max2_int min2_int max_two min_two max_three min_three max_four min_four   -- for this text's walks alone
set_option linter.unusedVariables false
set_option linter.unusedSimpArgs false



def errW : Option Int → Value
  | none => .nilIface
  | some c => .iface 0 (.int .i64 c)
theorem errW_none : errW none = .nilIface := rfl
theorem errW_some (c : Int) : errW (some c) = .iface 0 (.int .i64 c) := rfl

theorem info5 : (Try.prog.info? 5).map (fun i => (i.zero, i.size, i.bytes)) = some (some (.int .u8 0), 1, 1) := by kernel_rfl
theorem info24 : (Try.prog.info? 24).map (fun i => (i.zero, i.size, i.bytes)) = some (some (.int .u64 0), 1, 8) := by kernel_rfl
-- the values' own types
def rd_L2 (xs : List (List Int)) (i : Int) : (List Int) := xs.getD i.toNat ([] : List Int)
theorem at_L2 {w : World} {A : Option Addr} {n : Nat} {xs : List (List Int)} (h : Kd.C (Kd.slice 24 (Kd.int .u64)) w A n xs) (i : Int) (h0 : 0 ≤ i) (h1 : i < n) : ∃ ad A0 c0, A = some ad ∧ w.cell? (ad.add i.toNat) = some (.slice A0 (rd_L2 xs i).length c0) ∧ (rd_L2 xs i).length ≤ c0 ∧ (Kd.int .u64).C w A0 (rd_L2 xs i).length (rd_L2 xs i) := by
  obtain ⟨ad, c, e, _, hK, hc0⟩ := Kd.C_get h ([] : List Int) i h0 h1
  have hc : ∀ j u, c[j]? = some u → w.cell? (ad.add (i.toNat * 1 + j)) = some u := hc0
  obtain ⟨A0, c0, rfl, l0, g0⟩ := hK
  exact ⟨ad, A0, c0, e, by have hq := hc 0 _ rfl; rwa [Nat.mul_one, Nat.add_zero] at hq, l0, g0⟩

def rd_L4 (xs : List (List Int)) (i : Int) : (List Int) := xs.getD i.toNat ([] : List Int)
theorem at_L4 {w : World} {A : Option Addr} {n : Nat} {xs : List (List Int)} (h : Kd.C (Kd.slice 5 (Kd.int .u8)) w A n xs) (i : Int) (h0 : 0 ≤ i) (h1 : i < n) : ∃ ad A0 c0, A = some ad ∧ w.cell? (ad.add i.toNat) = some (.slice A0 (rd_L4 xs i).length c0) ∧ (rd_L4 xs i).length ≤ c0 ∧ (Kd.int .u8).C w A0 (rd_L4 xs i).length (rd_L4 xs i) := by
  obtain ⟨ad, c, e, _, hK, hc0⟩ := Kd.C_get h ([] : List Int) i h0 h1
  have hc : ∀ j u, c[j]? = some u → w.cell? (ad.add (i.toNat * 1 + j)) = some u := hc0
  obtain ⟨A0, c0, rfl, l0, g0⟩ := hK
  exact ⟨ad, A0, c0, e, by have hq := hc 0 _ rfl; rwa [Nat.mul_one, Nat.add_zero] at hq, l0, g0⟩

/-! #### struct type 55 -/
structure S55 where
  f0 : (List Int)
  f1 : Int
  f2 : Bool
  f3 : Bool
  f4 : Bool
  f5 : Bool
  f6 : Int
  f7 : Int
  f8 : Int
  f9 : Int
  f10 : Int
  f11 : Int
  f12 : Int
  f13 : Int
  f14 : (List Int)
  f15 : (List Int)
  f16 : (List Int)
  f17 : (List Int)
  f18 : Int
  f19 : Int
  f20 : Int
  f21 : Bool
def z55 : S55 := ⟨([] : List Int), (0 : Int), false, false, false, false, (0 : Int), (0 : Int), (0 : Int), (0 : Int), (0 : Int), (0 : Int), (0 : Int), (0 : Int), ([] : List Int), ([] : List Int), ([] : List Int), ([] : List Int), (0 : Int), (0 : Int), (0 : Int), false⟩
def k55 : Kd S55 := Kd.iso (Kd.pair (Kd.slice 24 (Kd.int .u64)) (Kd.pair (Kd.int .u64) (Kd.pair Kd.bool (Kd.pair Kd.bool (Kd.pair Kd.bool (Kd.pair Kd.bool (Kd.pair (Kd.int .u64) (Kd.pair (Kd.int .u64) (Kd.pair (Kd.int .u64) (Kd.pair (Kd.int .u64) (Kd.pair (Kd.int .u64) (Kd.pair (Kd.int .u64) (Kd.pair (Kd.int .u64) (Kd.pair (Kd.int .u64) (Kd.pair (Kd.slice 5 (Kd.int .u8)) (Kd.pair (Kd.slice 5 (Kd.int .u8)) (Kd.pair (Kd.slice 5 (Kd.int .u8)) (Kd.pair (Kd.slice 5 (Kd.int .u8)) (Kd.pair (Kd.int .u64) (Kd.pair (Kd.int .u64) (Kd.pair (Kd.int .u64) Kd.bool))))))))))))))))))))) (fun x : S55 => (x.f0, x.f1, x.f2, x.f3, x.f4, x.f5, x.f6, x.f7, x.f8, x.f9, x.f10, x.f11, x.f12, x.f13, x.f14, x.f15, x.f16, x.f17, x.f18, x.f19, x.f20, x.f21))
theorem k55_open {w : World} {x : S55} {cs : List Value} (h : k55.K w x cs) : ∃ A0 c0 A14 c14 A15 c15 A16 c16 A17 c17, cs = [.slice A0 x.f0.length c0, .int .u64 x.f1, .bool x.f2, .bool x.f3, .bool x.f4, .bool x.f5, .int .u64 x.f6, .int .u64 x.f7, .int .u64 x.f8, .int .u64 x.f9, .int .u64 x.f10, .int .u64 x.f11, .int .u64 x.f12, .int .u64 x.f13, .slice A14 x.f14.length c14, .slice A15 x.f15.length c15, .slice A16 x.f16.length c16, .slice A17 x.f17.length c17, .int .u64 x.f18, .int .u64 x.f19, .int .u64 x.f20, .bool x.f21] ∧ x.f0.length ≤ c0 ∧ (Kd.int .u64).C w A0 x.f0.length x.f0 ∧ x.f14.length ≤ c14 ∧ (Kd.int .u8).C w A14 x.f14.length x.f14 ∧ x.f15.length ≤ c15 ∧ (Kd.int .u8).C w A15 x.f15.length x.f15 ∧ x.f16.length ≤ c16 ∧ (Kd.int .u8).C w A16 x.f16.length x.f16 ∧ x.f17.length ≤ c17 ∧ (Kd.int .u8).C w A17 x.f17.length x.f17 := by
  obtain ⟨_, _, rfl, ⟨A0, c0, rfl, l0, g0⟩, ⟨_, _, rfl, rfl, ⟨_, _, rfl, rfl, ⟨_, _, rfl, rfl, ⟨_, _, rfl, rfl, ⟨_, _, rfl, rfl, ⟨_, _, rfl, rfl, ⟨_, _, rfl, rfl, ⟨_, _, rfl, rfl, ⟨_, _, rfl, rfl, ⟨_, _, rfl, rfl, ⟨_, _, rfl, rfl, ⟨_, _, rfl, rfl, ⟨_, _, rfl, rfl, ⟨_, _, rfl, ⟨A14, c14, rfl, l14, g14⟩, ⟨_, _, rfl, ⟨A15, c15, rfl, l15, g15⟩, ⟨_, _, rfl, ⟨A16, c16, rfl, l16, g16⟩, ⟨_, _, rfl, ⟨A17, c17, rfl, l17, g17⟩, ⟨_, _, rfl, rfl, ⟨_, _, rfl, rfl, ⟨_, _, rfl, rfl, rfl⟩⟩⟩⟩⟩⟩⟩⟩⟩⟩⟩⟩⟩⟩⟩⟩⟩⟩⟩⟩⟩ := h
  exact ⟨A0, c0, A14, c14, A15, c15, A16, c16, A17, c17, rfl, l0, g0, l14, g14, l15, g15, l16, g16, l17, g17⟩
theorem k55_openM {w : World} {base : Nat} {ok : Nat → Prop} {x : S55} {cs : List Value} (h : k55.M w base ok x cs) : ∃ v0 v14 v15 v16 v17, cs = [v0, .int .u64 x.f1, .bool x.f2, .bool x.f3, .bool x.f4, .bool x.f5, .int .u64 x.f6, .int .u64 x.f7, .int .u64 x.f8, .int .u64 x.f9, .int .u64 x.f10, .int .u64 x.f11, .int .u64 x.f12, .int .u64 x.f13, v14, v15, v16, v17, .int .u64 x.f18, .int .u64 x.f19, .int .u64 x.f20, .bool x.f21] ∧ (Kd.int .u64).R 24 w base ok v0 x.f0 ∧ (Kd.int .u8).R 5 w base ok v14 x.f14 ∧ (Kd.int .u8).R 5 w base ok v15 x.f15 ∧ (Kd.int .u8).R 5 w base ok v16 x.f16 ∧ (Kd.int .u8).R 5 w base ok v17 x.f17 := by
  obtain ⟨_, _, rfl, ⟨v0, rfl, g0⟩, ⟨_, _, rfl, rfl, ⟨_, _, rfl, rfl, ⟨_, _, rfl, rfl, ⟨_, _, rfl, rfl, ⟨_, _, rfl, rfl, ⟨_, _, rfl, rfl, ⟨_, _, rfl, rfl, ⟨_, _, rfl, rfl, ⟨_, _, rfl, rfl, ⟨_, _, rfl, rfl, ⟨_, _, rfl, rfl, ⟨_, _, rfl, rfl, ⟨_, _, rfl, rfl, ⟨_, _, rfl, ⟨v14, rfl, g14⟩, ⟨_, _, rfl, ⟨v15, rfl, g15⟩, ⟨_, _, rfl, ⟨v16, rfl, g16⟩, ⟨_, _, rfl, ⟨v17, rfl, g17⟩, ⟨_, _, rfl, rfl, ⟨_, _, rfl, rfl, ⟨_, _, rfl, rfl, rfl⟩⟩⟩⟩⟩⟩⟩⟩⟩⟩⟩⟩⟩⟩⟩⟩⟩⟩⟩⟩⟩ := h
  exact ⟨v0, v14, v15, v16, v17, rfl, g0, g14, g15, g16, g17⟩
theorem k55_mk (w : World) (x : S55) {A0 : Option Addr} {c0 : Nat} (l0 : x.f0.length ≤ c0) (g0 : (Kd.int .u64).C w A0 x.f0.length x.f0) {A14 : Option Addr} {c14 : Nat} (l14 : x.f14.length ≤ c14) (g14 : (Kd.int .u8).C w A14 x.f14.length x.f14) {A15 : Option Addr} {c15 : Nat} (l15 : x.f15.length ≤ c15) (g15 : (Kd.int .u8).C w A15 x.f15.length x.f15) {A16 : Option Addr} {c16 : Nat} (l16 : x.f16.length ≤ c16) (g16 : (Kd.int .u8).C w A16 x.f16.length x.f16) {A17 : Option Addr} {c17 : Nat} (l17 : x.f17.length ≤ c17) (g17 : (Kd.int .u8).C w A17 x.f17.length x.f17) : k55.K w x [.slice A0 x.f0.length c0, .int .u64 x.f1, .bool x.f2, .bool x.f3, .bool x.f4, .bool x.f5, .int .u64 x.f6, .int .u64 x.f7, .int .u64 x.f8, .int .u64 x.f9, .int .u64 x.f10, .int .u64 x.f11, .int .u64 x.f12, .int .u64 x.f13, .slice A14 x.f14.length c14, .slice A15 x.f15.length c15, .slice A16 x.f16.length c16, .slice A17 x.f17.length c17, .int .u64 x.f18, .int .u64 x.f19, .int .u64 x.f20, .bool x.f21] := ⟨[.slice A0 x.f0.length c0], [.int .u64 x.f1, .bool x.f2, .bool x.f3, .bool x.f4, .bool x.f5, .int .u64 x.f6, .int .u64 x.f7, .int .u64 x.f8, .int .u64 x.f9, .int .u64 x.f10, .int .u64 x.f11, .int .u64 x.f12, .int .u64 x.f13, .slice A14 x.f14.length c14, .slice A15 x.f15.length c15, .slice A16 x.f16.length c16, .slice A17 x.f17.length c17, .int .u64 x.f18, .int .u64 x.f19, .int .u64 x.f20, .bool x.f21], rfl, ⟨A0, c0, rfl, l0, g0⟩, ⟨[.int .u64 x.f1], [.bool x.f2, .bool x.f3, .bool x.f4, .bool x.f5, .int .u64 x.f6, .int .u64 x.f7, .int .u64 x.f8, .int .u64 x.f9, .int .u64 x.f10, .int .u64 x.f11, .int .u64 x.f12, .int .u64 x.f13, .slice A14 x.f14.length c14, .slice A15 x.f15.length c15, .slice A16 x.f16.length c16, .slice A17 x.f17.length c17, .int .u64 x.f18, .int .u64 x.f19, .int .u64 x.f20, .bool x.f21], rfl, rfl, ⟨[.bool x.f2], [.bool x.f3, .bool x.f4, .bool x.f5, .int .u64 x.f6, .int .u64 x.f7, .int .u64 x.f8, .int .u64 x.f9, .int .u64 x.f10, .int .u64 x.f11, .int .u64 x.f12, .int .u64 x.f13, .slice A14 x.f14.length c14, .slice A15 x.f15.length c15, .slice A16 x.f16.length c16, .slice A17 x.f17.length c17, .int .u64 x.f18, .int .u64 x.f19, .int .u64 x.f20, .bool x.f21], rfl, rfl, ⟨[.bool x.f3], [.bool x.f4, .bool x.f5, .int .u64 x.f6, .int .u64 x.f7, .int .u64 x.f8, .int .u64 x.f9, .int .u64 x.f10, .int .u64 x.f11, .int .u64 x.f12, .int .u64 x.f13, .slice A14 x.f14.length c14, .slice A15 x.f15.length c15, .slice A16 x.f16.length c16, .slice A17 x.f17.length c17, .int .u64 x.f18, .int .u64 x.f19, .int .u64 x.f20, .bool x.f21], rfl, rfl, ⟨[.bool x.f4], [.bool x.f5, .int .u64 x.f6, .int .u64 x.f7, .int .u64 x.f8, .int .u64 x.f9, .int .u64 x.f10, .int .u64 x.f11, .int .u64 x.f12, .int .u64 x.f13, .slice A14 x.f14.length c14, .slice A15 x.f15.length c15, .slice A16 x.f16.length c16, .slice A17 x.f17.length c17, .int .u64 x.f18, .int .u64 x.f19, .int .u64 x.f20, .bool x.f21], rfl, rfl, ⟨[.bool x.f5], [.int .u64 x.f6, .int .u64 x.f7, .int .u64 x.f8, .int .u64 x.f9, .int .u64 x.f10, .int .u64 x.f11, .int .u64 x.f12, .int .u64 x.f13, .slice A14 x.f14.length c14, .slice A15 x.f15.length c15, .slice A16 x.f16.length c16, .slice A17 x.f17.length c17, .int .u64 x.f18, .int .u64 x.f19, .int .u64 x.f20, .bool x.f21], rfl, rfl, ⟨[.int .u64 x.f6], [.int .u64 x.f7, .int .u64 x.f8, .int .u64 x.f9, .int .u64 x.f10, .int .u64 x.f11, .int .u64 x.f12, .int .u64 x.f13, .slice A14 x.f14.length c14, .slice A15 x.f15.length c15, .slice A16 x.f16.length c16, .slice A17 x.f17.length c17, .int .u64 x.f18, .int .u64 x.f19, .int .u64 x.f20, .bool x.f21], rfl, rfl, ⟨[.int .u64 x.f7], [.int .u64 x.f8, .int .u64 x.f9, .int .u64 x.f10, .int .u64 x.f11, .int .u64 x.f12, .int .u64 x.f13, .slice A14 x.f14.length c14, .slice A15 x.f15.length c15, .slice A16 x.f16.length c16, .slice A17 x.f17.length c17, .int .u64 x.f18, .int .u64 x.f19, .int .u64 x.f20, .bool x.f21], rfl, rfl, ⟨[.int .u64 x.f8], [.int .u64 x.f9, .int .u64 x.f10, .int .u64 x.f11, .int .u64 x.f12, .int .u64 x.f13, .slice A14 x.f14.length c14, .slice A15 x.f15.length c15, .slice A16 x.f16.length c16, .slice A17 x.f17.length c17, .int .u64 x.f18, .int .u64 x.f19, .int .u64 x.f20, .bool x.f21], rfl, rfl, ⟨[.int .u64 x.f9], [.int .u64 x.f10, .int .u64 x.f11, .int .u64 x.f12, .int .u64 x.f13, .slice A14 x.f14.length c14, .slice A15 x.f15.length c15, .slice A16 x.f16.length c16, .slice A17 x.f17.length c17, .int .u64 x.f18, .int .u64 x.f19, .int .u64 x.f20, .bool x.f21], rfl, rfl, ⟨[.int .u64 x.f10], [.int .u64 x.f11, .int .u64 x.f12, .int .u64 x.f13, .slice A14 x.f14.length c14, .slice A15 x.f15.length c15, .slice A16 x.f16.length c16, .slice A17 x.f17.length c17, .int .u64 x.f18, .int .u64 x.f19, .int .u64 x.f20, .bool x.f21], rfl, rfl, ⟨[.int .u64 x.f11], [.int .u64 x.f12, .int .u64 x.f13, .slice A14 x.f14.length c14, .slice A15 x.f15.length c15, .slice A16 x.f16.length c16, .slice A17 x.f17.length c17, .int .u64 x.f18, .int .u64 x.f19, .int .u64 x.f20, .bool x.f21], rfl, rfl, ⟨[.int .u64 x.f12], [.int .u64 x.f13, .slice A14 x.f14.length c14, .slice A15 x.f15.length c15, .slice A16 x.f16.length c16, .slice A17 x.f17.length c17, .int .u64 x.f18, .int .u64 x.f19, .int .u64 x.f20, .bool x.f21], rfl, rfl, ⟨[.int .u64 x.f13], [.slice A14 x.f14.length c14, .slice A15 x.f15.length c15, .slice A16 x.f16.length c16, .slice A17 x.f17.length c17, .int .u64 x.f18, .int .u64 x.f19, .int .u64 x.f20, .bool x.f21], rfl, rfl, ⟨[.slice A14 x.f14.length c14], [.slice A15 x.f15.length c15, .slice A16 x.f16.length c16, .slice A17 x.f17.length c17, .int .u64 x.f18, .int .u64 x.f19, .int .u64 x.f20, .bool x.f21], rfl, ⟨A14, c14, rfl, l14, g14⟩, ⟨[.slice A15 x.f15.length c15], [.slice A16 x.f16.length c16, .slice A17 x.f17.length c17, .int .u64 x.f18, .int .u64 x.f19, .int .u64 x.f20, .bool x.f21], rfl, ⟨A15, c15, rfl, l15, g15⟩, ⟨[.slice A16 x.f16.length c16], [.slice A17 x.f17.length c17, .int .u64 x.f18, .int .u64 x.f19, .int .u64 x.f20, .bool x.f21], rfl, ⟨A16, c16, rfl, l16, g16⟩, ⟨[.slice A17 x.f17.length c17], [.int .u64 x.f18, .int .u64 x.f19, .int .u64 x.f20, .bool x.f21], rfl, ⟨A17, c17, rfl, l17, g17⟩, ⟨[.int .u64 x.f18], [.int .u64 x.f19, .int .u64 x.f20, .bool x.f21], rfl, rfl, ⟨[.int .u64 x.f19], [.int .u64 x.f20, .bool x.f21], rfl, rfl, ⟨[.int .u64 x.f20], [.bool x.f21], rfl, rfl, rfl⟩⟩⟩⟩⟩⟩⟩⟩⟩⟩⟩⟩⟩⟩⟩⟩⟩⟩⟩⟩⟩
theorem k55_mkM (w : World) (base : Nat) (ok : Nat → Prop) (x : S55) {v0 : Value} (g0 : (Kd.int .u64).R 24 w base ok v0 x.f0) {v14 : Value} (g14 : (Kd.int .u8).R 5 w base ok v14 x.f14) {v15 : Value} (g15 : (Kd.int .u8).R 5 w base ok v15 x.f15) {v16 : Value} (g16 : (Kd.int .u8).R 5 w base ok v16 x.f16) {v17 : Value} (g17 : (Kd.int .u8).R 5 w base ok v17 x.f17) : k55.M w base ok x [v0, .int .u64 x.f1, .bool x.f2, .bool x.f3, .bool x.f4, .bool x.f5, .int .u64 x.f6, .int .u64 x.f7, .int .u64 x.f8, .int .u64 x.f9, .int .u64 x.f10, .int .u64 x.f11, .int .u64 x.f12, .int .u64 x.f13, v14, v15, v16, v17, .int .u64 x.f18, .int .u64 x.f19, .int .u64 x.f20, .bool x.f21] := ⟨[v0], [.int .u64 x.f1, .bool x.f2, .bool x.f3, .bool x.f4, .bool x.f5, .int .u64 x.f6, .int .u64 x.f7, .int .u64 x.f8, .int .u64 x.f9, .int .u64 x.f10, .int .u64 x.f11, .int .u64 x.f12, .int .u64 x.f13, v14, v15, v16, v17, .int .u64 x.f18, .int .u64 x.f19, .int .u64 x.f20, .bool x.f21], rfl, ⟨v0, rfl, g0⟩, ⟨[.int .u64 x.f1], [.bool x.f2, .bool x.f3, .bool x.f4, .bool x.f5, .int .u64 x.f6, .int .u64 x.f7, .int .u64 x.f8, .int .u64 x.f9, .int .u64 x.f10, .int .u64 x.f11, .int .u64 x.f12, .int .u64 x.f13, v14, v15, v16, v17, .int .u64 x.f18, .int .u64 x.f19, .int .u64 x.f20, .bool x.f21], rfl, rfl, ⟨[.bool x.f2], [.bool x.f3, .bool x.f4, .bool x.f5, .int .u64 x.f6, .int .u64 x.f7, .int .u64 x.f8, .int .u64 x.f9, .int .u64 x.f10, .int .u64 x.f11, .int .u64 x.f12, .int .u64 x.f13, v14, v15, v16, v17, .int .u64 x.f18, .int .u64 x.f19, .int .u64 x.f20, .bool x.f21], rfl, rfl, ⟨[.bool x.f3], [.bool x.f4, .bool x.f5, .int .u64 x.f6, .int .u64 x.f7, .int .u64 x.f8, .int .u64 x.f9, .int .u64 x.f10, .int .u64 x.f11, .int .u64 x.f12, .int .u64 x.f13, v14, v15, v16, v17, .int .u64 x.f18, .int .u64 x.f19, .int .u64 x.f20, .bool x.f21], rfl, rfl, ⟨[.bool x.f4], [.bool x.f5, .int .u64 x.f6, .int .u64 x.f7, .int .u64 x.f8, .int .u64 x.f9, .int .u64 x.f10, .int .u64 x.f11, .int .u64 x.f12, .int .u64 x.f13, v14, v15, v16, v17, .int .u64 x.f18, .int .u64 x.f19, .int .u64 x.f20, .bool x.f21], rfl, rfl, ⟨[.bool x.f5], [.int .u64 x.f6, .int .u64 x.f7, .int .u64 x.f8, .int .u64 x.f9, .int .u64 x.f10, .int .u64 x.f11, .int .u64 x.f12, .int .u64 x.f13, v14, v15, v16, v17, .int .u64 x.f18, .int .u64 x.f19, .int .u64 x.f20, .bool x.f21], rfl, rfl, ⟨[.int .u64 x.f6], [.int .u64 x.f7, .int .u64 x.f8, .int .u64 x.f9, .int .u64 x.f10, .int .u64 x.f11, .int .u64 x.f12, .int .u64 x.f13, v14, v15, v16, v17, .int .u64 x.f18, .int .u64 x.f19, .int .u64 x.f20, .bool x.f21], rfl, rfl, ⟨[.int .u64 x.f7], [.int .u64 x.f8, .int .u64 x.f9, .int .u64 x.f10, .int .u64 x.f11, .int .u64 x.f12, .int .u64 x.f13, v14, v15, v16, v17, .int .u64 x.f18, .int .u64 x.f19, .int .u64 x.f20, .bool x.f21], rfl, rfl, ⟨[.int .u64 x.f8], [.int .u64 x.f9, .int .u64 x.f10, .int .u64 x.f11, .int .u64 x.f12, .int .u64 x.f13, v14, v15, v16, v17, .int .u64 x.f18, .int .u64 x.f19, .int .u64 x.f20, .bool x.f21], rfl, rfl, ⟨[.int .u64 x.f9], [.int .u64 x.f10, .int .u64 x.f11, .int .u64 x.f12, .int .u64 x.f13, v14, v15, v16, v17, .int .u64 x.f18, .int .u64 x.f19, .int .u64 x.f20, .bool x.f21], rfl, rfl, ⟨[.int .u64 x.f10], [.int .u64 x.f11, .int .u64 x.f12, .int .u64 x.f13, v14, v15, v16, v17, .int .u64 x.f18, .int .u64 x.f19, .int .u64 x.f20, .bool x.f21], rfl, rfl, ⟨[.int .u64 x.f11], [.int .u64 x.f12, .int .u64 x.f13, v14, v15, v16, v17, .int .u64 x.f18, .int .u64 x.f19, .int .u64 x.f20, .bool x.f21], rfl, rfl, ⟨[.int .u64 x.f12], [.int .u64 x.f13, v14, v15, v16, v17, .int .u64 x.f18, .int .u64 x.f19, .int .u64 x.f20, .bool x.f21], rfl, rfl, ⟨[.int .u64 x.f13], [v14, v15, v16, v17, .int .u64 x.f18, .int .u64 x.f19, .int .u64 x.f20, .bool x.f21], rfl, rfl, ⟨[v14], [v15, v16, v17, .int .u64 x.f18, .int .u64 x.f19, .int .u64 x.f20, .bool x.f21], rfl, ⟨v14, rfl, g14⟩, ⟨[v15], [v16, v17, .int .u64 x.f18, .int .u64 x.f19, .int .u64 x.f20, .bool x.f21], rfl, ⟨v15, rfl, g15⟩, ⟨[v16], [v17, .int .u64 x.f18, .int .u64 x.f19, .int .u64 x.f20, .bool x.f21], rfl, ⟨v16, rfl, g16⟩, ⟨[v17], [.int .u64 x.f18, .int .u64 x.f19, .int .u64 x.f20, .bool x.f21], rfl, ⟨v17, rfl, g17⟩, ⟨[.int .u64 x.f18], [.int .u64 x.f19, .int .u64 x.f20, .bool x.f21], rfl, rfl, ⟨[.int .u64 x.f19], [.int .u64 x.f20, .bool x.f21], rfl, rfl, ⟨[.int .u64 x.f20], [.bool x.f21], rfl, rfl, rfl⟩⟩⟩⟩⟩⟩⟩⟩⟩⟩⟩⟩⟩⟩⟩⟩⟩⟩⟩⟩⟩
def rd_T55 (xs : List S55) (i : Int) : S55 := xs.getD i.toNat z55
theorem at_T55 {w : World} {A : Option Addr} {n : Nat} {xs : List S55} (h : Kd.C k55 w A n xs) (i : Int) (h0 : 0 ≤ i) (h1 : i < n) : ∃ ad A0 c0 A14 c14 A15 c15 A16 c16 A17 c17, A = some ad ∧ w.cell? (ad.add (i.toNat * 22)) = some (.slice A0 (rd_T55 xs i).f0.length c0) ∧ w.cell? ⟨(ad.add (i.toNat * 22)).block, (ad.add (i.toNat * 22)).off + 1, none⟩ = some (.int .u64 (rd_T55 xs i).f1) ∧ w.cell? ⟨(ad.add (i.toNat * 22)).block, (ad.add (i.toNat * 22)).off + 2, none⟩ = some (.bool (rd_T55 xs i).f2) ∧ w.cell? ⟨(ad.add (i.toNat * 22)).block, (ad.add (i.toNat * 22)).off + 3, none⟩ = some (.bool (rd_T55 xs i).f3) ∧ w.cell? ⟨(ad.add (i.toNat * 22)).block, (ad.add (i.toNat * 22)).off + 4, none⟩ = some (.bool (rd_T55 xs i).f4) ∧ w.cell? ⟨(ad.add (i.toNat * 22)).block, (ad.add (i.toNat * 22)).off + 5, none⟩ = some (.bool (rd_T55 xs i).f5) ∧ w.cell? ⟨(ad.add (i.toNat * 22)).block, (ad.add (i.toNat * 22)).off + 6, none⟩ = some (.int .u64 (rd_T55 xs i).f6) ∧ w.cell? ⟨(ad.add (i.toNat * 22)).block, (ad.add (i.toNat * 22)).off + 7, none⟩ = some (.int .u64 (rd_T55 xs i).f7) ∧ w.cell? ⟨(ad.add (i.toNat * 22)).block, (ad.add (i.toNat * 22)).off + 8, none⟩ = some (.int .u64 (rd_T55 xs i).f8) ∧ w.cell? ⟨(ad.add (i.toNat * 22)).block, (ad.add (i.toNat * 22)).off + 9, none⟩ = some (.int .u64 (rd_T55 xs i).f9) ∧ w.cell? ⟨(ad.add (i.toNat * 22)).block, (ad.add (i.toNat * 22)).off + 10, none⟩ = some (.int .u64 (rd_T55 xs i).f10) ∧ w.cell? ⟨(ad.add (i.toNat * 22)).block, (ad.add (i.toNat * 22)).off + 11, none⟩ = some (.int .u64 (rd_T55 xs i).f11) ∧ w.cell? ⟨(ad.add (i.toNat * 22)).block, (ad.add (i.toNat * 22)).off + 12, none⟩ = some (.int .u64 (rd_T55 xs i).f12) ∧ w.cell? ⟨(ad.add (i.toNat * 22)).block, (ad.add (i.toNat * 22)).off + 13, none⟩ = some (.int .u64 (rd_T55 xs i).f13) ∧ w.cell? ⟨(ad.add (i.toNat * 22)).block, (ad.add (i.toNat * 22)).off + 14, none⟩ = some (.slice A14 (rd_T55 xs i).f14.length c14) ∧ w.cell? ⟨(ad.add (i.toNat * 22)).block, (ad.add (i.toNat * 22)).off + 15, none⟩ = some (.slice A15 (rd_T55 xs i).f15.length c15) ∧ w.cell? ⟨(ad.add (i.toNat * 22)).block, (ad.add (i.toNat * 22)).off + 16, none⟩ = some (.slice A16 (rd_T55 xs i).f16.length c16) ∧ w.cell? ⟨(ad.add (i.toNat * 22)).block, (ad.add (i.toNat * 22)).off + 17, none⟩ = some (.slice A17 (rd_T55 xs i).f17.length c17) ∧ w.cell? ⟨(ad.add (i.toNat * 22)).block, (ad.add (i.toNat * 22)).off + 18, none⟩ = some (.int .u64 (rd_T55 xs i).f18) ∧ w.cell? ⟨(ad.add (i.toNat * 22)).block, (ad.add (i.toNat * 22)).off + 19, none⟩ = some (.int .u64 (rd_T55 xs i).f19) ∧ w.cell? ⟨(ad.add (i.toNat * 22)).block, (ad.add (i.toNat * 22)).off + 20, none⟩ = some (.int .u64 (rd_T55 xs i).f20) ∧ w.cell? ⟨(ad.add (i.toNat * 22)).block, (ad.add (i.toNat * 22)).off + 21, none⟩ = some (.bool (rd_T55 xs i).f21) ∧ (rd_T55 xs i).f0.length ≤ c0 ∧ (Kd.int .u64).C w A0 (rd_T55 xs i).f0.length (rd_T55 xs i).f0 ∧ (rd_T55 xs i).f14.length ≤ c14 ∧ (Kd.int .u8).C w A14 (rd_T55 xs i).f14.length (rd_T55 xs i).f14 ∧ (rd_T55 xs i).f15.length ≤ c15 ∧ (Kd.int .u8).C w A15 (rd_T55 xs i).f15.length (rd_T55 xs i).f15 ∧ (rd_T55 xs i).f16.length ≤ c16 ∧ (Kd.int .u8).C w A16 (rd_T55 xs i).f16.length (rd_T55 xs i).f16 ∧ (rd_T55 xs i).f17.length ≤ c17 ∧ (Kd.int .u8).C w A17 (rd_T55 xs i).f17.length (rd_T55 xs i).f17 := by
  obtain ⟨ad, c, e, _, hK, hc0⟩ := Kd.C_get h z55 i h0 h1
  have hc : ∀ j u, c[j]? = some u → w.cell? (ad.add (i.toNat * 22 + j)) = some u := hc0
  obtain ⟨A0, c0, A14, c14, A15, c15, A16, c16, A17, c17, rfl, l0, g0, l14, g14, l15, g15, l16, g16, l17, g17⟩ := k55_open hK
  exact ⟨ad, A0, c0, A14, c14, A15, c15, A16, c16, A17, c17, e, hc 0 _ rfl, by rw [← add_field _ _ 1 (by omega)]; exact hc 1 _ rfl, by rw [← add_field _ _ 2 (by omega)]; exact hc 2 _ rfl, by rw [← add_field _ _ 3 (by omega)]; exact hc 3 _ rfl, by rw [← add_field _ _ 4 (by omega)]; exact hc 4 _ rfl, by rw [← add_field _ _ 5 (by omega)]; exact hc 5 _ rfl, by rw [← add_field _ _ 6 (by omega)]; exact hc 6 _ rfl, by rw [← add_field _ _ 7 (by omega)]; exact hc 7 _ rfl, by rw [← add_field _ _ 8 (by omega)]; exact hc 8 _ rfl, by rw [← add_field _ _ 9 (by omega)]; exact hc 9 _ rfl, by rw [← add_field _ _ 10 (by omega)]; exact hc 10 _ rfl, by rw [← add_field _ _ 11 (by omega)]; exact hc 11 _ rfl, by rw [← add_field _ _ 12 (by omega)]; exact hc 12 _ rfl, by rw [← add_field _ _ 13 (by omega)]; exact hc 13 _ rfl, by rw [← add_field _ _ 14 (by omega)]; exact hc 14 _ rfl, by rw [← add_field _ _ 15 (by omega)]; exact hc 15 _ rfl, by rw [← add_field _ _ 16 (by omega)]; exact hc 16 _ rfl, by rw [← add_field _ _ 17 (by omega)]; exact hc 17 _ rfl, by rw [← add_field _ _ 18 (by omega)]; exact hc 18 _ rfl, by rw [← add_field _ _ 19 (by omega)]; exact hc 19 _ rfl, by rw [← add_field _ _ 20 (by omega)]; exact hc 20 _ rfl, by rw [← add_field _ _ 21 (by omega)]; exact hc 21 _ rfl, l0, g0, l14, g14, l15, g15, l16, g16, l17, g17⟩

end Go.Proofs.Ytdhafphhkokniaa.PFnExactMachineOk
