-- Written by a program of this session out of the translation. Not trusted: Lean checks it.
import Derived.Laws.CopyOwn
import Derived.Lib.BufferWrite
import Derived.Lib.AppendZerosOnto
import Derived.Lib.SlBytesConst
import Derived.Test.YtokiliilbopgkaaProg
import Derived.Below
import Derived.Deep.Draws
import Derived.Deep.AppendLies
import Derived.Maps.AppendAt
import Derived.OwnWalk
import Derived.Laws.BytesArg
import Derived.Laws.MakeOwn
import Derived.Laws.OwnMore
import Derived.Deep.OwnRows
import Derived.Tactics
import Derived.Lib.ConvBytes
import Derived.Laws.Slices
import Derived.WalkKit
import Derived.KernelRfl
import Derived.RowKit3
import Derived.Deep.LoopGhost
import Derived.Deep.QuietTactic
import Derived.BigQuiet
import Derived.WideLaws
import Derived.Deep.DeepCutAuto
import Derived.Deep.CutBlock
import Derived.Deep.RegionHeld3
import Derived.Laws.Rows
import Derived.Lib.AppendStr
import Derived.ArgAppend
import Derived.Laws.IdiomCopy
import Derived.OrdersHeld
import Derived.Laws.BitsLemmas
import Derived.RowKit
import Derived.StillTailTactics
import Derived.Laws.Externs
import Derived.Test.YtokiliilbopgkaaVWords
import Derived.Test.YtokiliilbopgkaaVLast
import Derived.Test.YtokiliilbopgkaaVTab
import Derived.Test.YtokiliilbopgkaaVFour
import Derived.Test.YtokiliilbopgkaaVQPut
import Derived.Test.YtokiliilbopgkaaVApart
import Derived.Test.YtokiliilbopgkaaVArr
import Derived.Test.YtokiliilbopgkaaVZeros
import Derived.Test.YtokiliilbopgkaaVFoot
import Derived.Test.YtokiliilbopgkaaVKept
import Derived.Test.YtokiliilbopgkaaVShare
import Derived.Test.YtokiliilbopgkaaVN
import Derived.Test.YtokiliilbopgkaaVFootNe
import Derived.Test.YtokiliilbopgkaaVAt
import Derived.Test.YtokiliilbopgkaaVEqStruct
import Derived.Test.YtokiliilbopgkaaVRepsOne
import Derived.Test.YtokiliilbopgkaaVInv
import Derived.Test.YtokiliilbopgkaaVInvWords
import Derived.Test.YtokiliilbopgkaaVGuard
import Derived.Test.YtokiliilbopgkaaVNEv
import Derived.Test.YtokiliilbopgkaaVMore
namespace Go.Proofs.Ytokiliilbopgkaa.PFnExactPackImage
open Go.RowKit Go.Proofs.YtokiliilbopgkaaW.PrintWords Go.Proofs.YtokiliilbopgkaaW.PrintLast Go.Proofs.YtokiliilbopgkaaW.PrintMore
attribute [local go_sem] max2_int min2_int max_two min_two max_three min_three max_four min_four   -- for this text's walks alone
set_option linter.unusedVariables false
set_option linter.unusedSimpArgs false



def errW : Option Int → Value
  | none => .nilIface
  | some c => .iface 0 (.int .i64 c)
theorem errW_none : errW none = .nilIface := rfl
theorem errW_some (c : Int) : errW (some c) = .iface 0 (.int .i64 c) := rfl

theorem info5 : (Try.prog.info? 5).map (fun i => (i.zero, i.size, i.bytes)) = some (some (.int .u8 0), 1, 1) := by kernel_rfl
theorem info58 : (Try.prog.info? 58).map (fun i => (i.zero, i.size, i.bytes)) = some (some (.agg #[(.int .i64 0), (.int .i64 0), (.int .i64 0), (.slice none 0 0)]), 4, 48) := by kernel_rfl
-- the values' own types
def rd_L2 (xs : List (List Int)) (i : Int) : (List Int) := xs.getD i.toNat ([] : List Int)
theorem at_L2 {w : World} {A : Option Addr} {n : Nat} {xs : List (List Int)} (h : Kd.C (Kd.slice 5 (Kd.int .u8)) w A n xs) (i : Int) (h0 : 0 ≤ i) (h1 : i < n) : ∃ ad A0 c0, A = some ad ∧ w.cell? (ad.add i.toNat) = some (.slice A0 (rd_L2 xs i).length c0) ∧ (rd_L2 xs i).length ≤ c0 ∧ (Kd.int .u8).C w A0 (rd_L2 xs i).length (rd_L2 xs i) := by
  obtain ⟨ad, c, e, _, hK, hc0⟩ := Kd.C_get h ([] : List Int) i h0 h1
  have hc : ∀ j u, c[j]? = some u → w.cell? (ad.add (i.toNat * 1 + j)) = some u := hc0
  obtain ⟨A0, c0, rfl, l0, g0⟩ := hK
  exact ⟨ad, A0, c0, e, by have hq := hc 0 _ rfl; rwa [Nat.mul_one, Nat.add_zero] at hq, l0, g0⟩

/-! #### struct type 78 -/
structure S78 where
  f0 : Int
  f1 : Int
  f2 : Int
  f3 : (List Int)
def z78 : S78 := ⟨(0 : Int), (0 : Int), (0 : Int), ([] : List Int)⟩
def k78 : Kd S78 := Kd.iso (Kd.pair (Kd.int .i64) (Kd.pair (Kd.int .i64) (Kd.pair (Kd.int .i64) (Kd.slice 5 (Kd.int .u8))))) (fun x : S78 => (x.f0, x.f1, x.f2, x.f3))
theorem k78_heap : Kd.Heap k78 := Kd.heap_iso _ (Kd.heap_pair (Kd.heap_int .i64) (Kd.heap_pair (Kd.heap_int .i64) (Kd.heap_pair (Kd.heap_int .i64) (Kd.heap_slice 5 (Kd.heap_int .u8)))))
theorem k78_open {w : World} {x : S78} {cs : List Value} (h : k78.K w x cs) : ∃ A3 c3, cs = [.int .i64 x.f0, .int .i64 x.f1, .int .i64 x.f2, .slice A3 x.f3.length c3] ∧ x.f3.length ≤ c3 ∧ (Kd.int .u8).C w A3 x.f3.length x.f3 := by
  obtain ⟨_, _, rfl, rfl, ⟨_, _, rfl, rfl, ⟨_, _, rfl, rfl, ⟨A3, c3, rfl, l3, g3⟩⟩⟩⟩ := h
  exact ⟨A3, c3, rfl, l3, g3⟩
theorem k78_openM {w : World} {base : Nat} {ok : Nat → Prop} {x : S78} {cs : List Value} (h : k78.M w base ok x cs) : ∃ v3, cs = [.int .i64 x.f0, .int .i64 x.f1, .int .i64 x.f2, v3] ∧ (Kd.int .u8).R 5 w base ok v3 x.f3 := by
  obtain ⟨_, _, rfl, rfl, ⟨_, _, rfl, rfl, ⟨_, _, rfl, rfl, ⟨v3, rfl, g3⟩⟩⟩⟩ := h
  exact ⟨v3, rfl, g3⟩
theorem k78_mk (w : World) (x : S78) {A3 : Option Addr} {c3 : Nat} (l3 : x.f3.length ≤ c3) (g3 : (Kd.int .u8).C w A3 x.f3.length x.f3) : k78.K w x [.int .i64 x.f0, .int .i64 x.f1, .int .i64 x.f2, .slice A3 x.f3.length c3] := ⟨[.int .i64 x.f0], [.int .i64 x.f1, .int .i64 x.f2, .slice A3 x.f3.length c3], rfl, rfl, ⟨[.int .i64 x.f1], [.int .i64 x.f2, .slice A3 x.f3.length c3], rfl, rfl, ⟨[.int .i64 x.f2], [.slice A3 x.f3.length c3], rfl, rfl, ⟨A3, c3, rfl, l3, g3⟩⟩⟩⟩
theorem k78_mkM (w : World) (base : Nat) (ok : Nat → Prop) (x : S78) {v3 : Value} (g3 : (Kd.int .u8).R 5 w base ok v3 x.f3) : k78.M w base ok x [.int .i64 x.f0, .int .i64 x.f1, .int .i64 x.f2, v3] := ⟨[.int .i64 x.f0], [.int .i64 x.f1, .int .i64 x.f2, v3], rfl, rfl, ⟨[.int .i64 x.f1], [.int .i64 x.f2, v3], rfl, rfl, ⟨[.int .i64 x.f2], [v3], rfl, rfl, ⟨v3, rfl, g3⟩⟩⟩⟩
def rd_T78 (xs : List S78) (i : Int) : S78 := xs.getD i.toNat z78
theorem at_T78 {w : World} {A : Option Addr} {n : Nat} {xs : List S78} (h : Kd.C k78 w A n xs) (i : Int) (h0 : 0 ≤ i) (h1 : i < n) : ∃ ad A3 c3, A = some ad ∧ w.cell? (ad.add (i.toNat * 4)) = some (.int .i64 (rd_T78 xs i).f0) ∧ w.cell? ⟨(ad.add (i.toNat * 4)).block, (ad.add (i.toNat * 4)).off + 1, none⟩ = some (.int .i64 (rd_T78 xs i).f1) ∧ w.cell? ⟨(ad.add (i.toNat * 4)).block, (ad.add (i.toNat * 4)).off + 2, none⟩ = some (.int .i64 (rd_T78 xs i).f2) ∧ w.cell? ⟨(ad.add (i.toNat * 4)).block, (ad.add (i.toNat * 4)).off + 3, none⟩ = some (.slice A3 (rd_T78 xs i).f3.length c3) ∧ (rd_T78 xs i).f3.length ≤ c3 ∧ (Kd.int .u8).C w A3 (rd_T78 xs i).f3.length (rd_T78 xs i).f3 := by
  obtain ⟨ad, c, e, _, hK, hc0⟩ := Kd.C_get h z78 i h0 h1
  have hc : ∀ j u, c[j]? = some u → w.cell? (ad.add (i.toNat * 4 + j)) = some u := hc0
  obtain ⟨A3, c3, rfl, l3, g3⟩ := k78_open hK
  exact ⟨ad, A3, c3, e, hc 0 _ rfl, by rw [← add_field _ _ 1 (by omega)]; exact hc 1 _ rfl, by rw [← add_field _ _ 2 (by omega)]; exact hc 2 _ rfl, by rw [← add_field _ _ 3 (by omega)]; exact hc 3 _ rfl, l3, g3⟩

/-! #### struct type 58 -/
structure S58 where
  f0 : Int
  f1 : Int
  f2 : Int
  f3 : (List Int)
def z58 : S58 := ⟨(0 : Int), (0 : Int), (0 : Int), ([] : List Int)⟩
def k58 : Kd S58 := Kd.iso (Kd.pair (Kd.int .i64) (Kd.pair (Kd.int .i64) (Kd.pair (Kd.int .i64) (Kd.slice 5 (Kd.int .u8))))) (fun x : S58 => (x.f0, x.f1, x.f2, x.f3))
theorem k58_heap : Kd.Heap k58 := Kd.heap_iso _ (Kd.heap_pair (Kd.heap_int .i64) (Kd.heap_pair (Kd.heap_int .i64) (Kd.heap_pair (Kd.heap_int .i64) (Kd.heap_slice 5 (Kd.heap_int .u8)))))
theorem k58_open {w : World} {x : S58} {cs : List Value} (h : k58.K w x cs) : ∃ A3 c3, cs = [.int .i64 x.f0, .int .i64 x.f1, .int .i64 x.f2, .slice A3 x.f3.length c3] ∧ x.f3.length ≤ c3 ∧ (Kd.int .u8).C w A3 x.f3.length x.f3 := by
  obtain ⟨_, _, rfl, rfl, ⟨_, _, rfl, rfl, ⟨_, _, rfl, rfl, ⟨A3, c3, rfl, l3, g3⟩⟩⟩⟩ := h
  exact ⟨A3, c3, rfl, l3, g3⟩
theorem k58_openM {w : World} {base : Nat} {ok : Nat → Prop} {x : S58} {cs : List Value} (h : k58.M w base ok x cs) : ∃ v3, cs = [.int .i64 x.f0, .int .i64 x.f1, .int .i64 x.f2, v3] ∧ (Kd.int .u8).R 5 w base ok v3 x.f3 := by
  obtain ⟨_, _, rfl, rfl, ⟨_, _, rfl, rfl, ⟨_, _, rfl, rfl, ⟨v3, rfl, g3⟩⟩⟩⟩ := h
  exact ⟨v3, rfl, g3⟩
theorem k58_mk (w : World) (x : S58) {A3 : Option Addr} {c3 : Nat} (l3 : x.f3.length ≤ c3) (g3 : (Kd.int .u8).C w A3 x.f3.length x.f3) : k58.K w x [.int .i64 x.f0, .int .i64 x.f1, .int .i64 x.f2, .slice A3 x.f3.length c3] := ⟨[.int .i64 x.f0], [.int .i64 x.f1, .int .i64 x.f2, .slice A3 x.f3.length c3], rfl, rfl, ⟨[.int .i64 x.f1], [.int .i64 x.f2, .slice A3 x.f3.length c3], rfl, rfl, ⟨[.int .i64 x.f2], [.slice A3 x.f3.length c3], rfl, rfl, ⟨A3, c3, rfl, l3, g3⟩⟩⟩⟩
theorem k58_mkM (w : World) (base : Nat) (ok : Nat → Prop) (x : S58) {v3 : Value} (g3 : (Kd.int .u8).R 5 w base ok v3 x.f3) : k58.M w base ok x [.int .i64 x.f0, .int .i64 x.f1, .int .i64 x.f2, v3] := ⟨[.int .i64 x.f0], [.int .i64 x.f1, .int .i64 x.f2, v3], rfl, rfl, ⟨[.int .i64 x.f1], [.int .i64 x.f2, v3], rfl, rfl, ⟨[.int .i64 x.f2], [v3], rfl, rfl, ⟨v3, rfl, g3⟩⟩⟩⟩
def rd_T58 (xs : List S58) (i : Int) : S58 := xs.getD i.toNat z58
theorem at_T58 {w : World} {A : Option Addr} {n : Nat} {xs : List S58} (h : Kd.C k58 w A n xs) (i : Int) (h0 : 0 ≤ i) (h1 : i < n) : ∃ ad A3 c3, A = some ad ∧ w.cell? (ad.add (i.toNat * 4)) = some (.int .i64 (rd_T58 xs i).f0) ∧ w.cell? ⟨(ad.add (i.toNat * 4)).block, (ad.add (i.toNat * 4)).off + 1, none⟩ = some (.int .i64 (rd_T58 xs i).f1) ∧ w.cell? ⟨(ad.add (i.toNat * 4)).block, (ad.add (i.toNat * 4)).off + 2, none⟩ = some (.int .i64 (rd_T58 xs i).f2) ∧ w.cell? ⟨(ad.add (i.toNat * 4)).block, (ad.add (i.toNat * 4)).off + 3, none⟩ = some (.slice A3 (rd_T58 xs i).f3.length c3) ∧ (rd_T58 xs i).f3.length ≤ c3 ∧ (Kd.int .u8).C w A3 (rd_T58 xs i).f3.length (rd_T58 xs i).f3 := by
  obtain ⟨ad, c, e, _, hK, hc0⟩ := Kd.C_get h z58 i h0 h1
  have hc : ∀ j u, c[j]? = some u → w.cell? (ad.add (i.toNat * 4 + j)) = some u := hc0
  obtain ⟨A3, c3, rfl, l3, g3⟩ := k58_open hK
  exact ⟨ad, A3, c3, e, hc 0 _ rfl, by rw [← add_field _ _ 1 (by omega)]; exact hc 1 _ rfl, by rw [← add_field _ _ 2 (by omega)]; exact hc 2 _ rfl, by rw [← add_field _ _ 3 (by omega)]; exact hc 3 _ rfl, l3, g3⟩

def rd_L5 (xs : List (List S58)) (i : Int) : (List S58) := xs.getD i.toNat ([] : List S58)
theorem at_L5 {w : World} {A : Option Addr} {n : Nat} {xs : List (List S58)} (h : Kd.C (Kd.slice 58 k58) w A n xs) (i : Int) (h0 : 0 ≤ i) (h1 : i < n) : ∃ ad A0 c0, A = some ad ∧ w.cell? (ad.add i.toNat) = some (.slice A0 (rd_L5 xs i).length c0) ∧ (rd_L5 xs i).length ≤ c0 ∧ k58.C w A0 (rd_L5 xs i).length (rd_L5 xs i) := by
  obtain ⟨ad, c, e, _, hK, hc0⟩ := Kd.C_get h ([] : List S58) i h0 h1
  have hc : ∀ j u, c[j]? = some u → w.cell? (ad.add (i.toNat * 1 + j)) = some u := hc0
  obtain ⟨A0, c0, rfl, l0, g0⟩ := hK
  exact ⟨ad, A0, c0, e, by have hq := hc 0 _ rfl; rwa [Nat.mul_one, Nat.add_zero] at hq, l0, g0⟩

/-! #### struct type 29 -/
structure S29 where
  f0 : Int
  f1 : (List S58)
def z29 : S29 := ⟨(0 : Int), ([] : List S58)⟩
def k29 : Kd S29 := Kd.iso (Kd.pair (Kd.int .i64) (Kd.slice 58 k58)) (fun x : S29 => (x.f0, x.f1))
theorem k29_heap : Kd.Heap k29 := Kd.heap_iso _ (Kd.heap_pair (Kd.heap_int .i64) (Kd.heap_slice 58 k58_heap))
theorem k29_open {w : World} {x : S29} {cs : List Value} (h : k29.K w x cs) : ∃ A1 c1, cs = [.int .i64 x.f0, .slice A1 x.f1.length c1] ∧ x.f1.length ≤ c1 ∧ k58.C w A1 x.f1.length x.f1 := by
  obtain ⟨_, _, rfl, rfl, ⟨A1, c1, rfl, l1, g1⟩⟩ := h
  exact ⟨A1, c1, rfl, l1, g1⟩
theorem k29_openM {w : World} {base : Nat} {ok : Nat → Prop} {x : S29} {cs : List Value} (h : k29.M w base ok x cs) : ∃ v1, cs = [.int .i64 x.f0, v1] ∧ k58.R 58 w base ok v1 x.f1 := by
  obtain ⟨_, _, rfl, rfl, ⟨v1, rfl, g1⟩⟩ := h
  exact ⟨v1, rfl, g1⟩
theorem k29_mk (w : World) (x : S29) {A1 : Option Addr} {c1 : Nat} (l1 : x.f1.length ≤ c1) (g1 : k58.C w A1 x.f1.length x.f1) : k29.K w x [.int .i64 x.f0, .slice A1 x.f1.length c1] := ⟨[.int .i64 x.f0], [.slice A1 x.f1.length c1], rfl, rfl, ⟨A1, c1, rfl, l1, g1⟩⟩
theorem k29_mkM (w : World) (base : Nat) (ok : Nat → Prop) (x : S29) {v1 : Value} (g1 : k58.R 58 w base ok v1 x.f1) : k29.M w base ok x [.int .i64 x.f0, v1] := ⟨[.int .i64 x.f0], [v1], rfl, rfl, ⟨v1, rfl, g1⟩⟩
def rd_T29 (xs : List S29) (i : Int) : S29 := xs.getD i.toNat z29
theorem at_T29 {w : World} {A : Option Addr} {n : Nat} {xs : List S29} (h : Kd.C k29 w A n xs) (i : Int) (h0 : 0 ≤ i) (h1 : i < n) : ∃ ad A1 c1, A = some ad ∧ w.cell? (ad.add (i.toNat * 2)) = some (.int .i64 (rd_T29 xs i).f0) ∧ w.cell? ⟨(ad.add (i.toNat * 2)).block, (ad.add (i.toNat * 2)).off + 1, none⟩ = some (.slice A1 (rd_T29 xs i).f1.length c1) ∧ (rd_T29 xs i).f1.length ≤ c1 ∧ k58.C w A1 (rd_T29 xs i).f1.length (rd_T29 xs i).f1 := by
  obtain ⟨ad, c, e, _, hK, hc0⟩ := Kd.C_get h z29 i h0 h1
  have hc : ∀ j u, c[j]? = some u → w.cell? (ad.add (i.toNat * 2 + j)) = some u := hc0
  obtain ⟨A1, c1, rfl, l1, g1⟩ := k29_open hK
  exact ⟨ad, A1, c1, e, hc 0 _ rfl, by rw [← add_field _ _ 1 (by omega)]; exact hc 1 _ rfl, l1, g1⟩

def rd_L7 (xs : List (List S78)) (i : Int) : (List S78) := xs.getD i.toNat ([] : List S78)
theorem at_L7 {w : World} {A : Option Addr} {n : Nat} {xs : List (List S78)} (h : Kd.C (Kd.slice 78 k78) w A n xs) (i : Int) (h0 : 0 ≤ i) (h1 : i < n) : ∃ ad A0 c0, A = some ad ∧ w.cell? (ad.add i.toNat) = some (.slice A0 (rd_L7 xs i).length c0) ∧ (rd_L7 xs i).length ≤ c0 ∧ k78.C w A0 (rd_L7 xs i).length (rd_L7 xs i) := by
  obtain ⟨ad, c, e, _, hK, hc0⟩ := Kd.C_get h ([] : List S78) i h0 h1
  have hc : ∀ j u, c[j]? = some u → w.cell? (ad.add (i.toNat * 1 + j)) = some u := hc0
  obtain ⟨A0, c0, rfl, l0, g0⟩ := hK
  exact ⟨ad, A0, c0, e, by have hq := hc 0 _ rfl; rwa [Nat.mul_one, Nat.add_zero] at hq, l0, g0⟩

/-! #### struct type 24 -/
structure S24 where
  f0 : Int
  f1 : (List S78)
def z24 : S24 := ⟨(0 : Int), ([] : List S78)⟩
def k24 : Kd S24 := Kd.iso (Kd.pair (Kd.int .i64) (Kd.slice 78 k78)) (fun x : S24 => (x.f0, x.f1))
theorem k24_heap : Kd.Heap k24 := Kd.heap_iso _ (Kd.heap_pair (Kd.heap_int .i64) (Kd.heap_slice 78 k78_heap))
theorem k24_open {w : World} {x : S24} {cs : List Value} (h : k24.K w x cs) : ∃ A1 c1, cs = [.int .i64 x.f0, .slice A1 x.f1.length c1] ∧ x.f1.length ≤ c1 ∧ k78.C w A1 x.f1.length x.f1 := by
  obtain ⟨_, _, rfl, rfl, ⟨A1, c1, rfl, l1, g1⟩⟩ := h
  exact ⟨A1, c1, rfl, l1, g1⟩
theorem k24_openM {w : World} {base : Nat} {ok : Nat → Prop} {x : S24} {cs : List Value} (h : k24.M w base ok x cs) : ∃ v1, cs = [.int .i64 x.f0, v1] ∧ k78.R 78 w base ok v1 x.f1 := by
  obtain ⟨_, _, rfl, rfl, ⟨v1, rfl, g1⟩⟩ := h
  exact ⟨v1, rfl, g1⟩
theorem k24_mk (w : World) (x : S24) {A1 : Option Addr} {c1 : Nat} (l1 : x.f1.length ≤ c1) (g1 : k78.C w A1 x.f1.length x.f1) : k24.K w x [.int .i64 x.f0, .slice A1 x.f1.length c1] := ⟨[.int .i64 x.f0], [.slice A1 x.f1.length c1], rfl, rfl, ⟨A1, c1, rfl, l1, g1⟩⟩
theorem k24_mkM (w : World) (base : Nat) (ok : Nat → Prop) (x : S24) {v1 : Value} (g1 : k78.R 78 w base ok v1 x.f1) : k24.M w base ok x [.int .i64 x.f0, v1] := ⟨[.int .i64 x.f0], [v1], rfl, rfl, ⟨v1, rfl, g1⟩⟩
def rd_T24 (xs : List S24) (i : Int) : S24 := xs.getD i.toNat z24
theorem at_T24 {w : World} {A : Option Addr} {n : Nat} {xs : List S24} (h : Kd.C k24 w A n xs) (i : Int) (h0 : 0 ≤ i) (h1 : i < n) : ∃ ad A1 c1, A = some ad ∧ w.cell? (ad.add (i.toNat * 2)) = some (.int .i64 (rd_T24 xs i).f0) ∧ w.cell? ⟨(ad.add (i.toNat * 2)).block, (ad.add (i.toNat * 2)).off + 1, none⟩ = some (.slice A1 (rd_T24 xs i).f1.length c1) ∧ (rd_T24 xs i).f1.length ≤ c1 ∧ k78.C w A1 (rd_T24 xs i).f1.length (rd_T24 xs i).f1 := by
  obtain ⟨ad, c, e, _, hK, hc0⟩ := Kd.C_get h z24 i h0 h1
  have hc : ∀ j u, c[j]? = some u → w.cell? (ad.add (i.toNat * 2 + j)) = some u := hc0
  obtain ⟨A1, c1, rfl, l1, g1⟩ := k24_open hK
  exact ⟨ad, A1, c1, e, hc 0 _ rfl, by rw [← add_field _ _ 1 (by omega)]; exact hc 1 _ rfl, l1, g1⟩

/-! ### copy into a row of the call's own, from its head on -/
def copyS.f (x : List Int) (s : ByteArray) : Option (List Int) := if s.size ≤ x.length then some ((s.data.toList.map fun b : UInt8 => (b.toNat : Int)) ++ x.drop s.size) else none
def copyR.f (x y : List Int) : Option (List Int) := some (y.take x.length ++ x.drop y.length)
/-- The builtin's run, told as a call's. -/
def CopyDo (P : Program) (ts : Array TypeId) (args : Array Value) (w : World) (Q : Ending → World → Prop) : Prop := ∀ ty, ∃ v w', (Builtin.copy_ ts ty args).run P w = .ok v w' ∧ Q (.returned v) w'
theorem CopyDo.mono {P : Program} {ts : Array TypeId} {args : Array Value} {w : World} {Q Q' : Ending → World → Prop} (h : CopyDo P ts args w Q) (hq : ∀ e w', Q e w' → Q' e w') : CopyDo P ts args w Q' := fun ty => by
  obtain ⟨v, w', h1, h2⟩ := h ty
  exact ⟨v, w', h1, hq _ _ h2⟩
theorem goesB_ {P : Program} {ops : Array Oper} {Q : Exit → Act → World → Prop} {rest : List Oper} {oi : Oper} {a : Act} {w : World} (N : Option Tmp) (hd : oi.dst = N) (hg : oi.guard = none) {xs : Array Operand} {ts : Array TypeId} (args : Array Value)
    (hop : oi.op = .call { callee := .builtin .copy, args := xs, argTypes := ts }) (hargs : xs.map a.eval = args)
    (h : CopyDo P ts args w fun e w' => ∃ v, e = .returned v ∧ wpList P ops Q rest (a.put N v) w') : wpList P ops Q (oi :: rest) a w := by
  refine wpList_plain hg fun K hK => ?_
  obtain ⟨v, w', hrun, v', he, hk⟩ := h oi.type
  injection he with he
  subst he hd
  unfold Oper.wp
  simp [execOp, hop, resolve, invoke, builtin, hargs, hrun, Result.andThen]
  exact hK _ _ hk
theorem goesBr_ {P : Program} {ops : Array Oper} {Q : Exit → Act → World → Prop} {oi : Oper} {N : Option Tmp} {a : Act} {w : World} {K : Act → World → Prop} {xs : Array Operand} {ts : Array TypeId} (args : Array Value)
    (hw : Region.wanted oi (yielded ops a.tmps) = true) (hN : oi.dst = N) (hop : oi.op = .call { callee := .builtin .copy, args := xs, argTypes := ts }) (hargs : xs.map a.eval = args)
    (h : CopyDo P ts args w fun e w' => ∃ v, e = .returned v ∧ K (a.put N v) w') : if Region.wanted oi (yielded ops a.tmps) = true then Oper.wp P oi a w K Q else K (a.put N undef) w := by
  obtain ⟨v, w', hrun, v', he, hk⟩ := h oi.type
  injection he with he
  subst he
  refine value_ hw hN ?_ hk
  simp [execOp, hop, resolve, invoke, builtin, hargs, hrun, Result.andThen]
theorem copy_owned {P0_ : Nat → Prop} {g cap n : Nat} {l0 r : List Int} {cur : List Value} {w0 w : World} {cs : List Value} (hB : Below w0.heap.size w0 w) (hg0 : w0.heap.size ≤ g) (hP : P0_ g) (hn : l0.length = n) (hr : r.length = n) (hg : w.heap[g]? = some (.cells cur.toArray 5 (0, 0))) (hcap : n ≤ cap) (hmax : cap ≤ maxLen) (hsz : cs.length = cap) (htk : cs.take n = encs (Value.int .u8) r) :
    Kd.R (Kd.int .u8) 5 (w.setRow g cs.toArray) w0.heap.size (fun k_ => (P0_ k_ ∨ w.heap.size ≤ k_)) (.slice (some ⟨g, 0, none⟩) n cap) r ∧ Below w0.heap.size w0 (w.setRow g cs.toArray) ∧ Kept w (w.setRow g cs.toArray) (fun k_ => P0_ k_) := by
  refine ⟨Kd.R_of_own ?_ (fun k hk => ?_), below_setRow hB hg0 _, ?_, fun i hi hs => ?_⟩
  · rw [hr]
    refine ⟨by simp [encs, hr], .inr ⟨g, cap, cs.toArray, rfl, hg0, setRow_heap w g _ _ 5 _ hg, hcap, hmax, by simp [hsz], ?_⟩⟩
    rw [Nat.mul_one]
    exact htk
  · have : g = k := by simpa [Value.ownBlock] using hk
    exact .inl (this ▸ hP)
  · simp [World.setRow]
  · exact setRow_other w g i _ (fun e => hs (e ▸ hP))
theorem copyS.calls {sT : TypeId} (P0_ : Nat → Prop) (u : Value) (l0 : List Int) (s : ByteArray) (r : List Int) (w0 w : World) (hB : Below w0.heap.size w0 w) (ho0 : Kd.R (Kd.int .u8) 5 w w0.heap.size P0_ u l0) (h : copyS.f l0 s = some r) :
    CopyDo Try.prog #[33, sT] #[u, .string s] w fun e w' => e = .returned (goInt s.size) ∧ Kd.R (Kd.int .u8) 5 w' w0.heap.size (fun k_ => (P0_ k_ ∨ w.heap.size ≤ k_)) u r ∧ Below w0.heap.size w0 w' ∧ Kept w w' (fun k_ => P0_ k_) := by
  intro ty
  have hs1 : (Try.prog.info? 5).map (·.size) = some 1 := by kernel_rfl
  unfold copyS.f at h
  by_cases hle : s.size ≤ l0.length
  · rw [if_pos hle] at h
    have hr := (Option.some.inj h).symm
    obtain ⟨hl, ho⟩ := Kd.own_of_R ho0
    rcases ho with ⟨rfl, h0⟩ | ⟨g, cap, cur, rfl, hg0, hg, hnc, hmax, hcs, htk⟩
    · refine ⟨_, _, Go.Lib.run_copy_empty_string w _ sT ty 5 none 0 0 s Try.underlying33 (by rw [Option.isSome_map]; exact (Option.isSome_map ▸ (by rw [hs1]; rfl : ((Try.prog.info? 5).map (·.size)).isSome = true))) (by omega), ?_⟩
      obtain rfl : l0 = [] := List.eq_nil_of_length_eq_zero h0
      have hz : s.size = 0 := Nat.le_zero.1 hle
      have hs0 : s.data.toList = [] := List.eq_nil_of_length_eq_zero (Array.length_toList.trans hz)
      rw [hs0] at hr
      have hr2 : r = [] := by rw [hr]; simp
      subst hr2
      refine ⟨?_, Kd.R_mono ho0 (fun k hk => .inl hk), hB, Kept.refl _ _⟩
      rw [hz]; rfl
    · have hsz : s.data.toList.length = s.size := Array.length_toList
      rw [Nat.mul_one] at hcs htk
      have hcl : cur.toList.length = cap := by rw [Array.length_toList]; exact hcs
      refine ⟨_, _, Go.Lib.run_copy_row_string w _ sT ty 5 g 0 l0.length cap s cur 5 Try.underlying33 hs1 hg hle (by omega), rfl, ?_⟩
      have hrl : r.length = l0.length := by rw [hr, List.length_append, List.length_map, List.length_drop, hsz]; omega
      refine copy_owned (cur := cur.toList) hB hg0 (ho0.1 g (by simp [Value.ownBlock])) rfl hrl (by simpa using hg) hnc hmax ?_ ?_
      · simp [Go.Lib.byteCells, hsz, hcl]; omega
      · rw [List.take_zero, List.nil_append, Nat.zero_add, List.take_append, hr]
        have hb : (Go.Lib.byteCells s.data.toList).length = s.size := by simp [Go.Lib.byteCells, hsz]
        rw [List.take_of_length_le (by omega), hb, ← List.drop_take, htk, encs_append]
        simp [encs, Go.Lib.byteCells, List.map_drop]
  · rw [if_neg hle] at h; cases h
theorem copyR.calls {sT : TypeId} (P0_ : Nat → Prop) (u : Value) (l0 : List Int) (A1 : Option Addr) (c1 : Nat) (l1 : List Int) (r : List Int) (w0 w : World) (hB : Below w0.heap.size w0 w) (ho0 : Kd.R (Kd.int .u8) 5 w w0.heap.size P0_ u l0) (hr1 : ∀ W_, Kept w W_ (fun k_ => P0_ k_) → Kd.C (Kd.int .u8) W_ A1 l1.length l1) (hc1 : l1.length ≤ c1) (h : copyR.f l0 l1 = some r) :
    CopyDo Try.prog #[33, sT] #[u, .slice A1 l1.length c1] w fun e w' => e = .returned (goInt (Nat.min l1.length l0.length : Nat)) ∧ Kd.R (Kd.int .u8) 5 w' w0.heap.size (fun k_ => (P0_ k_ ∨ w.heap.size ≤ k_)) u r ∧ Below w0.heap.size w0 w' ∧ Kept w w' (fun k_ => P0_ k_) := by
  intro ty
  have hs1 : (Try.prog.info? 5).map (·.size) = some 1 := by kernel_rfl
  have hr : r = l1.take l0.length ++ l0.drop l1.length := (Option.some.inj h).symm
  obtain ⟨hl, ho⟩ := Kd.own_of_R ho0
  have none_ : Nat.min l1.length l0.length = 0 → ∀ (d : Option Addr) (n c : Nat), n = l0.length → u = .slice d n c → ∃ v w', (Builtin.copy_ #[33, sT] ty #[u, .slice A1 l1.length c1]).run Try.prog w = .ok v w' ∧ (Ending.returned v = Ending.returned (goInt (Nat.min l1.length l0.length : Nat)) ∧ Kd.R (Kd.int .u8) 5 w' w0.heap.size (fun k_ => (P0_ k_ ∨ w.heap.size ≤ k_)) u r ∧ Below w0.heap.size w0 w' ∧ Kept w w' (fun k_ => P0_ k_)) := by
    intro hm d n c hn hu
    have hr0 : r = l0 := by
      rw [hr]
      rcases Nat.eq_zero_or_pos l1.length with e | e
      · rw [List.eq_nil_of_length_eq_zero e]; simp
      · have e0 : l0.length = 0 := by
          have h2 : min l1.length l0.length = 0 := hm
          omega
        rw [List.eq_nil_of_length_eq_zero e0]; simp
    subst hu
    refine ⟨_, _, run_copy_none w _ sT ty 5 d A1 n c l1.length c1 Try.underlying33 hs1 (by rw [hn]; exact hm), ?_, ?_, hB, Kept.refl _ _⟩
    · rw [hm]; rfl
    · rw [hr0]; exact Kd.R_mono ho0 (fun k hk => .inl hk)
  rcases ho with ⟨hu, h0⟩ | ⟨g, cap, cur, hu, hg0, hg, hnc, hmax, hcs, htk⟩
  · exact none_ (by rw [h0]; exact Nat.min_zero _) none 0 0 h0.symm hu
  · by_cases hm : Nat.min l1.length l0.length = 0
    · exact none_ hm _ _ _ rfl hu
    · subst hu
      have hm2 : ¬ min l1.length l0.length = 0 := hm
      rw [Nat.mul_one] at hcs htk
      have hcl : cur.toList.length = cap := by rw [Array.length_toList]; exact hcs
      obtain ⟨hq1, hq2, hq3⟩ := Kd.reads_of_C (enc := Value.int .u8) (d := (0 : Int)) (h1 := fun _ => rfl) (hr1 w (Kept.refl _ _))
      obtain ⟨ad, rfl, hc⟩ := hq3 (by omega)
      have hcsl : (encs (Value.int .u8) (l1.take l0.length)).length = Nat.min l1.length l0.length := by
        rw [encs_length, List.length_take]; exact Nat.min_comm _ _
      have hfit : 0 + (encs (Value.int .u8) (l1.take l0.length)).length ≤ cur.size := by
        have h2 : Nat.min l1.length l0.length = min l1.length l0.length := rfl
        rw [hcsl, h2]; omega
      refine ⟨_, _, run_copy_row Try.prog w _ sT ty 5 g 0 l0.length cap ad l1.length c1 cur 5 (encs (Value.int .u8) (l1.take l0.length)) Try.underlying33 hs1 hg hcsl ?_ hfit ?_, by rw [hcsl], ?_⟩
      · intro j v hj
        obtain ⟨hjl, _⟩ := List.getElem?_eq_some_iff.1 hj
        rw [encs_length, List.length_take] at hjl
        rw [encs_get (d := (0 : Int)) _ _ (by rw [List.length_take]; omega)] at hj
        rw [hc j (by omega), ← Option.some.inj hj]
        simp [List.getD_eq_getElem?_getD, List.getElem?_take_of_lt (show j < l0.length by omega)]
      · intro v hv
        obtain ⟨x, _, rfl⟩ := List.mem_map.1 hv
        rfl
      · have hrl : r.length = l0.length := by rw [hr, List.length_append, List.length_take, List.length_drop]; omega
        have hce : (encs (Value.int .u8) (l1.take l0.length)).length = min l1.length l0.length := hcsl
        refine copy_owned (cur := cur.toList) hB hg0 (ho0.1 g (by simp [Value.ownBlock])) rfl hrl (by simpa using hg) hnc hmax ?_ ?_
        · rw [List.take_zero, List.nil_append, List.length_append, List.length_drop, hcl, hce]; omega
        · rw [List.take_zero, List.nil_append, Nat.zero_add, List.take_append, hr, List.take_of_length_le (by omega), ← List.drop_take, hce, htk, encs_append]
          refine congrArg (fun z_ => encs (Value.int .u8) (l1.take l0.length) ++ z_) ?_
          show (l0.map (Value.int .u8)).drop _ = (l0.drop _).map (Value.int .u8)
          rw [List.map_drop]
          by_cases h5 : l1.length ≤ l0.length
          · rw [Nat.min_eq_left h5]
          · rw [List.drop_eq_nil_of_le (by rw [List.length_map]; omega), List.drop_eq_nil_of_le (by rw [List.length_map]; omega)]
/-! ### copy into a cut of a row of the call's own -/
def copyC.f (x : List Int) (lo hi : Int) (y : List Int) : Option (List Int) := if 0 ≤ lo ∧ lo ≤ hi ∧ hi ≤ (x.length : Int) then some (x.take lo.toNat ++ y.take (hi.toNat - lo.toNat) ++ x.drop (lo.toNat + min y.length (hi.toNat - lo.toNat))) else none
def copyC.Of (u : Value) (A : Option Addr) (m a b : Nat) : Prop := ∃ (A0 : Option Addr) (n0 c0 : Nat), u = .slice A0 n0 c0 ∧ A = (if c0 = a then A0 else A0.map (·.add (a * 1))) ∧ m = b - a
theorem copyC.calls {sT : TypeId} {A : Option Addr} {m c : Nat} (P0_ : Nat → Prop) (u : Value) (l0 : List Int) (lo hi : Int) (A1 : Option Addr) (c1 : Nat) (l1 : List Int) (r : List Int) (w0 w : World) (hB : Below w0.heap.size w0 w) (ho0 : Kd.R (Kd.int .u8) 5 w w0.heap.size P0_ u l0) (hcut : copyC.Of u A m lo.toNat hi.toNat) (hr1 : ∀ W_, Kept w W_ (fun k_ => P0_ k_) → Kd.C (Kd.int .u8) W_ A1 l1.length l1) (hc1 : l1.length ≤ c1) (h : copyC.f l0 lo hi l1 = some r) :
    CopyDo Try.prog #[33, sT] #[.slice A m c, .slice A1 l1.length c1] w fun e w' => e = .returned (goInt (Nat.min l1.length m : Nat)) ∧ Kd.R (Kd.int .u8) 5 w' w0.heap.size (fun k_ => (P0_ k_ ∨ w.heap.size ≤ k_)) u r ∧ Below w0.heap.size w0 w' ∧ Kept w w' (fun k_ => P0_ k_) := by
  intro ty
  have hs1 : (Try.prog.info? 5).map (·.size) = some 1 := by kernel_rfl
  unfold copyC.f at h
  by_cases hq : 0 ≤ lo ∧ lo ≤ hi ∧ hi ≤ (l0.length : Int)
  · rw [if_pos hq] at h
    obtain ⟨A0, n0, c0, hu, hA, hm⟩ := hcut
    obtain ⟨a, rfl⟩ : ∃ a : Nat, lo = a := ⟨lo.toNat, by omega⟩
    obtain ⟨b, rfl⟩ : ∃ b : Nat, hi = b := ⟨hi.toNat, by omega⟩
    simp only [Int.toNat_natCast] at h hA hm
    have hab : a ≤ b := by omega
    have hbl : b ≤ l0.length := by omega
    have hr := (Option.some.inj h).symm
    rw [← hm] at hr
    obtain ⟨hl, ho⟩ := Kd.own_of_R ho0
    have hmin : Nat.min l1.length m = min l1.length m := rfl
    have none_ : Nat.min l1.length m = 0 → ∃ v w', (Builtin.copy_ #[33, sT] ty #[.slice A m c, .slice A1 l1.length c1]).run Try.prog w = .ok v w' ∧ (Ending.returned v = Ending.returned (goInt (Nat.min l1.length m : Nat)) ∧ Kd.R (Kd.int .u8) 5 w' w0.heap.size (fun k_ => (P0_ k_ ∨ w.heap.size ≤ k_)) u r ∧ Below w0.heap.size w0 w' ∧ Kept w w' (fun k_ => P0_ k_)) := by
      intro hz
      have hr0 : r = l0 := by
        rw [hr, show min l1.length m = 0 from hz, Nat.add_zero]
        have hz2 : min l1.length m = 0 := hz
        have e0 : l1.take m = [] := List.eq_nil_of_length_eq_zero (by rw [List.length_take]; omega)
        rw [e0, List.append_nil, List.take_append_drop]
      refine ⟨_, _, run_copy_none w _ sT ty 5 A A1 m c l1.length c1 Try.underlying33 hs1 hz, ?_, ?_, hB, Kept.refl _ _⟩
      · rw [hz]; rfl
      · rw [hr0]; exact Kd.R_mono ho0 (fun k hk => .inl hk)
    by_cases hz : Nat.min l1.length m = 0
    · exact none_ hz
    · have hz2 : ¬ min l1.length m = 0 := hz
      rcases ho with ⟨hu2, h0⟩ | ⟨g, cap, cur, hu2, hg0, hg, hnc, hmax, hcs, htk⟩
      · omega
      · rw [Nat.mul_one] at hcs htk
        subst hu2
        injection hu with ea en ec
        subst ea ec
        have hcl : cur.toList.length = cap := by rw [Array.length_toList]; exact hcs
        rw [if_neg (by omega)] at hA
        have hA2 : A = some ⟨g, a, none⟩ := by rw [hA, Nat.mul_one]; show some ((⟨g, 0, none⟩ : Addr).add a) = _; rw [add_plain]
        subst hA2
        obtain ⟨hq1, hq2, hq3⟩ := Kd.reads_of_C (enc := Value.int .u8) (d := (0 : Int)) (h1 := fun _ => rfl) (hr1 w (Kept.refl _ _))
        obtain ⟨ad, rfl, hc⟩ := hq3 (by omega)
        have hcsl : (encs (Value.int .u8) (l1.take m)).length = Nat.min l1.length m := by
          rw [encs_length, List.length_take]; exact Nat.min_comm _ _
        have hfit : a + (encs (Value.int .u8) (l1.take m)).length ≤ cur.size := by rw [hcsl, hmin]; omega
        refine ⟨_, _, run_copy_row Try.prog w _ sT ty 5 g a m c ad l1.length c1 cur 5 (encs (Value.int .u8) (l1.take m)) Try.underlying33 hs1 hg hcsl ?_ hfit ?_, by rw [hcsl], ?_⟩
        · intro j v hj
          obtain ⟨hjl, _⟩ := List.getElem?_eq_some_iff.1 hj
          rw [encs_length, List.length_take] at hjl
          rw [encs_get (d := (0 : Int)) _ _ (by rw [List.length_take]; omega)] at hj
          rw [hc j (by omega), ← Option.some.inj hj]
          simp [List.getD_eq_getElem?_getD, List.getElem?_take_of_lt (show j < m by omega)]
        · intro v hv
          obtain ⟨x, _, rfl⟩ := List.mem_map.1 hv
          rfl
        · have hrl : r.length = l0.length := by rw [hr]; simp only [List.length_append, List.length_take, List.length_drop]; omega
          have hce : (encs (Value.int .u8) (l1.take m)).length = min l1.length m := hcsl
          have t1 : cur.toList.take a = encs (Value.int .u8) (l0.take a) := by
            have e := congrArg (List.take a) htk
            rw [List.take_take, Nat.min_eq_left (by omega)] at e
            rw [e]; exact (List.map_take ..).symm
          have t2 : (cur.toList.drop (a + min l1.length m)).take (l0.length - (a + min l1.length m)) = encs (Value.int .u8) (l0.drop (a + min l1.length m)) := by
            rw [← List.drop_take, htk]; exact (List.map_drop ..).symm
          refine copy_owned (cur := cur.toList) hB hg0 (ho0.1 g (by simp [Value.ownBlock])) rfl hrl (by simpa using hg) hnc hmax ?_ ?_
          · simp only [List.length_append, List.length_take, List.length_drop, hcl, hce]; omega
          · rw [hce, t1, hr, encs_append, encs_append]
            have l1' : (encs (Value.int .u8) (l0.take a) ++ encs (Value.int .u8) (l1.take m)).length = a + min l1.length m := by
              rw [List.length_append, encs_length, List.length_take, hce]; omega
            rw [List.take_append, l1', t2, List.take_of_length_le (by rw [l1']; omega)]
  · rw [if_neg hq] at h; cases h
/-! ### append to a constant's bytes -/
theorem lit_zeros_run {W : World} (base : Nat) (ty g : Nat) (m : Nat) (hm : 0 < m) (hm2 : m ≤ 1048576) (xs : List Int) (hn : xs.length < 256) (hb : W.heap[g]? = some (.cells (encs (Value.int .u8) xs).toArray 5 (xs.length, xs.length + 1))) (ok : Nat → Prop) (hfresh : ∀ k, W.heap.size ≤ k → ok k) (hbase : base ≤ W.heap.size) :
    ∃ v1 w1, (Builtin.append_ #[33, 3] ty #[.slice (some ⟨g, 0, none⟩) xs.length xs.length, .int .i64 m]).run Try.prog W = .ok v1 w1 ∧ Kd.R (Kd.int .u8) 5 w1 base ok v1 (xs ++ List.replicate m 0) ∧ Below W.heap.size W w1 ∧ ∃ b, v1.ownBlock = some b ∧ W.heap.size ≤ b := by
  obtain ⟨i0, hi, hzz⟩ := Option.map_eq_some_iff.1 info5
  simp only [Prod.mk.injEq] at hzz
  obtain ⟨hz0, hz1, hz2⟩ := hzz
  have hlen : (encs (Value.int .u8) xs).length = xs.length := encs_length xs
  have hold : (Builtin.firstCells i0.size xs.length (.slice (some ⟨g, 0, none⟩) xs.length xs.length)).run Try.prog W.drew = .ok (encs (Value.int .u8) xs).toArray W.drew := by
    have hl := run_loadCells_list (P := Try.prog) W.drew ⟨g, 0, none⟩ (encs (Value.int .u8) xs) (fun j v hj => by
      have h1 : (⟨g, 0, none⟩ : Addr).add j = ⟨g, j, none⟩ := by simp [Addr.add]; exact Eq.symm
      rw [h1]
      have : W.drew.heap[g]? = some (.cells (encs (Value.int .u8) xs).toArray 5 (xs.length, xs.length + 1)) := hb
      simp [World.cell?, this]
      exact hj)
    rw [hlen] at hl
    simp [Builtin.firstCells, hz1, hl]
  have hcap := grownCap_ge W (xs.length + m) xs.length 5
  have hcap2 := grownCap_le_maxLen W (xs.length + m) xs.length 5 (by simp [maxLen]; omega)
  have hrun := Go.Lib.run_append_grow_zeros (P := Try.prog) W 33 3 ty 5 i0 (.int .u8 0) .i64 .i64 Try.underlying33 (by kernel_rfl) hi hz0 (some ⟨g, 0, none⟩) xs.length xs.length (encs (Value.int .u8) xs) hold m hm (by omega) (by omega) (by omega) (by rw [hz2]; omega) ?_
  · have hzl : ∀ k, (Builtin.zeroCells (Value.int IntKind.u8 0).cells k).toList = List.replicate k (Value.int .u8 0) := by
      intro k
      have := Kd.reps_zeros (R := fun (x : Int) cs => cs = [Value.int .u8 x]) (z := .int .u8 0) (size := 1) (z0 := 0) rfl (by decide) rfl k
      apply List.ext_getElem?
      intro j
      have hl := this.1
      rw [List.length_replicate, Nat.mul_one] at hl
      by_cases hj : j < k
      · have h2 := this.2 j 0 (by rw [List.getElem?_replicate, if_pos hj])
        rw [Nat.mul_one, List.drop_eq_getElem_cons (by omega)] at h2
        have h3 := congrArg List.head? h2
        simp at h3
        rw [List.getElem?_replicate, if_pos hj, List.getElem?_eq_getElem (by omega)]
        simpa using h3
      · rw [List.getElem?_eq_none (by omega), List.getElem?_eq_none (by simp; omega)]
    refine ⟨_, _, hrun, Kd.R_of_own ?_ (fun k hk => ?_), ?_, ⟨W.heap.size, rfl, Nat.le_refl _⟩⟩
    · rw [List.length_append, List.length_replicate]
      refine ⟨by simp [encs], .inr ⟨W.heap.size, _, _, rfl, hbase, heap_alloc_new W.drew _, hcap, hcap2, ?_, ?_⟩⟩
      · rw [Array.size_append, Array.size_append, ← Array.length_toList, ← Array.length_toList, ← Array.length_toList, hzl, hzl]
        simp [hlen]; omega
      · simp only [Array.toList_append, hzl, Nat.mul_one]
        rw [List.append_assoc, ← List.append_assoc, List.take_append_of_le_length (by simp [encs]), List.take_of_length_le (by simp [encs]), encs_append]
        simp [encs]
    · have : W.heap.size = k := by simpa [Value.ownBlock] using hk
      exact hfresh k (by omega)
    · exact below_alloc (below_drew (Below.refl _ _)) _
  · rw [hz2]
    have hq : Builtin.nextslicecap (xs.length + m) xs.length ≤ 281474976710656 := by
      unfold Builtin.nextslicecap
      split
      · omega
      · omega
    omega
theorem lit_zeros {ops : Array Oper} {rest : List Oper} {o : Oper} {a : Act} {Q : Exit → Act → World → Prop} {w0 W : World} (base : Nat) (hgd : o.guard = none) (s x : Operand) (ho : o.op = .call { callee := .builtin .append, args := #[s, x], argTypes := #[33, 3] }) (g m : Nat) (xs : List Int) (hs : a.eval s = .slice (some ⟨g, 0, none⟩) xs.length xs.length) (hx : a.eval x = .int .i64 m) (hm : 0 < m) (hm2 : m ≤ 1048576) (hn : xs.length < 256)
    (hb : W.heap[g]? = some (.cells (encs (Value.int .u8) xs).toArray 5 (xs.length, xs.length + 1))) (HB : Below base w0 W) (hbase : base ≤ W.heap.size)
    (h : ∀ v1 w1, Kd.R (Kd.int .u8) 5 w1 base (fun _ => True) v1 (xs ++ List.replicate m 0) → Below base w0 w1 → Below W.heap.size W w1 → wpList Try.prog ops Q rest (a.put o.dst v1) w1) : wpList Try.prog ops Q (o :: rest) a W := by
  obtain ⟨v1, w1, hr1, h1, hb1, hat⟩ := lit_zeros_run base o.type g m hm hm2 xs hn hb (fun _ => True) (fun _ _ => trivial) hbase
  refine wpList_plain hgd fun K hK => ?_
  unfold Oper.wp execOp
  simp only [ho, resolve, invoke, builtin, Sem.run_bind, Sem.run_pure, Result.andThen_ok, List.map_toArray, List.map_cons, List.map_nil, hs, hx, hr1]
  exact hK _ _ (h v1 w1 h1 (HB.trans ⟨hb1.os, hb1.tape, hb1.output, hb1.size, fun i hi => hb1.block i (Nat.lt_of_lt_of_le hi hbase)⟩) hb1)
theorem lit_rows_run {W : World} (base : Nat) (ty g : Nat) (xs ys : List Int) (hn : xs.length < 256) (hy0 : 0 < ys.length) (hy : ys.length ≤ 1048576) (hb : W.heap[g]? = some (.cells (encs (Value.int .u8) xs).toArray 5 (xs.length, xs.length + 1))) (ad : Addr) (c : Nat) (hys : ∀ j v, (encs (Value.int .u8) ys)[j]? = some v → W.cell? (ad.add j) = some v) (ok : Nat → Prop) (hfresh : ∀ k, W.heap.size ≤ k → ok k) (hbase : base ≤ W.heap.size) :
    ∃ v1 w1, (Builtin.append_ #[33, 33] ty #[.slice (some ⟨g, 0, none⟩) xs.length xs.length, .slice (some ad) ys.length c]).run Try.prog W = .ok v1 w1 ∧ Kd.R (Kd.int .u8) 5 w1 base ok v1 (xs ++ ys) ∧ Below W.heap.size W w1 ∧ ∃ b, v1.ownBlock = some b ∧ W.heap.size ≤ b := by
  obtain ⟨i0, hi, hzz⟩ := Option.map_eq_some_iff.1 info5
  simp only [Prod.mk.injEq] at hzz
  obtain ⟨hz0, hz1, hz2⟩ := hzz
  have hlen : (encs (Value.int .u8) xs).length = xs.length := encs_length xs
  have hlen2 : (encs (Value.int .u8) ys).length = ys.length := encs_length ys
  have hcap := grownCap_ge W (xs.length + ys.length) xs.length 5
  have hcap2 := grownCap_le_maxLen W (xs.length + ys.length) xs.length 5 (by simp [maxLen]; omega)
  have hrun := run_append_grow (P := Try.prog) (w := W) 33 ty 5 i0 (.int .u8 0) Try.underlying33 hi hz0 ⟨g, 0, none⟩ xs.length xs.length (encs (Value.int .u8) xs) (by rw [hlen, hz1]; omega) (fun j v hj => by
      have h1 : (⟨g, 0, none⟩ : Addr).add j = ⟨g, j, none⟩ := by simp [Addr.add]; exact Eq.symm
      rw [h1]
      simp [World.cell?, hb]
      exact hj) ad ys.length c (encs (Value.int .u8) ys) (by rw [hlen2, hz1]; omega) hys (by omega) (by omega) ?_
  · have hzl : ∀ k, (Builtin.zeroCells (Value.int IntKind.u8 0).cells k).toList = List.replicate k (Value.int .u8 0) := by
      intro k
      have := Kd.reps_zeros (R := fun (x : Int) cs => cs = [Value.int .u8 x]) (z := .int .u8 0) (size := 1) (z0 := 0) rfl (by decide) rfl k
      apply List.ext_getElem?
      intro j
      have hl := this.1
      rw [List.length_replicate, Nat.mul_one] at hl
      by_cases hj : j < k
      · have h2 := this.2 j 0 (by rw [List.getElem?_replicate, if_pos hj])
        rw [Nat.mul_one, List.drop_eq_getElem_cons (by omega)] at h2
        have h3 := congrArg List.head? h2
        simp at h3
        rw [List.getElem?_replicate, if_pos hj, List.getElem?_eq_getElem (by omega)]
        simpa using h3
      · rw [List.getElem?_eq_none (by omega), List.getElem?_eq_none (by simp; omega)]
    refine ⟨_, _, hrun, Kd.R_of_own ?_ (fun k hk => ?_), ?_, ⟨W.heap.size, rfl, Nat.le_refl _⟩⟩
    · rw [List.length_append]
      refine ⟨by simp [encs], .inr ⟨W.heap.size, _, _, rfl, hbase, heap_alloc_new W.drew _, hcap, hcap2, ?_, ?_⟩⟩
      · rw [Array.size_append, Array.size_append, ← Array.length_toList, ← Array.length_toList, ← Array.length_toList, hzl]
        simp [hlen, hlen2]; omega
      · simp only [Array.toList_append, hzl, Nat.mul_one]
        rw [List.take_append_of_le_length (by simp [encs]), List.take_of_length_le (by simp [encs]), encs_append]
    · have : W.heap.size = k := by simpa [Value.ownBlock] using hk
      exact hfresh k (by omega)
    · exact below_alloc (below_drew (Below.refl _ _)) _
  · rw [hz2]
    have hq : Builtin.nextslicecap (xs.length + ys.length) xs.length ≤ 281474976710656 := by
      unfold Builtin.nextslicecap
      split
      · omega
      · omega
    omega
theorem lit_rows {ops : Array Oper} {rest : List Oper} {o : Oper} {a : Act} {Q : Exit → Act → World → Prop} {w0 W : World} (base : Nat) (hgd : o.guard = none) (s x : Operand) (ho : o.op = .call { callee := .builtin .append, args := #[s, x], argTypes := #[33, 33] }) (g : Nat) (xs ys : List Int) (A : Option Addr) (c : Nat) (hs : a.eval s = .slice (some ⟨g, 0, none⟩) xs.length xs.length) (hx : a.eval x = .slice A ys.length c) (hy0 : 0 < ys.length) (hy : ys.length ≤ 1048576) (hn : xs.length < 256)
    (hb : W.heap[g]? = some (.cells (encs (Value.int .u8) xs).toArray 5 (xs.length, xs.length + 1))) (HR : Kd.C (Kd.int .u8) W A ys.length ys) (HB : Below base w0 W) (hbase : base ≤ W.heap.size) (ok : Nat → Prop) (hfresh : ∀ k, W.heap.size ≤ k → ok k)
    (h : ∀ v1 w1, Kd.R (Kd.int .u8) 5 w1 base ok v1 (xs ++ ys) → Below base w0 w1 → Below W.heap.size W w1 → (∀ k, v1.ownBlock = some k → W.heap.size ≤ k) → wpList Try.prog ops Q rest (a.put o.dst v1) w1) : wpList Try.prog ops Q (o :: rest) a W := by
  obtain ⟨hq1, hq2, hq3⟩ := Kd.reads_of_C (enc := Value.int .u8) (d := (0 : Int)) (h1 := fun _ => rfl) HR
  obtain ⟨ad, rfl, hc⟩ := hq3 hy0
  obtain ⟨v1, w1, hr1, h1, hb1, hat⟩ := lit_rows_run base o.type g xs ys hn hy0 hy hb ad c (fun j v hj => by
    obtain ⟨hjl, _⟩ := List.getElem?_eq_some_iff.1 hj
    rw [encs_length] at hjl
    rw [encs_get (d := (0 : Int)) _ _ hjl] at hj
    rw [hc j hjl, ← Option.some.inj hj]) ok hfresh hbase
  refine wpList_plain hgd fun K hK => ?_
  unfold Oper.wp execOp
  simp only [ho, resolve, invoke, builtin, Sem.run_bind, Sem.run_pure, Result.andThen_ok, List.map_toArray, List.map_cons, List.map_nil, hs, hx, hr1]
  exact hK _ _ (h v1 w1 h1 (HB.trans ⟨hb1.os, hb1.tape, hb1.output, hb1.size, fun i hi => hb1.block i (Nat.lt_of_lt_of_le hi hbase)⟩) hb1 (fun k hk => by obtain ⟨b, e1, e2⟩ := hat; rw [e1] at hk; cases hk; exact e2))
theorem lit_const {ops : Array Oper} {rest : List Oper} {o1 o2 : Oper} {a : Act} {Q : Exit → Act → World → Prop} {w0 W : World} (base : Nat) (hgd1 : o1.guard = none) (hgd2 : o2.guard = none) {N1 N2 : Tmp} (_hd1 : o1.dst = some N1) (_hd2 : o2.dst = some N2) (C : Array Value) (n : Nat)
    (hrun1 : (execOp a.eval o1).run Try.prog W = .ok (.value (.slice (some ⟨W.heap.size, 0, none⟩) n n)) (W.alloc (.cells C 5)))
    (hrun2 : (execOp (a.put o1.dst (.slice (some ⟨W.heap.size, 0, none⟩) n n)).eval o2).run Try.prog (W.alloc (.cells C 5)) = .ok (.value (.slice (some ⟨W.heap.size, 0, none⟩) n n)) (W.alloc (.cells C 5 (C.size, C.size + 1))))
    (HB : Below base w0 W) (hbase : base ≤ W.heap.size)
    (h : ∀ g w1, w1.heap[g]? = some (.cells C 5 (C.size, C.size + 1)) → Below base w0 w1 → Below W.heap.size W w1 → wpList Try.prog ops Q rest ((a.put o1.dst (.slice (some ⟨g, 0, none⟩) n n)).put o2.dst (.slice (some ⟨g, 0, none⟩) n n)) w1) : wpList Try.prog ops Q (o1 :: o2 :: rest) a W :=
  Kd.event_run hgd1 hrun1 (Kd.event_run hgd2 hrun2 (h W.heap.size _ (heap_alloc_new W _) (HB.alloc hbase _) (below_alloc (Below.refl _ _) _)))

end Go.Proofs.Ytokiliilbopgkaa.PFnExactPackImage
