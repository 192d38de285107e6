/- FnExactDecimal answers true for every number, where the library's table of powers of ten holds what the program's text lays (the card ties it). -/
import Derived.Test.YtmbcihfdfohfcaaDoorCards
import Derived.Test.YtmbcihfdfohfcaaDoorTie
import Derived.Test.YtmbcihfdfohfcaaDoorShelf
import Derived.Test.YtmbcihfdfohfcaaDoorPDecimalx1
import Derived.Test.YtmbcihfdfohfcaaDoorBase
import Derived.WalkKit
import Derived.ProofKit
import Derived.OpenShut
import Derived.Deep.DeepHandedRow
import Derived.Lib.LaidTab
import Derived.Lib.SmallJoins
import Derived.Lib.ItoaMem
import Derived.Stop.LaidErr
set_option linter.unusedVariables false
set_option linter.unusedSimpArgs false
namespace Go.Proofs.YtmbcihfdfohfcaaDoor.Dec
open Go.ChangeShapes Go.WideShapes Go.ChangeAt Go.RowKit Go.Sort
open Go.Proofs.YtmbcihfdfohfcaaDoor.PDecimal Go.Proofs.YtmbcihfdfohfcaaDoorW.PrintWords Go.Proofs.YtmbcihfdfohfcaaDoorW.PrintLast Go.Proofs.YtmbcihfdfohfcaaDoorW.PrintMore Go.Proofs.YtmbcihfdfohfcaaDoor.Base

/-! ### the plain law -/
def S (l : List UInt8) : ByteArray := ⟨l.toArray⟩
theorem S_size (l : List UInt8) : (S l).size = l.length := by show (l.toArray).size = _; simp
theorem S_app (l m : List UInt8) : S l ++ S m = S (l ++ m) := by
  refine ByteArray.ext ?_
  show (S l ++ S m).data = _
  rw [ByteArray.data_append]
  simp [S]
theorem S_one (c : Int) : strOfNums [c] = S [UInt8.ofNat c.toNat] := rfl
theorem l1Unsigned_l0 : ∀ (n u : Nat), u ≤ n → u < 18446744073709551616 → ∀ m : List UInt8, m.length + n < 18446744073709551616 → m.length + Lib.nDigits u ≤ 1000 → Ev (fun k => spec_l1Unsigned.l0 k (u : Int) (S m)) (S (Lib.decDigits u ++ m)) := by
  intro n
  induction n using Nat.strongRecOn with
  | ind n ih =>
    intro u hun hu m hmn hm
    have e1 : IntKind.u64.wrap (Int.tdiv (u : Int) 10) = ((u / 10 : Nat) : Int) := by
      rw [show (10 : Int) = ((10 : Nat) : Int) from rfl, tdiv_nat, u64w_id (by omega) (by omega)]
    have e2 : (IntKind.u64.wrap (48 + (Int.tmod (u : Int) 10))) % 256 = ((48 + u % 10 : Nat) : Int) := by
      rw [show (10 : Int) = ((10 : Nat) : Int) from rfl, tmod_nat, u64w_id (by omega) (by omega)]; omega
    refine Ev.step (fun _ => spec_l1Unsigned.l0.eq_2 ..) ?_
    rw [e1, e2]
    refine ev_bind0 rfl ?_
    rw [S_one, Int.toNat_natCast, S_app, S_size, S_size, List.singleton_append]
    refine ev_pos (by simp only [List.length_singleton]; omega) ?_
    by_cases h10 : u < 10
    · refine ev_pos (by omega) (ev_ret ?_)
      rw [Lib.decDigits_one h10, Nat.mod_eq_of_lt h10, List.singleton_append]
    · refine ev_neg (by omega) ?_
      have hd : Lib.nDigits u = Lib.nDigits (u / 10) + 1 := Lib.nDigits_big h10
      refine ev_eq ?_ (ih (u / 10) (by omega) (u / 10) (Nat.le_refl _) (by omega) (UInt8.ofNat (48 + u % 10) :: m) (by rw [List.length_cons]; omega) (by rw [List.length_cons]; omega))
      congr 1
      conv => rhs; rw [Lib.decDigits, dif_neg h10]
      rw [List.append_assoc, List.singleton_append]
theorem nDigits_le {u : Nat} (h1 : 1 ≤ u) (hu : u < 18446744073709551616) : Lib.nDigits u ≤ 20 := by
  have := Lib.numDigits_eq u h1 hu; split at this <;> omega
theorem l1Unsigned_ev {u : Nat} (hu : u < 18446744073709551616) : Ev (fun k => spec_l1Unsigned.f k (u : Int)) (S (Lib.decDigits u)) := by
  have hn : Lib.nDigits u ≤ 20 := by
    by_cases h1 : 1 ≤ u
    · exact nDigits_le h1 hu
    · rw [Lib.nDigits_small (by omega)]; omega
  have := l1Unsigned_l0 u u (Nat.le_refl _) hu [] (by simp; omega) (by simp; omega)
  rw [List.append_nil] at this
  exact this
theorem decimal_ev {x : Int} (h0 : -9223372036854775808 ≤ x) (h1 : x < 9223372036854775808) : Ev (fun k => spec_Decimal.f k x) (S (Lib.itoa x)) := by
  unfold spec_Decimal.f
  by_cases h : x < 0
  · obtain ⟨u, rfl⟩ : ∃ u : Nat, x = -(u : Int) := ⟨x.natAbs, by omega⟩
    have e : IntKind.u64.wrap (-(IntKind.u64.wrap (-(u : Int)))) = (u : Int) := by rw [u64w, u64w]; omega
    rw [e, Lib.itoa_neg u (by omega)]
    refine ev_pos h (Ev.bind (l1Unsigned_ev (by omega)) (ev_pos ?_ (ev_ret ?_)))
    · rw [S_size, Lib.decDigits_length]; have := nDigits_le (u := u) (by omega) (by omega); omega
    · show S [45] ++ _ = _
      rw [S_app]; rfl
  · obtain ⟨u, rfl⟩ : ∃ u : Nat, x = (u : Int) := ⟨x.toNat, by omega⟩
    rw [u64w_id (x := (u : Int)) (by omega) (by omega), Lib.itoa_nonneg]
    exact ev_neg h (Ev.bind (l1Unsigned_ev (by omega)) (ev_ret rfl))

/-! ### the walks -/
theorem gTab : Tryd.prog.globalNamed "internal/strconv.uint64pow10" = some 0 := by kernel_rfl
theorem gTabType : (Tryd.prog.globals[0]?).map (·.type) = some 36 := by kernel_rfl
theorem below_grow (w : World) (k : Nat) (os : Array Obj) : Below w.heap.size w (grow (w.drewN k) os) :=
  ⟨rfl, rfl, rfl, by simp [grow, World.drewN], fun i hi => by simp [grow, World.drewN, Array.getElem?_append_left hi]⟩
set_option maxHeartbeats 1000000 in
theorem fmt7 (n : Int) (h0 : -9223372036854775808 ≤ n) (h1 : n ≤ 9223372036854775807) (w : World) (htab : Lib.TabIs Tryd.prog w "internal/strconv.uint64pow10" .u64 Lib.pow10Tab) :
    Calls Tryd.prog 7 #[.int .i64 n, .int .i64 10] w fun e w' => e = .returned (.string (S (Lib.itoa n))) ∧ Below w.heap.size w w' := by
  have hb := below_grow w
  go_enter Tryd.func7, Tryd.ntmps7
  go_wp2_with (go_at_call 8; refine (Tryd.internal_strconv_FormatInt_10 n h0 h1 _ htab).mono ?_; rintro e w' ⟨rfl, k, os, hw⟩; have hbw := hb k os; rw [← hw] at hbw; clear hw hb)
  go_ret
  exact ⟨rfl, hbw⟩
set_option maxHeartbeats 1000000 in
theorem fmt5 (n : Int) (h0 : -9223372036854775808 ≤ n) (h1 : n ≤ 9223372036854775807) (w : World) (htab : Lib.TabIs Tryd.prog w "internal/strconv.uint64pow10" .u64 Lib.pow10Tab) :
    Calls Tryd.prog 5 #[.int .i64 n] w fun e w' => e = .returned (.string (S (Lib.itoa n))) ∧ Below w.heap.size w w' := by
  go_enter Tryd.func5, Tryd.ntmps5
  go_wp2_with (go_at_call 7; refine (fmt7 n h0 h1 _ htab).mono ?_; rintro e w' ⟨rfl, hbw⟩)
  go_ret
  exact ⟨rfl, hbw⟩
set_option maxHeartbeats 1000000 in
theorem walk (n : Int) (h0 : -9223372036854775808 ≤ n) (h1 : n ≤ 9223372036854775807) (w : World) (htab : Lib.TabIs Tryd.prog w "internal/strconv.uint64pow10" .u64 Lib.pow10Tab) :
    Calls Tryd.prog 3 #[.int .i64 n] w fun e w' => e = .returned (.bool true) ∧ Below w.heap.size w w' := by
  obtain ⟨k, hk⟩ := (decimal_ev h0 (by omega : n < 9223372036854775808)).rounds
  have hc : ∀ w, Calls Tryd.prog 4 #[.int .i64 n] w fun e w' => e = .returned (.string (S (Lib.itoa n))) ∧ Below w.heap.size w w' := fun w => spec_Decimal.calls k n _ w hk
  have hd : ∀ w1, Below w.heap.size w w1 → Calls Tryd.prog 5 #[.int .i64 n] w1 fun e w' => e = .returned (.string (S (Lib.itoa n))) ∧ Below w.heap.size w w' := fun w1 hb1 => (fmt5 n h0 h1 w1 (Go.Joins.tab_stays gTab htab hb1 (Nat.le_refl _))).mono (fun e w' h => ⟨h.1, below_then hb1 hb1.size h.2⟩)
  clear hk htab
  generalize S (Lib.itoa n) = s at *
  go_enter Tryd.func3, Tryd.ntmps3
  go_wp2_with (first | (go_at_call 4; refine (hc _).mono ?_; rintro e w1 ⟨rfl, hb1⟩; have hd1 := hd w1 hb1; clear hd hc hb1) | (go_at_call 5; refine hd1.mono ?_; rintro e w2 ⟨rfl, hb2⟩; clear hd1))
  go_ret
  exact ⟨rfl, hb2⟩
end Go.Proofs.YtmbcihfdfohfcaaDoor.Dec
