/- Plain lemmas on whole numbers, bits and lists, with no program in sight. -/
import Derived.Test.YtdlgalaemnjfjaaVSized
import Derived.Test.YtdlgalaemnjfjaaVMore
import Derived.Laws.BitsLemmas
import Derived.DataShut
set_option linter.unusedVariables false
set_option linter.unusedSimpArgs false
namespace Go.Proofs.Ytdlgalaemnjfjaa.Base
open Go.RowKit Go.Proofs.YtdlgalaemnjfjaaW.PrintWords Go.Proofs.YtdlgalaemnjfjaaW.PrintLast Go.Proofs.YtdlgalaemnjfjaaW.PrintMore

/-! ### rounds -/
theorem ev_pos {α : Type} {c : Prop} [Decidable c] {A B : Nat → Option α} {r : α} (h : c) (k : Ev A r) : Ev (fun n => if c then A n else B n) r := Ev.congr (fun _ => if_pos h) k
theorem ev_neg {α : Type} {c : Prop} [Decidable c] {A B : Nat → Option α} {r : α} (h : ¬ c) (k : Ev B r) : Ev (fun n => if c then A n else B n) r := Ev.congr (fun _ => if_neg h) k
theorem ev_ite {α : Type} {c : Prop} [Decidable c] {A B : Nat → Option α} {r s : α} (k : c → Ev A r) (l : ¬ c → Ev B s) : Ev (fun n => if c then A n else B n) (if c then r else s) := by
  by_cases h : c
  · rw [if_pos h]; exact ev_pos h (k h)
  · rw [if_neg h]; exact ev_neg h (l h)
theorem ev_bind0 {α β : Type} {x : Option α} {a : α} {f : Nat → α → Option β} {r : β} (h : x = some a) (k : Ev (fun n => f n a) r) : Ev (fun n => x.bind (f n)) r := Ev.congr (fun n => by rw [h]; rfl) k
theorem ev_ret {α : Type} {x r : α} (h : x = r) : Ev (fun _ => some x) r := h ▸ Ev.now x
theorem ev_eq {α : Type} {g : Nat → Option α} {r s : α} (h : r = s) (k : Ev g r) : Ev g s := h ▸ k

/-! ### numbers -/
theorem u64w (x : Int) : IntKind.u64.wrap x = x % 18446744073709551616 := by simp [IntKind.wrap, IntKind.bits, IntKind.signed]
theorem u64w_id {x : Int} (h0 : 0 ≤ x) (h1 : x < 18446744073709551616) : IntKind.u64.wrap x = x := by rw [u64w]; omega
theorem w64_id {x : Int} (h0 : -9223372036854775808 ≤ x) (h1 : x < 9223372036854775808) : wrap64 x = x := by unfold wrap64; omega
theorem wf_u64 {a : Int} (h : (Lit.int .u64 a).wf = true) : 0 ≤ a ∧ a < 18446744073709551616 := by
  have h2 := (Lit.wf_int_iff .u64 a).1 h
  have e0 : IntKind.u64.min = 0 := by decide
  have e1 : IntKind.u64.max = 18446744073709551615 := by decide
  rw [e0, e1] at h2
  omega
theorem wf_i64 {a : Int} (h : (Lit.int .i64 a).wf = true) : -9223372036854775808 ≤ a ∧ a < 9223372036854775808 := by
  have h2 := (Lit.wf_int_iff .i64 a).1 h
  have e0 : IntKind.i64.min = -9223372036854775808 := by decide
  have e1 : IntKind.i64.max = 9223372036854775807 := by decide
  rw [e0, e1] at h2
  omega
theorem wf_u8 {a : Int} (h : (Lit.int .u8 a).wf = true) : 0 ≤ a ∧ a < 256 := by
  have h2 := (Lit.wf_int_iff .u8 a).1 h
  have e0 : IntKind.u8.min = 0 := by decide
  have e1 : IntKind.u8.max = 255 := by decide
  rw [e0, e1] at h2
  omega
/-- A whole number of Go's that is none below nought, as Lean's. -/
theorem to_nat {a : Int} {m : Nat} (h0 : 0 ≤ a) (h1 : a < (m : Int)) : ∃ n : Nat, a = (n : Int) ∧ n < m := ⟨a.toNat, by omega, by omega⟩
theorem tdiv_nat (a b : Nat) : Int.tdiv (a : Int) (b : Int) = ((a / b : Nat) : Int) := by simp [Int.tdiv_eq_ediv]
theorem tmod_nat (a b : Nat) : Int.tmod (a : Int) (b : Int) = ((a % b : Nat) : Int) := by simp [Int.tmod_eq_emod]

/-! ### lists -/
theorem rd_nat {xs : List Int} {n : Nat} (h : n < xs.length) : rd xs (n : Int) = xs[n] := by
  unfold rd; rw [Int.toNat_natCast, List.getD_eq_getElem?_getD, List.getElem?_eq_getElem h]; rfl
theorem getD_nat {α : Type} {xs : List α} {n : Nat} (d : α) (h : n < xs.length) : xs.getD (n : Int).toNat d = xs[n] := by
  rw [Int.toNat_natCast, List.getD_eq_getElem?_getD, List.getElem?_eq_getElem h]; rfl
theorem getD_set {α : Type} {xs : List α} {n : Nat} (d a : α) (h : n < xs.length) : (xs.set n a).getD (n : Int).toNat d = a := by
  rw [Int.toNat_natCast, List.getD_eq_getElem?_getD, List.getElem?_set_self h]; rfl
theorem w64_succ {i n : Nat} (h : i < n) (hn : n ≤ 4611686018427387904) : wrap64 ((i : Int) + 1) = ((i + 1 : Nat) : Int) := by rw [w64_id (by omega) (by omega)]; omega
/-- Two ways of a test, whichever it is. -/
theorem ev_split {α : Type} {c : Prop} [Decidable c] {A B : Nat → Option α} {r : α} (k : c → Ev A r) (l : ¬ c → Ev B r) : Ev (fun n => if c then A n else B n) r := by
  by_cases h : c
  · exact ev_pos h (k h)
  · exact ev_neg h (l h)
theorem wf_le {n : Nat} (h : n ≤ maxLen) : n ≤ 9223372036854775807 := h
def Bytes (xs : List Int) : Prop := ∀ x ∈ xs, 0 ≤ x ∧ x < 256
theorem Bytes.get {xs : List Int} (h : Bytes xs) {n : Nat} (hn : n < xs.length) : ∃ b : Nat, xs[n] = (b : Int) ∧ b < 256 := by
  have := h _ (List.getElem_mem hn)
  exact ⟨xs[n].toNat, by omega, by omega⟩
theorem bytes_wf {xs : List Int} (h : ∀ x ∈ xs, (Lit.int .u8 x).wf = true) : Bytes xs := fun x hx => wf_u8 (h x hx)

/-! ### bits -/
theorem shr_nat (a n : Nat) (h : a < 2 ^ 64) : shr .u64 (a : Int) (n : Int) = ((a >>> n : Nat) : Int) := by
  unfold shr
  rw [Int.toNat_natCast, Nat.shiftRight_eq_div_pow]
  show (a : Int) / 2 ^ min n 64 = _
  have e : ((2 : Int) ^ min n 64) = ((2 ^ min n 64 : Nat) : Int) := by simp
  rw [e, ← Int.natCast_ediv]
  congr 1
  rcases Nat.le_total n 64 with hn | hn
  · rw [Nat.min_eq_left hn]
  · rw [Nat.min_eq_right hn, Nat.div_eq_of_lt h, Nat.div_eq_of_lt (Nat.lt_of_lt_of_le h (Nat.pow_le_pow_right (by decide) hn))]
theorem shl_nat (a n : Nat) : shl .u64 (a : Int) (n : Int) = (((a <<< n) % 2 ^ 64 : Nat) : Int) := by
  unfold shl
  rw [Int.toNat_natCast, Nat.shiftLeft_eq, u64w]
  show ((a : Int) * 2 ^ min n 64) % _ = _
  have e : ((2 : Int) ^ min n 64) = ((2 ^ min n 64 : Nat) : Int) := by simp
  rw [e]
  have e2 : (18446744073709551616 : Int) = ((2 ^ 64 : Nat) : Int) := by simp
  rw [e2, ← Int.natCast_mul, ← Int.natCast_emod]
  congr 1
  rcases Nat.le_total n 64 with hn | hn
  · rw [Nat.min_eq_left hn]
  · rw [Nat.min_eq_right hn, Nat.mul_mod_left]
    obtain ⟨d, rfl⟩ := Nat.exists_eq_add_of_le hn
    rw [Nat.pow_add, Nat.mul_comm (2 ^ 64), ← Nat.mul_assoc, Nat.mul_mod_left]
theorem bv_mod (v : BitVec 64) : ((v.toNat : Int) % 18446744073709551616) = (v.toNat : Int) := by
  have := v.isLt
  omega
theorem bits_u64 (op : BinOp) (a b : Nat) : Go.bits op .u64 (a : Int) (b : Int) = (((match op with
    | .and => BitVec.ofNat 64 a &&& BitVec.ofNat 64 b
    | .or => BitVec.ofNat 64 a ||| BitVec.ofNat 64 b
    | .xor => BitVec.ofNat 64 a ^^^ BitVec.ofNat 64 b
    | _ => BitVec.ofNat 64 a &&& ~~~ BitVec.ofNat 64 b) : BitVec 64).toNat : Int) := by
  unfold Go.bits
  rw [u64w]
  simp only [IntKind.bits, BitVec.ofInt_natCast]
  exact bv_mod _
theorem and_nat {a b : Nat} (ha : a < 2 ^ 64) (hb : b < 2 ^ 64) : Go.bits .and .u64 (a : Int) (b : Int) = ((a &&& b : Nat) : Int) := by
  rw [bits_u64]; simp [Nat.mod_eq_of_lt ha, Nat.mod_eq_of_lt hb]
theorem or_nat {a b : Nat} (ha : a < 2 ^ 64) (hb : b < 2 ^ 64) : Go.bits .or .u64 (a : Int) (b : Int) = ((a ||| b : Nat) : Int) := by
  rw [bits_u64]; simp [Nat.mod_eq_of_lt ha, Nat.mod_eq_of_lt hb]
theorem xor_nat {a b : Nat} (ha : a < 2 ^ 64) (hb : b < 2 ^ 64) : Go.bits .xor .u64 (a : Int) (b : Int) = ((a ^^^ b : Nat) : Int) := by
  rw [bits_u64]; simp [Nat.mod_eq_of_lt ha, Nat.mod_eq_of_lt hb]
theorem andnot_nat {a b : Nat} (ha : a < 2 ^ 64) (hb : b < 2 ^ 64) : Go.bits .andNot .u64 (a : Int) (b : Int) = ((a ^^^ (a &&& b) : Nat) : Int) := by
  rw [bits_u64]
  have e : (BitVec.ofNat 64 a &&& ~~~ BitVec.ofNat 64 b) = (BitVec.ofNat 64 a ^^^ (BitVec.ofNat 64 a &&& BitVec.ofNat 64 b)) := by
    apply BitVec.eq_of_getLsbD_eq
    intro i hi
    simp only [BitVec.getLsbD_and, BitVec.getLsbD_not, BitVec.getLsbD_xor, hi, decide_true, Bool.true_and]
    cases (BitVec.ofNat 64 a).getLsbD i <;> cases (BitVec.ofNat 64 b).getLsbD i <;> rfl
  show ((BitVec.ofNat 64 a &&& ~~~ BitVec.ofNat 64 b).toNat : Int) = _
  rw [e]; simp [Nat.mod_eq_of_lt ha, Nat.mod_eq_of_lt hb]
theorem and_lt {a b : Nat} (hb : b < 2 ^ 64) : a &&& b < 2 ^ 64 := Nat.and_lt_two_pow _ hb
theorem or_lt {a b : Nat} (ha : a < 2 ^ 64) (hb : b < 2 ^ 64) : a ||| b < 2 ^ 64 := Nat.or_lt_two_pow ha hb
theorem xor_lt {a b : Nat} (ha : a < 2 ^ 64) (hb : b < 2 ^ 64) : a ^^^ b < 2 ^ 64 := Nat.xor_lt_two_pow ha hb
theorem shr_lt {a n : Nat} (ha : a < 2 ^ 64) : a >>> n < 2 ^ 64 := by
  rw [Nat.shiftRight_eq_div_pow]; exact Nat.lt_of_le_of_lt (Nat.div_le_self _ _) ha
theorem shl_lt {a n : Nat} : (a <<< n) % 2 ^ 64 < 2 ^ 64 := Nat.mod_lt _ (by decide)

/-! ### a number out of its bits, the highest first -/
def hor (b : Nat → Bool) : Nat → Nat
  | 0 => 0
  | m + 1 => (b m).toNat * 2 ^ m + hor b m
theorem hor_lt (b : Nat → Bool) : ∀ m, hor b m < 2 ^ m
  | 0 => by simp [hor]
  | m + 1 => by
    have := hor_lt b m
    simp only [hor, Nat.pow_succ]
    cases b m <;> simp <;> omega
theorem hor_testBit (b : Nat → Bool) (j : Nat) : ∀ m, (hor b m).testBit j = (decide (j < m) && b j)
  | 0 => by simp [hor]
  | m + 1 => by
    have ih := hor_testBit b j m
    have hl := hor_lt b m
    simp only [hor]
    rw [Nat.mul_comm, Nat.testBit_two_pow_mul_add _ hl, ih]
    by_cases hj : j < m
    · simp [hj, Nat.lt_succ_of_lt hj]
    · rw [if_neg hj]
      by_cases he : j = m
      · subst he; cases b j <;> simp
      · have h1 : ¬ j < m + 1 := by omega
        obtain ⟨d, hd⟩ : ∃ d, j - m = d + 1 := ⟨j - m - 1, by omega⟩
        rw [hd]
        cases b m <;> simp [h1, Nat.testBit_succ]
theorem hor_step (b : Nat → Bool) (m acc : Nat) : (acc * 2 + (b m).toNat) * 2 ^ m + hor b m = acc * 2 ^ (m + 1) + hor b (m + 1) := by
  simp only [hor]
  rw [Nat.add_mul, Nat.pow_succ, Nat.mul_assoc, Nat.mul_comm 2 (2 ^ m), Nat.add_assoc]
theorem hor_room {acc m bit : Nat} (hb : bit ≤ 1) (hm : m + 1 ≤ 64) (h : acc < 2 ^ (64 - (m + 1))) : acc * 2 + bit < 2 ^ (64 - m) := by
  have e : 64 - m = (64 - (m + 1)) + 1 := by omega
  rw [e, Nat.pow_succ]; omega
theorem hor_top {acc m : Nat} (h : acc < 2 ^ (64 - m)) : acc < 2 ^ 64 := Nat.lt_of_lt_of_le h (Nat.pow_le_pow_right (by decide) (by omega))
theorem u64_hor {acc bit : Nat} (h : acc * 2 + bit < 2 ^ 64) : IntKind.u64.wrap (IntKind.u64.wrap ((acc : Int) * 2) + (bit : Int)) = ((acc * 2 + bit : Nat) : Int) := by
  rw [u64w, u64w]
  have : acc * 2 + bit < 18446744073709551616 := by simpa using h
  omega
/-- A bit, as the program's reference tells it. -/
theorem bit_div (a i : Nat) : a / 2 ^ i % 2 = (a.testBit i).toNat := by
  rw [Nat.testBit_eq_decide_div_mod_eq]
  rcases Nat.mod_two_eq_zero_or_one (a / 2 ^ i) with h | h <;> simp [h]
theorem bool_le (b : Bool) : b.toNat ≤ 1 := by cases b <;> simp
end Go.Proofs.Ytdlgalaemnjfjaa.Base
