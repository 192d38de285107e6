-- Written by a program of this session out of the translation. Not trusted: Lean checks it.
import Derived.Test.YtdlgalaemnjfjaaPFnExactPriorityx0
import Derived.Laws.CopyOwn
import Derived.Maps.OwnOps
import Derived.Maps.Views
namespace Go.Proofs.Ytdlgalaemnjfjaa.PFnExactPriority
open Go.RowKit Go.Proofs.YtdlgalaemnjfjaaW.PrintWords Go.Proofs.YtdlgalaemnjfjaaW.PrintLast Go.Proofs.YtdlgalaemnjfjaaW.PrintMore
attribute [local go_sem] max2_int min2_int max_two min_two max_three min_three max_four min_four   -- for this text's walks alone
set_option linter.unusedVariables false
set_option linter.unusedSimpArgs false

/-! ### impl_SchedOk: function 12 -/
/-- Where the first one of that number lies. -/
def impl_Sched_thread.idx (id : Int) : List S71 → Nat → Option Nat
  | [], _ => none
  | x :: xs, i => if x.f0 = id then some i else impl_Sched_thread.idx id xs (i + 1)
theorem impl_Sched_thread.idx_at {l : List S71} {i : Nat} {y : S71} (id : Int) (h : l[i]? = some y) : impl_Sched_thread.idx id (l.drop i) i = if y.f0 = id then some i else impl_Sched_thread.idx id (l.drop (i + 1)) (i + 1) := by
  obtain ⟨hi, rfl⟩ := List.getElem?_eq_some_iff.1 h
  rw [List.drop_eq_getElem_cons hi, impl_Sched_thread.idx]
theorem impl_Sched_thread.rd {l : List S71} {i : Nat} {y : S71} (h : l[i]? = some y) : rd_T71 l (i : Int) = y := by
  simp [rd_T71, List.getD_eq_getElem?_getD, h]
/-- The pointer to it, or nil. -/
def impl_Sched_thread.ptr (A : Option Addr) : Option Nat → Value
  | none => .pointer none
  | some j => .pointer (A.map (fun a => a.add (j * 8)))
set_option maxHeartbeats 4000000 in
set_option maxRecDepth 100000 in
theorem impl_Sched_thread.calls (g : Nat) (n_ q_ : Int) (V_ : Value) (A : Option Addr) (c : Nat) (l : List S71) (id : Int) (w : World) (hg : w.heap[g]? = some (.cells #[.int .i64 n_, .int .i64 q_, .slice A l.length c, V_] 31 (0, 0))) (hC : Kd.C k71 w A l.length l) (hcm : l.length ≤ 9223372036854775807) :
    Calls Try.prog 41 #[.pointer (some ⟨g, 0, none⟩), .int .i64 id] w fun e w' => e = .returned (impl_Sched_thread.ptr A (impl_Sched_thread.idx id l 0)) ∧ w' = w := by
  have hg0 : w.cell? ⟨g, 2, none⟩ = some (.slice A l.length c) := (blk_cell hg 2).trans rfl
  have hC := Aside0.mk hC
  have hcm := Aside0.mk hcm
  clear hg
  go_enter Try.func41, Try.ntmps41
  go_wp2
  go_loopg [5, 11] l.length (fun kq v5 v11 wr => ∃ i : Nat, v11 = .int .i64 (i : Int) ∧ Aside0 (i + kq = l.length) ∧ Aside0 (impl_Sched_thread.idx id l 0 = impl_Sched_thread.idx id (l.drop i) i) ∧ wr = w)
  case atStart => exact ⟨0, rfl, ⟨by omega⟩, ⟨by rw [List.drop_zero]⟩, rfl⟩
  case round =>
    obtain ⟨i, rfl, hk, HA, rfl⟩ := hrel
    have hlen := hcm.out
    by_cases hi : i < l.length
    · have d0 : decide ((i : Int) < (l.length : Int)) = true := decide_eq_true (by omega)
      obtain ⟨ad, rfl, h0, -⟩ := at_T71 hC.out (i : Int) (by omega) (by omega)
      obtain ⟨y, hy⟩ : ∃ y, l[i]? = some y := ⟨_, List.getElem?_eq_getElem hi⟩
      rw [Int.toNat_natCast, impl_Sched_thread.rd hy] at h0
      have HA := HA.out
      rw [impl_Sched_thread.idx_at id hy] at HA
      have b0 : (0 ≤ (i : Int)) = True := eq_true (by omega)
      have b1 : ((i : Int) < (l.length : Int)) = True := eq_true (by omega)
      have hw : IntKind.i64.wrap ((i : Int) + 1) = ((i + 1 : Nat) : Int) := by rw [IntKind.wrap_i64]; omega
      by_cases hx : y.f0 = id
      · rw [if_pos hx] at HA
        rw [hx] at h0
        have HA := Aside0.mk HA
        clear hk hi hy hcm
        go_wp2
        go_ret
        exact ⟨by rw [HA.out]; rfl, rfl⟩
      · rw [if_neg hx] at HA
        have HA := Aside0.mk HA
        have d1 : (y.f0 == id) = false := by simpa using hx
        have hk := Aside0.mk hk.out
        have hi := Aside0.mk hi
        clear hy hcm hx
        go_wp2
        go_roundg (l.length - (i + 1))
        case measure => have := hk.out; have := hi.out; omega
        case rel => exact ⟨i + 1, by first | rfl | (simp; done) | (simp [*]; done) | trace_state, ⟨by have := hi.out; omega⟩, HA, rfl⟩
    · have d0 : (i < l.length) = False := eq_false hi
      have d1 : decide (i < l.length) = false := decide_eq_false hi
      have HA := HA.out
      rw [List.drop_eq_nil_of_le (by omega), impl_Sched_thread.idx] at HA
      have HA := Aside0.mk HA
      clear hk hi hcm
      go_wp2
      go_ret
      exact ⟨by rw [HA.out]; rfl, rfl⟩
/-- Where the first one of that number lies. -/
def impl_Sched_lock.idx (id : Int) : List S68 → Nat → Option Nat
  | [], _ => none
  | x :: xs, i => if x.f0 = id then some i else impl_Sched_lock.idx id xs (i + 1)
theorem impl_Sched_lock.idx_at {l : List S68} {i : Nat} {y : S68} (id : Int) (h : l[i]? = some y) : impl_Sched_lock.idx id (l.drop i) i = if y.f0 = id then some i else impl_Sched_lock.idx id (l.drop (i + 1)) (i + 1) := by
  obtain ⟨hi, rfl⟩ := List.getElem?_eq_some_iff.1 h
  rw [List.drop_eq_getElem_cons hi, impl_Sched_lock.idx]
theorem impl_Sched_lock.rd {l : List S68} {i : Nat} {y : S68} (h : l[i]? = some y) : rd_T68 l (i : Int) = y := by
  simp [rd_T68, List.getD_eq_getElem?_getD, h]
/-- The pointer to it, or nil. -/
def impl_Sched_lock.ptr (A : Option Addr) : Option Nat → Value
  | none => .pointer none
  | some j => .pointer (A.map (fun a => a.add (j * 2)))
set_option maxHeartbeats 4000000 in
set_option maxRecDepth 100000 in
theorem impl_Sched_lock.calls (g : Nat) (n_ q_ : Int) (V_ : Value) (A : Option Addr) (c : Nat) (l : List S68) (id : Int) (w : World) (hg : w.heap[g]? = some (.cells #[.int .i64 n_, .int .i64 q_, V_, .slice A l.length c] 31 (0, 0))) (hC : Kd.C k68 w A l.length l) (hcm : l.length ≤ 9223372036854775807) :
    Calls Try.prog 40 #[.pointer (some ⟨g, 0, none⟩), .int .i64 id] w fun e w' => e = .returned (impl_Sched_lock.ptr A (impl_Sched_lock.idx id l 0)) ∧ w' = w := by
  have hg0 : w.cell? ⟨g, 3, none⟩ = some (.slice A l.length c) := (blk_cell hg 3).trans rfl
  have hC := Aside0.mk hC
  have hcm := Aside0.mk hcm
  clear hg
  go_enter Try.func40, Try.ntmps40
  go_wp2
  go_loopg [5, 11] l.length (fun kq v5 v11 wr => ∃ i : Nat, v11 = .int .i64 (i : Int) ∧ Aside0 (i + kq = l.length) ∧ Aside0 (impl_Sched_lock.idx id l 0 = impl_Sched_lock.idx id (l.drop i) i) ∧ wr = w)
  case atStart => exact ⟨0, rfl, ⟨by omega⟩, ⟨by rw [List.drop_zero]⟩, rfl⟩
  case round =>
    obtain ⟨i, rfl, hk, HA, rfl⟩ := hrel
    have hlen := hcm.out
    by_cases hi : i < l.length
    · have d0 : decide ((i : Int) < (l.length : Int)) = true := decide_eq_true (by omega)
      obtain ⟨ad, rfl, h0, -⟩ := at_T68 hC.out (i : Int) (by omega) (by omega)
      obtain ⟨y, hy⟩ : ∃ y, l[i]? = some y := ⟨_, List.getElem?_eq_getElem hi⟩
      rw [Int.toNat_natCast, impl_Sched_lock.rd hy] at h0
      have HA := HA.out
      rw [impl_Sched_lock.idx_at id hy] at HA
      have b0 : (0 ≤ (i : Int)) = True := eq_true (by omega)
      have b1 : ((i : Int) < (l.length : Int)) = True := eq_true (by omega)
      have hw : IntKind.i64.wrap ((i : Int) + 1) = ((i + 1 : Nat) : Int) := by rw [IntKind.wrap_i64]; omega
      by_cases hx : y.f0 = id
      · rw [if_pos hx] at HA
        rw [hx] at h0
        have HA := Aside0.mk HA
        clear hk hi hy hcm
        go_wp2
        go_ret
        exact ⟨by rw [HA.out]; rfl, rfl⟩
      · rw [if_neg hx] at HA
        have HA := Aside0.mk HA
        have d1 : (y.f0 == id) = false := by simpa using hx
        have hk := Aside0.mk hk.out
        have hi := Aside0.mk hi
        clear hy hcm hx
        go_wp2
        go_roundg (l.length - (i + 1))
        case measure => have := hk.out; have := hi.out; omega
        case rel => exact ⟨i + 1, by first | rfl | (simp; done) | (simp [*]; done) | trace_state, ⟨by have := hi.out; omega⟩, HA, rfl⟩
    · have d0 : (i < l.length) = False := eq_false hi
      have d1 : decide (i < l.length) = false := decide_eq_false hi
      have HA := HA.out
      rw [List.drop_eq_nil_of_le (by omega), impl_Sched_lock.idx] at HA
      have HA := Aside0.mk HA
      clear hk hi hcm
      go_wp2
      go_ret
      exact ⟨by rw [HA.out]; rfl, rfl⟩
theorem impl_Sched_thread.idx_lt (id : Int) : ∀ (xs : List S71) (i j : Nat), impl_Sched_thread.idx id xs i = some j → i ≤ j ∧ j < i + xs.length
  | [], _, _, h => by cases h
  | x :: xs, i, j, h => by
    rw [impl_Sched_thread.idx] at h
    split at h
    · obtain rfl := Option.some.inj h
      simp
    · have := impl_Sched_thread.idx_lt id xs (i + 1) j h
      simp only [List.length_cons]
      omega
theorem impl_Sched_lock.idx_lt (id : Int) : ∀ (xs : List S68) (i j : Nat), impl_Sched_lock.idx id xs i = some j → i ≤ j ∧ j < i + xs.length
  | [], _, _, h => by cases h
  | x :: xs, i, j, h => by
    rw [impl_Sched_lock.idx] at h
    split at h
    · obtain rfl := Option.some.inj h
      simp
    · have := impl_Sched_lock.idx_lt id xs (i + 1) j h
      simp only [List.length_cons]
      omega
/-- A map from whole numbers to bools, of the call's own, that holds these. -/
def usedMap (w : World) (b n : Nat) (S : List Int) : Prop := ∃ D : DataW Unit, w.ownsMap Try.prog 2 (plainElem Try.prog 4) b n D ∧ Maps.IsMap D ∧ ∀ x : Int, D.atKey (.int .i64 x) (.lit (.bool false)) = .lit (.bool (decide (x ∈ S)))
theorem usedMap.made (w : World) : usedMap (w.alloc (.map #[] 0)) w.heap.size 0 [] := ⟨.map [], World.ownsMap_made _ _ _ _, Maps.isMap_empty, fun x => by simp [DataW.atKey]⟩
theorem usedMap.kept {w w' : World} {b n : Nat} {S : List Int} {row : Option Nat} (h : usedMap w b n S) (hg : w.grownBy w' row) (hne : some b ≠ row) : usedMap w' b n S := by
  obtain ⟨D, h1, h2, h3⟩ := h
  exact ⟨D, h1.kept hg hne, h2, h3⟩
theorem usedMap.lt {w : World} {b n : Nat} {S : List Int} (h : usedMap w b n S) : b < w.heap.size := by
  obtain ⟨D, h1, _⟩ := h
  exact h1.lt
theorem plainElem_bool_inv {H : Type} {P : Program} {e : TypeId} (he : P.underlying e = some .bool) {v : Value} {z : DataW H × List MemPlace} (h : plainElem P e v = some z) : ∃ x, v = .bool x ∧ z = (.lit (.bool x), []) := by
  unfold plainElem at h
  rw [he] at h
  cases v <;> simp at h
  subst h
  exact ⟨_, rfl, rfl⟩
theorem usedMap.lookup {w : World} {b n : Nat} {S : List Int} (h : usedMap w b n S) {x : Int} (hx : (Lit.int .i64 x).wf = true) : (Instr.lookup 76 (.map (some b)) (.int .i64 x) false).run Try.prog w = .ok (.bool (decide (x ∈ S))) w := by
  obtain ⟨D, h1, _, h3⟩ := h
  obtain ⟨v, ps, hrun, hv⟩ := h1.lookup (Maps.int_keyed Try.underlying2) Try.underlying76 (z := .bool false) (by kernel_rfl) (plainElem_bool Try.underlying4 false) (Maps.keyOf_int_mk Try.underlying2 hx)
  obtain ⟨y, rfl, hy⟩ := plainElem_bool_inv Try.underlying4 hv
  rw [h3 x] at hy
  simp only [Prod.mk.injEq, DataW.lit.injEq, Lit.bool.injEq] at hy
  rw [hrun, hy.1]
theorem wpList_used {w : World} {ops : Array Oper} {rest : List Oper} {o : Oper} {a : Act} {Q : Exit → Act → World → Prop} (hg : Region.wanted o (yielded ops a.tmps) = true) (m x : Operand) (hop : o.op = Op.lookup 76 m x false) {b n : Nat} {S : List Int} {y : Int} (hm : a.eval m = .map (some b)) (hx : a.eval x = .int .i64 y) (h : usedMap w b n S) (hw : (Lit.int .i64 y).wf = true)
    (hK : wpList Try.prog ops Q rest (a.put o.dst (.bool (decide (y ∈ S)))) w) : wpList Try.prog ops Q (o :: rest) a w := by
  refine wpList_step fun K' hK' => ?_
  rw [if_pos hg]
  unfold Oper.wp
  simp [execOp, hop, hm, hx, h.lookup hw, Result.andThen]
  exact hK' _ _ hK
theorem wpList_use {w : World} {ops : Array Oper} {rest : List Oper} {o : Oper} {a : Act} {Q : Exit → Act → World → Prop} (hg : o.guard = none) (m x v : Operand) (hop : o.op = Op.mapUpdate 76 m x v) {b n : Nat} {S : List Int} {y : Int} (hm : a.eval m = .map (some b)) (hx : a.eval x = .int .i64 y) (hv : a.eval v = .bool true) (h : usedMap w b n S) (hn : n < maxLen) (hw : (Lit.int .i64 y).wf = true)
    (hK : ∀ w', usedMap w' b (n + 1) (y :: S) → w.grownBy w' (some b) → wpList Try.prog ops Q rest (a.put o.dst undef) w') : wpList Try.prog ops Q (o :: rest) a w := by
  obtain ⟨D, h1, h2, h3⟩ := h
  refine wpList_mapUpdate_own w hg m x v 76 hop 2 4 (Maps.int_keyed Try.underlying2) Try.underlying76 _ b n D hm h1 hn _ _ _ hx hv (Maps.keyOf_int_mk Try.underlying2 hw) _ [] (plainElem_bool Try.underlying4 true) (fun w' h4 h5 => hK w' ⟨_, h4, h2.put _ _, fun z => ?_⟩ h5)
  · by_cases hz : z = y
    · subst hz
      rw [Maps.atKey_put_same h2 (show WideAt.IsKeyLit (.int .i64 z) from trivial)]
      simp
    · rw [Maps.atKey_put_other (by intro he; injection he with _ he; exact hz he), h3 z]
      simp [hz]
/-- Does a thread wait, by so many locks at the most, for that one? -/
def impl_Sched_schedWaits.go (Ts : List S71) (Ls : List S68) (tg : Int) : Nat → Int → Bool
  | 0, _ => false
  | m + 1, fr => match impl_Sched_thread.idx fr Ts 0 with
    | none => false
    | some i => if (rd_T71 Ts (i : Int)).f2 ≠ 2 then false else
      match impl_Sched_lock.idx (rd_T71 Ts (i : Int)).f7 Ls 0 with
      | none => false
      | some j => if (rd_T68 Ls (j : Int)).f1 = tg then true else impl_Sched_schedWaits.go Ts Ls tg m (rd_T68 Ls (j : Int)).f1
set_option maxHeartbeats 4000000 in
set_option maxRecDepth 100000 in
theorem impl_Sched_schedWaits.calls (g : Nat) (n_ q_ : Int) (A : Option Addr) (c : Nat) (Ts : List S71) (A2 : Option Addr) (c2 : Nat) (Ls : List S68) (fr tg : Int) (w : World) (hg : w.heap[g]? = some (.cells #[.int .i64 n_, .int .i64 q_, .slice A Ts.length c, .slice A2 Ls.length c2] 31 (0, 0))) (hC : Kd.C k71 w A Ts.length Ts) (hC2 : Kd.C k68 w A2 Ls.length Ls) (hcm : Ts.length ≤ 9223372036854775807) (hcm2 : Ls.length ≤ 9223372036854775807) :
    Calls Try.prog 42 #[.pointer (some ⟨g, 0, none⟩), .int .i64 fr, .int .i64 tg] w fun e w' => e = .returned (.bool (impl_Sched_schedWaits.go Ts Ls tg 34 fr)) ∧ w' = w := by
  have BP := Aside0.mk hg
  have hC := Aside0.mk hC
  have hC2 := Aside0.mk hC2
  have hcm := Aside0.mk hcm
  have hcm2 := Aside0.mk hcm2
  clear hg
  go_enter Try.func42, Try.ntmps42
  go_wp2
  go_loopg [1, 9] 34 (fun kq v1 v9 wr => ∃ (f : Int) (n : Nat), v1 = .int .i64 f ∧ v9 = .int .i64 (n : Int) ∧ Aside0 (n + kq = 34) ∧ Aside0 (impl_Sched_schedWaits.go Ts Ls tg 34 fr = impl_Sched_schedWaits.go Ts Ls tg (34 - n) f) ∧ wr = w)
  case atStart => exact ⟨fr, 0, rfl, rfl, ⟨by omega⟩, ⟨rfl⟩, rfl⟩
  case round =>
    obtain ⟨f, n, rfl, rfl, hk, HA, rfl⟩ := hrel
    by_cases hn : n < 34
    · have b0 : decide ((n : Int) < 34) = true := decide_eq_true (by omega)
      have hwn : IntKind.i64.wrap ((n : Int) + 1) = ((n + 1 : Nat) : Int) := by rw [IntKind.wrap_i64]; omega
      obtain ⟨m, hm⟩ : ∃ m, Aside0 (34 - n = m + 1) := ⟨33 - n, ⟨by omega⟩⟩
      have hn_ := Aside0.mk hn
      clear hn
      obtain ⟨oi, hi⟩ : ∃ oi, Aside0 (impl_Sched_thread.idx f Ts 0 = oi) := ⟨_, ⟨rfl⟩⟩
      cases oi with
      | none =>
        have HA2 : Aside0 (impl_Sched_schedWaits.go Ts Ls tg 34 fr = false) := ⟨by rw [HA.out, hm.out, impl_Sched_schedWaits.go, hi.out]⟩
        clear HA
        go_wp2_with (first | (go_at_call 41; refine (impl_Sched_thread.calls g n_ q_ _ _ c Ts f _ BP.out hC.out hcm.out).mono ?_; rintro e w6 ⟨rfl, rfl⟩; rw [hi.out]; simp only [impl_Sched_thread.ptr, Option.map_some]))
        go_ret
        exact ⟨by rw [HA2.out]; rfl, rfl⟩
      | some i =>
        have hil := impl_Sched_thread.idx_lt _ _ _ _ hi.out
        obtain ⟨ad, rfl, -, -, r2, -, -, -, -, r7⟩ := at_T71 hC.out (i : Int) (by omega) (by omega)
        obtain ⟨y, hy⟩ : ∃ y, Aside0 (rd_T71 Ts (i : Int) = y) := ⟨_, ⟨rfl⟩⟩
        simp only [Int.toNat_natCast, hy.out] at r2 r7
        clear hil
        by_cases e2 : y.f2 = 2
        · have f2 : (y.f2 != 2) = false := by simp [e2]
          have E2 := Aside0.mk e2
          clear e2
          obtain ⟨oj, hj⟩ : ∃ oj, Aside0 (impl_Sched_lock.idx y.f7 Ls 0 = oj) := ⟨_, ⟨rfl⟩⟩
          cases oj with
          | none =>
            have HA2 : Aside0 (impl_Sched_schedWaits.go Ts Ls tg 34 fr = false) := ⟨by rw [HA.out, hm.out, impl_Sched_schedWaits.go, hi.out]; simp only [hy.out]; rw [if_neg (fun h_ => h_ E2.out), hj.out]⟩
            clear HA
            go_wp2_with (first | (go_at_call 41; refine (impl_Sched_thread.calls g n_ q_ _ _ c Ts f _ BP.out hC.out hcm.out).mono ?_; rintro e w6 ⟨rfl, rfl⟩; rw [hi.out]; simp only [impl_Sched_thread.ptr, Option.map_some]) | (go_at_call 40; refine (impl_Sched_lock.calls g n_ q_ _ _ c2 Ls y.f7 _ BP.out hC2.out hcm2.out).mono ?_; rintro e w6 ⟨rfl, rfl⟩; rw [hj.out]; simp only [impl_Sched_lock.ptr, Option.map_some]))
            go_ret
            exact ⟨by rw [HA2.out]; rfl, rfl⟩
          | some j =>
            have hjl := impl_Sched_lock.idx_lt _ _ _ _ hj.out
            obtain ⟨ad2, rfl, -, q1⟩ := at_T68 hC2.out (j : Int) (by omega) (by omega)
            obtain ⟨z, hz⟩ : ∃ z, Aside0 (rd_T68 Ls (j : Int) = z) := ⟨_, ⟨rfl⟩⟩
            simp only [Int.toNat_natCast, hz.out] at q1
            clear hjl
            by_cases e1 : z.f1 = tg
            · have f1 : (z.f1 == tg) = true := by simp [e1]
              have HA2 : Aside0 (impl_Sched_schedWaits.go Ts Ls tg 34 fr = true) := ⟨by rw [HA.out, hm.out, impl_Sched_schedWaits.go, hi.out]; simp only [hy.out]; rw [if_neg (fun h_ => h_ E2.out), hj.out]; simp only [hz.out]; rw [if_pos e1]⟩
              clear HA e1
              go_wp2_with (first | (go_at_call 41; refine (impl_Sched_thread.calls g n_ q_ _ _ c Ts f _ BP.out hC.out hcm.out).mono ?_; rintro e w6 ⟨rfl, rfl⟩; rw [hi.out]; simp only [impl_Sched_thread.ptr, Option.map_some]) | (go_at_call 40; refine (impl_Sched_lock.calls g n_ q_ _ _ c2 Ls y.f7 _ BP.out hC2.out hcm2.out).mono ?_; rintro e w6 ⟨rfl, rfl⟩; rw [hj.out]; simp only [impl_Sched_lock.ptr, Option.map_some]))
              go_ret
              exact ⟨by rw [HA2.out]; rfl, rfl⟩
            · have f1 : (z.f1 == tg) = false := by simp [e1]
              have HA2 : Aside0 (impl_Sched_schedWaits.go Ts Ls tg 34 fr = impl_Sched_schedWaits.go Ts Ls tg (34 - (n + 1)) z.f1) := ⟨by rw [HA.out, hm.out, impl_Sched_schedWaits.go, hi.out]; simp only [hy.out]; rw [if_neg (fun h_ => h_ E2.out), hj.out]; simp only [hz.out]; rw [if_neg e1, show 34 - (n + 1) = m by have := hm.out; omega]⟩
              clear HA e1
              go_wp2_with (first | (go_at_call 41; refine (impl_Sched_thread.calls g n_ q_ _ _ c Ts f _ BP.out hC.out hcm.out).mono ?_; rintro e w6 ⟨rfl, rfl⟩; rw [hi.out]; simp only [impl_Sched_thread.ptr, Option.map_some]) | (go_at_call 40; refine (impl_Sched_lock.calls g n_ q_ _ _ c2 Ls y.f7 _ BP.out hC2.out hcm2.out).mono ?_; rintro e w6 ⟨rfl, rfl⟩; rw [hj.out]; simp only [impl_Sched_lock.ptr, Option.map_some]))
              go_roundg (33 - n)
              case measure => have := hk.out; have := hn_.out; omega
              case rel => exact ⟨z.f1, n + 1, by first | rfl | (simp; done) | (simp [*]; done), by first | rfl | (simp; done) | (simp [*]; done), ⟨by have := hn_.out; omega⟩, HA2, rfl⟩
        · have f2 : (y.f2 != 2) = true := by simp [e2]
          have HA2 : Aside0 (impl_Sched_schedWaits.go Ts Ls tg 34 fr = false) := ⟨by rw [HA.out, hm.out, impl_Sched_schedWaits.go, hi.out]; simp only [hy.out]; rw [if_pos e2]⟩
          clear HA e2
          go_wp2_with (first | (go_at_call 41; refine (impl_Sched_thread.calls g n_ q_ _ _ c Ts f _ BP.out hC.out hcm.out).mono ?_; rintro e w6 ⟨rfl, rfl⟩; rw [hi.out]; simp only [impl_Sched_thread.ptr, Option.map_some]))
          go_ret
          exact ⟨by rw [HA2.out]; rfl, rfl⟩
    · have b0 : decide ((n : Int) < 34) = false := decide_eq_false (by omega)
      have HA2 : Aside0 (impl_Sched_schedWaits.go Ts Ls tg 34 fr = false) := ⟨by rw [HA.out, show 34 - n = 0 by omega, impl_Sched_schedWaits.go]⟩
      clear HA hk hn
      go_wp2
      go_ret
      exact ⟨by rw [HA2.out]; rfl, rfl⟩
/-- The program's test of one thread, by what came last and by the lines that are used. -/
def impl_SchedOk.one (n_ q_ : Int) (Ls : List S68) (S : List Int) (last : Int) (x : S71) : Bool :=
  if x.f0 ≤ last then false else
  if 32 ≤ x.f0 then false else
  if x.f1 < 0 then false else
  if 7 < x.f1 then false else
  if x.f3 < 1 then false else
  if q_ < x.f3 then false else
  if x.f3 ∈ S then false else
  if x.f4 < 1 then false else
  if 4 < x.f4 then false else
  if x.f5 < 0 then false else
  if n_ < x.f5 then false else
  if x.f2 = 1 then (if x.f7 ≠ -1 then false else if x.f6 ≠ 0 then false else true) else
  if x.f2 = 2 then (if x.f6 ≠ 0 then false else if impl_Sched_lock.idx x.f7 Ls 0 = none then false else true) else
  if x.f2 = 3 then (if x.f7 ≠ -1 then false else if x.f6 ≤ 0 then false else true) else false
def impl_SchedOk.ok1 (n_ q_ : Int) (Ls : List S68) : List Int → Int → List S71 → Bool
  | _, _, [] => true
  | S, last, x :: xs => impl_SchedOk.one n_ q_ Ls S last x && impl_SchedOk.ok1 n_ q_ Ls (x.f3 :: S) x.f0 xs
def impl_SchedOk.two (Ts : List S71) (last : Int) (y : S68) : Bool :=
  if y.f0 ≤ last then false else if 16 ≤ y.f0 then false else if impl_Sched_thread.idx y.f1 Ts 0 = none then false else true
def impl_SchedOk.ok2 (Ts : List S71) : Int → List S68 → Bool
  | _, [] => true
  | last, y :: ys => impl_SchedOk.two Ts last y && impl_SchedOk.ok2 Ts y.f0 ys
def impl_SchedOk.ok3 (Ts : List S71) (Ls : List S68) (xs : List S71) : Bool := xs.all fun x => !(impl_Sched_schedWaits.go Ts Ls x.f0 34 x.f0)
def impl_SchedOk.ok (n_ q_ : Int) (Ts : List S71) (Ls : List S68) : Bool :=
  decide (0 ≤ n_) && decide (n_ ≤ 1099511627776) && decide (0 ≤ q_) && decide (q_ ≤ 1099511627776) && decide (Ts.length ≤ 32) && decide (Ls.length ≤ 16) && impl_SchedOk.ok1 n_ q_ Ls [] (-1) Ts && impl_SchedOk.ok2 Ts (-1) Ls && impl_SchedOk.ok3 Ts Ls Ts
def impl_SchedOk.f (n_ q_ : Int) (Ts : List S71) (Ls : List S68) : Option Bool := some (impl_SchedOk.ok n_ q_ Ts Ls)
theorem impl_SchedOk.ok1_at {n_ q_ : Int} {Ls : List S68} {l : List S71} {i : Nat} {x : S71} (S : List Int) (last : Int) (h : l[i]? = some x) : impl_SchedOk.ok1 n_ q_ Ls S last (l.drop i) = (impl_SchedOk.one n_ q_ Ls S last x && impl_SchedOk.ok1 n_ q_ Ls (x.f3 :: S) x.f0 (l.drop (i + 1))) := by
  obtain ⟨hi, rfl⟩ := List.getElem?_eq_some_iff.1 h
  rw [List.drop_eq_getElem_cons hi, impl_SchedOk.ok1]
theorem impl_SchedOk.ok2_at {Ts : List S71} {l : List S68} {i : Nat} {y : S68} (last : Int) (h : l[i]? = some y) : impl_SchedOk.ok2 Ts last (l.drop i) = (impl_SchedOk.two Ts last y && impl_SchedOk.ok2 Ts y.f0 (l.drop (i + 1))) := by
  obtain ⟨hi, rfl⟩ := List.getElem?_eq_some_iff.1 h
  rw [List.drop_eq_getElem_cons hi, impl_SchedOk.ok2]
theorem impl_SchedOk.ok3_at {Ts : List S71} {Ls : List S68} {l : List S71} {i : Nat} {x : S71} (h : l[i]? = some x) : impl_SchedOk.ok3 Ts Ls (l.drop i) = (!(impl_Sched_schedWaits.go Ts Ls x.f0 34 x.f0) && impl_SchedOk.ok3 Ts Ls (l.drop (i + 1))) := by
  obtain ⟨hi, rfl⟩ := List.getElem?_eq_some_iff.1 h
  rw [List.drop_eq_getElem_cons hi, impl_SchedOk.ok3, List.all_cons]
  rfl
theorem usedMap.of_heap {w w' : World} {b n : Nat} {S : List Int} (h : usedMap w b n S) (e : w'.heap[b]? = w.heap[b]?) : usedMap w' b n S := by
  obtain ⟨D, ⟨es, clock, h1, h2⟩, h3⟩ := h
  exact ⟨D, ⟨es, clock, e.trans h1, h2⟩, h3⟩
set_option maxHeartbeats 16000000 in
set_option maxRecDepth 100000 in
theorem impl_SchedOk.calls (n_ q_ : Int) (A : Option Addr) (c : Nat) (Ts : List S71) (A2 : Option Addr) (c2 : Nat) (Ls : List S68) (r : Bool) (w : World) (hC0 : Kd.C k71 w A Ts.length Ts) (hc0 : Ts.length ≤ c) (hC20 : Kd.C k68 w A2 Ls.length Ls) (hc20 : Ls.length ≤ c2) (h : impl_SchedOk.f n_ q_ Ts Ls = some r) :
    Calls Try.prog 12 #[.agg #[.int .i64 n_, .int .i64 q_, .slice A Ts.length c, .slice A2 Ls.length c2]] w fun e w' => e = .returned (.bool r) ∧ Below w.heap.size w w' := by
  obtain rfl := Option.some.inj h
  clear h
  have hC := Aside0.mk hC0
  have hC2 := Aside0.mk hC20
  clear hC0 hc0 hC20 hc20
  by_cases c0 : n_ < 0
  · have HA : Aside0 (impl_SchedOk.ok n_ q_ Ts Ls = false) := ⟨by unfold impl_SchedOk.ok; rw [decide_eq_false (show ¬ 0 ≤ n_ by omega)]; simp⟩
    have d0 : decide (n_ < 0) = true := decide_eq_true (by omega)
    clear c0
    go_enter Try.func12, Try.ntmps12
    go_wp2_with (first | ((with_reducible refine gate_dst (N := 1) rfl ?_); refine box_event ?hg (N := 1) ?hd (cs := #[.int .i64 n_, .int .i64 q_, .slice A Ts.length c, .slice A2 Ls.length c2]) (t := 31) ?hr ?_; (case hd => rfl); (case hg => rfl); (case hr => first | (go_simp; done) | (go_simp; rfl)); intro gp hgq w3 hbq hB_; have GP := Aside0.mk (show w.heap.size ≤ gp from Nat.le_of_eq hgq.symm); have BP := Aside0.mk hbq; have HB := Aside0.mk hB_; clear hbq hgq hB_; have hp0 : w3.cell? ⟨gp, 0, none⟩ = some (.int .i64 n_) := (blk_cell BP.out 0).trans rfl; have hp1 : w3.cell? ⟨gp, 1, none⟩ = some (.int .i64 q_) := (blk_cell BP.out 1).trans rfl; have hp2 : w3.cell? ⟨gp, 2, none⟩ = some (.slice A Ts.length c) := (blk_cell BP.out 2).trans rfl; have hp3 : w3.cell? ⟨gp, 3, none⟩ = some (.slice A2 Ls.length c2) := (blk_cell BP.out 3).trans rfl))
    go_ret
    exact ⟨by rw [HA.out]; rfl, HB.out⟩
  have d0 : decide (n_ < 0) = false := decide_eq_false (by omega)
  have C0 := Aside0.mk c0
  clear c0
  by_cases c1 : 1099511627776 < n_
  · have HA : Aside0 (impl_SchedOk.ok n_ q_ Ts Ls = false) := ⟨by unfold impl_SchedOk.ok; rw [decide_eq_false (show ¬ n_ ≤ 1099511627776 by omega)]; simp⟩
    have d1 : decide (1099511627776 < n_) = true := decide_eq_true (by omega)
    clear c1
    go_enter Try.func12, Try.ntmps12
    go_wp2_with (first | ((with_reducible refine gate_dst (N := 1) rfl ?_); refine box_event ?hg (N := 1) ?hd (cs := #[.int .i64 n_, .int .i64 q_, .slice A Ts.length c, .slice A2 Ls.length c2]) (t := 31) ?hr ?_; (case hd => rfl); (case hg => rfl); (case hr => first | (go_simp; done) | (go_simp; rfl)); intro gp hgq w3 hbq hB_; have GP := Aside0.mk (show w.heap.size ≤ gp from Nat.le_of_eq hgq.symm); have BP := Aside0.mk hbq; have HB := Aside0.mk hB_; clear hbq hgq hB_; have hp0 : w3.cell? ⟨gp, 0, none⟩ = some (.int .i64 n_) := (blk_cell BP.out 0).trans rfl; have hp1 : w3.cell? ⟨gp, 1, none⟩ = some (.int .i64 q_) := (blk_cell BP.out 1).trans rfl; have hp2 : w3.cell? ⟨gp, 2, none⟩ = some (.slice A Ts.length c) := (blk_cell BP.out 2).trans rfl; have hp3 : w3.cell? ⟨gp, 3, none⟩ = some (.slice A2 Ls.length c2) := (blk_cell BP.out 3).trans rfl))
    go_ret
    exact ⟨by rw [HA.out]; rfl, HB.out⟩
  have d1 : decide (1099511627776 < n_) = false := decide_eq_false (by omega)
  have C1 := Aside0.mk c1
  clear c1
  by_cases c2 : q_ < 0
  · have HA : Aside0 (impl_SchedOk.ok n_ q_ Ts Ls = false) := ⟨by unfold impl_SchedOk.ok; rw [decide_eq_false (show ¬ 0 ≤ q_ by omega)]; simp⟩
    have d2 : decide (q_ < 0) = true := decide_eq_true (by omega)
    clear c2
    go_enter Try.func12, Try.ntmps12
    go_wp2_with (first | ((with_reducible refine gate_dst (N := 1) rfl ?_); refine box_event ?hg (N := 1) ?hd (cs := #[.int .i64 n_, .int .i64 q_, .slice A Ts.length c, .slice A2 Ls.length c2]) (t := 31) ?hr ?_; (case hd => rfl); (case hg => rfl); (case hr => first | (go_simp; done) | (go_simp; rfl)); intro gp hgq w3 hbq hB_; have GP := Aside0.mk (show w.heap.size ≤ gp from Nat.le_of_eq hgq.symm); have BP := Aside0.mk hbq; have HB := Aside0.mk hB_; clear hbq hgq hB_; have hp0 : w3.cell? ⟨gp, 0, none⟩ = some (.int .i64 n_) := (blk_cell BP.out 0).trans rfl; have hp1 : w3.cell? ⟨gp, 1, none⟩ = some (.int .i64 q_) := (blk_cell BP.out 1).trans rfl; have hp2 : w3.cell? ⟨gp, 2, none⟩ = some (.slice A Ts.length c) := (blk_cell BP.out 2).trans rfl; have hp3 : w3.cell? ⟨gp, 3, none⟩ = some (.slice A2 Ls.length c2) := (blk_cell BP.out 3).trans rfl))
    go_ret
    exact ⟨by rw [HA.out]; rfl, HB.out⟩
  have d2 : decide (q_ < 0) = false := decide_eq_false (by omega)
  have C2 := Aside0.mk c2
  clear c2
  by_cases c3 : 1099511627776 < q_
  · have HA : Aside0 (impl_SchedOk.ok n_ q_ Ts Ls = false) := ⟨by unfold impl_SchedOk.ok; rw [decide_eq_false (show ¬ q_ ≤ 1099511627776 by omega)]; simp⟩
    have d3 : decide (1099511627776 < q_) = true := decide_eq_true (by omega)
    clear c3
    go_enter Try.func12, Try.ntmps12
    go_wp2_with (first | ((with_reducible refine gate_dst (N := 1) rfl ?_); refine box_event ?hg (N := 1) ?hd (cs := #[.int .i64 n_, .int .i64 q_, .slice A Ts.length c, .slice A2 Ls.length c2]) (t := 31) ?hr ?_; (case hd => rfl); (case hg => rfl); (case hr => first | (go_simp; done) | (go_simp; rfl)); intro gp hgq w3 hbq hB_; have GP := Aside0.mk (show w.heap.size ≤ gp from Nat.le_of_eq hgq.symm); have BP := Aside0.mk hbq; have HB := Aside0.mk hB_; clear hbq hgq hB_; have hp0 : w3.cell? ⟨gp, 0, none⟩ = some (.int .i64 n_) := (blk_cell BP.out 0).trans rfl; have hp1 : w3.cell? ⟨gp, 1, none⟩ = some (.int .i64 q_) := (blk_cell BP.out 1).trans rfl; have hp2 : w3.cell? ⟨gp, 2, none⟩ = some (.slice A Ts.length c) := (blk_cell BP.out 2).trans rfl; have hp3 : w3.cell? ⟨gp, 3, none⟩ = some (.slice A2 Ls.length c2) := (blk_cell BP.out 3).trans rfl))
    go_ret
    exact ⟨by rw [HA.out]; rfl, HB.out⟩
  have d3 : decide (1099511627776 < q_) = false := decide_eq_false (by omega)
  have C3 := Aside0.mk c3
  clear c3
  by_cases c4 : 32 < Ts.length
  · have HA : Aside0 (impl_SchedOk.ok n_ q_ Ts Ls = false) := ⟨by unfold impl_SchedOk.ok; rw [decide_eq_false (show ¬ Ts.length ≤ 32 by omega)]; simp⟩
    have d4 : decide (32 < (Ts.length : Int)) = true := decide_eq_true (by omega)
    clear c4
    go_enter Try.func12, Try.ntmps12
    go_wp2_with (first | ((with_reducible refine gate_dst (N := 1) rfl ?_); refine box_event ?hg (N := 1) ?hd (cs := #[.int .i64 n_, .int .i64 q_, .slice A Ts.length c, .slice A2 Ls.length c2]) (t := 31) ?hr ?_; (case hd => rfl); (case hg => rfl); (case hr => first | (go_simp; done) | (go_simp; rfl)); intro gp hgq w3 hbq hB_; have GP := Aside0.mk (show w.heap.size ≤ gp from Nat.le_of_eq hgq.symm); have BP := Aside0.mk hbq; have HB := Aside0.mk hB_; clear hbq hgq hB_; have hp0 : w3.cell? ⟨gp, 0, none⟩ = some (.int .i64 n_) := (blk_cell BP.out 0).trans rfl; have hp1 : w3.cell? ⟨gp, 1, none⟩ = some (.int .i64 q_) := (blk_cell BP.out 1).trans rfl; have hp2 : w3.cell? ⟨gp, 2, none⟩ = some (.slice A Ts.length c) := (blk_cell BP.out 2).trans rfl; have hp3 : w3.cell? ⟨gp, 3, none⟩ = some (.slice A2 Ls.length c2) := (blk_cell BP.out 3).trans rfl))
    go_ret
    exact ⟨by rw [HA.out]; rfl, HB.out⟩
  have d4 : decide (32 < (Ts.length : Int)) = false := decide_eq_false (by omega)
  have C4 := Aside0.mk c4
  clear c4
  by_cases c5 : 16 < Ls.length
  · have HA : Aside0 (impl_SchedOk.ok n_ q_ Ts Ls = false) := ⟨by unfold impl_SchedOk.ok; rw [decide_eq_false (show ¬ Ls.length ≤ 16 by omega)]; simp⟩
    have d5 : decide (16 < (Ls.length : Int)) = true := decide_eq_true (by omega)
    clear c5
    go_enter Try.func12, Try.ntmps12
    go_wp2_with (first | ((with_reducible refine gate_dst (N := 1) rfl ?_); refine box_event ?hg (N := 1) ?hd (cs := #[.int .i64 n_, .int .i64 q_, .slice A Ts.length c, .slice A2 Ls.length c2]) (t := 31) ?hr ?_; (case hd => rfl); (case hg => rfl); (case hr => first | (go_simp; done) | (go_simp; rfl)); intro gp hgq w3 hbq hB_; have GP := Aside0.mk (show w.heap.size ≤ gp from Nat.le_of_eq hgq.symm); have BP := Aside0.mk hbq; have HB := Aside0.mk hB_; clear hbq hgq hB_; have hp0 : w3.cell? ⟨gp, 0, none⟩ = some (.int .i64 n_) := (blk_cell BP.out 0).trans rfl; have hp1 : w3.cell? ⟨gp, 1, none⟩ = some (.int .i64 q_) := (blk_cell BP.out 1).trans rfl; have hp2 : w3.cell? ⟨gp, 2, none⟩ = some (.slice A Ts.length c) := (blk_cell BP.out 2).trans rfl; have hp3 : w3.cell? ⟨gp, 3, none⟩ = some (.slice A2 Ls.length c2) := (blk_cell BP.out 3).trans rfl))
    go_ret
    exact ⟨by rw [HA.out]; rfl, HB.out⟩
  have d5 : decide (16 < (Ls.length : Int)) = false := decide_eq_false (by omega)
  have C5 := Aside0.mk c5
  clear c5
  have HQ : Aside0 (q_ ≤ 1099511627776) := ⟨by have := C3.out; omega⟩
  have hl : Aside0 (Ts.length ≤ 32) := ⟨by have := C4.out; omega⟩
  have hl2 : Aside0 (Ls.length ≤ 16) := ⟨by have := C5.out; omega⟩
  have hlm1 : Aside0 (Ts.length ≤ 9223372036854775807) := ⟨by have := C4.out; omega⟩
  have hlm2 : Aside0 (Ls.length ≤ 9223372036854775807) := ⟨by have := C5.out; omega⟩
  have HA0 : Aside0 (impl_SchedOk.ok n_ q_ Ts Ls = (impl_SchedOk.ok1 n_ q_ Ls [] (-1) Ts && impl_SchedOk.ok2 Ts (-1) Ls && impl_SchedOk.ok3 Ts Ls Ts)) := ⟨by
    have h0 := C0.out
    have h1 := C1.out
    have h2 := C2.out
    have h3 := C3.out
    have h4 := C4.out
    have h5 := C5.out
    unfold impl_SchedOk.ok
    rw [decide_eq_true (show 0 ≤ n_ by omega), decide_eq_true (show n_ ≤ 1099511627776 by omega), decide_eq_true (show 0 ≤ q_ by omega), decide_eq_true (show q_ ≤ 1099511627776 by omega), decide_eq_true (show Ts.length ≤ 32 by omega), decide_eq_true (show Ls.length ≤ 16 by omega)]
    rfl⟩
  clear C0 C1 C2 C3 C4 C5
  have hmm := @run_makeMap Try.prog
  go_enter Try.func12, Try.ntmps12
  go_upto_region 5 with (first | ((with_reducible refine gate_dst (N := 1) rfl ?_); refine box_event ?hg (N := 1) ?hd (cs := #[.int .i64 n_, .int .i64 q_, .slice A Ts.length c, .slice A2 Ls.length c2]) (t := 31) ?hr ?_; (case hd => rfl); (case hg => rfl); (case hr => first | (go_simp; done) | (go_simp; rfl)); intro gp hgq w3 hbq hB_; have GP := Aside0.mk (show w.heap.size ≤ gp from Nat.le_of_eq hgq.symm); have BP := Aside0.mk hbq; have HB := Aside0.mk hB_; clear hbq hgq hB_; have hp0 : w3.cell? ⟨gp, 0, none⟩ = some (.int .i64 n_) := (blk_cell BP.out 0).trans rfl; have hp1 : w3.cell? ⟨gp, 1, none⟩ = some (.int .i64 q_) := (blk_cell BP.out 1).trans rfl; have hp2 : w3.cell? ⟨gp, 2, none⟩ = some (.slice A Ts.length c) := (blk_cell BP.out 2).trans rfl; have hp3 : w3.cell? ⟨gp, 3, none⟩ = some (.slice A2 Ls.length c2) := (blk_cell BP.out 3).trans rfl))
  clear d0 d1 d2 d3 d4 d5 hmm
  have hm0 : (w3.alloc (.map #[] 0)).cell? ⟨gp, 0, none⟩ = some (.int .i64 n_) := (blk_cell (blk_alloc BP.out _) 0).trans rfl; have hm1 : (w3.alloc (.map #[] 0)).cell? ⟨gp, 1, none⟩ = some (.int .i64 q_) := (blk_cell (blk_alloc BP.out _) 1).trans rfl; have hm2 : (w3.alloc (.map #[] 0)).cell? ⟨gp, 2, none⟩ = some (.slice A Ts.length c) := (blk_cell (blk_alloc BP.out _) 2).trans rfl; have hm3 : (w3.alloc (.map #[] 0)).cell? ⟨gp, 3, none⟩ = some (.slice A2 Ls.length c2) := (blk_cell (blk_alloc BP.out _) 3).trans rfl
  go_wp2
  clear hm0 hm1 hm2 hm3
  have GM : Aside0 (w.heap.size ≤ w3.heap.size) := ⟨HB.out.size⟩
  have NPM : Aside0 (gp ≠ w3.heap.size) := ⟨Nat.ne_of_lt (blk_lt BP.out)⟩
  go_loopg [4, 45] Ts.length (fun kq v4 v45 wr => ∃ (last : Int) (i : Nat) (S : List Int), v4 = .int .i64 last ∧ v45 = .int .i64 (i : Int) ∧ Aside0 (i + kq = Ts.length) ∧ Aside0 (impl_SchedOk.ok n_ q_ Ts Ls = (impl_SchedOk.ok1 n_ q_ Ls S last (Ts.drop i) && impl_SchedOk.ok2 Ts (-1) Ls && impl_SchedOk.ok3 Ts Ls Ts)) ∧ Aside0 (usedMap wr w3.heap.size i S) ∧ Aside0 (wr.heap[gp]? = some (.cells #[.int .i64 n_, .int .i64 q_, .slice A Ts.length c, .slice A2 Ls.length c2] 31 (0, 0))) ∧ Aside0 (Below w.heap.size w wr))
  case atStart => exact ⟨-1, 0, [], rfl, rfl, ⟨by omega⟩, ⟨by rw [List.drop_zero]; exact HA0.out⟩, ⟨usedMap.made w3⟩, ⟨blk_alloc BP.out _⟩, ⟨below_alloc HB.out _⟩⟩
  case round =>
    clear BP HB hp0 hp1 hp2 hp3 HA0
    obtain ⟨last, i, S, rfl, rfl, hk, HA1_, HU, BP, HB⟩ := hrel
    have hp0 : wr.cell? ⟨gp, 0, none⟩ = some (.int .i64 n_) := (blk_cell BP.out 0).trans rfl; have hp1 : wr.cell? ⟨gp, 1, none⟩ = some (.int .i64 q_) := (blk_cell BP.out 1).trans rfl; have hp2 : wr.cell? ⟨gp, 2, none⟩ = some (.slice A Ts.length c) := (blk_cell BP.out 2).trans rfl; have hp3 : wr.cell? ⟨gp, 3, none⟩ = some (.slice A2 Ls.length c2) := (blk_cell BP.out 3).trans rfl
    by_cases hi : i < Ts.length
    · obtain ⟨x, hx⟩ : ∃ x, Ts[i]? = some x := ⟨_, List.getElem?_eq_getElem hi⟩
      obtain ⟨ad, rfl, h0, h1, h2, h3, h4, h5, h6, h7⟩ := at_T71 hC.out (i : Int) (by omega) (by omega)
      simp only [Int.toNat_natCast, impl_Sched_thread.rd hx] at h0 h1 h2 h3 h4 h5 h6 h7
      have b0 : (0 ≤ (i : Int)) = True := eq_true (by omega)
      have b1 : ((i : Int) < (Ts.length : Int)) = True := eq_true (by omega)
      have b2 : (i < Ts.length) = True := eq_true hi
      have hlast := hl.out
      have hw : IntKind.i64.wrap ((i : Int) + 1) = ((i + 1 : Nat) : Int) := by rw [IntKind.wrap_i64]; omega
      have HA1 : Aside0 (impl_SchedOk.ok n_ q_ Ts Ls = (impl_SchedOk.one n_ q_ Ls S last x && impl_SchedOk.ok1 n_ q_ Ls (x.f3 :: S) x.f0 (Ts.drop (i + 1)) && impl_SchedOk.ok2 Ts (-1) Ls && impl_SchedOk.ok3 Ts Ls Ts)) := ⟨by rw [HA1_.out, impl_SchedOk.ok1_at S last hx]⟩
      replace h0 := pw_cell_below HB.out h0
      replace h1 := pw_cell_below HB.out h1
      replace h2 := pw_cell_below HB.out h2
      replace h3 := pw_cell_below HB.out h3
      replace h4 := pw_cell_below HB.out h4
      replace h5 := pw_cell_below HB.out h5
      replace h6 := pw_cell_below HB.out h6
      replace h7 := pw_cell_below HB.out h7
      have hi_ := Aside0.mk hi
      clear hx HA1_ hlast hi
      have hi := hi_
      clear hi_
      go_upto_region 8 with (first | ((with_reducible refine gate_dst (N := 6) rfl ?_); refine box_event ?hg (N := 6) ?hd (cs := #[.int .i64 0, .int .i64 0, .int .i64 0, .int .i64 0, .int .i64 0, .int .i64 0, .int .i64 0, .int .i64 0]) (t := 71) ?hr ?_; (case hd => rfl); (case hg => rfl); (case hr => first | (go_simp; done) | (go_simp; rfl)); intro gx hgq w4 hbq hB_; have GX := Aside0.mk (show w.heap.size ≤ gx by rw [hgq]; exact HB.out.size); have NX := Aside0.mk (show gp ≠ gx by rw [hgq]; exact Nat.ne_of_lt (blk_lt BP.out)); have NM := Aside0.mk (show w3.heap.size ≠ gx by rw [hgq]; exact Nat.ne_of_lt HU.out.lt); have n_ := Aside0.mk (HU.out.kept (grown_of_below hB_ none) (by simp)); clear HU; have HU := n_; clear n_; have n_ := Aside0.mk (blk_below BP.out hB_); clear BP hp0 hp1 hp2 hp3; have BP := n_; clear n_; have hp0 : w4.cell? ⟨gp, 0, none⟩ = some (.int .i64 n_) := (blk_cell BP.out 0).trans rfl; have hp1 : w4.cell? ⟨gp, 1, none⟩ = some (.int .i64 q_) := (blk_cell BP.out 1).trans rfl; have hp2 : w4.cell? ⟨gp, 2, none⟩ = some (.slice (some ad) Ts.length c) := (blk_cell BP.out 2).trans rfl; have hp3 : w4.cell? ⟨gp, 3, none⟩ = some (.slice A2 Ls.length c2) := (blk_cell BP.out 3).trans rfl; have n_ := Aside0.mk (below_step HB.out hB_); clear HB hB_; have HB := n_; clear n_; have BX := Aside0.mk hbq; clear hbq hgq) | ((with_reducible refine gate_store (t := 71) (p := 6) rfl ?_); refine wpList_store_row rfl 71 (.tmp 6) (.tmp 48) rfl gx #[.int .i64 x.f0, .int .i64 x.f1, .int .i64 x.f2, .int .i64 x.f3, .int .i64 x.f4, .int .i64 x.f5, .int .i64 x.f6, .int .i64 x.f7] rfl rfl 71 _ BX.out (by kernel_rfl) rfl (by simp [Value.oneCell']) ?_; generalize hw : World.setRow _ _ _ = w5; have n_ : Aside0 (w5.heap[gx]? = some (.cells #[.int .i64 x.f0, .int .i64 x.f1, .int .i64 x.f2, .int .i64 x.f3, .int .i64 x.f4, .int .i64 x.f5, .int .i64 x.f6, .int .i64 x.f7] 71 (0, 0))) := ⟨by rw [← hw]; exact setRow_heap _ _ _ _ _ _ BX.out⟩; clear BX; have BX := n_; clear n_; have n_ : Aside0 (w5.heap[gp]? = some (.cells #[.int .i64 n_, .int .i64 q_, .slice (some ad) Ts.length c, .slice A2 Ls.length c2] 31 (0, 0))) := ⟨by rw [← hw]; exact (setRow_other _ _ _ _ NX.out).trans BP.out⟩; clear BP hp0 hp1 hp2 hp3; have BP := n_; clear n_; have hp0 : w5.cell? ⟨gp, 0, none⟩ = some (.int .i64 n_) := (blk_cell BP.out 0).trans rfl; have hp1 : w5.cell? ⟨gp, 1, none⟩ = some (.int .i64 q_) := (blk_cell BP.out 1).trans rfl; have hp2 : w5.cell? ⟨gp, 2, none⟩ = some (.slice (some ad) Ts.length c) := (blk_cell BP.out 2).trans rfl; have hp3 : w5.cell? ⟨gp, 3, none⟩ = some (.slice A2 Ls.length c2) := (blk_cell BP.out 3).trans rfl; have n_ : Aside0 (usedMap w5 w3.heap.size i S) := ⟨HU.out.of_heap (by rw [← hw]; exact setRow_other _ _ _ _ NM.out)⟩; clear HU; have HU := n_; clear n_; have n_ : Aside0 (Below w.heap.size w w5) := ⟨by rw [← hw]; exact below_setRow HB.out GX.out _⟩; clear HB hw; have HB := n_; clear n_; clear h0 h1 h2 h3 h4 h5 h6 h7))
      clear b2
      have hz0 : w5.cell? ⟨gx, 0, none⟩ = some (.int .i64 x.f0) := (blk_cell BX.out 0).trans rfl; have hz1 : w5.cell? ⟨gx, 1, none⟩ = some (.int .i64 x.f1) := (blk_cell BX.out 1).trans rfl; have hz2 : w5.cell? ⟨gx, 2, none⟩ = some (.int .i64 x.f2) := (blk_cell BX.out 2).trans rfl; have hz3 : w5.cell? ⟨gx, 3, none⟩ = some (.int .i64 x.f3) := (blk_cell BX.out 3).trans rfl; have hz4 : w5.cell? ⟨gx, 4, none⟩ = some (.int .i64 x.f4) := (blk_cell BX.out 4).trans rfl; have hz5 : w5.cell? ⟨gx, 5, none⟩ = some (.int .i64 x.f5) := (blk_cell BX.out 5).trans rfl; have hz6 : w5.cell? ⟨gx, 6, none⟩ = some (.int .i64 x.f6) := (blk_cell BX.out 6).trans rfl; have hz7 : w5.cell? ⟨gx, 7, none⟩ = some (.int .i64 x.f7) := (blk_cell BX.out 7).trans rfl
      by_cases c0 : x.f0 ≤ last
      · have H1 : impl_SchedOk.one n_ q_ Ls S last x = false := by unfold impl_SchedOk.one; rw [if_pos c0]
        have HA : Aside0 (impl_SchedOk.ok n_ q_ Ts Ls = false) := ⟨by rw [HA1.out, H1]; rfl⟩
        clear HA1 H1
        have f0 : decide (x.f0 ≤ last) = true := decide_eq_true c0
        clear c0
        go_wp2
        go_ret
        exact ⟨by rw [HA.out]; rfl, HB.out⟩
      have d0 : decide (x.f0 ≤ last) = false := decide_eq_false c0
      have C0 := Aside0.mk c0
      clear c0
      by_cases c1 : 32 ≤ x.f0
      · have H1 : impl_SchedOk.one n_ q_ Ls S last x = false := by unfold impl_SchedOk.one; rw [if_neg C0.out, if_pos c1]
        have HA : Aside0 (impl_SchedOk.ok n_ q_ Ts Ls = false) := ⟨by rw [HA1.out, H1]; rfl⟩
        clear HA1 H1
        have f1 : decide (32 ≤ x.f0) = true := decide_eq_true c1
        clear c1
        go_wp2
        go_ret
        exact ⟨by rw [HA.out]; rfl, HB.out⟩
      have d1 : decide (32 ≤ x.f0) = false := decide_eq_false c1
      have C1 := Aside0.mk c1
      clear c1
      by_cases c2 : x.f1 < 0
      · have H1 : impl_SchedOk.one n_ q_ Ls S last x = false := by unfold impl_SchedOk.one; rw [if_neg C0.out, if_neg C1.out, if_pos c2]
        have HA : Aside0 (impl_SchedOk.ok n_ q_ Ts Ls = false) := ⟨by rw [HA1.out, H1]; rfl⟩
        clear HA1 H1
        have f2 : decide (x.f1 < 0) = true := decide_eq_true c2
        clear c2
        go_wp2
        go_ret
        exact ⟨by rw [HA.out]; rfl, HB.out⟩
      have d2 : decide (x.f1 < 0) = false := decide_eq_false c2
      have C2 := Aside0.mk c2
      clear c2
      by_cases c3 : 7 < x.f1
      · have H1 : impl_SchedOk.one n_ q_ Ls S last x = false := by unfold impl_SchedOk.one; rw [if_neg C0.out, if_neg C1.out, if_neg C2.out, if_pos c3]
        have HA : Aside0 (impl_SchedOk.ok n_ q_ Ts Ls = false) := ⟨by rw [HA1.out, H1]; rfl⟩
        clear HA1 H1
        have f3 : decide (7 < x.f1) = true := decide_eq_true c3
        clear c3
        go_wp2
        go_ret
        exact ⟨by rw [HA.out]; rfl, HB.out⟩
      have d3 : decide (7 < x.f1) = false := decide_eq_false c3
      have C3 := Aside0.mk c3
      clear c3
      by_cases c4 : x.f3 < 1
      · have H1 : impl_SchedOk.one n_ q_ Ls S last x = false := by unfold impl_SchedOk.one; rw [if_neg C0.out, if_neg C1.out, if_neg C2.out, if_neg C3.out, if_pos c4]
        have HA : Aside0 (impl_SchedOk.ok n_ q_ Ts Ls = false) := ⟨by rw [HA1.out, H1]; rfl⟩
        clear HA1 H1
        have f4 : decide (x.f3 < 1) = true := decide_eq_true c4
        clear c4
        go_wp2
        go_ret
        exact ⟨by rw [HA.out]; rfl, HB.out⟩
      have d4 : decide (x.f3 < 1) = false := decide_eq_false c4
      have C4 := Aside0.mk c4
      clear c4
      by_cases c5 : q_ < x.f3
      · have H1 : impl_SchedOk.one n_ q_ Ls S last x = false := by unfold impl_SchedOk.one; rw [if_neg C0.out, if_neg C1.out, if_neg C2.out, if_neg C3.out, if_neg C4.out, if_pos c5]
        have HA : Aside0 (impl_SchedOk.ok n_ q_ Ts Ls = false) := ⟨by rw [HA1.out, H1]; rfl⟩
        clear HA1 H1
        have f5 : decide (q_ < x.f3) = true := decide_eq_true c5
        clear c5
        go_wp2
        go_ret
        exact ⟨by rw [HA.out]; rfl, HB.out⟩
      have d5 : decide (q_ < x.f3) = false := decide_eq_false c5
      have C5 := Aside0.mk c5
      clear c5
      have WF : Aside0 ((Lit.int .i64 x.f3).wf = true) := ⟨WalkArith.wf_i64 (by have := C4.out; have := C5.out; have := HQ.out; omega)⟩
      by_cases c6 : x.f3 ∈ S
      · have H1 : impl_SchedOk.one n_ q_ Ls S last x = false := by unfold impl_SchedOk.one; rw [if_neg C0.out, if_neg C1.out, if_neg C2.out, if_neg C3.out, if_neg C4.out, if_neg C5.out, if_pos c6]
        have HA : Aside0 (impl_SchedOk.ok n_ q_ Ts Ls = false) := ⟨by rw [HA1.out, H1]; rfl⟩
        clear HA1 H1
        have f6 : decide (x.f3 ∈ S) = true := decide_eq_true c6
        clear c6
        go_wp2_with (first | (at_lookup; refine wpList_used (by first | rfl | simp [Region.wanted, yielded]) _ _ rfl (b := w3.heap.size) (n := i) (S := S) (y := x.f3) rfl rfl HU.out WF.out ?_))
        go_ret
        exact ⟨by rw [HA.out]; rfl, HB.out⟩
      have d6 : decide (x.f3 ∈ S) = false := decide_eq_false c6
      have C6 := Aside0.mk c6
      clear c6
      by_cases c7 : x.f4 < 1
      · have H1 : impl_SchedOk.one n_ q_ Ls S last x = false := by unfold impl_SchedOk.one; rw [if_neg C0.out, if_neg C1.out, if_neg C2.out, if_neg C3.out, if_neg C4.out, if_neg C5.out, if_neg C6.out, if_pos c7]
        have HA : Aside0 (impl_SchedOk.ok n_ q_ Ts Ls = false) := ⟨by rw [HA1.out, H1]; rfl⟩
        clear HA1 H1
        have f7 : decide (x.f4 < 1) = true := decide_eq_true c7
        clear c7
        go_wp2_with (first | (at_lookup; refine wpList_used (by first | rfl | simp [Region.wanted, yielded]) _ _ rfl (b := w3.heap.size) (n := i) (S := S) (y := x.f3) rfl rfl HU.out WF.out ?_))
        go_ret
        exact ⟨by rw [HA.out]; rfl, HB.out⟩
      have d7 : decide (x.f4 < 1) = false := decide_eq_false c7
      have C7 := Aside0.mk c7
      clear c7
      by_cases c8 : 4 < x.f4
      · have H1 : impl_SchedOk.one n_ q_ Ls S last x = false := by unfold impl_SchedOk.one; rw [if_neg C0.out, if_neg C1.out, if_neg C2.out, if_neg C3.out, if_neg C4.out, if_neg C5.out, if_neg C6.out, if_neg C7.out, if_pos c8]
        have HA : Aside0 (impl_SchedOk.ok n_ q_ Ts Ls = false) := ⟨by rw [HA1.out, H1]; rfl⟩
        clear HA1 H1
        have f8 : decide (4 < x.f4) = true := decide_eq_true c8
        clear c8
        go_wp2_with (first | (at_lookup; refine wpList_used (by first | rfl | simp [Region.wanted, yielded]) _ _ rfl (b := w3.heap.size) (n := i) (S := S) (y := x.f3) rfl rfl HU.out WF.out ?_))
        go_ret
        exact ⟨by rw [HA.out]; rfl, HB.out⟩
      have d8 : decide (4 < x.f4) = false := decide_eq_false c8
      have C8 := Aside0.mk c8
      clear c8
      by_cases c9 : x.f5 < 0
      · have H1 : impl_SchedOk.one n_ q_ Ls S last x = false := by unfold impl_SchedOk.one; rw [if_neg C0.out, if_neg C1.out, if_neg C2.out, if_neg C3.out, if_neg C4.out, if_neg C5.out, if_neg C6.out, if_neg C7.out, if_neg C8.out, if_pos c9]
        have HA : Aside0 (impl_SchedOk.ok n_ q_ Ts Ls = false) := ⟨by rw [HA1.out, H1]; rfl⟩
        clear HA1 H1
        have f9 : decide (x.f5 < 0) = true := decide_eq_true c9
        clear c9
        go_wp2_with (first | (at_lookup; refine wpList_used (by first | rfl | simp [Region.wanted, yielded]) _ _ rfl (b := w3.heap.size) (n := i) (S := S) (y := x.f3) rfl rfl HU.out WF.out ?_))
        go_ret
        exact ⟨by rw [HA.out]; rfl, HB.out⟩
      have d9 : decide (x.f5 < 0) = false := decide_eq_false c9
      have C9 := Aside0.mk c9
      clear c9
      by_cases c10 : n_ < x.f5
      · have H1 : impl_SchedOk.one n_ q_ Ls S last x = false := by unfold impl_SchedOk.one; rw [if_neg C0.out, if_neg C1.out, if_neg C2.out, if_neg C3.out, if_neg C4.out, if_neg C5.out, if_neg C6.out, if_neg C7.out, if_neg C8.out, if_neg C9.out, if_pos c10]
        have HA : Aside0 (impl_SchedOk.ok n_ q_ Ts Ls = false) := ⟨by rw [HA1.out, H1]; rfl⟩
        clear HA1 H1
        have f10 : decide (n_ < x.f5) = true := decide_eq_true c10
        clear c10
        go_wp2_with (first | (at_lookup; refine wpList_used (by first | rfl | simp [Region.wanted, yielded]) _ _ rfl (b := w3.heap.size) (n := i) (S := S) (y := x.f3) rfl rfl HU.out WF.out ?_))
        go_ret
        exact ⟨by rw [HA.out]; rfl, HB.out⟩
      have d10 : decide (n_ < x.f5) = false := decide_eq_false c10
      have C10 := Aside0.mk c10
      clear c10
      by_cases s1 : x.f2 = 1
      · have g1 : (x.f2 == 1) = true := by simpa using s1
        have G1 := Aside0.mk s1
        clear s1
        by_cases c1a : x.f7 ≠ -1
        · have H1 : impl_SchedOk.one n_ q_ Ls S last x = false := by unfold impl_SchedOk.one; rw [if_neg C0.out, if_neg C1.out, if_neg C2.out, if_neg C3.out, if_neg C4.out, if_neg C5.out, if_neg C6.out, if_neg C7.out, if_neg C8.out, if_neg C9.out, if_neg C10.out, if_pos G1.out, if_pos c1a]
          have HA : Aside0 (impl_SchedOk.ok n_ q_ Ts Ls = false) := ⟨by rw [HA1.out, H1]; rfl⟩
          clear HA1 H1
          have f1a : (x.f7 != -1) = true := by simpa using c1a
          clear c1a
          go_wp2_with (first | (at_lookup; refine wpList_used (by first | rfl | simp [Region.wanted, yielded]) _ _ rfl (b := w3.heap.size) (n := i) (S := S) (y := x.f3) rfl rfl HU.out WF.out ?_) | (at_mapUpdate; refine wpList_use rfl _ _ _ rfl (b := w3.heap.size) (n := i) (S := S) (y := x.f3) rfl rfl rfl HU.out (by have := hl.out; have := hi.out; unfold maxLen; omega) WF.out ?_; intro w8 hu_ hg_; have n_ := Aside0.mk (blk_grown BP.out hg_ (fun e_ => NPM.out (Option.some.inj e_))); clear BP hp0 hp1 hp2 hp3; have BP := n_; clear n_; have hp0 : w8.cell? ⟨gp, 0, none⟩ = some (.int .i64 n_) := (blk_cell BP.out 0).trans rfl; have hp1 : w8.cell? ⟨gp, 1, none⟩ = some (.int .i64 q_) := (blk_cell BP.out 1).trans rfl; have hp2 : w8.cell? ⟨gp, 2, none⟩ = some (.slice (some ad) Ts.length c) := (blk_cell BP.out 2).trans rfl; have hp3 : w8.cell? ⟨gp, 3, none⟩ = some (.slice A2 Ls.length c2) := (blk_cell BP.out 3).trans rfl; have n_ := Aside0.mk (blk_grown BX.out hg_ (fun e_ => NM.out (Option.some.inj e_).symm)); clear BX hz0 hz1 hz2 hz3 hz4 hz5 hz6 hz7; have BX := n_; clear n_; have hz0 : w8.cell? ⟨gx, 0, none⟩ = some (.int .i64 x.f0) := (blk_cell BX.out 0).trans rfl; have hz1 : w8.cell? ⟨gx, 1, none⟩ = some (.int .i64 x.f1) := (blk_cell BX.out 1).trans rfl; have hz2 : w8.cell? ⟨gx, 2, none⟩ = some (.int .i64 x.f2) := (blk_cell BX.out 2).trans rfl; have hz3 : w8.cell? ⟨gx, 3, none⟩ = some (.int .i64 x.f3) := (blk_cell BX.out 3).trans rfl; have hz4 : w8.cell? ⟨gx, 4, none⟩ = some (.int .i64 x.f4) := (blk_cell BX.out 4).trans rfl; have hz5 : w8.cell? ⟨gx, 5, none⟩ = some (.int .i64 x.f5) := (blk_cell BX.out 5).trans rfl; have hz6 : w8.cell? ⟨gx, 6, none⟩ = some (.int .i64 x.f6) := (blk_cell BX.out 6).trans rfl; have hz7 : w8.cell? ⟨gx, 7, none⟩ = some (.int .i64 x.f7) := (blk_cell BX.out 7).trans rfl; have n_ := Aside0.mk (HB.out.grown hg_ HB.out.size (fun k_ hk_ => by injection hk_ with hk_; have := GM.out; omega)); clear HB; have HB := n_; clear n_; have n_ := Aside0.mk hu_; clear HU hu_ hg_; have HU := n_; clear n_))
          go_ret
          exact ⟨by rw [HA.out]; rfl, HB.out⟩
        have d1a : (x.f7 != -1) = false := by simpa using c1a
        have C1a := Aside0.mk c1a
        clear c1a
        by_cases c1b : x.f6 ≠ 0
        · have H1 : impl_SchedOk.one n_ q_ Ls S last x = false := by unfold impl_SchedOk.one; rw [if_neg C0.out, if_neg C1.out, if_neg C2.out, if_neg C3.out, if_neg C4.out, if_neg C5.out, if_neg C6.out, if_neg C7.out, if_neg C8.out, if_neg C9.out, if_neg C10.out, if_pos G1.out, if_neg C1a.out, if_pos c1b]
          have HA : Aside0 (impl_SchedOk.ok n_ q_ Ts Ls = false) := ⟨by rw [HA1.out, H1]; rfl⟩
          clear HA1 H1
          have f1b : (x.f6 != 0) = true := by simpa using c1b
          clear c1b
          go_wp2_with (first | (at_lookup; refine wpList_used (by first | rfl | simp [Region.wanted, yielded]) _ _ rfl (b := w3.heap.size) (n := i) (S := S) (y := x.f3) rfl rfl HU.out WF.out ?_) | (at_mapUpdate; refine wpList_use rfl _ _ _ rfl (b := w3.heap.size) (n := i) (S := S) (y := x.f3) rfl rfl rfl HU.out (by have := hl.out; have := hi.out; unfold maxLen; omega) WF.out ?_; intro w8 hu_ hg_; have n_ := Aside0.mk (blk_grown BP.out hg_ (fun e_ => NPM.out (Option.some.inj e_))); clear BP hp0 hp1 hp2 hp3; have BP := n_; clear n_; have hp0 : w8.cell? ⟨gp, 0, none⟩ = some (.int .i64 n_) := (blk_cell BP.out 0).trans rfl; have hp1 : w8.cell? ⟨gp, 1, none⟩ = some (.int .i64 q_) := (blk_cell BP.out 1).trans rfl; have hp2 : w8.cell? ⟨gp, 2, none⟩ = some (.slice (some ad) Ts.length c) := (blk_cell BP.out 2).trans rfl; have hp3 : w8.cell? ⟨gp, 3, none⟩ = some (.slice A2 Ls.length c2) := (blk_cell BP.out 3).trans rfl; have n_ := Aside0.mk (blk_grown BX.out hg_ (fun e_ => NM.out (Option.some.inj e_).symm)); clear BX hz0 hz1 hz2 hz3 hz4 hz5 hz6 hz7; have BX := n_; clear n_; have hz0 : w8.cell? ⟨gx, 0, none⟩ = some (.int .i64 x.f0) := (blk_cell BX.out 0).trans rfl; have hz1 : w8.cell? ⟨gx, 1, none⟩ = some (.int .i64 x.f1) := (blk_cell BX.out 1).trans rfl; have hz2 : w8.cell? ⟨gx, 2, none⟩ = some (.int .i64 x.f2) := (blk_cell BX.out 2).trans rfl; have hz3 : w8.cell? ⟨gx, 3, none⟩ = some (.int .i64 x.f3) := (blk_cell BX.out 3).trans rfl; have hz4 : w8.cell? ⟨gx, 4, none⟩ = some (.int .i64 x.f4) := (blk_cell BX.out 4).trans rfl; have hz5 : w8.cell? ⟨gx, 5, none⟩ = some (.int .i64 x.f5) := (blk_cell BX.out 5).trans rfl; have hz6 : w8.cell? ⟨gx, 6, none⟩ = some (.int .i64 x.f6) := (blk_cell BX.out 6).trans rfl; have hz7 : w8.cell? ⟨gx, 7, none⟩ = some (.int .i64 x.f7) := (blk_cell BX.out 7).trans rfl; have n_ := Aside0.mk (HB.out.grown hg_ HB.out.size (fun k_ hk_ => by injection hk_ with hk_; have := GM.out; omega)); clear HB; have HB := n_; clear n_; have n_ := Aside0.mk hu_; clear HU hu_ hg_; have HU := n_; clear n_))
          go_ret
          exact ⟨by rw [HA.out]; rfl, HB.out⟩
        have d1b : (x.f6 != 0) = false := by simpa using c1b
        have C1b := Aside0.mk c1b
        clear c1b
        have H1 : impl_SchedOk.one n_ q_ Ls S last x = true := by unfold impl_SchedOk.one; rw [if_neg C0.out, if_neg C1.out, if_neg C2.out, if_neg C3.out, if_neg C4.out, if_neg C5.out, if_neg C6.out, if_neg C7.out, if_neg C8.out, if_neg C9.out, if_neg C10.out, if_pos G1.out, if_neg C1a.out, if_neg C1b.out]
        have HA : Aside0 (impl_SchedOk.ok n_ q_ Ts Ls = (impl_SchedOk.ok1 n_ q_ Ls (x.f3 :: S) x.f0 (Ts.drop (i + 1)) && impl_SchedOk.ok2 Ts (-1) Ls && impl_SchedOk.ok3 Ts Ls Ts)) := ⟨by rw [HA1.out, H1, Bool.true_and]⟩
        clear HA1 H1
        go_wp2_with (first | (at_lookup; refine wpList_used (by first | rfl | simp [Region.wanted, yielded]) _ _ rfl (b := w3.heap.size) (n := i) (S := S) (y := x.f3) rfl rfl HU.out WF.out ?_) | (at_mapUpdate; refine wpList_use rfl _ _ _ rfl (b := w3.heap.size) (n := i) (S := S) (y := x.f3) rfl rfl rfl HU.out (by have := hl.out; have := hi.out; unfold maxLen; omega) WF.out ?_; intro w8 hu_ hg_; have n_ := Aside0.mk (blk_grown BP.out hg_ (fun e_ => NPM.out (Option.some.inj e_))); clear BP hp0 hp1 hp2 hp3; have BP := n_; clear n_; have hp0 : w8.cell? ⟨gp, 0, none⟩ = some (.int .i64 n_) := (blk_cell BP.out 0).trans rfl; have hp1 : w8.cell? ⟨gp, 1, none⟩ = some (.int .i64 q_) := (blk_cell BP.out 1).trans rfl; have hp2 : w8.cell? ⟨gp, 2, none⟩ = some (.slice (some ad) Ts.length c) := (blk_cell BP.out 2).trans rfl; have hp3 : w8.cell? ⟨gp, 3, none⟩ = some (.slice A2 Ls.length c2) := (blk_cell BP.out 3).trans rfl; have n_ := Aside0.mk (blk_grown BX.out hg_ (fun e_ => NM.out (Option.some.inj e_).symm)); clear BX hz0 hz1 hz2 hz3 hz4 hz5 hz6 hz7; have BX := n_; clear n_; have hz0 : w8.cell? ⟨gx, 0, none⟩ = some (.int .i64 x.f0) := (blk_cell BX.out 0).trans rfl; have hz1 : w8.cell? ⟨gx, 1, none⟩ = some (.int .i64 x.f1) := (blk_cell BX.out 1).trans rfl; have hz2 : w8.cell? ⟨gx, 2, none⟩ = some (.int .i64 x.f2) := (blk_cell BX.out 2).trans rfl; have hz3 : w8.cell? ⟨gx, 3, none⟩ = some (.int .i64 x.f3) := (blk_cell BX.out 3).trans rfl; have hz4 : w8.cell? ⟨gx, 4, none⟩ = some (.int .i64 x.f4) := (blk_cell BX.out 4).trans rfl; have hz5 : w8.cell? ⟨gx, 5, none⟩ = some (.int .i64 x.f5) := (blk_cell BX.out 5).trans rfl; have hz6 : w8.cell? ⟨gx, 6, none⟩ = some (.int .i64 x.f6) := (blk_cell BX.out 6).trans rfl; have hz7 : w8.cell? ⟨gx, 7, none⟩ = some (.int .i64 x.f7) := (blk_cell BX.out 7).trans rfl; have n_ := Aside0.mk (HB.out.grown hg_ HB.out.size (fun k_ hk_ => by injection hk_ with hk_; have := GM.out; omega)); clear HB; have HB := n_; clear n_; have n_ := Aside0.mk hu_; clear HU hu_ hg_; have HU := n_; clear n_))
        go_roundg (Ts.length - (i + 1))
        case measure => have := hk.out; have := hi.out; omega
        case rel => exact ⟨x.f0, i + 1, x.f3 :: S, rfl, by first | rfl | (simp; done) | (simp [*]; done), ⟨by have := hi.out; omega⟩, HA, HU, BP, HB⟩
      have g1 : (x.f2 == 1) = false := by simpa using s1
      have G1 := Aside0.mk s1
      clear s1
      by_cases s2 : x.f2 = 2
      · have g2 : (x.f2 == 2) = true := by simpa using s2
        have G2 := Aside0.mk s2
        clear s2
        by_cases c2a : x.f6 ≠ 0
        · have H1 : impl_SchedOk.one n_ q_ Ls S last x = false := by unfold impl_SchedOk.one; rw [if_neg C0.out, if_neg C1.out, if_neg C2.out, if_neg C3.out, if_neg C4.out, if_neg C5.out, if_neg C6.out, if_neg C7.out, if_neg C8.out, if_neg C9.out, if_neg C10.out, if_neg G1.out, if_pos G2.out, if_pos c2a]
          have HA : Aside0 (impl_SchedOk.ok n_ q_ Ts Ls = false) := ⟨by rw [HA1.out, H1]; rfl⟩
          clear HA1 H1
          have f2a : (x.f6 != 0) = true := by simpa using c2a
          clear c2a
          go_wp2_with (first | (at_lookup; refine wpList_used (by first | rfl | simp [Region.wanted, yielded]) _ _ rfl (b := w3.heap.size) (n := i) (S := S) (y := x.f3) rfl rfl HU.out WF.out ?_) | (at_mapUpdate; refine wpList_use rfl _ _ _ rfl (b := w3.heap.size) (n := i) (S := S) (y := x.f3) rfl rfl rfl HU.out (by have := hl.out; have := hi.out; unfold maxLen; omega) WF.out ?_; intro w8 hu_ hg_; have n_ := Aside0.mk (blk_grown BP.out hg_ (fun e_ => NPM.out (Option.some.inj e_))); clear BP hp0 hp1 hp2 hp3; have BP := n_; clear n_; have hp0 : w8.cell? ⟨gp, 0, none⟩ = some (.int .i64 n_) := (blk_cell BP.out 0).trans rfl; have hp1 : w8.cell? ⟨gp, 1, none⟩ = some (.int .i64 q_) := (blk_cell BP.out 1).trans rfl; have hp2 : w8.cell? ⟨gp, 2, none⟩ = some (.slice (some ad) Ts.length c) := (blk_cell BP.out 2).trans rfl; have hp3 : w8.cell? ⟨gp, 3, none⟩ = some (.slice A2 Ls.length c2) := (blk_cell BP.out 3).trans rfl; have n_ := Aside0.mk (blk_grown BX.out hg_ (fun e_ => NM.out (Option.some.inj e_).symm)); clear BX hz0 hz1 hz2 hz3 hz4 hz5 hz6 hz7; have BX := n_; clear n_; have hz0 : w8.cell? ⟨gx, 0, none⟩ = some (.int .i64 x.f0) := (blk_cell BX.out 0).trans rfl; have hz1 : w8.cell? ⟨gx, 1, none⟩ = some (.int .i64 x.f1) := (blk_cell BX.out 1).trans rfl; have hz2 : w8.cell? ⟨gx, 2, none⟩ = some (.int .i64 x.f2) := (blk_cell BX.out 2).trans rfl; have hz3 : w8.cell? ⟨gx, 3, none⟩ = some (.int .i64 x.f3) := (blk_cell BX.out 3).trans rfl; have hz4 : w8.cell? ⟨gx, 4, none⟩ = some (.int .i64 x.f4) := (blk_cell BX.out 4).trans rfl; have hz5 : w8.cell? ⟨gx, 5, none⟩ = some (.int .i64 x.f5) := (blk_cell BX.out 5).trans rfl; have hz6 : w8.cell? ⟨gx, 6, none⟩ = some (.int .i64 x.f6) := (blk_cell BX.out 6).trans rfl; have hz7 : w8.cell? ⟨gx, 7, none⟩ = some (.int .i64 x.f7) := (blk_cell BX.out 7).trans rfl; have n_ := Aside0.mk (HB.out.grown hg_ HB.out.size (fun k_ hk_ => by injection hk_ with hk_; have := GM.out; omega)); clear HB; have HB := n_; clear n_; have n_ := Aside0.mk hu_; clear HU hu_ hg_; have HU := n_; clear n_))
          go_ret
          exact ⟨by rw [HA.out]; rfl, HB.out⟩
        have d2a : (x.f6 != 0) = false := by simpa using c2a
        have C2a := Aside0.mk c2a
        clear c2a
        obtain ⟨oj, hj⟩ : ∃ oj, Aside0 (impl_Sched_lock.idx x.f7 Ls 0 = oj) := ⟨_, ⟨rfl⟩⟩
        cases oj with
        | none =>
          have H1 : impl_SchedOk.one n_ q_ Ls S last x = false := by unfold impl_SchedOk.one; rw [if_neg C0.out, if_neg C1.out, if_neg C2.out, if_neg C3.out, if_neg C4.out, if_neg C5.out, if_neg C6.out, if_neg C7.out, if_neg C8.out, if_neg C9.out, if_neg C10.out, if_neg G1.out, if_pos G2.out, if_neg C2a.out, if_pos hj.out]
          have HA : Aside0 (impl_SchedOk.ok n_ q_ Ts Ls = false) := ⟨by rw [HA1.out, H1]; rfl⟩
          clear HA1 H1
          go_wp2_with (first | (at_lookup; refine wpList_used (by first | rfl | simp [Region.wanted, yielded]) _ _ rfl (b := w3.heap.size) (n := i) (S := S) (y := x.f3) rfl rfl HU.out WF.out ?_) | (at_mapUpdate; refine wpList_use rfl _ _ _ rfl (b := w3.heap.size) (n := i) (S := S) (y := x.f3) rfl rfl rfl HU.out (by have := hl.out; have := hi.out; unfold maxLen; omega) WF.out ?_; intro w8 hu_ hg_; have n_ := Aside0.mk (blk_grown BP.out hg_ (fun e_ => NPM.out (Option.some.inj e_))); clear BP hp0 hp1 hp2 hp3; have BP := n_; clear n_; have hp0 : w8.cell? ⟨gp, 0, none⟩ = some (.int .i64 n_) := (blk_cell BP.out 0).trans rfl; have hp1 : w8.cell? ⟨gp, 1, none⟩ = some (.int .i64 q_) := (blk_cell BP.out 1).trans rfl; have hp2 : w8.cell? ⟨gp, 2, none⟩ = some (.slice (some ad) Ts.length c) := (blk_cell BP.out 2).trans rfl; have hp3 : w8.cell? ⟨gp, 3, none⟩ = some (.slice A2 Ls.length c2) := (blk_cell BP.out 3).trans rfl; have n_ := Aside0.mk (blk_grown BX.out hg_ (fun e_ => NM.out (Option.some.inj e_).symm)); clear BX hz0 hz1 hz2 hz3 hz4 hz5 hz6 hz7; have BX := n_; clear n_; have hz0 : w8.cell? ⟨gx, 0, none⟩ = some (.int .i64 x.f0) := (blk_cell BX.out 0).trans rfl; have hz1 : w8.cell? ⟨gx, 1, none⟩ = some (.int .i64 x.f1) := (blk_cell BX.out 1).trans rfl; have hz2 : w8.cell? ⟨gx, 2, none⟩ = some (.int .i64 x.f2) := (blk_cell BX.out 2).trans rfl; have hz3 : w8.cell? ⟨gx, 3, none⟩ = some (.int .i64 x.f3) := (blk_cell BX.out 3).trans rfl; have hz4 : w8.cell? ⟨gx, 4, none⟩ = some (.int .i64 x.f4) := (blk_cell BX.out 4).trans rfl; have hz5 : w8.cell? ⟨gx, 5, none⟩ = some (.int .i64 x.f5) := (blk_cell BX.out 5).trans rfl; have hz6 : w8.cell? ⟨gx, 6, none⟩ = some (.int .i64 x.f6) := (blk_cell BX.out 6).trans rfl; have hz7 : w8.cell? ⟨gx, 7, none⟩ = some (.int .i64 x.f7) := (blk_cell BX.out 7).trans rfl; have n_ := Aside0.mk (HB.out.grown hg_ HB.out.size (fun k_ hk_ => by injection hk_ with hk_; have := GM.out; omega)); clear HB; have HB := n_; clear n_; have n_ := Aside0.mk hu_; clear HU hu_ hg_; have HU := n_; clear n_) | (go_at_call 40; refine (impl_Sched_lock.calls gp n_ q_ _ _ c2 Ls x.f7 _ BP.out ?sC hlm2.out).mono ?_; (case sC => exact Kd.C_below hC2.out HB.out); rintro e w9 ⟨rfl, rfl⟩; rw [hj.out]; simp only [impl_Sched_lock.ptr, Option.map_some]))
          go_ret
          exact ⟨by rw [HA.out]; rfl, HB.out⟩
        | some j =>
          have hjl := impl_Sched_lock.idx_lt _ _ _ _ hj.out
          obtain ⟨ad2, rfl, -⟩ := at_T68 hC2.out (j : Int) (by omega) (by omega)
          clear hjl
          have H1 : impl_SchedOk.one n_ q_ Ls S last x = true := by unfold impl_SchedOk.one; rw [if_neg C0.out, if_neg C1.out, if_neg C2.out, if_neg C3.out, if_neg C4.out, if_neg C5.out, if_neg C6.out, if_neg C7.out, if_neg C8.out, if_neg C9.out, if_neg C10.out, if_neg G1.out, if_pos G2.out, if_neg C2a.out, if_neg (by rw [hj.out]; simp)]
          have HA : Aside0 (impl_SchedOk.ok n_ q_ Ts Ls = (impl_SchedOk.ok1 n_ q_ Ls (x.f3 :: S) x.f0 (Ts.drop (i + 1)) && impl_SchedOk.ok2 Ts (-1) Ls && impl_SchedOk.ok3 Ts Ls Ts)) := ⟨by rw [HA1.out, H1, Bool.true_and]⟩
          clear HA1 H1
          go_wp2_with (first | (at_lookup; refine wpList_used (by first | rfl | simp [Region.wanted, yielded]) _ _ rfl (b := w3.heap.size) (n := i) (S := S) (y := x.f3) rfl rfl HU.out WF.out ?_) | (at_mapUpdate; refine wpList_use rfl _ _ _ rfl (b := w3.heap.size) (n := i) (S := S) (y := x.f3) rfl rfl rfl HU.out (by have := hl.out; have := hi.out; unfold maxLen; omega) WF.out ?_; intro w8 hu_ hg_; have n_ := Aside0.mk (blk_grown BP.out hg_ (fun e_ => NPM.out (Option.some.inj e_))); clear BP hp0 hp1 hp2 hp3; have BP := n_; clear n_; have hp0 : w8.cell? ⟨gp, 0, none⟩ = some (.int .i64 n_) := (blk_cell BP.out 0).trans rfl; have hp1 : w8.cell? ⟨gp, 1, none⟩ = some (.int .i64 q_) := (blk_cell BP.out 1).trans rfl; have hp2 : w8.cell? ⟨gp, 2, none⟩ = some (.slice (some ad) Ts.length c) := (blk_cell BP.out 2).trans rfl; have hp3 : w8.cell? ⟨gp, 3, none⟩ = some (.slice (some ad2) Ls.length c2) := (blk_cell BP.out 3).trans rfl; have n_ := Aside0.mk (blk_grown BX.out hg_ (fun e_ => NM.out (Option.some.inj e_).symm)); clear BX hz0 hz1 hz2 hz3 hz4 hz5 hz6 hz7; have BX := n_; clear n_; have hz0 : w8.cell? ⟨gx, 0, none⟩ = some (.int .i64 x.f0) := (blk_cell BX.out 0).trans rfl; have hz1 : w8.cell? ⟨gx, 1, none⟩ = some (.int .i64 x.f1) := (blk_cell BX.out 1).trans rfl; have hz2 : w8.cell? ⟨gx, 2, none⟩ = some (.int .i64 x.f2) := (blk_cell BX.out 2).trans rfl; have hz3 : w8.cell? ⟨gx, 3, none⟩ = some (.int .i64 x.f3) := (blk_cell BX.out 3).trans rfl; have hz4 : w8.cell? ⟨gx, 4, none⟩ = some (.int .i64 x.f4) := (blk_cell BX.out 4).trans rfl; have hz5 : w8.cell? ⟨gx, 5, none⟩ = some (.int .i64 x.f5) := (blk_cell BX.out 5).trans rfl; have hz6 : w8.cell? ⟨gx, 6, none⟩ = some (.int .i64 x.f6) := (blk_cell BX.out 6).trans rfl; have hz7 : w8.cell? ⟨gx, 7, none⟩ = some (.int .i64 x.f7) := (blk_cell BX.out 7).trans rfl; have n_ := Aside0.mk (HB.out.grown hg_ HB.out.size (fun k_ hk_ => by injection hk_ with hk_; have := GM.out; omega)); clear HB; have HB := n_; clear n_; have n_ := Aside0.mk hu_; clear HU hu_ hg_; have HU := n_; clear n_) | (go_at_call 40; refine (impl_Sched_lock.calls gp n_ q_ _ _ c2 Ls x.f7 _ BP.out ?sC hlm2.out).mono ?_; (case sC => exact Kd.C_below hC2.out HB.out); rintro e w9 ⟨rfl, rfl⟩; rw [hj.out]; simp only [impl_Sched_lock.ptr, Option.map_some]))
          go_roundg (Ts.length - (i + 1))
          case measure => have := hk.out; have := hi.out; omega
          case rel => exact ⟨x.f0, i + 1, x.f3 :: S, rfl, by first | rfl | (simp; done) | (simp [*]; done), ⟨by have := hi.out; omega⟩, HA, HU, BP, HB⟩
      have g2 : (x.f2 == 2) = false := by simpa using s2
      have G2 := Aside0.mk s2
      clear s2
      by_cases s3 : x.f2 = 3
      · have g3 : (x.f2 == 3) = true := by simpa using s3
        have G3 := Aside0.mk s3
        clear s3
        by_cases c3a : x.f7 ≠ -1
        · have H1 : impl_SchedOk.one n_ q_ Ls S last x = false := by unfold impl_SchedOk.one; rw [if_neg C0.out, if_neg C1.out, if_neg C2.out, if_neg C3.out, if_neg C4.out, if_neg C5.out, if_neg C6.out, if_neg C7.out, if_neg C8.out, if_neg C9.out, if_neg C10.out, if_neg G1.out, if_neg G2.out, if_pos G3.out, if_pos c3a]
          have HA : Aside0 (impl_SchedOk.ok n_ q_ Ts Ls = false) := ⟨by rw [HA1.out, H1]; rfl⟩
          clear HA1 H1
          have f3a : (x.f7 != -1) = true := by simpa using c3a
          clear c3a
          go_wp2_with (first | (at_lookup; refine wpList_used (by first | rfl | simp [Region.wanted, yielded]) _ _ rfl (b := w3.heap.size) (n := i) (S := S) (y := x.f3) rfl rfl HU.out WF.out ?_) | (at_mapUpdate; refine wpList_use rfl _ _ _ rfl (b := w3.heap.size) (n := i) (S := S) (y := x.f3) rfl rfl rfl HU.out (by have := hl.out; have := hi.out; unfold maxLen; omega) WF.out ?_; intro w8 hu_ hg_; have n_ := Aside0.mk (blk_grown BP.out hg_ (fun e_ => NPM.out (Option.some.inj e_))); clear BP hp0 hp1 hp2 hp3; have BP := n_; clear n_; have hp0 : w8.cell? ⟨gp, 0, none⟩ = some (.int .i64 n_) := (blk_cell BP.out 0).trans rfl; have hp1 : w8.cell? ⟨gp, 1, none⟩ = some (.int .i64 q_) := (blk_cell BP.out 1).trans rfl; have hp2 : w8.cell? ⟨gp, 2, none⟩ = some (.slice (some ad) Ts.length c) := (blk_cell BP.out 2).trans rfl; have hp3 : w8.cell? ⟨gp, 3, none⟩ = some (.slice A2 Ls.length c2) := (blk_cell BP.out 3).trans rfl; have n_ := Aside0.mk (blk_grown BX.out hg_ (fun e_ => NM.out (Option.some.inj e_).symm)); clear BX hz0 hz1 hz2 hz3 hz4 hz5 hz6 hz7; have BX := n_; clear n_; have hz0 : w8.cell? ⟨gx, 0, none⟩ = some (.int .i64 x.f0) := (blk_cell BX.out 0).trans rfl; have hz1 : w8.cell? ⟨gx, 1, none⟩ = some (.int .i64 x.f1) := (blk_cell BX.out 1).trans rfl; have hz2 : w8.cell? ⟨gx, 2, none⟩ = some (.int .i64 x.f2) := (blk_cell BX.out 2).trans rfl; have hz3 : w8.cell? ⟨gx, 3, none⟩ = some (.int .i64 x.f3) := (blk_cell BX.out 3).trans rfl; have hz4 : w8.cell? ⟨gx, 4, none⟩ = some (.int .i64 x.f4) := (blk_cell BX.out 4).trans rfl; have hz5 : w8.cell? ⟨gx, 5, none⟩ = some (.int .i64 x.f5) := (blk_cell BX.out 5).trans rfl; have hz6 : w8.cell? ⟨gx, 6, none⟩ = some (.int .i64 x.f6) := (blk_cell BX.out 6).trans rfl; have hz7 : w8.cell? ⟨gx, 7, none⟩ = some (.int .i64 x.f7) := (blk_cell BX.out 7).trans rfl; have n_ := Aside0.mk (HB.out.grown hg_ HB.out.size (fun k_ hk_ => by injection hk_ with hk_; have := GM.out; omega)); clear HB; have HB := n_; clear n_; have n_ := Aside0.mk hu_; clear HU hu_ hg_; have HU := n_; clear n_))
          go_ret
          exact ⟨by rw [HA.out]; rfl, HB.out⟩
        have d3a : (x.f7 != -1) = false := by simpa using c3a
        have C3a := Aside0.mk c3a
        clear c3a
        by_cases c3b : x.f6 ≤ 0
        · have H1 : impl_SchedOk.one n_ q_ Ls S last x = false := by unfold impl_SchedOk.one; rw [if_neg C0.out, if_neg C1.out, if_neg C2.out, if_neg C3.out, if_neg C4.out, if_neg C5.out, if_neg C6.out, if_neg C7.out, if_neg C8.out, if_neg C9.out, if_neg C10.out, if_neg G1.out, if_neg G2.out, if_pos G3.out, if_neg C3a.out, if_pos c3b]
          have HA : Aside0 (impl_SchedOk.ok n_ q_ Ts Ls = false) := ⟨by rw [HA1.out, H1]; rfl⟩
          clear HA1 H1
          have f3b : decide (x.f6 ≤ 0) = true := decide_eq_true c3b
          clear c3b
          go_wp2_with (first | (at_lookup; refine wpList_used (by first | rfl | simp [Region.wanted, yielded]) _ _ rfl (b := w3.heap.size) (n := i) (S := S) (y := x.f3) rfl rfl HU.out WF.out ?_) | (at_mapUpdate; refine wpList_use rfl _ _ _ rfl (b := w3.heap.size) (n := i) (S := S) (y := x.f3) rfl rfl rfl HU.out (by have := hl.out; have := hi.out; unfold maxLen; omega) WF.out ?_; intro w8 hu_ hg_; have n_ := Aside0.mk (blk_grown BP.out hg_ (fun e_ => NPM.out (Option.some.inj e_))); clear BP hp0 hp1 hp2 hp3; have BP := n_; clear n_; have hp0 : w8.cell? ⟨gp, 0, none⟩ = some (.int .i64 n_) := (blk_cell BP.out 0).trans rfl; have hp1 : w8.cell? ⟨gp, 1, none⟩ = some (.int .i64 q_) := (blk_cell BP.out 1).trans rfl; have hp2 : w8.cell? ⟨gp, 2, none⟩ = some (.slice (some ad) Ts.length c) := (blk_cell BP.out 2).trans rfl; have hp3 : w8.cell? ⟨gp, 3, none⟩ = some (.slice A2 Ls.length c2) := (blk_cell BP.out 3).trans rfl; have n_ := Aside0.mk (blk_grown BX.out hg_ (fun e_ => NM.out (Option.some.inj e_).symm)); clear BX hz0 hz1 hz2 hz3 hz4 hz5 hz6 hz7; have BX := n_; clear n_; have hz0 : w8.cell? ⟨gx, 0, none⟩ = some (.int .i64 x.f0) := (blk_cell BX.out 0).trans rfl; have hz1 : w8.cell? ⟨gx, 1, none⟩ = some (.int .i64 x.f1) := (blk_cell BX.out 1).trans rfl; have hz2 : w8.cell? ⟨gx, 2, none⟩ = some (.int .i64 x.f2) := (blk_cell BX.out 2).trans rfl; have hz3 : w8.cell? ⟨gx, 3, none⟩ = some (.int .i64 x.f3) := (blk_cell BX.out 3).trans rfl; have hz4 : w8.cell? ⟨gx, 4, none⟩ = some (.int .i64 x.f4) := (blk_cell BX.out 4).trans rfl; have hz5 : w8.cell? ⟨gx, 5, none⟩ = some (.int .i64 x.f5) := (blk_cell BX.out 5).trans rfl; have hz6 : w8.cell? ⟨gx, 6, none⟩ = some (.int .i64 x.f6) := (blk_cell BX.out 6).trans rfl; have hz7 : w8.cell? ⟨gx, 7, none⟩ = some (.int .i64 x.f7) := (blk_cell BX.out 7).trans rfl; have n_ := Aside0.mk (HB.out.grown hg_ HB.out.size (fun k_ hk_ => by injection hk_ with hk_; have := GM.out; omega)); clear HB; have HB := n_; clear n_; have n_ := Aside0.mk hu_; clear HU hu_ hg_; have HU := n_; clear n_))
          go_ret
          exact ⟨by rw [HA.out]; rfl, HB.out⟩
        have d3b : decide (x.f6 ≤ 0) = false := decide_eq_false c3b
        have C3b := Aside0.mk c3b
        clear c3b
        have H1 : impl_SchedOk.one n_ q_ Ls S last x = true := by unfold impl_SchedOk.one; rw [if_neg C0.out, if_neg C1.out, if_neg C2.out, if_neg C3.out, if_neg C4.out, if_neg C5.out, if_neg C6.out, if_neg C7.out, if_neg C8.out, if_neg C9.out, if_neg C10.out, if_neg G1.out, if_neg G2.out, if_pos G3.out, if_neg C3a.out, if_neg C3b.out]
        have HA : Aside0 (impl_SchedOk.ok n_ q_ Ts Ls = (impl_SchedOk.ok1 n_ q_ Ls (x.f3 :: S) x.f0 (Ts.drop (i + 1)) && impl_SchedOk.ok2 Ts (-1) Ls && impl_SchedOk.ok3 Ts Ls Ts)) := ⟨by rw [HA1.out, H1, Bool.true_and]⟩
        clear HA1 H1
        go_wp2_with (first | (at_lookup; refine wpList_used (by first | rfl | simp [Region.wanted, yielded]) _ _ rfl (b := w3.heap.size) (n := i) (S := S) (y := x.f3) rfl rfl HU.out WF.out ?_) | (at_mapUpdate; refine wpList_use rfl _ _ _ rfl (b := w3.heap.size) (n := i) (S := S) (y := x.f3) rfl rfl rfl HU.out (by have := hl.out; have := hi.out; unfold maxLen; omega) WF.out ?_; intro w8 hu_ hg_; have n_ := Aside0.mk (blk_grown BP.out hg_ (fun e_ => NPM.out (Option.some.inj e_))); clear BP hp0 hp1 hp2 hp3; have BP := n_; clear n_; have hp0 : w8.cell? ⟨gp, 0, none⟩ = some (.int .i64 n_) := (blk_cell BP.out 0).trans rfl; have hp1 : w8.cell? ⟨gp, 1, none⟩ = some (.int .i64 q_) := (blk_cell BP.out 1).trans rfl; have hp2 : w8.cell? ⟨gp, 2, none⟩ = some (.slice (some ad) Ts.length c) := (blk_cell BP.out 2).trans rfl; have hp3 : w8.cell? ⟨gp, 3, none⟩ = some (.slice A2 Ls.length c2) := (blk_cell BP.out 3).trans rfl; have n_ := Aside0.mk (blk_grown BX.out hg_ (fun e_ => NM.out (Option.some.inj e_).symm)); clear BX hz0 hz1 hz2 hz3 hz4 hz5 hz6 hz7; have BX := n_; clear n_; have hz0 : w8.cell? ⟨gx, 0, none⟩ = some (.int .i64 x.f0) := (blk_cell BX.out 0).trans rfl; have hz1 : w8.cell? ⟨gx, 1, none⟩ = some (.int .i64 x.f1) := (blk_cell BX.out 1).trans rfl; have hz2 : w8.cell? ⟨gx, 2, none⟩ = some (.int .i64 x.f2) := (blk_cell BX.out 2).trans rfl; have hz3 : w8.cell? ⟨gx, 3, none⟩ = some (.int .i64 x.f3) := (blk_cell BX.out 3).trans rfl; have hz4 : w8.cell? ⟨gx, 4, none⟩ = some (.int .i64 x.f4) := (blk_cell BX.out 4).trans rfl; have hz5 : w8.cell? ⟨gx, 5, none⟩ = some (.int .i64 x.f5) := (blk_cell BX.out 5).trans rfl; have hz6 : w8.cell? ⟨gx, 6, none⟩ = some (.int .i64 x.f6) := (blk_cell BX.out 6).trans rfl; have hz7 : w8.cell? ⟨gx, 7, none⟩ = some (.int .i64 x.f7) := (blk_cell BX.out 7).trans rfl; have n_ := Aside0.mk (HB.out.grown hg_ HB.out.size (fun k_ hk_ => by injection hk_ with hk_; have := GM.out; omega)); clear HB; have HB := n_; clear n_; have n_ := Aside0.mk hu_; clear HU hu_ hg_; have HU := n_; clear n_))
        go_roundg (Ts.length - (i + 1))
        case measure => have := hk.out; have := hi.out; omega
        case rel => exact ⟨x.f0, i + 1, x.f3 :: S, rfl, by first | rfl | (simp; done) | (simp [*]; done), ⟨by have := hi.out; omega⟩, HA, HU, BP, HB⟩
      have g3 : (x.f2 == 3) = false := by simpa using s3
      have G3 := Aside0.mk s3
      clear s3
      have H1 : impl_SchedOk.one n_ q_ Ls S last x = false := by unfold impl_SchedOk.one; rw [if_neg C0.out, if_neg C1.out, if_neg C2.out, if_neg C3.out, if_neg C4.out, if_neg C5.out, if_neg C6.out, if_neg C7.out, if_neg C8.out, if_neg C9.out, if_neg C10.out, if_neg G1.out, if_neg G2.out, if_neg G3.out]
      have HA : Aside0 (impl_SchedOk.ok n_ q_ Ts Ls = false) := ⟨by rw [HA1.out, H1]; rfl⟩
      clear HA1 H1
      go_wp2_with (first | (at_lookup; refine wpList_used (by first | rfl | simp [Region.wanted, yielded]) _ _ rfl (b := w3.heap.size) (n := i) (S := S) (y := x.f3) rfl rfl HU.out WF.out ?_) | (at_mapUpdate; refine wpList_use rfl _ _ _ rfl (b := w3.heap.size) (n := i) (S := S) (y := x.f3) rfl rfl rfl HU.out (by have := hl.out; have := hi.out; unfold maxLen; omega) WF.out ?_; intro w8 hu_ hg_; have n_ := Aside0.mk (blk_grown BP.out hg_ (fun e_ => NPM.out (Option.some.inj e_))); clear BP hp0 hp1 hp2 hp3; have BP := n_; clear n_; have hp0 : w8.cell? ⟨gp, 0, none⟩ = some (.int .i64 n_) := (blk_cell BP.out 0).trans rfl; have hp1 : w8.cell? ⟨gp, 1, none⟩ = some (.int .i64 q_) := (blk_cell BP.out 1).trans rfl; have hp2 : w8.cell? ⟨gp, 2, none⟩ = some (.slice (some ad) Ts.length c) := (blk_cell BP.out 2).trans rfl; have hp3 : w8.cell? ⟨gp, 3, none⟩ = some (.slice A2 Ls.length c2) := (blk_cell BP.out 3).trans rfl; have n_ := Aside0.mk (blk_grown BX.out hg_ (fun e_ => NM.out (Option.some.inj e_).symm)); clear BX hz0 hz1 hz2 hz3 hz4 hz5 hz6 hz7; have BX := n_; clear n_; have hz0 : w8.cell? ⟨gx, 0, none⟩ = some (.int .i64 x.f0) := (blk_cell BX.out 0).trans rfl; have hz1 : w8.cell? ⟨gx, 1, none⟩ = some (.int .i64 x.f1) := (blk_cell BX.out 1).trans rfl; have hz2 : w8.cell? ⟨gx, 2, none⟩ = some (.int .i64 x.f2) := (blk_cell BX.out 2).trans rfl; have hz3 : w8.cell? ⟨gx, 3, none⟩ = some (.int .i64 x.f3) := (blk_cell BX.out 3).trans rfl; have hz4 : w8.cell? ⟨gx, 4, none⟩ = some (.int .i64 x.f4) := (blk_cell BX.out 4).trans rfl; have hz5 : w8.cell? ⟨gx, 5, none⟩ = some (.int .i64 x.f5) := (blk_cell BX.out 5).trans rfl; have hz6 : w8.cell? ⟨gx, 6, none⟩ = some (.int .i64 x.f6) := (blk_cell BX.out 6).trans rfl; have hz7 : w8.cell? ⟨gx, 7, none⟩ = some (.int .i64 x.f7) := (blk_cell BX.out 7).trans rfl; have n_ := Aside0.mk (HB.out.grown hg_ HB.out.size (fun k_ hk_ => by injection hk_ with hk_; have := GM.out; omega)); clear HB; have HB := n_; clear n_; have n_ := Aside0.mk hu_; clear HU hu_ hg_; have HU := n_; clear n_))
      go_ret
      exact ⟨by rw [HA.out]; rfl, HB.out⟩
    · have b2 : (i < Ts.length) = False := eq_false hi
      have b3 : decide (i < Ts.length) = false := decide_eq_false hi
      have HA2 : Aside0 (impl_SchedOk.ok n_ q_ Ts Ls = (impl_SchedOk.ok2 Ts (-1) Ls && impl_SchedOk.ok3 Ts Ls Ts)) := ⟨by rw [HA1_.out, List.drop_eq_nil_of_le (by omega), impl_SchedOk.ok1]; rfl⟩
      clear HA1_ hk hi HU
      go_wp2
      clear b2 b3
      go_loopg [4, 150] Ls.length (fun kq v4 v150 wr2 => ∃ (last : Int) (i2 : Nat), v4 = .int .i64 last ∧ v150 = .int .i64 (i2 : Int) ∧ Aside0 (i2 + kq = Ls.length) ∧ Aside0 (impl_SchedOk.ok n_ q_ Ts Ls = (impl_SchedOk.ok2 Ts last (Ls.drop i2) && impl_SchedOk.ok3 Ts Ls Ts)) ∧ Aside0 (wr2.heap[gp]? = some (.cells #[.int .i64 n_, .int .i64 q_, .slice A Ts.length c, .slice A2 Ls.length c2] 31 (0, 0))) ∧ Aside0 (Below w.heap.size w wr2))
      case atStart => exact ⟨-1, 0, rfl, rfl, ⟨by omega⟩, ⟨by rw [List.drop_zero]; exact HA2.out⟩, BP, HB⟩
      case round =>
        clear BP HB hp0 hp1 hp2 hp3 HA2
        obtain ⟨last, i2, rfl, rfl, hk, HA1_, BP, HB⟩ := hrel
        have hp0 : wr.cell? ⟨gp, 0, none⟩ = some (.int .i64 n_) := (blk_cell BP.out 0).trans rfl; have hp1 : wr.cell? ⟨gp, 1, none⟩ = some (.int .i64 q_) := (blk_cell BP.out 1).trans rfl; have hp2 : wr.cell? ⟨gp, 2, none⟩ = some (.slice A Ts.length c) := (blk_cell BP.out 2).trans rfl; have hp3 : wr.cell? ⟨gp, 3, none⟩ = some (.slice A2 Ls.length c2) := (blk_cell BP.out 3).trans rfl
        by_cases hi : i2 < Ls.length
        · obtain ⟨y, hx⟩ : ∃ y, Ls[i2]? = some y := ⟨_, List.getElem?_eq_getElem hi⟩
          obtain ⟨ad, rfl, h0, h1⟩ := at_T68 hC2.out (i2 : Int) (by omega) (by omega)
          simp only [Int.toNat_natCast, impl_Sched_lock.rd hx] at h0 h1
          have b0 : (0 ≤ (i2 : Int)) = True := eq_true (by omega)
          have b1 : ((i2 : Int) < (Ls.length : Int)) = True := eq_true (by omega)
          have b2 : (i2 < Ls.length) = True := eq_true hi
          have hlast := hl2.out
          have hw : IntKind.i64.wrap ((i2 : Int) + 1) = ((i2 + 1 : Nat) : Int) := by rw [IntKind.wrap_i64]; omega
          have HA1 : Aside0 (impl_SchedOk.ok n_ q_ Ts Ls = (impl_SchedOk.two Ts last y && impl_SchedOk.ok2 Ts y.f0 (Ls.drop (i2 + 1)) && impl_SchedOk.ok3 Ts Ls Ts)) := ⟨by rw [HA1_.out, impl_SchedOk.ok2_at last hx]⟩
          replace h0 := pw_cell_below HB.out h0
          replace h1 := pw_cell_below HB.out h1
          have hi_ := Aside0.mk hi
          clear hx HA1_ hlast hi
          have hi := hi_
          clear hi_
          go_upto_region 28 with (first | ((with_reducible refine gate_dst (N := 8) rfl ?_); refine box_event ?hg (N := 8) ?hd (cs := #[.int .i64 0, .int .i64 0]) (t := 68) ?hr ?_; (case hd => rfl); (case hg => rfl); (case hr => first | (go_simp; done) | (go_simp; rfl)); intro gx hgq w4 hbq hB_; have GX := Aside0.mk (show w.heap.size ≤ gx by rw [hgq]; exact HB.out.size); have NX := Aside0.mk (show gp ≠ gx by rw [hgq]; exact Nat.ne_of_lt (blk_lt BP.out)); have n_ := Aside0.mk (blk_below BP.out hB_); clear BP hp0 hp1 hp2 hp3; have BP := n_; clear n_; have hp0 : w4.cell? ⟨gp, 0, none⟩ = some (.int .i64 n_) := (blk_cell BP.out 0).trans rfl; have hp1 : w4.cell? ⟨gp, 1, none⟩ = some (.int .i64 q_) := (blk_cell BP.out 1).trans rfl; have hp2 : w4.cell? ⟨gp, 2, none⟩ = some (.slice A Ts.length c) := (blk_cell BP.out 2).trans rfl; have hp3 : w4.cell? ⟨gp, 3, none⟩ = some (.slice (some ad) Ls.length c2) := (blk_cell BP.out 3).trans rfl; have n_ := Aside0.mk (below_step HB.out hB_); clear HB hB_; have HB := n_; clear n_; have BX := Aside0.mk hbq; clear hbq hgq) | ((with_reducible refine gate_store (t := 68) (p := 8) rfl ?_); refine wpList_store_row rfl 68 (.tmp 8) (.tmp 153) rfl gx #[.int .i64 y.f0, .int .i64 y.f1] rfl rfl 68 _ BX.out (by kernel_rfl) rfl (by simp [Value.oneCell']) ?_; generalize hw : World.setRow _ _ _ = w5; have n_ : Aside0 (w5.heap[gx]? = some (.cells #[.int .i64 y.f0, .int .i64 y.f1] 68 (0, 0))) := ⟨by rw [← hw]; exact setRow_heap _ _ _ _ _ _ BX.out⟩; clear BX; have BX := n_; clear n_; have n_ : Aside0 (w5.heap[gp]? = some (.cells #[.int .i64 n_, .int .i64 q_, .slice A Ts.length c, .slice (some ad) Ls.length c2] 31 (0, 0))) := ⟨by rw [← hw]; exact (setRow_other _ _ _ _ NX.out).trans BP.out⟩; clear BP hp0 hp1 hp2 hp3; have BP := n_; clear n_; have hp0 : w5.cell? ⟨gp, 0, none⟩ = some (.int .i64 n_) := (blk_cell BP.out 0).trans rfl; have hp1 : w5.cell? ⟨gp, 1, none⟩ = some (.int .i64 q_) := (blk_cell BP.out 1).trans rfl; have hp2 : w5.cell? ⟨gp, 2, none⟩ = some (.slice A Ts.length c) := (blk_cell BP.out 2).trans rfl; have hp3 : w5.cell? ⟨gp, 3, none⟩ = some (.slice (some ad) Ls.length c2) := (blk_cell BP.out 3).trans rfl; have n_ : Aside0 (Below w.heap.size w w5) := ⟨by rw [← hw]; exact below_setRow HB.out GX.out _⟩; clear HB hw; have HB := n_; clear n_; clear h0 h1))
          clear b2
          have hz0 : w5.cell? ⟨gx, 0, none⟩ = some (.int .i64 y.f0) := (blk_cell BX.out 0).trans rfl; have hz1 : w5.cell? ⟨gx, 1, none⟩ = some (.int .i64 y.f1) := (blk_cell BX.out 1).trans rfl
          by_cases c0 : y.f0 ≤ last
          · have HA : Aside0 (impl_SchedOk.ok n_ q_ Ts Ls = false) := ⟨by rw [HA1.out]; unfold impl_SchedOk.two; rw [if_pos c0]; rfl⟩
            have f0 : decide (y.f0 ≤ last) = true := decide_eq_true c0
            clear HA1 c0
            go_wp2
            go_ret
            exact ⟨by rw [HA.out]; rfl, HB.out⟩
          have d0 : decide (y.f0 ≤ last) = false := decide_eq_false c0
          have C0 := Aside0.mk c0
          clear c0
          by_cases c1 : 16 ≤ y.f0
          · have HA : Aside0 (impl_SchedOk.ok n_ q_ Ts Ls = false) := ⟨by rw [HA1.out]; unfold impl_SchedOk.two; rw [if_neg C0.out, if_pos c1]; rfl⟩
            have f1 : decide (16 ≤ y.f0) = true := decide_eq_true c1
            clear HA1 c1
            go_wp2
            go_ret
            exact ⟨by rw [HA.out]; rfl, HB.out⟩
          have d1 : decide (16 ≤ y.f0) = false := decide_eq_false c1
          have C1 := Aside0.mk c1
          clear c1
          obtain ⟨oj, hj⟩ : ∃ oj, Aside0 (impl_Sched_thread.idx y.f1 Ts 0 = oj) := ⟨_, ⟨rfl⟩⟩
          cases oj with
          | none =>
            have HA : Aside0 (impl_SchedOk.ok n_ q_ Ts Ls = false) := ⟨by rw [HA1.out]; unfold impl_SchedOk.two; rw [if_neg C0.out, if_neg C1.out, if_pos hj.out]; rfl⟩
            clear HA1
            go_wp2_with (first | (go_at_call 41; refine (impl_Sched_thread.calls gp n_ q_ _ _ c Ts y.f1 _ BP.out ?sC hlm1.out).mono ?_; (case sC => exact Kd.C_below hC.out HB.out); rintro e w9 ⟨rfl, rfl⟩; rw [hj.out]; simp only [impl_Sched_thread.ptr, Option.map_some]))
            go_ret
            exact ⟨by rw [HA.out]; rfl, HB.out⟩
          | some j =>
            have HA : Aside0 (impl_SchedOk.ok n_ q_ Ts Ls = (impl_SchedOk.ok2 Ts y.f0 (Ls.drop (i2 + 1)) && impl_SchedOk.ok3 Ts Ls Ts)) := ⟨by rw [HA1.out]; unfold impl_SchedOk.two; rw [if_neg C0.out, if_neg C1.out, if_neg (by rw [hj.out]; simp), Bool.true_and]⟩
            have hjl := impl_Sched_thread.idx_lt _ _ _ _ hj.out
            obtain ⟨ad2, rfl, -⟩ := at_T71 hC.out (j : Int) (by omega) (by omega)
            clear HA1 hjl
            go_wp2_with (first | (go_at_call 41; refine (impl_Sched_thread.calls gp n_ q_ _ _ c Ts y.f1 _ BP.out ?sC hlm1.out).mono ?_; (case sC => exact Kd.C_below hC.out HB.out); rintro e w9 ⟨rfl, rfl⟩; rw [hj.out]; simp only [impl_Sched_thread.ptr, Option.map_some]))
            go_roundg (Ls.length - (i2 + 1))
            case measure => have := hk.out; have := hi.out; omega
            case rel => exact ⟨y.f0, i2 + 1, rfl, by first | rfl | (simp; done) | (simp [*]; done), ⟨by have := hi.out; omega⟩, HA, BP, HB⟩
        · have b2 : (i2 < Ls.length) = False := eq_false hi
          have b3 : decide (i2 < Ls.length) = false := decide_eq_false hi
          have HA2 : Aside0 (impl_SchedOk.ok n_ q_ Ts Ls = impl_SchedOk.ok3 Ts Ls Ts) := ⟨by rw [HA1_.out, List.drop_eq_nil_of_le (by omega), impl_SchedOk.ok2]; rfl⟩
          clear HA1_ hk hi
          go_wp2
          clear b2 b3
          go_loopg [175] Ts.length (fun kq v175 wr3 => ∃ i3 : Nat, v175 = .int .i64 (i3 : Int) ∧ Aside0 (i3 + kq = Ts.length) ∧ Aside0 (impl_SchedOk.ok n_ q_ Ts Ls = impl_SchedOk.ok3 Ts Ls (Ts.drop i3)) ∧ Aside0 (wr3.heap[gp]? = some (.cells #[.int .i64 n_, .int .i64 q_, .slice A Ts.length c, .slice A2 Ls.length c2] 31 (0, 0))) ∧ Aside0 (Below w.heap.size w wr3))
          case atStart => exact ⟨0, rfl, ⟨by omega⟩, ⟨by rw [List.drop_zero]; exact HA2.out⟩, BP, HB⟩
          case round =>
            clear BP HB hp0 hp1 hp2 hp3 HA2
            obtain ⟨i3, rfl, hk, HA1_, BP, HB⟩ := hrel
            have hp0 : wr.cell? ⟨gp, 0, none⟩ = some (.int .i64 n_) := (blk_cell BP.out 0).trans rfl; have hp1 : wr.cell? ⟨gp, 1, none⟩ = some (.int .i64 q_) := (blk_cell BP.out 1).trans rfl; have hp2 : wr.cell? ⟨gp, 2, none⟩ = some (.slice A Ts.length c) := (blk_cell BP.out 2).trans rfl; have hp3 : wr.cell? ⟨gp, 3, none⟩ = some (.slice A2 Ls.length c2) := (blk_cell BP.out 3).trans rfl
            by_cases hi : i3 < Ts.length
            · obtain ⟨x, hx⟩ : ∃ x, Ts[i3]? = some x := ⟨_, List.getElem?_eq_getElem hi⟩
              obtain ⟨ad, rfl, h0, h1, h2, h3, h4, h5, h6, h7⟩ := at_T71 hC.out (i3 : Int) (by omega) (by omega)
              simp only [Int.toNat_natCast, impl_Sched_thread.rd hx] at h0 h1 h2 h3 h4 h5 h6 h7
              have b0 : (0 ≤ (i3 : Int)) = True := eq_true (by omega)
              have b1 : ((i3 : Int) < (Ts.length : Int)) = True := eq_true (by omega)
              have b2 : (i3 < Ts.length) = True := eq_true hi
              have hlast := hl.out
              have hw : IntKind.i64.wrap ((i3 : Int) + 1) = ((i3 + 1 : Nat) : Int) := by rw [IntKind.wrap_i64]; omega
              have HA1 : Aside0 (impl_SchedOk.ok n_ q_ Ts Ls = (!(impl_Sched_schedWaits.go Ts Ls x.f0 34 x.f0) && impl_SchedOk.ok3 Ts Ls (Ts.drop (i3 + 1)))) := ⟨by rw [HA1_.out, impl_SchedOk.ok3_at hx]⟩
              replace h0 := pw_cell_below HB.out h0
              replace h1 := pw_cell_below HB.out h1
              replace h2 := pw_cell_below HB.out h2
              replace h3 := pw_cell_below HB.out h3
              replace h4 := pw_cell_below HB.out h4
              replace h5 := pw_cell_below HB.out h5
              replace h6 := pw_cell_below HB.out h6
              replace h7 := pw_cell_below HB.out h7
              have hi_ := Aside0.mk hi
              clear hx HA1_ hlast hi
              have hi := hi_
              clear hi_
              go_upto_region 35 with (first | ((with_reducible refine gate_dst (N := 10) rfl ?_); refine box_event ?hg (N := 10) ?hd (cs := #[.int .i64 0, .int .i64 0, .int .i64 0, .int .i64 0, .int .i64 0, .int .i64 0, .int .i64 0, .int .i64 0]) (t := 71) ?hr ?_; (case hd => rfl); (case hg => rfl); (case hr => first | (go_simp; done) | (go_simp; rfl)); intro gx hgq w4 hbq hB_; have GX := Aside0.mk (show w.heap.size ≤ gx by rw [hgq]; exact HB.out.size); have NX := Aside0.mk (show gp ≠ gx by rw [hgq]; exact Nat.ne_of_lt (blk_lt BP.out)); have n_ := Aside0.mk (blk_below BP.out hB_); clear BP hp0 hp1 hp2 hp3; have BP := n_; clear n_; have hp0 : w4.cell? ⟨gp, 0, none⟩ = some (.int .i64 n_) := (blk_cell BP.out 0).trans rfl; have hp1 : w4.cell? ⟨gp, 1, none⟩ = some (.int .i64 q_) := (blk_cell BP.out 1).trans rfl; have hp2 : w4.cell? ⟨gp, 2, none⟩ = some (.slice (some ad) Ts.length c) := (blk_cell BP.out 2).trans rfl; have hp3 : w4.cell? ⟨gp, 3, none⟩ = some (.slice A2 Ls.length c2) := (blk_cell BP.out 3).trans rfl; have n_ := Aside0.mk (below_step HB.out hB_); clear HB hB_; have HB := n_; clear n_; have BX := Aside0.mk hbq; clear hbq hgq) | ((with_reducible refine gate_store (t := 71) (p := 10) rfl ?_); refine wpList_store_row rfl 71 (.tmp 10) (.tmp 178) rfl gx #[.int .i64 x.f0, .int .i64 x.f1, .int .i64 x.f2, .int .i64 x.f3, .int .i64 x.f4, .int .i64 x.f5, .int .i64 x.f6, .int .i64 x.f7] rfl rfl 71 _ BX.out (by kernel_rfl) rfl (by simp [Value.oneCell']) ?_; generalize hw : World.setRow _ _ _ = w5; have n_ : Aside0 (w5.heap[gx]? = some (.cells #[.int .i64 x.f0, .int .i64 x.f1, .int .i64 x.f2, .int .i64 x.f3, .int .i64 x.f4, .int .i64 x.f5, .int .i64 x.f6, .int .i64 x.f7] 71 (0, 0))) := ⟨by rw [← hw]; exact setRow_heap _ _ _ _ _ _ BX.out⟩; clear BX; have BX := n_; clear n_; have n_ : Aside0 (w5.heap[gp]? = some (.cells #[.int .i64 n_, .int .i64 q_, .slice (some ad) Ts.length c, .slice A2 Ls.length c2] 31 (0, 0))) := ⟨by rw [← hw]; exact (setRow_other _ _ _ _ NX.out).trans BP.out⟩; clear BP hp0 hp1 hp2 hp3; have BP := n_; clear n_; have hp0 : w5.cell? ⟨gp, 0, none⟩ = some (.int .i64 n_) := (blk_cell BP.out 0).trans rfl; have hp1 : w5.cell? ⟨gp, 1, none⟩ = some (.int .i64 q_) := (blk_cell BP.out 1).trans rfl; have hp2 : w5.cell? ⟨gp, 2, none⟩ = some (.slice (some ad) Ts.length c) := (blk_cell BP.out 2).trans rfl; have hp3 : w5.cell? ⟨gp, 3, none⟩ = some (.slice A2 Ls.length c2) := (blk_cell BP.out 3).trans rfl; have n_ : Aside0 (Below w.heap.size w w5) := ⟨by rw [← hw]; exact below_setRow HB.out GX.out _⟩; clear HB hw; have HB := n_; clear n_; clear h0 h1 h2 h3 h4 h5 h6 h7))
              clear b2
              have hz0 : w5.cell? ⟨gx, 0, none⟩ = some (.int .i64 x.f0) := (blk_cell BX.out 0).trans rfl; have hz1 : w5.cell? ⟨gx, 1, none⟩ = some (.int .i64 x.f1) := (blk_cell BX.out 1).trans rfl; have hz2 : w5.cell? ⟨gx, 2, none⟩ = some (.int .i64 x.f2) := (blk_cell BX.out 2).trans rfl; have hz3 : w5.cell? ⟨gx, 3, none⟩ = some (.int .i64 x.f3) := (blk_cell BX.out 3).trans rfl; have hz4 : w5.cell? ⟨gx, 4, none⟩ = some (.int .i64 x.f4) := (blk_cell BX.out 4).trans rfl; have hz5 : w5.cell? ⟨gx, 5, none⟩ = some (.int .i64 x.f5) := (blk_cell BX.out 5).trans rfl; have hz6 : w5.cell? ⟨gx, 6, none⟩ = some (.int .i64 x.f6) := (blk_cell BX.out 6).trans rfl; have hz7 : w5.cell? ⟨gx, 7, none⟩ = some (.int .i64 x.f7) := (blk_cell BX.out 7).trans rfl
              obtain ⟨wb, hwb⟩ : ∃ wb, Aside0 (impl_Sched_schedWaits.go Ts Ls x.f0 34 x.f0 = wb) := ⟨_, ⟨rfl⟩⟩
              cases wb with
              | true =>
                have HA : Aside0 (impl_SchedOk.ok n_ q_ Ts Ls = false) := ⟨by rw [HA1.out, hwb.out]; rfl⟩
                clear HA1
                go_wp2_with (first | (go_at_call 42; refine (impl_Sched_schedWaits.calls gp n_ q_ _ c Ts _ c2 Ls x.f0 x.f0 _ BP.out ?sC ?sD hlm1.out hlm2.out).mono ?_; (case sC => exact Kd.C_below hC.out HB.out); (case sD => exact Kd.C_below hC2.out HB.out); rintro e w9 ⟨rfl, rfl⟩; rw [hwb.out]))
                go_ret
                exact ⟨by rw [HA.out]; rfl, HB.out⟩
              | false =>
                have HA : Aside0 (impl_SchedOk.ok n_ q_ Ts Ls = impl_SchedOk.ok3 Ts Ls (Ts.drop (i3 + 1))) := ⟨by rw [HA1.out, hwb.out]; rfl⟩
                clear HA1
                go_wp2_with (first | (go_at_call 42; refine (impl_Sched_schedWaits.calls gp n_ q_ _ c Ts _ c2 Ls x.f0 x.f0 _ BP.out ?sC ?sD hlm1.out hlm2.out).mono ?_; (case sC => exact Kd.C_below hC.out HB.out); (case sD => exact Kd.C_below hC2.out HB.out); rintro e w9 ⟨rfl, rfl⟩; rw [hwb.out]))
                go_roundg (Ts.length - (i3 + 1))
                case measure => have := hk.out; have := hi.out; omega
                case rel => exact ⟨i3 + 1, by first | rfl | (simp; done) | (simp [*]; done), ⟨by have := hi.out; omega⟩, HA, BP, HB⟩
            · have b2 : (i3 < Ts.length) = False := eq_false hi
              have b3 : decide (i3 < Ts.length) = false := decide_eq_false hi
              have HA2 : Aside0 (impl_SchedOk.ok n_ q_ Ts Ls = true) := ⟨by rw [HA1_.out, List.drop_eq_nil_of_le (by omega)]; rfl⟩
              clear HA1_ hk hi
              go_wp2
              go_ret
              exact ⟨by rw [HA2.out]; rfl, HB.out⟩

end Go.Proofs.Ytdlgalaemnjfjaa.PFnExactPriority
