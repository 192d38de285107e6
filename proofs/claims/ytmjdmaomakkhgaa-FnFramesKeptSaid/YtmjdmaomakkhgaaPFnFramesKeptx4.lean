-- Written by a program of this session out of the translation. Not trusted: Lean checks it.
import Derived.Test.YtmjdmaomakkhgaaPFnFramesKeptx0
import Derived.Test.YtmjdmaomakkhgaaPFnFramesKeptx3
namespace Go.Proofs.Ytmjdmaomakkhgaa.PFnFramesKept
open Go.RowKit Go.Proofs.YtmjdmaomakkhgaaW.PrintWords Go.Proofs.YtmjdmaomakkhgaaW.PrintLast Go.Proofs.YtmjdmaomakkhgaaW.PrintMore
attribute [local go_sem] max2_int min2_int max_two min_two max_three min_three max_four min_four   -- for this text's walks alone
set_option linter.unusedVariables false
set_option linter.unusedSimpArgs false
theorem Z4_18 {P : Prop} (h : P := by decide) : P := h
theorem Z4_17 {P : Prop} (h : P := by rw [hg]; exact (below_size Z4_2)) : P := h
theorem Z4_16 {P : Prop} (h : P := by have h1_ := ho.out; have h2_ := ha.out; rw [hwn.out]; omega) : P := h
theorem Z4_15 {P : Prop} (h : P := by have h1_ := ho.out; have h2_ := ha.out; omega) : P := h
theorem Z4_14 {P : Prop} (h : P := by first | rfl | (simp [errW_none, errW_some] <;> rfl) | (simp [*, errW_none, errW_some] <;> rfl)) : P := h
theorem Z4_13 {P : Prop} (h : P := by (with_reducible repeat (first | apply blk_drewN | apply blk_drew | apply blk_alloc)); exact BK139.out) : P := h
theorem Z4_12 {P : Prop} (h : P := by repeat (first | (with_reducible first | exact HB.out | apply below_alloc | apply pw_below_drewN | apply below_drew1 | refine below_set ?_ GE139.out) | exact HB.out)) : P := h
theorem Z4_11 {P : Prop} (h : P := by first | (go_simp; done) | (go_simp; rfl)) : P := h
theorem Z4_10 {P : Prop} (h : P := by repeat (first | (with_reducible first | exact HB.out | apply below_alloc | apply pw_below_drewN | apply below_drew1 | refine below_set ?_ GE139.out | refine below_set ?_ GE140.out) | exact HB.out)) : P := h
theorem Z4_9 {P : Prop} (h : P := by repeat (first | (with_reducible first | exact HB.out | apply below_alloc | apply pw_below_drewN | apply below_drew1 | refine below_set ?_ GE132.out | refine below_set ?_ GE137.out) | exact HB.out)) : P := h
theorem Z4_8 {P : Prop} (h : P := by (with_reducible repeat (first | apply Kd.R_alloc | apply Kd.R_drewN | apply Kd.R_drew)); exact HO_3.out) : P := h
theorem Z4_7 {P : Prop} (h : P := by first | (with_reducible assumption) | assumption) : P := h
theorem Z4_6 {P : Prop} (h : P := by (with_reducible repeat (first | apply blk_drewN | apply blk_drew | apply blk_alloc)); exact BK123.out) : P := h
theorem Z4_5 {P : Prop} (h : P := by first | rfl | exact congrArg (Value.int .i64) (i64_w _) | (simp; done) | (simp [*]; done)) : P := h
theorem Z4_4 {P : Prop} (h : P := by (with_reducible repeat (first | apply blk_drewN | apply blk_drew | apply blk_alloc)); exact BK132.out) : P := h
theorem Z4_3 {P : Prop} (h : P := by repeat (first | (with_reducible first | exact HB.out | apply below_alloc | apply pw_below_drewN | apply below_drew1 | refine below_set ?_ GE132.out) | exact HB.out)) : P := h
theorem Z4_2 {P : Prop} (h : P := by repeat (first | (with_reducible first | exact HB.out | apply below_alloc | apply pw_below_drewN | apply below_drew1) | exact HB.out)) : P := h
theorem Z4_1 {P : Prop} (h : P := by repeat (first | (with_reducible first | exact HB.out | apply below_alloc | apply pw_below_drewN | apply below_drew1 | refine below_set ?_ GE123.out) | exact HB.out)) : P := h

/-! ### impl_framesOf: function 77 -/
/-- What framesOf's walk over aligned halves lists. -/
def impl_framesOf.whole (m : List Bool) (a n : Nat) : Prop := a + n ≤ m.length ∧ ∀ i, i < n → m[a + i]? = some true
instance (m : List Bool) (a n : Nat) : Decidable (impl_framesOf.whole m a n) := by unfold impl_framesOf.whole; exact inferInstance
def impl_framesOf.walk (m : List Bool) : Nat → Nat → List S73
 | 0, a => if m.length ≤ a then [] else if impl_framesOf.whole m a (2 ^ 0) then [⟨(a : Int), (0 : Nat)⟩] else []
 | o + 1, a => if m.length ≤ a then [] else if impl_framesOf.whole m a (2 ^ (o + 1)) then [⟨(a : Int), (o + 1 : Nat)⟩] else impl_framesOf.walk m o a ++ impl_framesOf.walk m o (a + 2 ^ o)
def impl_framesOf.f (l0 : List Bool) : Option (Int × List S73) := if l0.length ≤ 1024 then some ((l0.length : Int), impl_framesOf.walk l0 10 0) else none
theorem impl_framesOf.walk_len (m : List Bool) : ∀ (o a : Nat), (impl_framesOf.walk m o a).length ≤ 2 ^ o := by
 intro o
 induction o with
 | zero =>
  intro a; unfold impl_framesOf.walk
  split
  · simp
  · split <;> simp
 | succ o ih =>
  intro a; unfold impl_framesOf.walk
  have h1 := ih a
  have h2 := ih (a + 2 ^ o)
  have h3 := Nat.two_pow_pos o
  split; · simp
  split
  ·rw [List.length_singleton, Nat.pow_succ]; omega
  rw [List.length_append, Nat.pow_succ]; omega
theorem impl_framesOf.walk_none {m : List Bool} {a : Nat} (h : m.length ≤ a) : ∀ o, impl_framesOf.walk m o a = [] := by
 intro o; cases o <;> (unfold impl_framesOf.walk; exact if_pos h)
theorem impl_framesOf.walk_one {m : List Bool} {a : Nat} : ∀ o, ¬ m.length ≤ a → impl_framesOf.whole m a (2 ^ o) → impl_framesOf.walk m o a = [⟨(a : Int), (o : Int)⟩] := by
 intro o h w; cases o <;> (unfold impl_framesOf.walk; rw [if_neg h, if_pos w])
theorem impl_framesOf.index (x : List Bool) (hx : x.length ≤ 1024) : ∀ (d i : Nat), i + d = x.length → ∃ r : Int, slices_Index_bool_bool.l0 (d + 1) x false (x.length : Int) (i : Int) = some r ∧ (r ≥ 0 ↔ ¬ ∀ j, i ≤ j → j < x.length → x[j]? = some true) := by
 intro d
 induction d with
 | zero =>
  intro i h
  refine ⟨-1, ?_, ?_⟩
  ·unfold slices_Index_bool_bool.l0; exact if_neg (by omega)
  exact ⟨fun h => absurd h Z4_18, fun h => absurd (fun j h1 h2 => by omega) h⟩
 | succ d ih =>
  intro i h
  have hi : i < x.length := by omega
  have hr : rdOf false x (i : Int) = x[i] := by simp [rdOf, List.getD_eq_getElem?_getD, hi]
  unfold slices_Index_bool_bool.l0
  rw [if_pos (by omega), if_pos (by omega), if_pos (by omega), hr]
  cases hb : x[i] with
  | false =>
   refine ⟨(i : Int), if_pos rfl, ⟨fun _ hh => ?_, fun _ => by omega⟩⟩
   have := hh i (Nat.le_refl _) hi
   rw [List.getElem?_eq_getElem hi, hb] at this
   exact absurd this Z4_18
  | true =>
   obtain ⟨r, h1, h2⟩ := ih (i + 1) (by omega)
   refine ⟨r, ?_, h2.trans (not_congr ⟨fun hh j h3 h4 => ?_, fun hh j h3 h4 => hh j (by omega) h4⟩)⟩
   ·rw [if_neg Z4_18, show wrap64 ((i : Int) + 1) = ((i + 1 : Nat) : Int) by unfold wrap64; omega]
    exact h1
   rcases Nat.eq_or_lt_of_le h3 with e | e
   ·rw [← e, List.getElem?_eq_getElem hi, hb]
   exact hh j (by omega) h4
theorem impl_framesOf.contains (x : List Bool) (hx : x.length ≤ 1024) : slices_Contains_bool_bool.f (x.length + 1) x false = some (!decide (∀ j, j < x.length → x[j]? = some true)) := by
 obtain ⟨r, h1, h2⟩ := impl_framesOf.index x hx x.length 0 (by omega)
 unfold slices_Contains_bool_bool.f slices_Index_bool_bool.f
 have h3 : slices_Index_bool_bool.l0 (x.length + 1) x false (x.length : Int) 0 = some r := h1
 rw [h3, Option.bind_some, Option.some.injEq]
 by_cases h : ∀ j, j < x.length → x[j]? = some true
 ·rw [decide_eq_true h, decide_eq_false (fun hr => h2.1 hr (fun j _ hj => h j hj))]; rfl
 rw [decide_eq_false h, decide_eq_true (h2.2 (fun hh => h (fun j hj => hh j (Nat.zero_le _) hj)))]; rfl
theorem impl_framesOf.part {m : List Bool} {a n : Nat} (h : a + n ≤ m.length) : (!(!decide (∀ j, j < ((m.take (a + n)).drop a).length → ((m.take (a + n)).drop a)[j]? = some true))) = decide (impl_framesOf.whole m a n) := by
 have hl : ((m.take (a + n)).drop a).length = n := by rw [List.length_drop, List.length_take]; omega
 rw [Bool.not_not, decide_eq_decide, hl]
 unfold impl_framesOf.whole
 constructor
 ·intro hh
  refine ⟨h, fun i hi => ?_⟩
  have := hh i hi
  rw [List.getElem?_drop, List.getElem?_take_of_lt (by omega)] at this
  exact this
 intro hh j hj
 rw [List.getElem?_drop, List.getElem?_take_of_lt (by omega)]
 exact hh.2 j hj
/-- A call through a slot that holds a closure's value. -/
theorem goesC_ {P : Program} {ops : Array Oper} {Q : Exit → Act → World → Prop} {rest : List Oper} {oi : Oper} {a : Act} {w : World} (N : Option Tmp) (hd : oi.dst = N) (hg : oi.guard = none) {f : FuncId} {fn : Func} {t : Tmp} {xs : Array Operand} {ts : Array TypeId} (hf : P.funcs[f]? = some fn) (hname : (fn.name == "runtime.NumGoroutine") = false) (hb : fn.body.isSome = true) (args caps all : Array Value)
  (hop : oi.op = .call { callee := .value (.tmp t), args := xs, argTypes := ts }) (hv : a.eval (.tmp t) = .func (.func f) #[] caps) (hargs : xs.map a.eval = args) (hall : args ++ caps = all)
  (h : Calls P f all w fun e w' => ∃ v, e = .returned v ∧ wpList P ops Q rest (a.put N v) w') : wpList P ops Q (oi :: rest) a w := by
 refine wpList_plain hg fun K hK => ?_
 have he := enters_ hf hname hb all w
 have hrun : (execOp a.eval oi).run P w = .ok (.enter f all) w := by
  unfold execOp
  simp only [hop, resolve, hv]
  simp [Deferred.ofValue, invoke, hargs, hall, he]
 unfold Oper.wp
 rw [hrun, Oper.upon_enter]
 refine h.mono fun e w'' hh => ?_
 obtain ⟨v, rfl, hk⟩ := hh
 subst hd
 exact hK _ _ hk
def impl_framesOf.fv (gf gm gw : Nat) : Value := .func (.func 104) #[] #[.pointer (some ⟨gf, 0, none⟩), .pointer (some ⟨gm, 0, none⟩), .pointer (some ⟨gw, 0, none⟩)]
def impl_framesOf.St (l0 : List Bool) (A0 : Option Addr) (c0 : Nat) (w0 : World) (gf gm gw gr : Nat) (W : World) (u : Value) (acc : List S73) : Prop :=
 W.heap[gf]? = some (.cells #[.int .i64 (l0.length : Int), u] 50 (0, 0)) ∧ W.heap[gm]? = some (.cells #[.slice A0 l0.length c0] 105 (0, 0)) ∧ W.heap[gw]? = some (.cells #[impl_framesOf.fv gf gm gw] 131 (0, 0)) ∧ W.heap[gr]? = some (.cells #[.int .i64 0, .slice none 0 0] 50 (0, 0)) ∧ Kd.R k73 73 W w0.heap.size (fun _ => True) u acc ∧ Below w0.heap.size w0 W
set_option maxHeartbeats 4000000 in
set_option maxRecDepth 100000 in
theorem impl_framesOf.clo (l0 : List Bool) (A0 : Option Addr) (c0 : Nat) (hl : l0.length ≤ 1024) (w0 : World) (hr0 : Kd.C Kd.bool w0 A0 l0.length l0) (hc0 : l0.length ≤ c0) (gf gm gw gr : Nat) (hrf : gr ≠ gf) (hgf : w0.heap.size ≤ gf) (hgm : w0.heap.size ≤ gm) (hgw : w0.heap.size ≤ gw) :
  ∀ (o a : Nat) (oi ai : Int) (W : World) (u : Value) (acc : List S73), oi = (o : Int) → ai = (a : Int) → o ≤ 10 → a + 2 ^ o ≤ 1024 → acc.length ≤ a → impl_framesOf.St l0 A0 c0 w0 gf gm gw gr W u acc →
  Calls Try.prog 104 #[.int .i64 ai, .int .i64 oi, .pointer (some ⟨gf, 0, none⟩), .pointer (some ⟨gm, 0, none⟩), .pointer (some ⟨gw, 0, none⟩)] W fun e W' => e = .returned (.tuple #[]) ∧ ∃ u', impl_framesOf.St l0 A0 c0 w0 gf gm gw gr W' u' (acc ++ impl_framesOf.walk l0 o a) := by
 intro o
 induction o using Nat.strongRecOn with
 | ind o ih =>
  intro a oi ai W u acc ho_ ha_ ho10 hb hal hst
  have ho := Aside0.mk ho_
  have ha := Aside0.mk ha_
  clear ho_ ha_
  obtain ⟨BF, BM, BW, BR, HO, HB⟩ := hst
  have BKf := Aside0.mk BF
  have BKm := Aside0.mk BM
  have BKw := Aside0.mk BW
  have BKr := Aside0.mk BR
  have HO_ := Aside0.mk HO
  have HB_ := Aside0.mk HB
  clear BF BM BW BR HO HB
  have hp2 := Nat.two_pow_pos o
  have q0b0 := eq_true (show 0 ≤ oi by have h1_ := ho.out; omega)
  have q0b1 : decide (0 ≤ oi) = true := decide_eq_true Z4_15
  obtain ⟨ji16, hji16⟩ : ∃ j_ : Int, (shl .i64 1 oi) = j_ := ⟨_, rfl⟩
  have hji16_ : (IntKind.i64.wrap (1 * 2 ^ min oi.toNat 64)) = ji16 := hji16
  have hji16z : oi ≤ 64 → (IntKind.i64.wrap (1 * 2 ^ oi.toNat)) = ji16 := shl_small hji16
  have hji16u : (IntKind.i64.wrap (2 ^ min oi.toNat 64)) = ji16 := by have h_ := hji16_; rw [Int.one_mul] at h_; exact h_
  have hji16v : oi ≤ 64 → (IntKind.i64.wrap (2 ^ oi.toNat)) = ji16 := fun hle_ => by have h_ := hji16z hle_; rw [Int.one_mul] at h_; exact h_
  have hji16y : (wrap64 (1 * 2 ^ min oi.toNat 64)) = ji16 := (i64_w _).symm.trans hji16_
  have hji16x : oi ≤ 64 → (wrap64 (1 * 2 ^ oi.toNat)) = ji16 := fun h_ => (i64_w _).symm.trans (hji16z h_)
  have hle64_ : oi ≤ 64 := by have h1_ := ho.out; omega
  have hji_a := hji16v hle64_
  have hji_b := hji16x hle64_
  have hji_c : wrap64 (2 ^ oi.toNat) = ji16 := (i64_w _).symm.trans hji_a
  have hji_d := hji16z hle64_
  have hji_e : wrap64 (2 ^ min oi.toNat 64) = ji16 := (i64_w _).symm.trans hji16u
  have hjn : Aside0 (ji16 = ((2 ^ o : Nat) : Int)) := ⟨by
   have h1 := hji16v Z4_15
   rw [← h1, i64_w, show oi.toNat = o by have h1_ := ho.out; omega]
   have h2 : ((2 : Int) ^ o) = ((2 ^ o : Nat) : Int) := by simp
   rw [h2]
   unfold wrap64; omega⟩
  have hczf_0 : W.cell? ⟨gf, 0, none⟩ = some (.int .i64 (l0.length : Int)) := (blk_cell BKf.out 0).trans rfl
  have hczf_1 : W.cell? ⟨gf, 1, none⟩ = some u := (blk_cell BKf.out 1).trans rfl
  have hczm_0 : W.cell? ⟨gm, 0, none⟩ = some (.slice A0 l0.length c0) := (blk_cell BKm.out 0).trans rfl
  have hczw_0 : W.cell? ⟨gw, 0, none⟩ = some (.func (.func 104) #[] #[.pointer (some ⟨gf, 0, none⟩), .pointer (some ⟨gm, 0, none⟩), .pointer (some ⟨gw, 0, none⟩)]) := (blk_cell BKw.out 0).trans rfl
  by_cases c1 : l0.length ≤ a
  ·have c1b0 : decide ((l0.length : Int) ≤ ai) = true := decide_eq_true Z4_15
   go_enter Try.func104, Try.ntmps104
   go_wp2
   first | go_end0 | ((try simp only [Exit.inBlock, Exit.then]); refine bodyPost_ret (results_none rfl _ _ _) rfl ?_)
   exact ⟨rfl, u, by rw [impl_framesOf.walk_none c1, List.append_nil]; exact ⟨BKf.out, BKm.out, BKw.out, BKr.out, HO_.out, HB_.out⟩⟩
  have c1b0 : decide ((l0.length : Int) ≤ ai) = false := decide_eq_false Z4_15
  have hwn : Aside0 (wrap64 (ai + ji16) = ((a + 2 ^ o : Nat) : Int)) := ⟨by rw [hjn.out, ha.out]; unfold wrap64; omega⟩
  by_cases c2 : a + 2 ^ o ≤ l0.length
  ·have c2b0 : decide (wrap64 (ai + ji16) ≤ (l0.length : Int)) = true := decide_eq_true Z4_16
   obtain ⟨i0q, hi0q, _, hszq, _⟩ := info_parts info4
   obtain ⟨Aq, hcutq, hAq, hCq⟩ := print_mid_of (P := Try.prog) Value.bool false 105 4 .i64 .i64 Try.underlying105 hi0q hszq A0 c0 l0 ai (wrap64 (ai + ji16)) Z4_15 Z4_16 Z4_16 hc0
   have HCq := Aside0.mk hCq
   have HAq := Aside0.mk (hAq _ (Kd.reads_of_C (Kd.C_below hr0 HB_.out)))
   clear hAq hCq hi0q hszq
   obtain ⟨xs, hxs⟩ : ∃ xs_, xs_ = (l0.take (wrap64 (ai + ji16)).toNat).drop ai.toNat := ⟨_, rfl⟩
   have hxl : xs.length ≤ 1024 := by rw [hxs, List.length_drop, List.length_take]; omega
   have hcon := Aside0.mk (impl_framesOf.contains xs hxl)
   have hpart : Aside0 ((!(!decide (∀ j, j < xs.length → xs[j]? = some true))) = decide (impl_framesOf.whole l0 a (2 ^ o))) := ⟨by
    rw [hxs, hwn.out, ha.out]
    exact impl_framesOf.part c2⟩
   rw [← hxs] at hcutq HCq HAq
   have HCx := Aside0.mk (Kd.C_of_reads (h1 := fun _ => rfl) HAq.out)
   clear HAq hxs
   obtain ⟨bq, hbq⟩ : ∃ b_ : Bool, b_ = !decide (∀ j, j < xs.length → xs[j]? = some true) := ⟨_, rfl⟩
   rw [← hbq] at hcon hpart
   clear hbq
   by_cases c3 : impl_framesOf.whole l0 a (2 ^ o)
   ·rw [decide_eq_true c3] at hpart
    obtain rfl : bq = false := by have := hpart.out; revert this; cases bq <;> decide
    go_enter Try.func104, Try.ntmps104
    go_wp2_with (first | (go_at_call 105; ( (with_reducible refine (slices_Contains_bool_bool.calls (xs.length + 1) _ _ xs false false _ ?side1 ?side2 hcon.out).mono ?_); (case side1 => exact HCx.out); (case side2 => exact HCq.out); rintro e w' ⟨rfl, ⟨nd, rfl⟩⟩; generalize hq_ : World.drewN W nd = wr; have n0_ : Aside0 (wr.heap[gf]? = some (.cells #[.int .i64 (l0.length : Int), u] 50 (0, 0))) := ⟨hq_ ▸ blk_drewN BKf.out _⟩; have n1_ : Aside0 (wr.heap[gm]? = some (.cells #[.slice A0 l0.length c0] 105 (0, 0))) := ⟨hq_ ▸ blk_drewN BKm.out _⟩; have n2_ : Aside0 (wr.heap[gw]? = some (.cells #[impl_framesOf.fv gf gm gw] 131 (0, 0))) := ⟨hq_ ▸ blk_drewN BKw.out _⟩; have n5_ : Aside0 (wr.heap[gr]? = some (.cells #[.int .i64 0, .slice none 0 0] 50 (0, 0))) := ⟨hq_ ▸ blk_drewN BKr.out _⟩; have n3_ : Aside0 (Kd.R k73 73 wr w0.heap.size (fun _ => True) u acc) := ⟨hq_ ▸ Kd.R_drewN HO_.out _⟩; have n4_ : Aside0 (Below w0.heap.size w0 wr) := ⟨hq_ ▸ pw_below_drewN HB_.out _⟩; clear BKf BKm BKw BKr HO_ HB_ hq_ hczf_0 hczf_1 hczm_0 hczw_0 HCx; have BKf := n0_; have BKm := n1_; have BKw := n2_; have BKr := n5_; have HO_ := n3_; have HB_ := n4_; clear n0_ n1_ n2_ n3_ n4_ n5_; have hczf_0 : wr.cell? ⟨gf, 0, none⟩ = some (.int .i64 (l0.length : Int)) := (blk_cell BKf.out 0).trans rfl; have hczf_1 : wr.cell? ⟨gf, 1, none⟩ = some u := (blk_cell BKf.out 1).trans rfl; have hczw_0 : wr.cell? ⟨gw, 0, none⟩ = some (.func (.func 104) #[] #[.pointer (some ⟨gf, 0, none⟩), .pointer (some ⟨gm, 0, none⟩), .pointer (some ⟨gw, 0, none⟩)]) := (blk_cell BKw.out 0).trans rfl; have hfzf_1 := blk_frozen BKf.out 1)) | ((with_reducible refine gate_builtin (b := .append) (xs := #[.tmp 31, .tmp 35]) rfl ?_); at_builtin; (refine Kd.R_append k73 (w0 := w0) w0.heap.size rfl (.tmp 31) (.tmp 35) 48 73 (.agg #[(.int .i64 0), (.int .i64 0)]) 16 rfl Try.underlying48 info73 rfl Z4_18 (by omega) u acc (⟨ai, oi⟩ : S73) [.int .i64 ai, .int .i64 oi] (fun _ => True) (fun _ => False) rfl rfl ?aP (fun _ hk => hk.elim) ?aF ?aO ?aB ?aS ?aL ?_; (case aP => exact k73_mkM _ _ _ (⟨ai, oi⟩ : S73)); (case aB => exact HB_.out); (case aF => exact (fun _ _ => trivial)); (case aO => exact HO_.out); (case aS => exact below_size HB_.out); (case aL => omega); intro v1 w1 ho1 hb1 hg1 hat1; have n0_ := Aside0.mk (blk_grown BKf.out hg1 (Kd.R_ne HO_.out BKf.out Z4_18)); have n1_ := Aside0.mk (blk_grown BKm.out hg1 (Kd.R_ne HO_.out BKm.out Z4_18)); have n2_ := Aside0.mk (blk_grown BKw.out hg1 (Kd.R_ne HO_.out BKw.out Z4_18)); have n5_ := Aside0.mk (blk_grown BKr.out hg1 (Kd.R_ne HO_.out BKr.out Z4_18)); have n3_ := Aside0.mk ho1; have n4_ := Aside0.mk hb1; clear BKf BKm BKw BKr HO_ HB_ ho1 hb1 hg1 hat1 hczf_0 hczf_1 hczw_0 hfzf_1; have BKf := n0_; have BKm := n1_; have BKw := n2_; have BKr := n5_; have HO_ := n3_; have HB_ := n4_; clear n0_ n1_ n2_ n3_ n4_ n5_; obtain ⟨Ao1, co1, eo1⟩ := Kd.R_slice HO_.out; subst eo1; have hczf_0 : w1.cell? ⟨gf, 0, none⟩ = some (.int .i64 (l0.length : Int)) := (blk_cell BKf.out 0).trans rfl; have hczf_1 : w1.cell? ⟨gf, 1, none⟩ = some u := (blk_cell BKf.out 1).trans rfl; have hfzf_0 := blk_frozen BKf.out 0; have hfzf_1 := blk_frozen BKf.out 1)))
    first | go_end0 | ((try simp only [Exit.inBlock, Exit.then]); refine bodyPost_ret (results_none rfl _ _ _) rfl ?_)
    refine ⟨rfl, .slice Ao1 (acc ++ [(⟨ai, oi⟩ : S73)]).length co1, ?_⟩
    rw [impl_framesOf.walk_one o c1 c3, ← ha.out, ← ho.out]
    exact ⟨blk_put (cs := #[.int .i64 (l0.length : Int), u]) BKf.out 1 _ (by simp), blk_far BKm.out (blk_ne BKm.out BKf.out Z4_18) _, blk_far BKw.out (blk_ne BKw.out BKf.out Z4_18) _, blk_far BKr.out hrf _, Kd.R_mono (Kd.R_far (p := ⟨gf, 1, none⟩) (Kd.R_types HO_.out BKf.out Z4_18) (fun _ hk => hk.2) _) (fun _ hk => trivial), below_set HB_.out hgf⟩
   rw [decide_eq_false c3] at hpart
   obtain rfl : bq = true := by have := hpart.out; revert this; cases bq <;> decide
   by_cases c4 : o = 0
   ·have c4b0 : (oi == 0) = true := beq_iff_eq.mpr (by rw [ho.out, c4]; rfl)
    have c4w : impl_framesOf.walk l0 o a = [] := by subst c4; unfold impl_framesOf.walk; rw [if_neg c1, if_neg c3]
    go_enter Try.func104, Try.ntmps104
    go_wp2_with (first | (go_at_call 105; (with_reducible refine (slices_Contains_bool_bool.calls (xs.length + 1) _ _ xs false true _ ?side1 ?side2 hcon.out).mono ?_); (case side1 => exact HCx.out); (case side2 => exact HCq.out); rintro e w' ⟨rfl, ⟨nd, rfl⟩⟩; (generalize hq_ : World.drewN W nd = wr; have n0_ : Aside0 (wr.heap[gf]? = some (.cells #[.int .i64 (l0.length : Int), u] 50 (0, 0))) := ⟨hq_ ▸ blk_drewN BKf.out _⟩; have n1_ : Aside0 (wr.heap[gm]? = some (.cells #[.slice A0 l0.length c0] 105 (0, 0))) := ⟨hq_ ▸ blk_drewN BKm.out _⟩; have n2_ : Aside0 (wr.heap[gw]? = some (.cells #[impl_framesOf.fv gf gm gw] 131 (0, 0))) := ⟨hq_ ▸ blk_drewN BKw.out _⟩; have n5_ : Aside0 (wr.heap[gr]? = some (.cells #[.int .i64 0, .slice none 0 0] 50 (0, 0))) := ⟨hq_ ▸ blk_drewN BKr.out _⟩; have n3_ : Aside0 (Kd.R k73 73 wr w0.heap.size (fun _ => True) u acc) := ⟨hq_ ▸ Kd.R_drewN HO_.out _⟩; have n4_ : Aside0 (Below w0.heap.size w0 wr) := ⟨hq_ ▸ pw_below_drewN HB_.out _⟩; clear BKf BKm BKw BKr HO_ HB_ hq_ hczf_0 hczf_1 hczm_0 hczw_0 HCx; have BKf := n0_; have BKm := n1_; have BKw := n2_; have BKr := n5_; have HO_ := n3_; have HB_ := n4_; clear n0_ n1_ n2_ n3_ n4_ n5_; have hczf_0 : wr.cell? ⟨gf, 0, none⟩ = some (.int .i64 (l0.length : Int)) := (blk_cell BKf.out 0).trans rfl; have hczf_1 : wr.cell? ⟨gf, 1, none⟩ = some u := (blk_cell BKf.out 1).trans rfl; have hczw_0 : wr.cell? ⟨gw, 0, none⟩ = some (.func (.func 104) #[] #[.pointer (some ⟨gf, 0, none⟩), .pointer (some ⟨gm, 0, none⟩), .pointer (some ⟨gw, 0, none⟩)]) := (blk_cell BKw.out 0).trans rfl; have hfzf_1 := blk_frozen BKf.out 1)))
    first | go_end0 | ((try simp only [Exit.inBlock, Exit.then]); refine bodyPost_ret (results_none rfl _ _ _) rfl ?_)
    exact ⟨rfl, u, by rw [c4w, List.append_nil]; exact ⟨BKf.out, BKm.out, BKw.out, BKr.out, HO_.out, HB_.out⟩⟩
   obtain ⟨m, rfl⟩ := Nat.exists_eq_succ_of_ne_zero c4
   have c4b0 : (oi == 0) = false := beq_eq_false_iff_ne.mpr (by have h1_ := ho.out; omega)
   have c4w : impl_framesOf.walk l0 (m + 1) a = impl_framesOf.walk l0 m a ++ impl_framesOf.walk l0 m (a + 2 ^ m) := by rw [impl_framesOf.walk, if_neg c1, if_neg c3]
   have hpm : 2 ^ (m + 1) = 2 ^ m * 2 := Nat.pow_succ 2 m
   have hoi1 : Aside0 (wrap64 (oi - 1) = (m : Int)) := ⟨by rw [ho.out]; unfold wrap64; omega⟩
   have hai2 : Aside0 (wrap64 (ai + wrap64 (Int.tdiv ji16 2)) = ((a + 2 ^ m : Nat) : Int)) := ⟨by
    rw [hjn.out, ha.out, show ((2 ^ (m + 1) : Nat) : Int).tdiv 2 = ((2 ^ m : Nat) : Int) by rw [Int.tdiv_eq_ediv_of_nonneg (by omega)]; omega, show wrap64 ((2 ^ m : Nat) : Int) = ((2 ^ m : Nat) : Int) by unfold wrap64; omega]
    unfold wrap64; omega⟩
   have hal2 : (acc ++ impl_framesOf.walk l0 m a).length ≤ a + 2 ^ m := by have := impl_framesOf.walk_len l0 m a; rw [List.length_append]; omega
   go_enter Try.func104, Try.ntmps104
   go_wp2_with (first | (go_at_call 105; (with_reducible refine (slices_Contains_bool_bool.calls (xs.length + 1) _ _ xs false true _ ?side1 ?side2 hcon.out).mono ?_); (case side1 => exact HCx.out); (case side2 => exact HCq.out); rintro e w' ⟨rfl, ⟨nd, rfl⟩⟩; (generalize hq_ : World.drewN W nd = wr; have n0_ : Aside0 (wr.heap[gf]? = some (.cells #[.int .i64 (l0.length : Int), u] 50 (0, 0))) := ⟨hq_ ▸ blk_drewN BKf.out _⟩; have n1_ : Aside0 (wr.heap[gm]? = some (.cells #[.slice A0 l0.length c0] 105 (0, 0))) := ⟨hq_ ▸ blk_drewN BKm.out _⟩; have n2_ : Aside0 (wr.heap[gw]? = some (.cells #[impl_framesOf.fv gf gm gw] 131 (0, 0))) := ⟨hq_ ▸ blk_drewN BKw.out _⟩; have n5_ : Aside0 (wr.heap[gr]? = some (.cells #[.int .i64 0, .slice none 0 0] 50 (0, 0))) := ⟨hq_ ▸ blk_drewN BKr.out _⟩; have n3_ : Aside0 (Kd.R k73 73 wr w0.heap.size (fun _ => True) u acc) := ⟨hq_ ▸ Kd.R_drewN HO_.out _⟩; have n4_ : Aside0 (Below w0.heap.size w0 wr) := ⟨hq_ ▸ pw_below_drewN HB_.out _⟩; clear BKf BKm BKw BKr HO_ HB_ hq_ hczf_0 hczf_1 hczm_0 hczw_0 HCx; have BKf := n0_; have BKm := n1_; have BKw := n2_; have BKr := n5_; have HO_ := n3_; have HB_ := n4_; clear n0_ n1_ n2_ n3_ n4_ n5_; have hczf_0 : wr.cell? ⟨gf, 0, none⟩ = some (.int .i64 (l0.length : Int)) := (blk_cell BKf.out 0).trans rfl; have hczf_1 : wr.cell? ⟨gf, 1, none⟩ = some u := (blk_cell BKf.out 1).trans rfl; have hczw_0 : wr.cell? ⟨gw, 0, none⟩ = some (.func (.func 104) #[] #[.pointer (some ⟨gf, 0, none⟩), .pointer (some ⟨gm, 0, none⟩), .pointer (some ⟨gw, 0, none⟩)]) := (blk_cell BKw.out 0).trans rfl; have hfzf_1 := blk_frozen BKf.out 1)) | (go_at_call 104; (have hS_ : impl_framesOf.St l0 A0 c0 w0 gf gm gw gr wr u acc := ⟨BKf.out, BKm.out, BKw.out, BKr.out, HO_.out, HB_.out⟩; (with_reducible refine (ih m (Nat.lt_succ_self m) a (wrap64 (oi - 1)) ai _ u acc hoi1.out ha.out (by omega) (by omega) hal hS_).mono ?_); clear hS_; rintro e w1 ⟨rfl, u1, B1, B2, B3, B5, O1, S1⟩; have n5_ := Aside0.mk B5; have n0_ := Aside0.mk B1; have n1_ := Aside0.mk B2; have n2_ := Aside0.mk B3; have n3_ := Aside0.mk O1; have n4_ := Aside0.mk S1; clear B1 B2 B3 B5 O1 S1 BKf BKm BKw BKr HO_ HB_ hczf_0 hczf_1 hczw_0; have BKf := n0_; have BKm := n1_; have BKw := n2_; have BKr := n5_; have HO_ := n3_; have HB_ := n4_; clear n0_ n1_ n2_ n3_ n4_ n5_; have hczw_0 : w1.cell? ⟨gw, 0, none⟩ = some (.func (.func 104) #[] #[.pointer (some ⟨gf, 0, none⟩), .pointer (some ⟨gm, 0, none⟩), .pointer (some ⟨gw, 0, none⟩)]) := (blk_cell BKw.out 0).trans rfl)) | (go_at_call 104; (have hS_ : impl_framesOf.St l0 A0 c0 w0 gf gm gw gr w1 u1 (acc ++ impl_framesOf.walk l0 m a) := ⟨BKf.out, BKm.out, BKw.out, BKr.out, HO_.out, HB_.out⟩; (with_reducible refine (ih m (Nat.lt_succ_self m) (a + 2 ^ m) (wrap64 (oi - 1)) (wrap64 (ai + wrap64 (Int.tdiv ji16 2))) _ u1 (acc ++ impl_framesOf.walk l0 m a) hoi1.out hai2.out (by omega) (by omega) hal2 hS_).mono ?_); clear hS_; rintro e w2 ⟨rfl, u2, B1, B2, B3, B5, O1, S1⟩)))
   first | go_end0 | ((try simp only [Exit.inBlock, Exit.then]); refine bodyPost_ret (results_none rfl _ _ _) rfl ?_)
   rw [c4w, ← List.append_assoc]
   exact ⟨rfl, u2, B1, B2, B3, B5, O1, S1⟩
  have c2b0 : decide (wrap64 (ai + ji16) ≤ (l0.length : Int)) = false := decide_eq_false Z4_16
  have c3 : ¬ impl_framesOf.whole l0 a (2 ^ o) := fun h => c2 h.1
  by_cases c4 : o = 0
  ·have c4b0 : (oi == 0) = true := beq_iff_eq.mpr (by rw [ho.out, c4]; rfl)
   have c4w : impl_framesOf.walk l0 o a = [] := by subst c4; unfold impl_framesOf.walk; rw [if_neg c1, if_neg c3]
   go_enter Try.func104, Try.ntmps104
   go_wp2_with (first | fail)
   first | go_end0 | ((try simp only [Exit.inBlock, Exit.then]); refine bodyPost_ret (results_none rfl _ _ _) rfl ?_)
   exact ⟨rfl, u, by rw [c4w, List.append_nil]; exact ⟨BKf.out, BKm.out, BKw.out, BKr.out, HO_.out, HB_.out⟩⟩
  obtain ⟨m, rfl⟩ := Nat.exists_eq_succ_of_ne_zero c4
  have c4b0 : (oi == 0) = false := beq_eq_false_iff_ne.mpr (by have h1_ := ho.out; omega)
  have c4w : impl_framesOf.walk l0 (m + 1) a = impl_framesOf.walk l0 m a ++ impl_framesOf.walk l0 m (a + 2 ^ m) := by rw [impl_framesOf.walk, if_neg c1, if_neg c3]
  have hpm : 2 ^ (m + 1) = 2 ^ m * 2 := Nat.pow_succ 2 m
  have hoi1 : Aside0 (wrap64 (oi - 1) = (m : Int)) := ⟨by rw [ho.out]; unfold wrap64; omega⟩
  have hai2 : Aside0 (wrap64 (ai + wrap64 (Int.tdiv ji16 2)) = ((a + 2 ^ m : Nat) : Int)) := ⟨by
   rw [hjn.out, ha.out, show ((2 ^ (m + 1) : Nat) : Int).tdiv 2 = ((2 ^ m : Nat) : Int) by rw [Int.tdiv_eq_ediv_of_nonneg (by omega)]; omega, show wrap64 ((2 ^ m : Nat) : Int) = ((2 ^ m : Nat) : Int) by unfold wrap64; omega]
   unfold wrap64; omega⟩
  have hal2 : (acc ++ impl_framesOf.walk l0 m a).length ≤ a + 2 ^ m := by have := impl_framesOf.walk_len l0 m a; rw [List.length_append]; omega
  go_enter Try.func104, Try.ntmps104
  go_wp2_with (first | (go_at_call 104; (have hS_ : impl_framesOf.St l0 A0 c0 w0 gf gm gw gr W u acc := ⟨BKf.out, BKm.out, BKw.out, BKr.out, HO_.out, HB_.out⟩; (with_reducible refine (ih m (Nat.lt_succ_self m) a (wrap64 (oi - 1)) ai _ u acc hoi1.out ha.out (by omega) (by omega) hal hS_).mono ?_); clear hS_; rintro e w1 ⟨rfl, u1, B1, B2, B3, B5, O1, S1⟩; have n5_ := Aside0.mk B5; have n0_ := Aside0.mk B1; have n1_ := Aside0.mk B2; have n2_ := Aside0.mk B3; have n3_ := Aside0.mk O1; have n4_ := Aside0.mk S1; clear B1 B2 B3 B5 O1 S1 BKf BKm BKw BKr HO_ HB_ hczf_0 hczf_1 hczw_0; have BKf := n0_; have BKm := n1_; have BKw := n2_; have BKr := n5_; have HO_ := n3_; have HB_ := n4_; clear n0_ n1_ n2_ n3_ n4_ n5_; have hczw_0 : w1.cell? ⟨gw, 0, none⟩ = some (.func (.func 104) #[] #[.pointer (some ⟨gf, 0, none⟩), .pointer (some ⟨gm, 0, none⟩), .pointer (some ⟨gw, 0, none⟩)]) := (blk_cell BKw.out 0).trans rfl)) | (go_at_call 104; (have hS_ : impl_framesOf.St l0 A0 c0 w0 gf gm gw gr w1 u1 (acc ++ impl_framesOf.walk l0 m a) := ⟨BKf.out, BKm.out, BKw.out, BKr.out, HO_.out, HB_.out⟩; (with_reducible refine (ih m (Nat.lt_succ_self m) (a + 2 ^ m) (wrap64 (oi - 1)) (wrap64 (ai + wrap64 (Int.tdiv ji16 2))) _ u1 (acc ++ impl_framesOf.walk l0 m a) hoi1.out hai2.out (by omega) (by omega) hal2 hS_).mono ?_); clear hS_; rintro e w2 ⟨rfl, u2, B1, B2, B3, B5, O1, S1⟩)))
  first | go_end0 | ((try simp only [Exit.inBlock, Exit.then]); refine bodyPost_ret (results_none rfl _ _ _) rfl ?_)
  rw [c4w, ← List.append_assoc]
  exact ⟨rfl, u2, B1, B2, B3, B5, O1, S1⟩
theorem impl_framesOf.run_store_func {P : Program} {w : World} {a : Addr} {m : Mode} (f : Fn) (x y : Array Value) : (store a (.func f x y) m).run P w = stored P w a (.func f x y) m := run_store P w a _ m rfl
attribute [local go_sem] impl_framesOf.run_store_func
set_option maxHeartbeats 4000000 in
set_option maxRecDepth 100000 in
theorem impl_framesOf.calls (A0 : Option Addr) (c0 : Nat) (l0 : List Bool) (r1 : Int) (r2 : List (S73)) (w : World) (hr0 : Kd.C Kd.bool w A0 l0.length l0) (hc0 : l0.length ≤ c0) (h : impl_framesOf.f l0 = some (r1, r2)) :
  Calls Try.prog 77 #[.slice A0 l0.length c0] w fun e w' => ∃ v1_ : Value, e = .returned (.agg #[.int .i64 r1, v1_]) ∧ Kd.R k73 73 w' w.heap.size (fun _ => True) v1_ r2 ∧ Below w.heap.size w w' := by
 have hu50 := Try.underlying50
 unfold impl_framesOf.f at h
 by_cases hl : l0.length ≤ 1024
 ·rw [if_pos hl] at h
  simp only [Option.some.injEq, Prod.mk.injEq] at h
  obtain ⟨rfl, rfl⟩ := h
  have HB := Aside0.mk (Below.refl w.heap.size w)
  go_enter Try.func77, Try.ntmps77
  go_wp2_with (first | ((with_reducible refine gate_dst (N := 1) rfl ?_); refine box_event ?hg (N := 1) ?hd (cs := #[.slice A0 l0.length c0]) (t := 105) ?hr ?_; (case hd => rfl); (case hg => rfl); (case hr => exact Z4_11); intro gm hg w1 hbox hb; have n0_ := Aside0.mk (below_step HB.out hb); have BKm := Aside0.mk hbox; have GEm : Aside0 (w.heap.size ≤ gm) := ⟨by rw [hg]; exact below_size HB.out⟩; clear HB; have HB := n0_; clear n0_ hbox hb hg) | ((with_reducible refine gate_dst (N := 2) rfl ?_); refine box_event ?hg (N := 2) ?hd (cs := #[.int .i64 0, .slice none 0 0]) (t := 50) ?hr ?_; (case hd => rfl); (case hg => rfl); (case hr => exact Z4_11); intro gr hg w2 hbox hb; have n0_ := Aside0.mk (below_step HB.out hb); have n1_ := Aside0.mk (blk_below BKm.out hb); have BKr := Aside0.mk hbox; have GEr : Aside0 (w.heap.size ≤ gr) := ⟨by rw [hg]; exact below_size HB.out⟩; clear HB BKm; have HB := n0_; have BKm := n1_; clear n0_ n1_ hbox hb hg; have hczm_0 : w2.cell? ⟨gm, 0, none⟩ = some (.slice A0 l0.length c0) := (blk_cell BKm.out 0).trans rfl) | ((with_reducible refine gate_dst (N := 3) rfl ?_); refine box_event ?hg (N := 3) ?hd (cs := #[.int .i64 0, .slice none 0 0]) (t := 50) ?hr ?_; (case hd => rfl); (case hg => rfl); (case hr => exact Z4_11); intro gf hg w3 hbox hb; have n0_ := Aside0.mk (below_step HB.out hb); have n1_ := Aside0.mk (blk_below BKm.out hb); have n2_ := Aside0.mk (blk_below BKr.out hb); have BKf := Aside0.mk hbox; have NEr : Aside0 (gr ≠ gf) := ⟨by rw [hg]; exact Nat.ne_of_lt (blk_lt BKr.out)⟩; have GEf : Aside0 (w.heap.size ≤ gf) := ⟨by rw [hg]; exact below_size HB.out⟩; clear HB BKm BKr hczm_0; have HB := n0_; have BKm := n1_; have BKr := n2_; clear n0_ n1_ n2_ hbox hb hg; have hczf_0 : w3.cell? ⟨gf, 0, none⟩ = some (.int .i64 0) := (blk_cell BKf.out 0).trans rfl; have hczf_1 : w3.cell? ⟨gf, 1, none⟩ = some (.slice none 0 0) := (blk_cell BKf.out 1).trans rfl; have hfzf_0 := blk_frozen BKf.out 0; have hfzf_1 := blk_frozen BKf.out 1) | ((with_reducible refine gate_dst (N := 4) rfl ?_); refine box_event ?hg (N := 4) ?hd (cs := #[.nilFunc]) (t := 131) ?hr ?_; (case hd => rfl); (case hg => rfl); (case hr => exact Z4_11); intro gw hg w4 hbox hb; have n1_ := Aside0.mk (blk_below (blk_far (blk_far BKm.out (blk_ne BKm.out BKf.out Z4_18) _) (blk_ne BKm.out BKf.out Z4_18) _) hb); have n2_ := Aside0.mk (blk_below (blk_far (blk_far BKr.out NEr.out _) NEr.out _) hb); have n3_ := Aside0.mk (blk_below (blk_put (cs := #[.int .i64 (l0.length : Int), .slice none 0 0]) (blk_put (cs := #[.int .i64 0, .slice none 0 0]) BKf.out 0 _ rfl) 1 _ rfl) hb); have n4_ : Aside0 (w.heap.size ≤ gw) := ⟨by rw [hg]; exact below_size (below_set (below_set HB.out GEf.out) GEf.out)⟩; have n0_ := Aside0.mk (below_step (below_set (below_set HB.out GEf.out) GEf.out) hb); have n5_ := Aside0.mk hbox; clear HB BKm BKr BKf hczf_0 hczf_1 hfzf_0 hfzf_1; have HB := n0_; have BKm := n1_; have BKr := n2_; have BKf := n3_; have GEw := n4_; have BKw := n5_; clear n0_ n1_ n2_ n3_ n4_ n5_ hbox hb hg; have hczw_0 : w4.cell? ⟨gw, 0, none⟩ = some .nilFunc := (blk_cell BKw.out 0).trans rfl; have hfzw_0 := blk_frozen BKw.out 0) | (go_at_call 104; (have hS_ : impl_framesOf.St l0 A0 c0 w gf gm gw gr (w4.setCell ⟨gw, 0, none⟩ (impl_framesOf.fv gf gm gw)) (.slice none 0 0) [] := ⟨blk_far BKf.out (blk_ne BKf.out BKw.out Z4_18) _, blk_far BKm.out (blk_ne BKm.out BKw.out Z4_18) _, blk_put (cs := #[.nilFunc]) BKw.out 0 _ rfl, blk_far BKr.out (blk_ne BKr.out BKw.out Z4_18) _, Kd.R_nil _ _ _ _ _, below_set HB.out GEw.out⟩; refine (impl_framesOf.clo l0 A0 c0 hl w hr0 hc0 gf gm gw gr NEr.out GEf.out GEm.out GEw.out 10 0 10 0 _ _ [] rfl rfl Z4_18 Z4_18 (Nat.zero_le _) hS_).mono ?_; clear hS_; rintro e w5 ⟨rfl, u1, B1, B2, B3, B5, O1, S1⟩; rw [List.nil_append] at O1; have n0_ := Aside0.mk B1; have n3_ := Aside0.mk O1; have n4_ := Aside0.mk S1; have n5_ := Aside0.mk B5; clear B1 B2 B3 B5 O1 S1 BKf BKm BKw BKr HB hczw_0 hfzw_0; have BKf := n0_; have BKr := n5_; have HO := n3_; have HB := n4_; clear n0_ n3_ n4_ n5_; obtain ⟨Ao1, co1, eo1⟩ := Kd.R_slice HO.out; subst eo1; have hczf_0 : w5.cell? ⟨gf, 0, none⟩ = some (.int .i64 (l0.length : Int)) := (blk_cell BKf.out 0).trans rfl; have hczf_1 : w5.cell? ⟨gf, 1, none⟩ = some (.slice Ao1 (impl_framesOf.walk l0 10 0).length co1) := (blk_cell BKf.out 1).trans rfl; have hczr_0 : w5.cell? ⟨gr, 0, none⟩ = some (.int .i64 0) := (blk_cell BKr.out 0).trans rfl; have hczr_1 : w5.cell? ⟨gr, 1, none⟩ = some (.slice none 0 0) := (blk_cell BKr.out 1).trans rfl; have hfzr_0 := blk_frozen BKr.out 0; have hfzr_1 := blk_frozen BKr.out 1)))
  refine bodyPost_ret (results_cell_row rfl _ _ gr 50 #[.int .i64 (l0.length : Int), .slice Ao1 (impl_framesOf.walk l0 10 0).length co1] (0, 0) _ rfl (blk_put (cs := #[.int .i64 (l0.length : Int), .slice none 0 0]) (blk_put (cs := #[.int .i64 0, .slice none 0 0]) BKr.out 0 _ rfl) 1 _ rfl) Try.underlying50 rfl (by kernel_rfl)) rfl ?_
  exact ⟨_, rfl, Kd.R_mono (Kd.R_far (p := ⟨gr, 1, none⟩) (Kd.R_far (p := ⟨gr, 0, none⟩) (Kd.R_types HO.out BKr.out Z4_18) (fun _ hk => hk.2) _) (fun _ hk => hk.2) _) (fun _ hk => trivial), below_set (below_set HB.out GEr.out) GEr.out⟩
 rw [if_neg hl] at h; exact absurd h (by simp)
/-! ### impl_NewFrames: function 37 -/
mutual
def impl_NewFrames.j0 : Nat → Int → Bool → Option (Int × (List (S73)))
 | 0, _, _ => none
 | k + 1, x0, x10 => if x10 = true then (some (0, ([] : List (S73)))) else (if 0 ≤ x0 then (if (x0 : Int).toNat ≤ 281474976710656 then ((some (List.replicate (x0 : Int).toNat false : List Bool)).bind fun y124 => (impl_NewFrames.l0 k y124 (y124.length : Int) 0)) else (none)) else (none))
def impl_NewFrames.l0 : Nat → List Bool → Int → Int → Option (Int × (List (S73)))
 | 0, _, _, _ => none
 | k + 1, x3, x15, x16 => if x16 < x15 then (if 0 ≤ x16 then (if x16 < (x3.length : Int) then (impl_NewFrames.l0 k (x3.set (x16 : Int).toNat true) x15 (wrap64 (x16 + 1))) else (none)) else (none)) else ((impl_framesOf.f x3).bind fun bt128 => (some (bt128.1, bt128.2)))
end
def impl_NewFrames.f (k : Nat) (a0 : Int) : Option (Int × (List (S73))) := if a0 < 0 then (impl_NewFrames.j0 k a0 true) else (impl_NewFrames.j0 k a0 (decide (a0 > 1024)))
theorem impl_NewFrames.mono_l : ∀ k, (∀ y0 y1, LeO (impl_NewFrames.j0 k y0 y1) (impl_NewFrames.j0 (k + 1) y0 y1)) ∧ (∀ y0 y1 y2, LeO (impl_NewFrames.l0 k y0 y1 y2) (impl_NewFrames.l0 (k + 1) y0 y1 y2))
 | 0 => ⟨fun _ _ r h => by simp [impl_NewFrames.j0] at h, fun _ _ _ r h => by simp [impl_NewFrames.l0] at h⟩
 | k + 1 => by
  obtain ⟨ih0, ih1⟩ := impl_NewFrames.mono_l k
  refine ⟨?_, ?_⟩
  ·intro y0 y1
   unfold impl_NewFrames.j0
   repeat' first
   | (with_reducible exact ih0 _ _)
   | (with_reducible exact ih1 _ _ _)
   | (with_reducible exact LeO.refl _)
   | (with_reducible exact LeO.none _)
   | (with_reducible refine LeO.ite ?_ ?_)
   | (with_reducible refine LeO.bind ?_ (fun _ => ?_))
   | exact ih0 _ _
   | exact ih1 _ _ _
   | exact LeO.none _
   | refine LeO.ite ?_ ?_
   | refine LeO.bind ?_ (fun _ => ?_)
  ·intro y0 y1 y2
   unfold impl_NewFrames.l0
   repeat' first
   | (with_reducible exact ih0 _ _)
   | (with_reducible exact ih1 _ _ _)
   | (with_reducible exact LeO.refl _)
   | (with_reducible exact LeO.none _)
   | (with_reducible refine LeO.ite ?_ ?_)
   | (with_reducible refine LeO.bind ?_ (fun _ => ?_))
   | exact ih0 _ _
   | exact ih1 _ _ _
   | exact LeO.none _
   | refine LeO.ite ?_ ?_
   | refine LeO.bind ?_ (fun _ => ?_)
theorem impl_NewFrames.mono : ∀ a0 k, LeO (impl_NewFrames.f k a0) (impl_NewFrames.f (k + 1) a0) := by
 intro a0 k
 obtain ⟨ih0, ih1⟩ := impl_NewFrames.mono_l k
 unfold impl_NewFrames.f
 repeat' first
   | (with_reducible exact ih0 _ _)
   | (with_reducible exact ih1 _ _ _)
   | (with_reducible exact LeO.refl _)
   | (with_reducible exact LeO.none _)
   | (with_reducible refine LeO.ite ?_ ?_)
   | (with_reducible refine LeO.bind ?_ (fun _ => ?_))
   | exact ih0 _ _
   | exact ih1 _ _ _
   | exact LeO.none _
   | refine LeO.ite ?_ ?_
   | refine LeO.bind ?_ (fun _ => ?_)
set_option maxHeartbeats 8000000 in
set_option maxRecDepth 100000 in
theorem impl_NewFrames.calls (k : Nat) (a0 : Int) (r1 : Int) (r2 : List (S73)) (w : World) (h : impl_NewFrames.f k a0 = some (r1, r2)) :
  Calls Try.prog 37 #[.int .i64 a0] w fun e w' => ∃ v1_ : Value, e = .returned (.agg #[.int .i64 r1, v1_]) ∧ Kd.R k73 73 w' w.heap.size (fun _ => True) v1_ r2 ∧ Below w.heap.size w w' := by
 have hu50 := Try.underlying50
 have HB := Aside0.mk (Below.refl w.heap.size w)
 have H : (if a0 < 0 then (impl_NewFrames.j0 k a0 true) else (impl_NewFrames.j0 k a0 (decide (a0 > 1024)))) = some (r1, r2) := h
 clear h
 have HC2 := Aside0.mk H
 clear H
 go_enter Try.func37, Try.ntmps37
 go_upto_region 1 with (first | ((with_reducible refine gate_dst (N := 2) rfl ?_); refine box_event ?hg (N := 2) ?hd (cs := #[.int .i64 0, .slice none 0 0]) (t := 50) ?hr ?_; (case hd => rfl); (case hg => rfl); (case hr => exact Z4_11); intro gb123 hg w3 hbox hb; have n0_ := Aside0.mk (below_step Z4_2 hb); have n1_ := Aside0.mk (hbox); have n2_ := Aside0.mk ((Z4_17 : w.heap.size ≤ gb123)); have n3_ := Aside0.mk ((Z4_17 : w.heap.size ≤ gb123)); clear HB; have HB := n0_; have BK123 := n1_; have GW123 := n2_; have GE123 := n3_; clear n0_ n1_ n2_ n3_; clear hb hbox hg))
 (try simp only [Act.put, List.setIfInBounds_toArray, List.set_cons_zero, List.set_cons_succ])
 go_cut [10] (fun v10 wc => ∃ (kq : Nat) (x10_1 : Bool), v10 = .bool x10_1 ∧ Aside0 (impl_NewFrames.j0 kq a0 x10_1 = some (r1, r2)) ∧ Aside0 (kq ≤ k) ∧ Aside0 (wc.heap[gb123]? = some (.cells #[.int .i64 0, (.slice none 0 0)] 50 (0, 0))) ∧ Aside0 (Below w.heap.size w wc))
 case first =>
  have H := HC2.out
  clear HC2
  by_cases c4 : a0 < 0
  ·rw [if_pos c4] at H
   have c4b0 : decide (a0 < 0) = true := decide_eq_true c4
   clear c4
   (first | rw [c4b0] | (simp only [i64_w, i32_w]; rw [c4b0]) | skip)
   have H' := Aside0.mk H
   clear H
   go_wp2
   go_meet
   case rel => exact ⟨_, (true), Z4_5, H', ⟨by first | omega | exact Nat.le_refl _⟩, ⟨Z4_6⟩, ⟨Z4_1⟩⟩
  rw [if_neg c4] at H
  have c4b0 : decide (a0 < 0) = false := decide_eq_false c4
  clear c4
  (first | rw [c4b0] | (simp only [i64_w, i32_w]; rw [c4b0]) | skip)
  have H' := Aside0.mk H
  clear H
  go_wp2
  go_meet
  case rel => exact ⟨_, (decide (a0 > 1024)), Z4_5, H', ⟨by first | omega | exact Nat.le_refl _⟩, ⟨Z4_6⟩, ⟨Z4_1⟩⟩
 clear HC2
 try clear p2
 try clear c3
 try clear c4
 try clear c4b0
 obtain ⟨kq, x10_1, rfl, HA, HJ1, BK123, HB⟩ := hcut
 cases kq with
 | zero => exact absurd HA.out (by simp [impl_NewFrames.j0])
 | succ kj1 =>
  have H := HA.out
  clear HA
  simp only [impl_NewFrames.j0] at H
  by_cases c5 : x10_1 = true
  ·subst c5
   have H1 : (some (0, ([] : List (S73)))) = some (r1, r2) := by rw [if_pos rfl] at H; exact H
   clear H
   have H := H1
   clear H1
   simp only [Option.some.injEq, Prod.mk.injEq] at H
   obtain ⟨rfl, rfl⟩ := H
   have hcz6_0 : wc.cell? ⟨gb123, 0, none⟩ = some (.int .i64 0) := (blk_cell BK123.out 0).trans rfl
   have hcz6_1 : wc.cell? ⟨gb123, 1, none⟩ = some (.slice none 0 0) := (blk_cell BK123.out 1).trans rfl
   have hfz6_0 := blk_frozen BK123.out 0
   have hfz6_1 := blk_frozen BK123.out 1
   go_wp2
   refine bodyPost_ret (results_cell_row rfl _ _ gb123 50 #[.int .i64 0, .slice none 0 0] (0, 0) _ rfl (by (with_reducible repeat (first | apply blk_drewN | apply blk_drew | apply blk_alloc)); refine blk_put (cs := #[.int .i64 0, .slice none 0 0]) ?_ 1 _ rfl; (with_reducible repeat (first | apply blk_drewN | apply blk_drew | apply blk_alloc)); refine blk_put (cs := #[.int .i64 0, .slice none 0 0]) ?_ 0 _ rfl; (with_reducible repeat (first | apply blk_drewN | apply blk_drew | apply blk_alloc)); exact BK123.out) Try.underlying50 rfl (by kernel_rfl)) rfl ?_
   exact ⟨_, Z4_14, by first | exact Kd.R_nil _ _ _ _ _ | exact Kd.N_nil _ _ _ _ _ | exact Kd.V_nil _ _ _ _ _ | exact Kd.Q_nil _ _ _ _ _ | exact Kd.S_nil _ _ _ _ _, Z4_1⟩
  replace c5 := Bool.eq_false_iff.mpr c5
  subst c5
  have H1 : (if 0 ≤ a0 then (if (a0 : Int).toNat ≤ 281474976710656 then ((some (List.replicate (a0 : Int).toNat false : List Bool)).bind fun y124 => (impl_NewFrames.l0 kj1 y124 (y124.length : Int) 0)) else (none)) else (none)) = some (r1, r2) := by rw [if_neg (show ¬ (false = true) by decide)] at H; exact H
  clear H
  have H := H1
  clear H1
  by_cases c7 : 0 ≤ a0
  ·rw [if_pos c7] at H
   have c7b0 := eq_true c7
   have c7b1 : decide (0 ≤ a0) = true := decide_eq_true c7
   clear c7
   by_cases c8 : (a0 : Int).toNat ≤ 281474976710656
   ·rw [if_pos c8] at H
    have c8b0 := eq_true c8
    have c8b1 : decide ((a0 : Int).toNat ≤ 281474976710656) = true := decide_eq_true c8
    clear c8
    obtain ⟨y124, hy124⟩ : ∃ y_ : List Bool, y_ = (List.replicate (a0 : Int).toNat false) := ⟨_, rfl⟩
    replace H : (impl_NewFrames.l0 kj1 y124 (y124.length : Int) 0) = some (r1, r2) := by first | (rw [hy124]; with_reducible exact H) | (have H2_ := (Option.bind_some _ _).symm.trans H; rw [hy124]; with_reducible exact H2_) | (have H2_ := (Option.bind_some _ _).symm.trans H; with_reducible exact H2_) | with_reducible exact H | (rw [hy124]; exact H) | exact H
    have Ny124 := Aside0.mk hy124
    clear hy124
    have H' := Aside0.mk H
    clear H
    go_wp2_with (first | ((with_reducible refine gate_dst (N := 13) rfl ?_); refine Kd.R_make Kd.bool _ 4 rfl (N := 13) rfl 105 _ _ rfl a0 rfl rfl Try.underlying105 (.bool false) 1 info4 rfl Z4_18 (by omega) false (ok := fun _ => True) (okp := fun _ => True) rfl (fun _ hk => hk) trivial (of_decide_eq_true Z4_7) (Nat.le_trans (Nat.mul_le_mul_right _ (of_decide_eq_true Z4_7 : a0.toNat ≤ 281474976710656)) (by omega)) (Below.refl _ _) (Nat.le_refl _) ?_; intro v125 w9 ho10 hb hg_ hnew_; clear hg_ hnew_; (first | rw [← Ny124.out] at ho10 | (simp only [Int.reduceToNat] at ho10; rw [← Ny124.out] at ho10)); have n0_ := Aside0.mk (Kd.R_lower ho10 (below_size Z4_1)); have n1_ := Aside0.mk (blk_below (g := gb123) (o := .cells #[.int .i64 0, .slice none 0 0] 50 (0, 0)) Z4_6 hb); have n2_ := Aside0.mk (below_step Z4_1 hb); clear BK123; clear HB; have HO126 := n0_; have BK123 := n1_; have HB := n2_; clear n0_ n1_ n2_; clear hb ho10; obtain ⟨Ao11, co11, eo11⟩ := Kd.R_slice HO126.out; subst eo11))
    go_loopg [16] kj1 (fun kq v16 w' => ∃ (x3_2 : List Bool) (x16_2 : Int), v16 = .int .i64 x16_2 ∧ Aside0 (impl_NewFrames.l0 kq x3_2 (y124.length : Int) x16_2 = some (r1, r2)) ∧ Aside0 (kq ≤ kj1) ∧ Aside0 (Kd.R Kd.bool 4 w' w.heap.size (fun _ => True) (.slice Ao11 y124.length co11) x3_2) ∧ Aside0 (w'.heap[gb123]? = some (.cells #[.int .i64 0, (.slice none 0 0)] 50 (0, 0))) ∧ Aside0 (Below w.heap.size w w'))
    case atStart => exact ⟨(y124), (0), Z4_5, H', ⟨Nat.le_refl _⟩, ⟨by (with_reducible repeat (first | apply Kd.R_alloc | apply Kd.R_drewN | apply Kd.R_drew)); exact HO126.out⟩, ⟨Z4_6⟩, ⟨Z4_1⟩⟩
    clear H'
    try clear p2
    try clear c3
    try clear c4
    try clear c4b0
    try clear c5
    try clear c7
    try clear c7b0
    try clear c7b1
    try clear c8
    try clear c8b0
    try clear c8b1
    try clear hcz6_0
    try clear hcz6_1
    try clear hfz6_0
    try clear hfz6_1
    try clear p2
    obtain ⟨x3_2, x16_2, rfl, HA, HK2, HO_3, BK123, HB⟩ := hrel
    have hl3_2 := (Kd.R_reads' HO_3.out).1
    rw [hl3_2] at HO_3
    (try simp only [hl3_2])
    (try simp only [hl3_2] at BK123)
    cases gk with
    | zero => exact absurd HA.out (by simp [impl_NewFrames.l0])
    | succ k2 =>
     have H := HA.out
     clear HA
     simp only [impl_NewFrames.l0] at H
     by_cases c12 : x16_2 < (y124.length : Int)
     ·rw [if_pos c12] at H
      have c12b0 : decide (x16_2 < (y124.length : Int)) = true := decide_eq_true c12
      clear c12
      by_cases c13 : 0 ≤ x16_2
      ·rw [if_pos c13] at H
       have c13b0 : decide (0 ≤ x16_2) = true := decide_eq_true c13
       clear c13
       by_cases c14 : x16_2 < (x3_2.length : Int)
       ·rw [if_pos c14] at H
        have c14b0 : decide (x16_2 < (x3_2.length : Int)) = true := decide_eq_true c14
        clear c14
        obtain ⟨y127, hy127⟩ : ∃ y_ : List Bool, y_ = (x3_2.set (x16_2 : Int).toNat true) := ⟨_, rfl⟩
        replace H : (impl_NewFrames.l0 k2 y127 (y124.length : Int) (wrap64 (x16_2 + 1))) = some (r1, r2) := by first | (rw [hy127]; with_reducible exact H) | (have H2_ := (Option.bind_some _ _).symm.trans H; rw [hy127]; with_reducible exact H2_) | (have H2_ := (Option.bind_some _ _).symm.trans H; with_reducible exact H2_) | with_reducible exact H | (rw [hy127]; exact H) | exact H
        have Ny127 := Aside0.mk hy127
        clear hy127
        have H' := Aside0.mk H
        clear H
        have p15 : 0 ≤ (x16_2 : Int) := of_decide_eq_true Z4_7
        have q15 : (x16_2 : Int) < ((x3_2.length : Int) : Int) := of_decide_eq_true Z4_7
        obtain ⟨go15, co15, eo15, gb15, gl15, cl15, HG15⟩ := Kd.R_form HO_3.out (by omega)
        (first | cases eo15 | (injection eo15 with ea_ en_ ec_; (first | subst ea_ | (injection ea_ with ea_; subst ea_)); subst ec_; clear en_))
        have GB15 := Aside0.mk gb15
        have GG15 := Aside0.mk HG15
        clear gb15 gl15 HG15
        obtain ⟨hx15_0, hf15_0⟩ := Kd.R_celln false HO_3.out (x16_2 : Int) p15 q15
        replace p15 := eq_true p15
        replace q15 := eq_true q15
        have HP16 := Kd.R_putg HO_3.out (x16_2 : Int) true
        go_wp2_with (first | ((with_reducible refine gate_store (t := 4) (p := 21) rfl ?_); refine store_event (t := 4) (p := 21) (v := ?vo_w17) (w1 := (wr.setCell ⟨go15, (x16_2 : Int).toNat, none⟩ (.bool true))) ?hg ?ho ?hn ?hr ?_; (case ho => rfl); (case hg => rfl); (case hn => rfl); (case hr => exact Z4_11); intro w17 hw; have hg : wr.grownBy w17 (some go15) := (by rw [hw]; exact HP16.2); have hp_ : Kd.R Kd.bool 4 w17 w.heap.size (fun _ => True) (.slice (some ⟨go15, 0, none⟩) x3_2.length co11) y127 := (by rw [hw, Ny127.out]; exact HP16.1); clear HP16; have n0_ := Aside0.mk (hp_); have n1_ := Aside0.mk (blk_grown (g := gb123) (o := .cells #[.int .i64 0, .slice none 0 0] 50 (0, 0)) Z4_6 hg (Kd.R_ne HO_3.out BK123.out Z4_18)); have n2_ := Aside0.mk ((by rw [hw]; exact below_set (HB.out) GB15.out : Below w.heap.size w w17)); clear HO_3; clear BK123; clear HB; have HO_3 := n0_; have BK123 := n1_; have HB := n2_; clear n0_ n1_ n2_; clear hg hw hp_))
        (try simp only [← hl3_2])
        go_roundg k2
        case measure => have := HJ1.out; have := HK2.out; omega
        case rel => exact ⟨(y127), (wrap64 (x16_2 + 1)), Z4_5, H', ⟨by have := HJ1.out; have := HK2.out; omega⟩, ⟨by (try simp only [hl3_2]); (with_reducible repeat (first | apply Kd.R_alloc | apply Kd.R_drewN | apply Kd.R_drew)); exact HO_3.out⟩, ⟨by (try simp only [hl3_2]); (with_reducible repeat (first | apply blk_drewN | apply blk_drew | apply blk_alloc)); exact BK123.out⟩, ⟨Z4_1⟩⟩
       rw [if_neg c14] at H
       exact absurd H (by simp)
      rw [if_neg c13] at H
      exact absurd H (by simp)
     rw [if_neg c12] at H
     have c12b0 : decide (x16_2 < (y124.length : Int)) = false := decide_eq_false c12
     have hlw_ := hl3_2
     rw [hlw_] at c12b0
     clear c12
     replace H := Option.bind_eq_some_iff.mp H
     obtain ⟨⟨t128, t129⟩, A180, H⟩ := H
     replace H : (some (t128, t129)) = some (r1, r2) := H
     have A18 := Aside0.mk A180
     clear A180
     simp only [Option.some.injEq, Prod.mk.injEq] at H
     obtain ⟨rfl, rfl⟩ := H
     go_wp2_with (first | ((with_reducible refine gate_callee (f := 77) rfl ?_); refine goesL_ (some 24) rfl rfl Try.func77 (by kernel_rfl) rfl #[.slice Ao11 x3_2.length co11] rfl (by (try simp only [List.map_toArray, List.map_cons, List.map_nil]); first | done | rfl | (simp only [List.length_drop, List.length_take]; first | done | rfl)) ?_; (with_reducible refine (impl_framesOf.calls _ _ x3_2 t128 t129 _ ?side1 ?side2 A18.out).mono ?_); (case side1 => repeat (first | exact (Kd.R_reads' HO_3.out).2.2 | (with_reducible refine Kd.C_alloc ?_ _) | (with_reducible refine Kd.C_drewN ?_ _) | (with_reducible refine Kd.C_drew ?_))); (case side2 => exact (Kd.R_reads' HO_3.out).2.1); rintro e w19 ⟨v130, rfl, ho0, hb⟩; refine ⟨_, rfl, ?_⟩; have n0_ := Aside0.mk (Kd.R_below Z4_8 hb); have n1_ := Aside0.mk (Kd.R_lower ho0 (below_size Z4_1)); have n2_ := Aside0.mk (blk_below (g := gb123) (o := .cells #[.int .i64 0, .slice none 0 0] 50 (0, 0)) Z4_6 hb); have n3_ := Aside0.mk (below_step Z4_1 hb); clear HO_3; clear BK123; clear HB; have HO_3 := n0_; have HO131 := n1_; have BK123 := n2_; have HB := n3_; clear n0_ n1_ n2_ n3_; (try clear hb); (try clear hb2 hk hi); (try clear ho0); have hcz20_0 : w19.cell? ⟨gb123, 0, none⟩ = some (.int .i64 0) := (blk_cell BK123.out 0).trans rfl; have hcz20_1 : w19.cell? ⟨gb123, 1, none⟩ = some (.slice none 0 0) := (blk_cell BK123.out 1).trans rfl; have hfz20_0 := blk_frozen BK123.out 0; have hfz20_1 := blk_frozen BK123.out 1; obtain ⟨Ao21, co21, eo21⟩ := Kd.R_slice HO131.out; subst eo21))
     refine bodyPost_ret (results_cell_row rfl _ _ gb123 50 #[.int .i64 t128, .slice Ao21 t129.length co21] (0, 0) _ rfl (by (with_reducible repeat (first | apply blk_drewN | apply blk_drew | apply blk_alloc)); refine blk_put (cs := #[.int .i64 t128, .slice none 0 0]) ?_ 1 _ rfl; (with_reducible repeat (first | apply blk_drewN | apply blk_drew | apply blk_alloc)); refine blk_put (cs := #[.int .i64 0, .slice none 0 0]) ?_ 0 _ rfl; (with_reducible repeat (first | apply blk_drewN | apply blk_drew | apply blk_alloc)); exact BK123.out) Try.underlying50 rfl (by kernel_rfl)) rfl ?_
     exact ⟨_, Z4_14, by (with_reducible repeat (first | apply Kd.R_alloc | apply Kd.R_drewN | apply Kd.R_drew)); exact Kd.R_mono (Kd.R_far (p := ⟨gb123, 1, none⟩) (Kd.R_far (p := ⟨gb123, 0, none⟩) (Kd.R_types HO131.out BK123.out Z4_18) (fun _ hk => hk.2) (.int .i64 t128)) (fun _ hk => hk.2) (.slice Ao21 t129.length co21)) (fun _ hk => trivial), Z4_1⟩
   rw [if_neg c8] at H
   exact absurd H (by simp)
  rw [if_neg c7] at H
  exact absurd H (by simp)
/-! ### impl_freeMap: function 84 -/
mutual
def impl_freeMap.l0 : Nat → List Bool → List (S73) → Int → Int → Option (List Bool)
 | 0, _, _, _, _ => none
 | k + 1, x3, x11, x12, x13 => if x13 < x12 then (if 0 ≤ x13 then (if x13 < (x11.length : Int) then (if 0 ≤ ((rd_T73 x11 x13).f1) then (impl_freeMap.l1 k x3 x11 x12 x13 (shl .i64 1 ((rd_T73 x11 x13).f1)) 0 ((rd_T73 x11 x13).f0) ((rd_T73 x11 x13).f1)) else (none)) else (none)) else (none)) else (some x3)
def impl_freeMap.l1 : Nat → List Bool → List (S73) → Int → Int → Int → Int → Int → Int → Option (List Bool)
 | 0, _, _, _, _, _, _, _, _ => none
 | k + 1, x3, x11, x12, x13, x19, x20, x138000, x138001 => if x20 < x19 then (if 0 ≤ (wrap64 (x138000 + x20)) then (if (wrap64 (x138000 + x20)) < (x3.length : Int) then (impl_freeMap.l1 k (x3.set ((wrap64 (x138000 + x20)) : Int).toNat true) x11 x12 x13 x19 (wrap64 (x20 + 1)) x138000 x138001) else (none)) else (none)) else (impl_freeMap.l0 k x3 x11 x12 (wrap64 (x13 + 1)))
end
def impl_freeMap.f (k : Nat) (a0_0 : Int) (l0_1 : List (S73)) : Option (List Bool) := if 0 ≤ a0_0 then (if (a0_0 : Int).toNat ≤ 281474976710656 then (impl_freeMap.l0 k (List.replicate (a0_0 : Int).toNat false) l0_1 (l0_1.length : Int) 0) else (none)) else (none)
theorem impl_freeMap.mono_l : ∀ k, (∀ y0 y1 y2 y3, LeO (impl_freeMap.l0 k y0 y1 y2 y3) (impl_freeMap.l0 (k + 1) y0 y1 y2 y3)) ∧ (∀ y0 y1 y2 y3 y4 y5 y6 y7, LeO (impl_freeMap.l1 k y0 y1 y2 y3 y4 y5 y6 y7) (impl_freeMap.l1 (k + 1) y0 y1 y2 y3 y4 y5 y6 y7))
 | 0 => ⟨fun _ _ _ _ r h => by simp [impl_freeMap.l0] at h, fun _ _ _ _ _ _ _ _ r h => by simp [impl_freeMap.l1] at h⟩
 | k + 1 => by
  obtain ⟨ih0, ih1⟩ := impl_freeMap.mono_l k
  refine ⟨?_, ?_⟩
  ·intro y0 y1 y2 y3
   unfold impl_freeMap.l0
   repeat' first
   | (with_reducible exact ih0 _ _ _ _)
   | (with_reducible exact ih1 _ _ _ _ _ _ _ _)
   | (with_reducible exact LeO.refl _)
   | (with_reducible exact LeO.none _)
   | (with_reducible refine LeO.ite ?_ ?_)
   | (with_reducible refine LeO.bind ?_ (fun _ => ?_))
   | exact ih0 _ _ _ _
   | exact ih1 _ _ _ _ _ _ _ _
   | exact LeO.none _
   | refine LeO.ite ?_ ?_
   | refine LeO.bind ?_ (fun _ => ?_)
  ·intro y0 y1 y2 y3 y4 y5 y6 y7
   unfold impl_freeMap.l1
   repeat' first
   | (with_reducible exact ih0 _ _ _ _)
   | (with_reducible exact ih1 _ _ _ _ _ _ _ _)
   | (with_reducible exact LeO.refl _)
   | (with_reducible exact LeO.none _)
   | (with_reducible refine LeO.ite ?_ ?_)
   | (with_reducible refine LeO.bind ?_ (fun _ => ?_))
   | exact ih0 _ _ _ _
   | exact ih1 _ _ _ _ _ _ _ _
   | exact LeO.none _
   | refine LeO.ite ?_ ?_
   | refine LeO.bind ?_ (fun _ => ?_)
theorem impl_freeMap.mono : ∀ a0 a1 k, LeO (impl_freeMap.f k a0 a1) (impl_freeMap.f (k + 1) a0 a1) := by
 intro a0 a1 k
 obtain ⟨ih0, ih1⟩ := impl_freeMap.mono_l k
 unfold impl_freeMap.f
 repeat' first
   | (with_reducible exact ih0 _ _ _ _)
   | (with_reducible exact ih1 _ _ _ _ _ _ _ _)
   | (with_reducible exact LeO.refl _)
   | (with_reducible exact LeO.none _)
   | (with_reducible refine LeO.ite ?_ ?_)
   | (with_reducible refine LeO.bind ?_ (fun _ => ?_))
   | exact ih0 _ _ _ _
   | exact ih1 _ _ _ _ _ _ _ _
   | exact LeO.none _
   | refine LeO.ite ?_ ?_
   | refine LeO.bind ?_ (fun _ => ?_)
set_option maxHeartbeats 8000000 in
set_option maxRecDepth 100000 in
theorem impl_freeMap.calls (k : Nat) (a0_0 : Int) (A0_1 : Option Addr) (c0_1 : Nat) (l0_1 : List (S73)) (r : List Bool) (w : World) (hr0_1 : Kd.C k73 w A0_1 l0_1.length l0_1) (hc0_1 : l0_1.length ≤ c0_1) (h : impl_freeMap.f k a0_0 l0_1 = some r) :
  Calls Try.prog 84 #[.agg #[.int .i64 a0_0, .slice A0_1 l0_1.length c0_1]] w fun e w' => ∃ v0_ : Value, e = .returned (v0_) ∧ Kd.R Kd.bool 4 w' w.heap.size (fun _ => True) v0_ r ∧ Below w.heap.size w w' := by
 have hu50 := Try.underlying50
 have hu73 := Try.underlying73
 have HR0_1 := Aside0.mk hr0_1
 have HC0_1 := Aside0.mk hc0_1
 clear hr0_1 hc0_1
 have HB := Aside0.mk (Below.refl w.heap.size w)
 have H : (if 0 ≤ a0_0 then (if (a0_0 : Int).toNat ≤ 281474976710656 then (impl_freeMap.l0 k (List.replicate (a0_0 : Int).toNat false) l0_1 (l0_1.length : Int) 0) else (none)) else (none)) = some r := h
 clear h
 by_cases c2 : 0 ≤ a0_0
 ·rw [if_pos c2] at H
  have c2b0 := eq_true c2
  have c2b1 : decide (0 ≤ a0_0) = true := decide_eq_true c2
  clear c2
  by_cases c3 : (a0_0 : Int).toNat ≤ 281474976710656
  ·rw [if_pos c3] at H
   have c3b0 := eq_true c3
   have c3b1 : decide ((a0_0 : Int).toNat ≤ 281474976710656) = true := decide_eq_true c3
   clear c3
   obtain ⟨y133, hy133⟩ : ∃ y_ : List Bool, y_ = (List.replicate (a0_0 : Int).toNat false) := ⟨_, rfl⟩
   replace H : (impl_freeMap.l0 k y133 l0_1 (l0_1.length : Int) 0) = some r := by first | (rw [hy133]; with_reducible exact H) | (have H2_ := (Option.bind_some _ _).symm.trans H; rw [hy133]; with_reducible exact H2_) | (have H2_ := (Option.bind_some _ _).symm.trans H; with_reducible exact H2_) | with_reducible exact H | (rw [hy133]; exact H) | exact H
   have Ny133 := Aside0.mk hy133
   clear hy133
   have H' := Aside0.mk H
   clear H
   go_enter Try.func84, Try.ntmps84
   go_wp2_with (first | ((with_reducible refine gate_dst (N := 1) rfl ?_); refine box_event ?hg (N := 1) ?hd (cs := #[.int .i64 a0_0, .slice A0_1 l0_1.length c0_1]) (t := 50) ?hr ?_; (case hd => rfl); (case hg => rfl); (case hr => exact Z4_11); intro gb132 hg w4 hbox hb; have n0_ := Aside0.mk (below_step Z4_2 hb); have n1_ := Aside0.mk (hbox); have n2_ := Aside0.mk ((Z4_17 : w.heap.size ≤ gb132)); have n3_ := Aside0.mk ((Z4_17 : w.heap.size ≤ gb132)); clear HB; have HB := n0_; have BK132 := n1_; have GW132 := n2_; have GE132 := n3_; clear n0_ n1_ n2_ n3_; clear hb hbox hg; have hcz5_0 : w4.cell? ⟨gb132, 0, none⟩ = some (.int .i64 a0_0) := (blk_cell BK132.out 0).trans rfl; have hcz5_1 : w4.cell? ⟨gb132, 1, none⟩ = some (.slice A0_1 l0_1.length c0_1) := (blk_cell BK132.out 1).trans rfl; have hfz5_0 := blk_frozen BK132.out 0; have hfz5_1 := blk_frozen BK132.out 1) | ((with_reducible refine gate_dst (N := 9) rfl ?_); refine Kd.R_make Kd.bool _ 4 rfl (N := 9) rfl 105 _ _ rfl a0_0 rfl rfl Try.underlying105 (.bool false) 1 info4 rfl Z4_18 (by omega) false (ok := fun _ => True) (okp := fun _ => True) rfl (fun _ hk => hk) trivial (of_decide_eq_true Z4_7) (Nat.le_trans (Nat.mul_le_mul_right _ (of_decide_eq_true Z4_7 : a0_0.toNat ≤ 281474976710656)) (by omega)) (Below.refl _ _) (Nat.le_refl _) ?_; intro v134 w6 ho7 hb hg_ hnew_; clear hg_ hnew_; (first | rw [← Ny133.out] at ho7 | (simp only [Int.reduceToNat] at ho7; rw [← Ny133.out] at ho7)); have n0_ := Aside0.mk (Kd.R_lower ho7 (below_size Z4_3)); have n1_ := Aside0.mk (blk_below (g := gb132) (o := .cells #[.int .i64 a0_0, .slice A0_1 l0_1.length c0_1] 50 (0, 0)) Z4_4 hb); have n2_ := Aside0.mk (below_step Z4_3 hb); clear BK132; clear HB; have HO135 := n0_; have BK132 := n1_; have HB := n2_; clear n0_ n1_ n2_; clear hb ho7; have hcz8_0 : w6.cell? ⟨gb132, 0, none⟩ = some (.int .i64 a0_0) := (blk_cell BK132.out 0).trans rfl; have hcz8_1 : w6.cell? ⟨gb132, 1, none⟩ = some (.slice A0_1 l0_1.length c0_1) := (blk_cell BK132.out 1).trans rfl; have hfz8_0 := blk_frozen BK132.out 0; have hfz8_1 := blk_frozen BK132.out 1))
   go_loopg [13] k (fun kq v13 w' => ∃ (x3_1 : List Bool) (x13_1 : Int), v13 = .int .i64 x13_1 ∧ Aside0 (impl_freeMap.l0 kq x3_1 l0_1 (l0_1.length : Int) x13_1 = some r) ∧ Aside0 (kq ≤ k) ∧ Aside0 (Kd.R Kd.bool 4 w' w.heap.size (fun _ => True) v134 x3_1) ∧ Aside0 (w'.heap[gb132]? = some (.cells #[.int .i64 a0_0, (.slice A0_1 l0_1.length c0_1)] 50 (0, 0))) ∧ Aside0 (Below w.heap.size w w'))
   case atStart => exact ⟨(y133), (0), Z4_5, H', ⟨Nat.le_refl _⟩, ⟨by (with_reducible repeat (first | apply Kd.R_alloc | apply Kd.R_drewN | apply Kd.R_drew)); exact HO135.out⟩, ⟨Z4_4⟩, ⟨Z4_3⟩⟩
   clear H'
   try clear c2
   try clear c2b0
   try clear c2b1
   try clear p2
   try clear c3
   try clear c3b0
   try clear c3b1
   try clear c8
   try clear hcz5_0
   try clear hcz5_1
   try clear hcz8_0
   try clear hcz8_1
   try clear hfz5_0
   try clear hfz5_1
   try clear hfz8_0
   try clear hfz8_1
   obtain ⟨x3_1, x13_1, rfl, HA, HK1, HO_3, BK132, HB⟩ := hrel
   cases gk with
   | zero => exact absurd HA.out (by simp [impl_freeMap.l0])
   | succ k1 =>
    have H := HA.out
    clear HA
    simp only [impl_freeMap.l0] at H
    by_cases c9 : x13_1 < (l0_1.length : Int)
    ·rw [if_pos c9] at H
     have c9b0 : decide (x13_1 < (l0_1.length : Int)) = true := decide_eq_true c9
     clear c9
     by_cases c10 : 0 ≤ x13_1
     ·rw [if_pos c10] at H
      have c10b0 : decide (0 ≤ x13_1) = true := decide_eq_true c10
      clear c10
      by_cases c11 : x13_1 < (l0_1.length : Int)
      ·rw [if_pos c11] at H
       have c11b0 : decide (x13_1 < (l0_1.length : Int)) = true := decide_eq_true c11
       clear c11
       by_cases c12 : 0 ≤ ((rd_T73 l0_1 x13_1).f1)
       ·rw [if_pos c12] at H
        have c12b0 := eq_true c12
        have c12b1 : decide (0 ≤ ((rd_T73 l0_1 x13_1).f1)) = true := decide_eq_true c12
        clear c12
        obtain ⟨ji13, hji13⟩ : ∃ j_ : Int, (shl .i64 1 ((rd_T73 l0_1 x13_1).f1)) = j_ := ⟨_, rfl⟩
        replace H : (impl_freeMap.l1 k1 x3_1 l0_1 (l0_1.length : Int) x13_1 ji13 0 ((rd_T73 l0_1 x13_1).f0) ((rd_T73 l0_1 x13_1).f1)) = some r := by first | (rw [hji13] at H; exact H) | (simp only [hji13] at H ⊢; exact H)
        have hji13_ : (IntKind.i64.wrap (1 * 2 ^ min ((rd_T73 l0_1 x13_1).f1).toNat 64)) = ji13 := hji13
        have hji13z : ((rd_T73 l0_1 x13_1).f1) ≤ 64 → (IntKind.i64.wrap (1 * 2 ^ ((rd_T73 l0_1 x13_1).f1).toNat)) = ji13 := shl_small hji13
        have hji13u : (IntKind.i64.wrap (2 ^ min ((rd_T73 l0_1 x13_1).f1).toNat 64)) = ji13 := by have h_ := hji13_; rw [Int.one_mul] at h_; exact h_
        have hji13v : ((rd_T73 l0_1 x13_1).f1) ≤ 64 → (IntKind.i64.wrap (2 ^ ((rd_T73 l0_1 x13_1).f1).toNat)) = ji13 := fun hle_ => by have h_ := hji13z hle_; rw [Int.one_mul] at h_; exact h_
        have hji13y : (wrap64 (1 * 2 ^ min ((rd_T73 l0_1 x13_1).f1).toNat 64)) = ji13 := (i64_w _).symm.trans hji13_
        have hji13x : ((rd_T73 l0_1 x13_1).f1) ≤ 64 → (wrap64 (1 * 2 ^ ((rd_T73 l0_1 x13_1).f1).toNat)) = ji13 := fun h_ => (i64_w _).symm.trans (hji13z h_)
        have H' := Aside0.mk H
        clear H
        have p136 : 0 ≤ (x13_1 : Int) := of_decide_eq_true Z4_7
        have q136 : x13_1 < (l0_1.length : Int) := of_decide_eq_true Z4_7
        obtain ⟨ad136, e136, hx136_0, hx136_1⟩ := at_T73 HR0_1.out x13_1 p136 q136
        cases e136
        replace hx136_0 := (HB.out.cell (World.block_lt_of_cell? w _ hx136_0)).trans hx136_0
        replace hx136_1 := (HB.out.cell (World.block_lt_of_cell? w _ hx136_1)).trans hx136_1
        replace p136 := eq_true p136
        replace q136 := eq_true q136
        go_wp2_with (first | ((with_reducible refine gate_dst (N := 5) rfl ?_); refine box_event ?hg (N := 5) ?hd (cs := #[.int .i64 0, .int .i64 0]) (t := 73) ?hr ?_; (case hd => rfl); (case hg => rfl); (case hr => exact Z4_11); intro gb137 hg w14 hbox hb; have n0_ := Aside0.mk (Kd.R_below Z4_8 hb); have n1_ := Aside0.mk (blk_below (g := gb132) (o := .cells #[.int .i64 a0_0, .slice (some ad136) l0_1.length c0_1] 50 (0, 0)) Z4_4 hb); have n2_ := Aside0.mk (below_step Z4_3 hb); have n3_ := Aside0.mk (hbox); have n4_ := Aside0.mk ((by rw [hg]; exact (below_size Z4_3) : w.heap.size ≤ gb137)); have n5_ := Aside0.mk ((by rw [hg]; exact (below_size Z4_3) : w.heap.size ≤ gb137)); have n6_ := Aside0.mk ((by rw [hg]; exact Nat.ne_of_lt (blk_lt (g := gb132) (o := .cells #[.int .i64 a0_0, .slice (some ad136) l0_1.length c0_1] 50 (0, 0)) Z4_4) : gb132 ≠ gb137)); have n7_ := Aside0.mk ((by rw [hg]; exact Nat.ne_of_gt (blk_lt (g := gb132) (o := .cells #[.int .i64 a0_0, .slice (some ad136) l0_1.length c0_1] 50 (0, 0)) Z4_4) : gb137 ≠ gb132)); clear HO_3; clear BK132; clear HB; have HO_3 := n0_; have BK132 := n1_; have HB := n2_; have BK137 := n3_; have GW137 := n4_; have GE137 := n5_; have NB132_137 := n6_; have NB137_132 := n7_; clear n0_ n1_ n2_ n3_ n4_ n5_ n6_ n7_; clear hb hbox hg; have hnb15 := NB137_132.out; have hnc15 := NB132_137.out; have hcz16_0 : w14.cell? ⟨gb137, 0, none⟩ = some (.int .i64 0) := (blk_cell BK137.out 0).trans rfl; have hcz16_1 : w14.cell? ⟨gb137, 1, none⟩ = some (.int .i64 0) := (blk_cell BK137.out 1).trans rfl; have hfz16_0 := blk_frozen BK137.out 0; have hfz16_1 := blk_frozen BK137.out 1))
        go_loopg [20] k1 (fun kq v20 w' => ∃ (x3_2 : List Bool) (x20_2 : Int), v20 = .int .i64 x20_2 ∧ Aside0 (impl_freeMap.l1 kq x3_2 l0_1 (l0_1.length : Int) x13_1 ji13 x20_2 ((rd_T73 l0_1 x13_1).f0) ((rd_T73 l0_1 x13_1).f1) = some r) ∧ Aside0 (kq ≤ k1) ∧ Aside0 (Kd.R Kd.bool 4 w' w.heap.size (fun _ => True) v134 x3_2) ∧ Aside0 (w'.heap[gb132]? = some (.cells #[.int .i64 a0_0, (.slice (some ad136) l0_1.length c0_1)] 50 (0, 0))) ∧ Aside0 (w'.heap[gb137]? = some (.cells #[.int .i64 ((rd_T73 l0_1 x13_1).f0), .int .i64 ((rd_T73 l0_1 x13_1).f1)] 73 (0, 0))) ∧ Aside0 (Below w.heap.size w w'))
        case atStart => exact ⟨(x3_1), (0), Z4_5, H', ⟨Nat.le_refl _⟩, ⟨by (with_reducible repeat (first | apply Kd.R_alloc | apply Kd.R_drewN | apply Kd.R_drew)); exact Kd.R_mono (Kd.R_far (p := ⟨gb137, 1, none⟩) (Kd.R_far (p := ⟨gb137, 0, none⟩) (Kd.R_types HO_3.out BK137.out Z4_18) (fun _ hk => hk.2) (.int .i64 ((rd_T73 l0_1 x13_1).f0))) (fun _ hk => hk.2) (.int .i64 ((rd_T73 l0_1 x13_1).f1))) (fun _ hk => trivial)⟩, ⟨by (with_reducible repeat (first | apply blk_drewN | apply blk_drew | apply blk_alloc)); refine blk_far ?_ NB132_137.out _; (with_reducible repeat (first | apply blk_drewN | apply blk_drew | apply blk_alloc)); refine blk_far ?_ NB132_137.out _; (with_reducible repeat (first | apply blk_drewN | apply blk_drew | apply blk_alloc)); exact BK132.out⟩, ⟨by (with_reducible repeat (first | apply blk_drewN | apply blk_drew | apply blk_alloc)); refine blk_put (cs := #[.int .i64 ((rd_T73 l0_1 x13_1).f0), .int .i64 0]) ?_ 1 _ rfl; (with_reducible repeat (first | apply blk_drewN | apply blk_drew | apply blk_alloc)); refine blk_put (cs := #[.int .i64 0, .int .i64 0]) ?_ 0 _ rfl; (with_reducible repeat (first | apply blk_drewN | apply blk_drew | apply blk_alloc)); exact BK137.out⟩, ⟨Z4_9⟩⟩
        clear H'
        try clear c1
        try clear p1
        try clear q1
        try clear hx1
        try clear c2
        try clear c2b0
        try clear c2b1
        try clear p2
        try clear c3
        try clear c3b0
        try clear c3b1
        try clear p6
        try clear c8
        try clear c9
        try clear c9b0
        try clear c10
        try clear c10b0
        try clear c11
        try clear c11b0
        try clear c12
        try clear c12b0
        try clear c12b1
        try clear p13
        try clear q13
        try clear hx13
        try clear c15
        try clear hcz16_0
        try clear hcz16_1
        try clear hcz5_0
        try clear hcz5_1
        try clear hcz8_0
        try clear hcz8_1
        try clear hfz16_0
        try clear hfz16_1
        try clear hfz5_0
        try clear hfz5_1
        try clear hfz8_0
        try clear hfz8_1
        try clear hx136_0
        try clear hx136_1
        try clear p136
        try clear p2
        try clear q136
        obtain ⟨x3_2, x20_2, rfl, HA, HK2, HO_3, BK132, BK137, HB⟩ := hrel
        cases gk with
        | zero => exact absurd HA.out (by simp [impl_freeMap.l1])
        | succ k2 =>
         have H := HA.out
         clear HA
         simp only [impl_freeMap.l1] at H
         by_cases c17 : x20_2 < ji13
         ·rw [if_pos c17] at H
          have c17b0 : decide (x20_2 < ji13) = true := decide_eq_true c17
          clear c17
          obtain ⟨ji18, hji18⟩ : ∃ j_ : Int, (wrap64 (((rd_T73 l0_1 x13_1).f0) + x20_2)) = j_ := ⟨_, rfl⟩
          replace H : (if 0 ≤ (ji18) then (if (ji18) < (x3_2.length : Int) then (impl_freeMap.l1 k2 (x3_2.set ((ji18) : Int).toNat true) l0_1 (l0_1.length : Int) x13_1 ji13 (wrap64 (x20_2 + 1)) ((rd_T73 l0_1 x13_1).f0) ((rd_T73 l0_1 x13_1).f1)) else (none)) else (none)) = some r := by first | (rw [hji18] at H; exact H) | (simp only [hji18] at H ⊢; exact H)
          have hji18w : (IntKind.i64.wrap (((rd_T73 l0_1 x13_1).f0) + x20_2)) = ji18 := (i64_w _).trans hji18
          by_cases c19 : 0 ≤ (ji18)
          ·rw [if_pos c19] at H
           have c19b0 : decide (0 ≤ (ji18)) = true := decide_eq_true c19
           clear c19
           by_cases c20 : (ji18) < (x3_2.length : Int)
           ·rw [if_pos c20] at H
            have c20b0 : decide ((ji18) < (x3_2.length : Int)) = true := decide_eq_true c20
            clear c20
            obtain ⟨y138, hy138⟩ : ∃ y_ : List Bool, y_ = (x3_2.set ((ji18) : Int).toNat true) := ⟨_, rfl⟩
            replace H : (impl_freeMap.l1 k2 y138 l0_1 (l0_1.length : Int) x13_1 ji13 (wrap64 (x20_2 + 1)) ((rd_T73 l0_1 x13_1).f0) ((rd_T73 l0_1 x13_1).f1)) = some r := by first | (rw [hy138]; with_reducible exact H) | (have H2_ := (Option.bind_some _ _).symm.trans H; rw [hy138]; with_reducible exact H2_) | (have H2_ := (Option.bind_some _ _).symm.trans H; with_reducible exact H2_) | with_reducible exact H | (rw [hy138]; exact H) | exact H
            have Ny138 := Aside0.mk hy138
            clear hy138
            have H' := Aside0.mk H
            clear H
            have hnb22 := NB137_132.out
            have hnc22 := NB132_137.out
            have hcz23_0 : wr.cell? ⟨gb137, 0, none⟩ = some (.int .i64 ((rd_T73 l0_1 x13_1).f0)) := (blk_cell BK137.out 0).trans rfl
            have hcz23_1 : wr.cell? ⟨gb137, 1, none⟩ = some (.int .i64 ((rd_T73 l0_1 x13_1).f1)) := (blk_cell BK137.out 1).trans rfl
            have hfz23_0 := blk_frozen BK137.out 0
            have hfz23_1 := blk_frozen BK137.out 1
            have p21 : 0 ≤ ((ji18) : Int) := of_decide_eq_true Z4_7
            have q21 : ((ji18) : Int) < ((x3_2.length : Int) : Int) := of_decide_eq_true Z4_7
            obtain ⟨go21, co21, eo21, gb21, gl21, cl21, HG21⟩ := Kd.R_form HO_3.out (by omega)
            (first | cases eo21 | (injection eo21 with ea_ en_ ec_; (first | subst ea_ | (injection ea_ with ea_; subst ea_)); subst ec_; clear en_))
            have GB21 := Aside0.mk gb21
            have GG21 := Aside0.mk HG21
            clear gb21 gl21 HG21
            obtain ⟨hx21_0, hf21_0⟩ := Kd.R_celln false HO_3.out ((ji18) : Int) p21 q21
            replace p21 := eq_true p21
            replace q21 := eq_true q21
            have HP24 := Kd.R_putg HO_3.out ((ji18) : Int) true
            go_wp2_with (first | ((with_reducible refine gate_store (t := 4) (p := 28) rfl ?_); refine store_event (t := 4) (p := 28) (v := ?vo_w25) (w1 := (wr.setCell ⟨go21, ((ji18) : Int).toNat, none⟩ (.bool true))) ?hg ?ho ?hn ?hr ?_; (case ho => rfl); (case hg => rfl); (case hn => rfl); (case hr => exact Z4_11); intro w25 hw; have hg : wr.grownBy w25 (some go21) := (by rw [hw]; exact HP24.2); have hp_ : Kd.R Kd.bool 4 w25 w.heap.size (fun _ => True) (.slice (some ⟨go21, 0, none⟩) x3_2.length co21) y138 := (by rw [hw, Ny138.out]; exact HP24.1); clear HP24; have n0_ := Aside0.mk (hp_); have n1_ := Aside0.mk (blk_grown (g := gb132) (o := .cells #[.int .i64 a0_0, .slice (some ad136) l0_1.length c0_1] 50 (0, 0)) Z4_4 hg (Kd.R_ne HO_3.out BK132.out Z4_18)); have n2_ := Aside0.mk (blk_grown (g := gb137) (o := .cells #[.int .i64 ((rd_T73 l0_1 x13_1).f0), .int .i64 ((rd_T73 l0_1 x13_1).f1)] 73 (0, 0)) (by (with_reducible repeat (first | apply blk_drewN | apply blk_drew | apply blk_alloc)); exact BK137.out) hg (Kd.R_ne HO_3.out BK137.out Z4_18)); have n3_ := Aside0.mk ((by rw [hw]; exact below_set (HB.out) GB21.out : Below w.heap.size w w25)); clear HO_3; clear BK132; clear BK137; clear HB; have HO_3 := n0_; have BK132 := n1_; have BK137 := n2_; have HB := n3_; clear n0_ n1_ n2_ n3_; clear hg hw hp_))
            go_roundg k2
            case measure => have := HK1.out; have := HK2.out; omega
            case rel => exact ⟨(y138), (wrap64 (x20_2 + 1)), Z4_5, H', ⟨by have := HK1.out; have := HK2.out; omega⟩, ⟨Z4_8⟩, ⟨Z4_4⟩, ⟨by (with_reducible repeat (first | apply blk_drewN | apply blk_drew | apply blk_alloc)); exact BK137.out⟩, ⟨Z4_9⟩⟩
           rw [if_neg c20] at H
           exact absurd H (by simp)
          rw [if_neg c19] at H
          exact absurd H (by simp)
         rw [if_neg c17] at H
         have c17b0 : decide (x20_2 < ji13) = false := decide_eq_false c17
         clear c17
         have H' := Aside0.mk H
         clear H
         go_wp2
         go_roundg k2
         case measure => have := HK1.out; have := HK2.out; omega
         case rel => exact ⟨(x3_2), (wrap64 (x13_1 + 1)), Z4_5, H', ⟨by have := HK1.out; have := HK2.out; omega⟩, ⟨Z4_8⟩, ⟨Z4_4⟩, ⟨Z4_9⟩⟩
       rw [if_neg c12] at H
       exact absurd H (by simp)
      rw [if_neg c11] at H
      exact absurd H (by simp)
     rw [if_neg c10] at H
     exact absurd H (by simp)
    rw [if_neg c9] at H
    have c9b0 : decide (x13_1 < (l0_1.length : Int)) = false := decide_eq_false c9
    clear c9
    obtain rfl := Option.some.inj H
    go_wp2
    go_ret
    exact ⟨_, Z4_14, Z4_8, Z4_3⟩
  rw [if_neg c3] at H
  exact absurd H (by simp)
 rw [if_neg c2] at H
 exact absurd H (by simp)
/-! ### impl_copyFrames: function 85 -/
def impl_copyFrames.f (a0_0 : Int) (l0_1 : List (S73)) : Option (Int × (List (S73))) := if ([] : List (S73)).length + l0_1.length < 8796093022208 then (some (a0_0, (([] : List (S73)) ++ l0_1))) else (none)
set_option maxHeartbeats 8000000 in
set_option maxRecDepth 100000 in
theorem impl_copyFrames.calls (a0_0 : Int) (A0_1 : Option Addr) (c0_1 : Nat) (l0_1 : List (S73)) (r1 : Int) (r2 : List (S73)) (w : World) (hr0_1 : Kd.C k73 w A0_1 l0_1.length l0_1) (hc0_1 : l0_1.length ≤ c0_1) (h : impl_copyFrames.f a0_0 l0_1 = some (r1, r2)) :
  Calls Try.prog 85 #[.agg #[.int .i64 a0_0, .slice A0_1 l0_1.length c0_1]] w fun e w' => ∃ v1_ : Value, e = .returned (.agg #[.int .i64 r1, v1_]) ∧ Kd.R k73 73 w' w.heap.size (fun _ => True) v1_ r2 ∧ Below w.heap.size w w' := by
 have hu50 := Try.underlying50
 have HR0_1 := Aside0.mk hr0_1
 have HC0_1 := Aside0.mk hc0_1
 clear hr0_1 hc0_1
 have HB := Aside0.mk (Below.refl w.heap.size w)
 have H : (if ([] : List (S73)).length + l0_1.length < 8796093022208 then (some (a0_0, (([] : List (S73)) ++ l0_1))) else (none)) = some (r1, r2) := h
 clear h
 by_cases c2 : ([] : List (S73)).length + l0_1.length < 8796093022208
 ·rw [if_pos c2] at H
  have LMc2 := Aside0.mk c2
  clear c2
  obtain ⟨y141, hy141⟩ : ∃ y_ : List (S73), y_ = (([] : List (S73)) ++ l0_1) := ⟨_, rfl⟩
  replace H : (some (a0_0, y141)) = some (r1, r2) := by first | (rw [hy141]; with_reducible exact H) | (have H2_ := (Option.bind_some _ _).symm.trans H; rw [hy141]; with_reducible exact H2_) | (have H2_ := (Option.bind_some _ _).symm.trans H; with_reducible exact H2_) | with_reducible exact H | (rw [hy141]; exact H) | exact H
  have Ny141 := Aside0.mk hy141
  clear hy141
  simp only [Option.some.injEq, Prod.mk.injEq] at H
  obtain ⟨rfl, rfl⟩ := H
  go_enter Try.func85, Try.ntmps85
  go_wp2_with (first | ((with_reducible refine gate_dst (N := 1) rfl ?_); refine box_event ?hg (N := 1) ?hd (cs := #[.int .i64 a0_0, .slice A0_1 l0_1.length c0_1]) (t := 50) ?hr ?_; (case hd => rfl); (case hg => rfl); (case hr => exact Z4_11); intro gb139 hg w3 hbox hb; have n0_ := Aside0.mk (below_step Z4_2 hb); have n1_ := Aside0.mk (hbox); have n2_ := Aside0.mk ((Z4_17 : w.heap.size ≤ gb139)); have n3_ := Aside0.mk ((Z4_17 : w.heap.size ≤ gb139)); clear HB; have HB := n0_; have BK139 := n1_; have GW139 := n2_; have GE139 := n3_; clear n0_ n1_ n2_ n3_; clear hb hbox hg) | ((with_reducible refine gate_dst (N := 2) rfl ?_); refine box_event ?hg (N := 2) ?hd (cs := #[.int .i64 0, .slice none 0 0]) (t := 50) ?hr ?_; (case hd => rfl); (case hg => rfl); (case hr => exact Z4_11); intro gb140 hg w4 hbox hb; have n0_ := Aside0.mk (blk_below (g := gb139) (o := .cells #[.int .i64 a0_0, .slice A0_1 l0_1.length c0_1] 50 (0, 0)) Z4_13 hb); have n1_ := Aside0.mk (below_step Z4_12 hb); have n2_ := Aside0.mk (hbox); have n3_ := Aside0.mk ((by rw [hg]; exact (below_size Z4_12) : w.heap.size ≤ gb140)); have n4_ := Aside0.mk ((by rw [hg]; exact (below_size Z4_12) : w.heap.size ≤ gb140)); have n5_ := Aside0.mk ((by rw [hg]; exact Nat.ne_of_lt (blk_lt (g := gb139) (o := .cells #[.int .i64 a0_0, .slice A0_1 l0_1.length c0_1] 50 (0, 0)) Z4_13) : gb139 ≠ gb140)); have n6_ := Aside0.mk ((by rw [hg]; exact Nat.ne_of_gt (blk_lt (g := gb139) (o := .cells #[.int .i64 a0_0, .slice A0_1 l0_1.length c0_1] 50 (0, 0)) Z4_13) : gb140 ≠ gb139)); clear BK139; clear HB; have BK139 := n0_; have HB := n1_; have BK140 := n2_; have GW140 := n3_; have GE140 := n4_; have NB139_140 := n5_; have NB140_139 := n6_; clear n0_ n1_ n2_ n3_ n4_ n5_ n6_; clear hb hbox hg; have hnb5 := NB139_140.out; have hnc5 := NB140_139.out; have hcz6_0 : w4.cell? ⟨gb139, 0, none⟩ = some (.int .i64 a0_0) := (blk_cell BK139.out 0).trans rfl; have hcz6_1 : w4.cell? ⟨gb139, 1, none⟩ = some (.slice A0_1 l0_1.length c0_1) := (blk_cell BK139.out 1).trans rfl; have hfz6_0 := blk_frozen BK139.out 0; have hfz6_1 := blk_frozen BK139.out 1) | ((with_reducible refine gate_builtin (b := .append) (xs := #[.const (.slice none 0 0), .tmp 4]) rfl ?_); at_builtin; refine Kd.R_append_rows k73 (w0 := w) w.heap.size rfl (.const (.slice none 0 0)) (.tmp 4) 48 73 (.agg #[(.int .i64 0), (.int .i64 0)]) 16 rfl Try.underlying48 info73 rfl Z4_18 (by omega) (.slice none 0 0) ([] : List (S73)) l0_1 _ _ _ (fun _ => True) (fun _ => False) rfl rfl ?aO ?aR (fun _ _ h => h) (fun _ h => h.elim) ?aF ?aB ?aS ?aL ?_; (case aR => repeat (first | exact (Kd.C_below HR0_1.out HB.out) | (with_reducible refine Kd.C_alloc ?_ _) | (with_reducible refine Kd.C_drewN ?_ _) | (with_reducible refine Kd.C_drew ?_))); (case aB => exact Z4_10); (case aF => exact (fun _ _ => trivial)); (case aO => exact ((Kd.R_nil _ _ _ _ (fun _ => True)))); (case aS => exact (below_size Z4_10)); (case aL => have := LMc2.out; omega); intro v142 w7 ho hb hg hat; rw [← Ny141.out] at ho; have n0_ := Aside0.mk (blk_grown (g := gb139) (o := .cells #[.int .i64 a0_0, .slice A0_1 l0_1.length c0_1] 50 (0, 0)) Z4_13 hg (by simp [Value.ownBlock])); have n1_ := Aside0.mk (blk_grown (g := gb140) (o := .cells #[.int .i64 0, .slice none 0 0] 50 (0, 0)) (by (with_reducible repeat (first | apply blk_drewN | apply blk_drew | apply blk_alloc)); exact BK140.out) hg (by simp [Value.ownBlock])); have n2_ := Aside0.mk (hb); have n3_ := Aside0.mk (ho); clear BK139; clear BK140; clear HB; have BK139 := n0_; have BK140 := n1_; have HB := n2_; have HO143 := n3_; clear n0_ n1_ n2_ n3_; clear ho hb hg hat; obtain ⟨Ao8, co8, eo8⟩ := Kd.R_slice HO143.out; subst eo8; have hcz9_0 : w7.cell? ⟨gb139, 0, none⟩ = some (.int .i64 a0_0) := (blk_cell BK139.out 0).trans rfl; have hcz9_1 : w7.cell? ⟨gb139, 1, none⟩ = some (.slice A0_1 l0_1.length c0_1) := (blk_cell BK139.out 1).trans rfl; have hfz9_0 := blk_frozen BK139.out 0; have hfz9_1 := blk_frozen BK139.out 1; have hcz10_0 : w7.cell? ⟨gb140, 0, none⟩ = some (.int .i64 0) := (blk_cell BK140.out 0).trans rfl; have hcz10_1 : w7.cell? ⟨gb140, 1, none⟩ = some (.slice none 0 0) := (blk_cell BK140.out 1).trans rfl; have hfz10_0 := blk_frozen BK140.out 0; have hfz10_1 := blk_frozen BK140.out 1))
  refine bodyPost_ret (results_cell_row rfl _ _ gb140 50 #[.int .i64 a0_0, .slice Ao8 y141.length co8] (0, 0) _ rfl (by (with_reducible repeat (first | apply blk_drewN | apply blk_drew | apply blk_alloc)); refine blk_put (cs := #[.int .i64 a0_0, .slice none 0 0]) ?_ 1 _ rfl; (with_reducible repeat (first | apply blk_drewN | apply blk_drew | apply blk_alloc)); refine blk_put (cs := #[.int .i64 0, .slice none 0 0]) ?_ 0 _ rfl; (with_reducible repeat (first | apply blk_drewN | apply blk_drew | apply blk_alloc)); refine blk_far ?_ NB140_139.out _; (with_reducible repeat (first | apply blk_drewN | apply blk_drew | apply blk_alloc)); exact BK140.out) Try.underlying50 rfl (by kernel_rfl)) rfl ?_
  exact ⟨_, Z4_14, by (with_reducible repeat (first | apply Kd.R_alloc | apply Kd.R_drewN | apply Kd.R_drew)); exact Kd.R_mono (Kd.R_far (p := ⟨gb140, 1, none⟩) (Kd.R_far (p := ⟨gb140, 0, none⟩) (Kd.R_far (p := ⟨gb139, 1, none⟩) (Kd.R_types (Kd.R_types HO143.out BK139.out Z4_18) BK140.out Z4_18) (fun _ hk => hk.1.2) (.slice Ao8 y141.length co8)) (fun _ hk => hk.2) (.int .i64 a0_0)) (fun _ hk => hk.2) (.slice Ao8 y141.length co8)) (fun _ hk => trivial), Z4_10⟩
 rw [if_neg c2] at H
 exact absurd H (by simp)
end Go.Proofs.Ytmjdmaomakkhgaa.PFnFramesKept
